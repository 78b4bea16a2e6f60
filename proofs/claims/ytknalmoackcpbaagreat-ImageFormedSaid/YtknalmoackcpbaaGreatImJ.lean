/- Chapter 10, ImageFormed: what the row's form asks of the program, part by part. -/
import Derived.Test.YtknalmoackcpbaaGreatRows
import Derived.JoinedCond
import Derived.KernelRfl
set_option maxRecDepth 100000
namespace Go.Proofs.YtknalmoackcpbaaGreat
namespace Fm
open Go Go.ChangeShapes Go.WideShapes Go.ChangeAt
abbrev cX := Rows.imageFormedRow
abbrev sX : ChangeSpec := (OpenSpec.ofChange Rows.imageFormedSpec).bare
theorem bi {a b : Bool} (h : a = true) (h2 : b = true) : (a && b) = true := by rw [h, h2]; rfl
theorem jf0 : (cX.wf (OpenSpec.ofChange sX)) = true := by kernel_rfl
theorem jf1 : (laidOutB Tryz.prog) = true := by kernel_rfl
theorem jf2 : (mapsRowed Tryz.prog) = true := by kernel_rfl
theorem jf3 : (Tryz.f3.params.all (Tryz.prog.readableRec ·)) = true := by kernel_rfl
theorem jf4 : (namedTie Tryz.prog cX.named sX.vars) = true := by kernel_rfl
theorem jf5 : ((cX.stops == [])) = true := by kernel_rfl
theorem jf6 : ((Tryz.prog.stops == [])) = true := by kernel_rfl
theorem jf7 : ((cX.knobs == [])) = true := by kernel_rfl
theorem jf8 : ((Tryz.prog.stopKnobs == [])) = true := by kernel_rfl
theorem jf9 : ((cX.inPlace == Tryz.prog.inPlace 3)) = true := by kernel_rfl
theorem jf10 : ((cX.unfollowed == Tryz.prog.unfollowed 3)) = true := by kernel_rfl
theorem jf11 : ((cX.recurses == Tryz.prog.recurses 3)) = true := by kernel_rfl
theorem jf12 : ((cX.named == Tryz.prog.varsNamed 3)) = true := by kernel_rfl
theorem jf13 : ((cX.maps == (Tryz.f3.params.toList ++ sX.plain.varTypes Tryz.prog).any (Tryz.prog.mapsRec ·))) = true := by kernel_rfl
theorem jf14 : ((cX.ifaces == (Tryz.f3.params.toList ++ sX.plain.varTypes Tryz.prog).any (Tryz.prog.ifacesRec ·))) = true := by kernel_rfl
theorem jf15 : ((cX.mapsOut == Tryz.prog.mapsAmong Tryz.f3.resultTypes.toList)) = true := by kernel_rfl
theorem jf16 : ((cX.loops == (Tryz.f3.params.toList ++ sX.plain.varTypes Tryz.prog).any (Tryz.prog.loopsFrom ·))) = true := by kernel_rfl
theorem jf17 : ((cX.wideKeys == (Tryz.f3.params.toList ++ sX.plain.varTypes Tryz.prog ++ Tryz.f3.resultTypes.toList).any (Tryz.prog.wideKeysFrom ·))) = true := by kernel_rfl
theorem jf18 : (sX.vars.all (Tryz.prog.varReadable ·)) = true := by kernel_rfl
theorem jf19 : (Tryz.f3.resultTypes.all (fun t => Tryz.prog.readableRec t && decide (t < Tryz.prog.types.size))) = true := by kernel_rfl
theorem jf20 : ((cX.ifacesOut == Tryz.f3.resultTypes.toList.any (Tryz.prog.ifacesRec ·))) = true := by kernel_rfl
theorem jf21 : ((cX.loopsOut == Tryz.f3.resultTypes.toList.any (Tryz.prog.loopsFrom ·))) = true := by kernel_rfl
theorem jf22 : ((cX.plainKeys == Tryz.prog.plainKeys)) = true := by kernel_rfl
theorem jf23 : (cX.shortTexts.isNone) = true := by kernel_rfl
theorem jf24 : (Tryz.prog.stopsHeard) = true := by kernel_rfl
theorem jf25 : (Tryz.prog.mayEnter) = true := by kernel_rfl
theorem jf26 : ((cX.lifted == Tryz.prog.liftsFinal)) = true := by kernel_rfl
theorem jf27 : ((Tryz.prog.make == some cX.make)) = true := by kernel_rfl
theorem jf28 : ((cX.kinds == (if cX.domain.isEmpty then [] else Tryz.f3.params.toList.map fun t => match Tryz.prog.underlying t with | some (.int k) => some k | _ => none))) = true := by kernel_rfl
theorem jf29 : ((cX.pinned == cX.pinnedBy)) = true := by kernel_rfl
theorem jf30 : ((cX.veiled == (Tryz.f3.params.toList ++ sX.plain.varTypes Tryz.prog ++ Tryz.f3.resultTypes.toList).any (Tryz.prog.veiledRec ·))) = true := by kernel_rfl
theorem jf31 : (cX.veiledFits Tryz.prog Tryz.f3.params.toList (Tryz.f3.params.toList ++ sX.plain.varTypes Tryz.prog ++ Tryz.f3.resultTypes.toList)) = true := by kernel_rfl
theorem joined : joinedFacts Tryz.prog 3 Tryz.f3 sX cX = true := (bi (bi (bi (bi (bi (bi (bi (bi (bi (bi (bi (bi (bi (bi (bi (bi (bi (bi (bi (bi (bi (bi (bi (bi (bi (bi (bi (bi (bi (bi (bi jf0 jf1) jf2) jf3) jf4) jf5) jf6) jf7) jf8) jf9) jf10) jf11) jf12) jf13) jf14) jf15) jf16) jf17) jf18) jf19) jf20) jf21) jf22) jf23) jf24) jf25) jf26) jf27) jf28) jf29) jf30) jf31)
theorem named : Tryz.prog.funcNamed cX.func = some 3 := by kernel_rfl
end Fm
end Go.Proofs.YtknalmoackcpbaaGreat
