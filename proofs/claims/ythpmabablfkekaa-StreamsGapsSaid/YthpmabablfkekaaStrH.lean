/- StreamsGaps: a byte that lies in no stream and not in the head is nobody's: turned, the image is parted alike. No condition. -/
import Derived.Test.YthpmabablfkekaaStrG
import Derived.Test.YthpmabablfkekaaRows
set_option linter.unusedSimpArgs false
set_option linter.unusedVariables false
set_option maxRecDepth 100000
set_option maxHeartbeats 3200000
namespace Go.Proofs.Ythpmabablfkekaa
open Go Go.AW Go.ChangeShapes Go.WideShapes Go.ChangeAt Go.RowKit

theorem own : ownKnob Try.prog.godebug = none := by kernel_rfl
theorem laidOut : laidOutB Try.prog = true := by kernel_rfl

theorem arg_str {k : Nat} {cs : List AV} (h : ArgC Try.prog (k + 3) 25 cs) :
    ∃ a0 a1 a2 a3 : List UInt8 × Bool, pkV Try.prog 25 cs = stO a0 a1 a2 a3 .unk .unk .unk .unk := by
  have hlen : cs.length = 4 := by
    simp only [ArgC, Try.underlying25] at h
    exact h.1
  match cs, hlen with
  | [x, y, z, w], _ =>
    rw [ArgC] at h
    simp only [Try.underlying25] at h
    have h1 := h.2
    simp at h1
    obtain ⟨h1, h2, h3, h4⟩ := h1
    obtain ⟨l1, n1, e1, _, _⟩ := arg_bytes Try.underlying22 Try.underlying5 h1
    obtain ⟨l2, n2, e2, _, _⟩ := arg_bytes Try.underlying22 Try.underlying5 h2
    obtain ⟨l3, n3, e3, _, _⟩ := arg_bytes Try.underlying22 Try.underlying5 h3
    obtain ⟨l4, n4, e4, _, _⟩ := arg_bytes Try.underlying22 Try.underlying5 h4
    simp [pkV, AW.isAgg, Try.underlying22] at e1 e2 e3 e4
    exact ⟨(l1, n1), (l2, n2), (l3, n3), (l4, n4), by simp [pkV, AW.isAgg, stO, sO, Try.underlying25, e1, e2, e3, e4]⟩

theorem streamsGaps_reads (os : Os) {H : Type} (enc : TypeId × Value → H) : ∃ places, DataW.whole enc Try.prog ((World.holding Try.prog os ⟨#[], #[Value.agg #[.slice none 0 0, .slice none 0 0, .slice none 0 0, .slice none 0 0], Value.int .u16 0, Value.int .u8 0], []⟩).forCall (fun _ _ => 0) ⟨#[], #[Value.agg #[.slice none 0 0, .slice none 0 0, .slice none 0 0, .slice none 0 0], Value.int .u16 0, Value.int .u8 0], []⟩).memory Try.f8.params.toList Rows.streamsGapsSpec.vars false #[Value.agg #[.slice none 0 0, .slice none 0 0, .slice none 0 0, .slice none 0 0], Value.int .u16 0, Value.int .u8 0].toList 8 = some ([.agg [.nil, .nil, .nil, .nil], .lit (.int .u16 0), .lit (.int .u8 0)], [], places) :=
  ⟨[], by kernel_rfl⟩

theorem streamsGaps_contract (H : Type) (enc : TypeId × Value → H) (W : World) (base : Nat) (args : Array Value) (ds gs : List (DataW H)) (before : List MemPlace)
    (hval : ∀ (j : Nat) t v, Try.f8.params[j]? = some t → args[j]? = some v → Value.okWide Try.prog W .any base t v)
    (hW : DataW.Whole enc Try.prog Try.f8.params.toList Rows.streamsGapsSpec.vars false W args.toList ds gs before)
    (hwt : (DataW.weightsEach Try.prog (Try.f8.params.toList ++ Rows.streamsGapsSpec.plain.varTypes Try.prog) (ds ++ gs)).all (· ≤ reachBytes) = true) :
    Calls Try.prog 8 args W fun e W' => ∃ v, e = .returned v ∧ Rows.streamsGapsSpec.post enc Try.prog Try.f8 false true false false W args v W' := by
  refine law_contract (P := Try.prog) (fn := Try.f8) (k := 4) (ts := [25, 41, 5]) (tb := 4) (s := Rows.streamsGapsSpec) laidOut (by kernel_rfl) (by kernel_rfl) (by kernel_rfl) rfl Try.underlying4 rfl (fun ds h => ?_) (fun vs h => ?_) hval hW hwt
  · match ds, h with
    | [d1, d2, d3], _ => rfl
  · obtain ⟨c1, r, rfl, h1, h⟩ := h.inv
    obtain ⟨c2, r, rfl, h2, h⟩ := h.inv
    obtain ⟨c3, r, rfl, h3, h⟩ := h.inv
    obtain rfl := h.inv0
    obtain ⟨a0, a1, a2, a3, e1⟩ := arg_str h1
    obtain ⟨n, e2, w⟩ := arg_int Try.underlying41 h2
    obtain ⟨c, e3, w3⟩ := arg_int Try.underlying5 h3
    simp only [Lit.wf, IntKind.min, IntKind.max, IntKind.signed, IntKind.bits, Bool.and_eq_true, decide_eq_true_eq] at w w3
    simp at w w3
    obtain ⟨m, rfl⟩ : ∃ m : Nat, n = m := ⟨n.toNat, by omega⟩
    obtain ⟨d, rfl⟩ : ∃ d : UInt8, c = (d.toNat : Int) := ⟨UInt8.ofNat c.toNat, by simp; omega⟩
    rw [e1, e2, e3]
    exact streamsGaps_ok a0 a1 a2 a3 m (by omega) d

theorem streamsGaps_lifted (os : Os) (started : os.Started) (H : Type) (enc : TypeId × Value → H) (F : Stop.Interp) :
    ReturnsInHanded {} Try.checked os 8 .any ((OpenSpec.ofChange Rows.streamsGapsSpec).preRow enc Try.prog Try.f8 Rows.streamsGapsRow.domain false Rows.streamsGapsRow.laid)
      (((OpenSpec.ofChange Rows.streamsGapsSpec).at F).post enc Try.prog Try.f8 false true false false) := by
  obtain ⟨places, hx⟩ := streamsGaps_reads os enc
  refine returnsInHanded_of_row (C := Try.checked) (s := OpenSpec.ofChange Rows.streamsGapsSpec) own started (by kernel_rfl) Try.func8
    (witness_row_at (enc := enc) (C := Try.checked) false (World.holding Try.prog os ⟨#[], #[Value.agg #[.slice none 0 0, .slice none 0 0, .slice none 0 0, .slice none 0 0], Value.int .u16 0, Value.int .u8 0], []⟩) #[Value.agg #[.slice none 0 0, .slice none 0 0, .slice none 0 0, .slice none 0 0], Value.int .u16 0, Value.int .u8 0] rfl (by kernel_rfl) (by kernel_rfl) (by kernel_rfl)
      (OpenSpec.preRow_of_cond 8 hx (by kernel_rfl) (fun k hk => by cases hk) (by kernel_rfl) (show laidMetH Try.prog [] _ from ⟨[], rfl, List.nodup_nil, fun _ _ h => by cases h⟩))) ?_
  intro W base args ds gs before hval hW _ _ hwt _ _ _
  exact streamsGaps_contract H enc W base args ds gs before hval hW hwt

theorem streamsGaps_holds : Rows.StreamsGapsSaid :=
  OpenClaim.holds_of_cond 8 Try.f8 rfl rfl rfl rfl rfl rfl rfl ⟨rfl, rfl, rfl, rfl, rfl⟩ rfl rfl rfl rfl rfl (by kernel_rfl) Try.func8 (by kernel_rfl)
    (of_decide_eq_true (by kernel_rfl)) (by unfold Func.isWrapper; first | (rw [if_pos (by decide +kernel)]; kernel_rfl) | (rw [if_neg (by decide +kernel)]; exact ⟨rfl, rfl⟩))
    (fun os started H enc _ F => by rw [OpenClaim.pre_eq_preRow]; exact streamsGaps_lifted os started H enc F)


end Go.Proofs.Ythpmabablfkekaa
