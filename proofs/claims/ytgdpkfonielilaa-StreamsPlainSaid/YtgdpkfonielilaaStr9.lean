/- StreamsSplits: any bytes are parted as the document says, or refused by its error at its place; they stay as they were. StreamsJoins: any streams are joined as the document says; they stay as they were. No condition. -/
import Derived.Test.YtgdpkfonielilaaStr8
import Derived.Test.YtgdpkfonielilaaRows
set_option linter.unusedSimpArgs false
set_option linter.unusedVariables false
set_option maxRecDepth 100000
set_option maxHeartbeats 3200000
namespace Go.Proofs.Ytgdpkfonielilaa
open Go Go.AW Go.ChangeShapes Go.WideShapes Go.ChangeAt Go.RowKit

theorem own : ownKnob Try.prog.godebug = none := by kernel_rfl
theorem laidOut : laidOutB Try.prog = true := by kernel_rfl

theorem arg_str {k : Nat} {cs : List AV} (h : ArgC Try.prog (k + 3) 25 cs) :
    ∃ a0 a1 a2 a3 : List UInt8 × Bool, pkV Try.prog 25 cs = stO a0 a1 a2 a3 .unk .unk .unk .unk := by
  have hlen : cs.length = 4 := by
    simp only [ArgC, Try.underlying25] at h
    exact h.1
  match cs, hlen with
  | [x, y, z, w], _ =>
    rw [ArgC] at h
    simp only [Try.underlying25] at h
    have h1 := h.2
    simp at h1
    obtain ⟨h1, h2, h3, h4⟩ := h1
    obtain ⟨l1, n1, e1, _, _⟩ := arg_bytes Try.underlying22 Try.underlying5 h1
    obtain ⟨l2, n2, e2, _, _⟩ := arg_bytes Try.underlying22 Try.underlying5 h2
    obtain ⟨l3, n3, e3, _, _⟩ := arg_bytes Try.underlying22 Try.underlying5 h3
    obtain ⟨l4, n4, e4, _, _⟩ := arg_bytes Try.underlying22 Try.underlying5 h4
    simp [pkV, AW.isAgg, Try.underlying22] at e1 e2 e3 e4
    exact ⟨(l1, n1), (l2, n2), (l3, n3), (l4, n4), by simp [pkV, AW.isAgg, stO, sO, Try.underlying25, e1, e2, e3, e4]⟩

theorem streamsSplits_reads (os : Os) {H : Type} (enc : TypeId × Value → H) : ∃ places, DataW.whole enc Try.prog ((World.holding Try.prog os ⟨#[], #[Value.slice none 0 0], []⟩).forCall (fun _ _ => 0) ⟨#[], #[Value.slice none 0 0], []⟩).memory Try.f3.params.toList Rows.streamsSplitsSpec.vars false #[Value.slice none 0 0].toList 8 = some ([.nil], [], places) :=
  ⟨[], by kernel_rfl⟩

theorem streamsSplits_contract (H : Type) (enc : TypeId × Value → H) (W : World) (base : Nat) (args : Array Value) (ds gs : List (DataW H)) (before : List MemPlace)
    (hval : ∀ (j : Nat) t v, Try.f3.params[j]? = some t → args[j]? = some v → Value.okWide Try.prog W .any base t v)
    (hW : DataW.Whole enc Try.prog Try.f3.params.toList Rows.streamsSplitsSpec.vars false W args.toList ds gs before)
    (hwt : (DataW.weightsEach Try.prog (Try.f3.params.toList ++ Rows.streamsSplitsSpec.plain.varTypes Try.prog) (ds ++ gs)).all (· ≤ reachBytes) = true) :
    Calls Try.prog 3 args W fun e W' => ∃ v, e = .returned v ∧ Rows.streamsSplitsSpec.post enc Try.prog Try.f3 false true false false W args v W' := by
  refine law_contract (P := Try.prog) (fn := Try.f3) (k := 4) (ts := [22]) (tb := 4) (s := Rows.streamsSplitsSpec) laidOut (by kernel_rfl) (by kernel_rfl) (by kernel_rfl) rfl Try.underlying4 rfl (fun ds h => ?_) (fun vs h => ?_) hval hW hwt
  · match ds, h with
    | [d1], _ => rfl
  · obtain ⟨c1, r, rfl, h1, h⟩ := h.inv
    obtain rfl := h.inv0
    obtain ⟨l, nl, e1, hn, hl⟩ := arg_bytes Try.underlying22 Try.underlying5 h1
    rw [e1]
    simp [reachBytes] at hl
    exact streamsSplits_ok l .unk nl hn (by omega)

theorem streamsSplits_lifted (os : Os) (started : os.Started) (H : Type) (enc : TypeId × Value → H) (F : Stop.Interp) :
    ReturnsInHanded {} Try.checked os 3 .any ((OpenSpec.ofChange Rows.streamsSplitsSpec).preRow enc Try.prog Try.f3 Rows.streamsSplitsRow.domain false Rows.streamsSplitsRow.laid)
      (((OpenSpec.ofChange Rows.streamsSplitsSpec).at F).post enc Try.prog Try.f3 false true false false) := by
  obtain ⟨places, hx⟩ := streamsSplits_reads os enc
  refine returnsInHanded_of_row (C := Try.checked) (s := OpenSpec.ofChange Rows.streamsSplitsSpec) own started (by kernel_rfl) Try.func3
    (witness_row_at (enc := enc) (C := Try.checked) false (World.holding Try.prog os ⟨#[], #[Value.slice none 0 0], []⟩) #[Value.slice none 0 0] rfl (by kernel_rfl) (by kernel_rfl) (by kernel_rfl)
      (OpenSpec.preRow_of_cond 8 hx (by kernel_rfl) (fun k hk => by cases hk) (by kernel_rfl) (show laidMetH Try.prog [] _ from ⟨[], rfl, List.nodup_nil, fun _ _ h => by cases h⟩))) ?_
  intro W base args ds gs before hval hW _ _ hwt _ _ _
  exact streamsSplits_contract H enc W base args ds gs before hval hW hwt

theorem streamsSplits_holds : Rows.StreamsSplitsSaid :=
  OpenClaim.holds_of_cond 3 Try.f3 rfl rfl rfl rfl rfl rfl rfl ⟨rfl, rfl, rfl, rfl, rfl⟩ rfl rfl rfl rfl rfl (by kernel_rfl) Try.func3 (by kernel_rfl)
    (of_decide_eq_true (by kernel_rfl)) (by unfold Func.isWrapper; first | (rw [if_pos (by decide +kernel)]; kernel_rfl) | (rw [if_neg (by decide +kernel)]; exact ⟨rfl, rfl⟩))
    (fun os started H enc _ F => by rw [OpenClaim.pre_eq_preRow]; exact streamsSplits_lifted os started H enc F)


theorem streamsJoins_reads (os : Os) {H : Type} (enc : TypeId × Value → H) : ∃ places, DataW.whole enc Try.prog ((World.holding Try.prog os ⟨#[], #[Value.agg #[.slice none 0 0, .slice none 0 0, .slice none 0 0, .slice none 0 0]], []⟩).forCall (fun _ _ => 0) ⟨#[], #[Value.agg #[.slice none 0 0, .slice none 0 0, .slice none 0 0, .slice none 0 0]], []⟩).memory Try.f4.params.toList Rows.streamsJoinsSpec.vars false #[Value.agg #[.slice none 0 0, .slice none 0 0, .slice none 0 0, .slice none 0 0]].toList 8 = some ([.agg [.nil, .nil, .nil, .nil]], [], places) :=
  ⟨[], by kernel_rfl⟩

theorem streamsJoins_contract (H : Type) (enc : TypeId × Value → H) (W : World) (base : Nat) (args : Array Value) (ds gs : List (DataW H)) (before : List MemPlace)
    (hval : ∀ (j : Nat) t v, Try.f4.params[j]? = some t → args[j]? = some v → Value.okWide Try.prog W .any base t v)
    (hW : DataW.Whole enc Try.prog Try.f4.params.toList Rows.streamsJoinsSpec.vars false W args.toList ds gs before)
    (hwt : (DataW.weightsEach Try.prog (Try.f4.params.toList ++ Rows.streamsJoinsSpec.plain.varTypes Try.prog) (ds ++ gs)).all (· ≤ reachBytes) = true) :
    Calls Try.prog 4 args W fun e W' => ∃ v, e = .returned v ∧ Rows.streamsJoinsSpec.post enc Try.prog Try.f4 false true false false W args v W' := by
  refine law_contract (P := Try.prog) (fn := Try.f4) (k := 4) (ts := [25]) (tb := 4) (s := Rows.streamsJoinsSpec) laidOut (by kernel_rfl) (by kernel_rfl) (by kernel_rfl) rfl Try.underlying4 rfl (fun ds h => ?_) (fun vs h => ?_) hval hW hwt
  · match ds, h with
    | [d1], _ => rfl
  · obtain ⟨c1, r, rfl, h1, h⟩ := h.inv
    obtain rfl := h.inv0
    obtain ⟨a0, a1, a2, a3, e1⟩ := arg_str h1
    rw [e1]
    exact streamsJoins_ok a0 a1 a2 a3

theorem streamsJoins_lifted (os : Os) (started : os.Started) (H : Type) (enc : TypeId × Value → H) (F : Stop.Interp) :
    ReturnsInHanded {} Try.checked os 4 .any ((OpenSpec.ofChange Rows.streamsJoinsSpec).preRow enc Try.prog Try.f4 Rows.streamsJoinsRow.domain false Rows.streamsJoinsRow.laid)
      (((OpenSpec.ofChange Rows.streamsJoinsSpec).at F).post enc Try.prog Try.f4 false true false false) := by
  obtain ⟨places, hx⟩ := streamsJoins_reads os enc
  refine returnsInHanded_of_row (C := Try.checked) (s := OpenSpec.ofChange Rows.streamsJoinsSpec) own started (by kernel_rfl) Try.func4
    (witness_row_at (enc := enc) (C := Try.checked) false (World.holding Try.prog os ⟨#[], #[Value.agg #[.slice none 0 0, .slice none 0 0, .slice none 0 0, .slice none 0 0]], []⟩) #[Value.agg #[.slice none 0 0, .slice none 0 0, .slice none 0 0, .slice none 0 0]] rfl (by kernel_rfl) (by kernel_rfl) (by kernel_rfl)
      (OpenSpec.preRow_of_cond 8 hx (by kernel_rfl) (fun k hk => by cases hk) (by kernel_rfl) (show laidMetH Try.prog [] _ from ⟨[], rfl, List.nodup_nil, fun _ _ h => by cases h⟩))) ?_
  intro W base args ds gs before hval hW _ _ hwt _ _ _
  exact streamsJoins_contract H enc W base args ds gs before hval hW hwt

theorem streamsJoins_holds : Rows.StreamsJoinsSaid :=
  OpenClaim.holds_of_cond 4 Try.f4 rfl rfl rfl rfl rfl rfl rfl ⟨rfl, rfl, rfl, rfl, rfl⟩ rfl rfl rfl rfl rfl (by kernel_rfl) Try.func4 (by kernel_rfl)
    (of_decide_eq_true (by kernel_rfl)) (by unfold Func.isWrapper; first | (rw [if_pos (by decide +kernel)]; kernel_rfl) | (rw [if_neg (by decide +kernel)]; exact ⟨rfl, rfl⟩))
    (fun os started H enc _ F => by rw [OpenClaim.pre_eq_preRow]; exact streamsJoins_lifted os started H enc F)


end Go.Proofs.Ytgdpkfonielilaa
