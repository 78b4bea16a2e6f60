/- BodyReads: at any place of any bytes stands the body that the document says, or it is refused by its error. BodyBack: what is written, wherever it may stand, is read to what it was. BodyOne: what is read, written again, is the very bytes. No condition. -/
import Derived.Test.YtnkjbgcbchbonaaBodyE
import Derived.Test.YtnkjbgcbchbonaaBody6
set_option linter.unusedSimpArgs false
set_option linter.unusedVariables false
set_option maxRecDepth 100000
set_option maxHeartbeats 3200000
namespace Go.Proofs.Ytnkjbgcbchbonaa
open Go Go.AW Go.ChangeShapes Go.WideShapes Go.ChangeAt Go.RowKit

theorem bodyReads_reads (os : Os) {H : Type} (enc : TypeId × Value → H) : ∃ places, DataW.whole enc Try.prog ((World.holding Try.prog os ⟨#[], #[Value.slice none 0 0, Value.int .i64 0], []⟩).forCall (fun _ _ => 0) ⟨#[], #[Value.slice none 0 0, Value.int .i64 0], []⟩).memory Try.f9.params.toList Rows.bodyReadsSpec.vars false #[Value.slice none 0 0, Value.int .i64 0].toList 8 = some ([.nil, .lit (.int .i64 0)], [], places) :=
  ⟨[], by kernel_rfl⟩

theorem bodyReads_contract (H : Type) (enc : TypeId × Value → H) (W : World) (base : Nat) (args : Array Value) (ds gs : List (DataW H)) (before : List MemPlace)
    (hval : ∀ (j : Nat) t v, Try.f9.params[j]? = some t → args[j]? = some v → Value.okWide Try.prog W .any base t v)
    (hW : DataW.Whole enc Try.prog Try.f9.params.toList Rows.bodyReadsSpec.vars false W args.toList ds gs before)
    (hwt : (DataW.weightsEach Try.prog (Try.f9.params.toList ++ Rows.bodyReadsSpec.plain.varTypes Try.prog) (ds ++ gs)).all (· ≤ reachBytes) = true) :
    Calls Try.prog 9 args W fun e W' => ∃ v, e = .returned v ∧ Rows.bodyReadsSpec.post enc Try.prog Try.f9 false true false false W args v W' := by
  refine law_contract (P := Try.prog) (fn := Try.f9) (k := 4) (ts := [30, 3]) (tb := 4) (s := Rows.bodyReadsSpec) laidOut (by kernel_rfl) (by kernel_rfl) (by kernel_rfl) rfl Try.underlying4 rfl (fun ds h => ?_) (fun vs h => ?_) hval hW hwt
  · match ds, h with
    | [d1, d2], _ => rfl
  · obtain ⟨c1, r, rfl, h1, h⟩ := h.inv
    obtain ⟨c2, r, rfl, h2, h⟩ := h.inv
    obtain rfl := h.inv0
    obtain ⟨l, nl, e1, hn, hl⟩ := arg_bytes Try.underlying30 Try.underlying5 h1
    obtain ⟨k, e2, w2⟩ := arg_int Try.underlying3 h2
    rw [e1, e2]
    simp [reachBytes] at hl
    exact bodyReads_ok l nl k hn (by omega)

theorem bodyReads_lifted (os : Os) (started : os.Started) (H : Type) (enc : TypeId × Value → H) (F : Stop.Interp) :
    ReturnsInHanded {} Try.checked os 9 .any ((OpenSpec.ofChange Rows.bodyReadsSpec).preRow enc Try.prog Try.f9 Rows.bodyReadsRow.domain false Rows.bodyReadsRow.laid)
      (((OpenSpec.ofChange Rows.bodyReadsSpec).at F).post enc Try.prog Try.f9 false true false false) := by
  obtain ⟨places, hx⟩ := bodyReads_reads os enc
  refine returnsInHanded_of_row (C := Try.checked) (s := OpenSpec.ofChange Rows.bodyReadsSpec) own started (by kernel_rfl) Try.func9
    (witness_row_at (enc := enc) (C := Try.checked) false (World.holding Try.prog os ⟨#[], #[Value.slice none 0 0, Value.int .i64 0], []⟩) #[Value.slice none 0 0, Value.int .i64 0] rfl (by kernel_rfl) (by kernel_rfl) (by kernel_rfl)
      (OpenSpec.preRow_of_cond 8 hx (by kernel_rfl) (fun k hk => by cases hk) (by kernel_rfl) (show laidMetH Try.prog [] _ from ⟨[], rfl, List.nodup_nil, fun _ _ h => by cases h⟩))) ?_
  intro W base args ds gs before hval hW _ _ hwt _ _ _
  exact bodyReads_contract H enc W base args ds gs before hval hW hwt

theorem bodyReads_holds : Rows.BodyReadsSaid :=
  OpenClaim.holds_of_cond 9 Try.f9 rfl rfl rfl rfl rfl rfl rfl ⟨rfl, rfl, rfl, rfl, rfl⟩ rfl rfl rfl rfl rfl (by kernel_rfl) Try.func9 (by kernel_rfl)
    (of_decide_eq_true (by kernel_rfl)) (by unfold Func.isWrapper; first | (rw [if_pos (by decide +kernel)]; kernel_rfl) | (rw [if_neg (by decide +kernel)]; exact ⟨rfl, rfl⟩))
    (fun os started H enc _ F => by rw [OpenClaim.pre_eq_preRow]; exact bodyReads_lifted os started H enc F)


theorem bodyOne_reads (os : Os) {H : Type} (enc : TypeId × Value → H) : ∃ places, DataW.whole enc Try.prog ((World.holding Try.prog os ⟨#[], #[Value.slice none 0 0], []⟩).forCall (fun _ _ => 0) ⟨#[], #[Value.slice none 0 0], []⟩).memory Try.f11.params.toList Rows.bodyOneSpec.vars false #[Value.slice none 0 0].toList 8 = some ([.nil], [], places) :=
  ⟨[], by kernel_rfl⟩

theorem bodyOne_contract (H : Type) (enc : TypeId × Value → H) (W : World) (base : Nat) (args : Array Value) (ds gs : List (DataW H)) (before : List MemPlace)
    (hval : ∀ (j : Nat) t v, Try.f11.params[j]? = some t → args[j]? = some v → Value.okWide Try.prog W .any base t v)
    (hW : DataW.Whole enc Try.prog Try.f11.params.toList Rows.bodyOneSpec.vars false W args.toList ds gs before)
    (hwt : (DataW.weightsEach Try.prog (Try.f11.params.toList ++ Rows.bodyOneSpec.plain.varTypes Try.prog) (ds ++ gs)).all (· ≤ reachBytes) = true) :
    Calls Try.prog 11 args W fun e W' => ∃ v, e = .returned v ∧ Rows.bodyOneSpec.post enc Try.prog Try.f11 false true false false W args v W' := by
  refine law_contract (P := Try.prog) (fn := Try.f11) (k := 4) (ts := [30]) (tb := 4) (s := Rows.bodyOneSpec) laidOut (by kernel_rfl) (by kernel_rfl) (by kernel_rfl) rfl Try.underlying4 rfl (fun ds h => ?_) (fun vs h => ?_) hval hW hwt
  · match ds, h with
    | [d1], _ => rfl
  · obtain ⟨c1, r, rfl, h1, h⟩ := h.inv
    obtain rfl := h.inv0
    obtain ⟨l, nl, e1, hn, hl⟩ := arg_bytes Try.underlying30 Try.underlying5 h1
    rw [e1]
    simp [reachBytes] at hl
    exact bodyOne_ok l nl hn (by omega)

theorem bodyOne_lifted (os : Os) (started : os.Started) (H : Type) (enc : TypeId × Value → H) (F : Stop.Interp) :
    ReturnsInHanded {} Try.checked os 11 .any ((OpenSpec.ofChange Rows.bodyOneSpec).preRow enc Try.prog Try.f11 Rows.bodyOneRow.domain false Rows.bodyOneRow.laid)
      (((OpenSpec.ofChange Rows.bodyOneSpec).at F).post enc Try.prog Try.f11 false true false false) := by
  obtain ⟨places, hx⟩ := bodyOne_reads os enc
  refine returnsInHanded_of_row (C := Try.checked) (s := OpenSpec.ofChange Rows.bodyOneSpec) own started (by kernel_rfl) Try.func11
    (witness_row_at (enc := enc) (C := Try.checked) false (World.holding Try.prog os ⟨#[], #[Value.slice none 0 0], []⟩) #[Value.slice none 0 0] rfl (by kernel_rfl) (by kernel_rfl) (by kernel_rfl)
      (OpenSpec.preRow_of_cond 8 hx (by kernel_rfl) (fun k hk => by cases hk) (by kernel_rfl) (show laidMetH Try.prog [] _ from ⟨[], rfl, List.nodup_nil, fun _ _ h => by cases h⟩))) ?_
  intro W base args ds gs before hval hW _ _ hwt _ _ _
  exact bodyOne_contract H enc W base args ds gs before hval hW hwt

theorem bodyOne_holds : Rows.BodyOneSaid :=
  OpenClaim.holds_of_cond 11 Try.f11 rfl rfl rfl rfl rfl rfl rfl ⟨rfl, rfl, rfl, rfl, rfl⟩ rfl rfl rfl rfl rfl (by kernel_rfl) Try.func11 (by kernel_rfl)
    (of_decide_eq_true (by kernel_rfl)) (by unfold Func.isWrapper; first | (rw [if_pos (by decide +kernel)]; kernel_rfl) | (rw [if_neg (by decide +kernel)]; exact ⟨rfl, rfl⟩))
    (fun os started H enc _ F => by rw [OpenClaim.pre_eq_preRow]; exact bodyOne_lifted os started H enc F)


theorem bodyBack_reads (os : Os) {H : Type} (enc : TypeId × Value → H) : ∃ places, DataW.whole enc Try.prog ((World.holding Try.prog os ⟨#[], #[Value.agg #[.slice none 0 0, .slice none 0 0], Value.slice none 0 0], []⟩).forCall (fun _ _ => 0) ⟨#[], #[Value.agg #[.slice none 0 0, .slice none 0 0], Value.slice none 0 0], []⟩).memory Try.f10.params.toList Rows.bodyBackSpec.vars false #[Value.agg #[.slice none 0 0, .slice none 0 0], Value.slice none 0 0].toList 8 = some ([.agg [.nil, .nil], .nil], [], places) :=
  ⟨[], by kernel_rfl⟩

theorem bodyBack_contract (H : Type) (enc : TypeId × Value → H) (W : World) (base : Nat) (args : Array Value) (ds gs : List (DataW H)) (before : List MemPlace)
    (hval : ∀ (j : Nat) t v, Try.f10.params[j]? = some t → args[j]? = some v → Value.okWide Try.prog W .any base t v)
    (hW : DataW.Whole enc Try.prog Try.f10.params.toList Rows.bodyBackSpec.vars false W args.toList ds gs before)
    (hwt : (DataW.weightsEach Try.prog (Try.f10.params.toList ++ Rows.bodyBackSpec.plain.varTypes Try.prog) (ds ++ gs)).all (· ≤ reachBytes) = true) :
    Calls Try.prog 10 args W fun e W' => ∃ v, e = .returned v ∧ Rows.bodyBackSpec.post enc Try.prog Try.f10 false true false false W args v W' := by
  refine law_contract (P := Try.prog) (fn := Try.f10) (k := 5) (ts := [48, 30]) (tb := 4) (s := Rows.bodyBackSpec) laidOut (by kernel_rfl) (by kernel_rfl) (by kernel_rfl) rfl Try.underlying4 rfl (fun ds h => ?_) (fun vs h => ?_) hval hW hwt
  · match ds, h with
    | [d1, d2], _ => rfl
  · obtain ⟨c1, r, rfl, h1, h⟩ := h.inv
    obtain ⟨c2, r, rfl, h2, h⟩ := h.inv
    obtain rfl := h.inv0
    obtain ⟨code, cls, n1, n2, e1, q1, q2, l1, l2⟩ := arg_body h1
    obtain ⟨l, nl, e2, hn, hl⟩ := arg_bytes Try.underlying30 Try.underlying5 h2
    rw [e1, e2]
    simp [reachBytes] at hl
    exact bodyBack_ok code cls n1 n2 l nl q1 q2 l1 l2 hn (by omega)

theorem bodyBack_lifted (os : Os) (started : os.Started) (H : Type) (enc : TypeId × Value → H) (F : Stop.Interp) :
    ReturnsInHanded {} Try.checked os 10 .any ((OpenSpec.ofChange Rows.bodyBackSpec).preRow enc Try.prog Try.f10 Rows.bodyBackRow.domain false Rows.bodyBackRow.laid)
      (((OpenSpec.ofChange Rows.bodyBackSpec).at F).post enc Try.prog Try.f10 false true false false) := by
  obtain ⟨places, hx⟩ := bodyBack_reads os enc
  refine returnsInHanded_of_row (C := Try.checked) (s := OpenSpec.ofChange Rows.bodyBackSpec) own started (by kernel_rfl) Try.func10
    (witness_row_at (enc := enc) (C := Try.checked) false (World.holding Try.prog os ⟨#[], #[Value.agg #[.slice none 0 0, .slice none 0 0], Value.slice none 0 0], []⟩) #[Value.agg #[.slice none 0 0, .slice none 0 0], Value.slice none 0 0] rfl (by kernel_rfl) (by kernel_rfl) (by kernel_rfl)
      (OpenSpec.preRow_of_cond 8 hx (by kernel_rfl) (fun k hk => by cases hk) (by kernel_rfl) (show laidMetH Try.prog [] _ from ⟨[], rfl, List.nodup_nil, fun _ _ h => by cases h⟩))) ?_
  intro W base args ds gs before hval hW _ _ hwt _ _ _
  exact bodyBack_contract H enc W base args ds gs before hval hW hwt

theorem bodyBack_holds : Rows.BodyBackSaid :=
  OpenClaim.holds_of_cond 10 Try.f10 rfl rfl rfl rfl rfl rfl rfl ⟨rfl, rfl, rfl, rfl, rfl⟩ rfl rfl rfl rfl rfl (by kernel_rfl) Try.func10 (by kernel_rfl)
    (of_decide_eq_true (by kernel_rfl)) (by unfold Func.isWrapper; first | (rw [if_pos (by decide +kernel)]; kernel_rfl) | (rw [if_neg (by decide +kernel)]; exact ⟨rfl, rfl⟩))
    (fun os started H enc _ F => by rw [OpenClaim.pre_eq_preRow]; exact bodyBack_lifted os started H enc F)


end Go.Proofs.Ytnkjbgcbchbonaa
