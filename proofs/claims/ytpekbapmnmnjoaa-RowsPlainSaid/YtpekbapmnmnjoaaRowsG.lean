/- RowsReads: any bytes are the tables that the document says, or refused by its error at its place. RowsBack: what is written is read to what it was. RowsPlain: what is read is written, the plain way, by no more bytes, and read alike, if its names and blobs fit. No condition. -/
import Derived.Test.YtpekbapmnmnjoaaRowsF
import Derived.Test.YtpekbapmnmnjoaaRows9
set_option linter.unusedSimpArgs false
set_option linter.unusedVariables false
set_option maxRecDepth 100000
set_option maxHeartbeats 3200000
namespace Go.Proofs.Ytpekbapmnmnjoaa
open Go Go.AW Go.ChangeShapes Go.WideShapes Go.ChangeAt Go.RowKit

theorem rowsReads_reads (os : Os) {H : Type} (enc : TypeId × Value → H) : ∃ places, DataW.whole enc Try.prog ((World.holding Try.prog os ⟨#[], #[Value.slice none 0 0], []⟩).forCall (fun _ _ => 0) ⟨#[], #[Value.slice none 0 0], []⟩).memory Try.f11.params.toList Rows.rowsReadsSpec.vars false #[Value.slice none 0 0].toList 8 = some ([.nil], [], places) :=
  ⟨[], by kernel_rfl⟩

theorem rowsReads_contract (H : Type) (enc : TypeId × Value → H) (W : World) (base : Nat) (args : Array Value) (ds gs : List (DataW H)) (before : List MemPlace)
    (hval : ∀ (j : Nat) t v, Try.f11.params[j]? = some t → args[j]? = some v → Value.okWide Try.prog W .any base t v)
    (hW : DataW.Whole enc Try.prog Try.f11.params.toList Rows.rowsReadsSpec.vars false W args.toList ds gs before)
    (hwt : (DataW.weightsEach Try.prog (Try.f11.params.toList ++ Rows.rowsReadsSpec.plain.varTypes Try.prog) (ds ++ gs)).all (· ≤ reachBytes) = true) :
    Calls Try.prog 11 args W fun e W' => ∃ v, e = .returned v ∧ Rows.rowsReadsSpec.post enc Try.prog Try.f11 false true false false W args v W' := by
  refine law_contract (P := Try.prog) (fn := Try.f11) (k := 4) (ts := [28]) (tb := 4) (s := Rows.rowsReadsSpec) laidOut (by kernel_rfl) (by kernel_rfl) (by kernel_rfl) rfl Try.underlying4 rfl (fun ds h => ?_) (fun vs h => ?_) hval hW hwt
  · match ds, h with
    | [d1], _ => rfl
  · obtain ⟨c1, r, rfl, h1, h⟩ := h.inv
    obtain rfl := h.inv0
    obtain ⟨l, nl, e1, hn, hl⟩ := arg_bytes Try.underlying28 Try.underlying5 h1
    rw [e1]
    simp [reachBytes] at hl
    exact rowsReads_ok l .unk nl hn (by omega)

theorem rowsReads_lifted (os : Os) (started : os.Started) (H : Type) (enc : TypeId × Value → H) (F : Stop.Interp) :
    ReturnsInHanded {} Try.checked os 11 .any ((OpenSpec.ofChange Rows.rowsReadsSpec).preRow enc Try.prog Try.f11 Rows.rowsReadsRow.domain false Rows.rowsReadsRow.laid)
      (((OpenSpec.ofChange Rows.rowsReadsSpec).at F).post enc Try.prog Try.f11 false true false false) := by
  obtain ⟨places, hx⟩ := rowsReads_reads os enc
  refine returnsInHanded_of_row (C := Try.checked) (s := OpenSpec.ofChange Rows.rowsReadsSpec) own started (by kernel_rfl) Try.func11
    (witness_row_at (enc := enc) (C := Try.checked) false (World.holding Try.prog os ⟨#[], #[Value.slice none 0 0], []⟩) #[Value.slice none 0 0] rfl (by kernel_rfl) (by kernel_rfl) (by kernel_rfl)
      (OpenSpec.preRow_of_cond 8 hx (by kernel_rfl) (fun k hk => by cases hk) (by kernel_rfl) (show laidMetH Try.prog [] _ from ⟨[], rfl, List.nodup_nil, fun _ _ h => by cases h⟩))) ?_
  intro W base args ds gs before hval hW _ _ hwt _ _ _
  exact rowsReads_contract H enc W base args ds gs before hval hW hwt

theorem rowsReads_holds : Rows.RowsReadsSaid :=
  OpenClaim.holds_of_cond 11 Try.f11 rfl rfl rfl rfl rfl rfl rfl ⟨rfl, rfl, rfl, rfl, rfl⟩ rfl rfl rfl rfl rfl (by kernel_rfl) Try.func11 (by kernel_rfl)
    (of_decide_eq_true (by kernel_rfl)) (by unfold Func.isWrapper; first | (rw [if_pos (by decide +kernel)]; kernel_rfl) | (rw [if_neg (by decide +kernel)]; exact ⟨rfl, rfl⟩))
    (fun os started H enc _ F => by rw [OpenClaim.pre_eq_preRow]; exact rowsReads_lifted os started H enc F)


theorem rowsPlain_reads (os : Os) {H : Type} (enc : TypeId × Value → H) : ∃ places, DataW.whole enc Try.prog ((World.holding Try.prog os ⟨#[], #[Value.slice none 0 0], []⟩).forCall (fun _ _ => 0) ⟨#[], #[Value.slice none 0 0], []⟩).memory Try.f13.params.toList Rows.rowsPlainSpec.vars false #[Value.slice none 0 0].toList 8 = some ([.nil], [], places) :=
  ⟨[], by kernel_rfl⟩

theorem rowsPlain_contract (H : Type) (enc : TypeId × Value → H) (W : World) (base : Nat) (args : Array Value) (ds gs : List (DataW H)) (before : List MemPlace)
    (hval : ∀ (j : Nat) t v, Try.f13.params[j]? = some t → args[j]? = some v → Value.okWide Try.prog W .any base t v)
    (hW : DataW.Whole enc Try.prog Try.f13.params.toList Rows.rowsPlainSpec.vars false W args.toList ds gs before)
    (hwt : (DataW.weightsEach Try.prog (Try.f13.params.toList ++ Rows.rowsPlainSpec.plain.varTypes Try.prog) (ds ++ gs)).all (· ≤ reachBytes) = true) :
    Calls Try.prog 13 args W fun e W' => ∃ v, e = .returned v ∧ Rows.rowsPlainSpec.post enc Try.prog Try.f13 false true false false W args v W' := by
  refine law_contract (P := Try.prog) (fn := Try.f13) (k := 4) (ts := [28]) (tb := 4) (s := Rows.rowsPlainSpec) laidOut (by kernel_rfl) (by kernel_rfl) (by kernel_rfl) rfl Try.underlying4 rfl (fun ds h => ?_) (fun vs h => ?_) hval hW hwt
  · match ds, h with
    | [d1], _ => rfl
  · obtain ⟨c1, r, rfl, h1, h⟩ := h.inv
    obtain rfl := h.inv0
    obtain ⟨l, nl, e1, hn, hl⟩ := arg_bytes Try.underlying28 Try.underlying5 h1
    rw [e1]
    simp [reachBytes] at hl
    exact rowsPlain_ok l .unk nl hn (by omega)

theorem rowsPlain_lifted (os : Os) (started : os.Started) (H : Type) (enc : TypeId × Value → H) (F : Stop.Interp) :
    ReturnsInHanded {} Try.checked os 13 .any ((OpenSpec.ofChange Rows.rowsPlainSpec).preRow enc Try.prog Try.f13 Rows.rowsPlainRow.domain false Rows.rowsPlainRow.laid)
      (((OpenSpec.ofChange Rows.rowsPlainSpec).at F).post enc Try.prog Try.f13 false true false false) := by
  obtain ⟨places, hx⟩ := rowsPlain_reads os enc
  refine returnsInHanded_of_row (C := Try.checked) (s := OpenSpec.ofChange Rows.rowsPlainSpec) own started (by kernel_rfl) Try.func13
    (witness_row_at (enc := enc) (C := Try.checked) false (World.holding Try.prog os ⟨#[], #[Value.slice none 0 0], []⟩) #[Value.slice none 0 0] rfl (by kernel_rfl) (by kernel_rfl) (by kernel_rfl)
      (OpenSpec.preRow_of_cond 8 hx (by kernel_rfl) (fun k hk => by cases hk) (by kernel_rfl) (show laidMetH Try.prog [] _ from ⟨[], rfl, List.nodup_nil, fun _ _ h => by cases h⟩))) ?_
  intro W base args ds gs before hval hW _ _ hwt _ _ _
  exact rowsPlain_contract H enc W base args ds gs before hval hW hwt

theorem rowsPlain_holds : Rows.RowsPlainSaid :=
  OpenClaim.holds_of_cond 13 Try.f13 rfl rfl rfl rfl rfl rfl rfl ⟨rfl, rfl, rfl, rfl, rfl⟩ rfl rfl rfl rfl rfl (by kernel_rfl) Try.func13 (by kernel_rfl)
    (of_decide_eq_true (by kernel_rfl)) (by unfold Func.isWrapper; first | (rw [if_pos (by decide +kernel)]; kernel_rfl) | (rw [if_neg (by decide +kernel)]; exact ⟨rfl, rfl⟩))
    (fun os started H enc _ F => by rw [OpenClaim.pre_eq_preRow]; exact rowsPlain_lifted os started H enc F)


theorem rowsBack_reads (os : Os) {H : Type} (enc : TypeId × Value → H) : ∃ places, DataW.whole enc Try.prog ((World.holding Try.prog os ⟨#[], #[Value.agg #[.int .i64 0, .slice none 0 0]], []⟩).forCall (fun _ _ => 0) ⟨#[], #[Value.agg #[.int .i64 0, .slice none 0 0]], []⟩).memory Try.f12.params.toList Rows.rowsBackSpec.vars false #[Value.agg #[.int .i64 0, .slice none 0 0]].toList 8 = some ([.agg [.lit (.int .i64 0), .nil]], [], places) :=
  ⟨[], by kernel_rfl⟩

theorem rowsBack_contract (H : Type) (enc : TypeId × Value → H) (W : World) (base : Nat) (args : Array Value) (ds gs : List (DataW H)) (before : List MemPlace)
    (hval : ∀ (j : Nat) t v, Try.f12.params[j]? = some t → args[j]? = some v → Value.okWide Try.prog W .any base t v)
    (hW : DataW.Whole enc Try.prog Try.f12.params.toList Rows.rowsBackSpec.vars false W args.toList ds gs before)
    (hwt : (DataW.weightsEach Try.prog (Try.f12.params.toList ++ Rows.rowsBackSpec.plain.varTypes Try.prog) (ds ++ gs)).all (· ≤ reachBytes) = true) :
    Calls Try.prog 12 args W fun e W' => ∃ v, e = .returned v ∧ Rows.rowsBackSpec.post enc Try.prog Try.f12 false true false false W args v W' := by
  refine law_contract (P := Try.prog) (fn := Try.f12) (k := 6) (ts := [24]) (tb := 4) (s := Rows.rowsBackSpec) laidOut (by kernel_rfl) (by kernel_rfl) (by kernel_rfl) rfl Try.underlying4 rfl (fun ds h => ?_) (fun vs h => ?_) hval hW hwt
  · match ds, h with
    | [d1], _ => rfl
  · obtain ⟨c1, r, rfl, h1, h⟩ := h.inv
    obtain rfl := h.inv0
    obtain ⟨en, R, nl, e1, l1, l2, l3⟩ := arg_tab h1
    rw [e1]
    exact rowsBack_ok en R nl l1 l2 l3

theorem rowsBack_lifted (os : Os) (started : os.Started) (H : Type) (enc : TypeId × Value → H) (F : Stop.Interp) :
    ReturnsInHanded {} Try.checked os 12 .any ((OpenSpec.ofChange Rows.rowsBackSpec).preRow enc Try.prog Try.f12 Rows.rowsBackRow.domain false Rows.rowsBackRow.laid)
      (((OpenSpec.ofChange Rows.rowsBackSpec).at F).post enc Try.prog Try.f12 false true false false) := by
  obtain ⟨places, hx⟩ := rowsBack_reads os enc
  refine returnsInHanded_of_row (C := Try.checked) (s := OpenSpec.ofChange Rows.rowsBackSpec) own started (by kernel_rfl) Try.func12
    (witness_row_at (enc := enc) (C := Try.checked) false (World.holding Try.prog os ⟨#[], #[Value.agg #[.int .i64 0, .slice none 0 0]], []⟩) #[Value.agg #[.int .i64 0, .slice none 0 0]] rfl (by kernel_rfl) (by kernel_rfl) (by kernel_rfl)
      (OpenSpec.preRow_of_cond 8 hx (by kernel_rfl) (fun k hk => by cases hk) (by kernel_rfl) (show laidMetH Try.prog [] _ from ⟨[], rfl, List.nodup_nil, fun _ _ h => by cases h⟩))) ?_
  intro W base args ds gs before hval hW _ _ hwt _ _ _
  exact rowsBack_contract H enc W base args ds gs before hval hW hwt

theorem rowsBack_holds : Rows.RowsBackSaid :=
  OpenClaim.holds_of_cond 12 Try.f12 rfl rfl rfl rfl rfl rfl rfl ⟨rfl, rfl, rfl, rfl, rfl⟩ rfl rfl rfl rfl rfl (by kernel_rfl) Try.func12 (by kernel_rfl)
    (of_decide_eq_true (by kernel_rfl)) (by unfold Func.isWrapper; first | (rw [if_pos (by decide +kernel)]; kernel_rfl) | (rw [if_neg (by decide +kernel)]; exact ⟨rfl, rfl⟩))
    (fun os started H enc _ F => by rw [OpenClaim.pre_eq_preRow]; exact rowsBack_lifted os started H enc F)


end Go.Proofs.Ytpekbapmnmnjoaa
