/- RowsWrites: any tables are the bytes that the document says, or refused; they stay as they were. RowsCodes: any table and row have the coded index, any number tells the table and row, that the document says, or is refused; there and back. No condition. -/
import Derived.Test.YtpekbapmnmnjoaaRows8
import Derived.Test.YtpekbapmnmnjoaaRows
set_option linter.unusedSimpArgs false
set_option linter.unusedVariables false
set_option maxRecDepth 100000
set_option maxHeartbeats 3200000
namespace Go.Proofs.Ytpekbapmnmnjoaa
open Go Go.AW Go.ChangeShapes Go.WideShapes Go.ChangeAt Go.RowKit

theorem arg_row {k : Nat} {cs : List AV} (h : ArgC Try.prog (k + 2) 70 cs) : ∃ y : { y : List Int × Bool // y.1.length ≤ 140737488355328 }, pkV Try.prog 70 cs = iV y.1 := by
  obtain ⟨l, nl, e, hn, hl⟩ := arg_list i64v Try.underlying70 (fun c hc => by
    obtain ⟨n, e, _⟩ := arg_int Try.underlying3 hc
    exact ⟨n, e⟩) h
  simp [reachBytes] at hl
  exact ⟨⟨(l, nl), by simp; omega⟩, e⟩
theorem arg_rows {k : Nat} {cs : List AV} (h : ArgC Try.prog (k + 3) 69 cs) : ∃ x : { x : List (List Int × Bool) × Bool // x.1.length ≤ 140737488355328 ∧ ∀ y ∈ x.1, y.1.length ≤ 140737488355328 }, pkV Try.prog 69 cs = lV x.1 := by
  obtain ⟨l, nl, e, hn, hl⟩ := arg_list (fun y : { y : List Int × Bool // y.1.length ≤ 140737488355328 } => iV y.1) Try.underlying69 (fun c hc => arg_row hc) h
  simp [reachBytes] at hl
  refine ⟨⟨(l.map (·.1), nl), by simp; omega, fun y hy => ?_⟩, by rw [e]; simp [lV, List.map_map, Function.comp_def]⟩
  obtain ⟨a, _, rfl⟩ := List.mem_map.1 hy
  exact a.2
theorem arg_tab {k : Nat} {cs : List AV} (h : ArgC Try.prog (k + 5) 24 cs) :
    ∃ (en : Int) (R : Tab) (nl : Bool), pkV Try.prog 24 cs = tbV en R .unk nl ∧ R.length ≤ 140737488355328 ∧ (∀ x ∈ R, x.1.length ≤ 140737488355328) ∧ ∀ x ∈ R, ∀ y ∈ x.1, y.1.length ≤ 140737488355328 := by
  have hlen : cs.length = 2 := by
    simp only [ArgC, Try.underlying24] at h
    exact h.1
  match cs, hlen with
  | [x, y], _ =>
    rw [ArgC] at h
    simp only [Try.underlying24] at h
    have h1 := h.2
    simp at h1
    obtain ⟨h1, h2⟩ := h1
    obtain ⟨en, e1, _⟩ := arg_int Try.underlying3 h1
    obtain ⟨l, nl, e2, hn, hl⟩ := arg_list (fun x : { x : List (List Int × Bool) × Bool // x.1.length ≤ 140737488355328 ∧ ∀ y ∈ x.1, y.1.length ≤ 140737488355328 } => lV x.1) Try.underlying22 (fun c hc => arg_rows hc) h2
    simp [pkV, AW.isAgg, Try.underlying3, Try.underlying22] at e1 e2
    simp [reachBytes] at hl
    refine ⟨en, l.map (·.1), nl, by simp [pkV, AW.isAgg, tbV, Try.underlying24, e1, e2, List.map_map, Function.comp_def], by simp; omega, ?_, ?_⟩
    · intro x hx
      obtain ⟨a, _, rfl⟩ := List.mem_map.1 hx
      exact a.2.1
    · intro x hx
      obtain ⟨a, _, rfl⟩ := List.mem_map.1 hx
      exact a.2.2

theorem rowsWrites_reads (os : Os) {H : Type} (enc : TypeId × Value → H) : ∃ places, DataW.whole enc Try.prog ((World.holding Try.prog os ⟨#[], #[Value.agg #[.int .i64 0, .slice none 0 0]], []⟩).forCall (fun _ _ => 0) ⟨#[], #[Value.agg #[.int .i64 0, .slice none 0 0]], []⟩).memory Try.f3.params.toList Rows.rowsWritesSpec.vars false #[Value.agg #[.int .i64 0, .slice none 0 0]].toList 8 = some ([.agg [.lit (.int .i64 0), .nil]], [], places) :=
  ⟨[], by kernel_rfl⟩

theorem rowsWrites_contract (H : Type) (enc : TypeId × Value → H) (W : World) (base : Nat) (args : Array Value) (ds gs : List (DataW H)) (before : List MemPlace)
    (hval : ∀ (j : Nat) t v, Try.f3.params[j]? = some t → args[j]? = some v → Value.okWide Try.prog W .any base t v)
    (hW : DataW.Whole enc Try.prog Try.f3.params.toList Rows.rowsWritesSpec.vars false W args.toList ds gs before)
    (hwt : (DataW.weightsEach Try.prog (Try.f3.params.toList ++ Rows.rowsWritesSpec.plain.varTypes Try.prog) (ds ++ gs)).all (· ≤ reachBytes) = true) :
    Calls Try.prog 3 args W fun e W' => ∃ v, e = .returned v ∧ Rows.rowsWritesSpec.post enc Try.prog Try.f3 false true false false W args v W' := by
  refine law_contract (P := Try.prog) (fn := Try.f3) (k := 6) (ts := [24]) (tb := 4) (s := Rows.rowsWritesSpec) laidOut (by kernel_rfl) (by kernel_rfl) (by kernel_rfl) rfl Try.underlying4 rfl (fun ds h => ?_) (fun vs h => ?_) hval hW hwt
  · match ds, h with
    | [d1], _ => rfl
  · obtain ⟨c1, r, rfl, h1, h⟩ := h.inv
    obtain rfl := h.inv0
    obtain ⟨en, R, nl, e1, l1, l2, l3⟩ := arg_tab h1
    rw [e1]
    exact rowsWrites_ok en R nl l1 l2 l3

theorem rowsWrites_lifted (os : Os) (started : os.Started) (H : Type) (enc : TypeId × Value → H) (F : Stop.Interp) :
    ReturnsInHanded {} Try.checked os 3 .any ((OpenSpec.ofChange Rows.rowsWritesSpec).preRow enc Try.prog Try.f3 Rows.rowsWritesRow.domain false Rows.rowsWritesRow.laid)
      (((OpenSpec.ofChange Rows.rowsWritesSpec).at F).post enc Try.prog Try.f3 false true false false) := by
  obtain ⟨places, hx⟩ := rowsWrites_reads os enc
  refine returnsInHanded_of_row (C := Try.checked) (s := OpenSpec.ofChange Rows.rowsWritesSpec) own started (by kernel_rfl) Try.func3
    (witness_row_at (enc := enc) (C := Try.checked) false (World.holding Try.prog os ⟨#[], #[Value.agg #[.int .i64 0, .slice none 0 0]], []⟩) #[Value.agg #[.int .i64 0, .slice none 0 0]] rfl (by kernel_rfl) (by kernel_rfl) (by kernel_rfl)
      (OpenSpec.preRow_of_cond 8 hx (by kernel_rfl) (fun k hk => by cases hk) (by kernel_rfl) (show laidMetH Try.prog [] _ from ⟨[], rfl, List.nodup_nil, fun _ _ h => by cases h⟩))) ?_
  intro W base args ds gs before hval hW _ _ hwt _ _ _
  exact rowsWrites_contract H enc W base args ds gs before hval hW hwt

theorem rowsWrites_holds : Rows.RowsWritesSaid :=
  OpenClaim.holds_of_cond 3 Try.f3 rfl rfl rfl rfl rfl rfl rfl ⟨rfl, rfl, rfl, rfl, rfl⟩ rfl rfl rfl rfl rfl (by kernel_rfl) Try.func3 (by kernel_rfl)
    (of_decide_eq_true (by kernel_rfl)) (by unfold Func.isWrapper; first | (rw [if_pos (by decide +kernel)]; kernel_rfl) | (rw [if_neg (by decide +kernel)]; exact ⟨rfl, rfl⟩))
    (fun os started H enc _ F => by rw [OpenClaim.pre_eq_preRow]; exact rowsWrites_lifted os started H enc F)


theorem rowsCodes_reads (os : Os) {H : Type} (enc : TypeId × Value → H) : ∃ places, DataW.whole enc Try.prog ((World.holding Try.prog os ⟨#[], #[Value.int .i64 0, Value.int .i64 0, Value.int .i64 0], []⟩).forCall (fun _ _ => 0) ⟨#[], #[Value.int .i64 0, Value.int .i64 0, Value.int .i64 0], []⟩).memory Try.f4.params.toList Rows.rowsCodesSpec.vars false #[Value.int .i64 0, Value.int .i64 0, Value.int .i64 0].toList 8 = some ([.lit (.int .i64 0), .lit (.int .i64 0), .lit (.int .i64 0)], [], places) :=
  ⟨[], by kernel_rfl⟩

theorem rowsCodes_contract (H : Type) (enc : TypeId × Value → H) (W : World) (base : Nat) (args : Array Value) (ds gs : List (DataW H)) (before : List MemPlace)
    (hval : ∀ (j : Nat) t v, Try.f4.params[j]? = some t → args[j]? = some v → Value.okWide Try.prog W .any base t v)
    (hW : DataW.Whole enc Try.prog Try.f4.params.toList Rows.rowsCodesSpec.vars false W args.toList ds gs before)
    (hwt : (DataW.weightsEach Try.prog (Try.f4.params.toList ++ Rows.rowsCodesSpec.plain.varTypes Try.prog) (ds ++ gs)).all (· ≤ reachBytes) = true) :
    Calls Try.prog 4 args W fun e W' => ∃ v, e = .returned v ∧ Rows.rowsCodesSpec.post enc Try.prog Try.f4 false true false false W args v W' := by
  refine law_contract (P := Try.prog) (fn := Try.f4) (k := 4) (ts := [3, 3, 3]) (tb := 4) (s := Rows.rowsCodesSpec) laidOut (by kernel_rfl) (by kernel_rfl) (by kernel_rfl) rfl Try.underlying4 rfl (fun ds h => ?_) (fun vs h => ?_) hval hW hwt
  · match ds, h with
    | [d1, d2, d3], _ => rfl
  · obtain ⟨c1, r, rfl, h1, h⟩ := h.inv
    obtain ⟨c2, r, rfl, h2, h⟩ := h.inv
    obtain ⟨c3, r, rfl, h3, h⟩ := h.inv
    obtain rfl := h.inv0
    obtain ⟨t, e1, _⟩ := arg_int Try.underlying3 h1
    obtain ⟨r, e2, _⟩ := arg_int Try.underlying3 h2
    obtain ⟨x, e3, _⟩ := arg_int Try.underlying3 h3
    rw [e1, e2, e3]
    exact rowsCodes_ok t r x

theorem rowsCodes_lifted (os : Os) (started : os.Started) (H : Type) (enc : TypeId × Value → H) (F : Stop.Interp) :
    ReturnsInHanded {} Try.checked os 4 .any ((OpenSpec.ofChange Rows.rowsCodesSpec).preRow enc Try.prog Try.f4 Rows.rowsCodesRow.domain false Rows.rowsCodesRow.laid)
      (((OpenSpec.ofChange Rows.rowsCodesSpec).at F).post enc Try.prog Try.f4 false true false false) := by
  obtain ⟨places, hx⟩ := rowsCodes_reads os enc
  refine returnsInHanded_of_row (C := Try.checked) (s := OpenSpec.ofChange Rows.rowsCodesSpec) own started (by kernel_rfl) Try.func4
    (witness_row_at (enc := enc) (C := Try.checked) false (World.holding Try.prog os ⟨#[], #[Value.int .i64 0, Value.int .i64 0, Value.int .i64 0], []⟩) #[Value.int .i64 0, Value.int .i64 0, Value.int .i64 0] rfl (by kernel_rfl) (by kernel_rfl) (by kernel_rfl)
      (OpenSpec.preRow_of_cond 8 hx (by kernel_rfl) (fun k hk => by cases hk) (by kernel_rfl) (show laidMetH Try.prog [] _ from ⟨[], rfl, List.nodup_nil, fun _ _ h => by cases h⟩))) ?_
  intro W base args ds gs before hval hW _ _ hwt _ _ _
  exact rowsCodes_contract H enc W base args ds gs before hval hW hwt

theorem rowsCodes_holds : Rows.RowsCodesSaid :=
  OpenClaim.holds_of_cond 4 Try.f4 rfl rfl rfl rfl rfl rfl rfl ⟨rfl, rfl, rfl, rfl, rfl⟩ rfl rfl rfl rfl rfl (by kernel_rfl) Try.func4 (by kernel_rfl)
    (of_decide_eq_true (by kernel_rfl)) (by unfold Func.isWrapper; first | (rw [if_pos (by decide +kernel)]; kernel_rfl) | (rw [if_neg (by decide +kernel)]; exact ⟨rfl, rfl⟩))
    (fun os started H enc _ F => by rw [OpenClaim.pre_eq_preRow]; exact rowsCodes_lifted os started H enc F)


end Go.Proofs.Ytpekbapmnmnjoaa
