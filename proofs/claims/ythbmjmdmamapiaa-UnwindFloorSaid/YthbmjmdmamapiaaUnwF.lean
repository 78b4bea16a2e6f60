/- UnwindInner: what may catch comes from the inside out: what a later one tries holds all that an earlier one that is asked tries. UnwindFloor: what is asked from within a filter is asked without a floor, too; and none of it handles outside of that filter. UnwindEach: gone through one by one, just those clauses of kinds 1 and 2 are told that try an instruction, each once, in order; the finals are just those of the other kinds. UnwindAsks: of any clauses, right for some code, what is asked is what the document says. No condition. -/
import Derived.Test.YthbmjmdmamapiaaUnwE
import Derived.Test.YthbmjmdmamapiaaRows
set_option linter.unusedSimpArgs false
set_option linter.unusedVariables false
set_option maxRecDepth 100000
set_option maxHeartbeats 3200000
namespace Go.Proofs.Ythbmjmdmamapiaa
open Go Go.AW Go.ChangeShapes Go.WideShapes Go.ChangeAt Go.RowKit

theorem arg_clause2 {k : Nat} {cs : List AV} (h : ArgC Try.prog (k + 3) 45 cs) : ∃ c : Cl, pkV Try.prog 45 cs = clV c := by
  have hlen : cs.length = 10 := by
    simp only [ArgC, Try.underlying45] at h
    exact h.1
  match cs, hlen with
  | [x1, x2, x3, x4, x5, x6, x7, x8, x9, x10], _ =>
    simp [-Bool.exists_bool, ArgC, Try.underlying45, Try.underlying43, Try.underlying4, Try.underlying3] at h
    obtain ⟨⟨a1, q1, _⟩, ⟨a2, q2, _⟩, ⟨a3, q3, _⟩, ⟨a4, q4, _⟩, ⟨a5, q5, _⟩, ⟨a6, q6, _⟩, ⟨a7, q7, _⟩, ⟨a8, q8, _⟩, ⟨a9, q9, _⟩, ⟨a10, q10⟩⟩ := h
    subst q1 q2 q3 q4 q5 q6 q7 q8 q9 q10
    exact ⟨⟨a1, a2, a3, a4, a5, a6, a7, a8, a9, a10⟩, by simp [pkV, AW.isAgg, clV_def, Try.underlying45]⟩
theorem arg_clauses2 {k : Nat} {cs : List AV} (h : ArgC Try.prog (k + 4) 22 cs) : ∃ (l : List Cl) (nl : Bool), pkV Try.prog 22 cs = clsV l .unk nl ∧ l.length ≤ 140737488355328 := by
  obtain ⟨m, nm, e2, p1, p2⟩ := arg_list clV Try.underlying22 (fun c hc => arg_clause2 hc) h
  simp [reachBytes] at p2
  exact ⟨m, nm, e2, by omega⟩
theorem arg_ask {k : Nat} {cs : List AV} (h : ArgC Try.prog (k + 2) 51 cs) : ∃ a f n t : Int, pkV Try.prog 51 cs = askV a f n t ∧ -9223372036854775808 ≤ n := by
  have hlen : cs.length = 4 := by
    simp only [ArgC, Try.underlying51] at h
    exact h.1
  match cs, hlen with
  | [x1, x2, x3, x4], _ =>
    simp [-Bool.exists_bool, ArgC, Try.underlying51, Try.underlying3] at h
    obtain ⟨⟨a1, q1, _⟩, ⟨a2, q2, _⟩, ⟨a3, q3, w3⟩, ⟨a4, q4, _⟩⟩ := h
    subst q1 q2 q3 q4
    simp only [Lit.wf, IntKind.min, IntKind.max, IntKind.signed, IntKind.bits, Bool.and_eq_true, decide_eq_true_eq] at w3
    exact ⟨a1, a2, a3, a4, by simp [pkV, AW.isAgg, askV, Try.underlying51], by simp at w3; omega⟩

theorem unwindInner_reads (os : Os) {H : Type} (enc : TypeId × Value → H) : ∃ places, DataW.whole enc Try.prog ((World.holding Try.prog os ⟨#[], #[Value.slice none 0 0, Value.agg #[.int .i64 0, .int .i64 0, .int .i64 0, .int .i64 0]], []⟩).forCall (fun _ _ => 0) ⟨#[], #[Value.slice none 0 0, Value.agg #[.int .i64 0, .int .i64 0, .int .i64 0, .int .i64 0]], []⟩).memory Try.f8.params.toList Rows.unwindInnerSpec.vars false #[Value.slice none 0 0, Value.agg #[.int .i64 0, .int .i64 0, .int .i64 0, .int .i64 0]].toList 8 = some ([.nil, .agg [.lit (.int .i64 0), .lit (.int .i64 0), .lit (.int .i64 0), .lit (.int .i64 0)]], [], places) :=
  ⟨[], by kernel_rfl⟩

theorem unwindInner_contract (H : Type) (enc : TypeId × Value → H) (W : World) (base : Nat) (args : Array Value) (ds gs : List (DataW H)) (before : List MemPlace)
    (hval : ∀ (j : Nat) t v, Try.f8.params[j]? = some t → args[j]? = some v → Value.okWide Try.prog W .any base t v)
    (hW : DataW.Whole enc Try.prog Try.f8.params.toList Rows.unwindInnerSpec.vars false W args.toList ds gs before)
    (hwt : (DataW.weightsEach Try.prog (Try.f8.params.toList ++ Rows.unwindInnerSpec.plain.varTypes Try.prog) (ds ++ gs)).all (· ≤ reachBytes) = true) :
    Calls Try.prog 8 args W fun e W' => ∃ v, e = .returned v ∧ Rows.unwindInnerSpec.post enc Try.prog Try.f8 false true false false W args v W' := by
  refine law_contract (P := Try.prog) (fn := Try.f8) (k := 5) (ts := [22, 51]) (tb := 4) (s := Rows.unwindInnerSpec) laidOut (by kernel_rfl) (by kernel_rfl) (by kernel_rfl) rfl Try.underlying4 rfl (fun ds h => ?_) (fun vs h => ?_) hval hW hwt
  · match ds, h with
    | [d1, d2], _ => rfl
  · obtain ⟨c1, r, rfl, h1, h⟩ := h.inv
    obtain ⟨c2, r, rfl, h2, h⟩ := h.inv
    obtain rfl := h.inv0
    obtain ⟨l, nl, e1, hl⟩ := arg_clauses2 h1
    obtain ⟨a, f, n, t, e2, hn⟩ := arg_ask h2
    rw [e1, e2]
    exact unwindInner_ok l nl a f n t hl

theorem unwindInner_lifted (os : Os) (started : os.Started) (H : Type) (enc : TypeId × Value → H) (F : Stop.Interp) :
    ReturnsInHanded {} Try.checked os 8 .any ((OpenSpec.ofChange Rows.unwindInnerSpec).preRow enc Try.prog Try.f8 Rows.unwindInnerRow.domain false Rows.unwindInnerRow.laid)
      (((OpenSpec.ofChange Rows.unwindInnerSpec).at F).post enc Try.prog Try.f8 false true false false) := by
  obtain ⟨places, hx⟩ := unwindInner_reads os enc
  refine returnsInHanded_of_row (C := Try.checked) (s := OpenSpec.ofChange Rows.unwindInnerSpec) own started (by kernel_rfl) Try.func8
    (witness_row_at (enc := enc) (C := Try.checked) false (World.holding Try.prog os ⟨#[], #[Value.slice none 0 0, Value.agg #[.int .i64 0, .int .i64 0, .int .i64 0, .int .i64 0]], []⟩) #[Value.slice none 0 0, Value.agg #[.int .i64 0, .int .i64 0, .int .i64 0, .int .i64 0]] rfl (by kernel_rfl) (by kernel_rfl) (by kernel_rfl)
      (OpenSpec.preRow_of_cond 8 hx (by kernel_rfl) (fun k hk => by cases hk) (by kernel_rfl) (show laidMetH Try.prog [] _ from ⟨[], rfl, List.nodup_nil, fun _ _ h => by cases h⟩))) ?_
  intro W base args ds gs before hval hW _ _ hwt _ _ _
  exact unwindInner_contract H enc W base args ds gs before hval hW hwt

theorem unwindInner_holds : Rows.UnwindInnerSaid :=
  OpenClaim.holds_of_cond 8 Try.f8 rfl rfl rfl rfl rfl rfl rfl ⟨rfl, rfl, rfl, rfl, rfl⟩ rfl rfl rfl rfl rfl (by kernel_rfl) Try.func8 (by kernel_rfl)
    (of_decide_eq_true (by kernel_rfl)) (by unfold Func.isWrapper; first | (rw [if_pos (by decide +kernel)]; kernel_rfl) | (rw [if_neg (by decide +kernel)]; exact ⟨rfl, rfl⟩))
    (fun os started H enc _ F => by rw [OpenClaim.pre_eq_preRow]; exact unwindInner_lifted os started H enc F)


theorem unwindFloor_reads (os : Os) {H : Type} (enc : TypeId × Value → H) : ∃ places, DataW.whole enc Try.prog ((World.holding Try.prog os ⟨#[], #[Value.slice none 0 0, Value.agg #[.int .i64 0, .int .i64 0, .int .i64 0, .int .i64 0]], []⟩).forCall (fun _ _ => 0) ⟨#[], #[Value.slice none 0 0, Value.agg #[.int .i64 0, .int .i64 0, .int .i64 0, .int .i64 0]], []⟩).memory Try.f9.params.toList Rows.unwindFloorSpec.vars false #[Value.slice none 0 0, Value.agg #[.int .i64 0, .int .i64 0, .int .i64 0, .int .i64 0]].toList 8 = some ([.nil, .agg [.lit (.int .i64 0), .lit (.int .i64 0), .lit (.int .i64 0), .lit (.int .i64 0)]], [], places) :=
  ⟨[], by kernel_rfl⟩

theorem unwindFloor_contract (H : Type) (enc : TypeId × Value → H) (W : World) (base : Nat) (args : Array Value) (ds gs : List (DataW H)) (before : List MemPlace)
    (hval : ∀ (j : Nat) t v, Try.f9.params[j]? = some t → args[j]? = some v → Value.okWide Try.prog W .any base t v)
    (hW : DataW.Whole enc Try.prog Try.f9.params.toList Rows.unwindFloorSpec.vars false W args.toList ds gs before)
    (hwt : (DataW.weightsEach Try.prog (Try.f9.params.toList ++ Rows.unwindFloorSpec.plain.varTypes Try.prog) (ds ++ gs)).all (· ≤ reachBytes) = true) :
    Calls Try.prog 9 args W fun e W' => ∃ v, e = .returned v ∧ Rows.unwindFloorSpec.post enc Try.prog Try.f9 false true false false W args v W' := by
  refine law_contract (P := Try.prog) (fn := Try.f9) (k := 5) (ts := [22, 51]) (tb := 4) (s := Rows.unwindFloorSpec) laidOut (by kernel_rfl) (by kernel_rfl) (by kernel_rfl) rfl Try.underlying4 rfl (fun ds h => ?_) (fun vs h => ?_) hval hW hwt
  · match ds, h with
    | [d1, d2], _ => rfl
  · obtain ⟨c1, r, rfl, h1, h⟩ := h.inv
    obtain ⟨c2, r, rfl, h2, h⟩ := h.inv
    obtain rfl := h.inv0
    obtain ⟨l, nl, e1, hl⟩ := arg_clauses2 h1
    obtain ⟨a, f, n, t, e2, hn⟩ := arg_ask h2
    rw [e1, e2]
    exact unwindFloor_ok l nl a f n t hl

theorem unwindFloor_lifted (os : Os) (started : os.Started) (H : Type) (enc : TypeId × Value → H) (F : Stop.Interp) :
    ReturnsInHanded {} Try.checked os 9 .any ((OpenSpec.ofChange Rows.unwindFloorSpec).preRow enc Try.prog Try.f9 Rows.unwindFloorRow.domain false Rows.unwindFloorRow.laid)
      (((OpenSpec.ofChange Rows.unwindFloorSpec).at F).post enc Try.prog Try.f9 false true false false) := by
  obtain ⟨places, hx⟩ := unwindFloor_reads os enc
  refine returnsInHanded_of_row (C := Try.checked) (s := OpenSpec.ofChange Rows.unwindFloorSpec) own started (by kernel_rfl) Try.func9
    (witness_row_at (enc := enc) (C := Try.checked) false (World.holding Try.prog os ⟨#[], #[Value.slice none 0 0, Value.agg #[.int .i64 0, .int .i64 0, .int .i64 0, .int .i64 0]], []⟩) #[Value.slice none 0 0, Value.agg #[.int .i64 0, .int .i64 0, .int .i64 0, .int .i64 0]] rfl (by kernel_rfl) (by kernel_rfl) (by kernel_rfl)
      (OpenSpec.preRow_of_cond 8 hx (by kernel_rfl) (fun k hk => by cases hk) (by kernel_rfl) (show laidMetH Try.prog [] _ from ⟨[], rfl, List.nodup_nil, fun _ _ h => by cases h⟩))) ?_
  intro W base args ds gs before hval hW _ _ hwt _ _ _
  exact unwindFloor_contract H enc W base args ds gs before hval hW hwt

theorem unwindFloor_holds : Rows.UnwindFloorSaid :=
  OpenClaim.holds_of_cond 9 Try.f9 rfl rfl rfl rfl rfl rfl rfl ⟨rfl, rfl, rfl, rfl, rfl⟩ rfl rfl rfl rfl rfl (by kernel_rfl) Try.func9 (by kernel_rfl)
    (of_decide_eq_true (by kernel_rfl)) (by unfold Func.isWrapper; first | (rw [if_pos (by decide +kernel)]; kernel_rfl) | (rw [if_neg (by decide +kernel)]; exact ⟨rfl, rfl⟩))
    (fun os started H enc _ F => by rw [OpenClaim.pre_eq_preRow]; exact unwindFloor_lifted os started H enc F)


theorem unwindEach_reads (os : Os) {H : Type} (enc : TypeId × Value → H) : ∃ places, DataW.whole enc Try.prog ((World.holding Try.prog os ⟨#[], #[Value.slice none 0 0, Value.agg #[.int .i64 0, .int .i64 0, .int .i64 0, .int .i64 0]], []⟩).forCall (fun _ _ => 0) ⟨#[], #[Value.slice none 0 0, Value.agg #[.int .i64 0, .int .i64 0, .int .i64 0, .int .i64 0]], []⟩).memory Try.f10.params.toList Rows.unwindEachSpec.vars false #[Value.slice none 0 0, Value.agg #[.int .i64 0, .int .i64 0, .int .i64 0, .int .i64 0]].toList 8 = some ([.nil, .agg [.lit (.int .i64 0), .lit (.int .i64 0), .lit (.int .i64 0), .lit (.int .i64 0)]], [], places) :=
  ⟨[], by kernel_rfl⟩

theorem unwindEach_contract (H : Type) (enc : TypeId × Value → H) (W : World) (base : Nat) (args : Array Value) (ds gs : List (DataW H)) (before : List MemPlace)
    (hval : ∀ (j : Nat) t v, Try.f10.params[j]? = some t → args[j]? = some v → Value.okWide Try.prog W .any base t v)
    (hW : DataW.Whole enc Try.prog Try.f10.params.toList Rows.unwindEachSpec.vars false W args.toList ds gs before)
    (hwt : (DataW.weightsEach Try.prog (Try.f10.params.toList ++ Rows.unwindEachSpec.plain.varTypes Try.prog) (ds ++ gs)).all (· ≤ reachBytes) = true) :
    Calls Try.prog 10 args W fun e W' => ∃ v, e = .returned v ∧ Rows.unwindEachSpec.post enc Try.prog Try.f10 false true false false W args v W' := by
  refine law_contract (P := Try.prog) (fn := Try.f10) (k := 5) (ts := [22, 51]) (tb := 4) (s := Rows.unwindEachSpec) laidOut (by kernel_rfl) (by kernel_rfl) (by kernel_rfl) rfl Try.underlying4 rfl (fun ds h => ?_) (fun vs h => ?_) hval hW hwt
  · match ds, h with
    | [d1, d2], _ => rfl
  · obtain ⟨c1, r, rfl, h1, h⟩ := h.inv
    obtain ⟨c2, r, rfl, h2, h⟩ := h.inv
    obtain rfl := h.inv0
    obtain ⟨l, nl, e1, hl⟩ := arg_clauses2 h1
    obtain ⟨a, f, n, t, e2, hn⟩ := arg_ask h2
    rw [e1, e2]
    exact unwindEach_ok l nl a f n t hl

theorem unwindEach_lifted (os : Os) (started : os.Started) (H : Type) (enc : TypeId × Value → H) (F : Stop.Interp) :
    ReturnsInHanded {} Try.checked os 10 .any ((OpenSpec.ofChange Rows.unwindEachSpec).preRow enc Try.prog Try.f10 Rows.unwindEachRow.domain false Rows.unwindEachRow.laid)
      (((OpenSpec.ofChange Rows.unwindEachSpec).at F).post enc Try.prog Try.f10 false true false false) := by
  obtain ⟨places, hx⟩ := unwindEach_reads os enc
  refine returnsInHanded_of_row (C := Try.checked) (s := OpenSpec.ofChange Rows.unwindEachSpec) own started (by kernel_rfl) Try.func10
    (witness_row_at (enc := enc) (C := Try.checked) false (World.holding Try.prog os ⟨#[], #[Value.slice none 0 0, Value.agg #[.int .i64 0, .int .i64 0, .int .i64 0, .int .i64 0]], []⟩) #[Value.slice none 0 0, Value.agg #[.int .i64 0, .int .i64 0, .int .i64 0, .int .i64 0]] rfl (by kernel_rfl) (by kernel_rfl) (by kernel_rfl)
      (OpenSpec.preRow_of_cond 8 hx (by kernel_rfl) (fun k hk => by cases hk) (by kernel_rfl) (show laidMetH Try.prog [] _ from ⟨[], rfl, List.nodup_nil, fun _ _ h => by cases h⟩))) ?_
  intro W base args ds gs before hval hW _ _ hwt _ _ _
  exact unwindEach_contract H enc W base args ds gs before hval hW hwt

theorem unwindEach_holds : Rows.UnwindEachSaid :=
  OpenClaim.holds_of_cond 10 Try.f10 rfl rfl rfl rfl rfl rfl rfl ⟨rfl, rfl, rfl, rfl, rfl⟩ rfl rfl rfl rfl rfl (by kernel_rfl) Try.func10 (by kernel_rfl)
    (of_decide_eq_true (by kernel_rfl)) (by unfold Func.isWrapper; first | (rw [if_pos (by decide +kernel)]; kernel_rfl) | (rw [if_neg (by decide +kernel)]; exact ⟨rfl, rfl⟩))
    (fun os started H enc _ F => by rw [OpenClaim.pre_eq_preRow]; exact unwindEach_lifted os started H enc F)


theorem unwindAsks_reads (os : Os) {H : Type} (enc : TypeId × Value → H) : ∃ places, DataW.whole enc Try.prog ((World.holding Try.prog os ⟨#[], #[Value.slice none 0 0, Value.agg #[.int .i64 0, .int .i64 0, .int .i64 0, .int .i64 0]], []⟩).forCall (fun _ _ => 0) ⟨#[], #[Value.slice none 0 0, Value.agg #[.int .i64 0, .int .i64 0, .int .i64 0, .int .i64 0]], []⟩).memory Try.f11.params.toList Rows.unwindAsksSpec.vars false #[Value.slice none 0 0, Value.agg #[.int .i64 0, .int .i64 0, .int .i64 0, .int .i64 0]].toList 8 = some ([.nil, .agg [.lit (.int .i64 0), .lit (.int .i64 0), .lit (.int .i64 0), .lit (.int .i64 0)]], [], places) :=
  ⟨[], by kernel_rfl⟩

theorem unwindAsks_contract (H : Type) (enc : TypeId × Value → H) (W : World) (base : Nat) (args : Array Value) (ds gs : List (DataW H)) (before : List MemPlace)
    (hval : ∀ (j : Nat) t v, Try.f11.params[j]? = some t → args[j]? = some v → Value.okWide Try.prog W .any base t v)
    (hW : DataW.Whole enc Try.prog Try.f11.params.toList Rows.unwindAsksSpec.vars false W args.toList ds gs before)
    (hwt : (DataW.weightsEach Try.prog (Try.f11.params.toList ++ Rows.unwindAsksSpec.plain.varTypes Try.prog) (ds ++ gs)).all (· ≤ reachBytes) = true) :
    Calls Try.prog 11 args W fun e W' => ∃ v, e = .returned v ∧ Rows.unwindAsksSpec.post enc Try.prog Try.f11 false true false false W args v W' := by
  refine law_contract (P := Try.prog) (fn := Try.f11) (k := 5) (ts := [22, 51]) (tb := 4) (s := Rows.unwindAsksSpec) laidOut (by kernel_rfl) (by kernel_rfl) (by kernel_rfl) rfl Try.underlying4 rfl (fun ds h => ?_) (fun vs h => ?_) hval hW hwt
  · match ds, h with
    | [d1, d2], _ => rfl
  · obtain ⟨c1, r, rfl, h1, h⟩ := h.inv
    obtain ⟨c2, r, rfl, h2, h⟩ := h.inv
    obtain rfl := h.inv0
    obtain ⟨l, nl, e1, hl⟩ := arg_clauses2 h1
    obtain ⟨a, f, n, t, e2, hn⟩ := arg_ask h2
    rw [e1, e2]
    exact unwindAsks_ok l nl a f n t hn hl

theorem unwindAsks_lifted (os : Os) (started : os.Started) (H : Type) (enc : TypeId × Value → H) (F : Stop.Interp) :
    ReturnsInHanded {} Try.checked os 11 .any ((OpenSpec.ofChange Rows.unwindAsksSpec).preRow enc Try.prog Try.f11 Rows.unwindAsksRow.domain false Rows.unwindAsksRow.laid)
      (((OpenSpec.ofChange Rows.unwindAsksSpec).at F).post enc Try.prog Try.f11 false true false false) := by
  obtain ⟨places, hx⟩ := unwindAsks_reads os enc
  refine returnsInHanded_of_row (C := Try.checked) (s := OpenSpec.ofChange Rows.unwindAsksSpec) own started (by kernel_rfl) Try.func11
    (witness_row_at (enc := enc) (C := Try.checked) false (World.holding Try.prog os ⟨#[], #[Value.slice none 0 0, Value.agg #[.int .i64 0, .int .i64 0, .int .i64 0, .int .i64 0]], []⟩) #[Value.slice none 0 0, Value.agg #[.int .i64 0, .int .i64 0, .int .i64 0, .int .i64 0]] rfl (by kernel_rfl) (by kernel_rfl) (by kernel_rfl)
      (OpenSpec.preRow_of_cond 8 hx (by kernel_rfl) (fun k hk => by cases hk) (by kernel_rfl) (show laidMetH Try.prog [] _ from ⟨[], rfl, List.nodup_nil, fun _ _ h => by cases h⟩))) ?_
  intro W base args ds gs before hval hW _ _ hwt _ _ _
  exact unwindAsks_contract H enc W base args ds gs before hval hW hwt

theorem unwindAsks_holds : Rows.UnwindAsksSaid :=
  OpenClaim.holds_of_cond 11 Try.f11 rfl rfl rfl rfl rfl rfl rfl ⟨rfl, rfl, rfl, rfl, rfl⟩ rfl rfl rfl rfl rfl (by kernel_rfl) Try.func11 (by kernel_rfl)
    (of_decide_eq_true (by kernel_rfl)) (by unfold Func.isWrapper; first | (rw [if_pos (by decide +kernel)]; kernel_rfl) | (rw [if_neg (by decide +kernel)]; exact ⟨rfl, rfl⟩))
    (fun os started H enc _ F => by rw [OpenClaim.pre_eq_preRow]; exact unwindAsks_lifted os started H enc F)


end Go.Proofs.Ythbmjmdmamapiaa
