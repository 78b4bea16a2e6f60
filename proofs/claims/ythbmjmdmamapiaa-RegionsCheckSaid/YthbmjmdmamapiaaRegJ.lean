/- RegionsCheck: any clauses are right, or wrong at the first one and by the error, as the document says. RegionsLess: of clauses that are right the first ones are right, too, and in a longer code as well. RegionsChain: any instruction's chain, and what tries it, are what the document says; each region of a chain lies within the next one. RegionsStay: an instruction may pass to itself, and to any that has the same chain; what may pass goes through nothing that is final. RegionsWays: the way may go on, by itself or by leave, just where the document says so; what may pass may leave; and what is gone through on the way is what it says. No condition. -/
import Derived.Test.YthbmjmdmamapiaaRegI
import Derived.Test.YthbmjmdmamapiaaRows
set_option linter.unusedSimpArgs false
set_option linter.unusedVariables false
set_option maxRecDepth 100000
set_option maxHeartbeats 3200000
namespace Go.Proofs.Ythbmjmdmamapiaa
open Go Go.AW Go.ChangeShapes Go.WideShapes Go.ChangeAt Go.RowKit

theorem arg_clause {k : Nat} {cs : List AV} (h : ArgC Try.prog (k + 3) 45 cs) : ∃ c : Cl, pkV Try.prog 45 cs = clV c := by
  have hlen : cs.length = 10 := by
    simp only [ArgC, Try.underlying45] at h
    exact h.1
  match cs, hlen with
  | [x1, x2, x3, x4, x5, x6, x7, x8, x9, x10], _ =>
    simp [-Bool.exists_bool, ArgC, Try.underlying45, Try.underlying43, Try.underlying4, Try.underlying3] at h
    obtain ⟨⟨a1, q1, _⟩, ⟨a2, q2, _⟩, ⟨a3, q3, _⟩, ⟨a4, q4, _⟩, ⟨a5, q5, _⟩, ⟨a6, q6, _⟩, ⟨a7, q7, _⟩, ⟨a8, q8, _⟩, ⟨a9, q9, _⟩, ⟨a10, q10⟩⟩ := h
    subst q1 q2 q3 q4 q5 q6 q7 q8 q9 q10
    exact ⟨⟨a1, a2, a3, a4, a5, a6, a7, a8, a9, a10⟩, by simp [pkV, AW.isAgg, clV_def, Try.underlying45]⟩
theorem arg_clauses {k : Nat} {cs : List AV} (h : ArgC Try.prog (k + 4) 22 cs) : ∃ (l : List Cl) (nl : Bool), pkV Try.prog 22 cs = clsV l .unk nl ∧ l.length ≤ 140737488355328 := by
  obtain ⟨m, nm, e2, p1, p2⟩ := arg_list clV Try.underlying22 (fun c hc => arg_clause hc) h
  simp [reachBytes] at p2
  exact ⟨m, nm, e2, by omega⟩
theorem arg_way {k : Nat} {cs : List AV} (h : ArgC Try.prog (k + 2) 33 cs) : ∃ n x y : Int, pkV Try.prog 33 cs = .agg [.sc (.int .i64 n), .sc (.int .i64 x), .sc (.int .i64 y)] := by
  have hlen : cs.length = 3 := by
    simp only [ArgC, Try.underlying33] at h
    exact h.1
  match cs, hlen with
  | [x1, x2, x3], _ =>
    simp [-Bool.exists_bool, ArgC, Try.underlying33, Try.underlying3] at h
    obtain ⟨⟨a1, q1, _⟩, ⟨a2, q2, _⟩, ⟨a3, q3, _⟩⟩ := h
    subst q1 q2 q3
    exact ⟨a1, a2, a3, by simp [pkV, AW.isAgg, Try.underlying33]⟩

theorem regionsCheck_reads (os : Os) {H : Type} (enc : TypeId × Value → H) : ∃ places, DataW.whole enc Try.prog ((World.holding Try.prog os ⟨#[], #[Value.int .i64 0, Value.slice none 0 0], []⟩).forCall (fun _ _ => 0) ⟨#[], #[Value.int .i64 0, Value.slice none 0 0], []⟩).memory Try.f3.params.toList Rows.regionsCheckSpec.vars false #[Value.int .i64 0, Value.slice none 0 0].toList 8 = some ([.lit (.int .i64 0), .nil], [], places) :=
  ⟨[], by kernel_rfl⟩

theorem regionsCheck_contract (H : Type) (enc : TypeId × Value → H) (W : World) (base : Nat) (args : Array Value) (ds gs : List (DataW H)) (before : List MemPlace)
    (hval : ∀ (j : Nat) t v, Try.f3.params[j]? = some t → args[j]? = some v → Value.okWide Try.prog W .any base t v)
    (hW : DataW.Whole enc Try.prog Try.f3.params.toList Rows.regionsCheckSpec.vars false W args.toList ds gs before)
    (hwt : (DataW.weightsEach Try.prog (Try.f3.params.toList ++ Rows.regionsCheckSpec.plain.varTypes Try.prog) (ds ++ gs)).all (· ≤ reachBytes) = true) :
    Calls Try.prog 3 args W fun e W' => ∃ v, e = .returned v ∧ Rows.regionsCheckSpec.post enc Try.prog Try.f3 false true false false W args v W' := by
  refine law_contract (P := Try.prog) (fn := Try.f3) (k := 5) (ts := [3, 22]) (tb := 4) (s := Rows.regionsCheckSpec) laidOut (by kernel_rfl) (by kernel_rfl) (by kernel_rfl) rfl Try.underlying4 rfl (fun ds h => ?_) (fun vs h => ?_) hval hW hwt
  · match ds, h with
    | [d1, d2], _ => rfl
  · obtain ⟨c1, r, rfl, h1, h⟩ := h.inv
    obtain ⟨c2, r, rfl, h2, h⟩ := h.inv
    obtain rfl := h.inv0
    obtain ⟨n, e1, _⟩ := arg_int Try.underlying3 h1
    obtain ⟨l, nl, e2, hl⟩ := arg_clauses h2
    rw [e1, e2]
    exact regionsCheck_ok n l nl hl

theorem regionsCheck_lifted (os : Os) (started : os.Started) (H : Type) (enc : TypeId × Value → H) (F : Stop.Interp) :
    ReturnsInHanded {} Try.checked os 3 .any ((OpenSpec.ofChange Rows.regionsCheckSpec).preRow enc Try.prog Try.f3 Rows.regionsCheckRow.domain false Rows.regionsCheckRow.laid)
      (((OpenSpec.ofChange Rows.regionsCheckSpec).at F).post enc Try.prog Try.f3 false true false false) := by
  obtain ⟨places, hx⟩ := regionsCheck_reads os enc
  refine returnsInHanded_of_row (C := Try.checked) (s := OpenSpec.ofChange Rows.regionsCheckSpec) own started (by kernel_rfl) Try.func3
    (witness_row_at (enc := enc) (C := Try.checked) false (World.holding Try.prog os ⟨#[], #[Value.int .i64 0, Value.slice none 0 0], []⟩) #[Value.int .i64 0, Value.slice none 0 0] rfl (by kernel_rfl) (by kernel_rfl) (by kernel_rfl)
      (OpenSpec.preRow_of_cond 8 hx (by kernel_rfl) (fun k hk => by cases hk) (by kernel_rfl) (show laidMetH Try.prog [] _ from ⟨[], rfl, List.nodup_nil, fun _ _ h => by cases h⟩))) ?_
  intro W base args ds gs before hval hW _ _ hwt _ _ _
  exact regionsCheck_contract H enc W base args ds gs before hval hW hwt

theorem regionsCheck_holds : Rows.RegionsCheckSaid :=
  OpenClaim.holds_of_cond 3 Try.f3 rfl rfl rfl rfl rfl rfl rfl ⟨rfl, rfl, rfl, rfl, rfl⟩ rfl rfl rfl rfl rfl (by kernel_rfl) Try.func3 (by kernel_rfl)
    (of_decide_eq_true (by kernel_rfl)) (by unfold Func.isWrapper; first | (rw [if_pos (by decide +kernel)]; kernel_rfl) | (rw [if_neg (by decide +kernel)]; exact ⟨rfl, rfl⟩))
    (fun os started H enc _ F => by rw [OpenClaim.pre_eq_preRow]; exact regionsCheck_lifted os started H enc F)


theorem regionsLess_reads (os : Os) {H : Type} (enc : TypeId × Value → H) : ∃ places, DataW.whole enc Try.prog ((World.holding Try.prog os ⟨#[], #[Value.int .i64 0, Value.slice none 0 0, Value.int .u8 0], []⟩).forCall (fun _ _ => 0) ⟨#[], #[Value.int .i64 0, Value.slice none 0 0, Value.int .u8 0], []⟩).memory Try.f4.params.toList Rows.regionsLessSpec.vars false #[Value.int .i64 0, Value.slice none 0 0, Value.int .u8 0].toList 8 = some ([.lit (.int .i64 0), .nil, .lit (.int .u8 0)], [], places) :=
  ⟨[], by kernel_rfl⟩

theorem regionsLess_contract (H : Type) (enc : TypeId × Value → H) (W : World) (base : Nat) (args : Array Value) (ds gs : List (DataW H)) (before : List MemPlace)
    (hval : ∀ (j : Nat) t v, Try.f4.params[j]? = some t → args[j]? = some v → Value.okWide Try.prog W .any base t v)
    (hW : DataW.Whole enc Try.prog Try.f4.params.toList Rows.regionsLessSpec.vars false W args.toList ds gs before)
    (hwt : (DataW.weightsEach Try.prog (Try.f4.params.toList ++ Rows.regionsLessSpec.plain.varTypes Try.prog) (ds ++ gs)).all (· ≤ reachBytes) = true) :
    Calls Try.prog 4 args W fun e W' => ∃ v, e = .returned v ∧ Rows.regionsLessSpec.post enc Try.prog Try.f4 false true false false W args v W' := by
  refine law_contract (P := Try.prog) (fn := Try.f4) (k := 5) (ts := [3, 22, 5]) (tb := 4) (s := Rows.regionsLessSpec) laidOut (by kernel_rfl) (by kernel_rfl) (by kernel_rfl) rfl Try.underlying4 rfl (fun ds h => ?_) (fun vs h => ?_) hval hW hwt
  · match ds, h with
    | [d1, d2, d3], _ => rfl
  · obtain ⟨c1, r, rfl, h1, h⟩ := h.inv
    obtain ⟨c2, r, rfl, h2, h⟩ := h.inv
    obtain ⟨c3, r, rfl, h3, h⟩ := h.inv
    obtain rfl := h.inv0
    obtain ⟨n, e1, w1⟩ := arg_int Try.underlying3 h1
    obtain ⟨l, nl, e2, hl⟩ := arg_clauses h2
    obtain ⟨k, e3, w3⟩ := arg_int Try.underlying5 h3
    simp only [Lit.wf, IntKind.min, IntKind.max, IntKind.signed, IntKind.bits, Bool.and_eq_true, decide_eq_true_eq] at w1 w3
    rw [e1, e2, e3]
    exact regionsLess_ok n l nl k (by simp at w3; omega) (by simp at w3; omega) (by simp at w1; omega) hl

theorem regionsLess_lifted (os : Os) (started : os.Started) (H : Type) (enc : TypeId × Value → H) (F : Stop.Interp) :
    ReturnsInHanded {} Try.checked os 4 .any ((OpenSpec.ofChange Rows.regionsLessSpec).preRow enc Try.prog Try.f4 Rows.regionsLessRow.domain false Rows.regionsLessRow.laid)
      (((OpenSpec.ofChange Rows.regionsLessSpec).at F).post enc Try.prog Try.f4 false true false false) := by
  obtain ⟨places, hx⟩ := regionsLess_reads os enc
  refine returnsInHanded_of_row (C := Try.checked) (s := OpenSpec.ofChange Rows.regionsLessSpec) own started (by kernel_rfl) Try.func4
    (witness_row_at (enc := enc) (C := Try.checked) false (World.holding Try.prog os ⟨#[], #[Value.int .i64 0, Value.slice none 0 0, Value.int .u8 0], []⟩) #[Value.int .i64 0, Value.slice none 0 0, Value.int .u8 0] rfl (by kernel_rfl) (by kernel_rfl) (by kernel_rfl)
      (OpenSpec.preRow_of_cond 8 hx (by kernel_rfl) (fun k hk => by cases hk) (by kernel_rfl) (show laidMetH Try.prog [] _ from ⟨[], rfl, List.nodup_nil, fun _ _ h => by cases h⟩))) ?_
  intro W base args ds gs before hval hW _ _ hwt _ _ _
  exact regionsLess_contract H enc W base args ds gs before hval hW hwt

theorem regionsLess_holds : Rows.RegionsLessSaid :=
  OpenClaim.holds_of_cond 4 Try.f4 rfl rfl rfl rfl rfl rfl rfl ⟨rfl, rfl, rfl, rfl, rfl⟩ rfl rfl rfl rfl rfl (by kernel_rfl) Try.func4 (by kernel_rfl)
    (of_decide_eq_true (by kernel_rfl)) (by unfold Func.isWrapper; first | (rw [if_pos (by decide +kernel)]; kernel_rfl) | (rw [if_neg (by decide +kernel)]; exact ⟨rfl, rfl⟩))
    (fun os started H enc _ F => by rw [OpenClaim.pre_eq_preRow]; exact regionsLess_lifted os started H enc F)


theorem regionsChain_reads (os : Os) {H : Type} (enc : TypeId × Value → H) : ∃ places, DataW.whole enc Try.prog ((World.holding Try.prog os ⟨#[], #[Value.slice none 0 0, Value.agg #[.int .i64 0, .int .i64 0, .int .i64 0]], []⟩).forCall (fun _ _ => 0) ⟨#[], #[Value.slice none 0 0, Value.agg #[.int .i64 0, .int .i64 0, .int .i64 0]], []⟩).memory Try.f5.params.toList Rows.regionsChainSpec.vars false #[Value.slice none 0 0, Value.agg #[.int .i64 0, .int .i64 0, .int .i64 0]].toList 8 = some ([.nil, .agg [.lit (.int .i64 0), .lit (.int .i64 0), .lit (.int .i64 0)]], [], places) :=
  ⟨[], by kernel_rfl⟩

theorem regionsChain_contract (H : Type) (enc : TypeId × Value → H) (W : World) (base : Nat) (args : Array Value) (ds gs : List (DataW H)) (before : List MemPlace)
    (hval : ∀ (j : Nat) t v, Try.f5.params[j]? = some t → args[j]? = some v → Value.okWide Try.prog W .any base t v)
    (hW : DataW.Whole enc Try.prog Try.f5.params.toList Rows.regionsChainSpec.vars false W args.toList ds gs before)
    (hwt : (DataW.weightsEach Try.prog (Try.f5.params.toList ++ Rows.regionsChainSpec.plain.varTypes Try.prog) (ds ++ gs)).all (· ≤ reachBytes) = true) :
    Calls Try.prog 5 args W fun e W' => ∃ v, e = .returned v ∧ Rows.regionsChainSpec.post enc Try.prog Try.f5 false true false false W args v W' := by
  refine law_contract (P := Try.prog) (fn := Try.f5) (k := 5) (ts := [22, 33]) (tb := 4) (s := Rows.regionsChainSpec) laidOut (by kernel_rfl) (by kernel_rfl) (by kernel_rfl) rfl Try.underlying4 rfl (fun ds h => ?_) (fun vs h => ?_) hval hW hwt
  · match ds, h with
    | [d1, d2], _ => rfl
  · obtain ⟨c1, r, rfl, h1, h⟩ := h.inv
    obtain ⟨c2, r, rfl, h2, h⟩ := h.inv
    obtain rfl := h.inv0
    obtain ⟨l, nl, e1, hl⟩ := arg_clauses h1
    obtain ⟨n, x, y, e2⟩ := arg_way h2
    rw [e1, e2]
    exact regionsChain_ok l nl n x y hl

theorem regionsChain_lifted (os : Os) (started : os.Started) (H : Type) (enc : TypeId × Value → H) (F : Stop.Interp) :
    ReturnsInHanded {} Try.checked os 5 .any ((OpenSpec.ofChange Rows.regionsChainSpec).preRow enc Try.prog Try.f5 Rows.regionsChainRow.domain false Rows.regionsChainRow.laid)
      (((OpenSpec.ofChange Rows.regionsChainSpec).at F).post enc Try.prog Try.f5 false true false false) := by
  obtain ⟨places, hx⟩ := regionsChain_reads os enc
  refine returnsInHanded_of_row (C := Try.checked) (s := OpenSpec.ofChange Rows.regionsChainSpec) own started (by kernel_rfl) Try.func5
    (witness_row_at (enc := enc) (C := Try.checked) false (World.holding Try.prog os ⟨#[], #[Value.slice none 0 0, Value.agg #[.int .i64 0, .int .i64 0, .int .i64 0]], []⟩) #[Value.slice none 0 0, Value.agg #[.int .i64 0, .int .i64 0, .int .i64 0]] rfl (by kernel_rfl) (by kernel_rfl) (by kernel_rfl)
      (OpenSpec.preRow_of_cond 8 hx (by kernel_rfl) (fun k hk => by cases hk) (by kernel_rfl) (show laidMetH Try.prog [] _ from ⟨[], rfl, List.nodup_nil, fun _ _ h => by cases h⟩))) ?_
  intro W base args ds gs before hval hW _ _ hwt _ _ _
  exact regionsChain_contract H enc W base args ds gs before hval hW hwt

theorem regionsChain_holds : Rows.RegionsChainSaid :=
  OpenClaim.holds_of_cond 5 Try.f5 rfl rfl rfl rfl rfl rfl rfl ⟨rfl, rfl, rfl, rfl, rfl⟩ rfl rfl rfl rfl rfl (by kernel_rfl) Try.func5 (by kernel_rfl)
    (of_decide_eq_true (by kernel_rfl)) (by unfold Func.isWrapper; first | (rw [if_pos (by decide +kernel)]; kernel_rfl) | (rw [if_neg (by decide +kernel)]; exact ⟨rfl, rfl⟩))
    (fun os started H enc _ F => by rw [OpenClaim.pre_eq_preRow]; exact regionsChain_lifted os started H enc F)


theorem regionsStay_reads (os : Os) {H : Type} (enc : TypeId × Value → H) : ∃ places, DataW.whole enc Try.prog ((World.holding Try.prog os ⟨#[], #[Value.slice none 0 0, Value.agg #[.int .i64 0, .int .i64 0, .int .i64 0]], []⟩).forCall (fun _ _ => 0) ⟨#[], #[Value.slice none 0 0, Value.agg #[.int .i64 0, .int .i64 0, .int .i64 0]], []⟩).memory Try.f6.params.toList Rows.regionsStaySpec.vars false #[Value.slice none 0 0, Value.agg #[.int .i64 0, .int .i64 0, .int .i64 0]].toList 8 = some ([.nil, .agg [.lit (.int .i64 0), .lit (.int .i64 0), .lit (.int .i64 0)]], [], places) :=
  ⟨[], by kernel_rfl⟩

theorem regionsStay_contract (H : Type) (enc : TypeId × Value → H) (W : World) (base : Nat) (args : Array Value) (ds gs : List (DataW H)) (before : List MemPlace)
    (hval : ∀ (j : Nat) t v, Try.f6.params[j]? = some t → args[j]? = some v → Value.okWide Try.prog W .any base t v)
    (hW : DataW.Whole enc Try.prog Try.f6.params.toList Rows.regionsStaySpec.vars false W args.toList ds gs before)
    (hwt : (DataW.weightsEach Try.prog (Try.f6.params.toList ++ Rows.regionsStaySpec.plain.varTypes Try.prog) (ds ++ gs)).all (· ≤ reachBytes) = true) :
    Calls Try.prog 6 args W fun e W' => ∃ v, e = .returned v ∧ Rows.regionsStaySpec.post enc Try.prog Try.f6 false true false false W args v W' := by
  refine law_contract (P := Try.prog) (fn := Try.f6) (k := 5) (ts := [22, 33]) (tb := 4) (s := Rows.regionsStaySpec) laidOut (by kernel_rfl) (by kernel_rfl) (by kernel_rfl) rfl Try.underlying4 rfl (fun ds h => ?_) (fun vs h => ?_) hval hW hwt
  · match ds, h with
    | [d1, d2], _ => rfl
  · obtain ⟨c1, r, rfl, h1, h⟩ := h.inv
    obtain ⟨c2, r, rfl, h2, h⟩ := h.inv
    obtain rfl := h.inv0
    obtain ⟨l, nl, e1, hl⟩ := arg_clauses h1
    obtain ⟨n, x, y, e2⟩ := arg_way h2
    rw [e1, e2]
    exact regionsStay_ok l nl n x y hl

theorem regionsStay_lifted (os : Os) (started : os.Started) (H : Type) (enc : TypeId × Value → H) (F : Stop.Interp) :
    ReturnsInHanded {} Try.checked os 6 .any ((OpenSpec.ofChange Rows.regionsStaySpec).preRow enc Try.prog Try.f6 Rows.regionsStayRow.domain false Rows.regionsStayRow.laid)
      (((OpenSpec.ofChange Rows.regionsStaySpec).at F).post enc Try.prog Try.f6 false true false false) := by
  obtain ⟨places, hx⟩ := regionsStay_reads os enc
  refine returnsInHanded_of_row (C := Try.checked) (s := OpenSpec.ofChange Rows.regionsStaySpec) own started (by kernel_rfl) Try.func6
    (witness_row_at (enc := enc) (C := Try.checked) false (World.holding Try.prog os ⟨#[], #[Value.slice none 0 0, Value.agg #[.int .i64 0, .int .i64 0, .int .i64 0]], []⟩) #[Value.slice none 0 0, Value.agg #[.int .i64 0, .int .i64 0, .int .i64 0]] rfl (by kernel_rfl) (by kernel_rfl) (by kernel_rfl)
      (OpenSpec.preRow_of_cond 8 hx (by kernel_rfl) (fun k hk => by cases hk) (by kernel_rfl) (show laidMetH Try.prog [] _ from ⟨[], rfl, List.nodup_nil, fun _ _ h => by cases h⟩))) ?_
  intro W base args ds gs before hval hW _ _ hwt _ _ _
  exact regionsStay_contract H enc W base args ds gs before hval hW hwt

theorem regionsStay_holds : Rows.RegionsStaySaid :=
  OpenClaim.holds_of_cond 6 Try.f6 rfl rfl rfl rfl rfl rfl rfl ⟨rfl, rfl, rfl, rfl, rfl⟩ rfl rfl rfl rfl rfl (by kernel_rfl) Try.func6 (by kernel_rfl)
    (of_decide_eq_true (by kernel_rfl)) (by unfold Func.isWrapper; first | (rw [if_pos (by decide +kernel)]; kernel_rfl) | (rw [if_neg (by decide +kernel)]; exact ⟨rfl, rfl⟩))
    (fun os started H enc _ F => by rw [OpenClaim.pre_eq_preRow]; exact regionsStay_lifted os started H enc F)


theorem regionsWays_reads (os : Os) {H : Type} (enc : TypeId × Value → H) : ∃ places, DataW.whole enc Try.prog ((World.holding Try.prog os ⟨#[], #[Value.slice none 0 0, Value.agg #[.int .i64 0, .int .i64 0, .int .i64 0]], []⟩).forCall (fun _ _ => 0) ⟨#[], #[Value.slice none 0 0, Value.agg #[.int .i64 0, .int .i64 0, .int .i64 0]], []⟩).memory Try.f7.params.toList Rows.regionsWaysSpec.vars false #[Value.slice none 0 0, Value.agg #[.int .i64 0, .int .i64 0, .int .i64 0]].toList 8 = some ([.nil, .agg [.lit (.int .i64 0), .lit (.int .i64 0), .lit (.int .i64 0)]], [], places) :=
  ⟨[], by kernel_rfl⟩

theorem regionsWays_contract (H : Type) (enc : TypeId × Value → H) (W : World) (base : Nat) (args : Array Value) (ds gs : List (DataW H)) (before : List MemPlace)
    (hval : ∀ (j : Nat) t v, Try.f7.params[j]? = some t → args[j]? = some v → Value.okWide Try.prog W .any base t v)
    (hW : DataW.Whole enc Try.prog Try.f7.params.toList Rows.regionsWaysSpec.vars false W args.toList ds gs before)
    (hwt : (DataW.weightsEach Try.prog (Try.f7.params.toList ++ Rows.regionsWaysSpec.plain.varTypes Try.prog) (ds ++ gs)).all (· ≤ reachBytes) = true) :
    Calls Try.prog 7 args W fun e W' => ∃ v, e = .returned v ∧ Rows.regionsWaysSpec.post enc Try.prog Try.f7 false true false false W args v W' := by
  refine law_contract (P := Try.prog) (fn := Try.f7) (k := 5) (ts := [22, 33]) (tb := 4) (s := Rows.regionsWaysSpec) laidOut (by kernel_rfl) (by kernel_rfl) (by kernel_rfl) rfl Try.underlying4 rfl (fun ds h => ?_) (fun vs h => ?_) hval hW hwt
  · match ds, h with
    | [d1, d2], _ => rfl
  · obtain ⟨c1, r, rfl, h1, h⟩ := h.inv
    obtain ⟨c2, r, rfl, h2, h⟩ := h.inv
    obtain rfl := h.inv0
    obtain ⟨l, nl, e1, hl⟩ := arg_clauses h1
    obtain ⟨n, x, y, e2⟩ := arg_way h2
    rw [e1, e2]
    exact regionsWays_ok l nl n x y hl

theorem regionsWays_lifted (os : Os) (started : os.Started) (H : Type) (enc : TypeId × Value → H) (F : Stop.Interp) :
    ReturnsInHanded {} Try.checked os 7 .any ((OpenSpec.ofChange Rows.regionsWaysSpec).preRow enc Try.prog Try.f7 Rows.regionsWaysRow.domain false Rows.regionsWaysRow.laid)
      (((OpenSpec.ofChange Rows.regionsWaysSpec).at F).post enc Try.prog Try.f7 false true false false) := by
  obtain ⟨places, hx⟩ := regionsWays_reads os enc
  refine returnsInHanded_of_row (C := Try.checked) (s := OpenSpec.ofChange Rows.regionsWaysSpec) own started (by kernel_rfl) Try.func7
    (witness_row_at (enc := enc) (C := Try.checked) false (World.holding Try.prog os ⟨#[], #[Value.slice none 0 0, Value.agg #[.int .i64 0, .int .i64 0, .int .i64 0]], []⟩) #[Value.slice none 0 0, Value.agg #[.int .i64 0, .int .i64 0, .int .i64 0]] rfl (by kernel_rfl) (by kernel_rfl) (by kernel_rfl)
      (OpenSpec.preRow_of_cond 8 hx (by kernel_rfl) (fun k hk => by cases hk) (by kernel_rfl) (show laidMetH Try.prog [] _ from ⟨[], rfl, List.nodup_nil, fun _ _ h => by cases h⟩))) ?_
  intro W base args ds gs before hval hW _ _ hwt _ _ _
  exact regionsWays_contract H enc W base args ds gs before hval hW hwt

theorem regionsWays_holds : Rows.RegionsWaysSaid :=
  OpenClaim.holds_of_cond 7 Try.f7 rfl rfl rfl rfl rfl rfl rfl ⟨rfl, rfl, rfl, rfl, rfl⟩ rfl rfl rfl rfl rfl (by kernel_rfl) Try.func7 (by kernel_rfl)
    (of_decide_eq_true (by kernel_rfl)) (by unfold Func.isWrapper; first | (rw [if_pos (by decide +kernel)]; kernel_rfl) | (rw [if_neg (by decide +kernel)]; exact ⟨rfl, rfl⟩))
    (fun os started H enc _ F => by rw [OpenClaim.pre_eq_preRow]; exact regionsWays_lifted os started H enc F)


end Go.Proofs.Ythbmjmdmamapiaa
