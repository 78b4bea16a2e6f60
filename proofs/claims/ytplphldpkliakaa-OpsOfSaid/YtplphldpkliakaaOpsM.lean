/- Chapter 06: OpsFits, OpsZero, OpsPlaces, OpsOf, OpsNamed: each is true of any arguments. No condition. -/
import Derived.Test.YtplphldpkliakaaOpsL
import Derived.Test.YtplphldpkliakaaRows
set_option linter.unusedSimpArgs false
set_option linter.unusedVariables false
set_option maxRecDepth 100000
set_option maxHeartbeats 3200000
namespace Go.Proofs.Ytplphldpkliakaa
open Go Go.AW Go.ChangeShapes Go.WideShapes Go.ChangeAt Go.RowKit

theorem arg_ty {k : Nat} {cs : List AV} (h : ArgC Try.prog (k + 2) 24 cs) : ∃ t : Ty, pkV Try.prog 24 cs = tyV t := by
  simp [-Bool.exists_bool, ArgC, Try.underlying24, Try.underlying4, Try.underlying3] at h
  obtain ⟨hlen, ⟨a, q1, _⟩, ⟨b, q2, _⟩, ⟨c, q3, _⟩, ⟨d, q4⟩⟩ := h
  match cs, hlen with
  | [x, y, z, w], _ =>
    simp at q1 q2 q3 q4
    subst q1 q2 q3 q4
    exact ⟨⟨a, b, c, d⟩, by simp [pkV, AW.isAgg, tyV, Try.underlying24]⟩

theorem arg_ins {k : Nat} {cs : List AV} (h : ArgC Try.prog (k + 3) 59 cs) : ∃ x : Ins, pkV Try.prog 59 cs = insV x ∧ -9223372036854775808 ≤ x.arg ∧ x.arg < 9223372036854775808 := by
  have hlen : cs.length = 6 := by
    simp only [ArgC, Try.underlying59] at h
    exact h.1
  match cs, hlen with
  | [x, y, z, w, u, v], _ =>
    simp [-Bool.exists_bool, ArgC, Try.underlying59, Try.underlying24, Try.underlying4, Try.underlying3, Try.underlying2] at h
    obtain ⟨⟨a, q1, _⟩, ⟨b, q2, w2⟩, ⟨c, q3, _⟩, ⟨d, q4, _⟩, ⟨e, q5, _⟩, ⟨f, q6⟩⟩ := h
    simp [Lit.wf, IntKind.min, IntKind.max, IntKind.signed, IntKind.bits] at w2
    subst q1 q2 q3 q4 q5 q6
    exact ⟨⟨a, b, ⟨c, d, e, f⟩⟩, by simp [pkV, AW.isAgg, insV, Try.underlying59], by simp; omega, by simp; omega⟩

theorem opsNamed_reads (os : Os) {H : Type} (enc : TypeId × Value → H) : ∃ places, DataW.whole enc Try.prog ((World.holding Try.prog os ⟨#[], #[Value.string ByteArray.empty], []⟩).forCall (fun _ _ => 0) ⟨#[], #[Value.string ByteArray.empty], []⟩).memory Try.f12.params.toList Rows.opsNamedSpec.vars false #[Value.string ByteArray.empty].toList 8 = some ([.lit (.string [])], [], places) :=
  ⟨[], by kernel_rfl⟩

theorem opsNamed_contract (H : Type) (enc : TypeId × Value → H) (W : World) (base : Nat) (args : Array Value) (ds gs : List (DataW H)) (before : List MemPlace)
    (hval : ∀ (j : Nat) t v, Try.f12.params[j]? = some t → args[j]? = some v → Value.okWide Try.prog W .any base t v)
    (hW : DataW.Whole enc Try.prog Try.f12.params.toList Rows.opsNamedSpec.vars false W args.toList ds gs before)
    (hwt : (DataW.weightsEach Try.prog (Try.f12.params.toList ++ Rows.opsNamedSpec.plain.varTypes Try.prog) (ds ++ gs)).all (· ≤ reachBytes) = true) :
    Calls Try.prog 12 args W fun e W' => ∃ v, e = .returned v ∧ Rows.opsNamedSpec.post enc Try.prog Try.f12 false true false false W args v W' := by
  refine law_contract (P := Try.prog) (fn := Try.f12) (k := 4) (ts := [9]) (tb := 4) (s := Rows.opsNamedSpec) laidOut (by kernel_rfl) (by kernel_rfl) (by kernel_rfl) rfl Try.underlying4 rfl (fun ds h => ?_) (fun vs h => ?_) hval hW hwt
  · match ds, h with
    | [d1], _ => rfl
  · obtain ⟨c1, r, rfl, h1, h⟩ := h.inv
    obtain rfl := h.inv0
    obtain ⟨s, e1, _⟩ := arg_str Try.underlying9 h1
    rw [e1]
    exact opsNamed_ok s

theorem opsNamed_lifted (os : Os) (started : os.Started) (H : Type) (enc : TypeId × Value → H) (F : Stop.Interp) :
    ReturnsInHanded {} Try.checked os 12 .any ((OpenSpec.ofChange Rows.opsNamedSpec).preRow enc Try.prog Try.f12 Rows.opsNamedRow.domain false Rows.opsNamedRow.laid)
      (((OpenSpec.ofChange Rows.opsNamedSpec).at F).post enc Try.prog Try.f12 false true false false) := by
  obtain ⟨places, hx⟩ := opsNamed_reads os enc
  refine returnsInHanded_of_row (C := Try.checked) (s := OpenSpec.ofChange Rows.opsNamedSpec) own started (by kernel_rfl) Try.func12
    (witness_row_at (enc := enc) (C := Try.checked) false (World.holding Try.prog os ⟨#[], #[Value.string ByteArray.empty], []⟩) #[Value.string ByteArray.empty] rfl (by kernel_rfl) (by kernel_rfl) (by kernel_rfl)
      (OpenSpec.preRow_of_cond 8 hx (by kernel_rfl) (fun k hk => by cases hk) (by kernel_rfl) (show laidMetH Try.prog [] _ from ⟨[], rfl, List.nodup_nil, fun _ _ h => by cases h⟩))) ?_
  intro W base args ds gs before hval hW _ _ hwt _ _ _
  exact opsNamed_contract H enc W base args ds gs before hval hW hwt

theorem opsNamed_holds : Rows.OpsNamedSaid :=
  OpenClaim.holds_of_cond 12 Try.f12 rfl rfl rfl rfl rfl rfl rfl ⟨rfl, rfl, rfl, rfl, rfl⟩ rfl rfl rfl rfl rfl (by kernel_rfl) Try.func12 (by kernel_rfl)
    (of_decide_eq_true (by kernel_rfl)) (by unfold Func.isWrapper; first | (rw [if_pos (by decide +kernel)]; kernel_rfl) | (rw [if_neg (by decide +kernel)]; exact ⟨rfl, rfl⟩))
    (fun os started H enc _ F => by rw [OpenClaim.pre_eq_preRow]; exact opsNamed_lifted os started H enc F)


theorem opsOf_reads (os : Os) {H : Type} (enc : TypeId × Value → H) : ∃ places, DataW.whole enc Try.prog ((World.holding Try.prog os ⟨#[], #[Value.int .i64 0], []⟩).forCall (fun _ _ => 0) ⟨#[], #[Value.int .i64 0], []⟩).memory Try.f11.params.toList Rows.opsOfSpec.vars false #[Value.int .i64 0].toList 8 = some ([.lit (.int .i64 0)], [], places) :=
  ⟨[], by kernel_rfl⟩

theorem opsOf_contract (H : Type) (enc : TypeId × Value → H) (W : World) (base : Nat) (args : Array Value) (ds gs : List (DataW H)) (before : List MemPlace)
    (hval : ∀ (j : Nat) t v, Try.f11.params[j]? = some t → args[j]? = some v → Value.okWide Try.prog W .any base t v)
    (hW : DataW.Whole enc Try.prog Try.f11.params.toList Rows.opsOfSpec.vars false W args.toList ds gs before)
    (hwt : (DataW.weightsEach Try.prog (Try.f11.params.toList ++ Rows.opsOfSpec.plain.varTypes Try.prog) (ds ++ gs)).all (· ≤ reachBytes) = true) :
    Calls Try.prog 11 args W fun e W' => ∃ v, e = .returned v ∧ Rows.opsOfSpec.post enc Try.prog Try.f11 false true false false W args v W' := by
  refine law_contract (P := Try.prog) (fn := Try.f11) (k := 4) (ts := [3]) (tb := 4) (s := Rows.opsOfSpec) laidOut (by kernel_rfl) (by kernel_rfl) (by kernel_rfl) rfl Try.underlying4 rfl (fun ds h => ?_) (fun vs h => ?_) hval hW hwt
  · match ds, h with
    | [d1], _ => rfl
  · obtain ⟨c1, r, rfl, h1, h⟩ := h.inv
    obtain rfl := h.inv0
    obtain ⟨op, e1, _⟩ := arg_int Try.underlying3 h1
    rw [e1]
    exact opsOf_ok op

theorem opsOf_lifted (os : Os) (started : os.Started) (H : Type) (enc : TypeId × Value → H) (F : Stop.Interp) :
    ReturnsInHanded {} Try.checked os 11 .any ((OpenSpec.ofChange Rows.opsOfSpec).preRow enc Try.prog Try.f11 Rows.opsOfRow.domain false Rows.opsOfRow.laid)
      (((OpenSpec.ofChange Rows.opsOfSpec).at F).post enc Try.prog Try.f11 false true false false) := by
  obtain ⟨places, hx⟩ := opsOf_reads os enc
  refine returnsInHanded_of_row (C := Try.checked) (s := OpenSpec.ofChange Rows.opsOfSpec) own started (by kernel_rfl) Try.func11
    (witness_row_at (enc := enc) (C := Try.checked) false (World.holding Try.prog os ⟨#[], #[Value.int .i64 0], []⟩) #[Value.int .i64 0] rfl (by kernel_rfl) (by kernel_rfl) (by kernel_rfl)
      (OpenSpec.preRow_of_cond 8 hx (by kernel_rfl) (fun k hk => by cases hk) (by kernel_rfl) (show laidMetH Try.prog [] _ from ⟨[], rfl, List.nodup_nil, fun _ _ h => by cases h⟩))) ?_
  intro W base args ds gs before hval hW _ _ hwt _ _ _
  exact opsOf_contract H enc W base args ds gs before hval hW hwt

theorem opsOf_holds : Rows.OpsOfSaid :=
  OpenClaim.holds_of_cond 11 Try.f11 rfl rfl rfl rfl rfl rfl rfl ⟨rfl, rfl, rfl, rfl, rfl⟩ rfl rfl rfl rfl rfl (by kernel_rfl) Try.func11 (by kernel_rfl)
    (of_decide_eq_true (by kernel_rfl)) (by unfold Func.isWrapper; first | (rw [if_pos (by decide +kernel)]; kernel_rfl) | (rw [if_neg (by decide +kernel)]; exact ⟨rfl, rfl⟩))
    (fun os started H enc _ F => by rw [OpenClaim.pre_eq_preRow]; exact opsOf_lifted os started H enc F)


theorem opsPlaces_reads (os : Os) {H : Type} (enc : TypeId × Value → H) : ∃ places, DataW.whole enc Try.prog ((World.holding Try.prog os ⟨#[], #[Value.int .i64 0], []⟩).forCall (fun _ _ => 0) ⟨#[], #[Value.int .i64 0], []⟩).memory Try.f10.params.toList Rows.opsPlacesSpec.vars false #[Value.int .i64 0].toList 8 = some ([.lit (.int .i64 0)], [], places) :=
  ⟨[], by kernel_rfl⟩

theorem opsPlaces_contract (H : Type) (enc : TypeId × Value → H) (W : World) (base : Nat) (args : Array Value) (ds gs : List (DataW H)) (before : List MemPlace)
    (hval : ∀ (j : Nat) t v, Try.f10.params[j]? = some t → args[j]? = some v → Value.okWide Try.prog W .any base t v)
    (hW : DataW.Whole enc Try.prog Try.f10.params.toList Rows.opsPlacesSpec.vars false W args.toList ds gs before)
    (hwt : (DataW.weightsEach Try.prog (Try.f10.params.toList ++ Rows.opsPlacesSpec.plain.varTypes Try.prog) (ds ++ gs)).all (· ≤ reachBytes) = true) :
    Calls Try.prog 10 args W fun e W' => ∃ v, e = .returned v ∧ Rows.opsPlacesSpec.post enc Try.prog Try.f10 false true false false W args v W' := by
  refine law_contract (P := Try.prog) (fn := Try.f10) (k := 4) (ts := [3]) (tb := 4) (s := Rows.opsPlacesSpec) laidOut (by kernel_rfl) (by kernel_rfl) (by kernel_rfl) rfl Try.underlying4 rfl (fun ds h => ?_) (fun vs h => ?_) hval hW hwt
  · match ds, h with
    | [d1], _ => rfl
  · obtain ⟨c1, r, rfl, h1, h⟩ := h.inv
    obtain rfl := h.inv0
    obtain ⟨op, e1, _⟩ := arg_int Try.underlying3 h1
    rw [e1]
    exact opsPlaces_ok op

theorem opsPlaces_lifted (os : Os) (started : os.Started) (H : Type) (enc : TypeId × Value → H) (F : Stop.Interp) :
    ReturnsInHanded {} Try.checked os 10 .any ((OpenSpec.ofChange Rows.opsPlacesSpec).preRow enc Try.prog Try.f10 Rows.opsPlacesRow.domain false Rows.opsPlacesRow.laid)
      (((OpenSpec.ofChange Rows.opsPlacesSpec).at F).post enc Try.prog Try.f10 false true false false) := by
  obtain ⟨places, hx⟩ := opsPlaces_reads os enc
  refine returnsInHanded_of_row (C := Try.checked) (s := OpenSpec.ofChange Rows.opsPlacesSpec) own started (by kernel_rfl) Try.func10
    (witness_row_at (enc := enc) (C := Try.checked) false (World.holding Try.prog os ⟨#[], #[Value.int .i64 0], []⟩) #[Value.int .i64 0] rfl (by kernel_rfl) (by kernel_rfl) (by kernel_rfl)
      (OpenSpec.preRow_of_cond 8 hx (by kernel_rfl) (fun k hk => by cases hk) (by kernel_rfl) (show laidMetH Try.prog [] _ from ⟨[], rfl, List.nodup_nil, fun _ _ h => by cases h⟩))) ?_
  intro W base args ds gs before hval hW _ _ hwt _ _ _
  exact opsPlaces_contract H enc W base args ds gs before hval hW hwt

theorem opsPlaces_holds : Rows.OpsPlacesSaid :=
  OpenClaim.holds_of_cond 10 Try.f10 rfl rfl rfl rfl rfl rfl rfl ⟨rfl, rfl, rfl, rfl, rfl⟩ rfl rfl rfl rfl rfl (by kernel_rfl) Try.func10 (by kernel_rfl)
    (of_decide_eq_true (by kernel_rfl)) (by unfold Func.isWrapper; first | (rw [if_pos (by decide +kernel)]; kernel_rfl) | (rw [if_neg (by decide +kernel)]; exact ⟨rfl, rfl⟩))
    (fun os started H enc _ F => by rw [OpenClaim.pre_eq_preRow]; exact opsPlaces_lifted os started H enc F)


theorem opsFits_reads (os : Os) {H : Type} (enc : TypeId × Value → H) : ∃ places, DataW.whole enc Try.prog ((World.holding Try.prog os ⟨#[], #[Value.agg #[.int .i64 0, .int .i64 0, .int .i64 0, .int .i64 0, .int .i64 0, .bool false]], []⟩).forCall (fun _ _ => 0) ⟨#[], #[Value.agg #[.int .i64 0, .int .i64 0, .int .i64 0, .int .i64 0, .int .i64 0, .bool false]], []⟩).memory Try.f8.params.toList Rows.opsFitsSpec.vars false #[Value.agg #[.int .i64 0, .int .i64 0, .int .i64 0, .int .i64 0, .int .i64 0, .bool false]].toList 8 = some ([.agg [.lit (.int .i64 0), .lit (.int .i64 0), .agg [.lit (.int .i64 0), .lit (.int .i64 0), .lit (.int .i64 0), .lit (.bool false)]]], [], places) :=
  ⟨[], by kernel_rfl⟩

theorem opsFits_contract (H : Type) (enc : TypeId × Value → H) (W : World) (base : Nat) (args : Array Value) (ds gs : List (DataW H)) (before : List MemPlace)
    (hval : ∀ (j : Nat) t v, Try.f8.params[j]? = some t → args[j]? = some v → Value.okWide Try.prog W .any base t v)
    (hW : DataW.Whole enc Try.prog Try.f8.params.toList Rows.opsFitsSpec.vars false W args.toList ds gs before)
    (hwt : (DataW.weightsEach Try.prog (Try.f8.params.toList ++ Rows.opsFitsSpec.plain.varTypes Try.prog) (ds ++ gs)).all (· ≤ reachBytes) = true) :
    Calls Try.prog 8 args W fun e W' => ∃ v, e = .returned v ∧ Rows.opsFitsSpec.post enc Try.prog Try.f8 false true false false W args v W' := by
  refine law_contract (P := Try.prog) (fn := Try.f8) (k := 4) (ts := [59]) (tb := 4) (s := Rows.opsFitsSpec) laidOut (by kernel_rfl) (by kernel_rfl) (by kernel_rfl) rfl Try.underlying4 rfl (fun ds h => ?_) (fun vs h => ?_) hval hW hwt
  · match ds, h with
    | [d1], _ => rfl
  · obtain ⟨c1, r, rfl, h1, h⟩ := h.inv
    obtain rfl := h.inv0
    obtain ⟨x, e1, g1, g2⟩ := arg_ins h1
    rw [e1]
    exact opsFits_ok x g1 g2

theorem opsFits_lifted (os : Os) (started : os.Started) (H : Type) (enc : TypeId × Value → H) (F : Stop.Interp) :
    ReturnsInHanded {} Try.checked os 8 .any ((OpenSpec.ofChange Rows.opsFitsSpec).preRow enc Try.prog Try.f8 Rows.opsFitsRow.domain false Rows.opsFitsRow.laid)
      (((OpenSpec.ofChange Rows.opsFitsSpec).at F).post enc Try.prog Try.f8 false true false false) := by
  obtain ⟨places, hx⟩ := opsFits_reads os enc
  refine returnsInHanded_of_row (C := Try.checked) (s := OpenSpec.ofChange Rows.opsFitsSpec) own started (by kernel_rfl) Try.func8
    (witness_row_at (enc := enc) (C := Try.checked) false (World.holding Try.prog os ⟨#[], #[Value.agg #[.int .i64 0, .int .i64 0, .int .i64 0, .int .i64 0, .int .i64 0, .bool false]], []⟩) #[Value.agg #[.int .i64 0, .int .i64 0, .int .i64 0, .int .i64 0, .int .i64 0, .bool false]] rfl (by kernel_rfl) (by kernel_rfl) (by kernel_rfl)
      (OpenSpec.preRow_of_cond 8 hx (by kernel_rfl) (fun k hk => by cases hk) (by kernel_rfl) (show laidMetH Try.prog [] _ from ⟨[], rfl, List.nodup_nil, fun _ _ h => by cases h⟩))) ?_
  intro W base args ds gs before hval hW _ _ hwt _ _ _
  exact opsFits_contract H enc W base args ds gs before hval hW hwt

theorem opsFits_holds : Rows.OpsFitsSaid :=
  OpenClaim.holds_of_cond 8 Try.f8 rfl rfl rfl rfl rfl rfl rfl ⟨rfl, rfl, rfl, rfl, rfl⟩ rfl rfl rfl rfl rfl (by kernel_rfl) Try.func8 (by kernel_rfl)
    (of_decide_eq_true (by kernel_rfl)) (by unfold Func.isWrapper; first | (rw [if_pos (by decide +kernel)]; kernel_rfl) | (rw [if_neg (by decide +kernel)]; exact ⟨rfl, rfl⟩))
    (fun os started H enc _ F => by rw [OpenClaim.pre_eq_preRow]; exact opsFits_lifted os started H enc F)


theorem opsZero_reads (os : Os) {H : Type} (enc : TypeId × Value → H) : ∃ places, DataW.whole enc Try.prog ((World.holding Try.prog os ⟨#[], #[Value.agg #[.int .i64 0, .int .i64 0, .int .i64 0, .int .i64 0, .int .i64 0, .bool false], Value.agg #[.int .i64 0, .int .i64 0, .int .i64 0, .bool false]], []⟩).forCall (fun _ _ => 0) ⟨#[], #[Value.agg #[.int .i64 0, .int .i64 0, .int .i64 0, .int .i64 0, .int .i64 0, .bool false], Value.agg #[.int .i64 0, .int .i64 0, .int .i64 0, .bool false]], []⟩).memory Try.f9.params.toList Rows.opsZeroSpec.vars false #[Value.agg #[.int .i64 0, .int .i64 0, .int .i64 0, .int .i64 0, .int .i64 0, .bool false], Value.agg #[.int .i64 0, .int .i64 0, .int .i64 0, .bool false]].toList 8 = some ([.agg [.lit (.int .i64 0), .lit (.int .i64 0), .agg [.lit (.int .i64 0), .lit (.int .i64 0), .lit (.int .i64 0), .lit (.bool false)]], .agg [.lit (.int .i64 0), .lit (.int .i64 0), .lit (.int .i64 0), .lit (.bool false)]], [], places) :=
  ⟨[], by kernel_rfl⟩

theorem opsZero_contract (H : Type) (enc : TypeId × Value → H) (W : World) (base : Nat) (args : Array Value) (ds gs : List (DataW H)) (before : List MemPlace)
    (hval : ∀ (j : Nat) t v, Try.f9.params[j]? = some t → args[j]? = some v → Value.okWide Try.prog W .any base t v)
    (hW : DataW.Whole enc Try.prog Try.f9.params.toList Rows.opsZeroSpec.vars false W args.toList ds gs before)
    (hwt : (DataW.weightsEach Try.prog (Try.f9.params.toList ++ Rows.opsZeroSpec.plain.varTypes Try.prog) (ds ++ gs)).all (· ≤ reachBytes) = true) :
    Calls Try.prog 9 args W fun e W' => ∃ v, e = .returned v ∧ Rows.opsZeroSpec.post enc Try.prog Try.f9 false true false false W args v W' := by
  refine law_contract (P := Try.prog) (fn := Try.f9) (k := 4) (ts := [59, 24]) (tb := 4) (s := Rows.opsZeroSpec) laidOut (by kernel_rfl) (by kernel_rfl) (by kernel_rfl) rfl Try.underlying4 rfl (fun ds h => ?_) (fun vs h => ?_) hval hW hwt
  · match ds, h with
    | [d1, d2], _ => rfl
  · obtain ⟨c1, r, rfl, h1, h⟩ := h.inv
    obtain ⟨c2, r, rfl, h2, h⟩ := h.inv
    obtain rfl := h.inv0
    obtain ⟨x, e1, _, _⟩ := arg_ins h1
    obtain ⟨t, e2⟩ := arg_ty h2
    rw [e1, e2]
    exact opsZero_ok x t

theorem opsZero_lifted (os : Os) (started : os.Started) (H : Type) (enc : TypeId × Value → H) (F : Stop.Interp) :
    ReturnsInHanded {} Try.checked os 9 .any ((OpenSpec.ofChange Rows.opsZeroSpec).preRow enc Try.prog Try.f9 Rows.opsZeroRow.domain false Rows.opsZeroRow.laid)
      (((OpenSpec.ofChange Rows.opsZeroSpec).at F).post enc Try.prog Try.f9 false true false false) := by
  obtain ⟨places, hx⟩ := opsZero_reads os enc
  refine returnsInHanded_of_row (C := Try.checked) (s := OpenSpec.ofChange Rows.opsZeroSpec) own started (by kernel_rfl) Try.func9
    (witness_row_at (enc := enc) (C := Try.checked) false (World.holding Try.prog os ⟨#[], #[Value.agg #[.int .i64 0, .int .i64 0, .int .i64 0, .int .i64 0, .int .i64 0, .bool false], Value.agg #[.int .i64 0, .int .i64 0, .int .i64 0, .bool false]], []⟩) #[Value.agg #[.int .i64 0, .int .i64 0, .int .i64 0, .int .i64 0, .int .i64 0, .bool false], Value.agg #[.int .i64 0, .int .i64 0, .int .i64 0, .bool false]] rfl (by kernel_rfl) (by kernel_rfl) (by kernel_rfl)
      (OpenSpec.preRow_of_cond 8 hx (by kernel_rfl) (fun k hk => by cases hk) (by kernel_rfl) (show laidMetH Try.prog [] _ from ⟨[], rfl, List.nodup_nil, fun _ _ h => by cases h⟩))) ?_
  intro W base args ds gs before hval hW _ _ hwt _ _ _
  exact opsZero_contract H enc W base args ds gs before hval hW hwt

theorem opsZero_holds : Rows.OpsZeroSaid :=
  OpenClaim.holds_of_cond 9 Try.f9 rfl rfl rfl rfl rfl rfl rfl ⟨rfl, rfl, rfl, rfl, rfl⟩ rfl rfl rfl rfl rfl (by kernel_rfl) Try.func9 (by kernel_rfl)
    (of_decide_eq_true (by kernel_rfl)) (by unfold Func.isWrapper; first | (rw [if_pos (by decide +kernel)]; kernel_rfl) | (rw [if_neg (by decide +kernel)]; exact ⟨rfl, rfl⟩))
    (fun os started H enc _ F => by rw [OpenClaim.pre_eq_preRow]; exact opsZero_lifted os started H enc F)


end Go.Proofs.Ytplphldpkliakaa
