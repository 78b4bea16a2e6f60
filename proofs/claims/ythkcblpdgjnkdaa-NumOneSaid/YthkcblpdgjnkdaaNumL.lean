/- NumTwo, NumOne: any words come to what the document says, by any op. No condition. -/
import Derived.Test.YthkcblpdgjnkdaaNum5
import Derived.Test.YthkcblpdgjnkdaaRows
set_option linter.unusedSimpArgs false
set_option linter.unusedVariables false
set_option maxRecDepth 100000
set_option maxHeartbeats 3200000
namespace Go.Proofs.Ythkcblpdgjnkdaa
open Go Go.AW Go.ChangeShapes Go.WideShapes Go.ChangeAt Go.RowKit

/-- An argument of two words. -/
theorem arg_words {k : Nat} {cs : List AV} (h : ArgC Try.prog (k + 2) 24 cs) :
    ∃ (w : Bool) (a b : Int), pkV Try.prog 24 cs = .agg [.sc (.bool w), .sc (.int .u64 a), .sc (.int .u64 b)] ∧ U64 a ∧ U64 b := by
  simp [-Bool.exists_bool, ArgC, Try.underlying24, Try.underlying4, Try.underlying22] at h
  obtain ⟨hlen, ⟨w, q1⟩, ⟨a, q2, w2⟩, b, q3, w3⟩ := h
  match cs, hlen with
  | [x, y, z], _ =>
    simp at q1 q2 q3
    subst q1 q2 q3
    simp [Lit.wf, IntKind.min, IntKind.max, IntKind.signed, IntKind.bits] at w2 w3
    exact ⟨w, a, b, by simp [pkV, AW.isAgg, Try.underlying24], ⟨by omega, by omega⟩, ⟨by omega, by omega⟩⟩

theorem numTwo_ok (op : Int) (w : Bool) (a b : Int) (ha : U64 a) (hb : U64 b) :
    ACalls Try.prog 3 [.sc (.int .i64 op), .agg [.sc (.bool w), .sc (.int .u64 a), .sc (.int .u64 b)]] noAS IsTrue No := by
  refine ACalls.of_body Try.func3 rfl rfl (by simp [Try.ntmps3]) ?_
  repeat (first
    | (with_reducible refine AWp.seq ?_)
    | (with_reducible refine AWp.block ?_)
    | (with_reducible refine And.intro (by first | omega | assumption | decide) ?_)
    | ((with_reducible refine AWp.region ?_); simp)
    | ((with_reducible refine AWp.ret ?_); try simp)
    | ((with_reducible refine AWp.skip ?_); try simp)
    | ((with_reducible refine AWp.exit ?_); try simp)
    | ((refine AWp.cond rfl (fun _ => ?_) (fun hcf => absurd hcf ?hcd)); (case hcd => (simp; done)))
    | ((refine AWp.cond rfl (fun hcf => absurd hcf ?hcd) (fun _ => ?_)); (case hcd => (simp; done))))
  intro id hid
  repeat (first
    | (with_reducible refine AWp.seq ?_)
    | (with_reducible refine AWp.block ?_)
    | (with_reducible refine And.intro (by first | omega | assumption | decide) ?_)
    | ((with_reducible refine AWp.region ?_); simp [ansV])
    | ((refine aCall.gives (wakes_ok _) ?_); simp [ansV])
    | ((refine aCall.gives (two_ok _ _ _ _ _) ?_); simp [ansV])
    | ((refine aCall.gives (rtwo_ok _ _ _ _ hb _) ?_); simp [ansV])
    | ((with_reducible refine AWp.ret ?_); try simp [ansV])
    | ((with_reducible refine AWp.skip ?_); try simp [ansV])
    | ((with_reducible refine AWp.exit ?_); try simp [ansV])
    | ((refine AWp.cond rfl (fun _ => ?_) (fun hcf => absurd hcf ?hcd)); (case hcd => (simp [ansV]; done)))
    | ((refine AWp.cond rfl (fun hcf => absurd hcf ?hcd) (fun _ => ?_)); (case hcd => (simp [ansV]; done))))
  intro id2 ne hid2
  have ne' : ¬ id = id2 := fun e => ne e.symm
  repeat (first
    | (with_reducible refine AWp.seq ?_)
    | (with_reducible refine AWp.block ?_)
    | (with_reducible refine And.intro (by first | omega | assumption | decide) ?_)
    | ((with_reducible refine AWp.region ?_); simp [ne, ne'])
    | ((with_reducible refine AWp.ret ?_); try simp [ne, ne'])
    | ((with_reducible refine AWp.skip ?_); try simp [ne, ne'])
    | ((with_reducible refine AWp.exit ?_); try simp [ne, ne'])
    | ((refine AWp.cond rfl (fun _ => ?_) (fun hcf => absurd hcf ?hcd)); (case hcd => (simp [ne, ne']; done)))
    | ((refine AWp.cond rfl (fun hcf => absurd hcf ?hcd) (fun _ => ?_)); (case hcd => (simp [ne, ne']; done))))
  exact ⟨_, _, Wk.refl _, AS.le_refl _, rfl⟩

theorem numTwo_reads (os : Os) {H : Type} (enc : TypeId × Value → H) : ∃ places, DataW.whole enc Try.prog ((World.holding Try.prog os ⟨#[], #[Value.int .i64 0, Value.agg #[.bool false, .int .u64 0, .int .u64 0]], []⟩).forCall (fun _ _ => 0) ⟨#[], #[Value.int .i64 0, Value.agg #[.bool false, .int .u64 0, .int .u64 0]], []⟩).memory Try.f3.params.toList Rows.numTwoSpec.vars false #[Value.int .i64 0, Value.agg #[.bool false, .int .u64 0, .int .u64 0]].toList 8 = some ([.lit (.int .i64 0), .agg [.lit (.bool false), .lit (.int .u64 0), .lit (.int .u64 0)]], [], places) :=
  ⟨[], by kernel_rfl⟩

theorem numTwo_contract (H : Type) (enc : TypeId × Value → H) (W : World) (base : Nat) (args : Array Value) (ds gs : List (DataW H)) (before : List MemPlace)
    (hval : ∀ (j : Nat) t v, Try.f3.params[j]? = some t → args[j]? = some v → Value.okWide Try.prog W .any base t v)
    (hW : DataW.Whole enc Try.prog Try.f3.params.toList Rows.numTwoSpec.vars false W args.toList ds gs before)
    (hwt : (DataW.weightsEach Try.prog (Try.f3.params.toList ++ Rows.numTwoSpec.plain.varTypes Try.prog) (ds ++ gs)).all (· ≤ reachBytes) = true) :
    Calls Try.prog 3 args W fun e W' => ∃ v, e = .returned v ∧ Rows.numTwoSpec.post enc Try.prog Try.f3 false true false false W args v W' := by
  refine law_contract (P := Try.prog) (fn := Try.f3) (k := 4) (ts := [3, 24]) (tb := 4) (s := Rows.numTwoSpec) laidOut (by kernel_rfl) (by kernel_rfl) (by kernel_rfl) rfl Try.underlying4 rfl (fun ds h => ?_) (fun vs h => ?_) hval hW hwt
  · match ds, h with
    | [d1, d2], _ => rfl
  · obtain ⟨c1, r, rfl, h1, h⟩ := h.inv
    obtain ⟨c2, r, rfl, h2, h⟩ := h.inv
    obtain rfl := h.inv0
    obtain ⟨op, e1, _⟩ := arg_int Try.underlying3 h1
    obtain ⟨w, a, b, e2, ha, hb⟩ := arg_words h2
    rw [e1, e2]
    exact numTwo_ok op w a b ha hb

theorem numTwo_lifted (os : Os) (started : os.Started) (H : Type) (enc : TypeId × Value → H) (F : Stop.Interp) :
    ReturnsInHanded {} Try.checked os 3 .any ((OpenSpec.ofChange Rows.numTwoSpec).preRow enc Try.prog Try.f3 Rows.numTwoRow.domain false Rows.numTwoRow.laid)
      (((OpenSpec.ofChange Rows.numTwoSpec).at F).post enc Try.prog Try.f3 false true false false) := by
  obtain ⟨places, hx⟩ := numTwo_reads os enc
  refine returnsInHanded_of_row (C := Try.checked) (s := OpenSpec.ofChange Rows.numTwoSpec) own started (by kernel_rfl) Try.func3
    (witness_row_at (enc := enc) (C := Try.checked) false (World.holding Try.prog os ⟨#[], #[Value.int .i64 0, Value.agg #[.bool false, .int .u64 0, .int .u64 0]], []⟩) #[Value.int .i64 0, Value.agg #[.bool false, .int .u64 0, .int .u64 0]] rfl (by kernel_rfl) (by kernel_rfl) (by kernel_rfl)
      (OpenSpec.preRow_of_cond 8 hx (by kernel_rfl) (fun k hk => by cases hk) (by kernel_rfl) (show laidMetH Try.prog [] _ from ⟨[], rfl, List.nodup_nil, fun _ _ h => by cases h⟩))) ?_
  intro W base args ds gs before hval hW _ _ hwt _ _ _
  exact numTwo_contract H enc W base args ds gs before hval hW hwt

theorem numTwo_holds : Rows.NumTwoSaid :=
  OpenClaim.holds_of_cond 3 Try.f3 rfl rfl rfl rfl rfl rfl rfl ⟨rfl, rfl, rfl, rfl, rfl⟩ rfl rfl rfl rfl rfl (by kernel_rfl) Try.func3 (by kernel_rfl)
    (of_decide_eq_true (by kernel_rfl)) (by unfold Func.isWrapper; first | (rw [if_pos (by decide +kernel)]; kernel_rfl) | (rw [if_neg (by decide +kernel)]; exact ⟨rfl, rfl⟩))
    (fun os started H enc _ F => by rw [OpenClaim.pre_eq_preRow]; exact numTwo_lifted os started H enc F)


end Go.Proofs.Ythkcblpdgjnkdaa
