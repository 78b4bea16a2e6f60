/- NumOne: any word comes to what the document says, by any op; any two are told from each other as it says. No condition. -/
import Derived.Test.YthkcblpdgjnkdaaNumL
set_option linter.unusedSimpArgs false
set_option linter.unusedVariables false
set_option maxRecDepth 100000
set_option maxHeartbeats 1600000
namespace Go.Proofs.Ythkcblpdgjnkdaa
open Go Go.AW Go.ChangeShapes Go.WideShapes Go.ChangeAt Go.RowKit

theorem numOne_ok (op : Int) (w : Bool) (a b : Int) (ha : U64 a) (hb : U64 b) :
    ACalls Try.prog 6 [.sc (.int .i64 op), .agg [.sc (.bool w), .sc (.int .u64 a), .sc (.int .u64 b)]] noAS IsTrue No := by
  refine ACalls.of_body Try.func6 rfl rfl (by simp [Try.ntmps6]) ?_
  repeat (first
    | (with_reducible refine AWp.seq ?_)
    | (with_reducible refine AWp.block ?_)
    | (with_reducible refine And.intro (by first | omega | assumption | decide) ?_)
    | ((with_reducible refine AWp.region ?_); simp)
    | ((with_reducible refine AWp.drawS (id := 5) mixed (Sch.step 0 (Sch.step 1 (Sch.read 2 (Sch.step 3 (Sch.step 4 (Sch.step 5 (Sch.step 6 (Sch.read 7 (Sch.step 8 (Sch.step 9 (Sch.step 10 (Sch.step 11 (Sch.step 12 (Sch.step 14 (Sch.step 17 (Sch.step 18 (Sch.step 20 (Sch.read 13 (Sch.read 15 (Sch.pure 16 (Sch.read 19 (Sch.read 21 (Sch.pure 22 (Sch.step 23 (Sch.step 24 (Sch.step 25 (Sch.step 26 (Sch.step 30 (Sch.read 27 (Sch.step 28 (Sch.pure 29 (Sch.read 31 (Sch.step 32 (Sch.pure 33 (Sch.step 34 (Sch.step 35 (Sch.step 36 Sch.done))))))))))))))))))))))))))))))))))))) (by kernel_rfl) (by kernel_rfl) (by repeat (with_reducible first | apply PanQ.then | apply PanQ.block | exact PanQ.body)) ?_); simp)
    | ((with_reducible refine AWp.ret ?_); try simp)
    | ((with_reducible refine AWp.skip ?_); try simp)
    | ((with_reducible refine AWp.exit ?_); try simp)
    | ((refine AWp.cond rfl (fun _ => ?_) (fun hcf => absurd hcf ?hcd)); (case hcd => (simp; done)))
    | ((refine AWp.cond rfl (fun hcf => absurd hcf ?hcd) (fun _ => ?_)); (case hcd => (simp; done))))
  intro id hid
  repeat (first
    | (with_reducible refine AWp.seq ?_)
    | (with_reducible refine AWp.block ?_)
    | (with_reducible refine And.intro (by first | omega | assumption | decide) ?_)
    | ((with_reducible refine AWp.region ?_); simp [ansV])
    | ((with_reducible refine AWp.drawS (id := 5) mixed (Sch.step 0 (Sch.step 1 (Sch.read 2 (Sch.step 3 (Sch.step 4 (Sch.step 5 (Sch.step 6 (Sch.read 7 (Sch.step 8 (Sch.step 9 (Sch.step 10 (Sch.step 11 (Sch.step 12 (Sch.step 14 (Sch.step 17 (Sch.step 18 (Sch.step 20 (Sch.read 13 (Sch.read 15 (Sch.pure 16 (Sch.read 19 (Sch.read 21 (Sch.pure 22 (Sch.step 23 (Sch.step 24 (Sch.step 25 (Sch.step 26 (Sch.step 30 (Sch.read 27 (Sch.step 28 (Sch.pure 29 (Sch.read 31 (Sch.step 32 (Sch.pure 33 (Sch.step 34 (Sch.step 35 (Sch.step 36 Sch.done))))))))))))))))))))))))))))))))))))) (by kernel_rfl) (by kernel_rfl) (by repeat (with_reducible first | apply PanQ.then | apply PanQ.block | exact PanQ.body)) ?_); simp [ansV])
    | ((refine aCall.gives (wakes_ok _) ?_); simp [ansV])
    | ((refine pureCall.gives (fun _ => wakes_ok _) ?_); simp [ansV])
    | ((refine aCall.gives (one_ok _ _ _ _) ?_); simp [ansV])
    | ((refine pureCall.gives (fun _ => one_ok _ _ _ _) ?_); simp [ansV])
    | ((refine aCall.gives (rone_ok _ _ _ _) ?_); simp [ansV])
    | ((refine pureCall.gives (fun _ => rone_ok _ _ _ _) ?_); simp [ansV])
    | ((with_reducible refine AWp.ret ?_); try simp [ansV])
    | ((with_reducible refine AWp.skip ?_); try simp [ansV])
    | ((with_reducible refine AWp.exit ?_); try simp [ansV])
    | ((refine AWp.cond rfl (fun _ => ?_) (fun hcf => absurd hcf ?hcd)); (case hcd => (simp [ansV]; done)))
    | ((refine AWp.cond rfl (fun hcf => absurd hcf ?hcd) (fun _ => ?_)); (case hcd => (simp [ansV]; done))))
  intro id2 ne hid2
  have ne' : ¬ id = id2 := fun e => ne e.symm
  repeat (first
    | (with_reducible refine AWp.seq ?_)
    | (with_reducible refine AWp.block ?_)
    | (with_reducible refine And.intro (by first | omega | assumption | decide) ?_)
    | ((with_reducible refine AWp.region ?_); simp [ne, ne', Try.underlying2, Try.underlying22])
    | ((with_reducible refine AWp.drawS (id := 5) mixed (Sch.step 0 (Sch.step 1 (Sch.read 2 (Sch.step 3 (Sch.step 4 (Sch.step 5 (Sch.step 6 (Sch.read 7 (Sch.step 8 (Sch.step 9 (Sch.step 10 (Sch.step 11 (Sch.step 12 (Sch.step 14 (Sch.step 17 (Sch.step 18 (Sch.step 20 (Sch.read 13 (Sch.read 15 (Sch.pure 16 (Sch.read 19 (Sch.read 21 (Sch.pure 22 (Sch.step 23 (Sch.step 24 (Sch.step 25 (Sch.step 26 (Sch.step 30 (Sch.read 27 (Sch.step 28 (Sch.pure 29 (Sch.read 31 (Sch.step 32 (Sch.pure 33 (Sch.step 34 (Sch.step 35 (Sch.step 36 Sch.done))))))))))))))))))))))))))))))))))))) (by kernel_rfl) (by kernel_rfl) (by repeat (with_reducible first | apply PanQ.then | apply PanQ.block | exact PanQ.body)) ?_); simp [ne, ne', Try.underlying2, Try.underlying22])
    | ((refine aCall.gives (test_ok _ _ _ _) ?_); simp [ne, ne', Try.underlying2, Try.underlying22])
    | ((refine pureCall.gives (fun _ => test_ok _ _ _ _) ?_); simp [ne, ne', Try.underlying2, Try.underlying22])
    | ((refine aCall.gives (rtest_ok _ _ _ ha hb _) ?_); simp [ne, ne', Try.underlying2, Try.underlying22])
    | ((refine pureCall.gives (fun _ => rtest_ok _ _ _ ha hb _) ?_); simp [ne, ne', Try.underlying2, Try.underlying22])
    | ((refine aCall.gives (int_ok _ _) ?_); simp [ne, ne', Try.underlying2, Try.underlying22])
    | ((refine pureCall.gives (fun _ => int_ok _ _) ?_); simp [ne, ne', Try.underlying2, Try.underlying22])
    | ((refine aCall.gives (rint_ok _ _) ?_); simp [ne, ne', Try.underlying2, Try.underlying22])
    | ((refine pureCall.gives (fun _ => rint_ok _ _) ?_); simp [ne, ne', Try.underlying2, Try.underlying22])
    | ((with_reducible refine AWp.ret ?_); try simp [ne, ne', Try.underlying2, Try.underlying22])
    | ((with_reducible refine AWp.skip ?_); try simp [ne, ne', Try.underlying2, Try.underlying22])
    | ((with_reducible refine AWp.exit ?_); try simp [ne, ne', Try.underlying2, Try.underlying22])
    | ((refine AWp.cond rfl (fun _ => ?_) (fun hcf => absurd hcf ?hcd)); (case hcd => (simp [ne, ne', Try.underlying2, Try.underlying22]; done)))
    | ((refine AWp.cond rfl (fun hcf => absurd hcf ?hcd) (fun _ => ?_)); (case hcd => (simp [ne, ne', Try.underlying2, Try.underlying22]; done))))
  exact ⟨_, _, Wk.refl _, AS.le_refl _, rfl⟩

theorem numOne_reads (os : Os) {H : Type} (enc : TypeId × Value → H) : ∃ places, DataW.whole enc Try.prog ((World.holding Try.prog os ⟨#[], #[Value.int .i64 0, Value.agg #[.bool false, .int .u64 0, .int .u64 0]], []⟩).forCall (fun _ _ => 0) ⟨#[], #[Value.int .i64 0, Value.agg #[.bool false, .int .u64 0, .int .u64 0]], []⟩).memory Try.f6.params.toList Rows.numOneSpec.vars false #[Value.int .i64 0, Value.agg #[.bool false, .int .u64 0, .int .u64 0]].toList 8 = some ([.lit (.int .i64 0), .agg [.lit (.bool false), .lit (.int .u64 0), .lit (.int .u64 0)]], [], places) :=
  ⟨[], by kernel_rfl⟩

theorem numOne_contract (H : Type) (enc : TypeId × Value → H) (W : World) (base : Nat) (args : Array Value) (ds gs : List (DataW H)) (before : List MemPlace)
    (hval : ∀ (j : Nat) t v, Try.f6.params[j]? = some t → args[j]? = some v → Value.okWide Try.prog W .any base t v)
    (hW : DataW.Whole enc Try.prog Try.f6.params.toList Rows.numOneSpec.vars false W args.toList ds gs before)
    (hwt : (DataW.weightsEach Try.prog (Try.f6.params.toList ++ Rows.numOneSpec.plain.varTypes Try.prog) (ds ++ gs)).all (· ≤ reachBytes) = true) :
    Calls Try.prog 6 args W fun e W' => ∃ v, e = .returned v ∧ Rows.numOneSpec.post enc Try.prog Try.f6 false true false false W args v W' := by
  refine law_contract (P := Try.prog) (fn := Try.f6) (k := 4) (ts := [3, 24]) (tb := 4) (s := Rows.numOneSpec) laidOut (by kernel_rfl) (by kernel_rfl) (by kernel_rfl) rfl Try.underlying4 rfl (fun ds h => ?_) (fun vs h => ?_) hval hW hwt
  · match ds, h with
    | [d1, d2], _ => rfl
  · obtain ⟨c1, r, rfl, h1, h⟩ := h.inv
    obtain ⟨c2, r, rfl, h2, h⟩ := h.inv
    obtain rfl := h.inv0
    obtain ⟨op, e1, _⟩ := arg_int Try.underlying3 h1
    obtain ⟨w, a, b, e2, ha, hb⟩ := arg_words h2
    rw [e1, e2]
    exact numOne_ok op w a b ha hb

theorem numOne_lifted (os : Os) (started : os.Started) (H : Type) (enc : TypeId × Value → H) (F : Stop.Interp) :
    ReturnsInHanded {} Try.checked os 6 .any ((OpenSpec.ofChange Rows.numOneSpec).preRow enc Try.prog Try.f6 Rows.numOneRow.domain false Rows.numOneRow.laid)
      (((OpenSpec.ofChange Rows.numOneSpec).at F).post enc Try.prog Try.f6 false true false false) := by
  obtain ⟨places, hx⟩ := numOne_reads os enc
  refine returnsInHanded_of_row (C := Try.checked) (s := OpenSpec.ofChange Rows.numOneSpec) own started (by kernel_rfl) Try.func6
    (witness_row_at (enc := enc) (C := Try.checked) false (World.holding Try.prog os ⟨#[], #[Value.int .i64 0, Value.agg #[.bool false, .int .u64 0, .int .u64 0]], []⟩) #[Value.int .i64 0, Value.agg #[.bool false, .int .u64 0, .int .u64 0]] rfl (by kernel_rfl) (by kernel_rfl) (by kernel_rfl)
      (OpenSpec.preRow_of_cond 8 hx (by kernel_rfl) (fun k hk => by cases hk) (by kernel_rfl) (show laidMetH Try.prog [] _ from ⟨[], rfl, List.nodup_nil, fun _ _ h => by cases h⟩))) ?_
  intro W base args ds gs before hval hW _ _ hwt _ _ _
  exact numOne_contract H enc W base args ds gs before hval hW hwt

theorem numOne_holds : Rows.NumOneSaid :=
  OpenClaim.holds_of_cond 6 Try.f6 rfl rfl rfl rfl rfl rfl rfl ⟨rfl, rfl, rfl, rfl, rfl⟩ rfl rfl rfl rfl rfl (by kernel_rfl) Try.func6 (by kernel_rfl)
    (of_decide_eq_true (by kernel_rfl)) (by unfold Func.isWrapper; first | (rw [if_pos (by decide +kernel)]; kernel_rfl) | (rw [if_neg (by decide +kernel)]; exact ⟨rfl, rfl⟩))
    (fun os started H enc _ F => by rw [OpenClaim.pre_eq_preRow]; exact numOne_lifted os started H enc F)


end Go.Proofs.Ythkcblpdgjnkdaa
