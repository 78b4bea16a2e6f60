/- OctetNil: a reader that is not there tells so, whatever the number. No condition. -/
import Derived.Test.YtagglnnaapkgfaaOct3
import Derived.Test.YtagglnnaapkgfaaRows
set_option linter.unusedSimpArgs false
set_option linter.unusedVariables false
set_option maxRecDepth 100000
namespace Go.Proofs.Ytagglnnaapkgfaa
open Go Go.AW Go.ChangeShapes Go.WideShapes Go.ChangeAt Go.RowKit

theorem wakes_ok (σ : AS) : ACalls Try.prog 24 [] σ IsTrue No := by
  refine ACalls.of_body Try.func24 rfl rfl (by simp [Try.ntmps24]) ?_
  have hpl : packL 128 = [128, 128] := by decide
  repeat (first
    | (with_reducible refine AWp.seq ?_)
    | (with_reducible refine AWp.block ?_)
    | (with_reducible refine And.intro (by first | omega | assumption | decide) ?_)
    | ((with_reducible refine AWp.region ?_); simp)
    | ((with_reducible refine AWp.drawR mixed (by with_unfolding_all rfl) (by kernel_rfl) (by repeat (with_reducible first | exact PanQ.body | apply PanQ.then | apply PanQ.block)) ?_); simp)
    | ((with_reducible refine AWp.drawT mixed (by kernel_rfl) (by repeat (with_reducible first | exact PanQ.body | apply PanQ.then | apply PanQ.block)) ?_); simp)
    | ((with_reducible refine AWp.ret ?_); try simp)
    | ((with_reducible refine AWp.skip ?_); try simp)
    | ((with_reducible refine AWp.exit ?_); try simp)
    | ((refine AWp.cond rfl (fun _ => ?_) (fun hcf => absurd hcf ?hcd)); (case hcd => (simp; done)))
    | ((refine AWp.cond rfl (fun hcf => absurd hcf ?hcd) (fun _ => ?_)); (case hcd => (simp; done))))
  refine aCall.owns ((pack_ok [] .unk true (fun _ => rfl) (by simp) 128 (by omega) (by omega) σ).wk _ rfl (fun i hi => by
    match i, hi with
    | 0, _ => simp
    | 1, _ => simp)) (fun tk htk => ?_)
  simp [hpl]
  repeat (first
    | (with_reducible refine AWp.seq ?_)
    | (with_reducible refine AWp.block ?_)
    | (with_reducible refine And.intro (by first | omega | assumption | decide) ?_)
    | ((with_reducible refine AWp.region ?_); simp)
    | ((with_reducible refine AWp.drawR mixed (by with_unfolding_all rfl) (by kernel_rfl) (by repeat (with_reducible first | exact PanQ.body | apply PanQ.then | apply PanQ.block)) ?_); simp)
    | ((with_reducible refine AWp.drawT mixed (by kernel_rfl) (by repeat (with_reducible first | exact PanQ.body | apply PanQ.then | apply PanQ.block)) ?_); simp)
    | ((with_reducible refine AWp.ret ?_); try simp)
    | ((with_reducible refine AWp.skip ?_); try simp)
    | ((with_reducible refine AWp.exit ?_); try simp)
    | ((refine AWp.cond rfl (fun _ => ?_) (fun hcf => absurd hcf ?hcd)); (case hcd => (simp; done)))
    | ((refine AWp.cond rfl (fun hcf => absurd hcf ?hcd) (fun _ => ?_)); (case hcd => (simp; done))))
  refine aCall.of ((new_ok [192, 0, 64, 0] .full false (by simp) (by simp) _).wk _ rfl (fun i hi => by
    match i, hi with
    | 0, _ => simp)) ?_ (fun _ _ h => h.elim)
  rintro r σ' ⟨id, hid, rfl, rfl⟩
  simp
  repeat (first
    | (with_reducible refine AWp.seq ?_)
    | (with_reducible refine AWp.block ?_)
    | (with_reducible refine And.intro (by first | omega | assumption | decide) ?_)
    | ((with_reducible refine AWp.region ?_); simp)
    | ((with_reducible refine AWp.drawR mixed (by with_unfolding_all rfl) (by kernel_rfl) (by repeat (with_reducible first | exact PanQ.body | apply PanQ.then | apply PanQ.block)) ?_); simp)
    | ((with_reducible refine AWp.drawT mixed (by kernel_rfl) (by repeat (with_reducible first | exact PanQ.body | apply PanQ.then | apply PanQ.block)) ?_); simp)
    | ((with_reducible refine AWp.ret ?_); try simp)
    | ((with_reducible refine AWp.skip ?_); try simp)
    | ((with_reducible refine AWp.exit ?_); try simp)
    | ((refine AWp.cond rfl (fun _ => ?_) (fun hcf => absurd hcf ?hcd)); (case hcd => (simp; done)))
    | ((refine AWp.cond rfl (fun hcf => absurd hcf ?hcd) (fun _ => ?_)); (case hcd => (simp; done))))
  refine aCall.gives (packed_ok id [192, 0, 64, 0] 0 false _ (by simp) (by simp [AS.set]) (by omega) (by simp) (by simp) 16384 4 0 (by decide)) ?_
  simp
  repeat (first
    | (with_reducible refine AWp.seq ?_)
    | (with_reducible refine AWp.block ?_)
    | (with_reducible refine And.intro (by first | omega | assumption | decide) ?_)
    | ((with_reducible refine AWp.region ?_); simp)
    | ((with_reducible refine AWp.drawR mixed (by with_unfolding_all rfl) (by kernel_rfl) (by repeat (with_reducible first | exact PanQ.body | apply PanQ.then | apply PanQ.block)) ?_); simp)
    | ((with_reducible refine AWp.drawT mixed (by kernel_rfl) (by repeat (with_reducible first | exact PanQ.body | apply PanQ.then | apply PanQ.block)) ?_); simp)
    | ((with_reducible refine AWp.ret ?_); try simp)
    | ((with_reducible refine AWp.skip ?_); try simp)
    | ((with_reducible refine AWp.exit ?_); try simp)
    | ((refine AWp.cond rfl (fun _ => ?_) (fun hcf => absurd hcf ?hcd)); (case hcd => (simp; done)))
    | ((refine AWp.cond rfl (fun hcf => absurd hcf ?hcd) (fun _ => ?_)); (case hcd => (simp; done))))
  refine aCall.gives ((same_ok [128, 128] [128, 128] (.tok tk) .full false false (by simp) _).wk _ rfl (fun i hi => by
    match i, hi with
    | 0, _ => simp
    | 1, _ => simp)) ?_
  simp
  repeat (first
    | (with_reducible refine AWp.seq ?_)
    | (with_reducible refine AWp.block ?_)
    | (with_reducible refine And.intro (by first | omega | assumption | decide) ?_)
    | ((with_reducible refine AWp.region ?_); simp)
    | ((with_reducible refine AWp.drawR mixed (by with_unfolding_all rfl) (by kernel_rfl) (by repeat (with_reducible first | exact PanQ.body | apply PanQ.then | apply PanQ.block)) ?_); simp)
    | ((with_reducible refine AWp.drawT mixed (by kernel_rfl) (by repeat (with_reducible first | exact PanQ.body | apply PanQ.then | apply PanQ.block)) ?_); simp)
    | ((with_reducible refine AWp.ret ?_); try simp)
    | ((with_reducible refine AWp.skip ?_); try simp)
    | ((with_reducible refine AWp.exit ?_); try simp)
    | ((refine AWp.cond rfl (fun _ => ?_) (fun hcf => absurd hcf ?hcd)); (case hcd => (simp; done)))
    | ((refine AWp.cond rfl (fun hcf => absurd hcf ?hcd) (fun _ => ?_)); (case hcd => (simp; done))))
  refine aCall.gives (at_ok id [192, 0, 64, 0] 4 false _ (by simp [AS.set])) ?_
  simp
  repeat (first
    | (with_reducible refine AWp.seq ?_)
    | (with_reducible refine AWp.block ?_)
    | (with_reducible refine And.intro (by first | omega | assumption | decide) ?_)
    | ((with_reducible refine AWp.region ?_); simp)
    | ((with_reducible refine AWp.drawR mixed (by with_unfolding_all rfl) (by kernel_rfl) (by repeat (with_reducible first | exact PanQ.body | apply PanQ.then | apply PanQ.block)) ?_); simp)
    | ((with_reducible refine AWp.drawT mixed (by kernel_rfl) (by repeat (with_reducible first | exact PanQ.body | apply PanQ.then | apply PanQ.block)) ?_); simp)
    | ((with_reducible refine AWp.ret ?_); try simp)
    | ((with_reducible refine AWp.skip ?_); try simp)
    | ((with_reducible refine AWp.exit ?_); try simp)
    | ((refine AWp.cond rfl (fun _ => ?_) (fun hcf => absurd hcf ?hcd)); (case hcd => (simp; done)))
    | ((refine AWp.cond rfl (fun hcf => absurd hcf ?hcd) (fun _ => ?_)); (case hcd => (simp; done))))
  exact ⟨_, _, Wk.refl _, AS.le_refl _, rfl⟩

theorem nil_ok (n : Int) : ACalls Try.prog 10 [.sc (.int .i64 n)] noAS IsTrue No := by
  refine ACalls.of_body Try.func10 rfl rfl (by simp [Try.ntmps10]) ?_
  repeat (first
    | (with_reducible refine AWp.seq ?_)
    | (with_reducible refine AWp.block ?_)
    | (with_reducible refine And.intro (by first | omega | assumption | decide) ?_)
    | ((with_reducible refine AWp.region ?_); simp)
    | ((with_reducible refine AWp.drawR mixed (by with_unfolding_all rfl) (by kernel_rfl) (by repeat (with_reducible first | exact PanQ.body | apply PanQ.then | apply PanQ.block)) ?_); simp)
    | ((with_reducible refine AWp.drawT mixed (by kernel_rfl) (by repeat (with_reducible first | exact PanQ.body | apply PanQ.then | apply PanQ.block)) ?_); simp)
    | ((with_reducible refine AWp.ret ?_); try simp)
    | ((with_reducible refine AWp.skip ?_); try simp)
    | ((with_reducible refine AWp.exit ?_); try simp)
    | ((refine AWp.cond rfl (fun _ => ?_) (fun hcf => absurd hcf ?hcd)); (case hcd => (simp; done)))
    | ((refine AWp.cond rfl (fun hcf => absurd hcf ?hcd) (fun _ => ?_)); (case hcd => (simp; done))))
  refine aCall.gives (num_nil n _) ?_
  simp
  repeat (first
    | (with_reducible refine AWp.seq ?_)
    | (with_reducible refine AWp.block ?_)
    | (with_reducible refine And.intro (by first | omega | assumption | decide) ?_)
    | ((with_reducible refine AWp.region ?_); simp)
    | ((with_reducible refine AWp.drawR mixed (by with_unfolding_all rfl) (by kernel_rfl) (by repeat (with_reducible first | exact PanQ.body | apply PanQ.then | apply PanQ.block)) ?_); simp)
    | ((with_reducible refine AWp.drawT mixed (by kernel_rfl) (by repeat (with_reducible first | exact PanQ.body | apply PanQ.then | apply PanQ.block)) ?_); simp)
    | ((with_reducible refine AWp.ret ?_); try simp)
    | ((with_reducible refine AWp.skip ?_); try simp)
    | ((with_reducible refine AWp.exit ?_); try simp)
    | ((refine AWp.cond rfl (fun _ => ?_) (fun hcf => absurd hcf ?hcd)); (case hcd => (simp; done)))
    | ((refine AWp.cond rfl (fun hcf => absurd hcf ?hcd) (fun _ => ?_)); (case hcd => (simp; done))))
  refine aCall.gives (packed_nil _) ?_
  simp
  repeat (first
    | (with_reducible refine AWp.seq ?_)
    | (with_reducible refine AWp.block ?_)
    | (with_reducible refine And.intro (by first | omega | assumption | decide) ?_)
    | ((with_reducible refine AWp.region ?_); simp)
    | ((with_reducible refine AWp.drawR mixed (by with_unfolding_all rfl) (by kernel_rfl) (by repeat (with_reducible first | exact PanQ.body | apply PanQ.then | apply PanQ.block)) ?_); simp)
    | ((with_reducible refine AWp.drawT mixed (by kernel_rfl) (by repeat (with_reducible first | exact PanQ.body | apply PanQ.then | apply PanQ.block)) ?_); simp)
    | ((with_reducible refine AWp.ret ?_); try simp)
    | ((with_reducible refine AWp.skip ?_); try simp)
    | ((with_reducible refine AWp.exit ?_); try simp)
    | ((refine AWp.cond rfl (fun _ => ?_) (fun hcf => absurd hcf ?hcd)); (case hcd => (simp; done)))
    | ((refine AWp.cond rfl (fun hcf => absurd hcf ?hcd) (fun _ => ?_)); (case hcd => (simp; done))))
  refine aCall.gives (take_nil n _) ?_
  simp
  repeat (first
    | (with_reducible refine AWp.seq ?_)
    | (with_reducible refine AWp.block ?_)
    | (with_reducible refine And.intro (by first | omega | assumption | decide) ?_)
    | ((with_reducible refine AWp.region ?_); simp)
    | ((with_reducible refine AWp.drawR mixed (by with_unfolding_all rfl) (by kernel_rfl) (by repeat (with_reducible first | exact PanQ.body | apply PanQ.then | apply PanQ.block)) ?_); simp)
    | ((with_reducible refine AWp.drawT mixed (by kernel_rfl) (by repeat (with_reducible first | exact PanQ.body | apply PanQ.then | apply PanQ.block)) ?_); simp)
    | ((with_reducible refine AWp.ret ?_); try simp)
    | ((with_reducible refine AWp.skip ?_); try simp)
    | ((with_reducible refine AWp.exit ?_); try simp)
    | ((refine AWp.cond rfl (fun _ => ?_) (fun hcf => absurd hcf ?hcd)); (case hcd => (simp; done)))
    | ((refine AWp.cond rfl (fun hcf => absurd hcf ?hcd) (fun _ => ?_)); (case hcd => (simp; done))))
  refine aCall.of (wakes_ok _) ?_ (fun _ _ h => h.elim)
  rintro r σ' rfl
  simp
  repeat (first
    | (with_reducible refine AWp.seq ?_)
    | (with_reducible refine AWp.block ?_)
    | (with_reducible refine And.intro (by first | omega | assumption | decide) ?_)
    | ((with_reducible refine AWp.region ?_); simp)
    | ((with_reducible refine AWp.drawR mixed (by with_unfolding_all rfl) (by kernel_rfl) (by repeat (with_reducible first | exact PanQ.body | apply PanQ.then | apply PanQ.block)) ?_); simp)
    | ((with_reducible refine AWp.drawT mixed (by kernel_rfl) (by repeat (with_reducible first | exact PanQ.body | apply PanQ.then | apply PanQ.block)) ?_); simp)
    | ((with_reducible refine AWp.ret ?_); try simp)
    | ((with_reducible refine AWp.skip ?_); try simp)
    | ((with_reducible refine AWp.exit ?_); try simp)
    | ((refine AWp.cond rfl (fun _ => ?_) (fun hcf => absurd hcf ?hcd)); (case hcd => (simp; done)))
    | ((refine AWp.cond rfl (fun hcf => absurd hcf ?hcd) (fun _ => ?_)); (case hcd => (simp; done))))
  refine aCall.gives (skip_nil n _) ?_
  simp
  repeat (first
    | (with_reducible refine AWp.seq ?_)
    | (with_reducible refine AWp.block ?_)
    | (with_reducible refine And.intro (by first | omega | assumption | decide) ?_)
    | ((with_reducible refine AWp.region ?_); simp)
    | ((with_reducible refine AWp.drawR mixed (by with_unfolding_all rfl) (by kernel_rfl) (by repeat (with_reducible first | exact PanQ.body | apply PanQ.then | apply PanQ.block)) ?_); simp)
    | ((with_reducible refine AWp.drawT mixed (by kernel_rfl) (by repeat (with_reducible first | exact PanQ.body | apply PanQ.then | apply PanQ.block)) ?_); simp)
    | ((with_reducible refine AWp.ret ?_); try simp)
    | ((with_reducible refine AWp.skip ?_); try simp)
    | ((with_reducible refine AWp.exit ?_); try simp)
    | ((refine AWp.cond rfl (fun _ => ?_) (fun hcf => absurd hcf ?hcd)); (case hcd => (simp; done)))
    | ((refine AWp.cond rfl (fun hcf => absurd hcf ?hcd) (fun _ => ?_)); (case hcd => (simp; done))))
  refine aCall.gives (done_nil _) ?_
  simp
  repeat (first
    | (with_reducible refine AWp.seq ?_)
    | (with_reducible refine AWp.block ?_)
    | (with_reducible refine And.intro (by first | omega | assumption | decide) ?_)
    | ((with_reducible refine AWp.region ?_); simp)
    | ((with_reducible refine AWp.drawR mixed (by with_unfolding_all rfl) (by kernel_rfl) (by repeat (with_reducible first | exact PanQ.body | apply PanQ.then | apply PanQ.block)) ?_); simp)
    | ((with_reducible refine AWp.drawT mixed (by kernel_rfl) (by repeat (with_reducible first | exact PanQ.body | apply PanQ.then | apply PanQ.block)) ?_); simp)
    | ((with_reducible refine AWp.ret ?_); try simp)
    | ((with_reducible refine AWp.skip ?_); try simp)
    | ((with_reducible refine AWp.exit ?_); try simp)
    | ((refine AWp.cond rfl (fun _ => ?_) (fun hcf => absurd hcf ?hcd)); (case hcd => (simp; done)))
    | ((refine AWp.cond rfl (fun hcf => absurd hcf ?hcd) (fun _ => ?_)); (case hcd => (simp; done))))
  refine aCall.gives (at_nil _) ?_
  simp
  repeat (first
    | (with_reducible refine AWp.seq ?_)
    | (with_reducible refine AWp.block ?_)
    | (with_reducible refine And.intro (by first | omega | assumption | decide) ?_)
    | ((with_reducible refine AWp.region ?_); simp)
    | ((with_reducible refine AWp.drawR mixed (by with_unfolding_all rfl) (by kernel_rfl) (by repeat (with_reducible first | exact PanQ.body | apply PanQ.then | apply PanQ.block)) ?_); simp)
    | ((with_reducible refine AWp.drawT mixed (by kernel_rfl) (by repeat (with_reducible first | exact PanQ.body | apply PanQ.then | apply PanQ.block)) ?_); simp)
    | ((with_reducible refine AWp.ret ?_); try simp)
    | ((with_reducible refine AWp.skip ?_); try simp)
    | ((with_reducible refine AWp.exit ?_); try simp)
    | ((refine AWp.cond rfl (fun _ => ?_) (fun hcf => absurd hcf ?hcd)); (case hcd => (simp; done)))
    | ((refine AWp.cond rfl (fun hcf => absurd hcf ?hcd) (fun _ => ?_)); (case hcd => (simp; done))))
  refine aCall.gives (left_nil _) ?_
  simp
  repeat (first
    | (with_reducible refine AWp.seq ?_)
    | (with_reducible refine AWp.block ?_)
    | (with_reducible refine And.intro (by first | omega | assumption | decide) ?_)
    | ((with_reducible refine AWp.region ?_); simp)
    | ((with_reducible refine AWp.drawR mixed (by with_unfolding_all rfl) (by kernel_rfl) (by repeat (with_reducible first | exact PanQ.body | apply PanQ.then | apply PanQ.block)) ?_); simp)
    | ((with_reducible refine AWp.drawT mixed (by kernel_rfl) (by repeat (with_reducible first | exact PanQ.body | apply PanQ.then | apply PanQ.block)) ?_); simp)
    | ((with_reducible refine AWp.ret ?_); try simp)
    | ((with_reducible refine AWp.skip ?_); try simp)
    | ((with_reducible refine AWp.exit ?_); try simp)
    | ((refine AWp.cond rfl (fun _ => ?_) (fun hcf => absurd hcf ?hcd)); (case hcd => (simp; done)))
    | ((refine AWp.cond rfl (fun hcf => absurd hcf ?hcd) (fun _ => ?_)); (case hcd => (simp; done))))
  rw [show IntKind.i64.wrap 0 = 0 by decide]
  exact ⟨_, _, Wk.refl _, AS.le_refl _, rfl⟩

theorem own : ownKnob Try.prog.godebug = none := by kernel_rfl
theorem laidOut : laidOutB Try.prog = true := by kernel_rfl

theorem octetNil_reads (os : Os) {H : Type} (enc : TypeId × Value → H) : ∃ places, DataW.whole enc Try.prog ((World.holding Try.prog os ⟨#[], #[.int .i64 0], []⟩).forCall (fun _ _ => 0) ⟨#[], #[.int .i64 0], []⟩).memory Try.f10.params.toList Rows.octetNilSpec.vars false #[Value.int .i64 0].toList 8 = some ([.lit (.int .i64 0)], [], places) :=
  ⟨[], by kernel_rfl⟩

theorem octetNil_contract (H : Type) (enc : TypeId × Value → H) (W : World) (base : Nat) (args : Array Value) (ds gs : List (DataW H)) (before : List MemPlace)
    (hval : ∀ (j : Nat) t v, Try.f10.params[j]? = some t → args[j]? = some v → Value.okWide Try.prog W .any base t v)
    (hW : DataW.Whole enc Try.prog Try.f10.params.toList Rows.octetNilSpec.vars false W args.toList ds gs before)
    (hwt : (DataW.weightsEach Try.prog (Try.f10.params.toList ++ Rows.octetNilSpec.plain.varTypes Try.prog) (ds ++ gs)).all (· ≤ reachBytes) = true) :
    Calls Try.prog 10 args W fun e W' => ∃ v, e = .returned v ∧ Rows.octetNilSpec.post enc Try.prog Try.f10 false true false false W args v W' := by
  refine law_contract (P := Try.prog) (fn := Try.f10) (k := 4) (ts := [3]) (tb := 4) (s := Rows.octetNilSpec) laidOut (by kernel_rfl) (by kernel_rfl) (by kernel_rfl) rfl Try.underlying4 rfl (fun ds h => ?_) (fun vs h => ?_) hval hW hwt
  · match ds, h with
    | [d], _ => rfl
  · obtain ⟨cs, r, rfl, h1, h2⟩ := h.inv
    obtain rfl := h2.inv0
    obtain ⟨n, e, _⟩ := arg_int Try.underlying3 h1
    rw [e]
    exact nil_ok n

theorem octetNil_lifted (os : Os) (started : os.Started) (H : Type) (enc : TypeId × Value → H) (F : Stop.Interp) :
    ReturnsInHanded {} Try.checked os 10 .any ((OpenSpec.ofChange Rows.octetNilSpec).preRow enc Try.prog Try.f10 Rows.octetNilRow.domain false Rows.octetNilRow.laid)
      (((OpenSpec.ofChange Rows.octetNilSpec).at F).post enc Try.prog Try.f10 false true false false) := by
  obtain ⟨places, hx⟩ := octetNil_reads os enc
  refine returnsInHanded_of_row (C := Try.checked) (s := OpenSpec.ofChange Rows.octetNilSpec) own started (by kernel_rfl) Try.func10
    (witness_row_at (enc := enc) (C := Try.checked) false (World.holding Try.prog os ⟨#[], #[.int .i64 0], []⟩) #[.int .i64 0] rfl (by kernel_rfl) (by kernel_rfl) (by kernel_rfl)
      (OpenSpec.preRow_of_cond 8 hx (by kernel_rfl) (fun k hk => by cases hk) (by kernel_rfl) (show laidMetH Try.prog [] _ from ⟨[], rfl, List.nodup_nil, fun _ _ h => by cases h⟩))) ?_
  intro W base args ds gs before hval hW _ _ hwt _ _ _
  exact octetNil_contract H enc W base args ds gs before hval hW hwt

theorem octetNil_holds : Rows.OctetNilSaid :=
  OpenClaim.holds_of_cond 10 Try.f10 rfl rfl rfl rfl rfl rfl rfl ⟨rfl, rfl, rfl, rfl, rfl⟩ rfl rfl rfl rfl rfl (by kernel_rfl) Try.func10 (by kernel_rfl)
    (of_decide_eq_true (by kernel_rfl)) (by unfold Func.isWrapper; first | (rw [if_pos (by decide +kernel)]; kernel_rfl) | (rw [if_neg (by decide +kernel)]; exact ⟨rfl, rfl⟩))
    (fun os started H enc _ F => by rw [OpenClaim.pre_eq_preRow]; exact octetNil_lifted os started H enc F)

end Go.Proofs.Ytagglnnaapkgfaa
