/- OctetReads: whatever is read of any bytes, one behind the other, is what the document says, or refused, and an error leaves the reader as it is. No condition. -/
import Derived.Test.YtiojkpebjdifoaaOne
set_option linter.unusedSimpArgs false
set_option linter.unusedVariables false
set_option maxRecDepth 100000
set_option maxHeartbeats 1600000
namespace Go.Proofs.Ytiojkpebjdifoaa
open Go Go.AW Go.ChangeShapes Go.WideShapes Go.ChangeAt Go.RowKit

/-- An act: true, and the reader has gone on by some bytes. -/
def ActQ (id : Nat) (b : List UInt8) (at' : Int) (σ : AS) (r : AV) (σ' : AS) : Prop :=
  ∃ adv : Int, 0 ≤ adv ∧ adv ≤ b.length - at' ∧ r = .tup [.sc (.int .i64 adv), .sc (.bool true)] ∧ σ' = σ.set id (rdC b (at' + adv) false)

theorem actEnd {id : Nat} {b : List UInt8} {at' adv : Int} {σ σ1 : AS} {x : AV} (h0 : 0 ≤ adv) (h1 : adv ≤ b.length - at') (hx : AV.Wk Try.prog x (.tup [.sc (.int .i64 adv), .sc (.bool true)])) (hle : AS.le (σ.set id (rdC b (at' + adv) false)) σ1) :
    AW.Ends Try.prog (ActQ id b at' σ) σ1 x := ⟨_, _, hx, hle, adv, h0, h1, rfl, rfl⟩

theorem numE_1 (b : List UInt8) (at' n : Int) (hw : wide n = true) (h : (b.length : Int) - at' < n) : numE b at' n = 1 := by simp [numE, hw, h]
theorem numE_17 (b : List UInt8) (at' n : Int) (hw : ¬ wide n = true) : numE b at' n = 17 := by simp [numE, hw]

theorem act_ok (id : Nat) (b : List UInt8) (o : Own) (nl : Bool) (at' kind n : Int) (σ : AS) (h : σ id = some (rdC b at' false)) (ha : 0 ≤ at') (hb : at' ≤ b.length) (hl : b.length ≤ 4096) :
    ACalls Try.prog 28 [.ptr id 0, .lst 5 (b.map u8) o nl, .sc (.int .i64 at'), .agg [.sc (.int .i64 kind), .sc (.int .i64 n)]] σ (ActQ id b at' σ) No := by
  have hl1 : b.length ≤ 140737488355328 := by omega
  have hsame : σ.set id (rdC b (at' + 0) false) = σ := AS.set_id σ id _ (by rw [Int.add_zero]; exact h)
  have wl : IntKind.i64.wrap ((b.length : Int) - at') = b.length - at' := in_i64 (by omega) (by omega)
  refine ACalls.of_body Try.func28 rfl rfl (by simp [Try.ntmps28]) ?_
  repeat (first
    | (with_reducible refine AWp.seq ?_)
    | (with_reducible refine AWp.block ?_)
    | (with_reducible refine And.intro (by first | omega | assumption | decide) ?_)
    | ((with_reducible refine AWp.region ?_); simp)
    | ((with_reducible refine AWp.drawS (id := 9) mixed (Sch.step 0 (Sch.step 2 (Sch.step 3 (Sch.step 4 (Sch.step 5 (Sch.step 6 (Sch.step 7 (Sch.step 8 (Sch.read 9 (Sch.alt 1 (Sch.alt 10 (Sch.step 11 (Sch.step 12 (Sch.step 13 (Sch.step 14 Sch.done)))) Sch.none) (Sch.alt 10 (Sch.step 11 (Sch.step 12 (Sch.read 1 (Sch.step 13 (Sch.step 14 Sch.done))))) Sch.none))))))))))) (by kernel_rfl) (by kernel_rfl) (by repeat (with_reducible first | apply PanQ.then | apply PanQ.block | exact PanQ.body)) ?_); simp)
    | ((with_reducible refine AWp.drawS (id := 14) mixed (Sch.step 0 (Sch.step 1 (Sch.step 2 (Sch.step 3 (Sch.step 4 (Sch.step 8 (Sch.read 5 (Sch.step 6 (Sch.step 7 (Sch.step 9 Sch.done)))))))))) (by kernel_rfl) (by kernel_rfl) (by repeat (with_reducible first | apply PanQ.then | apply PanQ.block | exact PanQ.body)) ?_); simp)
    | ((with_reducible refine AWp.drawS (id := 27) mixed (Sch.step 0 (Sch.step 2 (Sch.step 3 (Sch.step 4 (Sch.step 5 (Sch.read 6 (Sch.step 7 (Sch.step 8 (Sch.step 9 (Sch.step 10 (Sch.step 11 (Sch.step 12 (Sch.step 13 (Sch.read 14 (Sch.step 15 (Sch.step 16 (Sch.alt 1 (Sch.alt 17 (Sch.step 18 (Sch.step 19 (Sch.step 20 (Sch.step 21 Sch.done)))) Sch.none) (Sch.alt 17 (Sch.step 18 (Sch.step 19 (Sch.read 1 (Sch.step 20 (Sch.step 21 Sch.done))))) Sch.none)))))))))))))))))) (by kernel_rfl) (by kernel_rfl) (by repeat (with_reducible first | apply PanQ.then | apply PanQ.block | exact PanQ.body)) ?_); simp)
    | ((with_reducible refine AWp.ret ?_); try simp)
    | ((with_reducible refine AWp.skip ?_); try simp)
    | ((with_reducible refine AWp.exit ?_); try simp)
    | ((refine AWp.cond rfl (fun _ => ?_) (fun hcf => absurd hcf ?hcd)); (case hcd => (simp; done)))
    | ((refine AWp.cond rfl (fun hcf => absurd hcf ?hcd) (fun _ => ?_)); (case hcd => (simp; done))))
  intro id2 hid2
  have ne : id ≠ id2 := by intro e; subst e; rw [h] at hid2; cases hid2
  have hh : ∀ x, (σ.set id2 x) id = some (rdC b at' false) := fun x => by simp [ne, h]
  have ext : ∀ x τ, AS.le (σ.set id τ) ((σ.set id2 x).set id τ) := fun x τ => by
    rw [AS.set_comm ne.symm]
    exact le_new (by simp [ne.symm, hid2]) (AS.le_refl _)
  have ext0 : ∀ x, AS.le (σ.set id (rdC b (at' + 0) false)) (σ.set id2 x) := fun x => by
    rw [hsame]; exact le_new hid2 (AS.le_refl _)
  by_cases k0 : kind = 0
  · subst k0
    by_cases hw : wide n = true
    · have hn1 : 1 ≤ n ∧ n ≤ 8 := by simp [wide] at hw; omega
      by_cases hs : (b.length : Int) - at' < n
      · have hE := numE_1 b at' n hw hs
        repeat (first
          | (with_reducible refine AWp.seq ?_)
          | (with_reducible refine AWp.block ?_)
          | (with_reducible refine And.intro (by first | omega | assumption | decide) ?_)
          | ((with_reducible refine AWp.region ?_); simp [wl, hw, hs, hE])
          | ((with_reducible refine AWp.drawS (id := 9) mixed (Sch.step 0 (Sch.step 2 (Sch.step 3 (Sch.step 4 (Sch.step 5 (Sch.step 6 (Sch.step 7 (Sch.step 8 (Sch.read 9 (Sch.alt 1 (Sch.alt 10 (Sch.step 11 (Sch.step 12 (Sch.step 13 (Sch.step 14 Sch.done)))) Sch.none) (Sch.alt 10 (Sch.step 11 (Sch.step 12 (Sch.read 1 (Sch.step 13 (Sch.step 14 Sch.done))))) Sch.none))))))))))) (by kernel_rfl) (by kernel_rfl) (by repeat (with_reducible first | apply PanQ.then | apply PanQ.block | exact PanQ.body)) ?_); simp [wl, hw, hs, hE])
          | ((with_reducible refine AWp.drawS (id := 14) mixed (Sch.step 0 (Sch.step 1 (Sch.step 2 (Sch.step 3 (Sch.step 4 (Sch.step 8 (Sch.read 5 (Sch.step 6 (Sch.step 7 (Sch.step 9 Sch.done)))))))))) (by kernel_rfl) (by kernel_rfl) (by repeat (with_reducible first | apply PanQ.then | apply PanQ.block | exact PanQ.body)) ?_); simp [wl, hw, hs, hE])
          | ((with_reducible refine AWp.drawS (id := 27) mixed (Sch.step 0 (Sch.step 2 (Sch.step 3 (Sch.step 4 (Sch.step 5 (Sch.read 6 (Sch.step 7 (Sch.step 8 (Sch.step 9 (Sch.step 10 (Sch.step 11 (Sch.step 12 (Sch.step 13 (Sch.read 14 (Sch.step 15 (Sch.step 16 (Sch.alt 1 (Sch.alt 17 (Sch.step 18 (Sch.step 19 (Sch.step 20 (Sch.step 21 Sch.done)))) Sch.none) (Sch.alt 17 (Sch.step 18 (Sch.step 19 (Sch.read 1 (Sch.step 20 (Sch.step 21 Sch.done))))) Sch.none)))))))))))))))))) (by kernel_rfl) (by kernel_rfl) (by repeat (with_reducible first | apply PanQ.then | apply PanQ.block | exact PanQ.body)) ?_); simp [wl, hw, hs, hE])
          | ((refine aCall.gives (num_bad id b at' n false _ (hh _) ha hb hl1 (by rw [hE]; decide)) ?_); simp [wl, hw, hs, hE])
          | ((refine aCall.gives (rwide_ok n _) ?_); simp [wl, hw, hs, hE])
          | ((with_reducible refine AWp.ret ?_); try simp [wl, hw, hs, hE])
          | ((with_reducible refine AWp.skip ?_); try simp [wl, hw, hs, hE])
          | ((with_reducible refine AWp.exit ?_); try simp [wl, hw, hs, hE])
          | ((refine AWp.cond rfl (fun _ => ?_) (fun hcf => absurd hcf ?hcd)); (case hcd => (simp [wl, hw, hs, hE]; done)))
          | ((refine AWp.cond rfl (fun hcf => absurd hcf ?hcd) (fun _ => ?_)); (case hcd => (simp [wl, hw, hs, hE]; done))))
        exact actEnd (adv := 0) (by omega) (by omega) (Wk.refl _) (ext0 _)
      · repeat (first
          | (with_reducible refine AWp.seq ?_)
          | (with_reducible refine AWp.block ?_)
          | (with_reducible refine And.intro (by first | omega | assumption | decide) ?_)
          | ((with_reducible refine AWp.region ?_); simp [wl, hw, hs, ne, ne.symm])
          | ((with_reducible refine AWp.drawS (id := 9) mixed (Sch.step 0 (Sch.step 2 (Sch.step 3 (Sch.step 4 (Sch.step 5 (Sch.step 6 (Sch.step 7 (Sch.step 8 (Sch.read 9 (Sch.alt 1 (Sch.alt 10 (Sch.step 11 (Sch.step 12 (Sch.step 13 (Sch.step 14 Sch.done)))) Sch.none) (Sch.alt 10 (Sch.step 11 (Sch.step 12 (Sch.read 1 (Sch.step 13 (Sch.step 14 Sch.done))))) Sch.none))))))))))) (by kernel_rfl) (by kernel_rfl) (by repeat (with_reducible first | apply PanQ.then | apply PanQ.block | exact PanQ.body)) ?_); simp [wl, hw, hs, ne, ne.symm])
          | ((with_reducible refine AWp.drawS (id := 14) mixed (Sch.step 0 (Sch.step 1 (Sch.step 2 (Sch.step 3 (Sch.step 4 (Sch.step 8 (Sch.read 5 (Sch.step 6 (Sch.step 7 (Sch.step 9 Sch.done)))))))))) (by kernel_rfl) (by kernel_rfl) (by repeat (with_reducible first | apply PanQ.then | apply PanQ.block | exact PanQ.body)) ?_); simp [wl, hw, hs, ne, ne.symm])
          | ((with_reducible refine AWp.drawS (id := 27) mixed (Sch.step 0 (Sch.step 2 (Sch.step 3 (Sch.step 4 (Sch.step 5 (Sch.read 6 (Sch.step 7 (Sch.step 8 (Sch.step 9 (Sch.step 10 (Sch.step 11 (Sch.step 12 (Sch.step 13 (Sch.read 14 (Sch.step 15 (Sch.step 16 (Sch.alt 1 (Sch.alt 17 (Sch.step 18 (Sch.step 19 (Sch.step 20 (Sch.step 21 Sch.done)))) Sch.none) (Sch.alt 17 (Sch.step 18 (Sch.step 19 (Sch.read 1 (Sch.step 20 (Sch.step 21 Sch.done))))) Sch.none)))))))))))))))))) (by kernel_rfl) (by kernel_rfl) (by repeat (with_reducible first | apply PanQ.then | apply PanQ.block | exact PanQ.body)) ?_); simp [wl, hw, hs, ne, ne.symm])
          | ((refine aCall.gives (num_ok id b at' n false _ (hh _) ha hb hl1 hw (by omega)) ?_); simp [wl, hw, hs, ne, ne.symm])
          | ((refine aCall.gives (rwide_ok n _) ?_); simp [wl, hw, hs, ne, ne.symm])
          | ((with_reducible refine AWp.ret ?_); try simp [wl, hw, hs, ne, ne.symm])
          | ((with_reducible refine AWp.skip ?_); try simp [wl, hw, hs, ne, ne.symm])
          | ((with_reducible refine AWp.exit ?_); try simp [wl, hw, hs, ne, ne.symm])
          | ((refine AWp.cond rfl (fun _ => ?_) (fun hcf => absurd hcf ?hcd)); (case hcd => (simp [wl, hw, hs, ne, ne.symm]; done)))
          | ((refine AWp.cond rfl (fun hcf => absurd hcf ?hcd) (fun _ => ?_)); (case hcd => (simp [wl, hw, hs, ne, ne.symm]; done))))
        refine ⟨?_, ?_⟩
        all_goals
          repeat (first
            | (with_reducible refine AWp.seq ?_)
            | (with_reducible refine AWp.block ?_)
            | (with_reducible refine And.intro (by first | omega | assumption | decide) ?_)
            | ((with_reducible refine AWp.region ?_); simp [ne, ne.symm])
            | ((with_reducible refine AWp.drawS (id := 9) mixed (Sch.step 0 (Sch.step 2 (Sch.step 3 (Sch.step 4 (Sch.step 5 (Sch.step 6 (Sch.step 7 (Sch.step 8 (Sch.read 9 (Sch.alt 1 (Sch.alt 10 (Sch.step 11 (Sch.step 12 (Sch.step 13 (Sch.step 14 Sch.done)))) Sch.none) (Sch.alt 10 (Sch.step 11 (Sch.step 12 (Sch.read 1 (Sch.step 13 (Sch.step 14 Sch.done))))) Sch.none))))))))))) (by kernel_rfl) (by kernel_rfl) (by repeat (with_reducible first | apply PanQ.then | apply PanQ.block | exact PanQ.body)) ?_); simp [ne, ne.symm])
            | ((with_reducible refine AWp.drawS (id := 14) mixed (Sch.step 0 (Sch.step 1 (Sch.step 2 (Sch.step 3 (Sch.step 4 (Sch.step 8 (Sch.read 5 (Sch.step 6 (Sch.step 7 (Sch.step 9 Sch.done)))))))))) (by kernel_rfl) (by kernel_rfl) (by repeat (with_reducible first | apply PanQ.then | apply PanQ.block | exact PanQ.body)) ?_); simp [ne, ne.symm])
            | ((with_reducible refine AWp.drawS (id := 27) mixed (Sch.step 0 (Sch.step 2 (Sch.step 3 (Sch.step 4 (Sch.step 5 (Sch.read 6 (Sch.step 7 (Sch.step 8 (Sch.step 9 (Sch.step 10 (Sch.step 11 (Sch.step 12 (Sch.step 13 (Sch.read 14 (Sch.step 15 (Sch.step 16 (Sch.alt 1 (Sch.alt 17 (Sch.step 18 (Sch.step 19 (Sch.step 20 (Sch.step 21 Sch.done)))) Sch.none) (Sch.alt 17 (Sch.step 18 (Sch.step 19 (Sch.read 1 (Sch.step 20 (Sch.step 21 Sch.done))))) Sch.none)))))))))))))))))) (by kernel_rfl) (by kernel_rfl) (by repeat (with_reducible first | apply PanQ.then | apply PanQ.block | exact PanQ.body)) ?_); simp [ne, ne.symm])
            | ((refine aCall.gives (rnum_ok b o nl at' n ha (by omega) (by omega) (by omega) hl1 _) ?_); simp [ne, ne.symm])
            | ((with_reducible refine AWp.ret ?_); try simp [ne, ne.symm])
            | ((with_reducible refine AWp.skip ?_); try simp [ne, ne.symm])
            | ((with_reducible refine AWp.exit ?_); try simp [ne, ne.symm])
            | ((refine AWp.cond rfl (fun _ => ?_) (fun hcf => absurd hcf ?hcd)); (case hcd => (simp [ne, ne.symm]; done)))
            | ((refine AWp.cond rfl (fun hcf => absurd hcf ?hcd) (fun _ => ?_)); (case hcd => (simp [ne, ne.symm]; done))))
          exact actEnd (adv := n) (by omega) (by omega) (Wk.refl _) (ext _ _)
    · have hE := numE_17 b at' n hw
      repeat (first
        | (with_reducible refine AWp.seq ?_)
        | (with_reducible refine AWp.block ?_)
        | (with_reducible refine And.intro (by first | omega | assumption | decide) ?_)
        | ((with_reducible refine AWp.region ?_); simp [wl, hw, hE])
        | ((with_reducible refine AWp.drawS (id := 9) mixed (Sch.step 0 (Sch.step 2 (Sch.step 3 (Sch.step 4 (Sch.step 5 (Sch.step 6 (Sch.step 7 (Sch.step 8 (Sch.read 9 (Sch.alt 1 (Sch.alt 10 (Sch.step 11 (Sch.step 12 (Sch.step 13 (Sch.step 14 Sch.done)))) Sch.none) (Sch.alt 10 (Sch.step 11 (Sch.step 12 (Sch.read 1 (Sch.step 13 (Sch.step 14 Sch.done))))) Sch.none))))))))))) (by kernel_rfl) (by kernel_rfl) (by repeat (with_reducible first | apply PanQ.then | apply PanQ.block | exact PanQ.body)) ?_); simp [wl, hw, hE])
        | ((with_reducible refine AWp.drawS (id := 14) mixed (Sch.step 0 (Sch.step 1 (Sch.step 2 (Sch.step 3 (Sch.step 4 (Sch.step 8 (Sch.read 5 (Sch.step 6 (Sch.step 7 (Sch.step 9 Sch.done)))))))))) (by kernel_rfl) (by kernel_rfl) (by repeat (with_reducible first | apply PanQ.then | apply PanQ.block | exact PanQ.body)) ?_); simp [wl, hw, hE])
        | ((with_reducible refine AWp.drawS (id := 27) mixed (Sch.step 0 (Sch.step 2 (Sch.step 3 (Sch.step 4 (Sch.step 5 (Sch.read 6 (Sch.step 7 (Sch.step 8 (Sch.step 9 (Sch.step 10 (Sch.step 11 (Sch.step 12 (Sch.step 13 (Sch.read 14 (Sch.step 15 (Sch.step 16 (Sch.alt 1 (Sch.alt 17 (Sch.step 18 (Sch.step 19 (Sch.step 20 (Sch.step 21 Sch.done)))) Sch.none) (Sch.alt 17 (Sch.step 18 (Sch.step 19 (Sch.read 1 (Sch.step 20 (Sch.step 21 Sch.done))))) Sch.none)))))))))))))))))) (by kernel_rfl) (by kernel_rfl) (by repeat (with_reducible first | apply PanQ.then | apply PanQ.block | exact PanQ.body)) ?_); simp [wl, hw, hE])
        | ((refine aCall.gives (num_bad id b at' n false _ (hh _) ha hb hl1 (by rw [hE]; decide)) ?_); simp [wl, hw, hE])
        | ((refine aCall.gives (rwide_ok n _) ?_); simp [wl, hw, hE])
        | ((with_reducible refine AWp.ret ?_); try simp [wl, hw, hE])
        | ((with_reducible refine AWp.skip ?_); try simp [wl, hw, hE])
        | ((with_reducible refine AWp.exit ?_); try simp [wl, hw, hE])
        | ((refine AWp.cond rfl (fun _ => ?_) (fun hcf => absurd hcf ?hcd)); (case hcd => (simp [wl, hw, hE]; done)))
        | ((refine AWp.cond rfl (fun hcf => absurd hcf ?hcd) (fun _ => ?_)); (case hcd => (simp [wl, hw, hE]; done))))
      exact actEnd (adv := 0) (by omega) (by omega) (Wk.refl _) (ext0 _)
  · by_cases k1 : kind = 1
    · subst k1
      obtain ⟨x, k, e, hu⟩ : ∃ x k e, upk (b.drop at'.toNat) = (x, k, e) := ⟨_, _, _, rfl⟩
      by_cases he : e = 0
      · subst he
        obtain ⟨h0, h1, h2, h3, h4, h5⟩ := upk_one _ x k hu
        repeat (first
          | (with_reducible refine AWp.seq ?_)
          | (with_reducible refine AWp.block ?_)
          | (with_reducible refine And.intro (by first | omega | assumption | decide) ?_)
          | ((with_reducible refine AWp.region ?_); simp [wl])
          | ((with_reducible refine AWp.drawS (id := 9) mixed (Sch.step 0 (Sch.step 2 (Sch.step 3 (Sch.step 4 (Sch.step 5 (Sch.step 6 (Sch.step 7 (Sch.step 8 (Sch.read 9 (Sch.alt 1 (Sch.alt 10 (Sch.step 11 (Sch.step 12 (Sch.step 13 (Sch.step 14 Sch.done)))) Sch.none) (Sch.alt 10 (Sch.step 11 (Sch.step 12 (Sch.read 1 (Sch.step 13 (Sch.step 14 Sch.done))))) Sch.none))))))))))) (by kernel_rfl) (by kernel_rfl) (by repeat (with_reducible first | apply PanQ.then | apply PanQ.block | exact PanQ.body)) ?_); simp [wl])
          | ((with_reducible refine AWp.drawS (id := 14) mixed (Sch.step 0 (Sch.step 1 (Sch.step 2 (Sch.step 3 (Sch.step 4 (Sch.step 8 (Sch.read 5 (Sch.step 6 (Sch.step 7 (Sch.step 9 Sch.done)))))))))) (by kernel_rfl) (by kernel_rfl) (by repeat (with_reducible first | apply PanQ.then | apply PanQ.block | exact PanQ.body)) ?_); simp [wl])
          | ((with_reducible refine AWp.drawS (id := 27) mixed (Sch.step 0 (Sch.step 2 (Sch.step 3 (Sch.step 4 (Sch.step 5 (Sch.read 6 (Sch.step 7 (Sch.step 8 (Sch.step 9 (Sch.step 10 (Sch.step 11 (Sch.step 12 (Sch.step 13 (Sch.read 14 (Sch.step 15 (Sch.step 16 (Sch.alt 1 (Sch.alt 17 (Sch.step 18 (Sch.step 19 (Sch.step 20 (Sch.step 21 Sch.done)))) Sch.none) (Sch.alt 17 (Sch.step 18 (Sch.step 19 (Sch.read 1 (Sch.step 20 (Sch.step 21 Sch.done))))) Sch.none)))))))))))))))))) (by kernel_rfl) (by kernel_rfl) (by repeat (with_reducible first | apply PanQ.then | apply PanQ.block | exact PanQ.body)) ?_); simp [wl])
          | ((refine aCall.gives (packed_ok id b at' false _ (by simp) (hh _) ha hb hl1 x k 0 hu) ?_); simp [wl])
          | ((refine aCall.gives (runpack_ok b o nl at' ha hl1 (by omega) x k 0 hu _) ?_); simp [wl])
          | ((with_reducible refine AWp.ret ?_); try simp [wl])
          | ((with_reducible refine AWp.skip ?_); try simp [wl])
          | ((with_reducible refine AWp.exit ?_); try simp [wl])
          | ((refine AWp.cond rfl (fun _ => ?_) (fun hcf => absurd hcf ?hcd)); (case hcd => (simp [wl]; done)))
          | ((refine AWp.cond rfl (fun hcf => absurd hcf ?hcd) (fun _ => ?_)); (case hcd => (simp [wl]; done))))
        intro id3 ne3 ne4 hid3
        repeat (first
          | (with_reducible refine AWp.seq ?_)
          | (with_reducible refine AWp.block ?_)
          | (with_reducible refine And.intro (by first | omega | assumption | decide) ?_)
          | ((with_reducible refine AWp.region ?_); simp [ne3, ne4, Ne.symm ne3, Ne.symm ne4])
          | ((with_reducible refine AWp.drawS (id := 9) mixed (Sch.step 0 (Sch.step 2 (Sch.step 3 (Sch.step 4 (Sch.step 5 (Sch.step 6 (Sch.step 7 (Sch.step 8 (Sch.read 9 (Sch.alt 1 (Sch.alt 10 (Sch.step 11 (Sch.step 12 (Sch.step 13 (Sch.step 14 Sch.done)))) Sch.none) (Sch.alt 10 (Sch.step 11 (Sch.step 12 (Sch.read 1 (Sch.step 13 (Sch.step 14 Sch.done))))) Sch.none))))))))))) (by kernel_rfl) (by kernel_rfl) (by repeat (with_reducible first | apply PanQ.then | apply PanQ.block | exact PanQ.body)) ?_); simp [ne3, ne4, Ne.symm ne3, Ne.symm ne4])
          | ((with_reducible refine AWp.drawS (id := 14) mixed (Sch.step 0 (Sch.step 1 (Sch.step 2 (Sch.step 3 (Sch.step 4 (Sch.step 8 (Sch.read 5 (Sch.step 6 (Sch.step 7 (Sch.step 9 Sch.done)))))))))) (by kernel_rfl) (by kernel_rfl) (by repeat (with_reducible first | apply PanQ.then | apply PanQ.block | exact PanQ.body)) ?_); simp [ne3, ne4, Ne.symm ne3, Ne.symm ne4])
          | ((with_reducible refine AWp.drawS (id := 27) mixed (Sch.step 0 (Sch.step 2 (Sch.step 3 (Sch.step 4 (Sch.step 5 (Sch.read 6 (Sch.step 7 (Sch.step 8 (Sch.step 9 (Sch.step 10 (Sch.step 11 (Sch.step 12 (Sch.step 13 (Sch.read 14 (Sch.step 15 (Sch.step 16 (Sch.alt 1 (Sch.alt 17 (Sch.step 18 (Sch.step 19 (Sch.step 20 (Sch.step 21 Sch.done)))) Sch.none) (Sch.alt 17 (Sch.step 18 (Sch.step 19 (Sch.read 1 (Sch.step 20 (Sch.step 21 Sch.done))))) Sch.none)))))))))))))))))) (by kernel_rfl) (by kernel_rfl) (by repeat (with_reducible first | apply PanQ.then | apply PanQ.block | exact PanQ.body)) ?_); simp [ne3, ne4, Ne.symm ne3, Ne.symm ne4])
          | ((with_reducible refine AWp.ret ?_); try simp [ne3, ne4, Ne.symm ne3, Ne.symm ne4])
          | ((with_reducible refine AWp.skip ?_); try simp [ne3, ne4, Ne.symm ne3, Ne.symm ne4])
          | ((with_reducible refine AWp.exit ?_); try simp [ne3, ne4, Ne.symm ne3, Ne.symm ne4])
          | ((refine AWp.cond rfl (fun _ => ?_) (fun hcf => absurd hcf ?hcd)); (case hcd => (simp [ne3, ne4, Ne.symm ne3, Ne.symm ne4]; done)))
          | ((refine AWp.cond rfl (fun hcf => absurd hcf ?hcd) (fun _ => ?_)); (case hcd => (simp [ne3, ne4, Ne.symm ne3, Ne.symm ne4]; done))))
        exact actEnd (adv := k) (by omega) (by simp at h4; omega) (Wk.refl _) (le_new (by simp [ne3, ne4, hid3]) (ext _ _))
      · have := upk_err _ _ _ _ hu he
        subst this
        repeat (first
          | (with_reducible refine AWp.seq ?_)
          | (with_reducible refine AWp.block ?_)
          | (with_reducible refine And.intro (by first | omega | assumption | decide) ?_)
          | ((with_reducible refine AWp.region ?_); simp [wl, he])
          | ((with_reducible refine AWp.drawS (id := 9) mixed (Sch.step 0 (Sch.step 2 (Sch.step 3 (Sch.step 4 (Sch.step 5 (Sch.step 6 (Sch.step 7 (Sch.step 8 (Sch.read 9 (Sch.alt 1 (Sch.alt 10 (Sch.step 11 (Sch.step 12 (Sch.step 13 (Sch.step 14 Sch.done)))) Sch.none) (Sch.alt 10 (Sch.step 11 (Sch.step 12 (Sch.read 1 (Sch.step 13 (Sch.step 14 Sch.done))))) Sch.none))))))))))) (by kernel_rfl) (by kernel_rfl) (by repeat (with_reducible first | apply PanQ.then | apply PanQ.block | exact PanQ.body)) ?_); simp [wl, he])
          | ((with_reducible refine AWp.drawS (id := 14) mixed (Sch.step 0 (Sch.step 1 (Sch.step 2 (Sch.step 3 (Sch.step 4 (Sch.step 8 (Sch.read 5 (Sch.step 6 (Sch.step 7 (Sch.step 9 Sch.done)))))))))) (by kernel_rfl) (by kernel_rfl) (by repeat (with_reducible first | apply PanQ.then | apply PanQ.block | exact PanQ.body)) ?_); simp [wl, he])
          | ((with_reducible refine AWp.drawS (id := 27) mixed (Sch.step 0 (Sch.step 2 (Sch.step 3 (Sch.step 4 (Sch.step 5 (Sch.read 6 (Sch.step 7 (Sch.step 8 (Sch.step 9 (Sch.step 10 (Sch.step 11 (Sch.step 12 (Sch.step 13 (Sch.read 14 (Sch.step 15 (Sch.step 16 (Sch.alt 1 (Sch.alt 17 (Sch.step 18 (Sch.step 19 (Sch.step 20 (Sch.step 21 Sch.done)))) Sch.none) (Sch.alt 17 (Sch.step 18 (Sch.step 19 (Sch.read 1 (Sch.step 20 (Sch.step 21 Sch.done))))) Sch.none)))))))))))))))))) (by kernel_rfl) (by kernel_rfl) (by repeat (with_reducible first | apply PanQ.then | apply PanQ.block | exact PanQ.body)) ?_); simp [wl, he])
          | ((refine aCall.gives (packed_ok id b at' false _ (by simp) (hh _) ha hb hl1 0 k e hu) ?_); simp [wl, he])
          | ((refine aCall.gives (runpack_ok b o nl at' ha hl1 (by omega) 0 k e hu _) ?_); simp [wl, he])
          | ((with_reducible refine AWp.ret ?_); try simp [wl, he])
          | ((with_reducible refine AWp.skip ?_); try simp [wl, he])
          | ((with_reducible refine AWp.exit ?_); try simp [wl, he])
          | ((refine AWp.cond rfl (fun _ => ?_) (fun hcf => absurd hcf ?hcd)); (case hcd => (simp [wl, he]; done)))
          | ((refine AWp.cond rfl (fun hcf => absurd hcf ?hcd) (fun _ => ?_)); (case hcd => (simp [wl, he]; done))))
        intro id3 ne3 hid3
        repeat (first
          | (with_reducible refine AWp.seq ?_)
          | (with_reducible refine AWp.block ?_)
          | (with_reducible refine And.intro (by first | omega | assumption | decide) ?_)
          | ((with_reducible refine AWp.region ?_); simp [ne3, Ne.symm ne3, he])
          | ((with_reducible refine AWp.drawS (id := 9) mixed (Sch.step 0 (Sch.step 2 (Sch.step 3 (Sch.step 4 (Sch.step 5 (Sch.step 6 (Sch.step 7 (Sch.step 8 (Sch.read 9 (Sch.alt 1 (Sch.alt 10 (Sch.step 11 (Sch.step 12 (Sch.step 13 (Sch.step 14 Sch.done)))) Sch.none) (Sch.alt 10 (Sch.step 11 (Sch.step 12 (Sch.read 1 (Sch.step 13 (Sch.step 14 Sch.done))))) Sch.none))))))))))) (by kernel_rfl) (by kernel_rfl) (by repeat (with_reducible first | apply PanQ.then | apply PanQ.block | exact PanQ.body)) ?_); simp [ne3, Ne.symm ne3, he])
          | ((with_reducible refine AWp.drawS (id := 14) mixed (Sch.step 0 (Sch.step 1 (Sch.step 2 (Sch.step 3 (Sch.step 4 (Sch.step 8 (Sch.read 5 (Sch.step 6 (Sch.step 7 (Sch.step 9 Sch.done)))))))))) (by kernel_rfl) (by kernel_rfl) (by repeat (with_reducible first | apply PanQ.then | apply PanQ.block | exact PanQ.body)) ?_); simp [ne3, Ne.symm ne3, he])
          | ((with_reducible refine AWp.drawS (id := 27) mixed (Sch.step 0 (Sch.step 2 (Sch.step 3 (Sch.step 4 (Sch.step 5 (Sch.read 6 (Sch.step 7 (Sch.step 8 (Sch.step 9 (Sch.step 10 (Sch.step 11 (Sch.step 12 (Sch.step 13 (Sch.read 14 (Sch.step 15 (Sch.step 16 (Sch.alt 1 (Sch.alt 17 (Sch.step 18 (Sch.step 19 (Sch.step 20 (Sch.step 21 Sch.done)))) Sch.none) (Sch.alt 17 (Sch.step 18 (Sch.step 19 (Sch.read 1 (Sch.step 20 (Sch.step 21 Sch.done))))) Sch.none)))))))))))))))))) (by kernel_rfl) (by kernel_rfl) (by repeat (with_reducible first | apply PanQ.then | apply PanQ.block | exact PanQ.body)) ?_); simp [ne3, Ne.symm ne3, he])
          | ((with_reducible refine AWp.ret ?_); try simp [ne3, Ne.symm ne3, he])
          | ((with_reducible refine AWp.skip ?_); try simp [ne3, Ne.symm ne3, he])
          | ((with_reducible refine AWp.exit ?_); try simp [ne3, Ne.symm ne3, he])
          | ((refine AWp.cond rfl (fun _ => ?_) (fun hcf => absurd hcf ?hcd)); (case hcd => (simp [ne3, Ne.symm ne3, he]; done)))
          | ((refine AWp.cond rfl (fun hcf => absurd hcf ?hcd) (fun _ => ?_)); (case hcd => (simp [ne3, Ne.symm ne3, he]; done))))
        exact actEnd (adv := 0) (by omega) (by omega) (Wk.refl _) (le_new (by simp [ne3, hid3]) (ext0 _))
    · have r0 : ∀ n', (0 ≤ n' ∧ n' ≤ b.length - at') → IntKind.i64.wrap (at' + n') = at' + n' := fun n' h => in_i64 (by omega) (by omega)
      by_cases k2 : kind = 2
      · subst k2
        by_cases hn : n < 0
        · have hE : skipE b at' n = 3 := by simp [skipE, hn]
          repeat (first
            | (with_reducible refine AWp.seq ?_)
            | (with_reducible refine AWp.block ?_)
            | (with_reducible refine And.intro (by first | omega | assumption | decide) ?_)
            | ((with_reducible refine AWp.region ?_); simp [wl, hn, hE])
            | ((with_reducible refine AWp.drawS (id := 9) mixed (Sch.step 0 (Sch.step 2 (Sch.step 3 (Sch.step 4 (Sch.step 5 (Sch.step 6 (Sch.step 7 (Sch.step 8 (Sch.read 9 (Sch.alt 1 (Sch.alt 10 (Sch.step 11 (Sch.step 12 (Sch.step 13 (Sch.step 14 Sch.done)))) Sch.none) (Sch.alt 10 (Sch.step 11 (Sch.step 12 (Sch.read 1 (Sch.step 13 (Sch.step 14 Sch.done))))) Sch.none))))))))))) (by kernel_rfl) (by kernel_rfl) (by repeat (with_reducible first | apply PanQ.then | apply PanQ.block | exact PanQ.body)) ?_); simp [wl, hn, hE])
            | ((with_reducible refine AWp.drawS (id := 14) mixed (Sch.step 0 (Sch.step 1 (Sch.step 2 (Sch.step 3 (Sch.step 4 (Sch.step 8 (Sch.read 5 (Sch.step 6 (Sch.step 7 (Sch.step 9 Sch.done)))))))))) (by kernel_rfl) (by kernel_rfl) (by repeat (with_reducible first | apply PanQ.then | apply PanQ.block | exact PanQ.body)) ?_); simp [wl, hn, hE])
            | ((with_reducible refine AWp.drawS (id := 27) mixed (Sch.step 0 (Sch.step 2 (Sch.step 3 (Sch.step 4 (Sch.step 5 (Sch.read 6 (Sch.step 7 (Sch.step 8 (Sch.step 9 (Sch.step 10 (Sch.step 11 (Sch.step 12 (Sch.step 13 (Sch.read 14 (Sch.step 15 (Sch.step 16 (Sch.alt 1 (Sch.alt 17 (Sch.step 18 (Sch.step 19 (Sch.step 20 (Sch.step 21 Sch.done)))) Sch.none) (Sch.alt 17 (Sch.step 18 (Sch.step 19 (Sch.read 1 (Sch.step 20 (Sch.step 21 Sch.done))))) Sch.none)))))))))))))))))) (by kernel_rfl) (by kernel_rfl) (by repeat (with_reducible first | apply PanQ.then | apply PanQ.block | exact PanQ.body)) ?_); simp [wl, hn, hE])
            | ((refine aCall.gives (take_bad id b at' n false _ (hh _) ha hb hl1 (by rw [hE]; decide)) ?_); simp [wl, hn, hE])
            | ((with_reducible refine AWp.ret ?_); try simp [wl, hn, hE])
            | ((with_reducible refine AWp.skip ?_); try simp [wl, hn, hE])
            | ((with_reducible refine AWp.exit ?_); try simp [wl, hn, hE])
            | ((refine AWp.cond rfl (fun _ => ?_) (fun hcf => absurd hcf ?hcd)); (case hcd => (simp [wl, hn, hE]; done)))
            | ((refine AWp.cond rfl (fun hcf => absurd hcf ?hcd) (fun _ => ?_)); (case hcd => (simp [wl, hn, hE]; done))))
          exact actEnd (adv := 0) (by omega) (by omega) (Wk.refl _) (ext0 _)
        · by_cases hs : (b.length : Int) - at' < n
          · have hE : skipE b at' n = 1 := by simp [skipE, hn, hs]
            repeat (first
              | (with_reducible refine AWp.seq ?_)
              | (with_reducible refine AWp.block ?_)
              | (with_reducible refine And.intro (by first | omega | assumption | decide) ?_)
              | ((with_reducible refine AWp.region ?_); simp [wl, hn, hs, hE])
              | ((with_reducible refine AWp.drawS (id := 9) mixed (Sch.step 0 (Sch.step 2 (Sch.step 3 (Sch.step 4 (Sch.step 5 (Sch.step 6 (Sch.step 7 (Sch.step 8 (Sch.read 9 (Sch.alt 1 (Sch.alt 10 (Sch.step 11 (Sch.step 12 (Sch.step 13 (Sch.step 14 Sch.done)))) Sch.none) (Sch.alt 10 (Sch.step 11 (Sch.step 12 (Sch.read 1 (Sch.step 13 (Sch.step 14 Sch.done))))) Sch.none))))))))))) (by kernel_rfl) (by kernel_rfl) (by repeat (with_reducible first | apply PanQ.then | apply PanQ.block | exact PanQ.body)) ?_); simp [wl, hn, hs, hE])
              | ((with_reducible refine AWp.drawS (id := 14) mixed (Sch.step 0 (Sch.step 1 (Sch.step 2 (Sch.step 3 (Sch.step 4 (Sch.step 8 (Sch.read 5 (Sch.step 6 (Sch.step 7 (Sch.step 9 Sch.done)))))))))) (by kernel_rfl) (by kernel_rfl) (by repeat (with_reducible first | apply PanQ.then | apply PanQ.block | exact PanQ.body)) ?_); simp [wl, hn, hs, hE])
              | ((with_reducible refine AWp.drawS (id := 27) mixed (Sch.step 0 (Sch.step 2 (Sch.step 3 (Sch.step 4 (Sch.step 5 (Sch.read 6 (Sch.step 7 (Sch.step 8 (Sch.step 9 (Sch.step 10 (Sch.step 11 (Sch.step 12 (Sch.step 13 (Sch.read 14 (Sch.step 15 (Sch.step 16 (Sch.alt 1 (Sch.alt 17 (Sch.step 18 (Sch.step 19 (Sch.step 20 (Sch.step 21 Sch.done)))) Sch.none) (Sch.alt 17 (Sch.step 18 (Sch.step 19 (Sch.read 1 (Sch.step 20 (Sch.step 21 Sch.done))))) Sch.none)))))))))))))))))) (by kernel_rfl) (by kernel_rfl) (by repeat (with_reducible first | apply PanQ.then | apply PanQ.block | exact PanQ.body)) ?_); simp [wl, hn, hs, hE])
              | ((refine aCall.gives (take_bad id b at' n false _ (hh _) ha hb hl1 (by rw [hE]; decide)) ?_); simp [wl, hn, hs, hE])
              | ((with_reducible refine AWp.ret ?_); try simp [wl, hn, hs, hE])
              | ((with_reducible refine AWp.skip ?_); try simp [wl, hn, hs, hE])
              | ((with_reducible refine AWp.exit ?_); try simp [wl, hn, hs, hE])
              | ((refine AWp.cond rfl (fun _ => ?_) (fun hcf => absurd hcf ?hcd)); (case hcd => (simp [wl, hn, hs, hE]; done)))
              | ((refine AWp.cond rfl (fun hcf => absurd hcf ?hcd) (fun _ => ?_)); (case hcd => (simp [wl, hn, hs, hE]; done))))
            exact actEnd (adv := 0) (by omega) (by omega) (Wk.refl _) (ext0 _)
          · have e1 : List.drop at'.toNat (List.take (at' + n).toNat (List.map u8 b)) = (seg b at' n).map u8 := by simp [seg, List.map_drop, List.map_take]
            have r1 := r0 n ⟨by omega, by omega⟩
            have r2 : (at' + n).toNat ≤ b.length := by omega
            have r3 : at'.toNat ≤ (at' + n).toNat := by omega
            have r4 : (0 : Int) ≤ at' + n := by omega
            have hsl := seg_length b at' n ha (by omega) (by omega)
            repeat (first
              | (with_reducible refine AWp.seq ?_)
              | (with_reducible refine AWp.block ?_)
              | (with_reducible refine And.intro (by first | omega | assumption | decide) ?_)
              | ((with_reducible refine AWp.region ?_); simp [wl, hn, hs])
              | ((with_reducible refine AWp.drawS (id := 9) mixed (Sch.step 0 (Sch.step 2 (Sch.step 3 (Sch.step 4 (Sch.step 5 (Sch.step 6 (Sch.step 7 (Sch.step 8 (Sch.read 9 (Sch.alt 1 (Sch.alt 10 (Sch.step 11 (Sch.step 12 (Sch.step 13 (Sch.step 14 Sch.done)))) Sch.none) (Sch.alt 10 (Sch.step 11 (Sch.step 12 (Sch.read 1 (Sch.step 13 (Sch.step 14 Sch.done))))) Sch.none))))))))))) (by kernel_rfl) (by kernel_rfl) (by repeat (with_reducible first | apply PanQ.then | apply PanQ.block | exact PanQ.body)) ?_); simp [wl, hn, hs])
              | ((with_reducible refine AWp.drawS (id := 14) mixed (Sch.step 0 (Sch.step 1 (Sch.step 2 (Sch.step 3 (Sch.step 4 (Sch.step 8 (Sch.read 5 (Sch.step 6 (Sch.step 7 (Sch.step 9 Sch.done)))))))))) (by kernel_rfl) (by kernel_rfl) (by repeat (with_reducible first | apply PanQ.then | apply PanQ.block | exact PanQ.body)) ?_); simp [wl, hn, hs])
              | ((with_reducible refine AWp.drawS (id := 27) mixed (Sch.step 0 (Sch.step 2 (Sch.step 3 (Sch.step 4 (Sch.step 5 (Sch.read 6 (Sch.step 7 (Sch.step 8 (Sch.step 9 (Sch.step 10 (Sch.step 11 (Sch.step 12 (Sch.step 13 (Sch.read 14 (Sch.step 15 (Sch.step 16 (Sch.alt 1 (Sch.alt 17 (Sch.step 18 (Sch.step 19 (Sch.step 20 (Sch.step 21 Sch.done)))) Sch.none) (Sch.alt 17 (Sch.step 18 (Sch.step 19 (Sch.read 1 (Sch.step 20 (Sch.step 21 Sch.done))))) Sch.none)))))))))))))))))) (by kernel_rfl) (by kernel_rfl) (by repeat (with_reducible first | apply PanQ.then | apply PanQ.block | exact PanQ.body)) ?_); simp [wl, hn, hs])
              | ((with_reducible refine AWp.ret ?_); try simp [wl, hn, hs])
              | ((with_reducible refine AWp.skip ?_); try simp [wl, hn, hs])
              | ((with_reducible refine AWp.exit ?_); try simp [wl, hn, hs])
              | ((refine AWp.cond rfl (fun _ => ?_) (fun hcf => absurd hcf ?hcd)); (case hcd => (simp [wl, hn, hs]; done)))
              | ((refine AWp.cond rfl (fun hcf => absurd hcf ?hcd) (fun _ => ?_)); (case hcd => (simp [wl, hn, hs]; done))))
            refine aCall.of (take_ok id b at' n false _ (by simp) (hh _) ha hb hl1 (by omega) (by omega)) ?_ (fun _ _ h => h.elim)
            rintro r σ2 ⟨tk, htk, rfl, rfl⟩
            simp [ne] at htk
            have hi : ¬ id = tk := by intro e; subst e; rw [h] at htk; simp at htk
            simp
            have d1 : ¬ id2 = tk := by intro e; subst e; simp at htk
            have htk0 : σ tk = none := by simpa [Ne.symm d1] using htk
            repeat (first
              | (with_reducible refine AWp.seq ?_)
              | (with_reducible refine AWp.block ?_)
              | (with_reducible refine And.intro (by first | omega | assumption | decide) ?_)
              | ((with_reducible refine AWp.region ?_); simp [wl, hn, hs, ne, ne.symm, hi, Ne.symm hi, d1, Ne.symm d1, r1, r2, r3, r4, ha, e1])
              | ((with_reducible refine AWp.drawS (id := 9) mixed (Sch.step 0 (Sch.step 2 (Sch.step 3 (Sch.step 4 (Sch.step 5 (Sch.step 6 (Sch.step 7 (Sch.step 8 (Sch.read 9 (Sch.alt 1 (Sch.alt 10 (Sch.step 11 (Sch.step 12 (Sch.step 13 (Sch.step 14 Sch.done)))) Sch.none) (Sch.alt 10 (Sch.step 11 (Sch.step 12 (Sch.read 1 (Sch.step 13 (Sch.step 14 Sch.done))))) Sch.none))))))))))) (by kernel_rfl) (by kernel_rfl) (by repeat (with_reducible first | apply PanQ.then | apply PanQ.block | exact PanQ.body)) ?_); simp [wl, hn, hs, ne, ne.symm, hi, Ne.symm hi, d1, Ne.symm d1, r1, r2, r3, r4, ha, e1])
              | ((with_reducible refine AWp.drawS (id := 14) mixed (Sch.step 0 (Sch.step 1 (Sch.step 2 (Sch.step 3 (Sch.step 4 (Sch.step 8 (Sch.read 5 (Sch.step 6 (Sch.step 7 (Sch.step 9 Sch.done)))))))))) (by kernel_rfl) (by kernel_rfl) (by repeat (with_reducible first | apply PanQ.then | apply PanQ.block | exact PanQ.body)) ?_); simp [wl, hn, hs, ne, ne.symm, hi, Ne.symm hi, d1, Ne.symm d1, r1, r2, r3, r4, ha, e1])
              | ((with_reducible refine AWp.drawS (id := 27) mixed (Sch.step 0 (Sch.step 2 (Sch.step 3 (Sch.step 4 (Sch.step 5 (Sch.read 6 (Sch.step 7 (Sch.step 8 (Sch.step 9 (Sch.step 10 (Sch.step 11 (Sch.step 12 (Sch.step 13 (Sch.read 14 (Sch.step 15 (Sch.step 16 (Sch.alt 1 (Sch.alt 17 (Sch.step 18 (Sch.step 19 (Sch.step 20 (Sch.step 21 Sch.done)))) Sch.none) (Sch.alt 17 (Sch.step 18 (Sch.step 19 (Sch.read 1 (Sch.step 20 (Sch.step 21 Sch.done))))) Sch.none)))))))))))))))))) (by kernel_rfl) (by kernel_rfl) (by repeat (with_reducible first | apply PanQ.then | apply PanQ.block | exact PanQ.body)) ?_); simp [wl, hn, hs, ne, ne.symm, hi, Ne.symm hi, d1, Ne.symm d1, r1, r2, r3, r4, ha, e1])
              | ((with_reducible refine AWp.ret ?_); try simp [wl, hn, hs, ne, ne.symm, hi, Ne.symm hi, d1, Ne.symm d1, r1, r2, r3, r4, ha, e1])
              | ((with_reducible refine AWp.skip ?_); try simp [wl, hn, hs, ne, ne.symm, hi, Ne.symm hi, d1, Ne.symm d1, r1, r2, r3, r4, ha, e1])
              | ((with_reducible refine AWp.exit ?_); try simp [wl, hn, hs, ne, ne.symm, hi, Ne.symm hi, d1, Ne.symm d1, r1, r2, r3, r4, ha, e1])
              | ((refine AWp.cond rfl (fun _ => ?_) (fun hcf => absurd hcf ?hcd)); (case hcd => (simp [wl, hn, hs, ne, ne.symm, hi, Ne.symm hi, d1, Ne.symm d1, r1, r2, r3, r4, ha, e1]; done)))
              | ((refine AWp.cond rfl (fun hcf => absurd hcf ?hcd) (fun _ => ?_)); (case hcd => (simp [wl, hn, hs, ne, ne.symm, hi, Ne.symm hi, d1, Ne.symm d1, r1, r2, r3, r4, ha, e1]; done))))
            refine ⟨?_, ?_⟩
            all_goals
              repeat (first
                | (with_reducible refine AWp.seq ?_)
                | (with_reducible refine AWp.block ?_)
                | (with_reducible refine And.intro (by first | omega | assumption | decide) ?_)
                | ((with_reducible refine AWp.region ?_); simp [ne, ne.symm, hi, Ne.symm hi, d1, Ne.symm d1])
                | ((with_reducible refine AWp.drawS (id := 9) mixed (Sch.step 0 (Sch.step 2 (Sch.step 3 (Sch.step 4 (Sch.step 5 (Sch.step 6 (Sch.step 7 (Sch.step 8 (Sch.read 9 (Sch.alt 1 (Sch.alt 10 (Sch.step 11 (Sch.step 12 (Sch.step 13 (Sch.step 14 Sch.done)))) Sch.none) (Sch.alt 10 (Sch.step 11 (Sch.step 12 (Sch.read 1 (Sch.step 13 (Sch.step 14 Sch.done))))) Sch.none))))))))))) (by kernel_rfl) (by kernel_rfl) (by repeat (with_reducible first | apply PanQ.then | apply PanQ.block | exact PanQ.body)) ?_); simp [ne, ne.symm, hi, Ne.symm hi, d1, Ne.symm d1])
                | ((with_reducible refine AWp.drawS (id := 14) mixed (Sch.step 0 (Sch.step 1 (Sch.step 2 (Sch.step 3 (Sch.step 4 (Sch.step 8 (Sch.read 5 (Sch.step 6 (Sch.step 7 (Sch.step 9 Sch.done)))))))))) (by kernel_rfl) (by kernel_rfl) (by repeat (with_reducible first | apply PanQ.then | apply PanQ.block | exact PanQ.body)) ?_); simp [ne, ne.symm, hi, Ne.symm hi, d1, Ne.symm d1])
                | ((with_reducible refine AWp.drawS (id := 27) mixed (Sch.step 0 (Sch.step 2 (Sch.step 3 (Sch.step 4 (Sch.step 5 (Sch.read 6 (Sch.step 7 (Sch.step 8 (Sch.step 9 (Sch.step 10 (Sch.step 11 (Sch.step 12 (Sch.step 13 (Sch.read 14 (Sch.step 15 (Sch.step 16 (Sch.alt 1 (Sch.alt 17 (Sch.step 18 (Sch.step 19 (Sch.step 20 (Sch.step 21 Sch.done)))) Sch.none) (Sch.alt 17 (Sch.step 18 (Sch.step 19 (Sch.read 1 (Sch.step 20 (Sch.step 21 Sch.done))))) Sch.none)))))))))))))))))) (by kernel_rfl) (by kernel_rfl) (by repeat (with_reducible first | apply PanQ.then | apply PanQ.block | exact PanQ.body)) ?_); simp [ne, ne.symm, hi, Ne.symm hi, d1, Ne.symm d1])
                | ((refine aCall.gives (same_ok (seg b at' n) (seg b at' n) (.tok tk) .unk false nl (by omega) _) ?_); simp [ne, ne.symm, hi, Ne.symm hi, d1, Ne.symm d1])
                | ((with_reducible refine AWp.ret ?_); try simp [ne, ne.symm, hi, Ne.symm hi, d1, Ne.symm d1])
                | ((with_reducible refine AWp.skip ?_); try simp [ne, ne.symm, hi, Ne.symm hi, d1, Ne.symm d1])
                | ((with_reducible refine AWp.exit ?_); try simp [ne, ne.symm, hi, Ne.symm hi, d1, Ne.symm d1])
                | ((refine AWp.cond rfl (fun _ => ?_) (fun hcf => absurd hcf ?hcd)); (case hcd => (simp [ne, ne.symm, hi, Ne.symm hi, d1, Ne.symm d1]; done)))
                | ((refine AWp.cond rfl (fun hcf => absurd hcf ?hcd) (fun _ => ?_)); (case hcd => (simp [ne, ne.symm, hi, Ne.symm hi, d1, Ne.symm d1]; done))))
              exact actEnd (adv := n) (by omega) (by omega) (Wk.refl _) (le_new (by simp [Ne.symm hi, Ne.symm d1, htk0]) (ext _ _))
      · by_cases k3 : kind = 3
        · subst k3
          by_cases hn : n < 0
          · have hE : skipE b at' n = 3 := by simp [skipE, hn]
            repeat (first
              | (with_reducible refine AWp.seq ?_)
              | (with_reducible refine AWp.block ?_)
              | (with_reducible refine And.intro (by first | omega | assumption | decide) ?_)
              | ((with_reducible refine AWp.region ?_); simp [wl, hn, hE])
              | ((with_reducible refine AWp.drawS (id := 9) mixed (Sch.step 0 (Sch.step 2 (Sch.step 3 (Sch.step 4 (Sch.step 5 (Sch.step 6 (Sch.step 7 (Sch.step 8 (Sch.read 9 (Sch.alt 1 (Sch.alt 10 (Sch.step 11 (Sch.step 12 (Sch.step 13 (Sch.step 14 Sch.done)))) Sch.none) (Sch.alt 10 (Sch.step 11 (Sch.step 12 (Sch.read 1 (Sch.step 13 (Sch.step 14 Sch.done))))) Sch.none))))))))))) (by kernel_rfl) (by kernel_rfl) (by repeat (with_reducible first | apply PanQ.then | apply PanQ.block | exact PanQ.body)) ?_); simp [wl, hn, hE])
              | ((with_reducible refine AWp.drawS (id := 14) mixed (Sch.step 0 (Sch.step 1 (Sch.step 2 (Sch.step 3 (Sch.step 4 (Sch.step 8 (Sch.read 5 (Sch.step 6 (Sch.step 7 (Sch.step 9 Sch.done)))))))))) (by kernel_rfl) (by kernel_rfl) (by repeat (with_reducible first | apply PanQ.then | apply PanQ.block | exact PanQ.body)) ?_); simp [wl, hn, hE])
              | ((with_reducible refine AWp.drawS (id := 27) mixed (Sch.step 0 (Sch.step 2 (Sch.step 3 (Sch.step 4 (Sch.step 5 (Sch.read 6 (Sch.step 7 (Sch.step 8 (Sch.step 9 (Sch.step 10 (Sch.step 11 (Sch.step 12 (Sch.step 13 (Sch.read 14 (Sch.step 15 (Sch.step 16 (Sch.alt 1 (Sch.alt 17 (Sch.step 18 (Sch.step 19 (Sch.step 20 (Sch.step 21 Sch.done)))) Sch.none) (Sch.alt 17 (Sch.step 18 (Sch.step 19 (Sch.read 1 (Sch.step 20 (Sch.step 21 Sch.done))))) Sch.none)))))))))))))))))) (by kernel_rfl) (by kernel_rfl) (by repeat (with_reducible first | apply PanQ.then | apply PanQ.block | exact PanQ.body)) ?_); simp [wl, hn, hE])
              | ((refine aCall.gives (skip_bad id b at' n false _ (hh _) ha hb hl1 (by rw [hE]; decide)) ?_); simp [wl, hn, hE])
              | ((with_reducible refine AWp.ret ?_); try simp [wl, hn, hE])
              | ((with_reducible refine AWp.skip ?_); try simp [wl, hn, hE])
              | ((with_reducible refine AWp.exit ?_); try simp [wl, hn, hE])
              | ((refine AWp.cond rfl (fun _ => ?_) (fun hcf => absurd hcf ?hcd)); (case hcd => (simp [wl, hn, hE]; done)))
              | ((refine AWp.cond rfl (fun hcf => absurd hcf ?hcd) (fun _ => ?_)); (case hcd => (simp [wl, hn, hE]; done))))
            exact actEnd (adv := 0) (by omega) (by omega) (Wk.refl _) (ext0 _)
          · by_cases hs : (b.length : Int) - at' < n
            · have hE : skipE b at' n = 1 := by simp [skipE, hn, hs]
              repeat (first
                | (with_reducible refine AWp.seq ?_)
                | (with_reducible refine AWp.block ?_)
                | (with_reducible refine And.intro (by first | omega | assumption | decide) ?_)
                | ((with_reducible refine AWp.region ?_); simp [wl, hn, hs, hE])
                | ((with_reducible refine AWp.drawS (id := 9) mixed (Sch.step 0 (Sch.step 2 (Sch.step 3 (Sch.step 4 (Sch.step 5 (Sch.step 6 (Sch.step 7 (Sch.step 8 (Sch.read 9 (Sch.alt 1 (Sch.alt 10 (Sch.step 11 (Sch.step 12 (Sch.step 13 (Sch.step 14 Sch.done)))) Sch.none) (Sch.alt 10 (Sch.step 11 (Sch.step 12 (Sch.read 1 (Sch.step 13 (Sch.step 14 Sch.done))))) Sch.none))))))))))) (by kernel_rfl) (by kernel_rfl) (by repeat (with_reducible first | apply PanQ.then | apply PanQ.block | exact PanQ.body)) ?_); simp [wl, hn, hs, hE])
                | ((with_reducible refine AWp.drawS (id := 14) mixed (Sch.step 0 (Sch.step 1 (Sch.step 2 (Sch.step 3 (Sch.step 4 (Sch.step 8 (Sch.read 5 (Sch.step 6 (Sch.step 7 (Sch.step 9 Sch.done)))))))))) (by kernel_rfl) (by kernel_rfl) (by repeat (with_reducible first | apply PanQ.then | apply PanQ.block | exact PanQ.body)) ?_); simp [wl, hn, hs, hE])
                | ((with_reducible refine AWp.drawS (id := 27) mixed (Sch.step 0 (Sch.step 2 (Sch.step 3 (Sch.step 4 (Sch.step 5 (Sch.read 6 (Sch.step 7 (Sch.step 8 (Sch.step 9 (Sch.step 10 (Sch.step 11 (Sch.step 12 (Sch.step 13 (Sch.read 14 (Sch.step 15 (Sch.step 16 (Sch.alt 1 (Sch.alt 17 (Sch.step 18 (Sch.step 19 (Sch.step 20 (Sch.step 21 Sch.done)))) Sch.none) (Sch.alt 17 (Sch.step 18 (Sch.step 19 (Sch.read 1 (Sch.step 20 (Sch.step 21 Sch.done))))) Sch.none)))))))))))))))))) (by kernel_rfl) (by kernel_rfl) (by repeat (with_reducible first | apply PanQ.then | apply PanQ.block | exact PanQ.body)) ?_); simp [wl, hn, hs, hE])
                | ((refine aCall.gives (skip_bad id b at' n false _ (hh _) ha hb hl1 (by rw [hE]; decide)) ?_); simp [wl, hn, hs, hE])
                | ((with_reducible refine AWp.ret ?_); try simp [wl, hn, hs, hE])
                | ((with_reducible refine AWp.skip ?_); try simp [wl, hn, hs, hE])
                | ((with_reducible refine AWp.exit ?_); try simp [wl, hn, hs, hE])
                | ((refine AWp.cond rfl (fun _ => ?_) (fun hcf => absurd hcf ?hcd)); (case hcd => (simp [wl, hn, hs, hE]; done)))
                | ((refine AWp.cond rfl (fun hcf => absurd hcf ?hcd) (fun _ => ?_)); (case hcd => (simp [wl, hn, hs, hE]; done))))
              exact actEnd (adv := 0) (by omega) (by omega) (Wk.refl _) (ext0 _)
            · repeat (first
                | (with_reducible refine AWp.seq ?_)
                | (with_reducible refine AWp.block ?_)
                | (with_reducible refine And.intro (by first | omega | assumption | decide) ?_)
                | ((with_reducible refine AWp.region ?_); simp [wl, hn, hs, ne, ne.symm])
                | ((with_reducible refine AWp.drawS (id := 9) mixed (Sch.step 0 (Sch.step 2 (Sch.step 3 (Sch.step 4 (Sch.step 5 (Sch.step 6 (Sch.step 7 (Sch.step 8 (Sch.read 9 (Sch.alt 1 (Sch.alt 10 (Sch.step 11 (Sch.step 12 (Sch.step 13 (Sch.step 14 Sch.done)))) Sch.none) (Sch.alt 10 (Sch.step 11 (Sch.step 12 (Sch.read 1 (Sch.step 13 (Sch.step 14 Sch.done))))) Sch.none))))))))))) (by kernel_rfl) (by kernel_rfl) (by repeat (with_reducible first | apply PanQ.then | apply PanQ.block | exact PanQ.body)) ?_); simp [wl, hn, hs, ne, ne.symm])
                | ((with_reducible refine AWp.drawS (id := 14) mixed (Sch.step 0 (Sch.step 1 (Sch.step 2 (Sch.step 3 (Sch.step 4 (Sch.step 8 (Sch.read 5 (Sch.step 6 (Sch.step 7 (Sch.step 9 Sch.done)))))))))) (by kernel_rfl) (by kernel_rfl) (by repeat (with_reducible first | apply PanQ.then | apply PanQ.block | exact PanQ.body)) ?_); simp [wl, hn, hs, ne, ne.symm])
                | ((with_reducible refine AWp.drawS (id := 27) mixed (Sch.step 0 (Sch.step 2 (Sch.step 3 (Sch.step 4 (Sch.step 5 (Sch.read 6 (Sch.step 7 (Sch.step 8 (Sch.step 9 (Sch.step 10 (Sch.step 11 (Sch.step 12 (Sch.step 13 (Sch.read 14 (Sch.step 15 (Sch.step 16 (Sch.alt 1 (Sch.alt 17 (Sch.step 18 (Sch.step 19 (Sch.step 20 (Sch.step 21 Sch.done)))) Sch.none) (Sch.alt 17 (Sch.step 18 (Sch.step 19 (Sch.read 1 (Sch.step 20 (Sch.step 21 Sch.done))))) Sch.none)))))))))))))))))) (by kernel_rfl) (by kernel_rfl) (by repeat (with_reducible first | apply PanQ.then | apply PanQ.block | exact PanQ.body)) ?_); simp [wl, hn, hs, ne, ne.symm])
                | ((refine aCall.gives (skip_ok id b at' n false _ (hh _) ha hb hl1 (by omega) (by omega)) ?_); simp [wl, hn, hs, ne, ne.symm])
                | ((with_reducible refine AWp.ret ?_); try simp [wl, hn, hs, ne, ne.symm])
                | ((with_reducible refine AWp.skip ?_); try simp [wl, hn, hs, ne, ne.symm])
                | ((with_reducible refine AWp.exit ?_); try simp [wl, hn, hs, ne, ne.symm])
                | ((refine AWp.cond rfl (fun _ => ?_) (fun hcf => absurd hcf ?hcd)); (case hcd => (simp [wl, hn, hs, ne, ne.symm]; done)))
                | ((refine AWp.cond rfl (fun hcf => absurd hcf ?hcd) (fun _ => ?_)); (case hcd => (simp [wl, hn, hs, ne, ne.symm]; done))))
              refine ⟨?_, ?_⟩
              all_goals
                repeat (first
                  | (with_reducible refine AWp.seq ?_)
                  | (with_reducible refine AWp.block ?_)
                  | (with_reducible refine And.intro (by first | omega | assumption | decide) ?_)
                  | ((with_reducible refine AWp.region ?_); simp [ne, ne.symm])
                  | ((with_reducible refine AWp.drawS (id := 9) mixed (Sch.step 0 (Sch.step 2 (Sch.step 3 (Sch.step 4 (Sch.step 5 (Sch.step 6 (Sch.step 7 (Sch.step 8 (Sch.read 9 (Sch.alt 1 (Sch.alt 10 (Sch.step 11 (Sch.step 12 (Sch.step 13 (Sch.step 14 Sch.done)))) Sch.none) (Sch.alt 10 (Sch.step 11 (Sch.step 12 (Sch.read 1 (Sch.step 13 (Sch.step 14 Sch.done))))) Sch.none))))))))))) (by kernel_rfl) (by kernel_rfl) (by repeat (with_reducible first | apply PanQ.then | apply PanQ.block | exact PanQ.body)) ?_); simp [ne, ne.symm])
                  | ((with_reducible refine AWp.drawS (id := 14) mixed (Sch.step 0 (Sch.step 1 (Sch.step 2 (Sch.step 3 (Sch.step 4 (Sch.step 8 (Sch.read 5 (Sch.step 6 (Sch.step 7 (Sch.step 9 Sch.done)))))))))) (by kernel_rfl) (by kernel_rfl) (by repeat (with_reducible first | apply PanQ.then | apply PanQ.block | exact PanQ.body)) ?_); simp [ne, ne.symm])
                  | ((with_reducible refine AWp.drawS (id := 27) mixed (Sch.step 0 (Sch.step 2 (Sch.step 3 (Sch.step 4 (Sch.step 5 (Sch.read 6 (Sch.step 7 (Sch.step 8 (Sch.step 9 (Sch.step 10 (Sch.step 11 (Sch.step 12 (Sch.step 13 (Sch.read 14 (Sch.step 15 (Sch.step 16 (Sch.alt 1 (Sch.alt 17 (Sch.step 18 (Sch.step 19 (Sch.step 20 (Sch.step 21 Sch.done)))) Sch.none) (Sch.alt 17 (Sch.step 18 (Sch.step 19 (Sch.read 1 (Sch.step 20 (Sch.step 21 Sch.done))))) Sch.none)))))))))))))))))) (by kernel_rfl) (by kernel_rfl) (by repeat (with_reducible first | apply PanQ.then | apply PanQ.block | exact PanQ.body)) ?_); simp [ne, ne.symm])
                  | ((with_reducible refine AWp.ret ?_); try simp [ne, ne.symm])
                  | ((with_reducible refine AWp.skip ?_); try simp [ne, ne.symm])
                  | ((with_reducible refine AWp.exit ?_); try simp [ne, ne.symm])
                  | ((refine AWp.cond rfl (fun _ => ?_) (fun hcf => absurd hcf ?hcd)); (case hcd => (simp [ne, ne.symm]; done)))
                  | ((refine AWp.cond rfl (fun hcf => absurd hcf ?hcd) (fun _ => ?_)); (case hcd => (simp [ne, ne.symm]; done))))
                exact actEnd (adv := n) (by omega) (by omega) (Wk.refl _) (ext _ _)
        · by_cases hlt : at' < b.length
          · have hl0 : 0 < (b.length : Int) - at' := by omega
            repeat (first
              | (with_reducible refine AWp.seq ?_)
              | (with_reducible refine AWp.block ?_)
              | (with_reducible refine And.intro (by first | omega | assumption | decide) ?_)
              | ((with_reducible refine AWp.region ?_); simp [wl, k0, k1, k2, k3, hlt, hl0])
              | ((with_reducible refine AWp.drawS (id := 9) mixed (Sch.step 0 (Sch.step 2 (Sch.step 3 (Sch.step 4 (Sch.step 5 (Sch.step 6 (Sch.step 7 (Sch.step 8 (Sch.read 9 (Sch.alt 1 (Sch.alt 10 (Sch.step 11 (Sch.step 12 (Sch.step 13 (Sch.step 14 Sch.done)))) Sch.none) (Sch.alt 10 (Sch.step 11 (Sch.step 12 (Sch.read 1 (Sch.step 13 (Sch.step 14 Sch.done))))) Sch.none))))))))))) (by kernel_rfl) (by kernel_rfl) (by repeat (with_reducible first | apply PanQ.then | apply PanQ.block | exact PanQ.body)) ?_); simp [wl, k0, k1, k2, k3, hlt, hl0])
              | ((with_reducible refine AWp.drawS (id := 14) mixed (Sch.step 0 (Sch.step 1 (Sch.step 2 (Sch.step 3 (Sch.step 4 (Sch.step 8 (Sch.read 5 (Sch.step 6 (Sch.step 7 (Sch.step 9 Sch.done)))))))))) (by kernel_rfl) (by kernel_rfl) (by repeat (with_reducible first | apply PanQ.then | apply PanQ.block | exact PanQ.body)) ?_); simp [wl, k0, k1, k2, k3, hlt, hl0])
              | ((with_reducible refine AWp.drawS (id := 27) mixed (Sch.step 0 (Sch.step 2 (Sch.step 3 (Sch.step 4 (Sch.step 5 (Sch.read 6 (Sch.step 7 (Sch.step 8 (Sch.step 9 (Sch.step 10 (Sch.step 11 (Sch.step 12 (Sch.step 13 (Sch.read 14 (Sch.step 15 (Sch.step 16 (Sch.alt 1 (Sch.alt 17 (Sch.step 18 (Sch.step 19 (Sch.step 20 (Sch.step 21 Sch.done)))) Sch.none) (Sch.alt 17 (Sch.step 18 (Sch.step 19 (Sch.read 1 (Sch.step 20 (Sch.step 21 Sch.done))))) Sch.none)))))))))))))))))) (by kernel_rfl) (by kernel_rfl) (by repeat (with_reducible first | apply PanQ.then | apply PanQ.block | exact PanQ.body)) ?_); simp [wl, k0, k1, k2, k3, hlt, hl0])
              | ((refine aCall.gives (done_ok id b at' false _ (hh _) ha hb hl1) ?_); simp [wl, k0, k1, k2, k3, hlt, hl0])
              | ((with_reducible refine AWp.ret ?_); try simp [wl, k0, k1, k2, k3, hlt, hl0])
              | ((with_reducible refine AWp.skip ?_); try simp [wl, k0, k1, k2, k3, hlt, hl0])
              | ((with_reducible refine AWp.exit ?_); try simp [wl, k0, k1, k2, k3, hlt, hl0])
              | ((refine AWp.cond rfl (fun _ => ?_) (fun hcf => absurd hcf ?hcd)); (case hcd => (simp [wl, k0, k1, k2, k3, hlt, hl0]; done)))
              | ((refine AWp.cond rfl (fun hcf => absurd hcf ?hcd) (fun _ => ?_)); (case hcd => (simp [wl, k0, k1, k2, k3, hlt, hl0]; done))))
            exact actEnd (adv := 0) (by omega) (by omega) (Wk.refl _) (ext0 _)
          · have hl0 : ¬ 0 < (b.length : Int) - at' := by omega
            repeat (first
              | (with_reducible refine AWp.seq ?_)
              | (with_reducible refine AWp.block ?_)
              | (with_reducible refine And.intro (by first | omega | assumption | decide) ?_)
              | ((with_reducible refine AWp.region ?_); simp [wl, k0, k1, k2, k3, hlt, hl0])
              | ((with_reducible refine AWp.drawS (id := 9) mixed (Sch.step 0 (Sch.step 2 (Sch.step 3 (Sch.step 4 (Sch.step 5 (Sch.step 6 (Sch.step 7 (Sch.step 8 (Sch.read 9 (Sch.alt 1 (Sch.alt 10 (Sch.step 11 (Sch.step 12 (Sch.step 13 (Sch.step 14 Sch.done)))) Sch.none) (Sch.alt 10 (Sch.step 11 (Sch.step 12 (Sch.read 1 (Sch.step 13 (Sch.step 14 Sch.done))))) Sch.none))))))))))) (by kernel_rfl) (by kernel_rfl) (by repeat (with_reducible first | apply PanQ.then | apply PanQ.block | exact PanQ.body)) ?_); simp [wl, k0, k1, k2, k3, hlt, hl0])
              | ((with_reducible refine AWp.drawS (id := 14) mixed (Sch.step 0 (Sch.step 1 (Sch.step 2 (Sch.step 3 (Sch.step 4 (Sch.step 8 (Sch.read 5 (Sch.step 6 (Sch.step 7 (Sch.step 9 Sch.done)))))))))) (by kernel_rfl) (by kernel_rfl) (by repeat (with_reducible first | apply PanQ.then | apply PanQ.block | exact PanQ.body)) ?_); simp [wl, k0, k1, k2, k3, hlt, hl0])
              | ((with_reducible refine AWp.drawS (id := 27) mixed (Sch.step 0 (Sch.step 2 (Sch.step 3 (Sch.step 4 (Sch.step 5 (Sch.read 6 (Sch.step 7 (Sch.step 8 (Sch.step 9 (Sch.step 10 (Sch.step 11 (Sch.step 12 (Sch.step 13 (Sch.read 14 (Sch.step 15 (Sch.step 16 (Sch.alt 1 (Sch.alt 17 (Sch.step 18 (Sch.step 19 (Sch.step 20 (Sch.step 21 Sch.done)))) Sch.none) (Sch.alt 17 (Sch.step 18 (Sch.step 19 (Sch.read 1 (Sch.step 20 (Sch.step 21 Sch.done))))) Sch.none)))))))))))))))))) (by kernel_rfl) (by kernel_rfl) (by repeat (with_reducible first | apply PanQ.then | apply PanQ.block | exact PanQ.body)) ?_); simp [wl, k0, k1, k2, k3, hlt, hl0])
              | ((refine aCall.gives (done_ok id b at' false _ (hh _) ha hb hl1) ?_); simp [wl, k0, k1, k2, k3, hlt, hl0])
              | ((with_reducible refine AWp.ret ?_); try simp [wl, k0, k1, k2, k3, hlt, hl0])
              | ((with_reducible refine AWp.skip ?_); try simp [wl, k0, k1, k2, k3, hlt, hl0])
              | ((with_reducible refine AWp.exit ?_); try simp [wl, k0, k1, k2, k3, hlt, hl0])
              | ((refine AWp.cond rfl (fun _ => ?_) (fun hcf => absurd hcf ?hcd)); (case hcd => (simp [wl, k0, k1, k2, k3, hlt, hl0]; done)))
              | ((refine AWp.cond rfl (fun hcf => absurd hcf ?hcd) (fun _ => ?_)); (case hcd => (simp [wl, k0, k1, k2, k3, hlt, hl0]; done))))
            exact actEnd (adv := 0) (by omega) (by omega) (Wk.refl _) (ext0 _)

def actV (a : Int × Int) : AV := .agg [.sc (.int .i64 a.1), .sc (.int .i64 a.2)]

def readsI (b : List UInt8) (acts : List (Int × Int)) (nb na : Bool) (m : Nat) (s : Fr) (σ : AS) : Prop :=
  ∃ (i id : Nat) (at' : Int), m = acts.length - i ∧ i ≤ acts.length ∧ 0 ≤ at' ∧ at' ≤ b.length ∧ σ id = some (rdC b at' false) ∧
    s = mkF [(0, .lst 5 (b.map u8) .unk nb), (1, .lst 49 (acts.map actV) .unk na), (5, .ptr id 0), (6, .sc (.int .i64 at')),
      (25, .lst 49 (acts.map actV) .unk na), (26, .sc (.int .i64 acts.length)), (27, .sc (.int .i64 i))]

theorem reads_ok (b : List UInt8) (acts : List (Int × Int)) (nb na : Bool) :
    ACalls Try.prog 6 [.lst 5 (b.map u8) .unk nb, .lst 49 (acts.map actV) .unk na] noAS IsTrue No := by
  refine ACalls.of_body Try.func6 rfl rfl (by simp [Try.ntmps6]) ?_
  repeat (first
    | (with_reducible refine AWp.seq ?_)
    | (with_reducible refine AWp.block ?_)
    | (with_reducible refine And.intro (by first | omega | assumption | decide) ?_)
    | ((with_reducible refine AWp.region ?_); simp)
    | ((with_reducible refine AWp.ret ?_); try simp)
    | ((with_reducible refine AWp.skip ?_); try simp)
    | ((with_reducible refine AWp.exit ?_); try simp)
    | ((refine AWp.cond rfl (fun _ => ?_) (fun hcf => absurd hcf ?hcd)); (case hcd => (simp; done)))
    | ((refine AWp.cond rfl (fun hcf => absurd hcf ?hcd) (fun _ => ?_)); (case hcd => (simp; done))))
  refine aCall.of (wakes_ok _) ?_ (fun _ _ h => h.elim)
  rintro r σ rfl
  simp
  by_cases hl : 4096 < (b.length : Int)
  · repeat (first
      | (with_reducible refine AWp.seq ?_)
      | (with_reducible refine AWp.block ?_)
      | (with_reducible refine And.intro (by first | omega | assumption | decide) ?_)
      | ((with_reducible refine AWp.region ?_); simp [hl])
      | ((with_reducible refine AWp.ret ?_); try simp [hl])
      | ((with_reducible refine AWp.skip ?_); try simp [hl])
      | ((with_reducible refine AWp.exit ?_); try simp [hl])
      | ((refine AWp.cond rfl (fun _ => ?_) (fun hcf => absurd hcf ?hcd)); (case hcd => (simp [hl]; done)))
      | ((refine AWp.cond rfl (fun hcf => absurd hcf ?hcd) (fun _ => ?_)); (case hcd => (simp [hl]; done))))
    exact ⟨_, _, Wk.refl _, AS.le_refl _, rfl⟩
  · by_cases hla : 200 < (acts.length : Int)
    · repeat (first
        | (with_reducible refine AWp.seq ?_)
        | (with_reducible refine AWp.block ?_)
        | (with_reducible refine And.intro (by first | omega | assumption | decide) ?_)
        | ((with_reducible refine AWp.region ?_); simp [hl, hla])
        | ((with_reducible refine AWp.ret ?_); try simp [hl, hla])
        | ((with_reducible refine AWp.skip ?_); try simp [hl, hla])
        | ((with_reducible refine AWp.exit ?_); try simp [hl, hla])
        | ((refine AWp.cond rfl (fun _ => ?_) (fun hcf => absurd hcf ?hcd)); (case hcd => (simp [hl, hla]; done)))
        | ((refine AWp.cond rfl (fun hcf => absurd hcf ?hcd) (fun _ => ?_)); (case hcd => (simp [hl, hla]; done))))
      exact ⟨_, _, Wk.refl _, AS.le_refl _, rfl⟩
    · have hl1 : b.length ≤ 140737488355328 := by omega
      repeat (first
        | (with_reducible refine AWp.seq ?_)
        | (with_reducible refine AWp.block ?_)
        | (with_reducible refine And.intro (by first | omega | assumption | decide) ?_)
        | ((with_reducible refine AWp.region ?_); simp [hl, hla, hl1])
        | ((with_reducible refine AWp.ret ?_); try simp [hl, hla, hl1])
        | ((with_reducible refine AWp.skip ?_); try simp [hl, hla, hl1])
        | ((with_reducible refine AWp.exit ?_); try simp [hl, hla, hl1])
        | ((refine AWp.cond rfl (fun _ => ?_) (fun hcf => absurd hcf ?hcd)); (case hcd => (simp [hl, hla, hl1]; done)))
        | ((refine AWp.cond rfl (fun hcf => absurd hcf ?hcd) (fun _ => ?_)); (case hcd => (simp [hl, hla, hl1]; done))))
      intro tk htk
      refine aCall.of (new_ok b (.tok tk) false (by simp) hl1 _) ?_ (fun _ _ h => h.elim)
      rintro r σ2 ⟨id, hid, rfl, rfl⟩
      simp
      repeat (first
        | (with_reducible refine AWp.seq ?_)
        | (with_reducible refine AWp.block ?_)
        | (with_reducible refine And.intro (by first | omega | assumption | decide) ?_)
        | ((with_reducible refine AWp.region ?_); simp)
        | ((with_reducible refine AWp.ret ?_); try simp)
        | ((with_reducible refine AWp.skip ?_); try simp)
        | ((with_reducible refine AWp.exit ?_); try simp)
        | ((refine AWp.cond rfl (fun _ => ?_) (fun hcf => absurd hcf ?hcd)); (case hcd => (simp; done)))
        | ((refine AWp.cond rfl (fun hcf => absurd hcf ?hcd) (fun _ => ?_)); (case hcd => (simp; done))))
      refine AWp.loopI (readsI b acts nb na) (k0 := acts.length) ⟨0, id, 0, by omega, by omega, by omega, by omega, by simp, rfl⟩ (FrWk.mk (by simp)) (AS.le_refl _) ?_
      rintro m s σ' ⟨i, id, at', hm, hi, ha, hb, hc, rfl⟩
      by_cases hlt : i < acts.length
      · repeat (first
          | (with_reducible refine AWp.seq ?_)
          | (with_reducible refine AWp.block ?_)
          | (with_reducible refine And.intro (by first | omega | assumption | decide) ?_)
          | ((with_reducible refine AWp.region ?_); simp [hlt, actV])
          | ((with_reducible refine AWp.ret ?_); try simp [hlt, actV])
          | ((with_reducible refine AWp.skip ?_); try simp [hlt, actV])
          | ((with_reducible refine AWp.exit ?_); try simp [hlt, actV])
          | ((refine AWp.cond rfl (fun _ => ?_) (fun hcf => absurd hcf ?hcd)); (case hcd => (simp [hlt, actV]; done)))
          | ((refine AWp.cond rfl (fun hcf => absurd hcf ?hcd) (fun _ => ?_)); (case hcd => (simp [hlt, actV]; done))))
        intro id2 hid2
        have ne : id ≠ id2 := by intro e; subst e; rw [hc] at hid2; cases hid2
        generalize acts[i] = a
        have hh : (σ'.set id2 (.cells 49 [.sc (.int .i64 a.1), .sc (.int .i64 a.2)])) id = some (rdC b at' false) := by simp [ne, hc]
        repeat (first
          | (with_reducible refine AWp.seq ?_)
          | (with_reducible refine AWp.block ?_)
          | (with_reducible refine And.intro (by first | omega | assumption | decide) ?_)
          | ((with_reducible refine AWp.region ?_); simp [actV])
          | ((with_reducible refine AWp.ret ?_); try simp [actV])
          | ((with_reducible refine AWp.skip ?_); try simp [actV])
          | ((with_reducible refine AWp.exit ?_); try simp [actV])
          | ((refine AWp.cond rfl (fun _ => ?_) (fun hcf => absurd hcf ?hcd)); (case hcd => (simp [actV]; done)))
          | ((refine AWp.cond rfl (fun hcf => absurd hcf ?hcd) (fun _ => ?_)); (case hcd => (simp [actV]; done))))
        refine aCall.of (act_ok id b .unk nb at' a.1 a.2 _ hh ha hb (by omega)) ?_ (fun _ _ h => h.elim)
        rintro r σ3 ⟨adv, h0, h1, rfl, rfl⟩
        have w1 : IntKind.i64.wrap (at' + adv) = at' + adv := in_i64 (by omega) (by omega)
        have w2 : IntKind.i64.wrap ((b.length : Int) - (at' + adv)) = b.length - (at' + adv) := in_i64 (by omega) (by omega)
        simp
        repeat (first
          | (with_reducible refine AWp.seq ?_)
          | (with_reducible refine AWp.block ?_)
          | (with_reducible refine And.intro (by first | omega | assumption | decide) ?_)
          | ((with_reducible refine AWp.region ?_); simp [w1, w2])
          | ((refine aCall.gives (at_ok id b (at' + adv) false _ (by simp)) ?_); simp [w1, w2])
          | ((refine aCall.gives (left_ok id b (at' + adv) false _ (by simp) (by omega) (by omega) hl1) ?_); simp [w1, w2])
          | ((with_reducible refine AWp.ret ?_); try simp [w1, w2])
          | ((with_reducible refine AWp.skip ?_); try simp [w1, w2])
          | ((with_reducible refine AWp.exit ?_); try simp [w1, w2])
          | ((refine AWp.cond rfl (fun _ => ?_) (fun hcf => absurd hcf ?hcd)); (case hcd => (simp [w1, w2]; done)))
          | ((refine AWp.cond rfl (fun hcf => absurd hcf ?hcd) (fun _ => ?_)); (case hcd => (simp [w1, w2]; done))))
        refine ⟨m - 1, _, _, by omega, FrWk.mk ?_, AS.le_refl _, i + 1, id, at' + adv, by omega, by omega, by omega, by omega, by simp, rfl⟩
        have w8 : IntKind.i64.wrap ((i : Int) + 1) = ((i + 1 : Nat) : Int) := by rw [in_i64 (by omega) (by omega)]; simp
        simp [w8]
      · repeat (first
          | (with_reducible refine AWp.seq ?_)
          | (with_reducible refine AWp.block ?_)
          | (with_reducible refine And.intro (by first | omega | assumption | decide) ?_)
          | ((with_reducible refine AWp.region ?_); simp [hlt])
          | ((with_reducible refine AWp.ret ?_); try simp [hlt])
          | ((with_reducible refine AWp.skip ?_); try simp [hlt])
          | ((with_reducible refine AWp.exit ?_); try simp [hlt])
          | ((refine AWp.cond rfl (fun _ => ?_) (fun hcf => absurd hcf ?hcd)); (case hcd => (simp [hlt]; done)))
          | ((refine AWp.cond rfl (fun hcf => absurd hcf ?hcd) (fun _ => ?_)); (case hcd => (simp [hlt]; done))))
        exact ⟨_, _, Wk.refl _, AS.le_refl _, rfl⟩

theorem octetReads_reads (os : Os) {H : Type} (enc : TypeId × Value → H) : ∃ places, DataW.whole enc Try.prog ((World.holding Try.prog os ⟨#[], #[Value.slice none 0 0, Value.slice none 0 0], []⟩).forCall (fun _ _ => 0) ⟨#[], #[Value.slice none 0 0, Value.slice none 0 0], []⟩).memory Try.f6.params.toList Rows.octetReadsSpec.vars false #[Value.slice none 0 0, Value.slice none 0 0].toList 8 = some ([.nil, .nil], [], places) :=
  ⟨[], by kernel_rfl⟩

theorem octetReads_contract (H : Type) (enc : TypeId × Value → H) (W : World) (base : Nat) (args : Array Value) (ds gs : List (DataW H)) (before : List MemPlace)
    (hval : ∀ (j : Nat) t v, Try.f6.params[j]? = some t → args[j]? = some v → Value.okWide Try.prog W .any base t v)
    (hW : DataW.Whole enc Try.prog Try.f6.params.toList Rows.octetReadsSpec.vars false W args.toList ds gs before)
    (hwt : (DataW.weightsEach Try.prog (Try.f6.params.toList ++ Rows.octetReadsSpec.plain.varTypes Try.prog) (ds ++ gs)).all (· ≤ reachBytes) = true) :
    Calls Try.prog 6 args W fun e W' => ∃ v, e = .returned v ∧ Rows.octetReadsSpec.post enc Try.prog Try.f6 false true false false W args v W' := by
  refine law_contract (P := Try.prog) (fn := Try.f6) (k := 4) (ts := [22, 47]) (tb := 4) (s := Rows.octetReadsSpec) laidOut (by kernel_rfl) (by kernel_rfl) (by kernel_rfl) rfl Try.underlying4 rfl (fun ds h => ?_) (fun vs h => ?_) hval hW hwt
  · match ds, h with
    | [d1, d2], _ => rfl
  · obtain ⟨c1, r, rfl, h1, h⟩ := h.inv
    obtain ⟨c2, r, rfl, h2, h⟩ := h.inv
    obtain rfl := h.inv0
    obtain ⟨l, nl, e1, hn, hl⟩ := arg_bytes Try.underlying22 Try.underlying5 h1
    obtain ⟨acts, na, e2, _, _⟩ := arg_list (f := actV) Try.underlying47 (fun c hc => by
      simp [ArgC, Try.underlying49, Try.underlying3] at hc
      obtain ⟨hlen, ⟨n1, q1, _⟩, n2, q2, _⟩ := hc
      match c, hlen with
      | [a, b], _ =>
        simp at q1 q2
        subst q1 q2
        exact ⟨(n1, n2), by simp [pkV, AW.isAgg, Try.underlying49, actV]⟩) h2
    rw [e1, e2]
    exact reads_ok l acts nl na

theorem octetReads_lifted (os : Os) (started : os.Started) (H : Type) (enc : TypeId × Value → H) (F : Stop.Interp) :
    ReturnsInHanded {} Try.checked os 6 .any ((OpenSpec.ofChange Rows.octetReadsSpec).preRow enc Try.prog Try.f6 Rows.octetReadsRow.domain false Rows.octetReadsRow.laid)
      (((OpenSpec.ofChange Rows.octetReadsSpec).at F).post enc Try.prog Try.f6 false true false false) := by
  obtain ⟨places, hx⟩ := octetReads_reads os enc
  refine returnsInHanded_of_row (C := Try.checked) (s := OpenSpec.ofChange Rows.octetReadsSpec) own started (by kernel_rfl) Try.func6
    (witness_row_at (enc := enc) (C := Try.checked) false (World.holding Try.prog os ⟨#[], #[Value.slice none 0 0, Value.slice none 0 0], []⟩) #[Value.slice none 0 0, Value.slice none 0 0] rfl (by kernel_rfl) (by kernel_rfl) (by kernel_rfl)
      (OpenSpec.preRow_of_cond 8 hx (by kernel_rfl) (fun k hk => by cases hk) (by kernel_rfl) (show laidMetH Try.prog [] _ from ⟨[], rfl, List.nodup_nil, fun _ _ h => by cases h⟩))) ?_
  intro W base args ds gs before hval hW _ _ hwt _ _ _
  exact octetReads_contract H enc W base args ds gs before hval hW hwt

theorem octetReads_holds : Rows.OctetReadsSaid :=
  OpenClaim.holds_of_cond 6 Try.f6 rfl rfl rfl rfl rfl rfl rfl ⟨rfl, rfl, rfl, rfl, rfl⟩ rfl rfl rfl rfl rfl (by kernel_rfl) Try.func6 (by kernel_rfl)
    (of_decide_eq_true (by kernel_rfl)) (by unfold Func.isWrapper; first | (rw [if_pos (by decide +kernel)]; kernel_rfl) | (rw [if_neg (by decide +kernel)]; exact ⟨rfl, rfl⟩))
    (fun os started H enc _ F => by rw [OpenClaim.pre_eq_preRow]; exact octetReads_lifted os started H enc F)


end Go.Proofs.Ytiojkpebjdifoaa
