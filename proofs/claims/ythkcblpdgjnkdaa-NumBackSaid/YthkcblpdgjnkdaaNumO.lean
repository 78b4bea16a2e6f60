/- NumBack: what was added can be taken away again, where it is checked it is what is wrapped, and what division leaves with the rest is all there was. No condition. -/
import Derived.Test.YthkcblpdgjnkdaaNumN
set_option linter.unusedSimpArgs false
set_option linter.unusedVariables false
set_option maxRecDepth 100000
set_option maxHeartbeats 3200000
namespace Go.Proofs.Ythkcblpdgjnkdaa
open Go Go.AW Go.ChangeShapes Go.WideShapes Go.ChangeAt Go.RowKit

theorem two_13 (w : Bool) (x y : Int) : twoR 13 w x y = (wr w (pl w x + pl w y), 0) := rfl
theorem two_14 (w : Bool) (x y : Int) : twoR 14 w x y = (wr w (pl w x - pl w y), 0) := rfl
theorem two_15 (w : Bool) (x y : Int) : twoR 15 w x y = (wr w (pl w x * pl w y), 0) := rfl
theorem two_25 (w : Bool) (x y : Int) : twoR 25 w x y = (chkX w (pl w x + pl w y), chkF w (pl w x + pl w y)) := rfl
theorem two_26 (w : Bool) (x y : Int) : twoR 26 w x y = (chkX w (pl w x - pl w y), chkF w (pl w x - pl w y)) := rfl
theorem two_27 (w : Bool) (x y : Int) : twoR 27 w x y = (chkX w (pl w x * pl w y), chkF w (pl w x * pl w y)) := rfl
theorem two_16 (w : Bool) (x y : Int) : twoR 16 w x y = (divX w (pl w x) (pl w y), divF w (pl w x) (pl w y)) := rfl
theorem two_17 (w : Bool) (x y : Int) : twoR 17 w x y = (remX (pl w x) (pl w y), remF (pl w x) (pl w y)) := rfl

theorem pl_wr (w : Bool) (x : Int) : pl w (wr w x) = pl w x := by simp [wr]

theorem pl_add (w : Bool) (x y : Int) : pl w (pl w x + y) = pl w (x + y) := by
  cases w
  · simp only [pl_f]; rw [w_i32, w_i32, w_i32]; omega
  · simp only [pl_t]; rw [w_i64, w_i64, w_i64]; omega
theorem pl_sub (w : Bool) (x y : Int) : pl w (pl w x - y) = pl w (x - y) := by
  cases w
  · simp only [pl_f]; rw [w_i32, w_i32, w_i32]; omega
  · simp only [pl_t]; rw [w_i64, w_i64, w_i64]; omega

theorem back_1 (w : Bool) (a b : Int) : (twoR 14 w (twoR 13 w a b).1 b).1 = wr w (pl w a) := by
  rw [two_13, two_14]
  show wr w (pl w (wr w (pl w a + pl w b)) - pl w b) = _
  rw [pl_wr]
  unfold wr
  rw [pl_sub, show pl w a + pl w b - pl w b = pl w a by omega]

theorem chk_ok (w : Bool) (v : Int) : (chkF w v = 0 ∧ chkX w v = wr w v) ∨ (chkF w v = 4) := by
  unfold chkF chkX
  cases h : okR w v with
  | false => exact .inr rfl
  | true =>
    refine .inl ⟨rfl, ?_⟩
    show IntKind.u64.wrap v = wr w v
    have hi : in64 v = true := by cases w with
      | true => simpa [okR] using h
      | false => simp [okR] at h; simp [in64]; omega
    rw [wr, (okR_pl w v hi).2 h]

theorem back_2 (w : Bool) (a b : Int) (i : Nat) (hi : i < 3) :
    ((twoR (25 + i) w a b).2 = 0 ∧ (twoR (25 + i) w a b).1 = (twoR (13 + i) w a b).1) ∨ (twoR (25 + i) w a b).2 = 4 := by
  match i, hi with
  | 0, _ => show ((twoR 25 w a b).2 = 0 ∧ (twoR 25 w a b).1 = (twoR 13 w a b).1) ∨ (twoR 25 w a b).2 = 4; rw [two_25, two_13]; exact chk_ok w _
  | 1, _ => show ((twoR 26 w a b).2 = 0 ∧ (twoR 26 w a b).1 = (twoR 14 w a b).1) ∨ (twoR 26 w a b).2 = 4; rw [two_26, two_14]; exact chk_ok w _
  | 2, _ => show ((twoR 27 w a b).2 = 0 ∧ (twoR 27 w a b).1 = (twoR 15 w a b).1) ∨ (twoR 27 w a b).2 = 4; rw [two_27, two_15]; exact chk_ok w _

/-- Division, and what it leaves. -/
theorem back_3 (w : Bool) (a b : Int) :
    ((twoR 16 w a b).2 = 5 ∧ (twoR 17 w a b).2 = 5) ∨ ((twoR 16 w a b).2 = 4 ∧ (twoR 17 w a b).2 = 0 ∧ (twoR 17 w a b).1 = 0) ∨
    ((twoR 16 w a b).2 = 0 ∧ (twoR 17 w a b).2 = 0 ∧ (twoR 13 w (twoR 15 w (twoR 16 w a b).1 b).1 (twoR 17 w a b).1).1 = wr w (pl w a)) := by
  rw [two_16, two_17, two_15, two_13]
  have ra := pl_r w a
  have rb := pl_r w b
  generalize hA : pl w a = A at *
  generalize hB : pl w b = B at *
  have pA : pl w A = A := by rw [← hA, pl_pl]
  have pB : pl w B = B := by rw [← hB, pl_pl]
  simp only
  by_cases h0 : B = 0
  · left; simp [divF, remF, h0]
  · by_cases h1 : B = -1
    · rcases chk_ok w (-A) with ⟨c1, c2⟩ | c1
      · right; right
        refine ⟨by simp [divF, h1, c1], by simp [remF, h1], ?_⟩
        have e1 : divX w A B = wr w (-A) := by simp [divX, h1, c2]
        have e2 : remX A B = 0 := by simp [remX, h1]
        rw [e1, e2, pl_wr, pl_wr]
        have e3 : pl w 0 = 0 := by cases w <;> decide
        rw [e3, Int.add_zero, wr_pl]
        subst h1
        unfold wr
        have e4 : pl w (pl w (-A) * -1) = pl w A := by
          rw [show pl w (-A) * -1 = -(pl w (-A)) by omega]
          cases w
          · simp only [pl_f] at *; rw [w_i32, w_i32, w_i32]; omega
          · simp only [pl_t] at *; rw [w_i64, w_i64, w_i64]; omega
        rw [e4]
      · right; left
        exact ⟨by simp [divF, h1, c1], by simp [remF, h1], by simp [remX, h1]⟩
    · right; right
      refine ⟨by simp [divF, h0, h1], by simp [remF, h0, h1], ?_⟩
      have e1 : divX w A B = IntKind.u64.wrap (A.tdiv B) := by simp [divX, h0, h1]
      have e2 : remX A B = IntKind.u64.wrap (A.tmod B) := by simp [remX, h0, h1]
      rw [e1, e2, pl_u, pl_wr, pl_u]
      have hd := Int.tmod_add_mul_tdiv A B
      unfold wr
      have key : pl w (pl w (pl w (A.tdiv B) * B) + pl w (A.tmod B)) = pl w A := by
        rw [pl_add]
        have hq : pl w (A.tdiv B) = A.tdiv B := by
          have hin := tdiv_in A B ra rb h0 h1
          cases w
          · simp only [pl_f] at *
            have hA2 : -2147483648 ≤ A ∧ A < 2147483648 := by rw [← pA, w_i32]; omega
            have hB2 : -2147483648 ≤ B ∧ B < 2147483648 := by rw [← pB, w_i32]; omega
            by_cases h2 : B = 1
            · rw [h2, Int.tdiv_one]; exact pA
            · have h2 : 2 ≤ B.natAbs := by omega
              have : (A.tdiv B).natAbs ≤ 2147483648 / 2 := by
                rw [Int.natAbs_tdiv]
                exact Nat.le_trans (Nat.div_le_div_left h2 (by omega)) (Nat.div_le_div_right (by omega))
              rw [w_i32]; omega
          · simp only [pl_t]; exact in_i64 hin.1 hin.2
        rw [hq, Int.mul_comm]
        generalize B * A.tdiv B = p at *
        generalize A.tmod B = t at *
        rw [Int.add_comm, pl_add, Int.add_comm, show p + t = A by omega]
      rw [← pl_pl w (pl w (pl w (A.tdiv B) * B) + pl w (A.tmod B)), key, pl_pl]

def nbI (w : Bool) (a b d : Int) (id : Nat) (σ : AS) (m : Nat) (s : Fr) (σ' : AS) : Prop :=
  ∃ i : Nat, m = 3 - i ∧ i ≤ 3 ∧ σ' = σ.set id (wdC w a b) ∧
    s = mkF [(1, .ptr id 0), (7, .sc (.int .u64 d)), (54, .agg [.sc (.int .i64 25), .sc (.int .i64 26), .sc (.int .i64 27)]), (55, .sc (.int .i64 i))]

theorem numBack_ok (w : Bool) (a b : Int) :
    ACalls Try.prog 4 [.agg [.sc (.bool w), .sc (.int .u64 a), .sc (.int .u64 b)]] noAS IsTrue No := by
  refine ACalls.of_body Try.func4 rfl rfl (by simp [Try.ntmps4]) ?_
  have b1 := back_1 w a b
  have fin : ∀ s : Fr, s 1 = .ptr 0 0 → True := fun _ _ => trivial
  repeat (first
    | (with_reducible refine AWp.seq ?_)
    | (with_reducible refine AWp.block ?_)
    | (with_reducible refine And.intro (by first | omega | assumption | decide) ?_)
    | ((with_reducible refine AWp.region ?_); simp)
    | ((with_reducible refine AWp.drawS (id := 5) mixed (Sch.step 0 (Sch.step 2 (Sch.step 4 (Sch.read 3 (Sch.read 5 (Sch.alt 1 (Sch.alt 6 (Sch.alt 7 (Sch.step 8 Sch.done) Sch.none) Sch.none) (Sch.alt 6 (Sch.read 1 (Sch.alt 7 (Sch.step 8 Sch.done) Sch.none)) Sch.none))))))) (by kernel_rfl) (by kernel_rfl) (by repeat (with_reducible first | apply PanQ.then | apply PanQ.block | exact PanQ.body)) ?_); simp)
    | ((with_reducible refine AWp.ret ?_); try simp)
    | ((with_reducible refine AWp.skip ?_); try simp)
    | ((with_reducible refine AWp.exit ?_); try simp)
    | ((refine AWp.cond rfl (fun _ => ?_) (fun hcf => absurd hcf ?hcd)); (case hcd => (simp; done)))
    | ((refine AWp.cond rfl (fun hcf => absurd hcf ?hcd) (fun _ => ?_)); (case hcd => (simp; done))))
  intro id hid
  repeat (first
    | (with_reducible refine AWp.seq ?_)
    | (with_reducible refine AWp.block ?_)
    | (with_reducible refine And.intro (by first | omega | assumption | decide) ?_)
    | ((with_reducible refine AWp.region ?_); simp [b1])
    | ((with_reducible refine AWp.drawS (id := 5) mixed (Sch.step 0 (Sch.step 2 (Sch.step 4 (Sch.read 3 (Sch.read 5 (Sch.alt 1 (Sch.alt 6 (Sch.alt 7 (Sch.step 8 Sch.done) Sch.none) Sch.none) (Sch.alt 6 (Sch.read 1 (Sch.alt 7 (Sch.step 8 Sch.done) Sch.none)) Sch.none))))))) (by kernel_rfl) (by kernel_rfl) (by repeat (with_reducible first | apply PanQ.then | apply PanQ.block | exact PanQ.body)) ?_); simp [b1])
    | ((refine aCall.gives (wakes_ok _) ?_); simp [b1])
    | ((refine aCall.gives (two_ok _ _ _ _ _) ?_); simp [b1])
    | ((with_reducible refine AWp.ret ?_); try simp [b1])
    | ((with_reducible refine AWp.skip ?_); try simp [b1])
    | ((with_reducible refine AWp.exit ?_); try simp [b1])
    | ((refine AWp.cond rfl (fun _ => ?_) (fun hcf => absurd hcf ?hcd)); (case hcd => (simp [b1]; done)))
    | ((refine AWp.cond rfl (fun hcf => absurd hcf ?hcd) (fun _ => ?_)); (case hcd => (simp [b1]; done))))
  refine ⟨?_, ?_⟩
  all_goals
    repeat (first
      | (with_reducible refine AWp.seq ?_)
      | (with_reducible refine AWp.block ?_)
      | (with_reducible refine And.intro (by first | omega | assumption | decide) ?_)
      | ((with_reducible refine AWp.region ?_); simp [b1])
      | ((with_reducible refine AWp.drawS (id := 5) mixed (Sch.step 0 (Sch.step 2 (Sch.step 4 (Sch.read 3 (Sch.read 5 (Sch.alt 1 (Sch.alt 6 (Sch.alt 7 (Sch.step 8 Sch.done) Sch.none) Sch.none) (Sch.alt 6 (Sch.read 1 (Sch.alt 7 (Sch.step 8 Sch.done) Sch.none)) Sch.none))))))) (by kernel_rfl) (by kernel_rfl) (by repeat (with_reducible first | apply PanQ.then | apply PanQ.block | exact PanQ.body)) ?_); simp [b1])
      | ((refine aCall.gives (rnumber_ok _ _ _) ?_); simp [b1])
      | ((refine aCall.gives (rwrap_ok _ _ _) ?_); simp [b1])
      | ((with_reducible refine AWp.ret ?_); try simp [b1])
      | ((with_reducible refine AWp.skip ?_); try simp [b1])
      | ((with_reducible refine AWp.exit ?_); try simp [b1])
      | ((refine AWp.cond rfl (fun _ => ?_) (fun hcf => absurd hcf ?hcd)); (case hcd => (simp [b1]; done)))
      | ((refine AWp.cond rfl (fun hcf => absurd hcf ?hcd) (fun _ => ?_)); (case hcd => (simp [b1]; done))))
    refine AWp.loopI (nbI w a b (wr w (pl w a)) id noAS) (k0 := 3) ⟨0, by omega, by omega, rfl, rfl⟩ (FrWk.mk (by simp)) (by simp [wdC]) ?_
    rintro m s σ' ⟨i, hm, hi, rfl, rfl⟩
    by_cases hlt : i < 3
    · have w8 : IntKind.i64.wrap ((i : Int) + 1) = ((i + 1 : Nat) : Int) := by rw [in_i64 (by omega) (by omega)]; simp
      have w9 : IntKind.i64.wrap (13 + (i : Int)) = 13 + i := in_i64 (by omega) (by omega)
      have hop : ([AV.sc (.int .i64 25), AV.sc (.int .i64 26), AV.sc (.int .i64 27)] : List AV)[i]'(by simpa using hlt) = .sc (.int .i64 (25 + i)) := by
        match i, hlt with
        | 0, _ => rfl
        | 1, _ => rfl
        | 2, _ => rfl
      have hltI : (i : Int) < 3 := by omega
      rcases back_2 w a b i hlt with ⟨h1, h2⟩ | h1
      · repeat (first
          | (with_reducible refine AWp.seq ?_)
          | (with_reducible refine AWp.block ?_)
          | (with_reducible refine And.intro (by first | omega | assumption | decide) ?_)
          | ((with_reducible refine AWp.region ?_); simp [hlt, hltI, wdC, hop, w9, h1, h2])
          | ((with_reducible refine AWp.drawS (id := 5) mixed (Sch.step 0 (Sch.step 2 (Sch.step 4 (Sch.read 3 (Sch.read 5 (Sch.alt 1 (Sch.alt 6 (Sch.alt 7 (Sch.step 8 Sch.done) Sch.none) Sch.none) (Sch.alt 6 (Sch.read 1 (Sch.alt 7 (Sch.step 8 Sch.done) Sch.none)) Sch.none))))))) (by kernel_rfl) (by kernel_rfl) (by repeat (with_reducible first | apply PanQ.then | apply PanQ.block | exact PanQ.body)) ?_); simp [hlt, hltI, wdC, hop, w9, h1, h2])
          | ((refine aCall.gives (two_ok _ _ _ _ _) ?_); simp [hlt, hltI, wdC, hop, w9, h1, h2])
          | ((with_reducible refine AWp.ret ?_); try simp [hlt, hltI, wdC, hop, w9, h1, h2])
          | ((with_reducible refine AWp.skip ?_); try simp [hlt, hltI, wdC, hop, w9, h1, h2])
          | ((with_reducible refine AWp.exit ?_); try simp [hlt, hltI, wdC, hop, w9, h1, h2])
          | ((refine AWp.cond rfl (fun _ => ?_) (fun hcf => absurd hcf ?hcd)); (case hcd => (simp [hlt, hltI, wdC, hop, w9, h1, h2]; done)))
          | ((refine AWp.cond rfl (fun hcf => absurd hcf ?hcd) (fun _ => ?_)); (case hcd => (simp [hlt, hltI, wdC, hop, w9, h1, h2]; done))))
        refine ⟨m - 1, _, _, by omega, FrWk.mk ?_, AS.le_refl _, i + 1, by omega, by omega, rfl, rfl⟩
        simp [w8]
      · repeat (first
          | (with_reducible refine AWp.seq ?_)
          | (with_reducible refine AWp.block ?_)
          | (with_reducible refine And.intro (by first | omega | assumption | decide) ?_)
          | ((with_reducible refine AWp.region ?_); simp [hlt, hltI, wdC, hop, w9, h1])
          | ((with_reducible refine AWp.drawS (id := 5) mixed (Sch.step 0 (Sch.step 2 (Sch.step 4 (Sch.read 3 (Sch.read 5 (Sch.alt 1 (Sch.alt 6 (Sch.alt 7 (Sch.step 8 Sch.done) Sch.none) Sch.none) (Sch.alt 6 (Sch.read 1 (Sch.alt 7 (Sch.step 8 Sch.done) Sch.none)) Sch.none))))))) (by kernel_rfl) (by kernel_rfl) (by repeat (with_reducible first | apply PanQ.then | apply PanQ.block | exact PanQ.body)) ?_); simp [hlt, hltI, wdC, hop, w9, h1])
          | ((refine aCall.gives (two_ok _ _ _ _ _) ?_); simp [hlt, hltI, wdC, hop, w9, h1])
          | ((with_reducible refine AWp.ret ?_); try simp [hlt, hltI, wdC, hop, w9, h1])
          | ((with_reducible refine AWp.skip ?_); try simp [hlt, hltI, wdC, hop, w9, h1])
          | ((with_reducible refine AWp.exit ?_); try simp [hlt, hltI, wdC, hop, w9, h1])
          | ((refine AWp.cond rfl (fun _ => ?_) (fun hcf => absurd hcf ?hcd)); (case hcd => (simp [hlt, hltI, wdC, hop, w9, h1]; done)))
          | ((refine AWp.cond rfl (fun hcf => absurd hcf ?hcd) (fun _ => ?_)); (case hcd => (simp [hlt, hltI, wdC, hop, w9, h1]; done))))
        refine ⟨m - 1, _, _, by omega, FrWk.mk ?_, AS.le_refl _, i + 1, by omega, by omega, rfl, rfl⟩
        simp [w8]
    · have : i = 3 := by omega
      subst this
      rcases back_3 w a b with ⟨h1, h2⟩ | ⟨h1, h2, h3⟩ | ⟨h1, h2, h3⟩
      · repeat (first
          | (with_reducible refine AWp.seq ?_)
          | (with_reducible refine AWp.block ?_)
          | (with_reducible refine And.intro (by first | omega | assumption | decide) ?_)
          | ((with_reducible refine AWp.region ?_); simp [wdC, h1, h2])
          | ((with_reducible refine AWp.drawS (id := 5) mixed (Sch.step 0 (Sch.step 2 (Sch.step 4 (Sch.read 3 (Sch.read 5 (Sch.alt 1 (Sch.alt 6 (Sch.alt 7 (Sch.step 8 Sch.done) Sch.none) Sch.none) (Sch.alt 6 (Sch.read 1 (Sch.alt 7 (Sch.step 8 Sch.done) Sch.none)) Sch.none))))))) (by kernel_rfl) (by kernel_rfl) (by repeat (with_reducible first | apply PanQ.then | apply PanQ.block | exact PanQ.body)) ?_); simp [wdC, h1, h2])
          | ((refine aCall.gives (two_ok _ _ _ _ _) ?_); simp [wdC, h1, h2])
          | ((with_reducible refine AWp.ret ?_); try simp [wdC, h1, h2])
          | ((with_reducible refine AWp.skip ?_); try simp [wdC, h1, h2])
          | ((with_reducible refine AWp.exit ?_); try simp [wdC, h1, h2])
          | ((refine AWp.cond rfl (fun _ => ?_) (fun hcf => absurd hcf ?hcd)); (case hcd => (simp [wdC, h1, h2]; done)))
          | ((refine AWp.cond rfl (fun hcf => absurd hcf ?hcd) (fun _ => ?_)); (case hcd => (simp [wdC, h1, h2]; done))))
        exact ⟨_, _, Wk.refl _, AS.le_refl _, rfl⟩
      · repeat (first
          | (with_reducible refine AWp.seq ?_)
          | (with_reducible refine AWp.block ?_)
          | (with_reducible refine And.intro (by first | omega | assumption | decide) ?_)
          | ((with_reducible refine AWp.region ?_); simp [wdC, h1, h2, h3])
          | ((with_reducible refine AWp.drawS (id := 5) mixed (Sch.step 0 (Sch.step 2 (Sch.step 4 (Sch.read 3 (Sch.read 5 (Sch.alt 1 (Sch.alt 6 (Sch.alt 7 (Sch.step 8 Sch.done) Sch.none) Sch.none) (Sch.alt 6 (Sch.read 1 (Sch.alt 7 (Sch.step 8 Sch.done) Sch.none)) Sch.none))))))) (by kernel_rfl) (by kernel_rfl) (by repeat (with_reducible first | apply PanQ.then | apply PanQ.block | exact PanQ.body)) ?_); simp [wdC, h1, h2, h3])
          | ((refine aCall.gives (two_ok _ _ _ _ _) ?_); simp [wdC, h1, h2, h3])
          | ((with_reducible refine AWp.ret ?_); try simp [wdC, h1, h2, h3])
          | ((with_reducible refine AWp.skip ?_); try simp [wdC, h1, h2, h3])
          | ((with_reducible refine AWp.exit ?_); try simp [wdC, h1, h2, h3])
          | ((refine AWp.cond rfl (fun _ => ?_) (fun hcf => absurd hcf ?hcd)); (case hcd => (simp [wdC, h1, h2, h3]; done)))
          | ((refine AWp.cond rfl (fun hcf => absurd hcf ?hcd) (fun _ => ?_)); (case hcd => (simp [wdC, h1, h2, h3]; done))))
        exact ⟨_, _, Wk.refl _, AS.le_refl _, rfl⟩
      · repeat (first
          | (with_reducible refine AWp.seq ?_)
          | (with_reducible refine AWp.block ?_)
          | (with_reducible refine And.intro (by first | omega | assumption | decide) ?_)
          | ((with_reducible refine AWp.region ?_); simp [wdC, h1, h2, h3])
          | ((with_reducible refine AWp.drawS (id := 5) mixed (Sch.step 0 (Sch.step 2 (Sch.step 4 (Sch.read 3 (Sch.read 5 (Sch.alt 1 (Sch.alt 6 (Sch.alt 7 (Sch.step 8 Sch.done) Sch.none) Sch.none) (Sch.alt 6 (Sch.read 1 (Sch.alt 7 (Sch.step 8 Sch.done) Sch.none)) Sch.none))))))) (by kernel_rfl) (by kernel_rfl) (by repeat (with_reducible first | apply PanQ.then | apply PanQ.block | exact PanQ.body)) ?_); simp [wdC, h1, h2, h3])
          | ((refine aCall.gives (two_ok _ _ _ _ _) ?_); simp [wdC, h1, h2, h3])
          | ((with_reducible refine AWp.ret ?_); try simp [wdC, h1, h2, h3])
          | ((with_reducible refine AWp.skip ?_); try simp [wdC, h1, h2, h3])
          | ((with_reducible refine AWp.exit ?_); try simp [wdC, h1, h2, h3])
          | ((refine AWp.cond rfl (fun _ => ?_) (fun hcf => absurd hcf ?hcd)); (case hcd => (simp [wdC, h1, h2, h3]; done)))
          | ((refine AWp.cond rfl (fun hcf => absurd hcf ?hcd) (fun _ => ?_)); (case hcd => (simp [wdC, h1, h2, h3]; done))))
        exact ⟨_, _, Wk.refl _, AS.le_refl _, rfl⟩

theorem numBack_reads (os : Os) {H : Type} (enc : TypeId × Value → H) : ∃ places, DataW.whole enc Try.prog ((World.holding Try.prog os ⟨#[], #[Value.agg #[.bool false, .int .u64 0, .int .u64 0]], []⟩).forCall (fun _ _ => 0) ⟨#[], #[Value.agg #[.bool false, .int .u64 0, .int .u64 0]], []⟩).memory Try.f4.params.toList Rows.numBackSpec.vars false #[Value.agg #[.bool false, .int .u64 0, .int .u64 0]].toList 8 = some ([.agg [.lit (.bool false), .lit (.int .u64 0), .lit (.int .u64 0)]], [], places) :=
  ⟨[], by kernel_rfl⟩

theorem numBack_contract (H : Type) (enc : TypeId × Value → H) (W : World) (base : Nat) (args : Array Value) (ds gs : List (DataW H)) (before : List MemPlace)
    (hval : ∀ (j : Nat) t v, Try.f4.params[j]? = some t → args[j]? = some v → Value.okWide Try.prog W .any base t v)
    (hW : DataW.Whole enc Try.prog Try.f4.params.toList Rows.numBackSpec.vars false W args.toList ds gs before)
    (hwt : (DataW.weightsEach Try.prog (Try.f4.params.toList ++ Rows.numBackSpec.plain.varTypes Try.prog) (ds ++ gs)).all (· ≤ reachBytes) = true) :
    Calls Try.prog 4 args W fun e W' => ∃ v, e = .returned v ∧ Rows.numBackSpec.post enc Try.prog Try.f4 false true false false W args v W' := by
  refine law_contract (P := Try.prog) (fn := Try.f4) (k := 4) (ts := [24]) (tb := 4) (s := Rows.numBackSpec) laidOut (by kernel_rfl) (by kernel_rfl) (by kernel_rfl) rfl Try.underlying4 rfl (fun ds h => ?_) (fun vs h => ?_) hval hW hwt
  · match ds, h with
    | [d1], _ => rfl
  · obtain ⟨c1, r, rfl, h1, h⟩ := h.inv
    obtain rfl := h.inv0
    obtain ⟨w, a, b, e2, ha, hb⟩ := arg_words h1
    rw [e2]
    exact numBack_ok w a b

theorem numBack_lifted (os : Os) (started : os.Started) (H : Type) (enc : TypeId × Value → H) (F : Stop.Interp) :
    ReturnsInHanded {} Try.checked os 4 .any ((OpenSpec.ofChange Rows.numBackSpec).preRow enc Try.prog Try.f4 Rows.numBackRow.domain false Rows.numBackRow.laid)
      (((OpenSpec.ofChange Rows.numBackSpec).at F).post enc Try.prog Try.f4 false true false false) := by
  obtain ⟨places, hx⟩ := numBack_reads os enc
  refine returnsInHanded_of_row (C := Try.checked) (s := OpenSpec.ofChange Rows.numBackSpec) own started (by kernel_rfl) Try.func4
    (witness_row_at (enc := enc) (C := Try.checked) false (World.holding Try.prog os ⟨#[], #[Value.agg #[.bool false, .int .u64 0, .int .u64 0]], []⟩) #[Value.agg #[.bool false, .int .u64 0, .int .u64 0]] rfl (by kernel_rfl) (by kernel_rfl) (by kernel_rfl)
      (OpenSpec.preRow_of_cond 8 hx (by kernel_rfl) (fun k hk => by cases hk) (by kernel_rfl) (show laidMetH Try.prog [] _ from ⟨[], rfl, List.nodup_nil, fun _ _ h => by cases h⟩))) ?_
  intro W base args ds gs before hval hW _ _ hwt _ _ _
  exact numBack_contract H enc W base args ds gs before hval hW hwt

theorem numBack_holds : Rows.NumBackSaid :=
  OpenClaim.holds_of_cond 4 Try.f4 rfl rfl rfl rfl rfl rfl rfl ⟨rfl, rfl, rfl, rfl, rfl⟩ rfl rfl rfl rfl rfl (by kernel_rfl) Try.func4 (by kernel_rfl)
    (of_decide_eq_true (by kernel_rfl)) (by unfold Func.isWrapper; first | (rw [if_pos (by decide +kernel)]; kernel_rfl) | (rw [if_neg (by decide +kernel)]; exact ⟨rfl, rfl⟩))
    (fun os started H enc _ F => by rw [OpenClaim.pre_eq_preRow]; exact numBack_lifted os started H enc F)


end Go.Proofs.Ythkcblpdgjnkdaa
