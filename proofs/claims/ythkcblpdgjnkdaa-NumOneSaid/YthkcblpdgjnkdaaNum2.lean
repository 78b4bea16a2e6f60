/- Package num and its reference: Two, One, Test. -/
import Derived.Test.YthkcblpdgjnkdaaNum1
set_option linter.unusedSimpArgs false
set_option linter.unusedVariables false
set_option maxRecDepth 100000
set_option maxHeartbeats 3200000
namespace Go.Proofs.Ythkcblpdgjnkdaa
open Go Go.AW

@[simp] theorem wr_i (w : Bool) (x : Int) : wr w (IntKind.i64.wrap x) = wr w x := by simp [wr]
@[simp] theorem wr_u (w : Bool) (x : Int) : wr w (IntKind.u64.wrap x) = wr w x := by simp [wr]
@[simp] theorem wr_pl (w : Bool) (x : Int) : wr w (pl w x) = wr w x := by simp [wr]

def divX (w : Bool) (a b : Int) : Int := if b = 0 then 0 else if b = -1 then chkX w (-a) else IntKind.u64.wrap (a.tdiv b)
def divF (w : Bool) (a b : Int) : Int := if b = 0 then 5 else if b = -1 then chkF w (-a) else 0
def remX (a b : Int) : Int := if b = 0 then 0 else if b = -1 then 0 else IntKind.u64.wrap (a.tmod b)
def remF (a b : Int) : Int := if b = 0 then 5 else 0

theorem divided_ok (w : Bool) (a b : Int) (ha : R64 a) (hb : R64 b) (σ : AS) : ACalls Try.prog 25 [.sc (.bool w), .sc (.int .i64 a), .sc (.int .i64 b)] σ
    (Gives (.tup [.sc (.int .u64 (divX w a b)), .sc (.int .i64 (divF w a b))]) σ) No := by
  have h0 : (0 : Int) - a = -a := by omega
  refine ACalls.of_body Try.func25 rfl rfl (by simp [Try.ntmps25]) ?_
  by_cases h1 : b = 0
  · repeat (first
      | (with_reducible refine AWp.seq ?_)
      | (with_reducible refine AWp.block ?_)
      | (with_reducible refine And.intro (by first | omega | assumption | decide) ?_)
      | ((with_reducible refine AWp.region ?_); simp [h1])
      | ((with_reducible refine AWp.ret ?_); try simp [h1])
      | ((with_reducible refine AWp.skip ?_); try simp [h1])
      | ((with_reducible refine AWp.exit ?_); try simp [h1])
      | ((refine AWp.cond rfl (fun _ => ?_) (fun hcf => absurd hcf ?hcd)); (case hcd => (simp [h1]; done)))
      | ((refine AWp.cond rfl (fun hcf => absurd hcf ?hcd) (fun _ => ?_)); (case hcd => (simp [h1]; done))))
    simp [divX, divF]
  · by_cases h2 : b = -1
    · repeat (first
        | (with_reducible refine AWp.seq ?_)
        | (with_reducible refine AWp.block ?_)
        | (with_reducible refine And.intro (by first | omega | assumption | decide) ?_)
        | ((with_reducible refine AWp.region ?_); simp [h1, h2])
        | ((refine aCall.gives (taken_ok 0 a ⟨by omega, by omega⟩ ha _) ?_); simp [h1, h2])
        | ((refine aCall.gives (checked_ok w (-a) _) ?_); simp [h1, h2])
        | ((with_reducible refine AWp.ret ?_); try simp [h1, h2])
        | ((with_reducible refine AWp.skip ?_); try simp [h1, h2])
        | ((with_reducible refine AWp.exit ?_); try simp [h1, h2])
        | ((refine AWp.cond rfl (fun _ => ?_) (fun hcf => absurd hcf ?hcd)); (case hcd => (simp [h1, h2]; done)))
        | ((refine AWp.cond rfl (fun hcf => absurd hcf ?hcd) (fun _ => ?_)); (case hcd => (simp [h1, h2]; done))))
      simp [divX, divF, h2, h0]
    · repeat (first
        | (with_reducible refine AWp.seq ?_)
        | (with_reducible refine AWp.block ?_)
        | (with_reducible refine And.intro (by first | omega | assumption | decide) ?_)
        | ((with_reducible refine AWp.region ?_); simp [h1, h2, Try.underlying2, Try.underlying22])
        | ((with_reducible refine AWp.ret ?_); try simp [h1, h2, Try.underlying2, Try.underlying22])
        | ((with_reducible refine AWp.skip ?_); try simp [h1, h2, Try.underlying2, Try.underlying22])
        | ((with_reducible refine AWp.exit ?_); try simp [h1, h2, Try.underlying2, Try.underlying22])
        | ((refine AWp.cond rfl (fun _ => ?_) (fun hcf => absurd hcf ?hcd)); (case hcd => (simp [h1, h2, Try.underlying2, Try.underlying22]; done)))
        | ((refine AWp.cond rfl (fun hcf => absurd hcf ?hcd) (fun _ => ?_)); (case hcd => (simp [h1, h2, Try.underlying2, Try.underlying22]; done))))
      simp [divX, divF, h1, h2]

theorem left_ok (a b : Int) (σ : AS) : ACalls Try.prog 26 [.sc (.int .i64 a), .sc (.int .i64 b)] σ
    (Gives (.tup [.sc (.int .u64 (remX a b)), .sc (.int .i64 (remF a b))]) σ) No := by
  refine ACalls.of_body Try.func26 rfl rfl (by simp [Try.ntmps26]) ?_
  by_cases h1 : b = 0
  · repeat (first
      | (with_reducible refine AWp.seq ?_)
      | (with_reducible refine AWp.block ?_)
      | (with_reducible refine And.intro (by first | omega | assumption | decide) ?_)
      | ((with_reducible refine AWp.region ?_); simp [h1])
      | ((with_reducible refine AWp.ret ?_); try simp [h1])
      | ((with_reducible refine AWp.skip ?_); try simp [h1])
      | ((with_reducible refine AWp.exit ?_); try simp [h1])
      | ((refine AWp.cond rfl (fun _ => ?_) (fun hcf => absurd hcf ?hcd)); (case hcd => (simp [h1]; done)))
      | ((refine AWp.cond rfl (fun hcf => absurd hcf ?hcd) (fun _ => ?_)); (case hcd => (simp [h1]; done))))
    simp [remX, remF]
  · by_cases h2 : b = -1
    · repeat (first
        | (with_reducible refine AWp.seq ?_)
        | (with_reducible refine AWp.block ?_)
        | (with_reducible refine And.intro (by first | omega | assumption | decide) ?_)
        | ((with_reducible refine AWp.region ?_); simp [h1, h2])
        | ((with_reducible refine AWp.ret ?_); try simp [h1, h2])
        | ((with_reducible refine AWp.skip ?_); try simp [h1, h2])
        | ((with_reducible refine AWp.exit ?_); try simp [h1, h2])
        | ((refine AWp.cond rfl (fun _ => ?_) (fun hcf => absurd hcf ?hcd)); (case hcd => (simp [h1, h2]; done)))
        | ((refine AWp.cond rfl (fun hcf => absurd hcf ?hcd) (fun _ => ?_)); (case hcd => (simp [h1, h2]; done))))
      simp [remX, remF, h2]
    · repeat (first
        | (with_reducible refine AWp.seq ?_)
        | (with_reducible refine AWp.block ?_)
        | (with_reducible refine And.intro (by first | omega | assumption | decide) ?_)
        | ((with_reducible refine AWp.region ?_); simp [h1, h2, Try.underlying2, Try.underlying22])
        | ((with_reducible refine AWp.ret ?_); try simp [h1, h2, Try.underlying2, Try.underlying22])
        | ((with_reducible refine AWp.skip ?_); try simp [h1, h2, Try.underlying2, Try.underlying22])
        | ((with_reducible refine AWp.exit ?_); try simp [h1, h2, Try.underlying2, Try.underlying22])
        | ((refine AWp.cond rfl (fun _ => ?_) (fun hcf => absurd hcf ?hcd)); (case hcd => (simp [h1, h2, Try.underlying2, Try.underlying22]; done)))
        | ((refine AWp.cond rfl (fun hcf => absurd hcf ?hcd) (fun _ => ?_)); (case hcd => (simp [h1, h2, Try.underlying2, Try.underlying22]; done))))
      simp [remX, remF, h1, h2]

def cntN (w : Bool) (y : Int) : Nat := (if w then y % 64 else y % 32).toNat

def ansV (r : Int × Int) : AV := .agg [.sc (.int .u64 r.1), .sc (.int .i64 r.2)]

theorem okR_pl (w : Bool) (v : Int) (h : in64 v = true) : (pl w v = v) ↔ okR w v = true := by
  cases w
  · simp [okR]; rw [w_i32]; omega
  · simp [okR, h]; simp [in64] at h; exact in_i64 (by omega) (by omega)

theorem okR_in (w : Bool) (v : Int) (h : in64 v = false) : okR w v = false := by
  cases w
  · simp [okR, in64] at h ⊢; omega
  · simpa [okR] using h

theorem radd_ok (w : Bool) (a b : Int) (ha : R64 a) (hb : R64 b) (σ : AS) : ACalls Try.prog 27 [.sc (.bool w), .sc (.int .i64 a), .sc (.int .i64 b)] σ
    (Gives (ansV (chkX w (a + b), chkF w (a + b))) σ) No := by
  refine ACalls.of_body Try.func27 rfl rfl (by simp [Try.ntmps27]) ?_
  repeat (first
    | (with_reducible refine AWp.seq ?_)
    | (with_reducible refine AWp.block ?_)
    | (with_reducible refine And.intro (by first | omega | assumption | decide) ?_)
    | ((with_reducible refine AWp.region ?_); simp)
    | ((with_reducible refine AWp.ret ?_); try simp)
    | ((with_reducible refine AWp.skip ?_); try simp)
    | ((with_reducible refine AWp.exit ?_); try simp)
    | ((refine AWp.cond rfl (fun _ => ?_) (fun hcf => absurd hcf ?hcd)); (case hcd => (simp; done)))
    | ((refine AWp.cond rfl (fun hcf => absurd hcf ?hcd) (fun _ => ?_)); (case hcd => (simp; done))))
  intro id hid
  unfold R64 at ha hb
  cases hi : in64 (a + b) with
  | false =>
    have ho := okR_in w _ hi
    simp [in64] at hi
    by_cases h1 : 0 < b
    · have e1 : IntKind.i64.wrap (9223372036854775807 - b) = 9223372036854775807 - b := in_i64 (by omega) (by omega)
      have h2 : 9223372036854775807 - b < a := by omega
      repeat (first
        | (with_reducible refine AWp.seq ?_)
        | (with_reducible refine AWp.block ?_)
        | (with_reducible refine And.intro (by first | omega | assumption | decide) ?_)
        | ((with_reducible refine AWp.region ?_); simp [h1, h2, e1])
        | ((with_reducible refine AWp.ret ?_); try simp [h1, h2, e1])
        | ((with_reducible refine AWp.skip ?_); try simp [h1, h2, e1])
        | ((with_reducible refine AWp.exit ?_); try simp [h1, h2, e1])
        | ((refine AWp.cond rfl (fun _ => ?_) (fun hcf => absurd hcf ?hcd)); (case hcd => (simp [h1, h2, e1]; done)))
        | ((refine AWp.cond rfl (fun hcf => absurd hcf ?hcd) (fun _ => ?_)); (case hcd => (simp [h1, h2, e1]; done))))
      simp [ansV, chkX, chkF, ho]
      all_goals (repeat (first | exact AS.le_refl _ | refine le_new (by simp [hid]) ?_))
    · have h3 : b < 0 := by omega
      have e1 : IntKind.i64.wrap (-9223372036854775808 - b) = -9223372036854775808 - b := in_i64 (by omega) (by omega)
      have h2 : a < -9223372036854775808 - b := by omega
      repeat (first
        | (with_reducible refine AWp.seq ?_)
        | (with_reducible refine AWp.block ?_)
        | (with_reducible refine And.intro (by first | omega | assumption | decide) ?_)
        | ((with_reducible refine AWp.region ?_); simp [h1, h3, h2, e1])
        | ((with_reducible refine AWp.ret ?_); try simp [h1, h3, h2, e1])
        | ((with_reducible refine AWp.skip ?_); try simp [h1, h3, h2, e1])
        | ((with_reducible refine AWp.exit ?_); try simp [h1, h3, h2, e1])
        | ((refine AWp.cond rfl (fun _ => ?_) (fun hcf => absurd hcf ?hcd)); (case hcd => (simp [h1, h3, h2, e1]; done)))
        | ((refine AWp.cond rfl (fun hcf => absurd hcf ?hcd) (fun _ => ?_)); (case hcd => (simp [h1, h3, h2, e1]; done))))
      simp [ansV, chkX, chkF, ho]
      all_goals (repeat (first | exact AS.le_refl _ | refine le_new (by simp [hid]) ?_))
  | true =>
    have hr := okR_pl w _ hi
    simp [in64] at hi
    have e0 : IntKind.i64.wrap (a + b) = a + b := in_i64 (by omega) (by omega)
    have g1 : 0 < b → IntKind.i64.wrap (9223372036854775807 - b) = 9223372036854775807 - b := fun h => in_i64 (by omega) (by omega)
    have g2 : ¬ (9223372036854775807 - b < a) := by omega
    have g3 : b < 0 → IntKind.i64.wrap (-9223372036854775808 - b) = -9223372036854775808 - b := fun h => in_i64 (by omega) (by omega)
    have g4 : ¬ (a < -9223372036854775808 - b) := by omega
    by_cases hp : pl w (a + b) = a + b
    · have ho := hr.1 hp
      by_cases h1 : 0 < b
      · have h3 : ¬ b < 0 := by omega
        repeat (first
          | (with_reducible refine AWp.seq ?_)
          | (with_reducible refine AWp.block ?_)
          | (with_reducible refine And.intro (by first | omega | assumption | decide) ?_)
          | ((with_reducible refine AWp.region ?_); simp [h1, h3, g1 h1, g2, e0, hp, Try.underlying2, Try.underlying22])
          | ((refine aCall.gives (rnumber_ok _ _ _) ?_); simp [h1, h3, g1 h1, g2, e0, hp, Try.underlying2, Try.underlying22])
          | ((with_reducible refine AWp.ret ?_); try simp [h1, h3, g1 h1, g2, e0, hp, Try.underlying2, Try.underlying22])
          | ((with_reducible refine AWp.skip ?_); try simp [h1, h3, g1 h1, g2, e0, hp, Try.underlying2, Try.underlying22])
          | ((with_reducible refine AWp.exit ?_); try simp [h1, h3, g1 h1, g2, e0, hp, Try.underlying2, Try.underlying22])
          | ((refine AWp.cond rfl (fun _ => ?_) (fun hcf => absurd hcf ?hcd)); (case hcd => (simp [h1, h3, g1 h1, g2, e0, hp, Try.underlying2, Try.underlying22]; done)))
          | ((refine AWp.cond rfl (fun hcf => absurd hcf ?hcd) (fun _ => ?_)); (case hcd => (simp [h1, h3, g1 h1, g2, e0, hp, Try.underlying2, Try.underlying22]; done))))
        simp [ansV, chkX, chkF, ho]
        all_goals (repeat (first | exact AS.le_refl _ | refine le_new (by simp [hid]) ?_))
      · by_cases h3 : b < 0
        · repeat (first
            | (with_reducible refine AWp.seq ?_)
            | (with_reducible refine AWp.block ?_)
            | (with_reducible refine And.intro (by first | omega | assumption | decide) ?_)
            | ((with_reducible refine AWp.region ?_); simp [h1, h3, g3 h3, g4, e0, hp, Try.underlying2, Try.underlying22])
            | ((refine aCall.gives (rnumber_ok _ _ _) ?_); simp [h1, h3, g3 h3, g4, e0, hp, Try.underlying2, Try.underlying22])
            | ((with_reducible refine AWp.ret ?_); try simp [h1, h3, g3 h3, g4, e0, hp, Try.underlying2, Try.underlying22])
            | ((with_reducible refine AWp.skip ?_); try simp [h1, h3, g3 h3, g4, e0, hp, Try.underlying2, Try.underlying22])
            | ((with_reducible refine AWp.exit ?_); try simp [h1, h3, g3 h3, g4, e0, hp, Try.underlying2, Try.underlying22])
            | ((refine AWp.cond rfl (fun _ => ?_) (fun hcf => absurd hcf ?hcd)); (case hcd => (simp [h1, h3, g3 h3, g4, e0, hp, Try.underlying2, Try.underlying22]; done)))
            | ((refine AWp.cond rfl (fun hcf => absurd hcf ?hcd) (fun _ => ?_)); (case hcd => (simp [h1, h3, g3 h3, g4, e0, hp, Try.underlying2, Try.underlying22]; done))))
          simp [ansV, chkX, chkF, ho]
          all_goals (repeat (first | exact AS.le_refl _ | refine le_new (by simp [hid]) ?_))
        · repeat (first
            | (with_reducible refine AWp.seq ?_)
            | (with_reducible refine AWp.block ?_)
            | (with_reducible refine And.intro (by first | omega | assumption | decide) ?_)
            | ((with_reducible refine AWp.region ?_); simp [h1, h3, e0, hp, Try.underlying2, Try.underlying22])
            | ((refine aCall.gives (rnumber_ok _ _ _) ?_); simp [h1, h3, e0, hp, Try.underlying2, Try.underlying22])
            | ((with_reducible refine AWp.ret ?_); try simp [h1, h3, e0, hp, Try.underlying2, Try.underlying22])
            | ((with_reducible refine AWp.skip ?_); try simp [h1, h3, e0, hp, Try.underlying2, Try.underlying22])
            | ((with_reducible refine AWp.exit ?_); try simp [h1, h3, e0, hp, Try.underlying2, Try.underlying22])
            | ((refine AWp.cond rfl (fun _ => ?_) (fun hcf => absurd hcf ?hcd)); (case hcd => (simp [h1, h3, e0, hp, Try.underlying2, Try.underlying22]; done)))
            | ((refine AWp.cond rfl (fun hcf => absurd hcf ?hcd) (fun _ => ?_)); (case hcd => (simp [h1, h3, e0, hp, Try.underlying2, Try.underlying22]; done))))
          simp [ansV, chkX, chkF, ho]
          all_goals (repeat (first | exact AS.le_refl _ | refine le_new (by simp [hid]) ?_))
    · have ho : okR w (a + b) = false := by cases h : okR w (a + b) with | false => rfl | true => exact absurd (hr.2 h) hp
      by_cases h1 : 0 < b
      · have h3 : ¬ b < 0 := by omega
        repeat (first
          | (with_reducible refine AWp.seq ?_)
          | (with_reducible refine AWp.block ?_)
          | (with_reducible refine And.intro (by first | omega | assumption | decide) ?_)
          | ((with_reducible refine AWp.region ?_); simp [h1, h3, g1 h1, g2, e0, hp, Try.underlying2, Try.underlying22])
          | ((refine aCall.gives (rnumber_ok _ _ _) ?_); simp [h1, h3, g1 h1, g2, e0, hp, Try.underlying2, Try.underlying22])
          | ((with_reducible refine AWp.ret ?_); try simp [h1, h3, g1 h1, g2, e0, hp, Try.underlying2, Try.underlying22])
          | ((with_reducible refine AWp.skip ?_); try simp [h1, h3, g1 h1, g2, e0, hp, Try.underlying2, Try.underlying22])
          | ((with_reducible refine AWp.exit ?_); try simp [h1, h3, g1 h1, g2, e0, hp, Try.underlying2, Try.underlying22])
          | ((refine AWp.cond rfl (fun _ => ?_) (fun hcf => absurd hcf ?hcd)); (case hcd => (simp [h1, h3, g1 h1, g2, e0, hp, Try.underlying2, Try.underlying22]; done)))
          | ((refine AWp.cond rfl (fun hcf => absurd hcf ?hcd) (fun _ => ?_)); (case hcd => (simp [h1, h3, g1 h1, g2, e0, hp, Try.underlying2, Try.underlying22]; done))))
        simp [ansV, chkX, chkF, ho]
        all_goals (repeat (first | exact AS.le_refl _ | refine le_new (by simp [hid]) ?_))
      · by_cases h3 : b < 0
        · repeat (first
            | (with_reducible refine AWp.seq ?_)
            | (with_reducible refine AWp.block ?_)
            | (with_reducible refine And.intro (by first | omega | assumption | decide) ?_)
            | ((with_reducible refine AWp.region ?_); simp [h1, h3, g3 h3, g4, e0, hp, Try.underlying2, Try.underlying22])
            | ((refine aCall.gives (rnumber_ok _ _ _) ?_); simp [h1, h3, g3 h3, g4, e0, hp, Try.underlying2, Try.underlying22])
            | ((with_reducible refine AWp.ret ?_); try simp [h1, h3, g3 h3, g4, e0, hp, Try.underlying2, Try.underlying22])
            | ((with_reducible refine AWp.skip ?_); try simp [h1, h3, g3 h3, g4, e0, hp, Try.underlying2, Try.underlying22])
            | ((with_reducible refine AWp.exit ?_); try simp [h1, h3, g3 h3, g4, e0, hp, Try.underlying2, Try.underlying22])
            | ((refine AWp.cond rfl (fun _ => ?_) (fun hcf => absurd hcf ?hcd)); (case hcd => (simp [h1, h3, g3 h3, g4, e0, hp, Try.underlying2, Try.underlying22]; done)))
            | ((refine AWp.cond rfl (fun hcf => absurd hcf ?hcd) (fun _ => ?_)); (case hcd => (simp [h1, h3, g3 h3, g4, e0, hp, Try.underlying2, Try.underlying22]; done))))
          simp [ansV, chkX, chkF, ho]
          all_goals (repeat (first | exact AS.le_refl _ | refine le_new (by simp [hid]) ?_))
        · repeat (first
            | (with_reducible refine AWp.seq ?_)
            | (with_reducible refine AWp.block ?_)
            | (with_reducible refine And.intro (by first | omega | assumption | decide) ?_)
            | ((with_reducible refine AWp.region ?_); simp [h1, h3, e0, hp, Try.underlying2, Try.underlying22])
            | ((refine aCall.gives (rnumber_ok _ _ _) ?_); simp [h1, h3, e0, hp, Try.underlying2, Try.underlying22])
            | ((with_reducible refine AWp.ret ?_); try simp [h1, h3, e0, hp, Try.underlying2, Try.underlying22])
            | ((with_reducible refine AWp.skip ?_); try simp [h1, h3, e0, hp, Try.underlying2, Try.underlying22])
            | ((with_reducible refine AWp.exit ?_); try simp [h1, h3, e0, hp, Try.underlying2, Try.underlying22])
            | ((refine AWp.cond rfl (fun _ => ?_) (fun hcf => absurd hcf ?hcd)); (case hcd => (simp [h1, h3, e0, hp, Try.underlying2, Try.underlying22]; done)))
            | ((refine AWp.cond rfl (fun hcf => absurd hcf ?hcd) (fun _ => ?_)); (case hcd => (simp [h1, h3, e0, hp, Try.underlying2, Try.underlying22]; done))))
          simp [ansV, chkX, chkF, ho]
          all_goals (repeat (first | exact AS.le_refl _ | refine le_new (by simp [hid]) ?_))

theorem rsub_ok (w : Bool) (a b : Int) (ha : R64 a) (hb : R64 b) (σ : AS) : ACalls Try.prog 28 [.sc (.bool w), .sc (.int .i64 a), .sc (.int .i64 b)] σ
    (Gives (ansV (chkX w (a - b), chkF w (a - b))) σ) No := by
  refine ACalls.of_body Try.func28 rfl rfl (by simp [Try.ntmps28]) ?_
  repeat (first
    | (with_reducible refine AWp.seq ?_)
    | (with_reducible refine AWp.block ?_)
    | (with_reducible refine And.intro (by first | omega | assumption | decide) ?_)
    | ((with_reducible refine AWp.region ?_); simp)
    | ((with_reducible refine AWp.ret ?_); try simp)
    | ((with_reducible refine AWp.skip ?_); try simp)
    | ((with_reducible refine AWp.exit ?_); try simp)
    | ((refine AWp.cond rfl (fun _ => ?_) (fun hcf => absurd hcf ?hcd)); (case hcd => (simp; done)))
    | ((refine AWp.cond rfl (fun hcf => absurd hcf ?hcd) (fun _ => ?_)); (case hcd => (simp; done))))
  intro id hid
  unfold R64 at ha hb
  have g1 : b < 0 → IntKind.i64.wrap (9223372036854775807 + b) = 9223372036854775807 + b := fun h => in_i64 (by omega) (by omega)
  have g3 : 0 < b → IntKind.i64.wrap (-9223372036854775808 + b) = -9223372036854775808 + b := fun h => in_i64 (by omega) (by omega)
  cases hi : in64 (a - b) with
  | false =>
    have ho := okR_in w _ hi
    simp [in64] at hi
    by_cases h1 : b < 0
    · have h2 : 9223372036854775807 + b < a := by omega
      repeat (first
        | (with_reducible refine AWp.seq ?_)
        | (with_reducible refine AWp.block ?_)
        | (with_reducible refine And.intro (by first | omega | assumption | decide) ?_)
        | ((with_reducible refine AWp.region ?_); simp [h1, h2, g1 h1])
        | ((with_reducible refine AWp.ret ?_); try simp [h1, h2, g1 h1])
        | ((with_reducible refine AWp.skip ?_); try simp [h1, h2, g1 h1])
        | ((with_reducible refine AWp.exit ?_); try simp [h1, h2, g1 h1])
        | ((refine AWp.cond rfl (fun _ => ?_) (fun hcf => absurd hcf ?hcd)); (case hcd => (simp [h1, h2, g1 h1]; done)))
        | ((refine AWp.cond rfl (fun hcf => absurd hcf ?hcd) (fun _ => ?_)); (case hcd => (simp [h1, h2, g1 h1]; done))))
      simp [ansV, chkX, chkF, ho]
      all_goals (repeat (first | exact AS.le_refl _ | refine le_new (by simp [hid]) ?_))
    · have h3 : 0 < b := by omega
      have h2 : a < -9223372036854775808 + b := by omega
      repeat (first
        | (with_reducible refine AWp.seq ?_)
        | (with_reducible refine AWp.block ?_)
        | (with_reducible refine And.intro (by first | omega | assumption | decide) ?_)
        | ((with_reducible refine AWp.region ?_); simp [h1, h3, h2, g3 h3])
        | ((with_reducible refine AWp.ret ?_); try simp [h1, h3, h2, g3 h3])
        | ((with_reducible refine AWp.skip ?_); try simp [h1, h3, h2, g3 h3])
        | ((with_reducible refine AWp.exit ?_); try simp [h1, h3, h2, g3 h3])
        | ((refine AWp.cond rfl (fun _ => ?_) (fun hcf => absurd hcf ?hcd)); (case hcd => (simp [h1, h3, h2, g3 h3]; done)))
        | ((refine AWp.cond rfl (fun hcf => absurd hcf ?hcd) (fun _ => ?_)); (case hcd => (simp [h1, h3, h2, g3 h3]; done))))
      simp [ansV, chkX, chkF, ho]
      all_goals (repeat (first | exact AS.le_refl _ | refine le_new (by simp [hid]) ?_))
  | true =>
    have hr := okR_pl w _ hi
    simp [in64] at hi
    have e0 : IntKind.i64.wrap (a - b) = a - b := in_i64 (by omega) (by omega)
    have g2 : ¬ (9223372036854775807 + b < a) := by omega
    have g4 : ¬ (a < -9223372036854775808 + b) := by omega
    have hpp : (pl w (a - b) = a - b ∧ okR w (a - b) = true) ∨ (¬ pl w (a - b) = a - b ∧ okR w (a - b) = false) := by
      by_cases hp : pl w (a - b) = a - b
      · exact .inl ⟨hp, hr.1 hp⟩
      · exact .inr ⟨hp, by cases h : okR w (a - b) with | false => rfl | true => exact absurd (hr.2 h) hp⟩
    rcases hpp with ⟨hp, ho⟩ | ⟨hp, ho⟩
    all_goals
      by_cases h1 : b < 0
      · have h3 : ¬ 0 < b := by omega
        repeat (first
          | (with_reducible refine AWp.seq ?_)
          | (with_reducible refine AWp.block ?_)
          | (with_reducible refine And.intro (by first | omega | assumption | decide) ?_)
          | ((with_reducible refine AWp.region ?_); simp [h1, h3, g1 h1, g2, e0, hp, Try.underlying2, Try.underlying22])
          | ((refine aCall.gives (rnumber_ok _ _ _) ?_); simp [h1, h3, g1 h1, g2, e0, hp, Try.underlying2, Try.underlying22])
          | ((with_reducible refine AWp.ret ?_); try simp [h1, h3, g1 h1, g2, e0, hp, Try.underlying2, Try.underlying22])
          | ((with_reducible refine AWp.skip ?_); try simp [h1, h3, g1 h1, g2, e0, hp, Try.underlying2, Try.underlying22])
          | ((with_reducible refine AWp.exit ?_); try simp [h1, h3, g1 h1, g2, e0, hp, Try.underlying2, Try.underlying22])
          | ((refine AWp.cond rfl (fun _ => ?_) (fun hcf => absurd hcf ?hcd)); (case hcd => (simp [h1, h3, g1 h1, g2, e0, hp, Try.underlying2, Try.underlying22]; done)))
          | ((refine AWp.cond rfl (fun hcf => absurd hcf ?hcd) (fun _ => ?_)); (case hcd => (simp [h1, h3, g1 h1, g2, e0, hp, Try.underlying2, Try.underlying22]; done))))
        simp [ansV, chkX, chkF, ho]
        all_goals (repeat (first | exact AS.le_refl _ | refine le_new (by simp [hid]) ?_))
      · by_cases h3 : 0 < b
        · repeat (first
            | (with_reducible refine AWp.seq ?_)
            | (with_reducible refine AWp.block ?_)
            | (with_reducible refine And.intro (by first | omega | assumption | decide) ?_)
            | ((with_reducible refine AWp.region ?_); simp [h1, h3, g3 h3, g4, e0, hp, Try.underlying2, Try.underlying22])
            | ((refine aCall.gives (rnumber_ok _ _ _) ?_); simp [h1, h3, g3 h3, g4, e0, hp, Try.underlying2, Try.underlying22])
            | ((with_reducible refine AWp.ret ?_); try simp [h1, h3, g3 h3, g4, e0, hp, Try.underlying2, Try.underlying22])
            | ((with_reducible refine AWp.skip ?_); try simp [h1, h3, g3 h3, g4, e0, hp, Try.underlying2, Try.underlying22])
            | ((with_reducible refine AWp.exit ?_); try simp [h1, h3, g3 h3, g4, e0, hp, Try.underlying2, Try.underlying22])
            | ((refine AWp.cond rfl (fun _ => ?_) (fun hcf => absurd hcf ?hcd)); (case hcd => (simp [h1, h3, g3 h3, g4, e0, hp, Try.underlying2, Try.underlying22]; done)))
            | ((refine AWp.cond rfl (fun hcf => absurd hcf ?hcd) (fun _ => ?_)); (case hcd => (simp [h1, h3, g3 h3, g4, e0, hp, Try.underlying2, Try.underlying22]; done))))
          simp [ansV, chkX, chkF, ho]
          all_goals (repeat (first | exact AS.le_refl _ | refine le_new (by simp [hid]) ?_))
        · repeat (first
            | (with_reducible refine AWp.seq ?_)
            | (with_reducible refine AWp.block ?_)
            | (with_reducible refine And.intro (by first | omega | assumption | decide) ?_)
            | ((with_reducible refine AWp.region ?_); simp [h1, h3, e0, hp, Try.underlying2, Try.underlying22])
            | ((refine aCall.gives (rnumber_ok _ _ _) ?_); simp [h1, h3, e0, hp, Try.underlying2, Try.underlying22])
            | ((with_reducible refine AWp.ret ?_); try simp [h1, h3, e0, hp, Try.underlying2, Try.underlying22])
            | ((with_reducible refine AWp.skip ?_); try simp [h1, h3, e0, hp, Try.underlying2, Try.underlying22])
            | ((with_reducible refine AWp.exit ?_); try simp [h1, h3, e0, hp, Try.underlying2, Try.underlying22])
            | ((refine AWp.cond rfl (fun _ => ?_) (fun hcf => absurd hcf ?hcd)); (case hcd => (simp [h1, h3, e0, hp, Try.underlying2, Try.underlying22]; done)))
            | ((refine AWp.cond rfl (fun hcf => absurd hcf ?hcd) (fun _ => ?_)); (case hcd => (simp [h1, h3, e0, hp, Try.underlying2, Try.underlying22]; done))))
          simp [ansV, chkX, chkF, ho]
          all_goals (repeat (first | exact AS.le_refl _ | refine le_new (by simp [hid]) ?_))

end Go.Proofs.Ythkcblpdgjnkdaa
