/- Package num and its reference: One and Test answer alike; the examples hold. -/
import Derived.Test.YthkcblpdgjnkdaaNum4
set_option linter.unusedSimpArgs false
set_option linter.unusedVariables false
set_option maxRecDepth 100000
set_option maxHeartbeats 3200000
namespace Go.Proofs.Ythkcblpdgjnkdaa
open Go Go.AW

/-- What one word comes to. -/
def oneR (op : Int) (w : Bool) (x : Int) : Int × Int :=
  let a := pl w x
  if op = 23 then (wr w (-a), 0) else if op = 24 then (IntKind.u64.wrap (-1 - a), 0) else if op = 28 then (wr false a, 0) else if op = 29 then (IntKind.u64.wrap a, 0) else
  if op = 30 then (chkX false a, chkF false a) else (0, 0)

theorem not_xor (n : Int) : IntKind.i64.wrap ((BitVec.ofInt 64 (-1) ^^^ BitVec.ofInt 64 n).toNat : Int) = IntKind.i64.wrap (-1 - n) := by
  have : (BitVec.ofInt 64 (-1) ^^^ BitVec.ofInt 64 n) = BitVec.ofInt 64 (-1 - n) := by
    have e : BitVec.ofInt 64 (-1) = BitVec.allOnes 64 := by decide
    rw [e, BitVec.allOnes_xor]
    apply BitVec.eq_of_toNat_eq
    rw [BitVec.toNat_not, BitVec.toNat_ofInt, BitVec.toNat_ofInt]
    have : ((2 ^ 64 : Nat) : Int) = 18446744073709551616 := by decide
    have h2 : (2 : Nat) ^ 64 = 18446744073709551616 := by decide
    rw [this, h2]; omega
  rw [this, BitVec.toNat_ofInt]
  have : ((2 ^ 64 : Nat) : Int) = 18446744073709551616 := by decide
  rw [this, w_i64, w_i64]; omega
theorem not_xor_u (n : Int) : IntKind.u64.wrap ((BitVec.ofInt 64 (-1) ^^^ BitVec.ofInt 64 n).toNat : Int) = IntKind.u64.wrap (-1 - n) := by
  rw [← ww2, not_xor, ww2]

theorem one_cases (op : Int) : op = 23 ∨ op = 24 ∨ op = 28 ∨ op = 29 ∨ op = 30 ∨ (¬ op = 23 ∧ ¬ op = 24 ∧ ¬ op = 28 ∧ ¬ op = 29 ∧ ¬ op = 30) := by omega

theorem one_ok (op : Int) (w : Bool) (x : Int) (σ : AS) : ACalls Try.prog 14 [.sc (.int .i64 op), .sc (.bool w), .sc (.int .u64 x)] σ
    (Gives (.tup [.sc (.int .u64 (oneR op w x).1), .sc (.int .i64 (oneR op w x).2)]) σ) No := by
  have ra := pl_r w x
  have hin : in64 (pl w x) = true := by unfold in64; unfold R64 at ra; exact decide_eq_true ra
  have hck := fun σ => checked_ok false (pl w x) σ
  rw [hin, i_pl] at hck
  simp only [Bool.not_true] at hck
  refine ACalls.of_body Try.func14 rfl rfl (by simp [Try.ntmps14]) ?_
  rcases one_cases op with rfl | rfl | rfl | rfl | rfl | ⟨h1, h2, h3, h4, h5⟩
  · cases w
    all_goals
      repeat (first
        | (with_reducible refine AWp.seq ?_)
        | (with_reducible refine AWp.block ?_)
        | (with_reducible refine And.intro (by first | omega | assumption | decide) ?_)
        | ((with_reducible refine AWp.region ?_); simp [Try.underlying2, Try.underlying22])
        | ((refine aCall.gives (plain_ok _ _ _) ?_); simp [Try.underlying2, Try.underlying22])
        | ((refine aCall.gives (wrapped_ok _ _ _) ?_); simp [Try.underlying2, Try.underlying22])
        | ((with_reducible refine AWp.ret ?_); try simp [Try.underlying2, Try.underlying22])
        | ((with_reducible refine AWp.skip ?_); try simp [Try.underlying2, Try.underlying22])
        | ((with_reducible refine AWp.exit ?_); try simp [Try.underlying2, Try.underlying22])
        | ((refine AWp.cond rfl (fun _ => ?_) (fun hcf => absurd hcf ?hcd)); (case hcd => (simp [Try.underlying2, Try.underlying22]; done)))
        | ((refine AWp.cond rfl (fun hcf => absurd hcf ?hcd) (fun _ => ?_)); (case hcd => (simp [Try.underlying2, Try.underlying22]; done))))
      try simp [oneR]
  · cases w
    all_goals
      repeat (first
        | (with_reducible refine AWp.seq ?_)
        | (with_reducible refine AWp.block ?_)
        | (with_reducible refine And.intro (by first | omega | assumption | decide) ?_)
        | ((with_reducible refine AWp.region ?_); simp [Try.underlying2, Try.underlying22])
        | ((refine aCall.gives (plain_ok _ _ _) ?_); simp [Try.underlying2, Try.underlying22])
        | ((refine aCall.gives (wrapped_ok _ _ _) ?_); simp [Try.underlying2, Try.underlying22])
        | ((with_reducible refine AWp.ret ?_); try simp [Try.underlying2, Try.underlying22])
        | ((with_reducible refine AWp.skip ?_); try simp [Try.underlying2, Try.underlying22])
        | ((with_reducible refine AWp.exit ?_); try simp [Try.underlying2, Try.underlying22])
        | ((refine AWp.cond rfl (fun _ => ?_) (fun hcf => absurd hcf ?hcd)); (case hcd => (simp [Try.underlying2, Try.underlying22]; done)))
        | ((refine AWp.cond rfl (fun hcf => absurd hcf ?hcd) (fun _ => ?_)); (case hcd => (simp [Try.underlying2, Try.underlying22]; done))))
    · show AV.Wk _ (.tup [.sc (.int .u64 (IntKind.u64.wrap ((BitVec.ofInt 64 (-1) ^^^ BitVec.ofInt 64 (IntKind.i32.wrap x)).toNat : Int))), .sc (.int .i64 0)]) _
      rw [not_xor_u]; simp [oneR]
    · show AV.Wk _ (.tup [.sc (.int .u64 (IntKind.u64.wrap ((BitVec.ofInt 64 (-1) ^^^ BitVec.ofInt 64 (IntKind.i64.wrap x)).toNat : Int))), .sc (.int .i64 0)]) _
      rw [not_xor_u]; simp [oneR]
  · cases w
    all_goals
      repeat (first
        | (with_reducible refine AWp.seq ?_)
        | (with_reducible refine AWp.block ?_)
        | (with_reducible refine And.intro (by first | omega | assumption | decide) ?_)
        | ((with_reducible refine AWp.region ?_); simp [Try.underlying2, Try.underlying22])
        | ((refine aCall.gives (plain_ok _ _ _) ?_); simp [Try.underlying2, Try.underlying22])
        | ((refine aCall.gives (int_ok _ _) ?_); simp [Try.underlying2, Try.underlying22])
        | ((with_reducible refine AWp.ret ?_); try simp [Try.underlying2, Try.underlying22])
        | ((with_reducible refine AWp.skip ?_); try simp [Try.underlying2, Try.underlying22])
        | ((with_reducible refine AWp.exit ?_); try simp [Try.underlying2, Try.underlying22])
        | ((refine AWp.cond rfl (fun _ => ?_) (fun hcf => absurd hcf ?hcd)); (case hcd => (simp [Try.underlying2, Try.underlying22]; done)))
        | ((refine AWp.cond rfl (fun hcf => absurd hcf ?hcd) (fun _ => ?_)); (case hcd => (simp [Try.underlying2, Try.underlying22]; done))))
      try simp [oneR]
  · cases w
    all_goals
      repeat (first
        | (with_reducible refine AWp.seq ?_)
        | (with_reducible refine AWp.block ?_)
        | (with_reducible refine And.intro (by first | omega | assumption | decide) ?_)
        | ((with_reducible refine AWp.region ?_); simp [Try.underlying2, Try.underlying22])
        | ((refine aCall.gives (plain_ok _ _ _) ?_); simp [Try.underlying2, Try.underlying22])
        | ((refine aCall.gives (int_ok _ _) ?_); simp [Try.underlying2, Try.underlying22])
        | ((with_reducible refine AWp.ret ?_); try simp [Try.underlying2, Try.underlying22])
        | ((with_reducible refine AWp.skip ?_); try simp [Try.underlying2, Try.underlying22])
        | ((with_reducible refine AWp.exit ?_); try simp [Try.underlying2, Try.underlying22])
        | ((refine AWp.cond rfl (fun _ => ?_) (fun hcf => absurd hcf ?hcd)); (case hcd => (simp [Try.underlying2, Try.underlying22]; done)))
        | ((refine AWp.cond rfl (fun hcf => absurd hcf ?hcd) (fun _ => ?_)); (case hcd => (simp [Try.underlying2, Try.underlying22]; done))))
      try simp [oneR]
  · cases w
    all_goals
      simp only [pl_t, pl_f] at hck
      repeat (first
        | (with_reducible refine AWp.seq ?_)
        | (with_reducible refine AWp.block ?_)
        | (with_reducible refine And.intro (by first | omega | assumption | decide) ?_)
        | ((with_reducible refine AWp.region ?_); simp [Try.underlying2, Try.underlying22])
        | ((refine aCall.gives (plain_ok _ _ _) ?_); simp [Try.underlying2, Try.underlying22])
        | ((refine aCall.gives (hck _) ?_); simp [Try.underlying2, Try.underlying22])
        | ((with_reducible refine AWp.ret ?_); try simp [Try.underlying2, Try.underlying22])
        | ((with_reducible refine AWp.skip ?_); try simp [Try.underlying2, Try.underlying22])
        | ((with_reducible refine AWp.exit ?_); try simp [Try.underlying2, Try.underlying22])
        | ((refine AWp.cond rfl (fun _ => ?_) (fun hcf => absurd hcf ?hcd)); (case hcd => (simp [Try.underlying2, Try.underlying22]; done)))
        | ((refine AWp.cond rfl (fun hcf => absurd hcf ?hcd) (fun _ => ?_)); (case hcd => (simp [Try.underlying2, Try.underlying22]; done))))
      try simp [oneR]
  · cases w
    all_goals
      repeat (first
        | (with_reducible refine AWp.seq ?_)
        | (with_reducible refine AWp.block ?_)
        | (with_reducible refine And.intro (by first | omega | assumption | decide) ?_)
        | ((with_reducible refine AWp.region ?_); simp [Try.underlying2, Try.underlying22, h1, h2, h3, h4, h5])
        | ((refine aCall.gives (plain_ok _ _ _) ?_); simp [Try.underlying2, Try.underlying22, h1, h2, h3, h4, h5])
        | ((with_reducible refine AWp.ret ?_); try simp [Try.underlying2, Try.underlying22, h1, h2, h3, h4, h5])
        | ((with_reducible refine AWp.skip ?_); try simp [Try.underlying2, Try.underlying22, h1, h2, h3, h4, h5])
        | ((with_reducible refine AWp.exit ?_); try simp [Try.underlying2, Try.underlying22, h1, h2, h3, h4, h5])
        | ((refine AWp.cond rfl (fun _ => ?_) (fun hcf => absurd hcf ?hcd)); (case hcd => (simp [Try.underlying2, Try.underlying22, h1, h2, h3, h4, h5]; done)))
        | ((refine AWp.cond rfl (fun hcf => absurd hcf ?hcd) (fun _ => ?_)); (case hcd => (simp [Try.underlying2, Try.underlying22, h1, h2, h3, h4, h5]; done))))
      try simp [oneR, h1, h2, h3, h4, h5]

theorem rone_ok (op : Int) (w : Bool) (x : Int) (σ : AS) : ACalls Try.prog 15 [.sc (.int .i64 op), .sc (.bool w), .sc (.int .u64 x)] σ
    (Gives (ansV (oneR op w x)) σ) No := by
  have ra := pl_r w x
  have hin : in64 (pl w x) = true := by unfold in64; unfold R64 at ra; exact decide_eq_true ra
  have hr := okR_pl false (pl w x) hin
  have hpp : (pl false (pl w x) = pl w x ∧ okR false (pl w x) = true) ∨ (¬ pl false (pl w x) = pl w x ∧ okR false (pl w x) = false) := by
    by_cases hp : pl false (pl w x) = pl w x
    · exact .inl ⟨hp, hr.1 hp⟩
    · exact .inr ⟨hp, by cases h : okR false (pl w x) with | false => rfl | true => exact absurd (hr.2 h) hp⟩
  have x0 : ∀ a : Int, 0 - a = -a := fun a => by omega
  refine ACalls.of_body Try.func15 rfl rfl (by simp [Try.ntmps15]) ?_
  repeat (first
    | (with_reducible refine AWp.seq ?_)
    | (with_reducible refine AWp.block ?_)
    | (with_reducible refine And.intro (by first | omega | assumption | decide) ?_)
    | ((with_reducible refine AWp.region ?_); simp)
    | ((with_reducible refine AWp.ret ?_); try simp)
    | ((with_reducible refine AWp.skip ?_); try simp)
    | ((with_reducible refine AWp.exit ?_); try simp)
    | ((refine AWp.cond rfl (fun _ => ?_) (fun hcf => absurd hcf ?hcd)); (case hcd => (simp; done)))
    | ((refine AWp.cond rfl (fun hcf => absurd hcf ?hcd) (fun _ => ?_)); (case hcd => (simp; done))))
  intro id hid
  rcases one_cases op with rfl | rfl | rfl | rfl | rfl | ⟨h1, h2, h3, h4, h5⟩
  · cases w
    all_goals
      repeat (first
        | (with_reducible refine AWp.seq ?_)
        | (with_reducible refine AWp.block ?_)
        | (with_reducible refine And.intro (by first | omega | assumption | decide) ?_)
        | ((with_reducible refine AWp.region ?_); simp [Try.underlying2, Try.underlying22, x0, ansV])
        | ((refine aCall.gives (rnumber_ok _ _ _) ?_); simp [Try.underlying2, Try.underlying22, x0, ansV])
        | ((refine aCall.gives (rwrap_ok _ _ _) ?_); simp [Try.underlying2, Try.underlying22, x0, ansV])
        | ((with_reducible refine AWp.ret ?_); try simp [Try.underlying2, Try.underlying22, x0, ansV])
        | ((with_reducible refine AWp.skip ?_); try simp [Try.underlying2, Try.underlying22, x0, ansV])
        | ((with_reducible refine AWp.exit ?_); try simp [Try.underlying2, Try.underlying22, x0, ansV])
        | ((refine AWp.cond rfl (fun _ => ?_) (fun hcf => absurd hcf ?hcd)); (case hcd => (simp [Try.underlying2, Try.underlying22, x0, ansV]; done)))
        | ((refine AWp.cond rfl (fun hcf => absurd hcf ?hcd) (fun _ => ?_)); (case hcd => (simp [Try.underlying2, Try.underlying22, x0, ansV]; done))))
      try simp [oneR, ansV]
      all_goals (repeat (first | exact AS.le_refl _ | refine le_new (by simp [hid]) ?_))
  · cases w
    all_goals
      repeat (first
        | (with_reducible refine AWp.seq ?_)
        | (with_reducible refine AWp.block ?_)
        | (with_reducible refine And.intro (by first | omega | assumption | decide) ?_)
        | ((with_reducible refine AWp.region ?_); simp [Try.underlying2, Try.underlying22, x0, ansV])
        | ((refine aCall.gives (rnumber_ok _ _ _) ?_); simp [Try.underlying2, Try.underlying22, x0, ansV])
        | ((refine aCall.gives (rwrap_ok _ _ _) ?_); simp [Try.underlying2, Try.underlying22, x0, ansV])
        | ((with_reducible refine AWp.ret ?_); try simp [Try.underlying2, Try.underlying22, x0, ansV])
        | ((with_reducible refine AWp.skip ?_); try simp [Try.underlying2, Try.underlying22, x0, ansV])
        | ((with_reducible refine AWp.exit ?_); try simp [Try.underlying2, Try.underlying22, x0, ansV])
        | ((refine AWp.cond rfl (fun _ => ?_) (fun hcf => absurd hcf ?hcd)); (case hcd => (simp [Try.underlying2, Try.underlying22, x0, ansV]; done)))
        | ((refine AWp.cond rfl (fun hcf => absurd hcf ?hcd) (fun _ => ?_)); (case hcd => (simp [Try.underlying2, Try.underlying22, x0, ansV]; done))))
      try simp [oneR, ansV]
      all_goals (repeat (first | exact AS.le_refl _ | refine le_new (by simp [hid]) ?_))
  · cases w
    all_goals
      repeat (first
        | (with_reducible refine AWp.seq ?_)
        | (with_reducible refine AWp.block ?_)
        | (with_reducible refine And.intro (by first | omega | assumption | decide) ?_)
        | ((with_reducible refine AWp.region ?_); simp [Try.underlying2, Try.underlying22, x0, ansV])
        | ((refine aCall.gives (rnumber_ok _ _ _) ?_); simp [Try.underlying2, Try.underlying22, x0, ansV])
        | ((refine aCall.gives (rint_ok _ _) ?_); simp [Try.underlying2, Try.underlying22, x0, ansV])
        | ((with_reducible refine AWp.ret ?_); try simp [Try.underlying2, Try.underlying22, x0, ansV])
        | ((with_reducible refine AWp.skip ?_); try simp [Try.underlying2, Try.underlying22, x0, ansV])
        | ((with_reducible refine AWp.exit ?_); try simp [Try.underlying2, Try.underlying22, x0, ansV])
        | ((refine AWp.cond rfl (fun _ => ?_) (fun hcf => absurd hcf ?hcd)); (case hcd => (simp [Try.underlying2, Try.underlying22, x0, ansV]; done)))
        | ((refine AWp.cond rfl (fun hcf => absurd hcf ?hcd) (fun _ => ?_)); (case hcd => (simp [Try.underlying2, Try.underlying22, x0, ansV]; done))))
      simp [oneR, ansV]
      all_goals (repeat (first | exact AS.le_refl _ | refine le_new (by simp [hid]) ?_))
  · cases w
    all_goals
      repeat (first
        | (with_reducible refine AWp.seq ?_)
        | (with_reducible refine AWp.block ?_)
        | (with_reducible refine And.intro (by first | omega | assumption | decide) ?_)
        | ((with_reducible refine AWp.region ?_); simp [Try.underlying2, Try.underlying22, x0, ansV])
        | ((refine aCall.gives (rnumber_ok _ _ _) ?_); simp [Try.underlying2, Try.underlying22, x0, ansV])
        | ((refine aCall.gives (rint_ok _ _) ?_); simp [Try.underlying2, Try.underlying22, x0, ansV])
        | ((with_reducible refine AWp.ret ?_); try simp [Try.underlying2, Try.underlying22, x0, ansV])
        | ((with_reducible refine AWp.skip ?_); try simp [Try.underlying2, Try.underlying22, x0, ansV])
        | ((with_reducible refine AWp.exit ?_); try simp [Try.underlying2, Try.underlying22, x0, ansV])
        | ((refine AWp.cond rfl (fun _ => ?_) (fun hcf => absurd hcf ?hcd)); (case hcd => (simp [Try.underlying2, Try.underlying22, x0, ansV]; done)))
        | ((refine AWp.cond rfl (fun hcf => absurd hcf ?hcd) (fun _ => ?_)); (case hcd => (simp [Try.underlying2, Try.underlying22, x0, ansV]; done))))
      simp [oneR, ansV]
      all_goals (repeat (first | exact AS.le_refl _ | refine le_new (by simp [hid]) ?_))
  · cases w
    · have ho : okR false (IntKind.i32.wrap x) = true := by simp [okR]; rw [w_i32]; omega
      repeat (first
        | (with_reducible refine AWp.seq ?_)
        | (with_reducible refine AWp.block ?_)
        | (with_reducible refine And.intro (by first | omega | assumption | decide) ?_)
        | ((with_reducible refine AWp.region ?_); simp [Try.underlying2, Try.underlying22, x0, ansV])
        | ((refine aCall.gives (rnumber_ok _ _ _) ?_); simp [Try.underlying2, Try.underlying22, x0, ansV])
        | ((refine aCall.gives (rint_ok _ _) ?_); simp [Try.underlying2, Try.underlying22, x0, ansV])
        | ((with_reducible refine AWp.ret ?_); try simp [Try.underlying2, Try.underlying22, x0, ansV])
        | ((with_reducible refine AWp.skip ?_); try simp [Try.underlying2, Try.underlying22, x0, ansV])
        | ((with_reducible refine AWp.exit ?_); try simp [Try.underlying2, Try.underlying22, x0, ansV])
        | ((refine AWp.cond rfl (fun _ => ?_) (fun hcf => absurd hcf ?hcd)); (case hcd => (simp [Try.underlying2, Try.underlying22, x0, ansV]; done)))
        | ((refine AWp.cond rfl (fun hcf => absurd hcf ?hcd) (fun _ => ?_)); (case hcd => (simp [Try.underlying2, Try.underlying22, x0, ansV]; done))))
      simp [oneR, ansV, chkX, chkF, ho]
      all_goals (repeat (first | exact AS.le_refl _ | refine le_new (by simp [hid]) ?_))
    · rcases hpp with ⟨hp, ho⟩ | ⟨hp, ho⟩
      all_goals
        simp only [pl_t, pl_f, ww4] at hp ho
        repeat (first
          | (with_reducible refine AWp.seq ?_)
          | (with_reducible refine AWp.block ?_)
          | (with_reducible refine And.intro (by first | omega | assumption | decide) ?_)
          | ((with_reducible refine AWp.region ?_); simp [Try.underlying2, Try.underlying22, x0, ansV, hp])
          | ((refine aCall.gives (rnumber_ok _ _ _) ?_); simp [Try.underlying2, Try.underlying22, x0, ansV, hp])
          | ((refine aCall.gives (rint_ok _ _) ?_); simp [Try.underlying2, Try.underlying22, x0, ansV, hp])
          | ((with_reducible refine AWp.ret ?_); try simp [Try.underlying2, Try.underlying22, x0, ansV, hp])
          | ((with_reducible refine AWp.skip ?_); try simp [Try.underlying2, Try.underlying22, x0, ansV, hp])
          | ((with_reducible refine AWp.exit ?_); try simp [Try.underlying2, Try.underlying22, x0, ansV, hp])
          | ((refine AWp.cond rfl (fun _ => ?_) (fun hcf => absurd hcf ?hcd)); (case hcd => (simp [Try.underlying2, Try.underlying22, x0, ansV, hp]; done)))
          | ((refine AWp.cond rfl (fun hcf => absurd hcf ?hcd) (fun _ => ?_)); (case hcd => (simp [Try.underlying2, Try.underlying22, x0, ansV, hp]; done))))
        simp [oneR, ansV, chkX, chkF, ho]
        all_goals (repeat (first | exact AS.le_refl _ | refine le_new (by simp [hid]) ?_))
  · cases w
    all_goals
      repeat (first
        | (with_reducible refine AWp.seq ?_)
        | (with_reducible refine AWp.block ?_)
        | (with_reducible refine And.intro (by first | omega | assumption | decide) ?_)
        | ((with_reducible refine AWp.region ?_); simp [Try.underlying2, Try.underlying22, x0, ansV, h1, h2, h3, h4, h5])
        | ((refine aCall.gives (rnumber_ok _ _ _) ?_); simp [Try.underlying2, Try.underlying22, x0, ansV, h1, h2, h3, h4, h5])
        | ((refine aCall.gives (rint_ok _ _) ?_); simp [Try.underlying2, Try.underlying22, x0, ansV, h1, h2, h3, h4, h5])
        | ((with_reducible refine AWp.ret ?_); try simp [Try.underlying2, Try.underlying22, x0, ansV, h1, h2, h3, h4, h5])
        | ((with_reducible refine AWp.skip ?_); try simp [Try.underlying2, Try.underlying22, x0, ansV, h1, h2, h3, h4, h5])
        | ((with_reducible refine AWp.exit ?_); try simp [Try.underlying2, Try.underlying22, x0, ansV, h1, h2, h3, h4, h5])
        | ((refine AWp.cond rfl (fun _ => ?_) (fun hcf => absurd hcf ?hcd)); (case hcd => (simp [Try.underlying2, Try.underlying22, x0, ansV, h1, h2, h3, h4, h5]; done)))
        | ((refine AWp.cond rfl (fun hcf => absurd hcf ?hcd) (fun _ => ?_)); (case hcd => (simp [Try.underlying2, Try.underlying22, x0, ansV, h1, h2, h3, h4, h5]; done))))
      simp [oneR, ansV, h1, h2, h3, h4, h5]
      all_goals (repeat (first | exact AS.le_refl _ | refine le_new (by simp [hid]) ?_))

/-! ## Test -/

def testR (op x y : Int) : Bool :=
  let a := IntKind.i64.wrap x
  let b := IntKind.i64.wrap y
  if op = 31 ∨ op = 37 then decide (a = b) else if op = 42 then !decide (a = b) else if op = 32 ∨ op = 39 then decide (b < a) else if op = 33 ∨ op = 41 then decide (a < b) else
  if op = 38 then decide (b ≤ a) else if op = 40 then decide (a ≤ b) else if op = 35 then !decide (a = 0) else if op = 36 then decide (a = 0) else false

theorem test_cases (op : Int) : op = 31 ∨ op = 37 ∨ op = 42 ∨ op = 32 ∨ op = 39 ∨ op = 33 ∨ op = 41 ∨ op = 38 ∨ op = 40 ∨ op = 35 ∨ op = 36 ∨
  (¬ op = 31 ∧ ¬ op = 37 ∧ ¬ op = 42 ∧ ¬ op = 32 ∧ ¬ op = 39 ∧ ¬ op = 33 ∧ ¬ op = 41 ∧ ¬ op = 38 ∧ ¬ op = 40 ∧ ¬ op = 35 ∧ ¬ op = 36) := by omega

theorem test_ok (op x y : Int) (σ : AS) : ACalls Try.prog 13 [.sc (.int .i64 op), .sc (.int .u64 x), .sc (.int .u64 y)] σ (Gives (.sc (.bool (testR op x y))) σ) No := by
  refine ACalls.of_body Try.func13 rfl rfl (by simp [Try.ntmps13]) ?_
  rcases test_cases op with rfl | rfl | rfl | rfl | rfl | rfl | rfl | rfl | rfl | rfl | rfl | ⟨h1, h2, h3, h4, h5, h6, h7, h8, h9, h10, h11⟩
  rotate_right
  · repeat (first
      | (with_reducible refine AWp.seq ?_)
      | (with_reducible refine AWp.block ?_)
      | (with_reducible refine And.intro (by first | omega | assumption | decide) ?_)
      | ((with_reducible refine AWp.region ?_); simp [Try.underlying2, Try.underlying22, h1, h2, h3, h4, h5, h6, h7, h8, h9, h10, h11])
      | ((with_reducible refine AWp.ret ?_); try simp [Try.underlying2, Try.underlying22, h1, h2, h3, h4, h5, h6, h7, h8, h9, h10, h11])
      | ((with_reducible refine AWp.skip ?_); try simp [Try.underlying2, Try.underlying22, h1, h2, h3, h4, h5, h6, h7, h8, h9, h10, h11])
      | ((with_reducible refine AWp.exit ?_); try simp [Try.underlying2, Try.underlying22, h1, h2, h3, h4, h5, h6, h7, h8, h9, h10, h11])
      | ((refine AWp.cond rfl (fun _ => ?_) (fun hcf => absurd hcf ?hcd)); (case hcd => (simp [Try.underlying2, Try.underlying22, h1, h2, h3, h4, h5, h6, h7, h8, h9, h10, h11]; done)))
      | ((refine AWp.cond rfl (fun hcf => absurd hcf ?hcd) (fun _ => ?_)); (case hcd => (simp [Try.underlying2, Try.underlying22, h1, h2, h3, h4, h5, h6, h7, h8, h9, h10, h11]; done))))
    try simp [testR, h1, h2, h3, h4, h5, h6, h7, h8, h9, h10, h11]
  all_goals
    repeat (first
      | (with_reducible refine AWp.seq ?_)
      | (with_reducible refine AWp.block ?_)
      | (with_reducible refine And.intro (by first | omega | assumption | decide) ?_)
      | ((with_reducible refine AWp.region ?_); simp [Try.underlying2, Try.underlying22])
      | ((with_reducible refine AWp.ret ?_); try simp [Try.underlying2, Try.underlying22])
      | ((with_reducible refine AWp.skip ?_); try simp [Try.underlying2, Try.underlying22])
      | ((with_reducible refine AWp.exit ?_); try simp [Try.underlying2, Try.underlying22])
      | ((refine AWp.cond rfl (fun _ => ?_) (fun hcf => absurd hcf ?hcd)); (case hcd => (simp [Try.underlying2, Try.underlying22]; done)))
      | ((refine AWp.cond rfl (fun hcf => absurd hcf ?hcd) (fun _ => ?_)); (case hcd => (simp [Try.underlying2, Try.underlying22]; done))))
    try simp [testR]

theorem i64_eq (x y : Int) (hx : U64 x) (hy : U64 y) : (IntKind.i64.wrap x = IntKind.i64.wrap y) ↔ x = y := by
  unfold U64 at *; rw [w_i64, w_i64]; omega
theorem i64_eq0 (x : Int) (hx : U64 x) : (IntKind.i64.wrap x = 0) ↔ x = 0 := by
  unfold U64 at *; rw [w_i64]; omega

theorem rtest_ok (op x y : Int) (hx : U64 x) (hy : U64 y) (σ : AS) : ACalls Try.prog 16 [.sc (.int .i64 op), .sc (.int .u64 x), .sc (.int .u64 y)] σ (Gives (.sc (.bool (testR op x y))) σ) No := by
  have e1 := i64_eq x y hx hy
  have e2 := i64_eq0 x hx
  have n1 : ∀ a b : Int, (!decide (a < b)) = decide (b ≤ a) := fun a b => by rw [← decide_not]; congr 1; simp
  refine ACalls.of_body Try.func16 rfl rfl (by simp [Try.ntmps16]) ?_
  rcases test_cases op with rfl | rfl | rfl | rfl | rfl | rfl | rfl | rfl | rfl | rfl | rfl | ⟨h1, h2, h3, h4, h5, h6, h7, h8, h9, h10, h11⟩
  rotate_right
  · repeat (first
      | (with_reducible refine AWp.seq ?_)
      | (with_reducible refine AWp.block ?_)
      | (with_reducible refine And.intro (by first | omega | assumption | decide) ?_)
      | ((with_reducible refine AWp.region ?_); simp [Try.underlying2, Try.underlying22, h1, h2, h3, h4, h5, h6, h7, h8, h9, h10, h11])
      | ((with_reducible refine AWp.ret ?_); try simp [Try.underlying2, Try.underlying22, h1, h2, h3, h4, h5, h6, h7, h8, h9, h10, h11])
      | ((with_reducible refine AWp.skip ?_); try simp [Try.underlying2, Try.underlying22, h1, h2, h3, h4, h5, h6, h7, h8, h9, h10, h11])
      | ((with_reducible refine AWp.exit ?_); try simp [Try.underlying2, Try.underlying22, h1, h2, h3, h4, h5, h6, h7, h8, h9, h10, h11])
      | ((refine AWp.cond rfl (fun _ => ?_) (fun hcf => absurd hcf ?hcd)); (case hcd => (simp [Try.underlying2, Try.underlying22, h1, h2, h3, h4, h5, h6, h7, h8, h9, h10, h11]; done)))
      | ((refine AWp.cond rfl (fun hcf => absurd hcf ?hcd) (fun _ => ?_)); (case hcd => (simp [Try.underlying2, Try.underlying22, h1, h2, h3, h4, h5, h6, h7, h8, h9, h10, h11]; done))))
    try simp [testR, h1, h2, h3, h4, h5, h6, h7, h8, h9, h10, h11]
  all_goals
    repeat (first
      | (with_reducible refine AWp.seq ?_)
      | (with_reducible refine AWp.block ?_)
      | (with_reducible refine And.intro (by first | omega | assumption | decide) ?_)
      | ((with_reducible refine AWp.region ?_); simp [Try.underlying2, Try.underlying22])
      | ((with_reducible refine AWp.ret ?_); try simp [Try.underlying2, Try.underlying22])
      | ((with_reducible refine AWp.skip ?_); try simp [Try.underlying2, Try.underlying22])
      | ((with_reducible refine AWp.exit ?_); try simp [Try.underlying2, Try.underlying22])
      | ((refine AWp.cond rfl (fun _ => ?_) (fun hcf => absurd hcf ?hcd)); (case hcd => (simp [Try.underlying2, Try.underlying22]; done)))
      | ((refine AWp.cond rfl (fun hcf => absurd hcf ?hcd) (fun _ => ?_)); (case hcd => (simp [Try.underlying2, Try.underlying22]; done))))
    try simp [testR, e1, e2, n1]

theorem wakes_ok (σ : AS) : ACalls Try.prog 8 [] σ (Gives (.sc (.bool true)) σ) No := by
  refine ACalls.of_body Try.func8 rfl rfl (by simp [Try.ntmps8]) ?_
  have t1 : twoR 13 false 2147483647 1 = (18446744071562067968, 0) := by decide
  have t2 : twoR 25 false 2147483647 1 = (0, 4) := by decide
  have t3 : wr false (-2147483648) = 18446744071562067968 := by decide
  have t4 : testR 33 18446744071562067968 0 = true := by decide
  repeat (first
    | (with_reducible refine AWp.seq ?_)
    | (with_reducible refine AWp.block ?_)
    | (with_reducible refine And.intro (by first | omega | assumption | decide) ?_)
    | ((with_reducible refine AWp.region ?_); simp [t1, t2, t3, t4])
    | ((refine aCall.gives (two_ok _ _ _ _ _) ?_); simp [t1, t2, t3, t4])
    | ((refine aCall.gives (int_ok _ _) ?_); simp [t1, t2, t3, t4])
    | ((refine aCall.gives (test_ok _ _ _ _) ?_); simp [t1, t2, t3, t4])
    | ((with_reducible refine AWp.ret ?_); try simp [t1, t2, t3, t4])
    | ((with_reducible refine AWp.skip ?_); try simp [t1, t2, t3, t4])
    | ((with_reducible refine AWp.exit ?_); try simp [t1, t2, t3, t4])
    | ((refine AWp.cond rfl (fun _ => ?_) (fun hcf => absurd hcf ?hcd)); (case hcd => (simp [t1, t2, t3, t4]; done)))
    | ((refine AWp.cond rfl (fun hcf => absurd hcf ?hcd) (fun _ => ?_)); (case hcd => (simp [t1, t2, t3, t4]; done))))

theorem own : ownKnob Try.prog.godebug = none := by kernel_rfl
theorem laidOut : laidOutB Try.prog = true := by kernel_rfl

end Go.Proofs.Ythkcblpdgjnkdaa
