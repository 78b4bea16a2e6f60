/- Package num and its reference: Two, One, Test answer alike. -/
import Derived.Test.YthkcblpdgjnkdaaNum3
set_option linter.unusedSimpArgs false
set_option linter.unusedVariables false
set_option maxRecDepth 100000
set_option maxHeartbeats 3200000
namespace Go.Proofs.Ythkcblpdgjnkdaa
open Go Go.AW

theorem bAnd_u (a b : Int) : bAnd 64 (IntKind.u64.wrap a) (IntKind.u64.wrap b) = bAnd 64 a b := by simp [bAnd, ofI_uwrap]
theorem bOr_u (a b : Int) : bOr 64 (IntKind.u64.wrap a) (IntKind.u64.wrap b) = bOr 64 a b := by simp [bOr, ofI_uwrap]
theorem bXor_u (a b : Int) : bXor 64 (IntKind.u64.wrap a) (IntKind.u64.wrap b) = bXor 64 a b := by simp [bXor, ofI_uwrap]

theorem bAnd_i (a b : Int) : bAnd 64 (IntKind.i64.wrap a) (IntKind.i64.wrap b) = bAnd 64 a b := by simp [bAnd, ofI_wrap]
theorem bOr_i (a b : Int) : bOr 64 (IntKind.i64.wrap a) (IntKind.i64.wrap b) = bOr 64 a b := by simp [bOr, ofI_wrap]
theorem bXor_i (a b : Int) : bXor 64 (IntKind.i64.wrap a) (IntKind.i64.wrap b) = bXor 64 a b := by simp [bXor, ofI_wrap]

/-- What two words come to. -/
def twoR (op : Int) (w : Bool) (x y : Int) : Int × Int :=
  let a := pl w x
  let b := pl w y
  if op = 13 then (wr w (a + b), 0) else if op = 14 then (wr w (a - b), 0) else if op = 15 then (wr w (a * b), 0) else
  if op = 25 then (chkX w (a + b), chkF w (a + b)) else if op = 26 then (chkX w (a - b), chkF w (a - b)) else if op = 27 then (chkX w (a * b), chkF w (a * b)) else
  if op = 16 then (divX w a b, divF w a b) else if op = 17 then (remX a b, remF a b) else
  if op = 18 then (IntKind.u64.wrap (bAnd 64 a b), 0) else if op = 19 then (IntKind.u64.wrap (bOr 64 a b), 0) else if op = 20 then (IntKind.u64.wrap (bXor 64 a b), 0) else
  if op = 21 then (wr w (a * 2 ^ cntN w y), 0) else if op = 22 then (IntKind.u64.wrap (a / 2 ^ cntN w y), 0) else (0, 0)

def opCases (op : Int) : Prop := op = 13 ∨ op = 14 ∨ op = 15 ∨ op = 25 ∨ op = 26 ∨ op = 27 ∨ op = 16 ∨ op = 17 ∨ op = 18 ∨ op = 19 ∨ op = 20 ∨ op = 21 ∨ op = 22 ∨
  (¬ op = 13 ∧ ¬ op = 14 ∧ ¬ op = 15 ∧ ¬ op = 25 ∧ ¬ op = 26 ∧ ¬ op = 27 ∧ ¬ op = 16 ∧ ¬ op = 17 ∧ ¬ op = 18 ∧ ¬ op = 19 ∧ ¬ op = 20 ∧ ¬ op = 21 ∧ ¬ op = 22)
theorem op_cases (op : Int) : opCases op := by unfold opCases; omega

theorem cnt_f (y : Int) : (cntN false y : Int) = y % 32 ∧ cntN false y < 64 := by simp [cntN]; omega
theorem cnt_t (y : Int) : (cntN true y : Int) = y % 64 ∧ cntN true y < 64 := by simp [cntN]; omega
theorem cnt_lt (w : Bool) (y : Int) : cntN w y < 64 := by cases w <;> simp [cntN] <;> omega

theorem two_ok (op : Int) (w : Bool) (x y : Int) (σ : AS) : ACalls Try.prog 9 [.sc (.int .i64 op), .sc (.bool w), .sc (.int .u64 x), .sc (.int .u64 y)] σ
    (Gives (.tup [.sc (.int .u64 (twoR op w x y).1), .sc (.int .i64 (twoR op w x y).2)]) σ) No := by
  have ra := pl_r w x
  have rb := pl_r w y
  have ga : IntKind.i64.wrap (pl w x) = pl w x := i_pl w x
  have hc : w = true ∨ w = false := by cases w <;> simp
  -- the count of a shift
  have k1 : ∀ v : Int, IntKind.u64.wrap (bAnd 64 (IntKind.u64.wrap v) 31) = v % 32 := fun v => by
    have h := u64_u64 v
    have := and_mask (w := 64) (a := IntKind.u64.wrap v) 5 h.1 (by have := h.2; omega) (by omega)
    have e : bAnd 64 (IntKind.u64.wrap v) 31 = IntKind.u64.wrap v % 32 := by simpa using this
    rw [e, w_u64, w_u64]; omega
  have k2 : ∀ v : Int, IntKind.u64.wrap (bAnd 64 (IntKind.u64.wrap v) 63) = v % 64 := fun v => by
    have h := u64_u64 v
    have := and_mask (w := 64) (a := IntKind.u64.wrap v) 6 h.1 (by have := h.2; omega) (by omega)
    have e : bAnd 64 (IntKind.u64.wrap v) 63 = IntKind.u64.wrap v % 64 := by simpa using this
    rw [e, w_u64, w_u64]; omega
  have m1 : IntKind.i32.wrap y % 32 = y % 32 := by rw [w_i32]; omega
  have m2 : IntKind.i64.wrap y % 64 = y % 64 := by rw [w_i64]; omega
  have mf : min (y % 32).toNat 64 = (y % 32).toNat := by omega
  have mt : min (y % 64).toNat 64 = (y % 64).toNat := by omega
  have n0 : ∀ n : Nat, (0 : Int) ≤ n := fun n => by omega
  refine ACalls.of_body Try.func9 rfl rfl (by simp [Try.ntmps9]) ?_
  rcases hc with rfl | rfl
  · rcases op_cases op with rfl | rfl | rfl | rfl | rfl | rfl | rfl | rfl | rfl | rfl | rfl | rfl | rfl | ⟨h1, h2, h3, h4, h5, h6, h7, h8, h9, h10, h11, h12, h13⟩
    rotate_right
    · repeat (first
        | (with_reducible refine AWp.seq ?_)
        | (with_reducible refine AWp.block ?_)
        | (with_reducible refine And.intro (by first | omega | assumption | decide) ?_)
        | ((with_reducible refine AWp.region ?_); simp [Try.underlying2, Try.underlying22, Try.underlying42, k1, k2, m2, h1, h2, h3, h4, h5, h6, h7, h8, h9, h10, h11, h12, h13])
        | ((refine aCall.gives (plain_ok _ _ _) ?_); simp [Try.underlying2, Try.underlying22, Try.underlying42, k1, k2, m2, h1, h2, h3, h4, h5, h6, h7, h8, h9, h10, h11, h12, h13])
        | ((with_reducible refine AWp.ret ?_); try simp [Try.underlying2, Try.underlying22, Try.underlying42, k1, k2, m2, h1, h2, h3, h4, h5, h6, h7, h8, h9, h10, h11, h12, h13])
        | ((with_reducible refine AWp.skip ?_); try simp [Try.underlying2, Try.underlying22, Try.underlying42, k1, k2, m2, h1, h2, h3, h4, h5, h6, h7, h8, h9, h10, h11, h12, h13])
        | ((with_reducible refine AWp.exit ?_); try simp [Try.underlying2, Try.underlying22, Try.underlying42, k1, k2, m2, h1, h2, h3, h4, h5, h6, h7, h8, h9, h10, h11, h12, h13])
        | ((refine AWp.cond rfl (fun _ => ?_) (fun hcf => absurd hcf ?hcd)); (case hcd => (simp [Try.underlying2, Try.underlying22, Try.underlying42, k1, k2, m2, h1, h2, h3, h4, h5, h6, h7, h8, h9, h10, h11, h12, h13]; done)))
        | ((refine AWp.cond rfl (fun hcf => absurd hcf ?hcd) (fun _ => ?_)); (case hcd => (simp [Try.underlying2, Try.underlying22, Try.underlying42, k1, k2, m2, h1, h2, h3, h4, h5, h6, h7, h8, h9, h10, h11, h12, h13]; done))))
      simp [twoR, h1, h2, h3, h4, h5, h6, h7, h8, h9, h10, h11, h12, h13]
    all_goals
      repeat (first
        | (with_reducible refine AWp.seq ?_)
        | (with_reducible refine AWp.block ?_)
        | (with_reducible refine And.intro (by first | omega | assumption | decide) ?_)
        | ((with_reducible refine AWp.region ?_); simp [Try.underlying2, Try.underlying22, Try.underlying42, k1, k2, m2, mt, n0])
        | ((refine aCall.gives (plain_ok _ _ _) ?_); simp [Try.underlying2, Try.underlying22, Try.underlying42, k1, k2, m2, mt, n0])
        | ((refine aCall.gives (wrapped_ok _ _ _) ?_); simp [Try.underlying2, Try.underlying22, Try.underlying42, k1, k2, m2, mt, n0])
        | ((refine aCall.gives (added_ok _ _ ra rb _) ?_); simp [Try.underlying2, Try.underlying22, Try.underlying42, k1, k2, m2, mt, n0])
        | ((refine aCall.gives (taken_ok _ _ ra rb _) ?_); simp [Try.underlying2, Try.underlying22, Try.underlying42, k1, k2, m2, mt, n0])
        | ((refine aCall.gives (times_ok _ _ ra rb _) ?_); simp [Try.underlying2, Try.underlying22, Try.underlying42, k1, k2, m2, mt, n0])
        | ((refine aCall.gives (checked_ok _ _ _) ?_); simp [Try.underlying2, Try.underlying22, Try.underlying42, k1, k2, m2, mt, n0])
        | ((refine aCall.gives (divided_ok _ _ _ ra rb _) ?_); simp [Try.underlying2, Try.underlying22, Try.underlying42, k1, k2, m2, mt, n0])
        | ((refine aCall.gives (left_ok _ _ _) ?_); simp [Try.underlying2, Try.underlying22, Try.underlying42, k1, k2, m2, mt, n0])
        | ((with_reducible refine AWp.ret ?_); try simp [Try.underlying2, Try.underlying22, Try.underlying42, k1, k2, m2, mt, n0])
        | ((with_reducible refine AWp.skip ?_); try simp [Try.underlying2, Try.underlying22, Try.underlying42, k1, k2, m2, mt, n0])
        | ((with_reducible refine AWp.exit ?_); try simp [Try.underlying2, Try.underlying22, Try.underlying42, k1, k2, m2, mt, n0])
        | ((refine AWp.cond rfl (fun _ => ?_) (fun hcf => absurd hcf ?hcd)); (case hcd => (simp [Try.underlying2, Try.underlying22, Try.underlying42, k1, k2, m2, mt, n0]; done)))
        | ((refine AWp.cond rfl (fun hcf => absurd hcf ?hcd) (fun _ => ?_)); (case hcd => (simp [Try.underlying2, Try.underlying22, Try.underlying42, k1, k2, m2, mt, n0]; done))))
      try simp [twoR, cntN, mf, mt]
  · rcases op_cases op with rfl | rfl | rfl | rfl | rfl | rfl | rfl | rfl | rfl | rfl | rfl | rfl | rfl | ⟨h1, h2, h3, h4, h5, h6, h7, h8, h9, h10, h11, h12, h13⟩
    rotate_right
    · repeat (first
        | (with_reducible refine AWp.seq ?_)
        | (with_reducible refine AWp.block ?_)
        | (with_reducible refine And.intro (by first | omega | assumption | decide) ?_)
        | ((with_reducible refine AWp.region ?_); simp [Try.underlying2, Try.underlying22, Try.underlying42, k1, k2, m1, h1, h2, h3, h4, h5, h6, h7, h8, h9, h10, h11, h12, h13])
        | ((refine aCall.gives (plain_ok _ _ _) ?_); simp [Try.underlying2, Try.underlying22, Try.underlying42, k1, k2, m1, h1, h2, h3, h4, h5, h6, h7, h8, h9, h10, h11, h12, h13])
        | ((with_reducible refine AWp.ret ?_); try simp [Try.underlying2, Try.underlying22, Try.underlying42, k1, k2, m1, h1, h2, h3, h4, h5, h6, h7, h8, h9, h10, h11, h12, h13])
        | ((with_reducible refine AWp.skip ?_); try simp [Try.underlying2, Try.underlying22, Try.underlying42, k1, k2, m1, h1, h2, h3, h4, h5, h6, h7, h8, h9, h10, h11, h12, h13])
        | ((with_reducible refine AWp.exit ?_); try simp [Try.underlying2, Try.underlying22, Try.underlying42, k1, k2, m1, h1, h2, h3, h4, h5, h6, h7, h8, h9, h10, h11, h12, h13])
        | ((refine AWp.cond rfl (fun _ => ?_) (fun hcf => absurd hcf ?hcd)); (case hcd => (simp [Try.underlying2, Try.underlying22, Try.underlying42, k1, k2, m1, h1, h2, h3, h4, h5, h6, h7, h8, h9, h10, h11, h12, h13]; done)))
        | ((refine AWp.cond rfl (fun hcf => absurd hcf ?hcd) (fun _ => ?_)); (case hcd => (simp [Try.underlying2, Try.underlying22, Try.underlying42, k1, k2, m1, h1, h2, h3, h4, h5, h6, h7, h8, h9, h10, h11, h12, h13]; done))))
      simp [twoR, h1, h2, h3, h4, h5, h6, h7, h8, h9, h10, h11, h12, h13]
    all_goals
      repeat (first
        | (with_reducible refine AWp.seq ?_)
        | (with_reducible refine AWp.block ?_)
        | (with_reducible refine And.intro (by first | omega | assumption | decide) ?_)
        | ((with_reducible refine AWp.region ?_); simp [Try.underlying2, Try.underlying22, Try.underlying42, k1, k2, m1, mf, n0])
        | ((refine aCall.gives (plain_ok _ _ _) ?_); simp [Try.underlying2, Try.underlying22, Try.underlying42, k1, k2, m1, mf, n0])
        | ((refine aCall.gives (wrapped_ok _ _ _) ?_); simp [Try.underlying2, Try.underlying22, Try.underlying42, k1, k2, m1, mf, n0])
        | ((refine aCall.gives (added_ok _ _ ra rb _) ?_); simp [Try.underlying2, Try.underlying22, Try.underlying42, k1, k2, m1, mf, n0])
        | ((refine aCall.gives (taken_ok _ _ ra rb _) ?_); simp [Try.underlying2, Try.underlying22, Try.underlying42, k1, k2, m1, mf, n0])
        | ((refine aCall.gives (times_ok _ _ ra rb _) ?_); simp [Try.underlying2, Try.underlying22, Try.underlying42, k1, k2, m1, mf, n0])
        | ((refine aCall.gives (checked_ok _ _ _) ?_); simp [Try.underlying2, Try.underlying22, Try.underlying42, k1, k2, m1, mf, n0])
        | ((refine aCall.gives (divided_ok _ _ _ ra rb _) ?_); simp [Try.underlying2, Try.underlying22, Try.underlying42, k1, k2, m1, mf, n0])
        | ((refine aCall.gives (left_ok _ _ _) ?_); simp [Try.underlying2, Try.underlying22, Try.underlying42, k1, k2, m1, mf, n0])
        | ((with_reducible refine AWp.ret ?_); try simp [Try.underlying2, Try.underlying22, Try.underlying42, k1, k2, m1, mf, n0])
        | ((with_reducible refine AWp.skip ?_); try simp [Try.underlying2, Try.underlying22, Try.underlying42, k1, k2, m1, mf, n0])
        | ((with_reducible refine AWp.exit ?_); try simp [Try.underlying2, Try.underlying22, Try.underlying42, k1, k2, m1, mf, n0])
        | ((refine AWp.cond rfl (fun _ => ?_) (fun hcf => absurd hcf ?hcd)); (case hcd => (simp [Try.underlying2, Try.underlying22, Try.underlying42, k1, k2, m1, mf, n0]; done)))
        | ((refine AWp.cond rfl (fun hcf => absurd hcf ?hcd) (fun _ => ?_)); (case hcd => (simp [Try.underlying2, Try.underlying22, Try.underlying42, k1, k2, m1, mf, n0]; done))))
      try simp [twoR, cntN, mf, mt]

theorem tdiv_in (a b : Int) (ha : R64 a) (hb : R64 b) (h0 : b ≠ 0) (h1 : b ≠ -1) : R64 (a.tdiv b) := by
  unfold R64 at *
  by_cases h2 : b = 1
  · subst h2; rw [Int.tdiv_one]; omega
  · have h2 : 2 ≤ b.natAbs := by omega
    have : (a.tdiv b).natAbs ≤ 9223372036854775808 / 2 := by
      rw [Int.natAbs_tdiv]
      exact Nat.le_trans (Nat.div_le_div_left h2 (by omega)) (Nat.div_le_div_right (by omega))
    omega

theorem rem_eq (a b : Int) (ha : R64 a) (hb : R64 b) (h0 : b ≠ 0) (h1 : b ≠ -1) : IntKind.i64.wrap (a - IntKind.i64.wrap (IntKind.i64.wrap (a.tdiv b) * b)) = a.tmod b := by
  have hq := tdiv_in a b ha hb h0 h1
  have hd := Int.tmod_add_mul_tdiv a b
  have hlt : (a.tmod b).natAbs < b.natAbs := by rw [Int.natAbs_tmod]; exact Nat.mod_lt _ (by omega)
  unfold R64 at *
  rw [in_i64 hq.1 hq.2]
  rw [Int.mul_comm] at hd
  generalize a.tdiv b * b = p at *
  generalize a.tmod b = t at *
  rw [w_i64, w_i64]
  omega

theorem rtwo_ok (op : Int) (w : Bool) (x y : Int) (hy : U64 y) (σ : AS) : ACalls Try.prog 10 [.sc (.int .i64 op), .sc (.bool w), .sc (.int .u64 x), .sc (.int .u64 y)] σ
    (Gives (ansV (twoR op w x y)) σ) No := by
  have ra := pl_r w x
  have rb := pl_r w y
  have k1 : y.tmod 32 = y % 32 := Int.tmod_eq_emod_of_nonneg hy.1
  have k2 : y.tmod 64 = y % 64 := Int.tmod_eq_emod_of_nonneg hy.1
  have j1 : IntKind.i64.wrap (y % 32) = ((cntN false y : Nat) : Int) := by rw [(cnt_f y).1]; exact in_i64 (by omega) (by omega)
  have j2 : IntKind.i64.wrap (y % 64) = ((cntN true y : Nat) : Int) := by rw [(cnt_t y).1]; exact in_i64 (by omega) (by omega)
  have q0 : R64 0 := by unfold R64; omega
  have sh1 : ∀ w (a : Int) n, IntKind.u64.wrap (pl w (a * 2 ^ n)) = wr w (a * 2 ^ n) := fun _ _ _ => rfl
  have x0 : ∀ a : Int, 0 - a = -a := fun a => by omega
  refine ACalls.of_body Try.func10 rfl rfl (by simp [Try.ntmps10]) ?_
  repeat (first
    | (with_reducible refine AWp.seq ?_)
    | (with_reducible refine AWp.block ?_)
    | (with_reducible refine And.intro (by first | omega | assumption | decide) ?_)
    | ((with_reducible refine AWp.region ?_); simp)
    | ((with_reducible refine AWp.ret ?_); try simp)
    | ((with_reducible refine AWp.skip ?_); try simp)
    | ((with_reducible refine AWp.exit ?_); try simp)
    | ((refine AWp.cond rfl (fun _ => ?_) (fun hcf => absurd hcf ?hcd)); (case hcd => (simp; done)))
    | ((refine AWp.cond rfl (fun hcf => absurd hcf ?hcd) (fun _ => ?_)); (case hcd => (simp; done))))
  intro id hid
  by_cases h16 : op = 16
  · subst h16
    by_cases b0 : pl w y = 0
    · cases w
      all_goals
        simp at b0
        repeat (first
          | (with_reducible refine AWp.seq ?_)
          | (with_reducible refine AWp.block ?_)
          | (with_reducible refine And.intro (by first | omega | assumption | decide) ?_)
          | ((with_reducible refine AWp.region ?_); simp [Try.underlying2, Try.underlying3, Try.underlying22, k1, k2, j1, j2, b0])
          | ((refine aCall.gives (rnumber_ok _ _ _) ?_); simp [Try.underlying2, Try.underlying3, Try.underlying22, k1, k2, j1, j2, b0])
          | ((with_reducible refine AWp.ret ?_); try simp [Try.underlying2, Try.underlying3, Try.underlying22, k1, k2, j1, j2, b0])
          | ((with_reducible refine AWp.skip ?_); try simp [Try.underlying2, Try.underlying3, Try.underlying22, k1, k2, j1, j2, b0])
          | ((with_reducible refine AWp.exit ?_); try simp [Try.underlying2, Try.underlying3, Try.underlying22, k1, k2, j1, j2, b0])
          | ((refine AWp.cond rfl (fun _ => ?_) (fun hcf => absurd hcf ?hcd)); (case hcd => (simp [Try.underlying2, Try.underlying3, Try.underlying22, k1, k2, j1, j2, b0]; done)))
          | ((refine AWp.cond rfl (fun hcf => absurd hcf ?hcd) (fun _ => ?_)); (case hcd => (simp [Try.underlying2, Try.underlying3, Try.underlying22, k1, k2, j1, j2, b0]; done))))
        simp [twoR, ansV, b0, divX, divF]
        all_goals (repeat (first | exact AS.le_refl _ | refine le_new (by simp [hid]) ?_))
    · by_cases b1 : pl w y = -1
      · cases w
        all_goals
          simp at b1 b0
          repeat (first
            | (with_reducible refine AWp.seq ?_)
            | (with_reducible refine AWp.block ?_)
            | (with_reducible refine And.intro (by first | omega | assumption | decide) ?_)
            | ((with_reducible refine AWp.region ?_); simp [Try.underlying2, Try.underlying3, Try.underlying22, k1, k2, j1, j2, b1, b0, ansV, x0])
            | ((refine aCall.gives (rnumber_ok _ _ _) ?_); simp [Try.underlying2, Try.underlying3, Try.underlying22, k1, k2, j1, j2, b1, b0, ansV, x0])
            | ((refine aCall.gives (rsub_ok _ _ _ q0 ra _) ?_); simp [Try.underlying2, Try.underlying3, Try.underlying22, k1, k2, j1, j2, b1, b0, ansV, x0])
            | ((with_reducible refine AWp.ret ?_); try simp [Try.underlying2, Try.underlying3, Try.underlying22, k1, k2, j1, j2, b1, b0, ansV, x0])
            | ((with_reducible refine AWp.skip ?_); try simp [Try.underlying2, Try.underlying3, Try.underlying22, k1, k2, j1, j2, b1, b0, ansV, x0])
            | ((with_reducible refine AWp.exit ?_); try simp [Try.underlying2, Try.underlying3, Try.underlying22, k1, k2, j1, j2, b1, b0, ansV, x0])
            | ((refine AWp.cond rfl (fun _ => ?_) (fun hcf => absurd hcf ?hcd)); (case hcd => (simp [Try.underlying2, Try.underlying3, Try.underlying22, k1, k2, j1, j2, b1, b0, ansV, x0]; done)))
            | ((refine AWp.cond rfl (fun hcf => absurd hcf ?hcd) (fun _ => ?_)); (case hcd => (simp [Try.underlying2, Try.underlying3, Try.underlying22, k1, k2, j1, j2, b1, b0, ansV, x0]; done))))
          simp [twoR, ansV, b1, divX, divF]
          all_goals (repeat (first | exact AS.le_refl _ | refine le_new (by simp [hid]) ?_))
      · cases w
        all_goals
          simp at b1 b0
          repeat (first
            | (with_reducible refine AWp.seq ?_)
            | (with_reducible refine AWp.block ?_)
            | (with_reducible refine And.intro (by first | omega | assumption | decide) ?_)
            | ((with_reducible refine AWp.region ?_); simp [Try.underlying2, Try.underlying3, Try.underlying22, k1, k2, j1, j2, b1, b0, ansV])
            | ((refine aCall.gives (rnumber_ok _ _ _) ?_); simp [Try.underlying2, Try.underlying3, Try.underlying22, k1, k2, j1, j2, b1, b0, ansV])
            | ((with_reducible refine AWp.ret ?_); try simp [Try.underlying2, Try.underlying3, Try.underlying22, k1, k2, j1, j2, b1, b0, ansV])
            | ((with_reducible refine AWp.skip ?_); try simp [Try.underlying2, Try.underlying3, Try.underlying22, k1, k2, j1, j2, b1, b0, ansV])
            | ((with_reducible refine AWp.exit ?_); try simp [Try.underlying2, Try.underlying3, Try.underlying22, k1, k2, j1, j2, b1, b0, ansV])
            | ((refine AWp.cond rfl (fun _ => ?_) (fun hcf => absurd hcf ?hcd)); (case hcd => (simp [Try.underlying2, Try.underlying3, Try.underlying22, k1, k2, j1, j2, b1, b0, ansV]; done)))
            | ((refine AWp.cond rfl (fun hcf => absurd hcf ?hcd) (fun _ => ?_)); (case hcd => (simp [Try.underlying2, Try.underlying3, Try.underlying22, k1, k2, j1, j2, b1, b0, ansV]; done))))
          simp [twoR, ansV, b1, b0, divX, divF]
          all_goals (repeat (first | exact AS.le_refl _ | refine le_new (by simp [hid]) ?_))
  · by_cases h17 : op = 17
    · subst h17
      by_cases b0 : pl w y = 0
      · cases w
        all_goals
          simp at b0
          repeat (first
            | (with_reducible refine AWp.seq ?_)
            | (with_reducible refine AWp.block ?_)
            | (with_reducible refine And.intro (by first | omega | assumption | decide) ?_)
            | ((with_reducible refine AWp.region ?_); simp [Try.underlying2, Try.underlying3, Try.underlying22, k1, k2, j1, j2, b0])
            | ((refine aCall.gives (rnumber_ok _ _ _) ?_); simp [Try.underlying2, Try.underlying3, Try.underlying22, k1, k2, j1, j2, b0])
            | ((with_reducible refine AWp.ret ?_); try simp [Try.underlying2, Try.underlying3, Try.underlying22, k1, k2, j1, j2, b0])
            | ((with_reducible refine AWp.skip ?_); try simp [Try.underlying2, Try.underlying3, Try.underlying22, k1, k2, j1, j2, b0])
            | ((with_reducible refine AWp.exit ?_); try simp [Try.underlying2, Try.underlying3, Try.underlying22, k1, k2, j1, j2, b0])
            | ((refine AWp.cond rfl (fun _ => ?_) (fun hcf => absurd hcf ?hcd)); (case hcd => (simp [Try.underlying2, Try.underlying3, Try.underlying22, k1, k2, j1, j2, b0]; done)))
            | ((refine AWp.cond rfl (fun hcf => absurd hcf ?hcd) (fun _ => ?_)); (case hcd => (simp [Try.underlying2, Try.underlying3, Try.underlying22, k1, k2, j1, j2, b0]; done))))
          simp [twoR, ansV, b0, remX, remF]
          all_goals (repeat (first | exact AS.le_refl _ | refine le_new (by simp [hid]) ?_))
      · by_cases b1 : pl w y = -1
        · cases w
          all_goals
            simp at b1 b0
            repeat (first
              | (with_reducible refine AWp.seq ?_)
              | (with_reducible refine AWp.block ?_)
              | (with_reducible refine And.intro (by first | omega | assumption | decide) ?_)
              | ((with_reducible refine AWp.region ?_); simp [Try.underlying2, Try.underlying3, Try.underlying22, k1, k2, j1, j2, b1, b0, ansV])
              | ((refine aCall.gives (rnumber_ok _ _ _) ?_); simp [Try.underlying2, Try.underlying3, Try.underlying22, k1, k2, j1, j2, b1, b0, ansV])
              | ((with_reducible refine AWp.ret ?_); try simp [Try.underlying2, Try.underlying3, Try.underlying22, k1, k2, j1, j2, b1, b0, ansV])
              | ((with_reducible refine AWp.skip ?_); try simp [Try.underlying2, Try.underlying3, Try.underlying22, k1, k2, j1, j2, b1, b0, ansV])
              | ((with_reducible refine AWp.exit ?_); try simp [Try.underlying2, Try.underlying3, Try.underlying22, k1, k2, j1, j2, b1, b0, ansV])
              | ((refine AWp.cond rfl (fun _ => ?_) (fun hcf => absurd hcf ?hcd)); (case hcd => (simp [Try.underlying2, Try.underlying3, Try.underlying22, k1, k2, j1, j2, b1, b0, ansV]; done)))
              | ((refine AWp.cond rfl (fun hcf => absurd hcf ?hcd) (fun _ => ?_)); (case hcd => (simp [Try.underlying2, Try.underlying3, Try.underlying22, k1, k2, j1, j2, b1, b0, ansV]; done))))
            simp [twoR, ansV, b1, remX, remF]
            all_goals (repeat (first | exact AS.le_refl _ | refine le_new (by simp [hid]) ?_))
        · have hrem := rem_eq _ _ ra rb b0 b1
          cases w
          all_goals
            simp at b1 b0 hrem
            repeat (first
              | (with_reducible refine AWp.seq ?_)
              | (with_reducible refine AWp.block ?_)
              | (with_reducible refine And.intro (by first | omega | assumption | decide) ?_)
              | ((with_reducible refine AWp.region ?_); simp [Try.underlying2, Try.underlying3, Try.underlying22, k1, k2, j1, j2, b1, b0, ansV, hrem])
              | ((refine aCall.gives (rnumber_ok _ _ _) ?_); simp [Try.underlying2, Try.underlying3, Try.underlying22, k1, k2, j1, j2, b1, b0, ansV, hrem])
              | ((with_reducible refine AWp.ret ?_); try simp [Try.underlying2, Try.underlying3, Try.underlying22, k1, k2, j1, j2, b1, b0, ansV, hrem])
              | ((with_reducible refine AWp.skip ?_); try simp [Try.underlying2, Try.underlying3, Try.underlying22, k1, k2, j1, j2, b1, b0, ansV, hrem])
              | ((with_reducible refine AWp.exit ?_); try simp [Try.underlying2, Try.underlying3, Try.underlying22, k1, k2, j1, j2, b1, b0, ansV, hrem])
              | ((refine AWp.cond rfl (fun _ => ?_) (fun hcf => absurd hcf ?hcd)); (case hcd => (simp [Try.underlying2, Try.underlying3, Try.underlying22, k1, k2, j1, j2, b1, b0, ansV, hrem]; done)))
              | ((refine AWp.cond rfl (fun hcf => absurd hcf ?hcd) (fun _ => ?_)); (case hcd => (simp [Try.underlying2, Try.underlying3, Try.underlying22, k1, k2, j1, j2, b1, b0, ansV, hrem]; done))))
            simp [twoR, ansV, b1, b0, remX, remF]
            all_goals (repeat (first | exact AS.le_refl _ | refine le_new (by simp [hid]) ?_))
    · cases w
      all_goals
        rcases op_cases op with rfl | rfl | rfl | rfl | rfl | rfl | h16' | h17' | rfl | rfl | rfl | rfl | rfl | ⟨h1, h2, h3, h4, h5, h6, h7, h8, h9, h10, h11, h12, h13⟩
        rotate_right
        · repeat (first
            | (with_reducible refine AWp.seq ?_)
            | (with_reducible refine AWp.block ?_)
            | (with_reducible refine And.intro (by first | omega | assumption | decide) ?_)
            | ((with_reducible refine AWp.region ?_); simp [Try.underlying2, Try.underlying3, Try.underlying22, k1, k2, j1, j2, h1, h2, h3, h4, h5, h6, h7, h8, h9, h10, h11, h12, h13])
            | ((refine aCall.gives (rnumber_ok _ _ _) ?_); simp [Try.underlying2, Try.underlying3, Try.underlying22, k1, k2, j1, j2, h1, h2, h3, h4, h5, h6, h7, h8, h9, h10, h11, h12, h13])
            | ((with_reducible refine AWp.ret ?_); try simp [Try.underlying2, Try.underlying3, Try.underlying22, k1, k2, j1, j2, h1, h2, h3, h4, h5, h6, h7, h8, h9, h10, h11, h12, h13])
            | ((with_reducible refine AWp.skip ?_); try simp [Try.underlying2, Try.underlying3, Try.underlying22, k1, k2, j1, j2, h1, h2, h3, h4, h5, h6, h7, h8, h9, h10, h11, h12, h13])
            | ((with_reducible refine AWp.exit ?_); try simp [Try.underlying2, Try.underlying3, Try.underlying22, k1, k2, j1, j2, h1, h2, h3, h4, h5, h6, h7, h8, h9, h10, h11, h12, h13])
            | ((refine AWp.cond rfl (fun _ => ?_) (fun hcf => absurd hcf ?hcd)); (case hcd => (simp [Try.underlying2, Try.underlying3, Try.underlying22, k1, k2, j1, j2, h1, h2, h3, h4, h5, h6, h7, h8, h9, h10, h11, h12, h13]; done)))
            | ((refine AWp.cond rfl (fun hcf => absurd hcf ?hcd) (fun _ => ?_)); (case hcd => (simp [Try.underlying2, Try.underlying3, Try.underlying22, k1, k2, j1, j2, h1, h2, h3, h4, h5, h6, h7, h8, h9, h10, h11, h12, h13]; done))))
          simp [twoR, ansV, h1, h2, h3, h4, h5, h6, h7, h8, h9, h10, h11, h12, h13]
          all_goals (repeat (first | exact AS.le_refl _ | refine le_new (by simp [hid]) ?_))
        all_goals
          first | (exact absurd h16' h16) | (exact absurd h17' h17) | skip
          repeat (first
            | (with_reducible refine AWp.seq ?_)
            | (with_reducible refine AWp.block ?_)
            | (with_reducible refine And.intro (by first | omega | assumption | decide) ?_)
            | ((with_reducible refine AWp.region ?_); simp [Try.underlying2, Try.underlying3, Try.underlying22, k1, k2, j1, j2, ansV, shV])
            | ((refine aCall.gives (rnumber_ok _ _ _) ?_); simp [Try.underlying2, Try.underlying3, Try.underlying22, k1, k2, j1, j2, ansV, shV])
            | ((refine aCall.gives (rwrap_ok _ _ _) ?_); simp [Try.underlying2, Try.underlying3, Try.underlying22, k1, k2, j1, j2, ansV, shV])
            | ((refine aCall.gives (radd_ok _ _ _ ra rb _) ?_); simp [Try.underlying2, Try.underlying3, Try.underlying22, k1, k2, j1, j2, ansV, shV])
            | ((refine aCall.gives (rsub_ok _ _ _ ra rb _) ?_); simp [Try.underlying2, Try.underlying3, Try.underlying22, k1, k2, j1, j2, ansV, shV])
            | ((refine aCall.gives (rmul_ok _ _ _ ra rb _) ?_); simp [Try.underlying2, Try.underlying3, Try.underlying22, k1, k2, j1, j2, ansV, shV])
            | ((refine aCall.gives (shift_ok _ _ _ _ ra (by simp) (cnt_lt _ _) _) ?_); simp [Try.underlying2, Try.underlying3, Try.underlying22, k1, k2, j1, j2, ansV, shV])
            | ((with_reducible refine AWp.ret ?_); try simp [Try.underlying2, Try.underlying3, Try.underlying22, k1, k2, j1, j2, ansV, shV])
            | ((with_reducible refine AWp.skip ?_); try simp [Try.underlying2, Try.underlying3, Try.underlying22, k1, k2, j1, j2, ansV, shV])
            | ((with_reducible refine AWp.exit ?_); try simp [Try.underlying2, Try.underlying3, Try.underlying22, k1, k2, j1, j2, ansV, shV])
            | ((refine AWp.cond rfl (fun _ => ?_) (fun hcf => absurd hcf ?hcd)); (case hcd => (simp [Try.underlying2, Try.underlying3, Try.underlying22, k1, k2, j1, j2, ansV, shV]; done)))
            | ((refine AWp.cond rfl (fun hcf => absurd hcf ?hcd) (fun _ => ?_)); (case hcd => (simp [Try.underlying2, Try.underlying3, Try.underlying22, k1, k2, j1, j2, ansV, shV]; done))))
          try simp [twoR, ansV, bAnd_u, bOr_u, bXor_u, bAnd_i, bOr_i, bXor_i, wr]
          all_goals (repeat (first | exact AS.le_refl _ | refine le_new (by simp [hid]) ?_))

end Go.Proofs.Ythkcblpdgjnkdaa
