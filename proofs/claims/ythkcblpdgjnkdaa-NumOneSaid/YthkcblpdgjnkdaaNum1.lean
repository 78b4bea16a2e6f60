/- Package num and its reference: what the small functions compute. -/
import Derived.Test.YthkcblpdgjnkdaaFacts
set_option linter.unusedSimpArgs false
set_option linter.unusedVariables false
set_option maxRecDepth 100000
set_option maxHeartbeats 1600000
namespace Go.Proofs.Ythkcblpdgjnkdaa
open Go Go.AW

theorem mixed : Tables.follows Try.prog.toTables .mixedOrders = true := by kernel_rfl

def R64 (a : Int) : Prop := -9223372036854775808 ≤ a ∧ a < 9223372036854775808
def U64 (a : Int) : Prop := 0 ≤ a ∧ a < 18446744073709551616
def in64 (v : Int) : Bool := decide (-9223372036854775808 ≤ v ∧ v < 9223372036854775808)

@[simp] theorem ww1 (a : Int) : IntKind.i64.wrap (IntKind.i32.wrap a) = IntKind.i32.wrap a := by rw [w_i64, w_i32]; omega
@[simp] theorem ww2 (a : Int) : IntKind.u64.wrap (IntKind.i64.wrap a) = IntKind.u64.wrap a := by rw [w_i64, w_u64, w_u64]; omega
@[simp] theorem ww3 (a : Int) : IntKind.i64.wrap (IntKind.u64.wrap a) = IntKind.i64.wrap a := by rw [w_i64, w_u64, w_i64]; omega
@[simp] theorem ww4 (a : Int) : IntKind.i32.wrap (IntKind.i64.wrap a) = IntKind.i32.wrap a := by rw [w_i64, w_i32, w_i32]; omega
@[simp] theorem ww5 (a : Int) : IntKind.i32.wrap (IntKind.u64.wrap a) = IntKind.i32.wrap a := by rw [w_u64, w_i32, w_i32]; omega
@[simp] theorem ww6 (a : Int) : IntKind.i64.wrap (IntKind.i64.wrap a) = IntKind.i64.wrap a := by rw [w_i64, w_i64]; omega
@[simp] theorem ww7 (a : Int) : IntKind.u64.wrap (IntKind.u64.wrap a) = IntKind.u64.wrap a := by rw [w_u64, w_u64]; omega
@[simp] theorem ww8 (a : Int) : IntKind.i32.wrap (IntKind.i32.wrap a) = IntKind.i32.wrap a := by rw [w_i32, w_i32]; omega
theorem r64_i64 (a : Int) : R64 (IntKind.i64.wrap a) := by unfold R64; rw [w_i64]; omega
theorem u64_u64 (a : Int) : U64 (IntKind.u64.wrap a) := by unfold U64; rw [w_u64]; omega
theorem r64_i32 (a : Int) : R64 (IntKind.i32.wrap a) := by unfold R64; rw [w_i32]; omega

/-- A number as a word means it. -/
def pl (wide : Bool) (x : Int) : Int := if wide then IntKind.i64.wrap x else IntKind.i32.wrap x
/-- A number's word. -/
def wr (wide : Bool) (x : Int) : Int := IntKind.u64.wrap (pl wide x)
theorem pl_r (wide : Bool) (x : Int) : R64 (pl wide x) := by cases wide <;> simp [pl, r64_i64, r64_i32]
@[simp] theorem pl_t (x : Int) : pl true x = IntKind.i64.wrap x := rfl
@[simp] theorem pl_f (x : Int) : pl false x = IntKind.i32.wrap x := rfl
@[simp] theorem pl_u (w : Bool) (x : Int) : pl w (IntKind.u64.wrap x) = pl w x := by cases w <;> simp [pl]
@[simp] theorem pl_i (w : Bool) (x : Int) : pl w (IntKind.i64.wrap x) = pl w x := by cases w <;> simp [pl]
@[simp] theorem pl_pl (w : Bool) (x : Int) : pl w (pl w x) = pl w x := by cases w <;> simp [pl]
@[simp] theorem i_pl (w : Bool) (x : Int) : IntKind.i64.wrap (pl w x) = pl w x := by cases w <;> simp [pl]

theorem int_ok (x : Int) (σ : AS) : ACalls Try.prog 17 [.sc (.int .i64 x)] σ (Gives (.sc (.int .u64 (wr false x))) σ) No := by
  refine ACalls.of_body Try.func17 rfl rfl (by simp [Try.ntmps17]) ?_
  repeat (first
    | (with_reducible refine AWp.seq ?_)
    | (with_reducible refine AWp.block ?_)
    | (with_reducible refine And.intro (by first | omega | assumption | decide) ?_)
    | ((with_reducible refine AWp.region ?_); simp [Try.underlying2, Try.underlying21, Try.underlying22])
    | ((with_reducible refine AWp.ret ?_); try simp [Try.underlying2, Try.underlying21, Try.underlying22])
    | ((with_reducible refine AWp.skip ?_); try simp [Try.underlying2, Try.underlying21, Try.underlying22])
    | ((with_reducible refine AWp.exit ?_); try simp [Try.underlying2, Try.underlying21, Try.underlying22])
    | ((refine AWp.cond rfl (fun _ => ?_) (fun hcf => absurd hcf ?hcd)); (case hcd => (simp [Try.underlying2, Try.underlying21, Try.underlying22]; done)))
    | ((refine AWp.cond rfl (fun hcf => absurd hcf ?hcd) (fun _ => ?_)); (case hcd => (simp [Try.underlying2, Try.underlying21, Try.underlying22]; done))))
  simp [wr]

theorem plain_ok (w : Bool) (x : Int) (σ : AS) : ACalls Try.prog 19 [.sc (.bool w), .sc (.int .u64 x)] σ (Gives (.sc (.int .i64 (pl w x))) σ) No := by
  refine ACalls.of_body Try.func19 rfl rfl (by simp [Try.ntmps19]) ?_
  cases w
  all_goals
    repeat (first
      | (with_reducible refine AWp.seq ?_)
      | (with_reducible refine AWp.block ?_)
      | (with_reducible refine And.intro (by first | omega | assumption | decide) ?_)
      | ((with_reducible refine AWp.region ?_); simp [Try.underlying2, Try.underlying21, Try.underlying22])
      | ((with_reducible refine AWp.ret ?_); try simp [Try.underlying2, Try.underlying21, Try.underlying22])
      | ((with_reducible refine AWp.skip ?_); try simp [Try.underlying2, Try.underlying21, Try.underlying22])
      | ((with_reducible refine AWp.exit ?_); try simp [Try.underlying2, Try.underlying21, Try.underlying22])
      | ((refine AWp.cond rfl (fun _ => ?_) (fun hcf => absurd hcf ?hcd)); (case hcd => (simp [Try.underlying2, Try.underlying21, Try.underlying22]; done)))
      | ((refine AWp.cond rfl (fun hcf => absurd hcf ?hcd) (fun _ => ?_)); (case hcd => (simp [Try.underlying2, Try.underlying21, Try.underlying22]; done))))
    try simp [wr]

theorem wrapped_ok (w : Bool) (x : Int) (σ : AS) : ACalls Try.prog 20 [.sc (.bool w), .sc (.int .i64 x)] σ (Gives (.sc (.int .u64 (wr w x))) σ) No := by
  refine ACalls.of_body Try.func20 rfl rfl (by simp [Try.ntmps20]) ?_
  cases w
  all_goals
    repeat (first
      | (with_reducible refine AWp.seq ?_)
      | (with_reducible refine AWp.block ?_)
      | (with_reducible refine And.intro (by first | omega | assumption | decide) ?_)
      | ((with_reducible refine AWp.region ?_); simp [Try.underlying2, Try.underlying21, Try.underlying22])
      | ((refine aCall.gives (int_ok _ _) ?_); simp [Try.underlying2, Try.underlying21, Try.underlying22])
      | ((with_reducible refine AWp.ret ?_); try simp [Try.underlying2, Try.underlying21, Try.underlying22])
      | ((with_reducible refine AWp.skip ?_); try simp [Try.underlying2, Try.underlying21, Try.underlying22])
      | ((with_reducible refine AWp.exit ?_); try simp [Try.underlying2, Try.underlying21, Try.underlying22])
      | ((refine AWp.cond rfl (fun _ => ?_) (fun hcf => absurd hcf ?hcd)); (case hcd => (simp [Try.underlying2, Try.underlying21, Try.underlying22]; done)))
      | ((refine AWp.cond rfl (fun hcf => absurd hcf ?hcd) (fun _ => ?_)); (case hcd => (simp [Try.underlying2, Try.underlying21, Try.underlying22]; done))))
    try simp [wr]

theorem rint_ok (x : Int) (σ : AS) : ACalls Try.prog 18 [.sc (.int .i64 x)] σ (Gives (.sc (.int .u64 (wr false x))) σ) No := by
  have h0 := u64_u64 x
  have e1 : (IntKind.u64.wrap x).tmod 4294967296 = x % 4294967296 := by rw [Int.tmod_eq_emod_of_nonneg h0.1, w_u64]; omega
  refine ACalls.of_body Try.func18 rfl rfl (by simp [Try.ntmps18]) ?_
  by_cases h : 2147483648 ≤ x % 4294967296
  · repeat (first
      | (with_reducible refine AWp.seq ?_)
      | (with_reducible refine AWp.block ?_)
      | (with_reducible refine And.intro (by first | omega | assumption | decide) ?_)
      | ((with_reducible refine AWp.region ?_); simp [Try.underlying2, Try.underlying22, e1, h])
      | ((with_reducible refine AWp.ret ?_); try simp [Try.underlying2, Try.underlying22, e1, h])
      | ((with_reducible refine AWp.skip ?_); try simp [Try.underlying2, Try.underlying22, e1, h])
      | ((with_reducible refine AWp.exit ?_); try simp [Try.underlying2, Try.underlying22, e1, h])
      | ((refine AWp.cond rfl (fun _ => ?_) (fun hcf => absurd hcf ?hcd)); (case hcd => (simp [Try.underlying2, Try.underlying22, e1, h]; done)))
      | ((refine AWp.cond rfl (fun hcf => absurd hcf ?hcd) (fun _ => ?_)); (case hcd => (simp [Try.underlying2, Try.underlying22, e1, h]; done))))
    have : IntKind.u64.wrap (x % 4294967296 + 18446744069414584320) = wr false x := by rw [wr, pl_f, w_u64, w_u64, w_i32]; omega
    simp [this]
  · repeat (first
      | (with_reducible refine AWp.seq ?_)
      | (with_reducible refine AWp.block ?_)
      | (with_reducible refine And.intro (by first | omega | assumption | decide) ?_)
      | ((with_reducible refine AWp.region ?_); simp [Try.underlying2, Try.underlying22, e1, h])
      | ((with_reducible refine AWp.ret ?_); try simp [Try.underlying2, Try.underlying22, e1, h])
      | ((with_reducible refine AWp.skip ?_); try simp [Try.underlying2, Try.underlying22, e1, h])
      | ((with_reducible refine AWp.exit ?_); try simp [Try.underlying2, Try.underlying22, e1, h])
      | ((refine AWp.cond rfl (fun _ => ?_) (fun hcf => absurd hcf ?hcd)); (case hcd => (simp [Try.underlying2, Try.underlying22, e1, h]; done)))
      | ((refine AWp.cond rfl (fun hcf => absurd hcf ?hcd) (fun _ => ?_)); (case hcd => (simp [Try.underlying2, Try.underlying22, e1, h]; done))))
    have : x % 4294967296 = wr false x := by rw [wr, pl_f, w_u64, w_i32]; omega
    simp [this]

theorem rnumber_ok (w : Bool) (x : Int) (σ : AS) : ACalls Try.prog 12 [.sc (.bool w), .sc (.int .u64 x)] σ (Gives (.sc (.int .i64 (pl w x))) σ) No := by
  refine ACalls.of_body Try.func12 rfl rfl (by simp [Try.ntmps12]) ?_
  cases w
  all_goals
    repeat (first
      | (with_reducible refine AWp.seq ?_)
      | (with_reducible refine AWp.block ?_)
      | (with_reducible refine And.intro (by first | omega | assumption | decide) ?_)
      | ((with_reducible refine AWp.region ?_); simp [Try.underlying2, Try.underlying21, Try.underlying22])
      | ((refine aCall.gives (rint_ok _ _) ?_); simp [Try.underlying2, Try.underlying21, Try.underlying22])
      | ((with_reducible refine AWp.ret ?_); try simp [Try.underlying2, Try.underlying21, Try.underlying22])
      | ((with_reducible refine AWp.skip ?_); try simp [Try.underlying2, Try.underlying21, Try.underlying22])
      | ((with_reducible refine AWp.exit ?_); try simp [Try.underlying2, Try.underlying21, Try.underlying22])
      | ((refine AWp.cond rfl (fun _ => ?_) (fun hcf => absurd hcf ?hcd)); (case hcd => (simp [Try.underlying2, Try.underlying21, Try.underlying22]; done)))
      | ((refine AWp.cond rfl (fun hcf => absurd hcf ?hcd) (fun _ => ?_)); (case hcd => (simp [Try.underlying2, Try.underlying21, Try.underlying22]; done))))
    try simp [wr]

theorem rwrap_ok (w : Bool) (x : Int) (σ : AS) : ACalls Try.prog 11 [.sc (.bool w), .sc (.int .i64 x)] σ (Gives (.sc (.int .u64 (wr w x))) σ) No := by
  refine ACalls.of_body Try.func11 rfl rfl (by simp [Try.ntmps11]) ?_
  cases w
  all_goals
    repeat (first
      | (with_reducible refine AWp.seq ?_)
      | (with_reducible refine AWp.block ?_)
      | (with_reducible refine And.intro (by first | omega | assumption | decide) ?_)
      | ((with_reducible refine AWp.region ?_); simp [Try.underlying2, Try.underlying21, Try.underlying22])
      | ((refine aCall.gives (rint_ok _ _) ?_); simp [Try.underlying2, Try.underlying21, Try.underlying22])
      | ((with_reducible refine AWp.ret ?_); try simp [Try.underlying2, Try.underlying21, Try.underlying22])
      | ((with_reducible refine AWp.skip ?_); try simp [Try.underlying2, Try.underlying21, Try.underlying22])
      | ((with_reducible refine AWp.exit ?_); try simp [Try.underlying2, Try.underlying21, Try.underlying22])
      | ((refine AWp.cond rfl (fun _ => ?_) (fun hcf => absurd hcf ?hcd)); (case hcd => (simp [Try.underlying2, Try.underlying21, Try.underlying22]; done)))
      | ((refine AWp.cond rfl (fun hcf => absurd hcf ?hcd) (fun _ => ?_)); (case hcd => (simp [Try.underlying2, Try.underlying21, Try.underlying22]; done))))
    try simp [wr]

/-! ## checked -/

def okR (w : Bool) (v : Int) : Bool := if w then in64 v else decide (-2147483648 ≤ v ∧ v ≤ 2147483647)
def chkX (w : Bool) (v : Int) : Int := if okR w v then IntKind.u64.wrap v else 0
def chkF (w : Bool) (v : Int) : Int := if okR w v then 0 else 4

theorem checked_ok (w : Bool) (v : Int) (σ : AS) : ACalls Try.prog 22 [.sc (.bool w), .sc (.int .i64 (IntKind.i64.wrap v)), .sc (.bool (!in64 v))] σ
    (Gives (.tup [.sc (.int .u64 (chkX w v)), .sc (.int .i64 (chkF w v))]) σ) No := by
  refine ACalls.of_body Try.func22 rfl rfl (by simp [Try.ntmps22]) ?_
  cases hi : in64 v with
  | false =>
    have ho : okR w v = false := by
      cases w with
      | true => simpa [okR] using hi
      | false => simp [okR, in64] at hi ⊢; omega
    repeat (first
      | (with_reducible refine AWp.seq ?_)
      | (with_reducible refine AWp.block ?_)
      | (with_reducible refine And.intro (by first | omega | assumption | decide) ?_)
      | ((with_reducible refine AWp.region ?_); simp)
      | ((with_reducible refine AWp.ret ?_); try simp)
      | ((with_reducible refine AWp.skip ?_); try simp)
      | ((with_reducible refine AWp.exit ?_); try simp)
      | ((refine AWp.cond rfl (fun _ => ?_) (fun hcf => absurd hcf ?hcd)); (case hcd => (simp; done)))
      | ((refine AWp.cond rfl (fun hcf => absurd hcf ?hcd) (fun _ => ?_)); (case hcd => (simp; done))))
    simp [chkX, chkF, ho]
  | true =>
    have hr : IntKind.i64.wrap v = v := by simp [in64] at hi; exact in_i64 (by omega) (by omega)
    rw [hr]
    cases w with
    | true =>
      repeat (first
        | (with_reducible refine AWp.seq ?_)
        | (with_reducible refine AWp.block ?_)
        | (with_reducible refine And.intro (by first | omega | assumption | decide) ?_)
        | ((with_reducible refine AWp.region ?_); simp [Try.underlying2, Try.underlying22])
        | ((with_reducible refine AWp.ret ?_); try simp [Try.underlying2, Try.underlying22])
        | ((with_reducible refine AWp.skip ?_); try simp [Try.underlying2, Try.underlying22])
        | ((with_reducible refine AWp.exit ?_); try simp [Try.underlying2, Try.underlying22])
        | ((refine AWp.cond rfl (fun _ => ?_) (fun hcf => absurd hcf ?hcd)); (case hcd => (simp [Try.underlying2, Try.underlying22]; done)))
        | ((refine AWp.cond rfl (fun hcf => absurd hcf ?hcd) (fun _ => ?_)); (case hcd => (simp [Try.underlying2, Try.underlying22]; done))))
      simp [chkX, chkF, okR, hi]
    | false =>
      by_cases h1 : v < -2147483648
      · have ho : okR false v = false := by simp [okR]; omega
        repeat (first
          | (with_reducible refine AWp.seq ?_)
          | (with_reducible refine AWp.block ?_)
          | (with_reducible refine And.intro (by first | omega | assumption | decide) ?_)
          | ((with_reducible refine AWp.region ?_); simp [h1, Try.underlying2, Try.underlying22])
          | ((with_reducible refine AWp.ret ?_); try simp [h1, Try.underlying2, Try.underlying22])
          | ((with_reducible refine AWp.skip ?_); try simp [h1, Try.underlying2, Try.underlying22])
          | ((with_reducible refine AWp.exit ?_); try simp [h1, Try.underlying2, Try.underlying22])
          | ((refine AWp.cond rfl (fun _ => ?_) (fun hcf => absurd hcf ?hcd)); (case hcd => (simp [h1, Try.underlying2, Try.underlying22]; done)))
          | ((refine AWp.cond rfl (fun hcf => absurd hcf ?hcd) (fun _ => ?_)); (case hcd => (simp [h1, Try.underlying2, Try.underlying22]; done))))
        simp [chkX, chkF, ho]
      · by_cases h2 : 2147483647 < v
        · have ho : okR false v = false := by simp [okR]; omega
          repeat (first
            | (with_reducible refine AWp.seq ?_)
            | (with_reducible refine AWp.block ?_)
            | (with_reducible refine And.intro (by first | omega | assumption | decide) ?_)
            | ((with_reducible refine AWp.region ?_); simp [h1, h2, Try.underlying2, Try.underlying22])
            | ((with_reducible refine AWp.ret ?_); try simp [h1, h2, Try.underlying2, Try.underlying22])
            | ((with_reducible refine AWp.skip ?_); try simp [h1, h2, Try.underlying2, Try.underlying22])
            | ((with_reducible refine AWp.exit ?_); try simp [h1, h2, Try.underlying2, Try.underlying22])
            | ((refine AWp.cond rfl (fun _ => ?_) (fun hcf => absurd hcf ?hcd)); (case hcd => (simp [h1, h2, Try.underlying2, Try.underlying22]; done)))
            | ((refine AWp.cond rfl (fun hcf => absurd hcf ?hcd) (fun _ => ?_)); (case hcd => (simp [h1, h2, Try.underlying2, Try.underlying22]; done))))
          simp [chkX, chkF, ho]
        · have ho : okR false v = true := by simp [okR]; omega
          repeat (first
            | (with_reducible refine AWp.seq ?_)
            | (with_reducible refine AWp.block ?_)
            | (with_reducible refine And.intro (by first | omega | assumption | decide) ?_)
            | ((with_reducible refine AWp.region ?_); simp [h1, h2, Try.underlying2, Try.underlying22])
            | ((with_reducible refine AWp.ret ?_); try simp [h1, h2, Try.underlying2, Try.underlying22])
            | ((with_reducible refine AWp.skip ?_); try simp [h1, h2, Try.underlying2, Try.underlying22])
            | ((with_reducible refine AWp.exit ?_); try simp [h1, h2, Try.underlying2, Try.underlying22])
            | ((refine AWp.cond rfl (fun _ => ?_) (fun hcf => absurd hcf ?hcd)); (case hcd => (simp [h1, h2, Try.underlying2, Try.underlying22]; done)))
            | ((refine AWp.cond rfl (fun hcf => absurd hcf ?hcd) (fun _ => ?_)); (case hcd => (simp [h1, h2, Try.underlying2, Try.underlying22]; done))))
          simp [chkX, chkF, ho]

/-! ## signs of bits -/

theorem ofI_wrap (n : Int) : BitVec.ofInt 64 (IntKind.i64.wrap n) = BitVec.ofInt 64 n := by
  apply BitVec.eq_of_toNat_eq
  rw [BitVec.toNat_ofInt, BitVec.toNat_ofInt, w_i64]
  congr 1
  have : ((2 ^ 64 : Nat) : Int) = 18446744073709551616 := by decide
  rw [this]; omega
theorem ofI_uwrap (n : Int) : BitVec.ofInt 64 (IntKind.u64.wrap n) = BitVec.ofInt 64 n := by
  apply BitVec.eq_of_toNat_eq
  rw [BitVec.toNat_ofInt, BitVec.toNat_ofInt, w_u64]
  congr 1
  have : ((2 ^ 64 : Nat) : Int) = 18446744073709551616 := by decide
  rw [this]; omega

theorem neg_msb (n : Int) : (IntKind.i64.wrap n < 0) ↔ (BitVec.ofInt 64 n).msb = true := by
  rw [w_i64, BitVec.msb_eq_decide, BitVec.toNat_ofInt, decide_eq_true_eq]
  have : ((2 ^ 64 : Nat) : Int) = 18446744073709551616 := by decide
  have h2 : 2 ^ (64 - 1) = 9223372036854775808 := by decide
  rw [this, h2]; omega

theorem msb_r (a : Int) (h : R64 a) : (BitVec.ofInt 64 a).msb = decide (a < 0) := by
  have h1 := neg_msb a
  rw [in_i64 h.1 h.2] at h1
  cases hb : (BitVec.ofInt 64 a).msb with
  | true => exact (decide_eq_true (h1.2 hb)).symm
  | false => exact (decide_eq_false fun h => by rw [h1.1 h] at hb; cases hb).symm

theorem sgn_ax (a s b t : Int) (ha : R64 a) (hs : R64 s) (hb : R64 b) (ht : R64 t) :
    decide (IntKind.i64.wrap (bAnd 64 (IntKind.i64.wrap (bXor 64 a s)) (IntKind.i64.wrap (bXor 64 b t))) < 0) = ((decide (a < 0) ^^ decide (s < 0)) && (decide (b < 0) ^^ decide (t < 0))) := by
  have h := neg_msb (bAnd 64 (IntKind.i64.wrap (bXor 64 a s)) (IntKind.i64.wrap (bXor 64 b t)))
  rw [← msb_r a ha, ← msb_r s hs, ← msb_r b hb, ← msb_r t ht, ← BitVec.msb_xor, ← BitVec.msb_xor, ← BitVec.msb_and]
  rw [Bool.eq_iff_iff, decide_eq_true_eq, h]
  unfold bAnd bXor
  simp only [ofI_wrap, BitVec.ofInt_natCast, BitVec.ofNat_toNat, BitVec.setWidth_eq]

theorem added_ok (a b : Int) (ha : R64 a) (hb : R64 b) (σ : AS) : ACalls Try.prog 21 [.sc (.int .i64 a), .sc (.int .i64 b)] σ
    (Gives (.tup [.sc (.int .i64 (IntKind.i64.wrap (a + b))), .sc (.bool (!in64 (a + b)))]) σ) No := by
  have h := sgn_ax a (IntKind.i64.wrap (a + b)) b (IntKind.i64.wrap (a + b)) ha (r64_i64 _) hb (r64_i64 _)
  have e : ((decide (a < 0) ^^ decide (IntKind.i64.wrap (a + b) < 0)) && (decide (b < 0) ^^ decide (IntKind.i64.wrap (a + b) < 0))) = !in64 (a + b) := by
    unfold R64 at ha hb
    rw [w_i64, in64]
    cases hA : decide (a < 0) <;> cases hB : decide (b < 0) <;> cases hS : decide ((a + b + 9223372036854775808) % 18446744073709551616 - 9223372036854775808 < 0) <;> simp at hA hB hS ⊢ <;> omega
  rw [e] at h
  refine ACalls.of_body Try.func21 rfl rfl (by simp [Try.ntmps21]) ?_
  repeat (first
    | (with_reducible refine AWp.seq ?_)
    | (with_reducible refine AWp.block ?_)
    | (with_reducible refine And.intro (by first | omega | assumption | decide) ?_)
    | ((with_reducible refine AWp.region ?_); simp [h])
    | ((with_reducible refine AWp.ret ?_); try simp [h])
    | ((with_reducible refine AWp.skip ?_); try simp [h])
    | ((with_reducible refine AWp.exit ?_); try simp [h])
    | ((refine AWp.cond rfl (fun _ => ?_) (fun hcf => absurd hcf ?hcd)); (case hcd => (simp [h]; done)))
    | ((refine AWp.cond rfl (fun hcf => absurd hcf ?hcd) (fun _ => ?_)); (case hcd => (simp [h]; done))))

theorem taken_ok (a b : Int) (ha : R64 a) (hb : R64 b) (σ : AS) : ACalls Try.prog 23 [.sc (.int .i64 a), .sc (.int .i64 b)] σ
    (Gives (.tup [.sc (.int .i64 (IntKind.i64.wrap (a - b))), .sc (.bool (!in64 (a - b)))]) σ) No := by
  have h := sgn_ax a b a (IntKind.i64.wrap (a - b)) ha hb ha (r64_i64 _)
  have e : ((decide (a < 0) ^^ decide (b < 0)) && (decide (a < 0) ^^ decide (IntKind.i64.wrap (a - b) < 0))) = !in64 (a - b) := by
    unfold R64 at ha hb
    rw [w_i64, in64]
    cases hA : decide (a < 0) <;> cases hB : decide (b < 0) <;> cases hS : decide ((a - b + 9223372036854775808) % 18446744073709551616 - 9223372036854775808 < 0) <;> simp at hA hB hS ⊢ <;> omega
  rw [e] at h
  refine ACalls.of_body Try.func23 rfl rfl (by simp [Try.ntmps23]) ?_
  repeat (first
    | (with_reducible refine AWp.seq ?_)
    | (with_reducible refine AWp.block ?_)
    | (with_reducible refine And.intro (by first | omega | assumption | decide) ?_)
    | ((with_reducible refine AWp.region ?_); simp [h])
    | ((with_reducible refine AWp.ret ?_); try simp [h])
    | ((with_reducible refine AWp.skip ?_); try simp [h])
    | ((with_reducible refine AWp.exit ?_); try simp [h])
    | ((refine AWp.cond rfl (fun _ => ?_) (fun hcf => absurd hcf ?hcd)); (case hcd => (simp [h]; done)))
    | ((refine AWp.cond rfl (fun hcf => absurd hcf ?hcd) (fun _ => ?_)); (case hcd => (simp [h]; done))))

/-! ## products -/

theorem mul_r (a b : Int) (B C : Nat) (ha : a.natAbs ≤ B) (hb : b.natAbs ≤ C) : (a * b).natAbs ≤ B * C := by
  rw [Int.natAbs_mul]; exact Nat.mul_le_mul ha hb

theorem and32 (x : Int) (h : U64 x) : bAnd 64 x 4294967295 = x % 4294967296 := by
  have := and_mask (w := 64) (a := x) 32 h.1 (by have := h.2; omega) (by omega)
  simpa using this

theorem mul64_ok (x y : Int) (hx : U64 x) (hy : U64 y) (σ : AS) : ACalls Try.prog 31 [.sc (.int .u64 x), .sc (.int .u64 y)] σ
    (Gives (.tup [.sc (.int .u64 (x * y / 18446744073709551616)), .sc (.int .u64 (IntKind.u64.wrap (x * y)))]) σ) No := by
  refine ACalls.of_body Try.func31 rfl rfl (by simp [Try.ntmps31]) ?_
  have hx' := hx
  have hy' := hy
  unfold U64 at hx' hy'
  have a1 := and32 x hx
  have a2 := and32 y hy
  have e1 : IntKind.u64.wrap (x % 4294967296) = x % 4294967296 := in_u64 (by omega) (by omega)
  have e2 : IntKind.u64.wrap (y % 4294967296) = y % 4294967296 := in_u64 (by omega) (by omega)
  obtain ⟨x0, hx0⟩ : ∃ x0, x0 = x % 4294967296 := ⟨_, rfl⟩
  obtain ⟨x1, hx1⟩ : ∃ x1, x1 = x / 4294967296 := ⟨_, rfl⟩
  obtain ⟨y0, hy0⟩ : ∃ y0, y0 = y % 4294967296 := ⟨_, rfl⟩
  obtain ⟨y1, hy1⟩ : ∃ y1, y1 = y / 4294967296 := ⟨_, rfl⟩
  rw [← hx0] at a1 e1
  rw [← hy0] at a2 e2
  have b : ∀ u v : Int, 0 ≤ u → u < 4294967296 → 0 ≤ v → v < 4294967296 → 0 ≤ u * v ∧ u * v ≤ 18446744065119617025 := by
    intro u v h1 h2 h3 h4
    refine ⟨Int.mul_nonneg h1 h3, ?_⟩
    have := mul_r u v 4294967295 4294967295 (by omega) (by omega)
    omega
  have p00 := b x0 y0 (by omega) (by omega) (by omega) (by omega)
  have p10 := b x1 y0 (by omega) (by omega) (by omega) (by omega)
  have p01 := b x0 y1 (by omega) (by omega) (by omega) (by omega)
  have p11 := b x1 y1 (by omega) (by omega) (by omega) (by omega)
  have hxy : x * y = (x1 * y1) * 18446744073709551616 + (x1 * y0) * 4294967296 + (x0 * y1) * 4294967296 + x0 * y0 := by
    have hx2 : x = x1 * 4294967296 + x0 := by omega
    have hy2 : y = y1 * 4294967296 + y0 := by omega
    rw [hx2, hy2, Int.add_mul, Int.mul_add, Int.mul_add]
    have q1 : x1 * 4294967296 * (y1 * 4294967296) = (x1 * y1) * 18446744073709551616 := by rw [Int.mul_assoc, Int.mul_left_comm 4294967296 y1, ← Int.mul_assoc]; rfl
    have q2 : x1 * 4294967296 * y0 = (x1 * y0) * 4294967296 := by rw [Int.mul_assoc, Int.mul_comm 4294967296 y0, ← Int.mul_assoc]
    have q3 : x0 * (y1 * 4294967296) = (x0 * y1) * 4294967296 := by rw [← Int.mul_assoc]
    rw [q1, q2, q3]; omega
  have f1 : IntKind.u64.wrap (x0 * y0) = x0 * y0 := in_u64 (by omega) (by omega)
  have f2 : IntKind.u64.wrap (x1 * y0) = x1 * y0 := in_u64 (by omega) (by omega)
  have f3 : IntKind.u64.wrap (x0 * y1) = x0 * y1 := in_u64 (by omega) (by omega)
  have f4 : IntKind.u64.wrap (x1 * y1) = x1 * y1 := in_u64 (by omega) (by omega)
  have f5 : IntKind.u64.wrap (x1 * y0 + x0 * y0 / 4294967296) = x1 * y0 + x0 * y0 / 4294967296 := in_u64 (by omega) (by omega)
  have a3 := and32 (x1 * y0 + x0 * y0 / 4294967296) ⟨by omega, by omega⟩
  have f6 : IntKind.u64.wrap ((x1 * y0 + x0 * y0 / 4294967296) % 4294967296) = (x1 * y0 + x0 * y0 / 4294967296) % 4294967296 := in_u64 (by omega) (by omega)
  have f7 : IntKind.u64.wrap ((x1 * y0 + x0 * y0 / 4294967296) % 4294967296 + x0 * y1) = (x1 * y0 + x0 * y0 / 4294967296) % 4294967296 + x0 * y1 := in_u64 (by omega) (by omega)
  have f8 : IntKind.u64.wrap (x1 * y1 + (x1 * y0 + x0 * y0 / 4294967296) / 4294967296) = x1 * y1 + (x1 * y0 + x0 * y0 / 4294967296) / 4294967296 := in_u64 (by omega) (by omega)
  have f9 : IntKind.u64.wrap (x1 * y1 + (x1 * y0 + x0 * y0 / 4294967296) / 4294967296 + ((x1 * y0 + x0 * y0 / 4294967296) % 4294967296 + x0 * y1) / 4294967296) = x * y / 18446744073709551616 := by
    rw [hxy]
    generalize x1 * y1 = A at *
    generalize x1 * y0 = B at *
    generalize x0 * y1 = C at *
    generalize x0 * y0 = D at *
    rw [in_u64 (by omega) (by omega)]
    omega
  have hx1' : x / 4294967296 = x1 := hx1.symm
  have hy1' : y / 4294967296 = y1 := hy1.symm
  clear hxy p00 p10 p01 p11 b
  repeat (first
    | (with_reducible refine AWp.seq ?_)
    | (with_reducible refine AWp.block ?_)
    | (with_reducible refine And.intro (by first | omega | assumption | decide) ?_)
    | ((with_reducible refine AWp.region ?_); simp [a1, a2, a3, e1, e2, hx1', hy1', f1, f2, f3, f4, f5, f6, f7, f8, f9])
    | ((with_reducible refine AWp.ret ?_); try simp [a1, a2, a3, e1, e2, hx1', hy1', f1, f2, f3, f4, f5, f6, f7, f8, f9])
    | ((with_reducible refine AWp.skip ?_); try simp [a1, a2, a3, e1, e2, hx1', hy1', f1, f2, f3, f4, f5, f6, f7, f8, f9])
    | ((with_reducible refine AWp.exit ?_); try simp [a1, a2, a3, e1, e2, hx1', hy1', f1, f2, f3, f4, f5, f6, f7, f8, f9])
    | ((refine AWp.cond rfl (fun _ => ?_) (fun hcf => absurd hcf ?hcd)); (case hcd => (simp [a1, a2, a3, e1, e2, hx1', hy1', f1, f2, f3, f4, f5, f6, f7, f8, f9]; done)))
    | ((refine AWp.cond rfl (fun hcf => absurd hcf ?hcd) (fun _ => ?_)); (case hcd => (simp [a1, a2, a3, e1, e2, hx1', hy1', f1, f2, f3, f4, f5, f6, f7, f8, f9]; done))))

theorem times_ok (a b : Int) (ha : R64 a) (hb : R64 b) (σ : AS) : ACalls Try.prog 24 [.sc (.int .i64 a), .sc (.int .i64 b)] σ
    (Gives (.tup [.sc (.int .i64 (IntKind.i64.wrap (a * b))), .sc (.bool (!in64 (a * b)))]) σ) No := by
  have ha' := ha
  have hb' := hb
  unfold R64 at ha' hb'
  have hp : -85070591730234615865843651857942052864 ≤ a * b ∧ a * b ≤ 85070591730234615865843651857942052864 := by
    have := mul_r a b 9223372036854775808 9223372036854775808 (by omega) (by omega)
    omega
  have e1 : IntKind.u64.wrap a * IntKind.u64.wrap b = a * b + (if a < 0 then 18446744073709551616 * b else 0) + (if b < 0 then 18446744073709551616 * a else 0) + (if a < 0 ∧ b < 0 then 340282366920938463463374607431768211456 else 0) := by
    have u1 : IntKind.u64.wrap a = if a < 0 then a + 18446744073709551616 else a := by rw [w_u64]; split <;> omega
    have u2 : IntKind.u64.wrap b = if b < 0 then b + 18446744073709551616 else b := by rw [w_u64]; split <;> omega
    rw [u1, u2]
    by_cases h1 : a < 0 <;> by_cases h2 : b < 0 <;> simp only [h1, h2, if_true, if_false, and_self, and_true, and_false, true_and, false_and]
    · rw [Int.add_mul, Int.mul_add, Int.mul_add, Int.mul_comm a 18446744073709551616]; omega
    · rw [Int.add_mul]; omega
    · rw [Int.mul_add, Int.mul_comm a 18446744073709551616]; omega
    · omega
  have hu := u64_u64 a
  have hv := u64_u64 b
  generalize hP : a * b = p at *
  have lo : IntKind.i64.wrap (IntKind.u64.wrap a * IntKind.u64.wrap b) = IntKind.i64.wrap p := by
    rw [e1, w_i64, w_i64]; split <;> split <;> split <;> omega
  have hi : IntKind.i64.wrap (IntKind.u64.wrap ((if a < 0 then IntKind.u64.wrap (IntKind.u64.wrap a * IntKind.u64.wrap b / 18446744073709551616 - IntKind.u64.wrap b) else IntKind.u64.wrap a * IntKind.u64.wrap b / 18446744073709551616) - (if b < 0 then IntKind.u64.wrap a else 0))) = p / 18446744073709551616 := by
    rw [e1]
    rw [w_i64]
    by_cases h1 : a < 0 <;> by_cases h2 : b < 0 <;> simp only [h1, h2, if_true, if_false, and_self, and_true, and_false, true_and, false_and, w_u64] <;> omega
  have ov : decide (¬ p / 18446744073709551616 = IntKind.i64.wrap p / 9223372036854775808) = !in64 p := by
    rw [w_i64, in64]
    by_cases h : -9223372036854775808 ≤ p ∧ p < 9223372036854775808
    · simp [h]; omega
    · simp [h]; omega
  refine ACalls.of_body Try.func24 rfl rfl (by simp [Try.ntmps24]) ?_
  by_cases h1 : a < 0 <;> by_cases h2 : b < 0
  all_goals
    simp only [h1, h2, if_true, if_false] at hi
    simp at hi ov
    repeat (first
      | (with_reducible refine AWp.seq ?_)
      | (with_reducible refine AWp.block ?_)
      | (with_reducible refine And.intro (by first | omega | assumption | decide) ?_)
      | ((with_reducible refine AWp.region ?_); simp [h1, h2, lo, hi, ov, Try.underlying2, Try.underlying22])
      | ((refine aCall.gives (mul64_ok _ _ (u64_u64 _) (u64_u64 _) _) ?_); simp [h1, h2, lo, hi, ov, Try.underlying2, Try.underlying22])
      | ((with_reducible refine AWp.ret ?_); try simp [h1, h2, lo, hi, ov, Try.underlying2, Try.underlying22])
      | ((with_reducible refine AWp.skip ?_); try simp [h1, h2, lo, hi, ov, Try.underlying2, Try.underlying22])
      | ((with_reducible refine AWp.exit ?_); try simp [h1, h2, lo, hi, ov, Try.underlying2, Try.underlying22])
      | ((refine AWp.cond rfl (fun _ => ?_) (fun hcf => absurd hcf ?hcd)); (case hcd => (simp [h1, h2, lo, hi, ov, Try.underlying2, Try.underlying22]; done)))
      | ((refine AWp.cond rfl (fun hcf => absurd hcf ?hcd) (fun _ => ?_)); (case hcd => (simp [h1, h2, lo, hi, ov, Try.underlying2, Try.underlying22]; done))))

end Go.Proofs.Ythkcblpdgjnkdaa
