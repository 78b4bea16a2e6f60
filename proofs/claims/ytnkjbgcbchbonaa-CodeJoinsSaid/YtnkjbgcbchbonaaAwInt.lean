/- A layer of abstract values over the model's machine: own work for this claim, part AwInt. -/
import Derived.Test.YtnkjbgcbchbonaaAwSimp
set_option linter.unusedSimpArgs false
set_option linter.unusedVariables false
namespace Go.AW
open Go

@[simp] theorem bits_i64 : IntKind.i64.bits = 64 := rfl
@[simp] theorem bits_u64 : IntKind.u64.bits = 64 := rfl
@[simp] theorem bits_i32 : IntKind.i32.bits = 32 := rfl
@[simp] theorem bits_u32 : IntKind.u32.bits = 32 := rfl
@[simp] theorem bits_i16 : IntKind.i16.bits = 16 := rfl
@[simp] theorem bits_u16 : IntKind.u16.bits = 16 := rfl
@[simp] theorem bits_i8 : IntKind.i8.bits = 8 := rfl
@[simp] theorem bits_u8 : IntKind.u8.bits = 8 := rfl

theorem w_u64 (n : Int) : IntKind.u64.wrap n = n % 18446744073709551616 := by simp [IntKind.wrap, IntKind.bits, IntKind.signed]
theorem w_u32 (n : Int) : IntKind.u32.wrap n = n % 4294967296 := by simp [IntKind.wrap, IntKind.bits, IntKind.signed]
theorem w_u16 (n : Int) : IntKind.u16.wrap n = n % 65536 := by simp [IntKind.wrap, IntKind.bits, IntKind.signed]
theorem w_u8 (n : Int) : IntKind.u8.wrap n = n % 256 := by simp [IntKind.wrap, IntKind.bits, IntKind.signed]
theorem w_i64 (n : Int) : IntKind.i64.wrap n = (n + 9223372036854775808) % 18446744073709551616 - 9223372036854775808 := by
  simp [IntKind.wrap, IntKind.bits, IntKind.signed]; split <;> omega
theorem w_i32 (n : Int) : IntKind.i32.wrap n = (n + 2147483648) % 4294967296 - 2147483648 := by
  simp [IntKind.wrap, IntKind.bits, IntKind.signed]; split <;> omega

@[simp] theorem wl_i64_0 : IntKind.i64.wrap 0 = 0 := by decide
@[simp] theorem wl_i64_1 : IntKind.i64.wrap 1 = 1 := by decide
@[simp] theorem wl_i64_2 : IntKind.i64.wrap 2 = 2 := by decide
@[simp] theorem wl_i64_3 : IntKind.i64.wrap 3 = 3 := by decide
@[simp] theorem wl_i64_4 : IntKind.i64.wrap 4 = 4 := by decide
@[simp] theorem wl_i64_5 : IntKind.i64.wrap 5 = 5 := by decide
@[simp] theorem wl_i64_6 : IntKind.i64.wrap 6 = 6 := by decide
@[simp] theorem wl_i64_7 : IntKind.i64.wrap 7 = 7 := by decide
@[simp] theorem wl_i64_8 : IntKind.i64.wrap 8 = 8 := by decide
@[simp] theorem wl_i64_9 : IntKind.i64.wrap 9 = 9 := by decide
@[simp] theorem wl_i64_10 : IntKind.i64.wrap 10 = 10 := by decide
@[simp] theorem wl_i64_11 : IntKind.i64.wrap 11 = 11 := by decide
@[simp] theorem wl_i64_12 : IntKind.i64.wrap 12 = 12 := by decide
@[simp] theorem wl_i64_13 : IntKind.i64.wrap 13 = 13 := by decide
@[simp] theorem wl_i64_14 : IntKind.i64.wrap 14 = 14 := by decide
@[simp] theorem wl_i64_15 : IntKind.i64.wrap 15 = 15 := by decide
@[simp] theorem wl_i64_16 : IntKind.i64.wrap 16 = 16 := by decide
@[simp] theorem wl_i64_17 : IntKind.i64.wrap 17 = 17 := by decide
@[simp] theorem wl_i64_18 : IntKind.i64.wrap 18 = 18 := by decide
@[simp] theorem wl_i64_19 : IntKind.i64.wrap 19 = 19 := by decide
@[simp] theorem wl_i64_20 : IntKind.i64.wrap 20 = 20 := by decide
@[simp] theorem wl_i64_21 : IntKind.i64.wrap 21 = 21 := by decide
@[simp] theorem wl_i64_22 : IntKind.i64.wrap 22 = 22 := by decide
@[simp] theorem wl_i64_23 : IntKind.i64.wrap 23 = 23 := by decide
@[simp] theorem wl_i64_24 : IntKind.i64.wrap 24 = 24 := by decide
@[simp] theorem wl_i64_25 : IntKind.i64.wrap 25 = 25 := by decide
@[simp] theorem wl_i64_26 : IntKind.i64.wrap 26 = 26 := by decide
@[simp] theorem wl_i64_27 : IntKind.i64.wrap 27 = 27 := by decide
@[simp] theorem wl_i64_28 : IntKind.i64.wrap 28 = 28 := by decide
@[simp] theorem wl_i64_29 : IntKind.i64.wrap 29 = 29 := by decide
@[simp] theorem wl_i64_30 : IntKind.i64.wrap 30 = 30 := by decide
@[simp] theorem wl_i64_31 : IntKind.i64.wrap 31 = 31 := by decide
@[simp] theorem wl_i64_32 : IntKind.i64.wrap 32 = 32 := by decide
@[simp] theorem wl_i64_56 : IntKind.i64.wrap 56 = 56 := by decide
@[simp] theorem wl_i64_63 : IntKind.i64.wrap 63 = 63 := by decide
@[simp] theorem wl_i64_64 : IntKind.i64.wrap 64 = 64 := by decide
@[simp] theorem wl_i64_128 : IntKind.i64.wrap 128 = 128 := by decide
@[simp] theorem wl_i64_255 : IntKind.i64.wrap 255 = 255 := by decide
@[simp] theorem wl_i64_256 : IntKind.i64.wrap 256 = 256 := by decide
@[simp] theorem wl_i64_16383 : IntKind.i64.wrap 16383 = 16383 := by decide
@[simp] theorem wl_i64_65535 : IntKind.i64.wrap 65535 = 65535 := by decide
@[simp] theorem wl_u8_0 : IntKind.u8.wrap 0 = 0 := by decide
@[simp] theorem wl_u8_1 : IntKind.u8.wrap 1 = 1 := by decide
@[simp] theorem wl_u8_2 : IntKind.u8.wrap 2 = 2 := by decide
@[simp] theorem wl_u8_3 : IntKind.u8.wrap 3 = 3 := by decide
@[simp] theorem wl_u8_4 : IntKind.u8.wrap 4 = 4 := by decide
@[simp] theorem wl_u8_5 : IntKind.u8.wrap 5 = 5 := by decide
@[simp] theorem wl_u8_6 : IntKind.u8.wrap 6 = 6 := by decide
@[simp] theorem wl_u8_7 : IntKind.u8.wrap 7 = 7 := by decide
@[simp] theorem wl_u8_8 : IntKind.u8.wrap 8 = 8 := by decide
@[simp] theorem wl_u8_9 : IntKind.u8.wrap 9 = 9 := by decide
@[simp] theorem wl_u8_10 : IntKind.u8.wrap 10 = 10 := by decide
@[simp] theorem wl_u8_11 : IntKind.u8.wrap 11 = 11 := by decide
@[simp] theorem wl_u8_12 : IntKind.u8.wrap 12 = 12 := by decide
@[simp] theorem wl_u8_13 : IntKind.u8.wrap 13 = 13 := by decide
@[simp] theorem wl_u8_14 : IntKind.u8.wrap 14 = 14 := by decide
@[simp] theorem wl_u8_15 : IntKind.u8.wrap 15 = 15 := by decide
@[simp] theorem wl_u8_16 : IntKind.u8.wrap 16 = 16 := by decide
@[simp] theorem wl_u64_0 : IntKind.u64.wrap 0 = 0 := by decide
@[simp] theorem wl_u64_1 : IntKind.u64.wrap 1 = 1 := by decide
@[simp] theorem wl_u64_2 : IntKind.u64.wrap 2 = 2 := by decide
@[simp] theorem wl_u64_3 : IntKind.u64.wrap 3 = 3 := by decide
@[simp] theorem wl_u64_4 : IntKind.u64.wrap 4 = 4 := by decide
@[simp] theorem wl_u64_5 : IntKind.u64.wrap 5 = 5 := by decide
@[simp] theorem wl_u64_6 : IntKind.u64.wrap 6 = 6 := by decide
@[simp] theorem wl_u64_7 : IntKind.u64.wrap 7 = 7 := by decide
@[simp] theorem wl_u64_8 : IntKind.u64.wrap 8 = 8 := by decide
@[simp] theorem wl_u64_9 : IntKind.u64.wrap 9 = 9 := by decide
@[simp] theorem wl_u64_10 : IntKind.u64.wrap 10 = 10 := by decide
@[simp] theorem wl_u64_11 : IntKind.u64.wrap 11 = 11 := by decide
@[simp] theorem wl_u64_12 : IntKind.u64.wrap 12 = 12 := by decide
@[simp] theorem wl_u64_13 : IntKind.u64.wrap 13 = 13 := by decide
@[simp] theorem wl_u64_14 : IntKind.u64.wrap 14 = 14 := by decide
@[simp] theorem wl_u64_15 : IntKind.u64.wrap 15 = 15 := by decide
@[simp] theorem wl_u64_16 : IntKind.u64.wrap 16 = 16 := by decide
/-- An int within its bounds is what it is. -/
theorem in_i64 {n : Int} (h1 : -9223372036854775808 ≤ n) (h2 : n < 9223372036854775808) : IntKind.i64.wrap n = n := by rw [w_i64]; omega
theorem in_u64 {n : Int} (h1 : 0 ≤ n) (h2 : n < 18446744073709551616) : IntKind.u64.wrap n = n := by rw [w_u64]; omega
theorem in_u8 {n : Int} (h1 : 0 ≤ n) (h2 : n < 256) : IntKind.u8.wrap n = n := by rw [w_u8]; omega

@[simp] theorem fdiv_pow (a : Int) (m : Nat) : a.fdiv (2 ^ m) = a / 2 ^ m := Int.fdiv_eq_ediv_of_nonneg _ (Int.le_of_lt (Int.pow_pos (by decide)))

theorem getD_map_u8 {l : List UInt8} {i : Nat} (h : i < l.length) : (l.map u8).getD i .any = .sc (.int .u8 (l.getD i 0).toNat) := by
  simp [List.getD_eq_getElem?_getD, h]

/-- Bits that don't meet are added. -/
theorem or_add {w : Nat} {a b : Int} (i : Nat) (hb0 : 0 ≤ b) (hb : b < 2 ^ i) {c : Int} (hc : 0 ≤ c) (ha : a = 2 ^ i * c) (hw : a + b < 2 ^ w) : bOr w a b = a + b := by
  unfold bOr
  obtain ⟨b', rfl⟩ := Int.eq_ofNat_of_zero_le hb0
  obtain ⟨c', rfl⟩ := Int.eq_ofNat_of_zero_le hc
  have e1 : a = ((2 ^ i * c' : Nat) : Int) := by rw [ha]; push_cast; rfl
  have hb' : b' < 2 ^ i := by exact_mod_cast hb
  have hw' : 2 ^ i * c' + b' < 2 ^ w := by rw [e1] at hw; exact_mod_cast hw
  rw [e1, BitVec.ofInt_natCast, BitVec.ofInt_natCast, BitVec.toNat_or, BitVec.toNat_ofNat, BitVec.toNat_ofNat, Nat.mod_eq_of_lt (by omega), Nat.mod_eq_of_lt (by omega), ← Nat.two_pow_add_eq_or_of_lt hb']
  push_cast
  rfl

/-- The lowest bits. -/
theorem and_mask {w : Nat} {a : Int} (i : Nat) (ha : 0 ≤ a) (hw : a < 2 ^ w) (hi : i ≤ w) : bAnd w a (2 ^ i - 1) = a % 2 ^ i := by
  unfold bAnd
  obtain ⟨a', rfl⟩ := Int.eq_ofNat_of_zero_le ha
  have hp : 0 < 2 ^ i := Nat.two_pow_pos i
  have hle : 2 ^ i ≤ 2 ^ w := Nat.pow_le_pow_right (by omega) hi
  have e1 : (2 : Int) ^ i - 1 = ((2 ^ i - 1 : Nat) : Int) := by rw [Int.natCast_sub hp]; push_cast; rfl
  have hw' : a' < 2 ^ w := by exact_mod_cast hw
  rw [e1, BitVec.ofInt_natCast, BitVec.ofInt_natCast, BitVec.toNat_and, BitVec.toNat_ofNat, BitVec.toNat_ofNat, Nat.mod_eq_of_lt hw', Nat.mod_eq_of_lt (by omega), Nat.and_two_pow_sub_one_eq_mod]
  push_cast
  rfl

theorem bOr_comm (w : Nat) (a b : Int) : bOr w a b = bOr w b a := by simp [bOr, BitVec.or_comm]
theorem bAnd_comm (w : Nat) (a b : Int) : bAnd w a b = bAnd w b a := by simp [bAnd, BitVec.and_comm]

end Go.AW
