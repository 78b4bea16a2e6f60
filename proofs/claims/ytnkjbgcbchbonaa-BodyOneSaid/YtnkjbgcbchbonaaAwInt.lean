/- A layer of abstract values over the model's machine: own work for this claim, part AwInt. -/
import Derived.Test.YtnkjbgcbchbonaaAwSimp
set_option linter.unusedSimpArgs false
set_option linter.unusedVariables false
namespace Go.AW
open Go

@[simp] theorem bits_i64 : IntKind.i64.bits = 64 := rfl
@[simp] theorem bits_u64 : IntKind.u64.bits = 64 := rfl
@[simp] theorem bits_i32 : IntKind.i32.bits = 32 := rfl
@[simp] theorem bits_u32 : IntKind.u32.bits = 32 := rfl
@[simp] theorem bits_i16 : IntKind.i16.bits = 16 := rfl
@[simp] theorem bits_u16 : IntKind.u16.bits = 16 := rfl
@[simp] theorem bits_i8 : IntKind.i8.bits = 8 := rfl
@[simp] theorem bits_u8 : IntKind.u8.bits = 8 := rfl

theorem w_u64 (n : Int) : IntKind.u64.wrap n = n % 18446744073709551616 := by simp [IntKind.wrap, IntKind.bits, IntKind.signed]
theorem w_u32 (n : Int) : IntKind.u32.wrap n = n % 4294967296 := by simp [IntKind.wrap, IntKind.bits, IntKind.signed]
theorem w_u16 (n : Int) : IntKind.u16.wrap n = n % 65536 := by simp [IntKind.wrap, IntKind.bits, IntKind.signed]
theorem w_u8 (n : Int) : IntKind.u8.wrap n = n % 256 := by simp [IntKind.wrap, IntKind.bits, IntKind.signed]
theorem w_i64 (n : Int) : IntKind.i64.wrap n = (n + 9223372036854775808) % 18446744073709551616 - 9223372036854775808 := by
  simp [IntKind.wrap, IntKind.bits, IntKind.signed]; split <;> omega
theorem w_i32 (n : Int) : IntKind.i32.wrap n = (n + 2147483648) % 4294967296 - 2147483648 := by
  simp [IntKind.wrap, IntKind.bits, IntKind.signed]; split <;> omega

/-- An int within its bounds is what it is. -/
theorem in_i64 {n : Int} (h1 : -9223372036854775808 ≤ n) (h2 : n < 9223372036854775808) : IntKind.i64.wrap n = n := by rw [w_i64]; omega
theorem in_u64 {n : Int} (h1 : 0 ≤ n) (h2 : n < 18446744073709551616) : IntKind.u64.wrap n = n := by rw [w_u64]; omega
theorem in_u8 {n : Int} (h1 : 0 ≤ n) (h2 : n < 256) : IntKind.u8.wrap n = n := by rw [w_u8]; omega

@[simp] theorem fdiv_pow (a : Int) (m : Nat) : a.fdiv (2 ^ m) = a / 2 ^ m := Int.fdiv_eq_ediv_of_nonneg _ (Int.le_of_lt (Int.pow_pos (by decide)))

theorem getD_map_u8 {l : List UInt8} {i : Nat} (h : i < l.length) : (l.map u8).getD i .any = .sc (.int .u8 (l.getD i 0).toNat) := by
  simp [List.getD_eq_getElem?_getD, h]

/-- Bits that don't meet are added. -/
theorem or_add {w : Nat} {a b : Int} (i : Nat) (hb0 : 0 ≤ b) (hb : b < 2 ^ i) {c : Int} (hc : 0 ≤ c) (ha : a = 2 ^ i * c) (hw : a + b < 2 ^ w) : bOr w a b = a + b := by
  unfold bOr
  obtain ⟨b', rfl⟩ := Int.eq_ofNat_of_zero_le hb0
  obtain ⟨c', rfl⟩ := Int.eq_ofNat_of_zero_le hc
  have e1 : a = ((2 ^ i * c' : Nat) : Int) := by rw [ha]; push_cast; rfl
  have hb' : b' < 2 ^ i := by exact_mod_cast hb
  have hw' : 2 ^ i * c' + b' < 2 ^ w := by rw [e1] at hw; exact_mod_cast hw
  rw [e1, BitVec.ofInt_natCast, BitVec.ofInt_natCast, BitVec.toNat_or, BitVec.toNat_ofNat, BitVec.toNat_ofNat, Nat.mod_eq_of_lt (by omega), Nat.mod_eq_of_lt (by omega), ← Nat.two_pow_add_eq_or_of_lt hb']
  push_cast
  rfl

/-- The lowest bits. -/
theorem and_mask {w : Nat} {a : Int} (i : Nat) (ha : 0 ≤ a) (hw : a < 2 ^ w) (hi : i ≤ w) : bAnd w a (2 ^ i - 1) = a % 2 ^ i := by
  unfold bAnd
  obtain ⟨a', rfl⟩ := Int.eq_ofNat_of_zero_le ha
  have hp : 0 < 2 ^ i := Nat.two_pow_pos i
  have hle : 2 ^ i ≤ 2 ^ w := Nat.pow_le_pow_right (by omega) hi
  have e1 : (2 : Int) ^ i - 1 = ((2 ^ i - 1 : Nat) : Int) := by rw [Int.natCast_sub hp]; push_cast; rfl
  have hw' : a' < 2 ^ w := by exact_mod_cast hw
  rw [e1, BitVec.ofInt_natCast, BitVec.ofInt_natCast, BitVec.toNat_and, BitVec.toNat_ofNat, BitVec.toNat_ofNat, Nat.mod_eq_of_lt hw', Nat.mod_eq_of_lt (by omega), Nat.and_two_pow_sub_one_eq_mod]
  push_cast
  rfl

theorem bOr_comm (w : Nat) (a b : Int) : bOr w a b = bOr w b a := by simp [bOr, BitVec.or_comm]
theorem bAnd_comm (w : Nat) (a b : Int) : bAnd w a b = bAnd w b a := by simp [bAnd, BitVec.and_comm]

end Go.AW
