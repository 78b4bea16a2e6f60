/- Bytes that stand at a place; numbers, the lowest byte first, there and back. -/
import Derived.Test.YthpmabablfkekaaOct2
set_option linter.unusedSimpArgs false
set_option linter.unusedVariables false
set_option maxRecDepth 100000
namespace Go.Proofs.Ythpmabablfkekaa
open Go Go.AW

theorem le_numL_putB (x : Int) (hx : 0 ≤ x) (k : Nat) : numL (putB x k) = x % 256 ^ k := by
  induction k generalizing x with
  | zero => simp [putB, numL, Int.emod_one]
  | succ k ih =>
    have h1 := ih (x / 256) (by omega)
    have h2 : ((UInt8.ofNat (x % 256).toNat).toNat : Int) = x % 256 := by simp; omega
    simp only [putB, numL, h1, h2]
    rw [Int.pow_succ, Int.mul_comm (256 ^ k) 256]
    have hp : (0 : Int) < 256 ^ k := Int.pow_pos (by omega)
    have e1 := Int.emod_add_mul_ediv x (256 * 256 ^ k)
    have e2 := Int.emod_add_mul_ediv (x / 256) (256 ^ k)
    have e3 : x / 256 / 256 ^ k = x / (256 * 256 ^ k) := Int.ediv_ediv_of_nonneg (by omega)
    rw [e3] at e2
    rw [Int.mul_assoc] at e1
    generalize x / (256 * 256 ^ k) = q at *
    generalize 256 ^ k * q = r at *
    omega
theorem le_putB_numL (l : List UInt8) : putB (numL l) l.length = l := by
  induction l with
  | nil => rfl
  | cons c r ih =>
    have hc := c.toNat_lt
    have e1 : (numL (c :: r) % 256).toNat = c.toNat := by simp only [numL]; omega
    have e2 : numL (c :: r) / 256 = numL r := by simp only [numL]; omega
    rw [List.length_cons, putB, e1, e2, ih]
    simp

/-- So many bytes from a place on. -/
def sg (b : List UInt8) (a n : Nat) : List UInt8 := (b.drop a).take n
theorem seg_sg (b : List UInt8) (a n : Nat) : seg b a n = sg b a n := by
  unfold seg sg
  rw [show ((a : Int) + n).toNat = a + n by omega, show (a : Int).toNat = a by omega, List.drop_take]
  congr 1
  omega
theorem seg_sgI (b : List UInt8) (a : Nat) (n : Int) (hn : 0 ≤ n) : seg b a n = sg b a n.toNat := by
  have := seg_sg b a n.toNat
  rwa [show ((n.toNat : Nat) : Int) = n by omega] at this

/-- These bytes stand at that place. -/
def At (b : List UInt8) (a : Nat) (s : List UInt8) : Prop := a + s.length ≤ b.length ∧ sg b a s.length = s
theorem At.nil {b : List UInt8} {a : Nat} (h : a ≤ b.length) : At b a [] := ⟨by simpa using h, by simp [sg]⟩
theorem At.app {b : List UInt8} {a : Nat} {s t : List UInt8} : At b a (s ++ t) ↔ At b a s ∧ At b (a + s.length) t := by
  unfold At sg
  rw [List.length_append, List.take_add, List.drop_drop]
  constructor
  · rintro ⟨h1, h2⟩
    have h3 := List.append_inj h2 (by simp; omega)
    exact ⟨⟨by omega, h3.1⟩, by omega, h3.2⟩
  · rintro ⟨⟨h1, h2⟩, h3, h4⟩
    exact ⟨by omega, by rw [h2, h4]⟩
theorem At.cons {b : List UInt8} {a : Nat} {c : UInt8} {t : List UInt8} : At b a (c :: t) ↔ At b a [c] ∧ At b (a + 1) t := by
  have := At.app (b := b) (a := a) (s := [c]) (t := t)
  simpa using this
theorem At.cons4 {b : List UInt8} {a : Nat} {w x y z : UInt8} : At b a [w, x, y, z] ↔ At b a [w] ∧ At b (a + 1) [x] ∧ At b (a + 2) [y] ∧ At b (a + 3) [z] := by
  rw [At.cons (t := [x, y, z]), At.cons (t := [y, z]), At.cons (t := [z])]
theorem At.mid (p s r : List UInt8) : At (p ++ s ++ r) p.length s := by
  refine ⟨by simp, by simp [sg]⟩
theorem At.sg {b : List UInt8} {a n : Nat} (h : a + n ≤ b.length) : At b a (sg b a n) := by
  have : (Proofs.Ythpmabablfkekaa.sg b a n).length = n := by simp [Proofs.Ythpmabablfkekaa.sg]; omega
  exact ⟨by omega, by rw [this]⟩
theorem sg_len {b : List UInt8} {a n : Nat} (h : a + n ≤ b.length) : (sg b a n).length = n := by simp [sg]; omega
theorem At.take {b s : List UInt8} (h : At b 0 s) : s = b.take s.length := by
  have := h.2
  simpa [Proofs.Ythpmabablfkekaa.sg] using this.symm
theorem At.len {b : List UInt8} {a : Nat} {s : List UInt8} (h : At b a s) : a + s.length ≤ b.length := h.1
theorem At.num {b : List UInt8} {a n : Nat} {x : Int} (h : At b a (putB x n)) (h0 : 0 ≤ x) (h1 : x < 256 ^ n) : a + n ≤ b.length ∧ numL (seg b a n) = x := by
  obtain ⟨h2, h3⟩ := h
  rw [putB_length] at h2 h3
  rw [seg_sg, h3, le_numL_putB x h0, Int.emod_eq_of_lt h0 h1]
  exact ⟨h2, rfl⟩
theorem At.of_num {b : List UInt8} {a n : Nat} (h : a + n ≤ b.length) : At b a (putB (numL (seg b a n)) n) := by
  have h1 := sg_len h
  have h2 := le_putB_numL (Proofs.Ythpmabablfkekaa.sg b a n)
  rw [h1] at h2
  rw [seg_sg, h2]
  exact At.sg h
theorem numL_bound {b : List UInt8} {a n : Nat} (h : a + n ≤ b.length) : 0 ≤ numL (seg b a n) ∧ numL (seg b a n) < 256 ^ n := by
  refine ⟨numL_nonneg _, ?_⟩
  have := numL_lt (seg b a n)
  rwa [seg_sg, sg_len h, ← seg_sg] at this

end Go.Proofs.Ythpmabablfkekaa
