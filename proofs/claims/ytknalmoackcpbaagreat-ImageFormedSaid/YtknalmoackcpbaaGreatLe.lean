/- Bytes that stand at a place; numbers, the lowest byte first, there and back. -/
import Derived.Test.YtknalmoackcpbaaGreatOct2
set_option linter.unusedSimpArgs false
set_option linter.unusedVariables false
set_option maxRecDepth 100000
namespace Go.Proofs.YtknalmoackcpbaaGreat
open Go Go.AW
def sg (b : List UInt8) (a n : Nat) : List UInt8 := (b.drop a).take n
def At (b : List UInt8) (a : Nat) (s : List UInt8) : Prop := a + s.length ≤ b.length ∧ sg b a s.length = s
theorem At.app {b : List UInt8} {a : Nat} {s t : List UInt8} : At b a (s ++ t) ↔ At b a s ∧ At b (a + s.length) t := by
  unfold At sg
  rw [List.length_append, List.take_add, List.drop_drop]
  constructor
  · rintro ⟨h1, h2⟩
    have h3 := List.append_inj h2 (by simp; omega)
    exact ⟨⟨by omega, h3.1⟩, by omega, h3.2⟩
  · rintro ⟨⟨h1, h2⟩, h3, h4⟩
    exact ⟨by omega, by rw [h2, h4]⟩
theorem At.cons {b : List UInt8} {a : Nat} {c : UInt8} {t : List UInt8} : At b a (c :: t) ↔ At b a [c] ∧ At b (a + 1) t := by
  have := At.app (b := b) (a := a) (s := [c]) (t := t)
  simpa using this
theorem At.mid (p s r : List UInt8) : At (p ++ s ++ r) p.length s := by
  refine ⟨by simp, by simp [sg]⟩
theorem At.sg {b : List UInt8} {a n : Nat} (h : a + n ≤ b.length) : At b a (sg b a n) := by
  have : (Proofs.YtknalmoackcpbaaGreat.sg b a n).length = n := by simp [Proofs.YtknalmoackcpbaaGreat.sg]; omega
  exact ⟨by omega, by rw [this]⟩
theorem At.take {b s : List UInt8} (h : At b 0 s) : s = b.take s.length := by
  have := h.2
  simpa [Proofs.YtknalmoackcpbaaGreat.sg] using this.symm
end Go.Proofs.YtknalmoackcpbaaGreat
