/- The reference's functions of chapter 01: what they compute. -/
import Derived.Test.YtknalmoackcpbaaGreatAwGo
import Derived.Test.YtknalmoackcpbaaGreatOct2
import Derived.Test.YtknalmoackcpbaaGreatOct3
set_option linter.unusedSimpArgs false
set_option linter.unusedVariables false
set_option maxRecDepth 100000
namespace Go.Proofs.YtknalmoackcpbaaGreat
open Go Go.AW
end Go.Proofs.YtknalmoackcpbaaGreat

/- The reference's Pack and Unpack of chapter 01. -/

set_option linter.unusedSimpArgs false
set_option linter.unusedVariables false
set_option maxRecDepth 100000
set_option maxHeartbeats 800000
namespace Go.Proofs.YtknalmoackcpbaaGreat
open Go Go.AW
theorem sizeI_cases (n : Int) (h0 : 0 ≤ n) (h1 : n ≤ 536870911) : (n < 128 ∧ sizeI n = 1) ∨ (¬ n < 128 ∧ n < 16384 ∧ sizeI n = 2) ∨ (¬ n < 128 ∧ ¬ n < 16384 ∧ sizeI n = 4) := by
  unfold sizeI
  rw [if_neg (by omega)]
  by_cases h2 : n < 128
  · simp [h2]
  · by_cases h3 : n < 16384 <;> simp [h2, h3]
theorem ofN (x : Int) : ((UInt8.ofNat (x % 256).toNat).toNat : Int) = x % 256 := by simp; omega
end Go.Proofs.YtknalmoackcpbaaGreat
