/- The contracts of package octet's functions and of the reference's (chapter 01), over abstract values. -/
import Derived.Test.YthbmjmdmamapiaaFacts
set_option linter.unusedSimpArgs false
set_option linter.unusedVariables false
set_option maxRecDepth 100000
namespace Go.Proofs.Ythbmjmdmamapiaa
open Go Go.AW

theorem mixed : Tables.follows Try.prog.toTables .mixedOrders = true := by kernel_rfl

def wide (n : Int) : Bool := decide (n = 1) || decide (n = 2) || decide (n = 4) || decide (n = 8)

def putB (x : Int) : Nat → List UInt8
  | 0 => []
  | n + 1 => UInt8.ofNat (x % 256).toNat :: putB (x / 256) n

theorem putB_length (x : Int) (n : Nat) : (putB x n).length = n := by
  induction n generalizing x with
  | zero => rfl
  | succ n ih => simp [putB, ih]

theorem putB_snoc (x : Int) (n : Nat) : putB x (n + 1) = putB x n ++ [UInt8.ofNat (x / 256 ^ n % 256).toNat] := by
  induction n generalizing x with
  | zero => simp [putB]
  | succ n ih =>
    rw [putB, ih (x / 256), putB, List.cons_append]
    congr 4
    rw [Int.ediv_ediv_of_nonneg (by omega)]
    rw [Int.pow_succ, Int.mul_comm]

/-- The loop of Put. -/
def putI (l : List UInt8) (x n : Int) (tk : Nat) (σ : AS) (m : Nat) (s : Fr) (σ' : AS) : Prop :=
  ∃ (k : Nat) (nl : Bool), (m : Int) = n - k ∧ (k : Int) ≤ n ∧ (nl = true → k = 0) ∧
    s = mkF [(1, .sc (.int .u64 (x / 256 ^ k))), (8, .lst 5 ((l ++ putB x k).map u8) (.tok tk) nl), (14, .sc (.int .i64 n)), (15, .sc (.int .i64 k))] ∧
    σ' = σ.set tk (.tok (l.length + k))

/-! ## packed numbers -/

def sizeI (n : Int) : Int := if n < 0 ∨ 536870911 < n then 0 else if n < 128 then 1 else if n < 16384 then 2 else 4

def wantsI (c : Int) : Int := if c < 128 then 1 else if c < 192 then 2 else if c < 224 then 4 else 0

/-! ## Same -/

def sameI (l : List UInt8) (m : List UInt8) (k : Nat) (s : Fr) (σ' : AS) (o : Own) (n1 n2 : Bool) (o' : Own) (σ : AS) : Prop :=
  ∃ i : Nat, k = l.length - i ∧ i ≤ l.length ∧ l.take i = m.take i ∧ σ' = σ ∧
    s = mkF [(0, .lst 5 (l.map u8) o n1), (1, .lst 5 (m.map u8) o' n2), (5, .sc (.int .i64 i))]

end Go.Proofs.Ythbmjmdmamapiaa
