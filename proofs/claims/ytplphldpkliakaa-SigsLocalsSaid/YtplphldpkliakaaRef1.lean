/- The reference's functions of chapter 01: what they compute. -/
import Derived.Test.YtplphldpkliakaaOct2
set_option linter.unusedSimpArgs false
set_option linter.unusedVariables false
set_option maxRecDepth 100000
namespace Go.Proofs.Ytplphldpkliakaa
open Go Go.AW

theorem rsize_ok (n : Int) (σ : AS) : ACalls Try.prog 78 [.sc (.int .i64 n)] σ (Gives (.sc (.int .i64 (sizeI n))) σ) No := by
  refine ACalls.of_body Try.func78 rfl rfl (by simp [Try.ntmps78]) ?_
  by_cases h1 : n < 0 <;> by_cases h2 : 536870911 < n <;> by_cases h3 : n < 128 <;> by_cases h4 : n < 16384
  all_goals try omega
  all_goals
    have h3' : (n ≤ 127) = (n < 128) := propext ⟨fun _ => by omega, fun _ => by omega⟩
    have h4' : (n ≤ 16383) = (n < 16384) := propext ⟨fun _ => by omega, fun _ => by omega⟩
    repeat (first
      | (with_reducible first | apply AWp.seq | apply AWp.block | refine And.intro (by first | omega | assumption | decide) ?_)
      | ((first | (with_reducible first | apply AWp.fork | apply AWp.region | show condK _ _ _ | show guardK _ _ _ _ _ _ _ _ _)); simp -implicitDefEqProofs [h1, h2, h3', h4', h3, h4])
      | ((with_reducible first | apply AWp.ret | apply AWp.skip | apply AWp.exit); try simp -implicitDefEqProofs [h1, h2, h3', h4', h3, h4]))
    try simp [sizeI, h1, h2, h3, h4]

def rputI (x n : Int) (σ : AS) (m : Nat) (s : Fr) (σ' : AS) : Prop :=
  ∃ k : Nat, (m : Int) = n - k ∧ (k : Int) ≤ n ∧
    ((k = 0 ∧ σ' = σ ∧ s = mkF [(0, .sc (.int .u64 x)), (1, .sc (.int .i64 n)), (5, .nilS), (6, .sc (.int .i64 0))]) ∨
     ∃ tk, σ tk = none ∧ 0 < k ∧ σ' = σ.set tk (.tok k) ∧
      s = mkF [(0, .sc (.int .u64 (x / 256 ^ k))), (1, .sc (.int .i64 n)), (5, .lst 5 ((putB x k).map u8) (.tok tk) false), (6, .sc (.int .i64 k))])

def rnumI (L : List UInt8) (b : List UInt8) (own : Own) (nil : Bool) (at' n : Int) (σ : AS) (m : Nat) (s : Fr) (σ' : AS) : Prop :=
  m ≤ L.length ∧ σ' = σ ∧ s = mkF [(0, .lst 5 (b.map u8) own nil), (1, .sc (.int .i64 at')), (7, .sc (.int .u64 (numL (L.drop m)))), (8, .sc (.int .i64 (m - 1)))]

end Go.Proofs.Ytplphldpkliakaa
