/- Package rows: formed. -/
import Derived.Test.YtpekbapmnmnjoaaRows2
set_option linter.unusedSimpArgs false
set_option linter.unusedVariables false
set_option maxRecDepth 100000
set_option maxHeartbeats 3200000
namespace Go.Proofs.Ytpekbapmnmnjoaa
open Go Go.AW

/-- Have all rows their columns? -/
def formF : Nat → List (List (List Int)) → Bool
  | _, [] => true
  | t, l :: r => l.all (fun row => decide (row.length = (kindsL t).length)) && formF (t + 1) r
def formedS (R : List (List (List Int))) : Bool := decide (R.length = 6) && formF 0 R

def fmO (R : Tab) (o : Own) (nl : Bool) (B : AS) (m : Nat) (f : Fr) (σ' : AS) : Prop :=
  ∃ i : Nat, m = R.length - i ∧ i ≤ R.length ∧ formF 0 (pl R) = formF i ((pl R).drop i) ∧ σ' = B ∧
    f = mkF [(12, .lst 69 (R.map lV) o nl), (13, .sc (.int .i64 R.length)), (14, .sc (.int .i64 i))]
def fmI (R : Tab) (o : Own) (nl : Bool) (i : Nat) (x : List (List Int × Bool) × Bool) (X : Bool) (B : AS) (m : Nat) (f : Fr) (σ' : AS) : Prop :=
  ∃ k : Nat, m = x.1.length - k ∧ k ≤ x.1.length ∧ (((pl1 x).drop k).all (fun row => decide (row.length = (kindsL i).length)) && formF (i + 1) ((pl R).drop (i + 1))) = X ∧ σ' = B ∧
    f = mkF [(3, .sc (.int .i64 i)), (12, .lst 69 (R.map lV) o nl), (13, .sc (.int .i64 R.length)), (14, .sc (.int .i64 i)), (19, lV x), (20, .sc (.int .i64 x.1.length)), (21, .sc (.int .i64 k))]

theorem formed_ok (en : Int) (R : Tab) (o : Own) (nl : Bool) (hR : R.length ≤ 1000) (hr : ∀ x ∈ R, x.1.length ≤ 1500) (hc : ∀ x ∈ R, ∀ y ∈ x.1, y.1.length ≤ 1000) (σ : AS) :
    ACalls Try.prog 37 [tbV en R o nl] σ (Gives (.sc (.bool (formedS (pl R)))) σ) No := by
  have hcol := fun t σ => columns_ok t σ
  refine ACalls.of_body Try.func37 rfl rfl (by simp [Try.ntmps37]) ?_
  simp only [tbV]
  repeat (first
    | (with_reducible apply AWp.seq)
    | (with_reducible apply AWp.block)
    | ((with_reducible apply AWp.fork); simp -implicitDefEqProofs)
    | ((with_reducible apply AWp.region); simp -implicitDefEqProofs)
    | (with_reducible refine And.intro (by first | omega | assumption | decide) ?_)
    | ((with_reducible apply AWp.ret); try simp -implicitDefEqProofs)
    | ((with_reducible apply AWp.skip); try simp -implicitDefEqProofs)
    | ((with_reducible apply AWp.exit); try simp -implicitDefEqProofs))
  intro id1 h_id1
  by_cases h6 : R.length = 6
  · repeat (first
      | (with_reducible apply AWp.seq)
      | (with_reducible apply AWp.block)
      | ((with_reducible apply AWp.fork); simp -implicitDefEqProofs [h6])
      | ((with_reducible apply AWp.region); simp -implicitDefEqProofs [h6])
      | (with_reducible refine And.intro (by first | omega | assumption | decide) ?_)
      | ((with_reducible show condK _ _ _); simp -implicitDefEqProofs [h6])
      | ((with_reducible show guardK _ _ _ _ _ _ _ _ _); simp -implicitDefEqProofs [h6])
      | ((with_reducible apply AWp.ret); try simp -implicitDefEqProofs [h6])
      | ((with_reducible apply AWp.skip); try simp -implicitDefEqProofs [h6])
      | ((with_reducible apply AWp.exit); try simp -implicitDefEqProofs [h6]))
    obtain ⟨B, B_s, hB1, eq_B, le_B⟩ : ∃ B : AS, (σ.set id1 (.cells 24 [.sc (.int .i64 en), .lst 69 (R.map lV) o nl])) = B ∧ B id1 = some (.cells 24 [.sc (.int .i64 en), .lst 69 (R.map lV) o nl]) ∧ (∀ j, j ≠ id1 → B j = σ j) ∧ (∀ S' : AS, (∀ j, j ≠ id1 → ∀ y, B j = some y → S' j = some y) → AS.le σ S') := by
      refine ⟨_, rfl, by simp [], ?_, ?_⟩
      · intro j e_id1; simp [AS.set, e_id1]
      intro S' h j x hj
      have e_id1 : j ≠ id1 := by rintro rfl; rw [h_id1] at hj; cases hj
      exact h j e_id1 x (by simp [AS.set, e_id1, hj])
    simp only [B_s]
    clear B_s
    have hle : AS.le σ B := le_B B fun _ _ _ h => h
    have hS : formedS (pl R) = formF 0 (pl R) := by simp [formedS, pl, h6]
    rw [hS]
    refine AWp.loopI (fmO R o nl B) (k0 := R.length) ⟨0, by omega, by omega, by simp, rfl, rfl⟩ (FrWk.mk (by simp [h6])) (AS.le_refl _) ?_
    rintro m f σ' ⟨i, hm, hi, hX, hs, rfl⟩
    subst σ'
    by_cases hlt : i < R.length
    · obtain ⟨x, hg, hd, hmem, _⟩ := at_lt R hlt
      obtain ⟨_, hg'⟩ := List.getElem?_eq_some_iff.1 hg
      have hI : ((i : Int) < R.length) = True := by simp; omega
      have hxl := hr x hmem
      have hdp : (pl R).drop i = pl1 x :: (pl R).drop (i + 1) := by
        rw [pl, ← List.map_drop, hd, List.map_cons, List.map_drop]
      rw [hdp] at hX
      simp only [formF] at hX
      repeat (first
        | (with_reducible apply AWp.seq)
        | (with_reducible apply AWp.block)
        | ((with_reducible apply AWp.fork); simp -implicitDefEqProofs [hI, hlt, hg, hg', lV, hB1])
        | ((with_reducible apply AWp.region); simp -implicitDefEqProofs [hI, hlt, hg, hg', lV, hB1])
        | (with_reducible refine And.intro (by first | omega | assumption | decide) ?_)
        | ((with_reducible show condK _ _ _); simp -implicitDefEqProofs [hI, hlt, hg, hg', lV, hB1])
        | ((with_reducible show guardK _ _ _ _ _ _ _ _ _); simp -implicitDefEqProofs [hI, hlt, hg, hg', lV, hB1])
        | ((with_reducible apply AWp.ret); try simp -implicitDefEqProofs [hI, hlt, hg, hg', lV, hB1])
        | ((with_reducible apply AWp.skip); try simp -implicitDefEqProofs [hI, hlt, hg, hg', lV, hB1])
        | ((with_reducible apply AWp.exit); try simp -implicitDefEqProofs [hI, hlt, hg, hg', lV, hB1]))
      generalize hF0 : formF 0 (pl R) = F0 at hX ⊢
      refine AWp.loopI (fmI R o nl i x F0 B) (k0 := x.1.length) ⟨0, by omega, by omega, by rw [hX, List.drop_zero], rfl, rfl⟩ (FrWk.mk (by simp [lV])) (AS.le_refl _) ?_
      rintro m2 f σ' ⟨k, hm2, hk, hX2, hs, rfl⟩
      subst σ'
      by_cases hlt2 : k < x.1.length
      · obtain ⟨y, hg2, hd2, hmem2, _⟩ := at_lt x.1 hlt2
        obtain ⟨_, hg2'⟩ := List.getElem?_eq_some_iff.1 hg2
        have hK : ((k : Int) < x.1.length) = True := by simp; omega
        have hyl := hc x hmem y hmem2
        have hdp2 : (pl1 x).drop k = y.1 :: (pl1 x).drop (k + 1) := by
          rw [pl1, ← List.map_drop, hd2, List.map_cons, List.map_drop]
        rw [hdp2] at hX2
        simp only [List.all_cons] at hX2
        by_cases hy : y.1.length = (kindsL i).length
        · have hy' : ((y.1.length : Int) = (kindsL i).length) = True := by simp; omega
          repeat (first
            | (with_reducible apply AWp.seq)
            | (with_reducible apply AWp.block)
            | ((with_reducible apply AWp.fork); simp -implicitDefEqProofs [hK, hlt2, hg2, hg2', lV, iV, hy, hy', hB1])
            | ((with_reducible apply AWp.region); simp -implicitDefEqProofs [hK, hlt2, hg2, hg2', lV, iV, hy, hy', hB1])
            | (with_reducible refine And.intro (by first | omega | assumption | decide) ?_)
            | ((with_reducible show condK _ _ _); simp -implicitDefEqProofs [hK, hlt2, hg2, hg2', lV, iV, hy, hy', hB1])
            | ((with_reducible show guardK _ _ _ _ _ _ _ _ _); simp -implicitDefEqProofs [hK, hlt2, hg2, hg2', lV, iV, hy, hy', hB1])
            | ((with_reducible apply aCall.id); first
                | ((apply aCall.gives (hcol _ _)); simp -implicitDefEqProofs [hK, hlt2, hg2, hg2', lV, iV, hy, hy', hB1]))
            | ((with_reducible apply AWp.ret); try simp -implicitDefEqProofs [hK, hlt2, hg2, hg2', lV, iV, hy, hy', hB1])
            | ((with_reducible apply AWp.skip); try simp -implicitDefEqProofs [hK, hlt2, hg2, hg2', lV, iV, hy, hy', hB1])
            | ((with_reducible apply AWp.exit); try simp -implicitDefEqProofs [hK, hlt2, hg2, hg2', lV, iV, hy, hy', hB1]))
          refine ⟨m2 - 1, _, _, by omega, FrWk.mk ?_, AS.le_refl _, k + 1, by omega, by omega, by rw [← hX2]; simp [hy], rfl, rfl⟩
          simp [lV, wInc (show k < 4000000000000000000 by omega)]
        · have hy' : ((y.1.length : Int) = (kindsL i).length) = False := by simp; omega
          repeat (first
            | (with_reducible apply AWp.seq)
            | (with_reducible apply AWp.block)
            | ((with_reducible apply AWp.fork); simp -implicitDefEqProofs [hK, hlt2, hg2, hg2', lV, iV, hy, hy', hB1])
            | ((with_reducible apply AWp.region); simp -implicitDefEqProofs [hK, hlt2, hg2, hg2', lV, iV, hy, hy', hB1])
            | (with_reducible refine And.intro (by first | omega | assumption | decide) ?_)
            | ((with_reducible show condK _ _ _); simp -implicitDefEqProofs [hK, hlt2, hg2, hg2', lV, iV, hy, hy', hB1])
            | ((with_reducible show guardK _ _ _ _ _ _ _ _ _); simp -implicitDefEqProofs [hK, hlt2, hg2, hg2', lV, iV, hy, hy', hB1])
            | ((with_reducible apply aCall.id); first
                | ((apply aCall.gives (hcol _ _)); simp -implicitDefEqProofs [hK, hlt2, hg2, hg2', lV, iV, hy, hy', hB1]))
            | ((with_reducible apply AWp.ret); try simp -implicitDefEqProofs [hK, hlt2, hg2, hg2', lV, iV, hy, hy', hB1])
            | ((with_reducible apply AWp.skip); try simp -implicitDefEqProofs [hK, hlt2, hg2, hg2', lV, iV, hy, hy', hB1])
            | ((with_reducible apply AWp.exit); try simp -implicitDefEqProofs [hK, hlt2, hg2, hg2', lV, iV, hy, hy', hB1]))
          rw [← hX2]
          simp [hy]
          exact hle
      · have hK : ((k : Int) < x.1.length) = False := by simp; omega
        repeat (first
          | (with_reducible apply AWp.seq)
          | (with_reducible apply AWp.block)
          | ((with_reducible apply AWp.fork); simp -implicitDefEqProofs [hK, hB1])
          | ((with_reducible apply AWp.region); simp -implicitDefEqProofs [hK, hB1])
          | (with_reducible refine And.intro (by first | omega | assumption | decide) ?_)
          | ((with_reducible show condK _ _ _); simp -implicitDefEqProofs [hK, hB1])
          | ((with_reducible show guardK _ _ _ _ _ _ _ _ _); simp -implicitDefEqProofs [hK, hB1])
          | ((with_reducible apply AWp.ret); try simp -implicitDefEqProofs [hK, hB1])
          | ((with_reducible apply AWp.skip); try simp -implicitDefEqProofs [hK, hB1])
          | ((with_reducible apply AWp.exit); try simp -implicitDefEqProofs [hK, hB1]))
        have hdn : (pl1 x).drop k = [] := List.drop_eq_nil_of_le (by simp [pl1]; omega)
        rw [hdn] at hX2
        refine ⟨m - 1, _, _, by omega, FrWk.mk ?_, AS.le_refl _, i + 1, by omega, by omega, by rw [hF0, ← hX2]; rfl, rfl, rfl⟩
        simp [wInc (show i < 4000000000000000000 by omega)]
    · have hI : ((i : Int) < R.length) = False := by simp; omega
      have hdn : (pl R).drop i = [] := List.drop_eq_nil_of_le (by simp [pl]; omega)
      rw [hdn] at hX
      repeat (first
        | (with_reducible apply AWp.seq)
        | (with_reducible apply AWp.block)
        | ((with_reducible apply AWp.fork); simp -implicitDefEqProofs [hI, hB1])
        | ((with_reducible apply AWp.region); simp -implicitDefEqProofs [hI, hB1])
        | (with_reducible refine And.intro (by first | omega | assumption | decide) ?_)
        | ((with_reducible show condK _ _ _); simp -implicitDefEqProofs [hI, hB1])
        | ((with_reducible show guardK _ _ _ _ _ _ _ _ _); simp -implicitDefEqProofs [hI, hB1])
        | ((with_reducible apply AWp.ret); try simp -implicitDefEqProofs [hI, hB1])
        | ((with_reducible apply AWp.skip); try simp -implicitDefEqProofs [hI, hB1])
        | ((with_reducible apply AWp.exit); try simp -implicitDefEqProofs [hI, hB1]))
      rw [hX]
      simp [formF]
      exact hle
  · have h6' : ((R.length : Int) = 6) = False := by simp; omega
    repeat (first
      | (with_reducible apply AWp.seq)
      | (with_reducible apply AWp.block)
      | ((with_reducible apply AWp.fork); simp -implicitDefEqProofs [h6'])
      | ((with_reducible apply AWp.region); simp -implicitDefEqProofs [h6'])
      | (with_reducible refine And.intro (by first | omega | assumption | decide) ?_)
      | ((with_reducible show condK _ _ _); simp -implicitDefEqProofs [h6'])
      | ((with_reducible show guardK _ _ _ _ _ _ _ _ _); simp -implicitDefEqProofs [h6'])
      | ((with_reducible apply AWp.ret); try simp -implicitDefEqProofs [h6'])
      | ((with_reducible apply AWp.skip); try simp -implicitDefEqProofs [h6'])
      | ((with_reducible apply AWp.exit); try simp -implicitDefEqProofs [h6']))
    simp [formedS, pl, h6]
    exact le_new h_id1 (AS.le_refl _)

end Go.Proofs.Ytpekbapmnmnjoaa
