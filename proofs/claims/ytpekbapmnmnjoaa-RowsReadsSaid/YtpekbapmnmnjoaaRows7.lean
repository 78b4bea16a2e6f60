/- Chapter 04: copied, wakes; RowsWrites, RowsCodes as walks. -/
import Derived.Test.YtpekbapmnmnjoaaRows6
set_option linter.unusedSimpArgs false
set_option linter.unusedVariables false
set_option maxRecDepth 100000
set_option maxHeartbeats 3200000
namespace Go.Proofs.Ytpekbapmnmnjoaa
open Go Go.AW

def cp1 (y : List Int × Bool) : List Int × Bool := (y.1, false)
def cpT (x : List (List Int × Bool) × Bool) : List (List Int × Bool) × Bool := (x.1.map cp1, decide (x.1 = []))

def coO (R : Tab) (o : Own) (nl : Bool) (en : Int) (id2 id3 to : Nat) (B : AS) (m : Nat) (f : Fr) (σ' : AS) : Prop :=
  ∃ i : Nat, m = R.length - i ∧ i ≤ R.length ∧ σ' = (B.set id3 (.cells 24 [.sc (.int .i64 en), .lst 69 (((R.take i).map cpT).map lV) (.tok to) (decide (i = 0))])).set to (.tok i) ∧
    f = mkF [(2, .ptr id2 0), (3, .ptr id3 0), (13, .lst 69 (R.map lV) o nl), (14, .sc (.int .i64 R.length)), (15, .sc (.int .i64 i))]
def coI (R : Tab) (o : Own) (nl : Bool) (i : Nat) (x : List (List Int × Bool) × Bool) (id2 id3 tk : Nat) (B : AS) (m : Nat) (f : Fr) (σ' : AS) : Prop :=
  ∃ k : Nat, m = x.1.length - k ∧ k ≤ x.1.length ∧ σ' = B.set tk (.tok k) ∧
    f = mkF [(2, .ptr id2 0), (3, .ptr id3 0), (6, .lst 70 (((x.1.take k).map cp1).map iV) (.tok tk) (decide (k = 0))), (13, .lst 69 (R.map lV) o nl), (14, .sc (.int .i64 R.length)), (15, .sc (.int .i64 i)),
      (19, lV x), (20, .sc (.int .i64 x.1.length)), (21, .sc (.int .i64 k))]

theorem copied_ok (en : Int) (R : Tab) (o : Own) (nl : Bool) (hR : R.length ≤ 20) (hr : ∀ x ∈ R, x.1.length ≤ 100) (hc : ∀ x ∈ R, ∀ y ∈ x.1, y.1.length ≤ 20) (σ : AS) :
    ACalls Try.prog 16 [tbV en R o nl] σ (Gives (tbV en (R.map cpT) .unk (decide (R = []))) σ) No := by
  refine ACalls.of_body Try.func16 rfl rfl (by simp [Try.ntmps16]) ?_
  simp only [tbV]
  repeat (first
    | (with_reducible apply AWp.seq)
    | (with_reducible apply AWp.block)
    | ((with_reducible apply AWp.fork); simp -implicitDefEqProofs)
    | ((with_reducible apply AWp.region); simp -implicitDefEqProofs)
    | (with_reducible refine And.intro (by first | omega | assumption | decide) ?_)
    | ((with_reducible apply AWp.ret); try simp -implicitDefEqProofs)
    | ((with_reducible apply AWp.skip); try simp -implicitDefEqProofs)
    | ((with_reducible apply AWp.exit); try simp -implicitDefEqProofs))
  intro id1 h_id1
  repeat (first
    | (with_reducible apply AWp.seq)
    | (with_reducible apply AWp.block)
    | ((with_reducible apply AWp.fork); simp -implicitDefEqProofs)
    | ((with_reducible apply AWp.region); simp -implicitDefEqProofs)
    | (with_reducible refine And.intro (by first | omega | assumption | decide) ?_)
    | ((with_reducible apply AWp.ret); try simp -implicitDefEqProofs)
    | ((with_reducible apply AWp.skip); try simp -implicitDefEqProofs)
    | ((with_reducible apply AWp.exit); try simp -implicitDefEqProofs))
  intro id2 n_id2_id1 h_id2
  have n_id1_id2 : ¬ id1 = id2 := fun e => n_id2_id1 e.symm
  repeat (first
    | (with_reducible apply AWp.seq)
    | (with_reducible apply AWp.block)
    | ((with_reducible apply AWp.fork); simp -implicitDefEqProofs [n_id2_id1, n_id1_id2])
    | ((with_reducible apply AWp.region); simp -implicitDefEqProofs [n_id2_id1, n_id1_id2])
    | (with_reducible refine And.intro (by first | omega | assumption | decide) ?_)
    | ((with_reducible show condK _ _ _); simp -implicitDefEqProofs [n_id2_id1, n_id1_id2])
    | ((with_reducible show guardK _ _ _ _ _ _ _ _ _); simp -implicitDefEqProofs [n_id2_id1, n_id1_id2])
    | ((with_reducible apply AWp.ret); try simp -implicitDefEqProofs [n_id2_id1, n_id1_id2])
    | ((with_reducible apply AWp.skip); try simp -implicitDefEqProofs [n_id2_id1, n_id1_id2])
    | ((with_reducible apply AWp.exit); try simp -implicitDefEqProofs [n_id2_id1, n_id1_id2]))
  intro id3 n_id3_id2 n_id3_id1 h_id3
  have n_id2_id3 : ¬ id2 = id3 := fun e => n_id3_id2 e.symm
  have n_id1_id3 : ¬ id1 = id3 := fun e => n_id3_id1 e.symm
  repeat (first
    | (with_reducible apply AWp.seq)
    | (with_reducible apply AWp.block)
    | ((with_reducible apply AWp.fork); simp -implicitDefEqProofs [n_id2_id1, n_id1_id2, n_id3_id2, n_id2_id3, n_id3_id1, n_id1_id3])
    | ((with_reducible apply AWp.region); simp -implicitDefEqProofs [n_id2_id1, n_id1_id2, n_id3_id2, n_id2_id3, n_id3_id1, n_id1_id3])
    | (with_reducible refine And.intro (by first | omega | assumption | decide) ?_)
    | ((with_reducible show condK _ _ _); simp -implicitDefEqProofs [n_id2_id1, n_id1_id2, n_id3_id2, n_id2_id3, n_id3_id1, n_id1_id3])
    | ((with_reducible show guardK _ _ _ _ _ _ _ _ _); simp -implicitDefEqProofs [n_id2_id1, n_id1_id2, n_id3_id2, n_id2_id3, n_id3_id1, n_id1_id3])
    | ((with_reducible apply AWp.ret); try simp -implicitDefEqProofs [n_id2_id1, n_id1_id2, n_id3_id2, n_id2_id3, n_id3_id1, n_id1_id3])
    | ((with_reducible apply AWp.skip); try simp -implicitDefEqProofs [n_id2_id1, n_id1_id2, n_id3_id2, n_id2_id3, n_id3_id1, n_id1_id3])
    | ((with_reducible apply AWp.exit); try simp -implicitDefEqProofs [n_id2_id1, n_id1_id2, n_id3_id2, n_id2_id3, n_id3_id1, n_id1_id3]))
  refine AWp.mintC id3 1 69 [] true (ty := 24) (cs := [.sc (.int .i64 en), .nilS]) (by simp [n_id3_id2, n_id3_id1]) (by simp) (.inr ⟨by simp, rfl, rfl⟩) ?_
  simp -implicitDefEqProofs [n_id2_id1, n_id1_id2, n_id3_id2, n_id2_id3, n_id3_id1, n_id1_id3]
  intro to n_to_id3 n_to_id2 n_to_id1 h_to
  have n_id3_to : ¬ id3 = to := fun e => n_to_id3 e.symm
  have n_id2_to : ¬ id2 = to := fun e => n_to_id2 e.symm
  have n_id1_to : ¬ id1 = to := fun e => n_to_id1 e.symm
  obtain ⟨B, B_s, hB1, hB2, eq_B, le_B⟩ : ∃ B : AS, ((σ.set id1 (.cells 24 [.sc (.int .i64 en), .lst 69 (R.map lV) o nl])).set id2 (.cells 24 [.sc (.int .i64 0), .nilS])) = B ∧ B id1 = some (.cells 24 [.sc (.int .i64 en), .lst 69 (R.map lV) o nl]) ∧ B id2 = some (.cells 24 [.sc (.int .i64 0), .nilS]) ∧ (∀ j, j ≠ id1 → j ≠ id2 → B j = σ j) ∧ (∀ S' : AS, (∀ j, j ≠ id1 → j ≠ id2 → ∀ y, B j = some y → S' j = some y) → AS.le σ S') := by
    refine ⟨_, rfl, by simp [n_id1_id2, n_id2_id1], by simp [n_id1_id2, n_id2_id1], ?_, ?_⟩
    · intro j e_id1 e_id2; simp [AS.set, e_id1, e_id2]
    intro S' h j x hj
    have e_id1 : j ≠ id1 := by rintro rfl; rw [h_id1] at hj; cases hj
    have e_id2 : j ≠ id2 := by rintro rfl; rw [h_id2] at hj; cases hj
    exact h j e_id1 e_id2 x (by simp [AS.set, e_id1, e_id2, hj])
  simp only [B_s]
  clear B_s
  have hB3 : B id3 = none := by rw [eq_B id3 n_id3_id1 n_id3_id2]; exact h_id3
  have hBto : B to = none := by rw [eq_B to n_to_id1 n_to_id2]; exact h_to
  refine AWp.loopI (coO R o nl en id2 id3 to B) (k0 := R.length) ⟨0, by omega, by omega, rfl, rfl⟩ (FrWk.mk (by simp)) (by simp) ?_
  rintro m f σ' ⟨i, hm, hi, hs, rfl⟩
  by_cases hlt : i < R.length
  · obtain ⟨x, hg, hg', hmem, _, _⟩ := drop_pl hlt
    have hI : ((i : Int) < R.length) = True := by simp; omega
    have hxl := hr x hmem
    have htk1 : (R.take (i + 1)).map cpT = (R.take i).map cpT ++ [cpT x] := by
      rw [List.take_succ_eq_append_getElem hlt, hg', List.map_append]; rfl
    have hD3 : σ' id3 = some (.cells 24 [.sc (.int .i64 en), .lst 69 (((R.take i).map cpT).map lV) (.tok to) (decide (i = 0))]) := by rw [hs]; simp [n_id3_to]
    have hDto : σ' to = some (.tok i) := by rw [hs]; simp
    repeat (first
      | (with_reducible apply AWp.seq)
      | (with_reducible apply AWp.block)
      | ((with_reducible apply AWp.fork); simp -implicitDefEqProofs [hI, hlt, hg, hg', lV, n_id2_id1, n_id1_id2, n_id3_id2, n_id2_id3, n_id3_id1, n_id1_id3, n_to_id3, n_id3_to, n_to_id2, n_id2_to, n_to_id1, n_id1_to, hB1, hB2])
      | ((with_reducible apply AWp.region); simp -implicitDefEqProofs [hI, hlt, hg, hg', lV, n_id2_id1, n_id1_id2, n_id3_id2, n_id2_id3, n_id3_id1, n_id1_id3, n_to_id3, n_id3_to, n_to_id2, n_id2_to, n_to_id1, n_id1_to, hB1, hB2])
      | (with_reducible refine And.intro (by first | omega | assumption | decide) ?_)
      | ((with_reducible show condK _ _ _); simp -implicitDefEqProofs [hI, hlt, hg, hg', lV, n_id2_id1, n_id1_id2, n_id3_id2, n_id2_id3, n_id3_id1, n_id1_id3, n_to_id3, n_id3_to, n_to_id2, n_id2_to, n_to_id1, n_id1_to, hB1, hB2])
      | ((with_reducible show guardK _ _ _ _ _ _ _ _ _); simp -implicitDefEqProofs [hI, hlt, hg, hg', lV, n_id2_id1, n_id1_id2, n_id3_id2, n_id2_id3, n_id3_id1, n_id1_id3, n_to_id3, n_id3_to, n_to_id2, n_id2_to, n_to_id1, n_id1_to, hB1, hB2])
      | ((with_reducible apply AWp.ret); try simp -implicitDefEqProofs [hI, hlt, hg, hg', lV, n_id2_id1, n_id1_id2, n_id3_id2, n_id2_id3, n_id3_id1, n_id1_id3, n_to_id3, n_id3_to, n_to_id2, n_id2_to, n_to_id1, n_id1_to, hB1, hB2])
      | ((with_reducible apply AWp.skip); try simp -implicitDefEqProofs [hI, hlt, hg, hg', lV, n_id2_id1, n_id1_id2, n_id3_id2, n_id2_id3, n_id3_id1, n_id1_id3, n_to_id3, n_id3_to, n_to_id2, n_id2_to, n_to_id1, n_id1_to, hB1, hB2])
      | ((with_reducible apply AWp.exit); try simp -implicitDefEqProofs [hI, hlt, hg, hg', lV, n_id2_id1, n_id1_id2, n_id3_id2, n_id2_id3, n_id3_id1, n_id1_id3, n_to_id3, n_id3_to, n_to_id2, n_id2_to, n_to_id1, n_id1_to, hB1, hB2]))
    refine AWp.mint 6 70 [] true (by simp [Try.ntmps16]) (.inr ⟨by simp, rfl, rfl⟩) ?_
    intro t6 h_t6
    have n_id3_t6 : ¬ id3 = t6 := by rintro rfl; rw [hD3] at h_t6; cases h_t6
    have n_t6_id3 : ¬ t6 = id3 := fun e => n_id3_t6 e.symm
    have n_to_t6 : ¬ to = t6 := by rintro rfl; rw [hDto] at h_t6; cases h_t6
    have n_t6_to : ¬ t6 = to := fun e => n_to_t6 e.symm
    have n6B : B t6 = none := by rw [hs] at h_t6; simpa [AS.set, n_t6_id3, n_t6_to] using h_t6
    simp -implicitDefEqProofs [n_id2_id1, n_id1_id2, n_id3_id2, n_id2_id3, n_id3_id1, n_id1_id3, n_to_id3, n_id3_to, n_to_id2, n_id2_to, n_to_id1, n_id1_to, hB1, hB2, n_t6_id3, n_id3_t6, hD3, n_t6_to, n_to_t6, hDto]
    refine AWp.loopI (coI R o nl i x id2 id3 t6 σ') (k0 := x.1.length) ⟨0, by omega, by omega, rfl, rfl⟩ (FrWk.mk (by simp [lV])) (AS.le_refl _) ?_
    rintro m2 f σ2 ⟨k, hm2, hk, hs2, rfl⟩
    subst σ2
    by_cases hlt2 : k < x.1.length
    · obtain ⟨y, hg2, hg2', hmem2, _, _⟩ := drop_pl1 hlt2
      have hK : ((k : Int) < x.1.length) = True := by simp; omega
      have hyl := hc x hmem y hmem2
      have htk2 : (x.1.take (k + 1)).map cp1 = (x.1.take k).map cp1 ++ [cp1 y] := by
        rw [List.take_succ_eq_append_getElem hlt2, hg2', List.map_append]; rfl
      have hlk : ((x.1.take k).map cp1).length = k := by simp; omega
      repeat (first
        | (with_reducible apply AWp.seq)
        | (with_reducible apply AWp.block)
        | ((with_reducible apply AWp.fork); simp -implicitDefEqProofs [hK, hlt2, hg2, hg2', lV, iV, n_id2_id1, n_id1_id2, n_id3_id2, n_id2_id3, n_id3_id1, n_id1_id3, n_to_id3, n_id3_to, n_to_id2, n_id2_to, n_to_id1, n_id1_to, hB1, hB2, n_t6_id3, n_id3_t6, hD3, n_t6_to, n_to_t6, hDto])
        | ((with_reducible apply AWp.region); simp -implicitDefEqProofs [hK, hlt2, hg2, hg2', lV, iV, n_id2_id1, n_id1_id2, n_id3_id2, n_id2_id3, n_id3_id1, n_id1_id3, n_to_id3, n_id3_to, n_to_id2, n_id2_to, n_to_id1, n_id1_to, hB1, hB2, n_t6_id3, n_id3_t6, hD3, n_t6_to, n_to_t6, hDto])
        | (with_reducible refine And.intro (by first | omega | assumption | decide) ?_)
        | ((with_reducible show condK _ _ _); simp -implicitDefEqProofs [hK, hlt2, hg2, hg2', lV, iV, n_id2_id1, n_id1_id2, n_id3_id2, n_id2_id3, n_id3_id1, n_id1_id3, n_to_id3, n_id3_to, n_to_id2, n_id2_to, n_to_id1, n_id1_to, hB1, hB2, n_t6_id3, n_id3_t6, hD3, n_t6_to, n_to_t6, hDto])
        | ((with_reducible show guardK _ _ _ _ _ _ _ _ _); simp -implicitDefEqProofs [hK, hlt2, hg2, hg2', lV, iV, n_id2_id1, n_id1_id2, n_id3_id2, n_id2_id3, n_id3_id1, n_id1_id3, n_to_id3, n_id3_to, n_to_id2, n_id2_to, n_to_id1, n_id1_to, hB1, hB2, n_t6_id3, n_id3_t6, hD3, n_t6_to, n_to_t6, hDto])
        | ((with_reducible apply AWp.ret); try simp -implicitDefEqProofs [hK, hlt2, hg2, hg2', lV, iV, n_id2_id1, n_id1_id2, n_id3_id2, n_id2_id3, n_id3_id1, n_id1_id3, n_to_id3, n_id3_to, n_to_id2, n_id2_to, n_to_id1, n_id1_to, hB1, hB2, n_t6_id3, n_id3_t6, hD3, n_t6_to, n_to_t6, hDto])
        | ((with_reducible apply AWp.skip); try simp -implicitDefEqProofs [hK, hlt2, hg2, hg2', lV, iV, n_id2_id1, n_id1_id2, n_id3_id2, n_id2_id3, n_id3_id1, n_id1_id3, n_to_id3, n_id3_to, n_to_id2, n_id2_to, n_to_id1, n_id1_to, hB1, hB2, n_t6_id3, n_id3_t6, hD3, n_t6_to, n_to_t6, hDto])
        | ((with_reducible apply AWp.exit); try simp -implicitDefEqProofs [hK, hlt2, hg2, hg2', lV, iV, n_id2_id1, n_id1_id2, n_id3_id2, n_id2_id3, n_id3_id1, n_id1_id3, n_to_id3, n_id3_to, n_to_id2, n_id2_to, n_to_id1, n_id1_to, hB1, hB2, n_t6_id3, n_id3_t6, hD3, n_t6_to, n_to_t6, hDto]))
      intro tk3 h3 h3B
      have h3' : ¬ t6 = tk3 := fun e => h3 e.symm
      have hmin : min k x.1.length = k := by omega
      simp -implicitDefEqProofs [h3, h3', hmin, n_id2_id1, n_id1_id2, n_id3_id2, n_id2_id3, n_id3_id1, n_id1_id3, n_to_id3, n_id3_to, n_to_id2, n_id2_to, n_to_id1, n_id1_to, hB1, hB2, n_t6_id3, n_id3_t6, hD3, n_t6_to, n_to_t6, hDto]
      repeat (first
        | (with_reducible apply AWp.seq)
        | (with_reducible apply AWp.block)
        | ((with_reducible apply AWp.fork); simp -implicitDefEqProofs [h3, h3', hmin, n_id2_id1, n_id1_id2, n_id3_id2, n_id2_id3, n_id3_id1, n_id1_id3, n_to_id3, n_id3_to, n_to_id2, n_id2_to, n_to_id1, n_id1_to, hB1, hB2, n_t6_id3, n_id3_t6, hD3, n_t6_to, n_to_t6, hDto])
        | ((with_reducible apply AWp.region); simp -implicitDefEqProofs [h3, h3', hmin, n_id2_id1, n_id1_id2, n_id3_id2, n_id2_id3, n_id3_id1, n_id1_id3, n_to_id3, n_id3_to, n_to_id2, n_id2_to, n_to_id1, n_id1_to, hB1, hB2, n_t6_id3, n_id3_t6, hD3, n_t6_to, n_to_t6, hDto])
        | (with_reducible refine And.intro (by first | omega | assumption | decide) ?_)
        | ((with_reducible show condK _ _ _); simp -implicitDefEqProofs [h3, h3', hmin, n_id2_id1, n_id1_id2, n_id3_id2, n_id2_id3, n_id3_id1, n_id1_id3, n_to_id3, n_id3_to, n_to_id2, n_id2_to, n_to_id1, n_id1_to, hB1, hB2, n_t6_id3, n_id3_t6, hD3, n_t6_to, n_to_t6, hDto])
        | ((with_reducible show guardK _ _ _ _ _ _ _ _ _); simp -implicitDefEqProofs [h3, h3', hmin, n_id2_id1, n_id1_id2, n_id3_id2, n_id2_id3, n_id3_id1, n_id1_id3, n_to_id3, n_id3_to, n_to_id2, n_id2_to, n_to_id1, n_id1_to, hB1, hB2, n_t6_id3, n_id3_t6, hD3, n_t6_to, n_to_t6, hDto])
        | ((with_reducible apply AWp.ret); try simp -implicitDefEqProofs [h3, h3', hmin, n_id2_id1, n_id1_id2, n_id3_id2, n_id2_id3, n_id3_id1, n_id1_id3, n_to_id3, n_id3_to, n_to_id2, n_id2_to, n_to_id1, n_id1_to, hB1, hB2, n_t6_id3, n_id3_t6, hD3, n_t6_to, n_to_t6, hDto])
        | ((with_reducible apply AWp.skip); try simp -implicitDefEqProofs [h3, h3', hmin, n_id2_id1, n_id1_id2, n_id3_id2, n_id2_id3, n_id3_id1, n_id1_id3, n_to_id3, n_id3_to, n_to_id2, n_id2_to, n_to_id1, n_id1_to, hB1, hB2, n_t6_id3, n_id3_t6, hD3, n_t6_to, n_to_t6, hDto])
        | ((with_reducible apply AWp.exit); try simp -implicitDefEqProofs [h3, h3', hmin, n_id2_id1, n_id1_id2, n_id3_id2, n_id2_id3, n_id3_id1, n_id1_id3, n_to_id3, n_id3_to, n_to_id2, n_id2_to, n_to_id1, n_id1_to, hB1, hB2, n_t6_id3, n_id3_t6, hD3, n_t6_to, n_to_t6, hDto]))
      refine ⟨m2 - 1, _, _, by omega, FrWk.mk ?_, ?_, k + 1, by omega, by omega, rfl, rfl⟩
      · simp [lV, wInc (show k < 4000000000000000000 by omega)]
        have e : List.take (k + 1) (List.map (iV ∘ cp1) x.1) = List.take k (List.map (iV ∘ cp1) x.1) ++ [iV (cp1 y)] := by
          rw [List.take_succ_eq_append_getElem (by simp; omega)]
          simp [hg2']
        rw [e]
        exact Wk_snoc (by simp [iV, cp1]) rfl rfl
      · exact le_new (by simp [h3, h3B]) (AS.le_refl _)
    · have hK : ((k : Int) < x.1.length) = False := by simp; omega
      obtain rfl : k = x.1.length := by omega
      repeat (first
        | (with_reducible apply AWp.seq)
        | (with_reducible apply AWp.block)
        | ((with_reducible apply AWp.fork); simp -implicitDefEqProofs [hK, n_id2_id1, n_id1_id2, n_id3_id2, n_id2_id3, n_id3_id1, n_id1_id3, n_to_id3, n_id3_to, n_to_id2, n_id2_to, n_to_id1, n_id1_to, hB1, hB2, n_t6_id3, n_id3_t6, hD3, n_t6_to, n_to_t6, hDto])
        | ((fail_if_success (with_reducible apply AWp.region (id := 12))); (with_reducible apply AWp.region); simp -implicitDefEqProofs [hK, n_id2_id1, n_id1_id2, n_id3_id2, n_id2_id3, n_id3_id1, n_id1_id3, n_to_id3, n_id3_to, n_to_id2, n_id2_to, n_to_id1, n_id1_to, hB1, hB2, n_t6_id3, n_id3_t6, hD3, n_t6_to, n_to_t6, hDto])
        | (with_reducible refine And.intro (by first | omega | assumption | decide) ?_)
        | ((with_reducible show condK _ _ _); simp -implicitDefEqProofs [hK, n_id2_id1, n_id1_id2, n_id3_id2, n_id2_id3, n_id3_id1, n_id1_id3, n_to_id3, n_id3_to, n_to_id2, n_id2_to, n_to_id1, n_id1_to, hB1, hB2, n_t6_id3, n_id3_t6, hD3, n_t6_to, n_to_t6, hDto])
        | ((with_reducible show guardK _ _ _ _ _ _ _ _ _); simp -implicitDefEqProofs [hK, n_id2_id1, n_id1_id2, n_id3_id2, n_id2_id3, n_id3_id1, n_id1_id3, n_to_id3, n_id3_to, n_to_id2, n_id2_to, n_to_id1, n_id1_to, hB1, hB2, n_t6_id3, n_id3_t6, hD3, n_t6_to, n_to_t6, hDto])
        | ((with_reducible apply AWp.ret); try simp -implicitDefEqProofs [hK, n_id2_id1, n_id1_id2, n_id3_id2, n_id2_id3, n_id3_id1, n_id1_id3, n_to_id3, n_id3_to, n_to_id2, n_id2_to, n_to_id1, n_id1_to, hB1, hB2, n_t6_id3, n_id3_t6, hD3, n_t6_to, n_to_t6, hDto])
        | ((with_reducible apply AWp.skip); try simp -implicitDefEqProofs [hK, n_id2_id1, n_id1_id2, n_id3_id2, n_id2_id3, n_id3_id1, n_id1_id3, n_to_id3, n_id3_to, n_to_id2, n_id2_to, n_to_id1, n_id1_to, hB1, hB2, n_t6_id3, n_id3_t6, hD3, n_t6_to, n_to_t6, hDto])
        | ((with_reducible apply AWp.exit); try simp -implicitDefEqProofs [hK, n_id2_id1, n_id1_id2, n_id3_id2, n_id2_id3, n_id3_id1, n_id1_id3, n_to_id3, n_id3_to, n_to_id2, n_id2_to, n_to_id1, n_id1_to, hB1, hB2, n_t6_id3, n_id3_t6, hD3, n_t6_to, n_to_t6, hDto]))
      refine AWp.wkC id3 [.sc (.int .i64 en), .lst 69 (((R.take (i + 1)).map cpT).map lV) (.tok to) false] (by simp [n_to_id3, n_id3_to, n_t6_id3, n_id3_t6]; exact ⟨rfl, rfl⟩) (by simp) (fun k hk => ?_) ?_
      · match k, hk with
        | 0, _ => simp
        | 1, _ =>
          rw [htk1]
          have eA : List.map lV (List.map cpT (List.take i R) ++ [cpT x]) = List.take i (List.map (lV ∘ cpT) R) ++ [lV (cpT x)] := by simp [List.map_take]
          rw [eA]
          simp only [List.getD_cons_succ, List.getD_cons_zero]
          exact Wk_snoc (by simp [lV, cpT]) rfl rfl
      simp -implicitDefEqProofs [n_id2_id1, n_id1_id2, n_id3_id2, n_id2_id3, n_id3_id1, n_id1_id3, n_to_id3, n_id3_to, n_to_id2, n_id2_to, n_to_id1, n_id1_to, hB1, hB2, n_t6_id3, n_id3_t6, hD3, n_t6_to, n_to_t6, hDto]
      have hmini : min i R.length = i := by omega
      repeat (first
        | (with_reducible apply AWp.seq)
        | (with_reducible apply AWp.block)
        | ((with_reducible apply AWp.fork); simp -implicitDefEqProofs [hmini, n_id2_id1, n_id1_id2, n_id3_id2, n_id2_id3, n_id3_id1, n_id1_id3, n_to_id3, n_id3_to, n_to_id2, n_id2_to, n_to_id1, n_id1_to, hB1, hB2, n_t6_id3, n_id3_t6, hD3, n_t6_to, n_to_t6, hDto])
        | ((with_reducible apply AWp.region); simp -implicitDefEqProofs [hmini, n_id2_id1, n_id1_id2, n_id3_id2, n_id2_id3, n_id3_id1, n_id1_id3, n_to_id3, n_id3_to, n_to_id2, n_id2_to, n_to_id1, n_id1_to, hB1, hB2, n_t6_id3, n_id3_t6, hD3, n_t6_to, n_to_t6, hDto])
        | (with_reducible refine And.intro (by first | omega | assumption | decide) ?_)
        | ((with_reducible show condK _ _ _); simp -implicitDefEqProofs [hmini, n_id2_id1, n_id1_id2, n_id3_id2, n_id2_id3, n_id3_id1, n_id1_id3, n_to_id3, n_id3_to, n_to_id2, n_id2_to, n_to_id1, n_id1_to, hB1, hB2, n_t6_id3, n_id3_t6, hD3, n_t6_to, n_to_t6, hDto])
        | ((with_reducible show guardK _ _ _ _ _ _ _ _ _); simp -implicitDefEqProofs [hmini, n_id2_id1, n_id1_id2, n_id3_id2, n_id2_id3, n_id3_id1, n_id1_id3, n_to_id3, n_id3_to, n_to_id2, n_id2_to, n_to_id1, n_id1_to, hB1, hB2, n_t6_id3, n_id3_t6, hD3, n_t6_to, n_to_t6, hDto])
        | ((with_reducible apply AWp.ret); try simp -implicitDefEqProofs [hmini, n_id2_id1, n_id1_id2, n_id3_id2, n_id2_id3, n_id3_id1, n_id1_id3, n_to_id3, n_id3_to, n_to_id2, n_id2_to, n_to_id1, n_id1_to, hB1, hB2, n_t6_id3, n_id3_t6, hD3, n_t6_to, n_to_t6, hDto])
        | ((with_reducible apply AWp.skip); try simp -implicitDefEqProofs [hmini, n_id2_id1, n_id1_id2, n_id3_id2, n_id2_id3, n_id3_id1, n_id1_id3, n_to_id3, n_id3_to, n_to_id2, n_id2_to, n_to_id1, n_id1_to, hB1, hB2, n_t6_id3, n_id3_t6, hD3, n_t6_to, n_to_t6, hDto])
        | ((with_reducible apply AWp.exit); try simp -implicitDefEqProofs [hmini, n_id2_id1, n_id1_id2, n_id3_id2, n_id2_id3, n_id3_id1, n_id1_id3, n_to_id3, n_id3_to, n_to_id2, n_id2_to, n_to_id1, n_id1_to, hB1, hB2, n_t6_id3, n_id3_t6, hD3, n_t6_to, n_to_t6, hDto]))
      refine ⟨m - 1, _, _, by omega, FrWk.mk ?_, ?_, i + 1, by omega, by omega, rfl, rfl⟩
      · simp [wInc (show i < 4000000000000000000 by omega)]
      · rw [hs]
        intro j_ y_ hy_
        by_cases e_id3 : j_ = id3
        · subst e_id3; simp [AS.set, n6B, hmini, n_id2_id1, n_id1_id2, n_id3_id2, n_id2_id3, n_id3_id1, n_id1_id3, n_to_id3, n_id3_to, n_to_id2, n_id2_to, n_to_id1, n_id1_to, hB1, hB2, n_t6_id3, n_id3_t6, hD3, n_t6_to, n_to_t6, hDto] at hy_ ⊢; try first | exact hy_ | (cases hy_; done)
        by_cases e_to : j_ = to
        · subst e_to; simp [AS.set, n6B, hmini, n_id2_id1, n_id1_id2, n_id3_id2, n_id2_id3, n_id3_id1, n_id1_id3, n_to_id3, n_id3_to, n_to_id2, n_id2_to, n_to_id1, n_id1_to, hB1, hB2, n_t6_id3, n_id3_t6, hD3, n_t6_to, n_to_t6, hDto] at hy_ ⊢; try first | exact hy_ | (cases hy_; done)
        by_cases e_t6 : j_ = t6
        · subst e_t6; simp [AS.set, n6B, hmini, n_id2_id1, n_id1_id2, n_id3_id2, n_id2_id3, n_id3_id1, n_id1_id3, n_to_id3, n_id3_to, n_to_id2, n_id2_to, n_to_id1, n_id1_to, hB1, hB2, n_t6_id3, n_id3_t6, hD3, n_t6_to, n_to_t6, hDto] at hy_ ⊢; try first | exact hy_ | (cases hy_; done)
        simp [AS.set, n6B, hmini, n_id2_id1, n_id1_id2, n_id3_id2, n_id2_id3, n_id3_id1, n_id1_id3, n_to_id3, n_id3_to, n_to_id2, n_id2_to, n_to_id1, n_id1_to, hB1, hB2, n_t6_id3, n_id3_t6, hD3, n_t6_to, n_to_t6, hDto, e_id3, e_to, e_t6] at hy_ ⊢; try exact hy_
  · have hI : ((i : Int) < R.length) = False := by simp; omega
    obtain rfl : i = R.length := by omega
    subst σ'
    have hz : decide (R.length = 0) = decide (R = []) := by simp
    repeat (first
      | (with_reducible apply AWp.seq)
      | (with_reducible apply AWp.block)
      | ((with_reducible apply AWp.fork); simp -implicitDefEqProofs [hI, n_id2_id1, n_id1_id2, n_id3_id2, n_id2_id3, n_id3_id1, n_id1_id3, n_to_id3, n_id3_to, n_to_id2, n_id2_to, n_to_id1, n_id1_to, hB1, hB2])
      | ((with_reducible apply AWp.region); simp -implicitDefEqProofs [hI, n_id2_id1, n_id1_id2, n_id3_id2, n_id2_id3, n_id3_id1, n_id1_id3, n_to_id3, n_id3_to, n_to_id2, n_id2_to, n_to_id1, n_id1_to, hB1, hB2])
      | (with_reducible refine And.intro (by first | omega | assumption | decide) ?_)
      | ((with_reducible show condK _ _ _); simp -implicitDefEqProofs [hI, n_id2_id1, n_id1_id2, n_id3_id2, n_id2_id3, n_id3_id1, n_id1_id3, n_to_id3, n_id3_to, n_to_id2, n_id2_to, n_to_id1, n_id1_to, hB1, hB2])
      | ((with_reducible show guardK _ _ _ _ _ _ _ _ _); simp -implicitDefEqProofs [hI, n_id2_id1, n_id1_id2, n_id3_id2, n_id2_id3, n_id3_id1, n_id1_id3, n_to_id3, n_id3_to, n_to_id2, n_id2_to, n_to_id1, n_id1_to, hB1, hB2])
      | ((with_reducible apply AWp.ret); try simp -implicitDefEqProofs [hI, n_id2_id1, n_id1_id2, n_id3_id2, n_id2_id3, n_id3_id1, n_id1_id3, n_to_id3, n_id3_to, n_to_id2, n_id2_to, n_to_id1, n_id1_to, hB1, hB2])
      | ((with_reducible apply AWp.skip); try simp -implicitDefEqProofs [hI, n_id2_id1, n_id1_id2, n_id3_id2, n_id2_id3, n_id3_id1, n_id1_id3, n_to_id3, n_id3_to, n_to_id2, n_id2_to, n_to_id1, n_id1_to, hB1, hB2])
      | ((with_reducible apply AWp.exit); try simp -implicitDefEqProofs [hI, n_id2_id1, n_id1_id2, n_id3_id2, n_id2_id3, n_id3_id1, n_id1_id3, n_to_id3, n_id3_to, n_to_id2, n_id2_to, n_to_id1, n_id1_to, hB1, hB2]))
    refine ⟨Wk_agg2 (by simp) (by simp), ?_⟩
    refine le_B _ fun j e1 e2 y hy => ?_
    have e3 : j ≠ id3 := by rintro rfl; rw [hB3] at hy; cases hy
    have eo : j ≠ to := by rintro rfl; rw [hBto] at hy; cases hy
    simp [AS.set, e2, e3, eo, hy]

end Go.Proofs.Ytpekbapmnmnjoaa
