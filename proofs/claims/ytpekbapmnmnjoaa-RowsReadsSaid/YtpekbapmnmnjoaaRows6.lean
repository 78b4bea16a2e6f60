/- Chapter 04: SameInts, Same, Long, copied, wakes. -/
import Derived.Test.YtpekbapmnmnjoaaRows5
set_option linter.unusedSimpArgs false
set_option linter.unusedVariables false
set_option maxRecDepth 100000
set_option maxHeartbeats 3200000
namespace Go.Proofs.Ytpekbapmnmnjoaa
open Go Go.AW

theorem own : ownKnob Try.prog.godebug = none := by kernel_rfl
theorem laidOut : laidOutB Try.prog = true := by kernel_rfl

def siI (l m : List Int) (o1 o2 : Own) (n1 n2 : Bool) (σ : AS) (k : Nat) (fr : Fr) (σ' : AS) : Prop :=
  ∃ i : Nat, k = l.length - i ∧ i ≤ l.length ∧ decide (l = m) = decide (l.drop i = m.drop i) ∧ σ' = σ ∧
    fr = mkF [(0, .lst 3 (l.map i64v) o1 n1), (1, .lst 3 (m.map i64v) o2 n2), (5, .sc (.int .i64 i))]

theorem sints_ok (l m : List Int) (o1 o2 : Own) (n1 n2 : Bool) (hl : l.length ≤ 140737488355328) (hm : m.length ≤ 140737488355328) (σ : AS) :
    ACalls Try.prog 46 [.lst 3 (l.map i64v) o1 n1, .lst 3 (m.map i64v) o2 n2] σ (Gives (.sc (.bool (decide (l = m)))) σ) No := by
  refine ACalls.of_body Try.func46 rfl rfl (by simp [Try.ntmps46]) ?_
  by_cases hlen : l.length = m.length
  · have hlen' : (l.length : Int) = m.length := by omega
    repeat (first
      | (with_reducible apply AWp.seq)
      | (with_reducible apply AWp.block)
      | ((with_reducible apply AWp.fork); simp -implicitDefEqProofs [hlen, hlen'])
      | ((with_reducible apply AWp.region); simp -implicitDefEqProofs [hlen, hlen'])
      | (with_reducible refine And.intro (by first | omega | assumption | decide) ?_)
      | ((with_reducible show condK _ _ _); simp -implicitDefEqProofs [hlen, hlen'])
      | ((with_reducible show guardK _ _ _ _ _ _ _ _ _); simp -implicitDefEqProofs [hlen, hlen'])
      | (((with_reducible apply AWp.drawS (id := 6) (t := (Sch.step 0 (Sch.step 1 (Sch.step 2 (Sch.step 4 (Sch.step 5 (Sch.step 6 (Sch.read 3 (Sch.read 7 (Sch.step 8 Sch.done))))))))))); (exact mixed); kernel_rfl; kernel_rfl; (repeat (with_reducible first | apply PanQ.then | apply PanQ.block | apply PanQ.body | apply PanQ.no))); simp -implicitDefEqProofs [hlen, hlen'])
      | ((with_reducible apply AWp.ret); try simp -implicitDefEqProofs [hlen, hlen'])
      | ((with_reducible apply AWp.skip); try simp -implicitDefEqProofs [hlen, hlen'])
      | ((with_reducible apply AWp.exit); try simp -implicitDefEqProofs [hlen, hlen']))
    refine AWp.loopI (siI l m o1 o2 n1 n2 σ) (k0 := l.length) ⟨0, by omega, by omega, rfl, rfl, rfl⟩ (FrWk.mk (by simp)) (AS.le_refl _) ?_
    rintro k fr σ' ⟨i, hk, hi, hD, rfl, rfl⟩
    by_cases hlt : i < l.length
    · obtain ⟨r, hg, hd1, _, _⟩ := at_lt l hlt
      obtain ⟨q, hq, hd2, _, _⟩ := at_lt m (i := i) (by omega)
      obtain ⟨_, hg'⟩ := List.getElem?_eq_some_iff.1 hg
      obtain ⟨hlt2, hq'⟩ := List.getElem?_eq_some_iff.1 hq
      have hI : ((i : Int) < l.length) = True := by simp; omega
      have hI2 : ((i : Int) < m.length) = True := by simp; omega
      rw [hd1, hd2] at hD
      by_cases he : r = q
      · subst he
        repeat (first
          | (with_reducible apply AWp.seq)
          | (with_reducible apply AWp.block)
          | ((with_reducible apply AWp.fork); simp -implicitDefEqProofs [hI, hI2, hlt, hlt2, hg, hq, hg', hq', i64v_def])
          | ((with_reducible apply AWp.region); simp -implicitDefEqProofs [hI, hI2, hlt, hlt2, hg, hq, hg', hq', i64v_def])
          | (with_reducible refine And.intro (by first | omega | assumption | decide) ?_)
          | ((with_reducible show condK _ _ _); simp -implicitDefEqProofs [hI, hI2, hlt, hlt2, hg, hq, hg', hq', i64v_def])
          | ((with_reducible show guardK _ _ _ _ _ _ _ _ _); simp -implicitDefEqProofs [hI, hI2, hlt, hlt2, hg, hq, hg', hq', i64v_def])
          | (((with_reducible apply AWp.drawS (id := 6) (t := (Sch.step 0 (Sch.step 1 (Sch.step 2 (Sch.step 4 (Sch.step 5 (Sch.step 6 (Sch.read 3 (Sch.read 7 (Sch.step 8 Sch.done))))))))))); (exact mixed); kernel_rfl; kernel_rfl; (repeat (with_reducible first | apply PanQ.then | apply PanQ.block | apply PanQ.body | apply PanQ.no))); simp -implicitDefEqProofs [hI, hI2, hlt, hlt2, hg, hq, hg', hq', i64v_def])
          | ((with_reducible apply AWp.ret); try simp -implicitDefEqProofs [hI, hI2, hlt, hlt2, hg, hq, hg', hq', i64v_def])
          | ((with_reducible apply AWp.skip); try simp -implicitDefEqProofs [hI, hI2, hlt, hlt2, hg, hq, hg', hq', i64v_def])
          | ((with_reducible apply AWp.exit); try simp -implicitDefEqProofs [hI, hI2, hlt, hlt2, hg, hq, hg', hq', i64v_def]))
        refine ⟨k - 1, _, _, by omega, FrWk.mk ?_, AS.le_refl _, i + 1, by omega, by omega, by rw [hD]; simp, rfl, rfl⟩
        simp [wInc (show i < 4000000000000000000 by omega), i64v_def]
      · repeat (first
          | (with_reducible apply AWp.seq)
          | (with_reducible apply AWp.block)
          | ((with_reducible apply AWp.fork); simp -implicitDefEqProofs [hI, hI2, hlt, hlt2, hg, hq, hg', hq', i64v_def, he])
          | ((with_reducible apply AWp.region); simp -implicitDefEqProofs [hI, hI2, hlt, hlt2, hg, hq, hg', hq', i64v_def, he])
          | (with_reducible refine And.intro (by first | omega | assumption | decide) ?_)
          | ((with_reducible show condK _ _ _); simp -implicitDefEqProofs [hI, hI2, hlt, hlt2, hg, hq, hg', hq', i64v_def, he])
          | ((with_reducible show guardK _ _ _ _ _ _ _ _ _); simp -implicitDefEqProofs [hI, hI2, hlt, hlt2, hg, hq, hg', hq', i64v_def, he])
          | (((with_reducible apply AWp.drawS (id := 6) (t := (Sch.step 0 (Sch.step 1 (Sch.step 2 (Sch.step 4 (Sch.step 5 (Sch.step 6 (Sch.read 3 (Sch.read 7 (Sch.step 8 Sch.done))))))))))); (exact mixed); kernel_rfl; kernel_rfl; (repeat (with_reducible first | apply PanQ.then | apply PanQ.block | apply PanQ.body | apply PanQ.no))); simp -implicitDefEqProofs [hI, hI2, hlt, hlt2, hg, hq, hg', hq', i64v_def, he])
          | ((with_reducible apply AWp.ret); try simp -implicitDefEqProofs [hI, hI2, hlt, hlt2, hg, hq, hg', hq', i64v_def, he])
          | ((with_reducible apply AWp.skip); try simp -implicitDefEqProofs [hI, hI2, hlt, hlt2, hg, hq, hg', hq', i64v_def, he])
          | ((with_reducible apply AWp.exit); try simp -implicitDefEqProofs [hI, hI2, hlt, hlt2, hg, hq, hg', hq', i64v_def, he]))
        simp [hD, he]
    · have hI : ((i : Int) < l.length) = False := by simp; omega
      have hI2 : ((i : Int) < m.length) = False := by simp; omega
      have e1 : l.drop i = [] := List.drop_eq_nil_of_le (by omega)
      have e2 : m.drop i = [] := List.drop_eq_nil_of_le (by omega)
      rw [e1, e2] at hD
      repeat (first
        | (with_reducible apply AWp.seq)
        | (with_reducible apply AWp.block)
        | ((with_reducible apply AWp.fork); simp -implicitDefEqProofs [hI, hI2])
        | ((with_reducible apply AWp.region); simp -implicitDefEqProofs [hI, hI2])
        | (with_reducible refine And.intro (by first | omega | assumption | decide) ?_)
        | ((with_reducible show condK _ _ _); simp -implicitDefEqProofs [hI, hI2])
        | ((with_reducible show guardK _ _ _ _ _ _ _ _ _); simp -implicitDefEqProofs [hI, hI2])
        | (((with_reducible apply AWp.drawS (id := 6) (t := (Sch.step 0 (Sch.step 1 (Sch.step 2 (Sch.step 4 (Sch.step 5 (Sch.step 6 (Sch.read 3 (Sch.read 7 (Sch.step 8 Sch.done))))))))))); (exact mixed); kernel_rfl; kernel_rfl; (repeat (with_reducible first | apply PanQ.then | apply PanQ.block | apply PanQ.body | apply PanQ.no))); simp -implicitDefEqProofs [hI, hI2])
        | ((with_reducible apply AWp.ret); try simp -implicitDefEqProofs [hI, hI2])
        | ((with_reducible apply AWp.skip); try simp -implicitDefEqProofs [hI, hI2])
        | ((with_reducible apply AWp.exit); try simp -implicitDefEqProofs [hI, hI2]))
      simp [hD]
  · have hlen' : ¬ (l.length : Int) = m.length := by omega
    repeat (first
      | (with_reducible apply AWp.seq)
      | (with_reducible apply AWp.block)
      | ((with_reducible apply AWp.fork); simp -implicitDefEqProofs [hlen, hlen'])
      | ((with_reducible apply AWp.region); simp -implicitDefEqProofs [hlen, hlen'])
      | (with_reducible refine And.intro (by first | omega | assumption | decide) ?_)
      | ((with_reducible show condK _ _ _); simp -implicitDefEqProofs [hlen, hlen'])
      | ((with_reducible show guardK _ _ _ _ _ _ _ _ _); simp -implicitDefEqProofs [hlen, hlen'])
      | (((with_reducible apply AWp.drawS (id := 6) (t := (Sch.step 0 (Sch.step 1 (Sch.step 2 (Sch.step 4 (Sch.step 5 (Sch.step 6 (Sch.read 3 (Sch.read 7 (Sch.step 8 Sch.done))))))))))); (exact mixed); kernel_rfl; kernel_rfl; (repeat (with_reducible first | apply PanQ.then | apply PanQ.block | apply PanQ.body | apply PanQ.no))); simp -implicitDefEqProofs [hlen, hlen'])
      | ((with_reducible apply AWp.ret); try simp -implicitDefEqProofs [hlen, hlen'])
      | ((with_reducible apply AWp.skip); try simp -implicitDefEqProofs [hlen, hlen'])
      | ((with_reducible apply AWp.exit); try simp -implicitDefEqProofs [hlen, hlen']))
    have : ¬ l = m := by intro e; exact hlen (by rw [e])
    simp [this]

theorem drop_pl {R : Tab} {i : Nat} (hi : i < R.length) : ∃ x, R[i]? = some x ∧ R[i] = x ∧ x ∈ R ∧ (pl R).drop i = pl1 x :: (pl R).drop (i + 1) ∧ R.drop i = x :: R.drop (i + 1) := by
  obtain ⟨x, hg, hd, hmem, _⟩ := at_lt R hi
  exact ⟨x, hg, (List.getElem?_eq_some_iff.1 hg).2, hmem, by rw [pl, ← List.map_drop, hd, List.map_cons, List.map_drop], hd⟩
theorem drop_pl1 {x : List (List Int × Bool) × Bool} {k : Nat} (hk : k < x.1.length) : ∃ y, x.1[k]? = some y ∧ x.1[k] = y ∧ y ∈ x.1 ∧ (pl1 x).drop k = y.1 :: (pl1 x).drop (k + 1) ∧ x.1.drop k = y :: x.1.drop (k + 1) := by
  obtain ⟨y, hg, hd, hmem, _⟩ := at_lt x.1 hk
  exact ⟨y, hg, (List.getElem?_eq_some_iff.1 hg).2, hmem, by rw [pl1, ← List.map_drop, hd, List.map_cons, List.map_drop], hd⟩

def long1 (x : List (List Int × Bool) × Bool) : Bool := decide (100 < x.1.length) || x.1.any (fun y => decide (20 < y.1.length))
def longT (R : Tab) : Bool := decide (20 < R.length) || R.any long1

def lgO (R : Tab) (id1 : Nat) (B : AS) (m : Nat) (f : Fr) (σ' : AS) : Prop :=
  ∃ i : Nat, m = R.length - i ∧ i ≤ R.length ∧ R.any long1 = (R.drop i).any long1 ∧ σ' = B ∧ f = mkF [(1, .ptr id1 0), (3, .sc (.int .i64 i))]
def lgI (i : Nat) (x : List (List Int × Bool) × Bool) (X Y : Bool) (id1 : Nat) (B : AS) (m : Nat) (f : Fr) (σ' : AS) : Prop :=
  ∃ k : Nat, m = x.1.length - k ∧ k ≤ x.1.length ∧ X = ((x.1.drop k).any (fun y => decide (20 < y.1.length)) || Y) ∧ σ' = B ∧ f = mkF [(1, .ptr id1 0), (3, .sc (.int .i64 i)), (4, .sc (.int .i64 k))]

theorem rlong_ok (en : Int) (R : Tab) (o : Own) (nl : Bool) (hR : R.length ≤ 140737488355328) (hr : ∀ x ∈ R, x.1.length ≤ 140737488355328) (hc : ∀ x ∈ R, ∀ y ∈ x.1, y.1.length ≤ 140737488355328) (σ : AS) :
    ACalls Try.prog 15 [tbV en R o nl] σ (Gives (.sc (.bool (longT R))) σ) No := by
  refine ACalls.of_body Try.func15 rfl rfl (by simp [Try.ntmps15]) ?_
  simp only [tbV]
  repeat (first
    | (with_reducible apply AWp.seq)
    | (with_reducible apply AWp.block)
    | ((with_reducible apply AWp.fork); simp -implicitDefEqProofs)
    | ((with_reducible apply AWp.region); simp -implicitDefEqProofs)
    | (with_reducible refine And.intro (by first | omega | assumption | decide) ?_)
    | ((with_reducible apply AWp.ret); try simp -implicitDefEqProofs)
    | ((with_reducible apply AWp.skip); try simp -implicitDefEqProofs)
    | ((with_reducible apply AWp.exit); try simp -implicitDefEqProofs))
  intro id1 h_id1
  by_cases h6 : 20 < R.length
  · have h6' : (20 < (R.length : Int)) = True := by simp; omega
    repeat (first
      | (with_reducible apply AWp.seq)
      | (with_reducible apply AWp.block)
      | ((with_reducible apply AWp.fork); simp -implicitDefEqProofs [h6'])
      | ((with_reducible apply AWp.region); simp -implicitDefEqProofs [h6'])
      | (with_reducible refine And.intro (by first | omega | assumption | decide) ?_)
      | ((with_reducible show condK _ _ _); simp -implicitDefEqProofs [h6'])
      | ((with_reducible show guardK _ _ _ _ _ _ _ _ _); simp -implicitDefEqProofs [h6'])
      | ((with_reducible apply AWp.ret); try simp -implicitDefEqProofs [h6'])
      | ((with_reducible apply AWp.skip); try simp -implicitDefEqProofs [h6'])
      | ((with_reducible apply AWp.exit); try simp -implicitDefEqProofs [h6']))
    simp [longT, h6]
    exact le_new h_id1 (AS.le_refl _)
  · have h6' : (20 < (R.length : Int)) = False := by simp; omega
    have hS : longT R = R.any long1 := by simp [longT, h6]
    rw [hS]
    obtain ⟨B, B_s, hB1, eq_B, le_B⟩ : ∃ B : AS, (σ.set id1 (.cells 24 [.sc (.int .i64 en), .lst 69 (R.map lV) o nl])) = B ∧ B id1 = some (.cells 24 [.sc (.int .i64 en), .lst 69 (R.map lV) o nl]) ∧ (∀ j, j ≠ id1 → B j = σ j) ∧ (∀ S' : AS, (∀ j, j ≠ id1 → ∀ y, B j = some y → S' j = some y) → AS.le σ S') := by
      refine ⟨_, rfl, by simp [], ?_, ?_⟩
      · intro j e_id1; simp [AS.set, e_id1]
      intro S' h j x hj
      have e_id1 : j ≠ id1 := by rintro rfl; rw [h_id1] at hj; cases hj
      exact h j e_id1 x (by simp [AS.set, e_id1, hj])
    simp only [B_s]
    clear B_s
    have hle : AS.le σ B := le_B B fun _ _ _ h => h
    repeat (first
      | (with_reducible apply AWp.seq)
      | (with_reducible apply AWp.block)
      | ((with_reducible apply AWp.fork); simp -implicitDefEqProofs [h6', hB1])
      | ((with_reducible apply AWp.region); simp -implicitDefEqProofs [h6', hB1])
      | (with_reducible refine And.intro (by first | omega | assumption | decide) ?_)
      | ((with_reducible show condK _ _ _); simp -implicitDefEqProofs [h6', hB1])
      | ((with_reducible show guardK _ _ _ _ _ _ _ _ _); simp -implicitDefEqProofs [h6', hB1])
      | ((with_reducible apply AWp.ret); try simp -implicitDefEqProofs [h6', hB1])
      | ((with_reducible apply AWp.skip); try simp -implicitDefEqProofs [h6', hB1])
      | ((with_reducible apply AWp.exit); try simp -implicitDefEqProofs [h6', hB1]))
    refine AWp.loopI (lgO R id1 B) (k0 := R.length) ⟨0, by omega, by omega, by simp, rfl, rfl⟩ (FrWk.mk (by simp)) (AS.le_refl _) ?_
    rintro m f σ' ⟨i, hm, hi, hX, hs, rfl⟩
    subst σ'
    by_cases hlt : i < R.length
    · obtain ⟨x, hg, hg', hmem, _, hd⟩ := drop_pl hlt
      have hI : ((i : Int) < R.length) = True := by simp; omega
      have hxl := hr x hmem
      rw [hd] at hX
      simp only [List.any_cons, long1] at hX
      by_cases hz : 100 < x.1.length
      · have hz' : (100 < (x.1.length : Int)) = True := by simp; omega
        repeat (first
          | (with_reducible apply AWp.seq)
          | (with_reducible apply AWp.block)
          | ((with_reducible apply AWp.fork); simp -implicitDefEqProofs [hI, hlt, hg, hg', lV, hz', hB1])
          | ((with_reducible apply AWp.region); simp -implicitDefEqProofs [hI, hlt, hg, hg', lV, hz', hB1])
          | (with_reducible refine And.intro (by first | omega | assumption | decide) ?_)
          | ((with_reducible show condK _ _ _); simp -implicitDefEqProofs [hI, hlt, hg, hg', lV, hz', hB1])
          | ((with_reducible show guardK _ _ _ _ _ _ _ _ _); simp -implicitDefEqProofs [hI, hlt, hg, hg', lV, hz', hB1])
          | ((with_reducible apply AWp.ret); try simp -implicitDefEqProofs [hI, hlt, hg, hg', lV, hz', hB1])
          | ((with_reducible apply AWp.skip); try simp -implicitDefEqProofs [hI, hlt, hg, hg', lV, hz', hB1])
          | ((with_reducible apply AWp.exit); try simp -implicitDefEqProofs [hI, hlt, hg, hg', lV, hz', hB1]))
        rw [hX]
        simp [hz]
        exact hle
      · have hz' : (100 < (x.1.length : Int)) = False := by simp; omega
        repeat (first
          | (with_reducible apply AWp.seq)
          | (with_reducible apply AWp.block)
          | ((with_reducible apply AWp.fork); simp -implicitDefEqProofs [hI, hlt, hg, hg', lV, hz', hB1])
          | ((with_reducible apply AWp.region); simp -implicitDefEqProofs [hI, hlt, hg, hg', lV, hz', hB1])
          | (with_reducible refine And.intro (by first | omega | assumption | decide) ?_)
          | ((with_reducible show condK _ _ _); simp -implicitDefEqProofs [hI, hlt, hg, hg', lV, hz', hB1])
          | ((with_reducible show guardK _ _ _ _ _ _ _ _ _); simp -implicitDefEqProofs [hI, hlt, hg, hg', lV, hz', hB1])
          | ((with_reducible apply AWp.ret); try simp -implicitDefEqProofs [hI, hlt, hg, hg', lV, hz', hB1])
          | ((with_reducible apply AWp.skip); try simp -implicitDefEqProofs [hI, hlt, hg, hg', lV, hz', hB1])
          | ((with_reducible apply AWp.exit); try simp -implicitDefEqProofs [hI, hlt, hg, hg', lV, hz', hB1]))
        simp only [hz, decide_false, Bool.false_or] at hX
        generalize hF0 : R.any long1 = F0 at hX ⊢
        refine AWp.loopI (lgI i x F0 ((R.drop (i + 1)).any long1) id1 B) (k0 := x.1.length) ⟨0, by omega, by omega, by rw [hX, List.drop_zero], rfl, rfl⟩ (FrWk.mk (by simp)) (AS.le_refl _) ?_
        rintro m2 f σ' ⟨k, hm2, hk, hX2, hs, rfl⟩
        subst σ'
        by_cases hlt2 : k < x.1.length
        · obtain ⟨y, hg2, hg2', hmem2, _, hd2⟩ := drop_pl1 hlt2
          have hK : ((k : Int) < x.1.length) = True := by simp; omega
          have hyl := hc x hmem y hmem2
          rw [hd2] at hX2
          simp only [List.any_cons] at hX2
          by_cases hy : 20 < y.1.length
          · have hy' : (20 < (y.1.length : Int)) = True := by simp; omega
            repeat (first
              | (with_reducible apply AWp.seq)
              | (with_reducible apply AWp.block)
              | ((with_reducible apply AWp.fork); simp -implicitDefEqProofs [hI, hlt, hg, hg', hK, hlt2, hg2, hg2', lV, iV, hy', hB1])
              | ((with_reducible apply AWp.region); simp -implicitDefEqProofs [hI, hlt, hg, hg', hK, hlt2, hg2, hg2', lV, iV, hy', hB1])
              | (with_reducible refine And.intro (by first | omega | assumption | decide) ?_)
              | ((with_reducible show condK _ _ _); simp -implicitDefEqProofs [hI, hlt, hg, hg', hK, hlt2, hg2, hg2', lV, iV, hy', hB1])
              | ((with_reducible show guardK _ _ _ _ _ _ _ _ _); simp -implicitDefEqProofs [hI, hlt, hg, hg', hK, hlt2, hg2, hg2', lV, iV, hy', hB1])
              | ((with_reducible apply AWp.ret); try simp -implicitDefEqProofs [hI, hlt, hg, hg', hK, hlt2, hg2, hg2', lV, iV, hy', hB1])
              | ((with_reducible apply AWp.skip); try simp -implicitDefEqProofs [hI, hlt, hg, hg', hK, hlt2, hg2, hg2', lV, iV, hy', hB1])
              | ((with_reducible apply AWp.exit); try simp -implicitDefEqProofs [hI, hlt, hg, hg', hK, hlt2, hg2, hg2', lV, iV, hy', hB1]))
            rw [hX2]
            simp [hy]
            exact hle
          · have hy' : (20 < (y.1.length : Int)) = False := by simp; omega
            repeat (first
              | (with_reducible apply AWp.seq)
              | (with_reducible apply AWp.block)
              | ((with_reducible apply AWp.fork); simp -implicitDefEqProofs [hI, hlt, hg, hg', hK, hlt2, hg2, hg2', lV, iV, hy', hB1])
              | ((with_reducible apply AWp.region); simp -implicitDefEqProofs [hI, hlt, hg, hg', hK, hlt2, hg2, hg2', lV, iV, hy', hB1])
              | (with_reducible refine And.intro (by first | omega | assumption | decide) ?_)
              | ((with_reducible show condK _ _ _); simp -implicitDefEqProofs [hI, hlt, hg, hg', hK, hlt2, hg2, hg2', lV, iV, hy', hB1])
              | ((with_reducible show guardK _ _ _ _ _ _ _ _ _); simp -implicitDefEqProofs [hI, hlt, hg, hg', hK, hlt2, hg2, hg2', lV, iV, hy', hB1])
              | ((with_reducible apply AWp.ret); try simp -implicitDefEqProofs [hI, hlt, hg, hg', hK, hlt2, hg2, hg2', lV, iV, hy', hB1])
              | ((with_reducible apply AWp.skip); try simp -implicitDefEqProofs [hI, hlt, hg, hg', hK, hlt2, hg2, hg2', lV, iV, hy', hB1])
              | ((with_reducible apply AWp.exit); try simp -implicitDefEqProofs [hI, hlt, hg, hg', hK, hlt2, hg2, hg2', lV, iV, hy', hB1]))
            refine ⟨m2 - 1, _, _, by omega, FrWk.mk ?_, AS.le_refl _, k + 1, by omega, by omega, by rw [hX2]; simp [hy], rfl, rfl⟩
            simp [wInc (show k < 4000000000000000000 by omega)]
        · have hK : ((k : Int) < x.1.length) = False := by simp; omega
          repeat (first
            | (with_reducible apply AWp.seq)
            | (with_reducible apply AWp.block)
            | ((with_reducible apply AWp.fork); simp -implicitDefEqProofs [hI, hlt, hg, hg', hK, lV, hB1])
            | ((with_reducible apply AWp.region); simp -implicitDefEqProofs [hI, hlt, hg, hg', hK, lV, hB1])
            | (with_reducible refine And.intro (by first | omega | assumption | decide) ?_)
            | ((with_reducible show condK _ _ _); simp -implicitDefEqProofs [hI, hlt, hg, hg', hK, lV, hB1])
            | ((with_reducible show guardK _ _ _ _ _ _ _ _ _); simp -implicitDefEqProofs [hI, hlt, hg, hg', hK, lV, hB1])
            | ((with_reducible apply AWp.ret); try simp -implicitDefEqProofs [hI, hlt, hg, hg', hK, lV, hB1])
            | ((with_reducible apply AWp.skip); try simp -implicitDefEqProofs [hI, hlt, hg, hg', hK, lV, hB1])
            | ((with_reducible apply AWp.exit); try simp -implicitDefEqProofs [hI, hlt, hg, hg', hK, lV, hB1]))
          have hdn : x.1.drop k = [] := List.drop_eq_nil_of_le (by omega)
          rw [hdn] at hX2
          refine ⟨m - 1, _, _, by omega, FrWk.mk ?_, AS.le_refl _, i + 1, by omega, by omega, by rw [hF0, hX2]; rfl, rfl, rfl⟩
          simp [wInc (show i < 4000000000000000000 by omega)]
    · have hI : ((i : Int) < R.length) = False := by simp; omega
      have hdn : R.drop i = [] := List.drop_eq_nil_of_le (by omega)
      rw [hdn] at hX
      repeat (first
        | (with_reducible apply AWp.seq)
        | (with_reducible apply AWp.block)
        | ((with_reducible apply AWp.fork); simp -implicitDefEqProofs [hI, hB1])
        | ((with_reducible apply AWp.region); simp -implicitDefEqProofs [hI, hB1])
        | (with_reducible refine And.intro (by first | omega | assumption | decide) ?_)
        | ((with_reducible show condK _ _ _); simp -implicitDefEqProofs [hI, hB1])
        | ((with_reducible show guardK _ _ _ _ _ _ _ _ _); simp -implicitDefEqProofs [hI, hB1])
        | ((with_reducible apply AWp.ret); try simp -implicitDefEqProofs [hI, hB1])
        | ((with_reducible apply AWp.skip); try simp -implicitDefEqProofs [hI, hB1])
        | ((with_reducible apply AWp.exit); try simp -implicitDefEqProofs [hI, hB1]))
      rw [hX]
      simp
      exact hle

/-! Same -/

def smO (R S : Tab) (id2 id3 : Nat) (B : AS) (m : Nat) (f : Fr) (σ' : AS) : Prop :=
  ∃ i : Nat, m = R.length - i ∧ i ≤ R.length ∧ decide (pl R = pl S) = decide ((pl R).drop i = (pl S).drop i) ∧ σ' = B ∧ f = mkF [(2, .ptr id2 0), (3, .ptr id3 0), (5, .sc (.int .i64 i))]
def smJ (i : Nat) (x y : List (List Int × Bool) × Bool) (X Y : Bool) (id2 id3 : Nat) (B : AS) (m : Nat) (f : Fr) (σ' : AS) : Prop :=
  ∃ k : Nat, m = x.1.length - k ∧ k ≤ x.1.length ∧ X = (decide ((pl1 x).drop k = (pl1 y).drop k) && Y) ∧ σ' = B ∧ f = mkF [(2, .ptr id2 0), (3, .ptr id3 0), (5, .sc (.int .i64 i)), (6, .sc (.int .i64 k))]

theorem rsame_ok (en em : Int) (R S : Tab) (o o' : Own) (nl nl' : Bool) (hR : R.length ≤ 140737488355328) (hr : ∀ x ∈ R, x.1.length ≤ 140737488355328) (hc : ∀ x ∈ R, ∀ y ∈ x.1, y.1.length ≤ 140737488355328)
    (hR' : S.length ≤ 140737488355328) (hr' : ∀ x ∈ S, x.1.length ≤ 140737488355328) (hc' : ∀ x ∈ S, ∀ y ∈ x.1, y.1.length ≤ 140737488355328) (σ : AS) :
    ACalls Try.prog 20 [tbV en R o nl, tbV em S o' nl'] σ (Gives (.sc (.bool (decide (en = em) && decide (pl R = pl S)))) σ) No := by
  refine ACalls.of_body Try.func20 rfl rfl (by simp [Try.ntmps20]) ?_
  simp only [tbV]
  repeat (first
    | (with_reducible apply AWp.seq)
    | (with_reducible apply AWp.block)
    | ((with_reducible apply AWp.fork); simp -implicitDefEqProofs)
    | ((with_reducible apply AWp.region); simp -implicitDefEqProofs)
    | (with_reducible refine And.intro (by first | omega | assumption | decide) ?_)
    | (((with_reducible apply AWp.drawS (id := 6) (t := (Sch.step 0 (Sch.step 2 (Sch.step 6 (Sch.step 8 (Sch.read 1 (Sch.step 3 (Sch.read 4 (Sch.read 5 (Sch.read 7 (Sch.step 9 (Sch.read 10 (Sch.read 11 (Sch.step 12 Sch.done))))))))))))))); (exact mixed); kernel_rfl; kernel_rfl; (repeat (with_reducible first | apply PanQ.then | apply PanQ.block | apply PanQ.body | apply PanQ.no))); simp -implicitDefEqProofs)
    | (((with_reducible apply AWp.drawS (id := 11) (t := (Sch.step 0 (Sch.step 2 (Sch.step 5 (Sch.step 8 (Sch.step 10 (Sch.step 13 (Sch.read 1 (Sch.step 3 (Sch.read 4 (Sch.step 6 (Sch.read 7 (Sch.read 9 (Sch.step 11 (Sch.read 12 (Sch.step 14 (Sch.read 15 (Sch.pure 16 (Sch.step 17 Sch.done)))))))))))))))))))); (exact mixed); kernel_rfl; kernel_rfl; (repeat (with_reducible first | apply PanQ.then | apply PanQ.block | apply PanQ.body | apply PanQ.no))); simp -implicitDefEqProofs)
    | ((with_reducible apply AWp.ret); try simp -implicitDefEqProofs)
    | ((with_reducible apply AWp.skip); try simp -implicitDefEqProofs)
    | ((with_reducible apply AWp.exit); try simp -implicitDefEqProofs))
  intro id2 h_id2
  repeat (first
    | (with_reducible apply AWp.seq)
    | (with_reducible apply AWp.block)
    | ((with_reducible apply AWp.fork); simp -implicitDefEqProofs)
    | ((with_reducible apply AWp.region); simp -implicitDefEqProofs)
    | (with_reducible refine And.intro (by first | omega | assumption | decide) ?_)
    | (((with_reducible apply AWp.drawS (id := 6) (t := (Sch.step 0 (Sch.step 2 (Sch.step 6 (Sch.step 8 (Sch.read 1 (Sch.step 3 (Sch.read 4 (Sch.read 5 (Sch.read 7 (Sch.step 9 (Sch.read 10 (Sch.read 11 (Sch.step 12 Sch.done))))))))))))))); (exact mixed); kernel_rfl; kernel_rfl; (repeat (with_reducible first | apply PanQ.then | apply PanQ.block | apply PanQ.body | apply PanQ.no))); simp -implicitDefEqProofs)
    | (((with_reducible apply AWp.drawS (id := 11) (t := (Sch.step 0 (Sch.step 2 (Sch.step 5 (Sch.step 8 (Sch.step 10 (Sch.step 13 (Sch.read 1 (Sch.step 3 (Sch.read 4 (Sch.step 6 (Sch.read 7 (Sch.read 9 (Sch.step 11 (Sch.read 12 (Sch.step 14 (Sch.read 15 (Sch.pure 16 (Sch.step 17 Sch.done)))))))))))))))))))); (exact mixed); kernel_rfl; kernel_rfl; (repeat (with_reducible first | apply PanQ.then | apply PanQ.block | apply PanQ.body | apply PanQ.no))); simp -implicitDefEqProofs)
    | ((with_reducible apply AWp.ret); try simp -implicitDefEqProofs)
    | ((with_reducible apply AWp.skip); try simp -implicitDefEqProofs)
    | ((with_reducible apply AWp.exit); try simp -implicitDefEqProofs))
  intro id3 n_id3_id2 h_id3
  have n_id2_id3 : ¬ id2 = id3 := fun e => n_id3_id2 e.symm
  repeat (first
    | (with_reducible apply AWp.seq)
    | (with_reducible apply AWp.block)
    | ((with_reducible apply AWp.fork); simp -implicitDefEqProofs [n_id3_id2, n_id2_id3])
    | ((with_reducible apply AWp.region); simp -implicitDefEqProofs [n_id3_id2, n_id2_id3])
    | (with_reducible refine And.intro (by first | omega | assumption | decide) ?_)
    | ((with_reducible show condK _ _ _); simp -implicitDefEqProofs [n_id3_id2, n_id2_id3])
    | ((with_reducible show guardK _ _ _ _ _ _ _ _ _); simp -implicitDefEqProofs [n_id3_id2, n_id2_id3])
    | (((with_reducible apply AWp.drawS (id := 6) (t := (Sch.step 0 (Sch.step 2 (Sch.step 6 (Sch.step 8 (Sch.read 1 (Sch.step 3 (Sch.read 4 (Sch.read 5 (Sch.read 7 (Sch.step 9 (Sch.read 10 (Sch.read 11 (Sch.step 12 Sch.done))))))))))))))); (exact mixed); kernel_rfl; kernel_rfl; (repeat (with_reducible first | apply PanQ.then | apply PanQ.block | apply PanQ.body | apply PanQ.no))); simp -implicitDefEqProofs [n_id3_id2, n_id2_id3])
    | (((with_reducible apply AWp.drawS (id := 11) (t := (Sch.step 0 (Sch.step 2 (Sch.step 5 (Sch.step 8 (Sch.step 10 (Sch.step 13 (Sch.read 1 (Sch.step 3 (Sch.read 4 (Sch.step 6 (Sch.read 7 (Sch.read 9 (Sch.step 11 (Sch.read 12 (Sch.step 14 (Sch.read 15 (Sch.pure 16 (Sch.step 17 Sch.done)))))))))))))))))))); (exact mixed); kernel_rfl; kernel_rfl; (repeat (with_reducible first | apply PanQ.then | apply PanQ.block | apply PanQ.body | apply PanQ.no))); simp -implicitDefEqProofs [n_id3_id2, n_id2_id3])
    | ((with_reducible apply AWp.ret); try simp -implicitDefEqProofs [n_id3_id2, n_id2_id3])
    | ((with_reducible apply AWp.skip); try simp -implicitDefEqProofs [n_id3_id2, n_id2_id3])
    | ((with_reducible apply AWp.exit); try simp -implicitDefEqProofs [n_id3_id2, n_id2_id3]))
  obtain ⟨B, B_s, hB2, hB3, eq_B, le_B⟩ : ∃ B : AS, ((σ.set id2 (.cells 24 [.sc (.int .i64 en), .lst 69 (R.map lV) o nl])).set id3 (.cells 24 [.sc (.int .i64 em), .lst 69 (S.map lV) o' nl'])) = B ∧ B id2 = some (.cells 24 [.sc (.int .i64 en), .lst 69 (R.map lV) o nl]) ∧ B id3 = some (.cells 24 [.sc (.int .i64 em), .lst 69 (S.map lV) o' nl']) ∧ (∀ j, j ≠ id2 → j ≠ id3 → B j = σ j) ∧ (∀ S' : AS, (∀ j, j ≠ id2 → j ≠ id3 → ∀ y, B j = some y → S' j = some y) → AS.le σ S') := by
    refine ⟨_, rfl, by simp [n_id2_id3, n_id3_id2], by simp [n_id2_id3, n_id3_id2], ?_, ?_⟩
    · intro j e_id2 e_id3; simp [AS.set, e_id2, e_id3]
    intro S' h j x hj
    have e_id2 : j ≠ id2 := by rintro rfl; rw [h_id2] at hj; cases hj
    have e_id3 : j ≠ id3 := by rintro rfl; rw [h_id3] at hj; cases hj
    exact h j e_id2 e_id3 x (by simp [AS.set, e_id2, e_id3, hj])
  simp only [B_s]
  clear B_s
  have hle : AS.le σ B := le_B B fun _ _ _ _ h => h
  have hplR : (pl R).length = R.length := by simp [pl]
  have hplS : (pl S).length = S.length := by simp [pl]
  by_cases he : en = em
  · subst he
    by_cases hlen : R.length = S.length
    · repeat (first
        | (with_reducible apply AWp.seq)
        | (with_reducible apply AWp.block)
        | ((with_reducible apply AWp.fork); simp -implicitDefEqProofs [hlen, n_id3_id2, n_id2_id3, hB2, hB3])
        | ((with_reducible apply AWp.region); simp -implicitDefEqProofs [hlen, n_id3_id2, n_id2_id3, hB2, hB3])
        | (with_reducible refine And.intro (by first | omega | assumption | decide) ?_)
        | ((with_reducible show condK _ _ _); simp -implicitDefEqProofs [hlen, n_id3_id2, n_id2_id3, hB2, hB3])
        | ((with_reducible show guardK _ _ _ _ _ _ _ _ _); simp -implicitDefEqProofs [hlen, n_id3_id2, n_id2_id3, hB2, hB3])
        | (((with_reducible apply AWp.drawS (id := 6) (t := (Sch.step 0 (Sch.step 2 (Sch.step 6 (Sch.step 8 (Sch.read 1 (Sch.step 3 (Sch.read 4 (Sch.read 5 (Sch.read 7 (Sch.step 9 (Sch.read 10 (Sch.read 11 (Sch.step 12 Sch.done))))))))))))))); (exact mixed); kernel_rfl; kernel_rfl; (repeat (with_reducible first | apply PanQ.then | apply PanQ.block | apply PanQ.body | apply PanQ.no))); simp -implicitDefEqProofs [hlen, n_id3_id2, n_id2_id3, hB2, hB3])
        | (((with_reducible apply AWp.drawS (id := 11) (t := (Sch.step 0 (Sch.step 2 (Sch.step 5 (Sch.step 8 (Sch.step 10 (Sch.step 13 (Sch.read 1 (Sch.step 3 (Sch.read 4 (Sch.step 6 (Sch.read 7 (Sch.read 9 (Sch.step 11 (Sch.read 12 (Sch.step 14 (Sch.read 15 (Sch.pure 16 (Sch.step 17 Sch.done)))))))))))))))))))); (exact mixed); kernel_rfl; kernel_rfl; (repeat (with_reducible first | apply PanQ.then | apply PanQ.block | apply PanQ.body | apply PanQ.no))); simp -implicitDefEqProofs [hlen, n_id3_id2, n_id2_id3, hB2, hB3])
        | ((with_reducible apply AWp.ret); try simp -implicitDefEqProofs [hlen, n_id3_id2, n_id2_id3, hB2, hB3])
        | ((with_reducible apply AWp.skip); try simp -implicitDefEqProofs [hlen, n_id3_id2, n_id2_id3, hB2, hB3])
        | ((with_reducible apply AWp.exit); try simp -implicitDefEqProofs [hlen, n_id3_id2, n_id2_id3, hB2, hB3]))
      generalize hD0 : decide (pl R = pl S) = D0
      have hst : D0 = decide ((pl R).drop 0 = (pl S).drop 0) := by rw [← hD0]; rfl
      refine AWp.loopI (smO R S id2 id3 B) (k0 := R.length) ⟨0, by omega, by omega, rfl, rfl, rfl⟩ (FrWk.mk (by simp)) (AS.le_refl _) ?_
      rintro m f σ' ⟨i, hm, hi, hX, hs, rfl⟩
      subst σ'
      rw [hD0] at hX
      by_cases hlt : i < R.length
      · obtain ⟨x, hg, hg', hmem, hdx, _⟩ := drop_pl hlt
        have hlt' : i < S.length := by omega
        obtain ⟨y, hh, hh', hmem', hdy, _⟩ := drop_pl hlt'
        have hI : ((i : Int) < R.length) = True := by simp; omega
        have hI' : ((i : Int) < S.length) = True := by simp; omega
        have hxl := hr x hmem
        have hyl := hr' y hmem'
        rw [hdx, hdy] at hX
        by_cases hl2 : x.1.length = y.1.length
        · have hl2' : ((x.1.length : Int) = y.1.length) = True := by simp; omega
          repeat (first
            | (with_reducible apply AWp.seq)
            | (with_reducible apply AWp.block)
            | ((with_reducible apply AWp.fork); simp -implicitDefEqProofs [hI, hI', hlt, hg, hg', hlt', hh, hh', lV, hl2, hl2', n_id3_id2, n_id2_id3, hB2, hB3])
            | ((with_reducible apply AWp.region); simp -implicitDefEqProofs [hI, hI', hlt, hg, hg', hlt', hh, hh', lV, hl2, hl2', n_id3_id2, n_id2_id3, hB2, hB3])
            | (with_reducible refine And.intro (by first | omega | assumption | decide) ?_)
            | ((with_reducible show condK _ _ _); simp -implicitDefEqProofs [hI, hI', hlt, hg, hg', hlt', hh, hh', lV, hl2, hl2', n_id3_id2, n_id2_id3, hB2, hB3])
            | ((with_reducible show guardK _ _ _ _ _ _ _ _ _); simp -implicitDefEqProofs [hI, hI', hlt, hg, hg', hlt', hh, hh', lV, hl2, hl2', n_id3_id2, n_id2_id3, hB2, hB3])
            | (((with_reducible apply AWp.drawS (id := 6) (t := (Sch.step 0 (Sch.step 2 (Sch.step 6 (Sch.step 8 (Sch.read 1 (Sch.step 3 (Sch.read 4 (Sch.read 5 (Sch.read 7 (Sch.step 9 (Sch.read 10 (Sch.read 11 (Sch.step 12 Sch.done))))))))))))))); (exact mixed); kernel_rfl; kernel_rfl; (repeat (with_reducible first | apply PanQ.then | apply PanQ.block | apply PanQ.body | apply PanQ.no))); simp -implicitDefEqProofs [hI, hI', hlt, hg, hg', hlt', hh, hh', lV, hl2, hl2', n_id3_id2, n_id2_id3, hB2, hB3])
            | (((with_reducible apply AWp.drawS (id := 11) (t := (Sch.step 0 (Sch.step 2 (Sch.step 5 (Sch.step 8 (Sch.step 10 (Sch.step 13 (Sch.read 1 (Sch.step 3 (Sch.read 4 (Sch.step 6 (Sch.read 7 (Sch.read 9 (Sch.step 11 (Sch.read 12 (Sch.step 14 (Sch.read 15 (Sch.pure 16 (Sch.step 17 Sch.done)))))))))))))))))))); (exact mixed); kernel_rfl; kernel_rfl; (repeat (with_reducible first | apply PanQ.then | apply PanQ.block | apply PanQ.body | apply PanQ.no))); simp -implicitDefEqProofs [hI, hI', hlt, hg, hg', hlt', hh, hh', lV, hl2, hl2', n_id3_id2, n_id2_id3, hB2, hB3])
            | ((with_reducible apply AWp.ret); try simp -implicitDefEqProofs [hI, hI', hlt, hg, hg', hlt', hh, hh', lV, hl2, hl2', n_id3_id2, n_id2_id3, hB2, hB3])
            | ((with_reducible apply AWp.skip); try simp -implicitDefEqProofs [hI, hI', hlt, hg, hg', hlt', hh, hh', lV, hl2, hl2', n_id3_id2, n_id2_id3, hB2, hB3])
            | ((with_reducible apply AWp.exit); try simp -implicitDefEqProofs [hI, hI', hlt, hg, hg', hlt', hh, hh', lV, hl2, hl2', n_id3_id2, n_id2_id3, hB2, hB3]))
          refine AWp.loopI (smJ i x y D0 (decide ((pl R).drop (i + 1) = (pl S).drop (i + 1))) id2 id3 B) (k0 := x.1.length) ⟨0, by omega, by omega, by rw [hX]; simp, rfl, rfl⟩ (FrWk.mk (by simp)) (AS.le_refl _) ?_
          rintro m2 f σ' ⟨k, hm2, hk, hX2, hs, rfl⟩
          subst σ'
          by_cases hlt2 : k < x.1.length
          · obtain ⟨u, hu, hu', hmu, hdu, _⟩ := drop_pl1 hlt2
            have hlt2' : k < y.1.length := by omega
            obtain ⟨v, hv, hv', hmv, hdv, _⟩ := drop_pl1 hlt2'
            have hK : ((k : Int) < x.1.length) = True := by simp; omega
            have hK' : ((k : Int) < y.1.length) = True := by simp; omega
            have hsi := fun σ => sints_ok u.1 v.1 .unk .unk u.2 v.2 (hc x hmem u hmu) (hc' y hmem' v hmv) σ
            rw [hdu, hdv] at hX2
            by_cases huv : u.1 = v.1
            · rw [show decide (u.1 = v.1) = true by simp [huv]] at hsi
              repeat (first
                | (with_reducible apply AWp.seq)
                | (with_reducible apply AWp.block)
                | ((with_reducible apply AWp.fork); simp -implicitDefEqProofs [hI, hI', hlt, hg, hg', hlt', hh, hh', hK, hK', hlt2, hlt2', hu, hu', hv, hv', lV, iV, n_id3_id2, n_id2_id3, hB2, hB3])
                | ((with_reducible apply AWp.region); simp -implicitDefEqProofs [hI, hI', hlt, hg, hg', hlt', hh, hh', hK, hK', hlt2, hlt2', hu, hu', hv, hv', lV, iV, n_id3_id2, n_id2_id3, hB2, hB3])
                | (with_reducible refine And.intro (by first | omega | assumption | decide) ?_)
                | ((with_reducible show condK _ _ _); simp -implicitDefEqProofs [hI, hI', hlt, hg, hg', hlt', hh, hh', hK, hK', hlt2, hlt2', hu, hu', hv, hv', lV, iV, n_id3_id2, n_id2_id3, hB2, hB3])
                | ((with_reducible show guardK _ _ _ _ _ _ _ _ _); simp -implicitDefEqProofs [hI, hI', hlt, hg, hg', hlt', hh, hh', hK, hK', hlt2, hlt2', hu, hu', hv, hv', lV, iV, n_id3_id2, n_id2_id3, hB2, hB3])
                | (((with_reducible apply AWp.drawS (id := 6) (t := (Sch.step 0 (Sch.step 2 (Sch.step 6 (Sch.step 8 (Sch.read 1 (Sch.step 3 (Sch.read 4 (Sch.read 5 (Sch.read 7 (Sch.step 9 (Sch.read 10 (Sch.read 11 (Sch.step 12 Sch.done))))))))))))))); (exact mixed); kernel_rfl; kernel_rfl; (repeat (with_reducible first | apply PanQ.then | apply PanQ.block | apply PanQ.body | apply PanQ.no))); simp -implicitDefEqProofs [hI, hI', hlt, hg, hg', hlt', hh, hh', hK, hK', hlt2, hlt2', hu, hu', hv, hv', lV, iV, n_id3_id2, n_id2_id3, hB2, hB3])
                | (((with_reducible apply AWp.drawS (id := 11) (t := (Sch.step 0 (Sch.step 2 (Sch.step 5 (Sch.step 8 (Sch.step 10 (Sch.step 13 (Sch.read 1 (Sch.step 3 (Sch.read 4 (Sch.step 6 (Sch.read 7 (Sch.read 9 (Sch.step 11 (Sch.read 12 (Sch.step 14 (Sch.read 15 (Sch.pure 16 (Sch.step 17 Sch.done)))))))))))))))))))); (exact mixed); kernel_rfl; kernel_rfl; (repeat (with_reducible first | apply PanQ.then | apply PanQ.block | apply PanQ.body | apply PanQ.no))); simp -implicitDefEqProofs [hI, hI', hlt, hg, hg', hlt', hh, hh', hK, hK', hlt2, hlt2', hu, hu', hv, hv', lV, iV, n_id3_id2, n_id2_id3, hB2, hB3])
                | ((with_reducible apply aCall.id); first
                    | ((apply aCall.gives (hsi _)); simp -implicitDefEqProofs [hI, hI', hlt, hg, hg', hlt', hh, hh', hK, hK', hlt2, hlt2', hu, hu', hv, hv', lV, iV, n_id3_id2, n_id2_id3, hB2, hB3]))
                | ((with_reducible apply pureCall.id); first
                    | ((apply pureCall.gives (fun _ => hsi _)); simp -implicitDefEqProofs [hI, hI', hlt, hg, hg', hlt', hh, hh', hK, hK', hlt2, hlt2', hu, hu', hv, hv', lV, iV, n_id3_id2, n_id2_id3, hB2, hB3]))
                | ((with_reducible apply AWp.ret); try simp -implicitDefEqProofs [hI, hI', hlt, hg, hg', hlt', hh, hh', hK, hK', hlt2, hlt2', hu, hu', hv, hv', lV, iV, n_id3_id2, n_id2_id3, hB2, hB3])
                | ((with_reducible apply AWp.skip); try simp -implicitDefEqProofs [hI, hI', hlt, hg, hg', hlt', hh, hh', hK, hK', hlt2, hlt2', hu, hu', hv, hv', lV, iV, n_id3_id2, n_id2_id3, hB2, hB3])
                | ((with_reducible apply AWp.exit); try simp -implicitDefEqProofs [hI, hI', hlt, hg, hg', hlt', hh, hh', hK, hK', hlt2, hlt2', hu, hu', hv, hv', lV, iV, n_id3_id2, n_id2_id3, hB2, hB3]))
              refine ⟨m2 - 1, _, _, by omega, FrWk.mk ?_, AS.le_refl _, k + 1, by omega, by omega, by rw [hX2]; simp [huv], rfl, rfl⟩
              simp [wInc (show k < 4000000000000000000 by omega)]
            · rw [show decide (u.1 = v.1) = false by simp [huv]] at hsi
              repeat (first
                | (with_reducible apply AWp.seq)
                | (with_reducible apply AWp.block)
                | ((with_reducible apply AWp.fork); simp -implicitDefEqProofs [hI, hI', hlt, hg, hg', hlt', hh, hh', hK, hK', hlt2, hlt2', hu, hu', hv, hv', lV, iV, n_id3_id2, n_id2_id3, hB2, hB3])
                | ((with_reducible apply AWp.region); simp -implicitDefEqProofs [hI, hI', hlt, hg, hg', hlt', hh, hh', hK, hK', hlt2, hlt2', hu, hu', hv, hv', lV, iV, n_id3_id2, n_id2_id3, hB2, hB3])
                | (with_reducible refine And.intro (by first | omega | assumption | decide) ?_)
                | ((with_reducible show condK _ _ _); simp -implicitDefEqProofs [hI, hI', hlt, hg, hg', hlt', hh, hh', hK, hK', hlt2, hlt2', hu, hu', hv, hv', lV, iV, n_id3_id2, n_id2_id3, hB2, hB3])
                | ((with_reducible show guardK _ _ _ _ _ _ _ _ _); simp -implicitDefEqProofs [hI, hI', hlt, hg, hg', hlt', hh, hh', hK, hK', hlt2, hlt2', hu, hu', hv, hv', lV, iV, n_id3_id2, n_id2_id3, hB2, hB3])
                | (((with_reducible apply AWp.drawS (id := 6) (t := (Sch.step 0 (Sch.step 2 (Sch.step 6 (Sch.step 8 (Sch.read 1 (Sch.step 3 (Sch.read 4 (Sch.read 5 (Sch.read 7 (Sch.step 9 (Sch.read 10 (Sch.read 11 (Sch.step 12 Sch.done))))))))))))))); (exact mixed); kernel_rfl; kernel_rfl; (repeat (with_reducible first | apply PanQ.then | apply PanQ.block | apply PanQ.body | apply PanQ.no))); simp -implicitDefEqProofs [hI, hI', hlt, hg, hg', hlt', hh, hh', hK, hK', hlt2, hlt2', hu, hu', hv, hv', lV, iV, n_id3_id2, n_id2_id3, hB2, hB3])
                | (((with_reducible apply AWp.drawS (id := 11) (t := (Sch.step 0 (Sch.step 2 (Sch.step 5 (Sch.step 8 (Sch.step 10 (Sch.step 13 (Sch.read 1 (Sch.step 3 (Sch.read 4 (Sch.step 6 (Sch.read 7 (Sch.read 9 (Sch.step 11 (Sch.read 12 (Sch.step 14 (Sch.read 15 (Sch.pure 16 (Sch.step 17 Sch.done)))))))))))))))))))); (exact mixed); kernel_rfl; kernel_rfl; (repeat (with_reducible first | apply PanQ.then | apply PanQ.block | apply PanQ.body | apply PanQ.no))); simp -implicitDefEqProofs [hI, hI', hlt, hg, hg', hlt', hh, hh', hK, hK', hlt2, hlt2', hu, hu', hv, hv', lV, iV, n_id3_id2, n_id2_id3, hB2, hB3])
                | ((with_reducible apply aCall.id); first
                    | ((apply aCall.gives (hsi _)); simp -implicitDefEqProofs [hI, hI', hlt, hg, hg', hlt', hh, hh', hK, hK', hlt2, hlt2', hu, hu', hv, hv', lV, iV, n_id3_id2, n_id2_id3, hB2, hB3]))
                | ((with_reducible apply pureCall.id); first
                    | ((apply pureCall.gives (fun _ => hsi _)); simp -implicitDefEqProofs [hI, hI', hlt, hg, hg', hlt', hh, hh', hK, hK', hlt2, hlt2', hu, hu', hv, hv', lV, iV, n_id3_id2, n_id2_id3, hB2, hB3]))
                | ((with_reducible apply AWp.ret); try simp -implicitDefEqProofs [hI, hI', hlt, hg, hg', hlt', hh, hh', hK, hK', hlt2, hlt2', hu, hu', hv, hv', lV, iV, n_id3_id2, n_id2_id3, hB2, hB3])
                | ((with_reducible apply AWp.skip); try simp -implicitDefEqProofs [hI, hI', hlt, hg, hg', hlt', hh, hh', hK, hK', hlt2, hlt2', hu, hu', hv, hv', lV, iV, n_id3_id2, n_id2_id3, hB2, hB3])
                | ((with_reducible apply AWp.exit); try simp -implicitDefEqProofs [hI, hI', hlt, hg, hg', hlt', hh, hh', hK, hK', hlt2, hlt2', hu, hu', hv, hv', lV, iV, n_id3_id2, n_id2_id3, hB2, hB3]))
              rw [hX2]
              simp [huv]
              exact hle
          · have hK : ((k : Int) < x.1.length) = False := by simp; omega
            have hd1 : (pl1 x).drop k = [] := List.drop_eq_nil_of_le (by simp [pl1]; omega)
            have hd2 : (pl1 y).drop k = [] := List.drop_eq_nil_of_le (by simp [pl1]; omega)
            rw [hd1, hd2] at hX2
            repeat (first
              | (with_reducible apply AWp.seq)
              | (with_reducible apply AWp.block)
              | ((with_reducible apply AWp.fork); simp -implicitDefEqProofs [hI, hI', hlt, hg, hg', hlt', hh, hh', hK, lV, n_id3_id2, n_id2_id3, hB2, hB3])
              | ((with_reducible apply AWp.region); simp -implicitDefEqProofs [hI, hI', hlt, hg, hg', hlt', hh, hh', hK, lV, n_id3_id2, n_id2_id3, hB2, hB3])
              | (with_reducible refine And.intro (by first | omega | assumption | decide) ?_)
              | ((with_reducible show condK _ _ _); simp -implicitDefEqProofs [hI, hI', hlt, hg, hg', hlt', hh, hh', hK, lV, n_id3_id2, n_id2_id3, hB2, hB3])
              | ((with_reducible show guardK _ _ _ _ _ _ _ _ _); simp -implicitDefEqProofs [hI, hI', hlt, hg, hg', hlt', hh, hh', hK, lV, n_id3_id2, n_id2_id3, hB2, hB3])
              | (((with_reducible apply AWp.drawS (id := 6) (t := (Sch.step 0 (Sch.step 2 (Sch.step 6 (Sch.step 8 (Sch.read 1 (Sch.step 3 (Sch.read 4 (Sch.read 5 (Sch.read 7 (Sch.step 9 (Sch.read 10 (Sch.read 11 (Sch.step 12 Sch.done))))))))))))))); (exact mixed); kernel_rfl; kernel_rfl; (repeat (with_reducible first | apply PanQ.then | apply PanQ.block | apply PanQ.body | apply PanQ.no))); simp -implicitDefEqProofs [hI, hI', hlt, hg, hg', hlt', hh, hh', hK, lV, n_id3_id2, n_id2_id3, hB2, hB3])
              | (((with_reducible apply AWp.drawS (id := 11) (t := (Sch.step 0 (Sch.step 2 (Sch.step 5 (Sch.step 8 (Sch.step 10 (Sch.step 13 (Sch.read 1 (Sch.step 3 (Sch.read 4 (Sch.step 6 (Sch.read 7 (Sch.read 9 (Sch.step 11 (Sch.read 12 (Sch.step 14 (Sch.read 15 (Sch.pure 16 (Sch.step 17 Sch.done)))))))))))))))))))); (exact mixed); kernel_rfl; kernel_rfl; (repeat (with_reducible first | apply PanQ.then | apply PanQ.block | apply PanQ.body | apply PanQ.no))); simp -implicitDefEqProofs [hI, hI', hlt, hg, hg', hlt', hh, hh', hK, lV, n_id3_id2, n_id2_id3, hB2, hB3])
              | ((with_reducible apply AWp.ret); try simp -implicitDefEqProofs [hI, hI', hlt, hg, hg', hlt', hh, hh', hK, lV, n_id3_id2, n_id2_id3, hB2, hB3])
              | ((with_reducible apply AWp.skip); try simp -implicitDefEqProofs [hI, hI', hlt, hg, hg', hlt', hh, hh', hK, lV, n_id3_id2, n_id2_id3, hB2, hB3])
              | ((with_reducible apply AWp.exit); try simp -implicitDefEqProofs [hI, hI', hlt, hg, hg', hlt', hh, hh', hK, lV, n_id3_id2, n_id2_id3, hB2, hB3]))
            refine ⟨m - 1, _, _, by omega, FrWk.mk ?_, AS.le_refl _, i + 1, by omega, by omega, by rw [hD0, hX2]; simp, rfl, rfl⟩
            simp [wInc (show i < 4000000000000000000 by omega)]
        · have hl2' : ((x.1.length : Int) = y.1.length) = False := by simp; omega
          have hne : ¬ pl1 x = pl1 y := by intro e; apply hl2; have := congrArg List.length e; simpa [pl1] using this
          repeat (first
            | (with_reducible apply AWp.seq)
            | (with_reducible apply AWp.block)
            | ((with_reducible apply AWp.fork); simp -implicitDefEqProofs [hI, hI', hlt, hg, hg', hlt', hh, hh', lV, hl2, hl2', n_id3_id2, n_id2_id3, hB2, hB3])
            | ((with_reducible apply AWp.region); simp -implicitDefEqProofs [hI, hI', hlt, hg, hg', hlt', hh, hh', lV, hl2, hl2', n_id3_id2, n_id2_id3, hB2, hB3])
            | (with_reducible refine And.intro (by first | omega | assumption | decide) ?_)
            | ((with_reducible show condK _ _ _); simp -implicitDefEqProofs [hI, hI', hlt, hg, hg', hlt', hh, hh', lV, hl2, hl2', n_id3_id2, n_id2_id3, hB2, hB3])
            | ((with_reducible show guardK _ _ _ _ _ _ _ _ _); simp -implicitDefEqProofs [hI, hI', hlt, hg, hg', hlt', hh, hh', lV, hl2, hl2', n_id3_id2, n_id2_id3, hB2, hB3])
            | (((with_reducible apply AWp.drawS (id := 6) (t := (Sch.step 0 (Sch.step 2 (Sch.step 6 (Sch.step 8 (Sch.read 1 (Sch.step 3 (Sch.read 4 (Sch.read 5 (Sch.read 7 (Sch.step 9 (Sch.read 10 (Sch.read 11 (Sch.step 12 Sch.done))))))))))))))); (exact mixed); kernel_rfl; kernel_rfl; (repeat (with_reducible first | apply PanQ.then | apply PanQ.block | apply PanQ.body | apply PanQ.no))); simp -implicitDefEqProofs [hI, hI', hlt, hg, hg', hlt', hh, hh', lV, hl2, hl2', n_id3_id2, n_id2_id3, hB2, hB3])
            | (((with_reducible apply AWp.drawS (id := 11) (t := (Sch.step 0 (Sch.step 2 (Sch.step 5 (Sch.step 8 (Sch.step 10 (Sch.step 13 (Sch.read 1 (Sch.step 3 (Sch.read 4 (Sch.step 6 (Sch.read 7 (Sch.read 9 (Sch.step 11 (Sch.read 12 (Sch.step 14 (Sch.read 15 (Sch.pure 16 (Sch.step 17 Sch.done)))))))))))))))))))); (exact mixed); kernel_rfl; kernel_rfl; (repeat (with_reducible first | apply PanQ.then | apply PanQ.block | apply PanQ.body | apply PanQ.no))); simp -implicitDefEqProofs [hI, hI', hlt, hg, hg', hlt', hh, hh', lV, hl2, hl2', n_id3_id2, n_id2_id3, hB2, hB3])
            | ((with_reducible apply AWp.ret); try simp -implicitDefEqProofs [hI, hI', hlt, hg, hg', hlt', hh, hh', lV, hl2, hl2', n_id3_id2, n_id2_id3, hB2, hB3])
            | ((with_reducible apply AWp.skip); try simp -implicitDefEqProofs [hI, hI', hlt, hg, hg', hlt', hh, hh', lV, hl2, hl2', n_id3_id2, n_id2_id3, hB2, hB3])
            | ((with_reducible apply AWp.exit); try simp -implicitDefEqProofs [hI, hI', hlt, hg, hg', hlt', hh, hh', lV, hl2, hl2', n_id3_id2, n_id2_id3, hB2, hB3]))
          rw [hX]
          simp [hne]
          exact hle
      · have hI : ((i : Int) < R.length) = False := by simp; omega
        have hd1 : (pl R).drop i = [] := List.drop_eq_nil_of_le (by omega)
        have hd2 : (pl S).drop i = [] := List.drop_eq_nil_of_le (by omega)
        rw [hd1, hd2] at hX
        repeat (first
          | (with_reducible apply AWp.seq)
          | (with_reducible apply AWp.block)
          | ((with_reducible apply AWp.fork); simp -implicitDefEqProofs [hI, n_id3_id2, n_id2_id3, hB2, hB3])
          | ((with_reducible apply AWp.region); simp -implicitDefEqProofs [hI, n_id3_id2, n_id2_id3, hB2, hB3])
          | (with_reducible refine And.intro (by first | omega | assumption | decide) ?_)
          | ((with_reducible show condK _ _ _); simp -implicitDefEqProofs [hI, n_id3_id2, n_id2_id3, hB2, hB3])
          | ((with_reducible show guardK _ _ _ _ _ _ _ _ _); simp -implicitDefEqProofs [hI, n_id3_id2, n_id2_id3, hB2, hB3])
          | (((with_reducible apply AWp.drawS (id := 6) (t := (Sch.step 0 (Sch.step 2 (Sch.step 6 (Sch.step 8 (Sch.read 1 (Sch.step 3 (Sch.read 4 (Sch.read 5 (Sch.read 7 (Sch.step 9 (Sch.read 10 (Sch.read 11 (Sch.step 12 Sch.done))))))))))))))); (exact mixed); kernel_rfl; kernel_rfl; (repeat (with_reducible first | apply PanQ.then | apply PanQ.block | apply PanQ.body | apply PanQ.no))); simp -implicitDefEqProofs [hI, n_id3_id2, n_id2_id3, hB2, hB3])
          | (((with_reducible apply AWp.drawS (id := 11) (t := (Sch.step 0 (Sch.step 2 (Sch.step 5 (Sch.step 8 (Sch.step 10 (Sch.step 13 (Sch.read 1 (Sch.step 3 (Sch.read 4 (Sch.step 6 (Sch.read 7 (Sch.read 9 (Sch.step 11 (Sch.read 12 (Sch.step 14 (Sch.read 15 (Sch.pure 16 (Sch.step 17 Sch.done)))))))))))))))))))); (exact mixed); kernel_rfl; kernel_rfl; (repeat (with_reducible first | apply PanQ.then | apply PanQ.block | apply PanQ.body | apply PanQ.no))); simp -implicitDefEqProofs [hI, n_id3_id2, n_id2_id3, hB2, hB3])
          | ((with_reducible apply AWp.ret); try simp -implicitDefEqProofs [hI, n_id3_id2, n_id2_id3, hB2, hB3])
          | ((with_reducible apply AWp.skip); try simp -implicitDefEqProofs [hI, n_id3_id2, n_id2_id3, hB2, hB3])
          | ((with_reducible apply AWp.exit); try simp -implicitDefEqProofs [hI, n_id3_id2, n_id2_id3, hB2, hB3]))
        rw [hX]
        simp
        exact hle
    · have hlen' : ((R.length : Int) = S.length) = False := by simp; omega
      have hne : ¬ pl R = pl S := by intro e; apply hlen; rw [← hplR, ← hplS, e]
      repeat (first
        | (with_reducible apply AWp.seq)
        | (with_reducible apply AWp.block)
        | ((with_reducible apply AWp.fork); simp -implicitDefEqProofs [hlen, hlen', n_id3_id2, n_id2_id3, hB2, hB3])
        | ((with_reducible apply AWp.region); simp -implicitDefEqProofs [hlen, hlen', n_id3_id2, n_id2_id3, hB2, hB3])
        | (with_reducible refine And.intro (by first | omega | assumption | decide) ?_)
        | ((with_reducible show condK _ _ _); simp -implicitDefEqProofs [hlen, hlen', n_id3_id2, n_id2_id3, hB2, hB3])
        | ((with_reducible show guardK _ _ _ _ _ _ _ _ _); simp -implicitDefEqProofs [hlen, hlen', n_id3_id2, n_id2_id3, hB2, hB3])
        | (((with_reducible apply AWp.drawS (id := 6) (t := (Sch.step 0 (Sch.step 2 (Sch.step 6 (Sch.step 8 (Sch.read 1 (Sch.step 3 (Sch.read 4 (Sch.read 5 (Sch.read 7 (Sch.step 9 (Sch.read 10 (Sch.read 11 (Sch.step 12 Sch.done))))))))))))))); (exact mixed); kernel_rfl; kernel_rfl; (repeat (with_reducible first | apply PanQ.then | apply PanQ.block | apply PanQ.body | apply PanQ.no))); simp -implicitDefEqProofs [hlen, hlen', n_id3_id2, n_id2_id3, hB2, hB3])
        | (((with_reducible apply AWp.drawS (id := 11) (t := (Sch.step 0 (Sch.step 2 (Sch.step 5 (Sch.step 8 (Sch.step 10 (Sch.step 13 (Sch.read 1 (Sch.step 3 (Sch.read 4 (Sch.step 6 (Sch.read 7 (Sch.read 9 (Sch.step 11 (Sch.read 12 (Sch.step 14 (Sch.read 15 (Sch.pure 16 (Sch.step 17 Sch.done)))))))))))))))))))); (exact mixed); kernel_rfl; kernel_rfl; (repeat (with_reducible first | apply PanQ.then | apply PanQ.block | apply PanQ.body | apply PanQ.no))); simp -implicitDefEqProofs [hlen, hlen', n_id3_id2, n_id2_id3, hB2, hB3])
        | ((with_reducible apply AWp.ret); try simp -implicitDefEqProofs [hlen, hlen', n_id3_id2, n_id2_id3, hB2, hB3])
        | ((with_reducible apply AWp.skip); try simp -implicitDefEqProofs [hlen, hlen', n_id3_id2, n_id2_id3, hB2, hB3])
        | ((with_reducible apply AWp.exit); try simp -implicitDefEqProofs [hlen, hlen', n_id3_id2, n_id2_id3, hB2, hB3]))
      simp [hne]
      exact hle
  · repeat (first
      | (with_reducible apply AWp.seq)
      | (with_reducible apply AWp.block)
      | ((with_reducible apply AWp.fork); simp -implicitDefEqProofs [he, n_id3_id2, n_id2_id3, hB2, hB3])
      | ((with_reducible apply AWp.region); simp -implicitDefEqProofs [he, n_id3_id2, n_id2_id3, hB2, hB3])
      | (with_reducible refine And.intro (by first | omega | assumption | decide) ?_)
      | ((with_reducible show condK _ _ _); simp -implicitDefEqProofs [he, n_id3_id2, n_id2_id3, hB2, hB3])
      | ((with_reducible show guardK _ _ _ _ _ _ _ _ _); simp -implicitDefEqProofs [he, n_id3_id2, n_id2_id3, hB2, hB3])
      | (((with_reducible apply AWp.drawS (id := 6) (t := (Sch.step 0 (Sch.step 2 (Sch.step 6 (Sch.step 8 (Sch.read 1 (Sch.step 3 (Sch.read 4 (Sch.read 5 (Sch.read 7 (Sch.step 9 (Sch.read 10 (Sch.read 11 (Sch.step 12 Sch.done))))))))))))))); (exact mixed); kernel_rfl; kernel_rfl; (repeat (with_reducible first | apply PanQ.then | apply PanQ.block | apply PanQ.body | apply PanQ.no))); simp -implicitDefEqProofs [he, n_id3_id2, n_id2_id3, hB2, hB3])
      | (((with_reducible apply AWp.drawS (id := 11) (t := (Sch.step 0 (Sch.step 2 (Sch.step 5 (Sch.step 8 (Sch.step 10 (Sch.step 13 (Sch.read 1 (Sch.step 3 (Sch.read 4 (Sch.step 6 (Sch.read 7 (Sch.read 9 (Sch.step 11 (Sch.read 12 (Sch.step 14 (Sch.read 15 (Sch.pure 16 (Sch.step 17 Sch.done)))))))))))))))))))); (exact mixed); kernel_rfl; kernel_rfl; (repeat (with_reducible first | apply PanQ.then | apply PanQ.block | apply PanQ.body | apply PanQ.no))); simp -implicitDefEqProofs [he, n_id3_id2, n_id2_id3, hB2, hB3])
      | ((with_reducible apply AWp.ret); try simp -implicitDefEqProofs [he, n_id3_id2, n_id2_id3, hB2, hB3])
      | ((with_reducible apply AWp.skip); try simp -implicitDefEqProofs [he, n_id3_id2, n_id2_id3, hB2, hB3])
      | ((with_reducible apply AWp.exit); try simp -implicitDefEqProofs [he, n_id3_id2, n_id2_id3, hB2, hB3]))
    first | exact hle | (simp [he]; exact hle)

end Go.Proofs.Ytpekbapmnmnjoaa
