/- Chapter 04: the document's Write. -/
import Derived.Test.YtpekbapmnmnjoaaRows4
set_option linter.unusedSimpArgs false
set_option linter.unusedVariables false
set_option maxRecDepth 100000
set_option maxHeartbeats 3200000
namespace Go.Proofs.Ytpekbapmnmnjoaa
open Go Go.AW


def RPost (R : List (List (List Int))) (en : Int) (σ : AS) (r : AV) (σ' : AS) : Prop :=
  (formedS R = true ∧ WPost (writeW R en) (okW R en) σ r σ') ∨ (formedS R = false ∧ Gives (.tup [.nilS, .sc (.int .i64 17)]) σ r σ')
theorem RPost.no {R : List (List (List Int))} {en : Int} {σ σ1 : AS} (hf : formedS R = true) (h : okW R en = false) (hle : AS.le σ σ1) : AW.Ends Try.prog (RPost R en σ) σ1 (.tup [.nilS, .sc (.int .i64 3)]) :=
  ⟨_, σ, Wk.refl _, hle, .inl ⟨hf, .inr ⟨h, rfl, rfl⟩⟩⟩
theorem RPost.arg {R : List (List (List Int))} {en : Int} {σ σ1 : AS} (hf : formedS R = false) (hle : AS.le σ σ1) : AW.Ends Try.prog (RPost R en σ) σ1 (.tup [.nilS, .sc (.int .i64 17)]) :=
  ⟨_, σ, Wk.refl _, hle, .inr ⟨hf, rfl, rfl⟩⟩

def rfO (R : Tab) (id1 : Nat) (B : AS) (m : Nat) (f : Fr) (σ' : AS) : Prop :=
  ∃ i : Nat, m = 6 - i ∧ i ≤ 6 ∧ formF 0 (pl R) = formF i ((pl R).drop i) ∧ σ' = B ∧ f = mkF [(1, .ptr id1 0), (4, .sc (.int .i64 i))]
def rfI (i : Nat) (x : List (List Int × Bool) × Bool) (X Y : Bool) (id1 : Nat) (B : AS) (m : Nat) (f : Fr) (σ' : AS) : Prop :=
  ∃ k : Nat, m = x.1.length - k ∧ k ≤ x.1.length ∧ (((pl1 x).drop k).all (fun row => decide (row.length = (kindsL i).length)) && Y) = X ∧ σ' = B ∧
    f = mkF [(1, .ptr id1 0), (4, .sc (.int .i64 i)), (5, .sc (.int .i64 k))]
def rtO (R : Tab) (id1 to : Nat) (B : AS) (m : Nat) (f : Fr) (σ' : AS) : Prop :=
  ∃ (i th : Nat), m = 6 - i ∧ i ≤ 6 ∧ th + thereN i ((pl R).drop i) = thereN 0 (pl R) ∧ th < 2 ^ i ∧ σ' = B.set to (.tok 0) ∧
    f = mkF [(1, .ptr id1 0), (6, .lst 5 [] (.tok to) true), (7, .sc (.int .i64 th)), (8, .sc (.int .i64 ((2 ^ i : Nat) : Int))), (9, .sc (.int .i64 i))]
def rcnO (R : Tab) (C : List UInt8) (id1 to : Nat) (B : AS) (m : Nat) (f : Fr) (σ' : AS) : Prop :=
  ∃ (i : Nat) (l : List UInt8), m = 6 - i ∧ i ≤ 6 ∧ l ++ cntB ((pl R).drop i) = C ∧ l.length ≤ 2 + 2 * i ∧ σ' = B.set to (.tok l.length) ∧
    f = mkF [(1, .ptr id1 0), (6, .lst 5 (l.map u8) (.tok to) false), (10, .sc (.int .i64 i))]
def rbO (R : Tab) (ok : Bool) (C : List UInt8) (id1 to : Nat) (B : AS) (m : Nat) (f : Fr) (σ' : AS) : Prop :=
  ∃ (i : Nat) (l : List UInt8), m = 6 - i ∧ i ≤ 6 ∧ ok = allFit i ((pl R).drop i) ∧ l ++ bodyB i ((pl R).drop i) = C ∧ l.length ≤ 20 + 30000 * i ∧ σ' = B.set to (.tok l.length) ∧
    f = mkF [(1, .ptr id1 0), (6, .lst 5 (l.map u8) (.tok to) false), (11, .sc (.int .i64 i))]
def rbI (x : List (List Int × Bool) × Bool) (ok AF : Bool) (i : Nat) (TB C : List UInt8) (id1 to : Nat) (B : AS) (m : Nat) (f : Fr) (σ' : AS) : Prop :=
  ∃ (k : Nat) (l : List UInt8), m = x.1.length - k ∧ k ≤ x.1.length ∧ ok = (tabFit i ((pl1 x).drop k) && AF) ∧ l ++ (tabB i ((pl1 x).drop k) ++ TB) = C ∧ l.length ≤ 20 + 30000 * i + 24 * k ∧ σ' = B.set to (.tok l.length) ∧
    f = mkF [(1, .ptr id1 0), (6, .lst 5 (l.map u8) (.tok to) false), (11, .sc (.int .i64 i)), (12, .sc (.int .i64 k))]
def rbJ (ks : List UInt8) (y : List Int) (ok AF : Bool) (i k b0 : Nat) (TB C : List UInt8) (id1 to : Nat) (B : AS) (m : Nat) (f : Fr) (σ' : AS) : Prop :=
  ∃ (j : Nat) (l : List UInt8), m = ks.length - j ∧ j ≤ ks.length ∧ ok = (rowFit (ks.drop j) (y.drop j) && AF) ∧ l ++ (rowB (ks.drop j) (y.drop j) ++ TB) = C ∧ l.length ≤ b0 + 4 * j ∧ σ' = B.set to (.tok l.length) ∧
    f = mkF [(1, .ptr id1 0), (6, .lst 5 (l.map u8) (.tok to) false), (11, .sc (.int .i64 i)), (12, .sc (.int .i64 k)), (13, .sc (.int .i64 j))]

theorem rwrite_any (en : Int) (R : Tab) (o : Own) (nl : Bool) (hR : R.length ≤ 1000) (hr : ∀ x ∈ R, x.1.length ≤ 1000) (hc : ∀ x ∈ R, ∀ y ∈ x.1, y.1.length ≤ 1000) (σ : AS) :
    ACalls Try.prog 18 [tbV en R o nl] σ (RPost (pl R) en σ) No := by
  have hcol := fun t σ => rcolumns_ok t σ
  have hdp : ∀ i, i < R.length → ∃ x, R[i]? = some x ∧ x ∈ R ∧ (pl R).drop i = pl1 x :: (pl R).drop (i + 1) := fun i hi => by
    obtain ⟨x, hg, hd, hmem, _⟩ := at_lt R hi
    exact ⟨x, hg, hmem, by rw [pl, ← List.map_drop, hd, List.map_cons, List.map_drop]⟩
  simp only [tbV]
  refine ACalls.of_body Try.func18 rfl rfl (by simp [Try.ntmps18]) ?_
  repeat (first
    | (with_reducible apply AWp.seq)
    | (with_reducible apply AWp.block)
    | ((with_reducible apply AWp.fork); simp -implicitDefEqProofs)
    | ((with_reducible apply AWp.region); simp -implicitDefEqProofs)
    | (with_reducible refine And.intro (by first | omega | assumption | decide) ?_)
    | (((with_reducible apply AWp.drawS (id := 9) (t := (Sch.step 0 (Sch.step 2 (Sch.step 5 (Sch.step 9 (Sch.pure 10 (Sch.read 1 (Sch.step 3 (Sch.read 4 (Sch.step 6 (Sch.read 7 (Sch.read 8 (Sch.step 11 Sch.done)))))))))))))); (exact mixed); kernel_rfl; kernel_rfl; (repeat (with_reducible first | apply PanQ.then | apply PanQ.block | apply PanQ.body | apply PanQ.no))); simp -implicitDefEqProofs)
    | ((with_reducible apply AWp.ret); try simp -implicitDefEqProofs)
    | ((with_reducible apply AWp.skip); try simp -implicitDefEqProofs)
    | ((with_reducible apply AWp.exit); try simp -implicitDefEqProofs))
  intro id1 h_id1
  by_cases h6 : R.length = 6
  · have hlen : (pl R).length = 6 := by simp [pl, h6]
    have hS : formedS (pl R) = formF 0 (pl R) := by simp [formedS, hlen]
    obtain ⟨B, B_s, hB1, eq_B, le_B⟩ : ∃ B : AS, (σ.set id1 (.cells 24 [.sc (.int .i64 en), .lst 69 (R.map lV) o nl])) = B ∧ B id1 = some (.cells 24 [.sc (.int .i64 en), .lst 69 (R.map lV) o nl]) ∧ (∀ j, j ≠ id1 → B j = σ j) ∧ (∀ S' : AS, (∀ j, j ≠ id1 → ∀ y, B j = some y → S' j = some y) → AS.le σ S') := by
      refine ⟨_, rfl, by simp [], ?_, ?_⟩
      · intro j e_id1; simp [AS.set, e_id1]
      intro S' h j x hj
      have e_id1 : j ≠ id1 := by rintro rfl; rw [h_id1] at hj; cases hj
      exact h j e_id1 x (by simp [AS.set, e_id1, hj])
    simp only [B_s]
    clear B_s
    have hle : AS.le σ B := le_B B fun _ _ _ h => h
    repeat (first
      | (with_reducible apply AWp.seq)
      | (with_reducible apply AWp.block)
      | ((with_reducible apply AWp.fork); simp -implicitDefEqProofs [h6, hB1])
      | ((with_reducible apply AWp.region); simp -implicitDefEqProofs [h6, hB1])
      | (with_reducible refine And.intro (by first | omega | assumption | decide) ?_)
      | ((with_reducible show condK _ _ _); simp -implicitDefEqProofs [h6, hB1])
      | ((with_reducible show guardK _ _ _ _ _ _ _ _ _); simp -implicitDefEqProofs [h6, hB1])
      | (((with_reducible apply AWp.drawS (id := 9) (t := (Sch.step 0 (Sch.step 2 (Sch.step 5 (Sch.step 9 (Sch.pure 10 (Sch.read 1 (Sch.step 3 (Sch.read 4 (Sch.step 6 (Sch.read 7 (Sch.read 8 (Sch.step 11 Sch.done)))))))))))))); (exact mixed); kernel_rfl; kernel_rfl; (repeat (with_reducible first | apply PanQ.then | apply PanQ.block | apply PanQ.body | apply PanQ.no))); simp -implicitDefEqProofs [h6, hB1])
      | ((with_reducible apply AWp.ret); try simp -implicitDefEqProofs [h6, hB1])
      | ((with_reducible apply AWp.skip); try simp -implicitDefEqProofs [h6, hB1])
      | ((with_reducible apply AWp.exit); try simp -implicitDefEqProofs [h6, hB1]))
    refine AWp.loopI (rfO R id1 B) (k0 := 6) ⟨0, by omega, by omega, by simp, rfl, rfl⟩ (FrWk.mk (by simp)) (AS.le_refl _) ?_
    rintro m f σ' ⟨i, hm, hi, hX, hs, rfl⟩
    subst σ'
    by_cases hlt : i < 6
    · have hltR : i < R.length := by omega
      obtain ⟨x, hg, hmem, hd⟩ := hdp i hltR
      obtain ⟨_, hg'⟩ := List.getElem?_eq_some_iff.1 hg
      have hI : ((i : Int) < 6) = True := by simp; omega
      have hxl := hr x hmem
      rw [hd] at hX
      simp only [formF] at hX
      repeat (first
        | (with_reducible apply AWp.seq)
        | (with_reducible apply AWp.block)
        | ((with_reducible apply AWp.fork); simp -implicitDefEqProofs [hI, hB1])
        | ((with_reducible apply AWp.region); simp -implicitDefEqProofs [hI, hB1])
        | (with_reducible refine And.intro (by first | omega | assumption | decide) ?_)
        | ((with_reducible show condK _ _ _); simp -implicitDefEqProofs [hI, hB1])
        | ((with_reducible show guardK _ _ _ _ _ _ _ _ _); simp -implicitDefEqProofs [hI, hB1])
        | (((with_reducible apply AWp.drawS (id := 9) (t := (Sch.step 0 (Sch.step 2 (Sch.step 5 (Sch.step 9 (Sch.pure 10 (Sch.read 1 (Sch.step 3 (Sch.read 4 (Sch.step 6 (Sch.read 7 (Sch.read 8 (Sch.step 11 Sch.done)))))))))))))); (exact mixed); kernel_rfl; kernel_rfl; (repeat (with_reducible first | apply PanQ.then | apply PanQ.block | apply PanQ.body | apply PanQ.no))); simp -implicitDefEqProofs [hI, hB1])
        | ((with_reducible apply AWp.ret); try simp -implicitDefEqProofs [hI, hB1])
        | ((with_reducible apply AWp.skip); try simp -implicitDefEqProofs [hI, hB1])
        | ((with_reducible apply AWp.exit); try simp -implicitDefEqProofs [hI, hB1]))
      generalize hF0 : formF 0 (pl R) = F0 at hX
      refine AWp.loopI (rfI i x F0 (formF (i + 1) ((pl R).drop (i + 1))) id1 B) (k0 := x.1.length) ⟨0, by omega, by omega, by rw [hX, List.drop_zero], rfl, rfl⟩ (FrWk.mk (by simp)) (AS.le_refl _) ?_
      rintro m2 f σ' ⟨k, hm2, hk, hX2, hs, rfl⟩
      subst σ'
      by_cases hlt2 : k < x.1.length
      · obtain ⟨y, hg2, hd2, hmem2, _⟩ := at_lt x.1 hlt2
        obtain ⟨_, hg2'⟩ := List.getElem?_eq_some_iff.1 hg2
        have hK : ((k : Int) < x.1.length) = True := by simp; omega
        have hyl := hc x hmem y hmem2
        have hdp2 : (pl1 x).drop k = y.1 :: (pl1 x).drop (k + 1) := by
          rw [pl1, ← List.map_drop, hd2, List.map_cons, List.map_drop]
        rw [hdp2] at hX2
        simp only [List.all_cons] at hX2
        have hcol' := fun σ => hcol i σ
        by_cases hy : y.1.length = (kindsL i).length
        · have hy' : ((y.1.length : Int) = (kindsL i).length) = True := by simp; omega
          repeat (first
            | (with_reducible apply AWp.seq)
            | (with_reducible apply AWp.block)
            | ((with_reducible apply AWp.fork); simp -implicitDefEqProofs [hI, hltR, hg, hg', hK, hlt2, hg2, hg2', lV, iV, hy, hy', hB1])
            | ((with_reducible apply AWp.region); simp -implicitDefEqProofs [hI, hltR, hg, hg', hK, hlt2, hg2, hg2', lV, iV, hy, hy', hB1])
            | (with_reducible refine And.intro (by first | omega | assumption | decide) ?_)
            | ((with_reducible show condK _ _ _); simp -implicitDefEqProofs [hI, hltR, hg, hg', hK, hlt2, hg2, hg2', lV, iV, hy, hy', hB1])
            | ((with_reducible show guardK _ _ _ _ _ _ _ _ _); simp -implicitDefEqProofs [hI, hltR, hg, hg', hK, hlt2, hg2, hg2', lV, iV, hy, hy', hB1])
            | (((with_reducible apply AWp.drawS (id := 9) (t := (Sch.step 0 (Sch.step 2 (Sch.step 5 (Sch.step 9 (Sch.pure 10 (Sch.read 1 (Sch.step 3 (Sch.read 4 (Sch.step 6 (Sch.read 7 (Sch.read 8 (Sch.step 11 Sch.done)))))))))))))); (exact mixed); kernel_rfl; kernel_rfl; (repeat (with_reducible first | apply PanQ.then | apply PanQ.block | apply PanQ.body | apply PanQ.no))); simp -implicitDefEqProofs [hI, hltR, hg, hg', hK, hlt2, hg2, hg2', lV, iV, hy, hy', hB1])
            | ((with_reducible apply aCall.id); first
                | ((apply aCall.gives (hcol' _)); simp -implicitDefEqProofs [hI, hltR, hg, hg', hK, hlt2, hg2, hg2', lV, iV, hy, hy', hB1]))
            | ((with_reducible apply pureCall.id); first
                | ((apply pureCall.gives (fun _ => hcol' _)); simp -implicitDefEqProofs [hI, hltR, hg, hg', hK, hlt2, hg2, hg2', lV, iV, hy, hy', hB1]))
            | ((with_reducible apply AWp.ret); try simp -implicitDefEqProofs [hI, hltR, hg, hg', hK, hlt2, hg2, hg2', lV, iV, hy, hy', hB1])
            | ((with_reducible apply AWp.skip); try simp -implicitDefEqProofs [hI, hltR, hg, hg', hK, hlt2, hg2, hg2', lV, iV, hy, hy', hB1])
            | ((with_reducible apply AWp.exit); try simp -implicitDefEqProofs [hI, hltR, hg, hg', hK, hlt2, hg2, hg2', lV, iV, hy, hy', hB1]))
          refine ⟨m2 - 1, _, _, by omega, FrWk.mk ?_, AS.le_refl _, k + 1, by omega, by omega, by rw [← hX2]; simp [hy], rfl, rfl⟩
          simp [wInc (show k < 4000000000000000000 by omega)]
        · have hy' : ((y.1.length : Int) = (kindsL i).length) = False := by simp; omega
          repeat (first
            | (with_reducible apply AWp.seq)
            | (with_reducible apply AWp.block)
            | ((with_reducible apply AWp.fork); simp -implicitDefEqProofs [hI, hltR, hg, hg', hK, hlt2, hg2, hg2', lV, iV, hy, hy', hB1])
            | ((with_reducible apply AWp.region); simp -implicitDefEqProofs [hI, hltR, hg, hg', hK, hlt2, hg2, hg2', lV, iV, hy, hy', hB1])
            | (with_reducible refine And.intro (by first | omega | assumption | decide) ?_)
            | ((with_reducible show condK _ _ _); simp -implicitDefEqProofs [hI, hltR, hg, hg', hK, hlt2, hg2, hg2', lV, iV, hy, hy', hB1])
            | ((with_reducible show guardK _ _ _ _ _ _ _ _ _); simp -implicitDefEqProofs [hI, hltR, hg, hg', hK, hlt2, hg2, hg2', lV, iV, hy, hy', hB1])
            | (((with_reducible apply AWp.drawS (id := 9) (t := (Sch.step 0 (Sch.step 2 (Sch.step 5 (Sch.step 9 (Sch.pure 10 (Sch.read 1 (Sch.step 3 (Sch.read 4 (Sch.step 6 (Sch.read 7 (Sch.read 8 (Sch.step 11 Sch.done)))))))))))))); (exact mixed); kernel_rfl; kernel_rfl; (repeat (with_reducible first | apply PanQ.then | apply PanQ.block | apply PanQ.body | apply PanQ.no))); simp -implicitDefEqProofs [hI, hltR, hg, hg', hK, hlt2, hg2, hg2', lV, iV, hy, hy', hB1])
            | ((with_reducible apply aCall.id); first
                | ((apply aCall.gives (hcol' _)); simp -implicitDefEqProofs [hI, hltR, hg, hg', hK, hlt2, hg2, hg2', lV, iV, hy, hy', hB1]))
            | ((with_reducible apply pureCall.id); first
                | ((apply pureCall.gives (fun _ => hcol' _)); simp -implicitDefEqProofs [hI, hltR, hg, hg', hK, hlt2, hg2, hg2', lV, iV, hy, hy', hB1]))
            | ((with_reducible apply AWp.ret); try simp -implicitDefEqProofs [hI, hltR, hg, hg', hK, hlt2, hg2, hg2', lV, iV, hy, hy', hB1])
            | ((with_reducible apply AWp.skip); try simp -implicitDefEqProofs [hI, hltR, hg, hg', hK, hlt2, hg2, hg2', lV, iV, hy, hy', hB1])
            | ((with_reducible apply AWp.exit); try simp -implicitDefEqProofs [hI, hltR, hg, hg', hK, hlt2, hg2, hg2', lV, iV, hy, hy', hB1]))
          exact RPost.arg (by rw [hS, hF0, ← hX2]; simp [hy]) hle
      · have hK : ((k : Int) < x.1.length) = False := by simp; omega
        repeat (first
          | (with_reducible apply AWp.seq)
          | (with_reducible apply AWp.block)
          | ((with_reducible apply AWp.fork); simp -implicitDefEqProofs [hI, hltR, hg, hg', hK, lV, hB1])
          | ((with_reducible apply AWp.region); simp -implicitDefEqProofs [hI, hltR, hg, hg', hK, lV, hB1])
          | (with_reducible refine And.intro (by first | omega | assumption | decide) ?_)
          | ((with_reducible show condK _ _ _); simp -implicitDefEqProofs [hI, hltR, hg, hg', hK, lV, hB1])
          | ((with_reducible show guardK _ _ _ _ _ _ _ _ _); simp -implicitDefEqProofs [hI, hltR, hg, hg', hK, lV, hB1])
          | (((with_reducible apply AWp.drawS (id := 9) (t := (Sch.step 0 (Sch.step 2 (Sch.step 5 (Sch.step 9 (Sch.pure 10 (Sch.read 1 (Sch.step 3 (Sch.read 4 (Sch.step 6 (Sch.read 7 (Sch.read 8 (Sch.step 11 Sch.done)))))))))))))); (exact mixed); kernel_rfl; kernel_rfl; (repeat (with_reducible first | apply PanQ.then | apply PanQ.block | apply PanQ.body | apply PanQ.no))); simp -implicitDefEqProofs [hI, hltR, hg, hg', hK, lV, hB1])
          | ((with_reducible apply AWp.ret); try simp -implicitDefEqProofs [hI, hltR, hg, hg', hK, lV, hB1])
          | ((with_reducible apply AWp.skip); try simp -implicitDefEqProofs [hI, hltR, hg, hg', hK, lV, hB1])
          | ((with_reducible apply AWp.exit); try simp -implicitDefEqProofs [hI, hltR, hg, hg', hK, lV, hB1]))
        have hdn : (pl1 x).drop k = [] := List.drop_eq_nil_of_le (by simp [pl1]; omega)
        rw [hdn] at hX2
        refine ⟨m - 1, _, _, by omega, FrWk.mk ?_, AS.le_refl _, i + 1, by omega, by omega, by rw [hF0, ← hX2]; rfl, rfl, rfl⟩
        simp [wInc (show i < 4000000000000000000 by omega)]
    · obtain rfl : i = 6 := by omega
      have hdn : (pl R).drop 6 = [] := List.drop_eq_nil_of_le (by omega)
      rw [hdn] at hX
      have hFF : formF 0 (pl R) = true := hX
      rw [hFF] at hS
      clear hX
      repeat (first
        | (with_reducible apply AWp.seq)
        | (with_reducible apply AWp.block)
        | ((with_reducible apply AWp.fork); simp -implicitDefEqProofs [hB1])
        | ((with_reducible apply AWp.region); simp -implicitDefEqProofs [hB1])
        | (with_reducible refine And.intro (by first | omega | assumption | decide) ?_)
        | ((with_reducible show condK _ _ _); simp -implicitDefEqProofs [hB1])
        | ((with_reducible show guardK _ _ _ _ _ _ _ _ _); simp -implicitDefEqProofs [hB1])
        | (((with_reducible apply AWp.drawS (id := 9) (t := (Sch.step 0 (Sch.step 2 (Sch.step 5 (Sch.step 9 (Sch.pure 10 (Sch.read 1 (Sch.step 3 (Sch.read 4 (Sch.step 6 (Sch.read 7 (Sch.read 8 (Sch.step 11 Sch.done)))))))))))))); (exact mixed); kernel_rfl; kernel_rfl; (repeat (with_reducible first | apply PanQ.then | apply PanQ.block | apply PanQ.body | apply PanQ.no))); simp -implicitDefEqProofs [hB1])
        | ((with_reducible apply AWp.ret); try simp -implicitDefEqProofs [hB1])
        | ((with_reducible apply AWp.skip); try simp -implicitDefEqProofs [hB1])
        | ((with_reducible apply AWp.exit); try simp -implicitDefEqProofs [hB1]))
      refine AWp.mint 6 5 [] true (by simp [Try.ntmps18]) (.inr ⟨by simp, rfl, rfl⟩) ?_
      intro to h_to
      simp -implicitDefEqProofs [hB1]
      repeat (first
        | (with_reducible apply AWp.seq)
        | (with_reducible apply AWp.block)
        | ((with_reducible apply AWp.fork); simp -implicitDefEqProofs [hB1])
        | ((with_reducible apply AWp.region); simp -implicitDefEqProofs [hB1])
        | (with_reducible refine And.intro (by first | omega | assumption | decide) ?_)
        | ((with_reducible show condK _ _ _); simp -implicitDefEqProofs [hB1])
        | ((with_reducible show guardK _ _ _ _ _ _ _ _ _); simp -implicitDefEqProofs [hB1])
        | (((with_reducible apply AWp.drawS (id := 9) (t := (Sch.step 0 (Sch.step 2 (Sch.step 5 (Sch.step 9 (Sch.pure 10 (Sch.read 1 (Sch.step 3 (Sch.read 4 (Sch.step 6 (Sch.read 7 (Sch.read 8 (Sch.step 11 Sch.done)))))))))))))); (exact mixed); kernel_rfl; kernel_rfl; (repeat (with_reducible first | apply PanQ.then | apply PanQ.block | apply PanQ.body | apply PanQ.no))); simp -implicitDefEqProofs [hB1])
        | ((with_reducible apply AWp.ret); try simp -implicitDefEqProofs [hB1])
        | ((with_reducible apply AWp.skip); try simp -implicitDefEqProofs [hB1])
        | ((with_reducible apply AWp.exit); try simp -implicitDefEqProofs [hB1]))
      have hto1 : ¬ to = id1 := by rintro rfl; rw [hB1] at h_to; cases h_to
      have hto1' : ¬ id1 = to := fun e => hto1 e.symm
      have hσto : σ to = none := by rw [← eq_B to hto1]; exact h_to
      refine AWp.loopI (rtO R id1 to B) (k0 := 6) ⟨0, 0, by omega, by omega, by simp, by simp, rfl, rfl⟩ (FrWk.mk (by simp)) (AS.le_refl _) ?_
      rintro m f σ' ⟨i, th, hm, hi, hth, hth2, hs, rfl⟩
      subst σ'
      by_cases hlt : i < 6
      · have hltR : i < R.length := by omega
        obtain ⟨x, hg, hmem, hd⟩ := hdp i hltR
        obtain ⟨_, hg'⟩ := List.getElem?_eq_some_iff.1 hg
        have hI : ((i : Int) < 6) = True := by simp; omega
        have hxl := hr x hmem
        rw [hd] at hth
        simp only [thereN] at hth
        have hbig : (65535 < (x.1.length : Int)) = False := by simp; omega
        have hpow : 2 ^ (i + 1) = 2 * 2 ^ i := by rw [Nat.pow_succ]; omega
        have hple : (2 : Nat) ^ i ≤ 2 ^ 6 := Nat.pow_le_pow_right (by omega) (by omega)
        generalize hP : (2 : Nat) ^ i = P at *
        have hw2 : IntKind.i64.wrap (2 * (P : Int)) = ((2 * P : Nat) : Int) := by rw [in_i64 (by omega) (by omega)]; omega
        by_cases hz : x.1 = []
        · have hp1 : pl1 x = [] := by simp [pl1, hz]
          simp only [hp1, if_true] at hth
          repeat (first
            | (with_reducible apply AWp.seq)
            | (with_reducible apply AWp.block)
            | ((with_reducible apply AWp.fork); simp -implicitDefEqProofs [hI, hltR, hg, hg', hbig, lV, hz, hto1, hto1', hB1])
            | ((with_reducible apply AWp.region); simp -implicitDefEqProofs [hI, hltR, hg, hg', hbig, lV, hz, hto1, hto1', hB1])
            | (with_reducible refine And.intro (by first | omega | assumption | decide) ?_)
            | ((with_reducible show condK _ _ _); simp -implicitDefEqProofs [hI, hltR, hg, hg', hbig, lV, hz, hto1, hto1', hB1])
            | ((with_reducible show guardK _ _ _ _ _ _ _ _ _); simp -implicitDefEqProofs [hI, hltR, hg, hg', hbig, lV, hz, hto1, hto1', hB1])
            | (((with_reducible apply AWp.drawS (id := 9) (t := (Sch.step 0 (Sch.step 2 (Sch.step 5 (Sch.step 9 (Sch.pure 10 (Sch.read 1 (Sch.step 3 (Sch.read 4 (Sch.step 6 (Sch.read 7 (Sch.read 8 (Sch.step 11 Sch.done)))))))))))))); (exact mixed); kernel_rfl; kernel_rfl; (repeat (with_reducible first | apply PanQ.then | apply PanQ.block | apply PanQ.body | apply PanQ.no))); simp -implicitDefEqProofs [hI, hltR, hg, hg', hbig, lV, hz, hto1, hto1', hB1])
            | ((with_reducible apply AWp.ret); try simp -implicitDefEqProofs [hI, hltR, hg, hg', hbig, lV, hz, hto1, hto1', hB1])
            | ((with_reducible apply AWp.skip); try simp -implicitDefEqProofs [hI, hltR, hg, hg', hbig, lV, hz, hto1, hto1', hB1])
            | ((with_reducible apply AWp.exit); try simp -implicitDefEqProofs [hI, hltR, hg, hg', hbig, lV, hz, hto1, hto1', hB1]))
          refine ⟨m - 1, _, _, by omega, FrWk.mk ?_, AS.le_refl _, i + 1, th, by omega, by omega, by omega, by omega, rfl, rfl⟩
          simp [wInc (show i < 4000000000000000000 by omega), hw2, hpow]
        · have hp1 : pl1 x ≠ [] := by simp [pl1, hz]
          have hpos : (0 < x.1.length) = True := by simp only [eq_iff_iff, iff_true]; cases hx : x.1 with | nil => exact absurd hx hz | cons _ _ => simp
          simp only [hp1, if_false] at hth
          have hw1 : IntKind.i64.wrap ((th : Int) + (P : Int)) = ((th + P : Nat) : Int) := by rw [in_i64 (by omega) (by omega)]; omega
          repeat (first
            | (with_reducible apply AWp.seq)
            | (with_reducible apply AWp.block)
            | ((with_reducible apply AWp.fork); simp -implicitDefEqProofs [hI, hltR, hg, hg', hbig, lV, hpos, hto1, hto1', hB1])
            | ((with_reducible apply AWp.region); simp -implicitDefEqProofs [hI, hltR, hg, hg', hbig, lV, hpos, hto1, hto1', hB1])
            | (with_reducible refine And.intro (by first | omega | assumption | decide) ?_)
            | ((with_reducible show condK _ _ _); simp -implicitDefEqProofs [hI, hltR, hg, hg', hbig, lV, hpos, hto1, hto1', hB1])
            | ((with_reducible show guardK _ _ _ _ _ _ _ _ _); simp -implicitDefEqProofs [hI, hltR, hg, hg', hbig, lV, hpos, hto1, hto1', hB1])
            | (((with_reducible apply AWp.drawS (id := 9) (t := (Sch.step 0 (Sch.step 2 (Sch.step 5 (Sch.step 9 (Sch.pure 10 (Sch.read 1 (Sch.step 3 (Sch.read 4 (Sch.step 6 (Sch.read 7 (Sch.read 8 (Sch.step 11 Sch.done)))))))))))))); (exact mixed); kernel_rfl; kernel_rfl; (repeat (with_reducible first | apply PanQ.then | apply PanQ.block | apply PanQ.body | apply PanQ.no))); simp -implicitDefEqProofs [hI, hltR, hg, hg', hbig, lV, hpos, hto1, hto1', hB1])
            | ((with_reducible apply AWp.ret); try simp -implicitDefEqProofs [hI, hltR, hg, hg', hbig, lV, hpos, hto1, hto1', hB1])
            | ((with_reducible apply AWp.skip); try simp -implicitDefEqProofs [hI, hltR, hg, hg', hbig, lV, hpos, hto1, hto1', hB1])
            | ((with_reducible apply AWp.exit); try simp -implicitDefEqProofs [hI, hltR, hg, hg', hbig, lV, hpos, hto1, hto1', hB1]))
          refine ⟨m - 1, _, _, by omega, FrWk.mk ?_, AS.le_refl _, i + 1, th + P, by omega, by omega, by omega, by omega, rfl, rfl⟩
          simp [wInc (show i < 4000000000000000000 by omega), hw1, hw2, hpow]
      · obtain rfl : i = 6 := by omega
        have hdn : (pl R).drop 6 = [] := List.drop_eq_nil_of_le (by omega)
        rw [hdn] at hth
        simp [thereN] at hth
        have hth8 : IntKind.u8.wrap (th : Int) = ((UInt8.ofNat th).toNat : Int) := by rw [w_u8]; simp
        repeat (first
          | (with_reducible apply AWp.seq)
          | (with_reducible apply AWp.block)
          | ((with_reducible apply AWp.fork); simp -implicitDefEqProofs [hth8, hto1, hto1', hB1])
          | ((with_reducible apply AWp.region); simp -implicitDefEqProofs [hth8, hto1, hto1', hB1])
          | (with_reducible refine And.intro (by first | omega | assumption | decide) ?_)
          | ((with_reducible show condK _ _ _); simp -implicitDefEqProofs [hth8, hto1, hto1', hB1])
          | ((with_reducible show guardK _ _ _ _ _ _ _ _ _); simp -implicitDefEqProofs [hth8, hto1, hto1', hB1])
          | (((with_reducible apply AWp.drawS (id := 9) (t := (Sch.step 0 (Sch.step 2 (Sch.step 5 (Sch.step 9 (Sch.pure 10 (Sch.read 1 (Sch.step 3 (Sch.read 4 (Sch.step 6 (Sch.read 7 (Sch.read 8 (Sch.step 11 Sch.done)))))))))))))); (exact mixed); kernel_rfl; kernel_rfl; (repeat (with_reducible first | apply PanQ.then | apply PanQ.block | apply PanQ.body | apply PanQ.no))); simp -implicitDefEqProofs [hth8, hto1, hto1', hB1])
          | ((with_reducible apply AWp.ret); try simp -implicitDefEqProofs [hth8, hto1, hto1', hB1])
          | ((with_reducible apply AWp.skip); try simp -implicitDefEqProofs [hth8, hto1, hto1', hB1])
          | ((with_reducible apply AWp.exit); try simp -implicitDefEqProofs [hth8, hto1, hto1', hB1]))
        refine AWp.loopI (rcnO R ([0, UInt8.ofNat th] ++ cntB (pl R)) id1 to B) (k0 := 6) ⟨0, [0, UInt8.ofNat th], by omega, by omega, by simp, by simp, rfl, rfl⟩ (FrWk.mk (by simp)) (AS.le_refl _) ?_
        rintro m f σ' ⟨i, l, hm, hi, hC, hl, hs, rfl⟩
        subst σ'
        by_cases hlt : i < 6
        · have hltR : i < R.length := by omega
          obtain ⟨x, hg, hmem, hd⟩ := hdp i hltR
          obtain ⟨_, hg'⟩ := List.getElem?_eq_some_iff.1 hg
          have hI : ((i : Int) < 6) = True := by simp; omega
          have hxl := hr x hmem
          rw [hd] at hC
          simp only [cntB, List.flatMap_cons] at hC
          by_cases hz : x.1 = []
          · have hp1 : pl1 x = [] := by simp [pl1, hz]
            simp only [hp1, cnt1, if_true, List.nil_append] at hC
            repeat (first
              | (with_reducible apply AWp.seq)
              | (with_reducible apply AWp.block)
              | ((with_reducible apply AWp.fork); simp -implicitDefEqProofs [hI, hltR, hg, hg', lV, hz, hto1, hto1', hB1])
              | ((with_reducible apply AWp.region); simp -implicitDefEqProofs [hI, hltR, hg, hg', lV, hz, hto1, hto1', hB1])
              | (with_reducible refine And.intro (by first | omega | assumption | decide) ?_)
              | ((with_reducible show condK _ _ _); simp -implicitDefEqProofs [hI, hltR, hg, hg', lV, hz, hto1, hto1', hB1])
              | ((with_reducible show guardK _ _ _ _ _ _ _ _ _); simp -implicitDefEqProofs [hI, hltR, hg, hg', lV, hz, hto1, hto1', hB1])
              | (((with_reducible apply AWp.drawS (id := 9) (t := (Sch.step 0 (Sch.step 2 (Sch.step 5 (Sch.step 9 (Sch.pure 10 (Sch.read 1 (Sch.step 3 (Sch.read 4 (Sch.step 6 (Sch.read 7 (Sch.read 8 (Sch.step 11 Sch.done)))))))))))))); (exact mixed); kernel_rfl; kernel_rfl; (repeat (with_reducible first | apply PanQ.then | apply PanQ.block | apply PanQ.body | apply PanQ.no))); simp -implicitDefEqProofs [hI, hltR, hg, hg', lV, hz, hto1, hto1', hB1])
              | ((with_reducible apply AWp.ret); try simp -implicitDefEqProofs [hI, hltR, hg, hg', lV, hz, hto1, hto1', hB1])
              | ((with_reducible apply AWp.skip); try simp -implicitDefEqProofs [hI, hltR, hg, hg', lV, hz, hto1, hto1', hB1])
              | ((with_reducible apply AWp.exit); try simp -implicitDefEqProofs [hI, hltR, hg, hg', lV, hz, hto1, hto1', hB1]))
            refine ⟨m - 1, _, _, by omega, FrWk.mk ?_, AS.le_refl _, i + 1, l, by omega, by omega, hC, by omega, rfl, rfl⟩
            simp [wInc (show i < 4000000000000000000 by omega)]
          · have hp1 : pl1 x ≠ [] := by simp [pl1, hz]
            have hp1l : (pl1 x).length = x.1.length := by simp [pl1]
            have hpos : (0 < x.1.length) = True := by simp only [eq_iff_iff, iff_true]; cases hx : x.1 with | nil => exact absurd hx hz | cons _ _ => simp
            simp only [hp1, cnt1, if_false, hp1l] at hC
            have hwl : IntKind.u64.wrap (x.1.length : Int) = x.1.length := in_u64 (by omega) (by omega)
            have hput := fun σ => rput_ok (x.1.length : Int) 2 (by omega) (by omega) (by omega) (by omega) σ
            have hpl := putB_length (x.1.length : Int) 2
            have hpe : (putB (x.1.length : Int) 2).isEmpty = false := rfl
            simp only [show (2 : Int).toNat = 2 from rfl] at hput
            generalize putB (x.1.length : Int) 2 = pb at *
            repeat (first
              | (with_reducible apply AWp.seq)
              | (with_reducible apply AWp.block)
              | ((with_reducible apply AWp.fork); simp -implicitDefEqProofs [hI, hltR, hg, hg', lV, hpos, hwl, hto1, hto1', hB1])
              | ((with_reducible apply AWp.region); simp -implicitDefEqProofs [hI, hltR, hg, hg', lV, hpos, hwl, hto1, hto1', hB1])
              | (with_reducible refine And.intro (by first | omega | assumption | decide) ?_)
              | ((with_reducible show condK _ _ _); simp -implicitDefEqProofs [hI, hltR, hg, hg', lV, hpos, hwl, hto1, hto1', hB1])
              | ((with_reducible show guardK _ _ _ _ _ _ _ _ _); simp -implicitDefEqProofs [hI, hltR, hg, hg', lV, hpos, hwl, hto1, hto1', hB1])
              | (((with_reducible apply AWp.drawS (id := 9) (t := (Sch.step 0 (Sch.step 2 (Sch.step 5 (Sch.step 9 (Sch.pure 10 (Sch.read 1 (Sch.step 3 (Sch.read 4 (Sch.step 6 (Sch.read 7 (Sch.read 8 (Sch.step 11 Sch.done)))))))))))))); (exact mixed); kernel_rfl; kernel_rfl; (repeat (with_reducible first | apply PanQ.then | apply PanQ.block | apply PanQ.body | apply PanQ.no))); simp -implicitDefEqProofs [hI, hltR, hg, hg', lV, hpos, hwl, hto1, hto1', hB1])
              | ((with_reducible apply aCall.id); first
                  | ((apply aCall.owns (hput _)); simp -implicitDefEqProofs [hI, hltR, hg, hg', lV, hpos, hwl, hto1, hto1', hB1]))
              | ((with_reducible apply AWp.ret); try simp -implicitDefEqProofs [hI, hltR, hg, hg', lV, hpos, hwl, hto1, hto1', hB1])
              | ((with_reducible apply AWp.skip); try simp -implicitDefEqProofs [hI, hltR, hg, hg', lV, hpos, hwl, hto1, hto1', hB1])
              | ((with_reducible apply AWp.exit); try simp -implicitDefEqProofs [hI, hltR, hg, hg', lV, hpos, hwl, hto1, hto1', hB1]))
            intro tk2 h2 h2B
            have h2' : ¬ to = tk2 := fun e => h2 e.symm
            repeat (first
              | (with_reducible apply AWp.seq)
              | (with_reducible apply AWp.block)
              | ((with_reducible apply AWp.fork); simp -implicitDefEqProofs [h2, h2', hpe, hpl, hB1])
              | ((with_reducible apply AWp.region); simp -implicitDefEqProofs [h2, h2', hpe, hpl, hB1])
              | (with_reducible refine And.intro (by first | omega | assumption | decide) ?_)
              | ((with_reducible show condK _ _ _); simp -implicitDefEqProofs [h2, h2', hpe, hpl, hB1])
              | ((with_reducible show guardK _ _ _ _ _ _ _ _ _); simp -implicitDefEqProofs [h2, h2', hpe, hpl, hB1])
              | (((with_reducible apply AWp.drawS (id := 9) (t := (Sch.step 0 (Sch.step 2 (Sch.step 5 (Sch.step 9 (Sch.pure 10 (Sch.read 1 (Sch.step 3 (Sch.read 4 (Sch.step 6 (Sch.read 7 (Sch.read 8 (Sch.step 11 Sch.done)))))))))))))); (exact mixed); kernel_rfl; kernel_rfl; (repeat (with_reducible first | apply PanQ.then | apply PanQ.block | apply PanQ.body | apply PanQ.no))); simp -implicitDefEqProofs [h2, h2', hpe, hpl, hB1])
              | ((with_reducible apply AWp.ret); try simp -implicitDefEqProofs [h2, h2', hpe, hpl, hB1])
              | ((with_reducible apply AWp.skip); try simp -implicitDefEqProofs [h2, h2', hpe, hpl, hB1])
              | ((with_reducible apply AWp.exit); try simp -implicitDefEqProofs [h2, h2', hpe, hpl, hB1]))
            refine ⟨m - 1, _, _, by omega, FrWk.mk ?_, ?_, i + 1, l ++ pb, by omega, by omega, by rw [List.append_assoc]; exact hC, by rw [List.length_append, hpl]; omega, rfl, rfl⟩
            · simp [wInc (show i < 4000000000000000000 by omega)]
            · rw [List.length_append, hpl]
              exact le_new (by simp [AS.set, h2, h2B]) (AS.le_refl _)
        · obtain rfl : i = 6 := by omega
          have hdn : (pl R).drop 6 = [] := List.drop_eq_nil_of_le (by omega)
          rw [hdn] at hC
          simp only [cntB, List.flatMap_nil, List.append_nil] at hC
          cases hfe : fitsB en 2 with
          | false =>
            have hno := fun σ => rfits_ok en 2 (.inl rfl) σ
            rw [hfe] at hno
            repeat (first
              | (with_reducible apply AWp.seq)
              | (with_reducible apply AWp.block)
              | ((with_reducible apply AWp.fork); simp -implicitDefEqProofs [hto1, hto1', hB1])
              | ((with_reducible apply AWp.region); simp -implicitDefEqProofs [hto1, hto1', hB1])
              | (with_reducible refine And.intro (by first | omega | assumption | decide) ?_)
              | ((with_reducible show condK _ _ _); simp -implicitDefEqProofs [hto1, hto1', hB1])
              | ((with_reducible show guardK _ _ _ _ _ _ _ _ _); simp -implicitDefEqProofs [hto1, hto1', hB1])
              | (((with_reducible apply AWp.drawS (id := 9) (t := (Sch.step 0 (Sch.step 2 (Sch.step 5 (Sch.step 9 (Sch.pure 10 (Sch.read 1 (Sch.step 3 (Sch.read 4 (Sch.step 6 (Sch.read 7 (Sch.read 8 (Sch.step 11 Sch.done)))))))))))))); (exact mixed); kernel_rfl; kernel_rfl; (repeat (with_reducible first | apply PanQ.then | apply PanQ.block | apply PanQ.body | apply PanQ.no))); simp -implicitDefEqProofs [hto1, hto1', hB1])
              | ((with_reducible apply aCall.id); first
                  | ((apply aCall.gives (hno _)); simp -implicitDefEqProofs [hto1, hto1', hB1]))
              | ((with_reducible apply pureCall.id); first
                  | ((apply pureCall.gives (fun _ => hno _)); simp -implicitDefEqProofs [hto1, hto1', hB1]))
              | ((with_reducible apply AWp.ret); try simp -implicitDefEqProofs [hto1, hto1', hB1])
              | ((with_reducible apply AWp.skip); try simp -implicitDefEqProofs [hto1, hto1', hB1])
              | ((with_reducible apply AWp.exit); try simp -implicitDefEqProofs [hto1, hto1', hB1]))
            exact RPost.no hS (by simp [okW, hfe]) (AS.le_trans hle (le_new h_to (AS.le_refl _)))
          | true =>
            have hyes := fun σ => rfits_ok en 2 (.inl rfl) σ
            rw [hfe] at hyes
            have hen := fitsB_le hfe
            have hwl : IntKind.u64.wrap en = en := in_u64 (by omega) (by omega)
            have hput := fun σ => rput_ok en 2 (by omega) (by omega) (by omega) (by omega) σ
            have hpl := putB_length en 2
            have hpe : (putB en 2).isEmpty = false := rfl
            simp only [show (2 : Int).toNat = 2 from rfl] at hput
            have hWeq : writeW (pl R) en = (l ++ putB en 2) ++ bodyB 0 (pl R) := by rw [writeW, hC, hth]; simp [cntB]
            have hok : okW (pl R) en = allFit 0 (pl R) := by simp [okW, hfe]
            generalize putB en 2 = pb at *
            repeat (first
              | (with_reducible apply AWp.seq)
              | (with_reducible apply AWp.block)
              | ((with_reducible apply AWp.fork); simp -implicitDefEqProofs [hwl, hto1, hto1', hB1])
              | ((with_reducible apply AWp.region); simp -implicitDefEqProofs [hwl, hto1, hto1', hB1])
              | (with_reducible refine And.intro (by first | omega | assumption | decide) ?_)
              | ((with_reducible show condK _ _ _); simp -implicitDefEqProofs [hwl, hto1, hto1', hB1])
              | ((with_reducible show guardK _ _ _ _ _ _ _ _ _); simp -implicitDefEqProofs [hwl, hto1, hto1', hB1])
              | (((with_reducible apply AWp.drawS (id := 9) (t := (Sch.step 0 (Sch.step 2 (Sch.step 5 (Sch.step 9 (Sch.pure 10 (Sch.read 1 (Sch.step 3 (Sch.read 4 (Sch.step 6 (Sch.read 7 (Sch.read 8 (Sch.step 11 Sch.done)))))))))))))); (exact mixed); kernel_rfl; kernel_rfl; (repeat (with_reducible first | apply PanQ.then | apply PanQ.block | apply PanQ.body | apply PanQ.no))); simp -implicitDefEqProofs [hwl, hto1, hto1', hB1])
              | ((with_reducible apply aCall.id); first
                  | ((apply aCall.gives (hyes _)); simp -implicitDefEqProofs [hwl, hto1, hto1', hB1])
                  | ((apply aCall.owns (hput _)); simp -implicitDefEqProofs [hwl, hto1, hto1', hB1]))
              | ((with_reducible apply pureCall.id); first
                  | ((apply pureCall.gives (fun _ => hyes _)); simp -implicitDefEqProofs [hwl, hto1, hto1', hB1]))
              | ((with_reducible apply AWp.ret); try simp -implicitDefEqProofs [hwl, hto1, hto1', hB1])
              | ((with_reducible apply AWp.skip); try simp -implicitDefEqProofs [hwl, hto1, hto1', hB1])
              | ((with_reducible apply AWp.exit); try simp -implicitDefEqProofs [hwl, hto1, hto1', hB1]))
            intro tk2 h2 h2B
            have h2' : ¬ to = tk2 := fun e => h2 e.symm
            repeat (first
              | (with_reducible apply AWp.seq)
              | (with_reducible apply AWp.block)
              | ((with_reducible apply AWp.fork); simp -implicitDefEqProofs [h2, h2', hpe, hpl, hB1])
              | ((with_reducible apply AWp.region); simp -implicitDefEqProofs [h2, h2', hpe, hpl, hB1])
              | (with_reducible refine And.intro (by first | omega | assumption | decide) ?_)
              | ((with_reducible show condK _ _ _); simp -implicitDefEqProofs [h2, h2', hpe, hpl, hB1])
              | ((with_reducible show guardK _ _ _ _ _ _ _ _ _); simp -implicitDefEqProofs [h2, h2', hpe, hpl, hB1])
              | (((with_reducible apply AWp.drawS (id := 9) (t := (Sch.step 0 (Sch.step 2 (Sch.step 5 (Sch.step 9 (Sch.pure 10 (Sch.read 1 (Sch.step 3 (Sch.read 4 (Sch.step 6 (Sch.read 7 (Sch.read 8 (Sch.step 11 Sch.done)))))))))))))); (exact mixed); kernel_rfl; kernel_rfl; (repeat (with_reducible first | apply PanQ.then | apply PanQ.block | apply PanQ.body | apply PanQ.no))); simp -implicitDefEqProofs [h2, h2', hpe, hpl, hB1])
              | ((with_reducible apply AWp.ret); try simp -implicitDefEqProofs [h2, h2', hpe, hpl, hB1])
              | ((with_reducible apply AWp.skip); try simp -implicitDefEqProofs [h2, h2', hpe, hpl, hB1])
              | ((with_reducible apply AWp.exit); try simp -implicitDefEqProofs [h2, h2', hpe, hpl, hB1]))
            refine AWp.loopI (rbO R (okW (pl R) en) (writeW (pl R) en) id1 to B) (k0 := 6) ⟨0, l ++ pb, by omega, by omega, by rw [hok]; simp, by rw [hWeq]; simp, by rw [List.length_append, hpl]; omega, rfl, rfl⟩ (FrWk.mk ?_) ?_ ?_
            · simp
            · rw [List.length_append, hpl]
              exact le_new (by simp [AS.set, h2, h2B]) (AS.le_refl _)
            clear hput hC hWeq hpl hpe h2 h2' h2B hyes hok hl
            clear tk2 l
            rintro m f σ' ⟨i, l, hm, hi, hok, hC, hl, hs, rfl⟩
            subst σ'
            by_cases hlt : i < 6
            · have hltR : i < R.length := by omega
              obtain ⟨x, hg, hmem, hd⟩ := hdp i hltR
              obtain ⟨_, hg'⟩ := List.getElem?_eq_some_iff.1 hg
              have hI : ((i : Int) < 6) = True := by simp; omega
              have hxl := hr x hmem
              rw [hd] at hok hC
              simp only [allFit, bodyB] at hok hC
              repeat (first
                | (with_reducible apply AWp.seq)
                | (with_reducible apply AWp.block)
                | ((with_reducible apply AWp.fork); simp -implicitDefEqProofs [hI, hB1])
                | ((with_reducible apply AWp.region); simp -implicitDefEqProofs [hI, hB1])
                | (with_reducible refine And.intro (by first | omega | assumption | decide) ?_)
                | ((with_reducible show condK _ _ _); simp -implicitDefEqProofs [hI, hB1])
                | ((with_reducible show guardK _ _ _ _ _ _ _ _ _); simp -implicitDefEqProofs [hI, hB1])
                | (((with_reducible apply AWp.drawS (id := 9) (t := (Sch.step 0 (Sch.step 2 (Sch.step 5 (Sch.step 9 (Sch.pure 10 (Sch.read 1 (Sch.step 3 (Sch.read 4 (Sch.step 6 (Sch.read 7 (Sch.read 8 (Sch.step 11 Sch.done)))))))))))))); (exact mixed); kernel_rfl; kernel_rfl; (repeat (with_reducible first | apply PanQ.then | apply PanQ.block | apply PanQ.body | apply PanQ.no))); simp -implicitDefEqProofs [hI, hB1])
                | ((with_reducible apply AWp.ret); try simp -implicitDefEqProofs [hI, hB1])
                | ((with_reducible apply AWp.skip); try simp -implicitDefEqProofs [hI, hB1])
                | ((with_reducible apply AWp.exit); try simp -implicitDefEqProofs [hI, hB1]))
              refine AWp.loopI (rbI x (okW (pl R) en) (allFit (i + 1) ((pl R).drop (i + 1))) i (bodyB (i + 1) ((pl R).drop (i + 1))) (writeW (pl R) en) id1 to B) (k0 := x.1.length) ⟨0, l, by omega, by omega, hok, by rw [← hC]; simp, by omega, rfl, rfl⟩ (FrWk.mk (by simp)) (AS.le_refl _) ?_
              rintro m2 f σ' ⟨k, l2, hm2, hk, hok2, hC2, hl2, hs, rfl⟩
              subst σ'
              by_cases hlt2 : k < x.1.length
              · obtain ⟨y, hg2, hd2, hmem2, _⟩ := at_lt x.1 hlt2
                obtain ⟨_, hg2'⟩ := List.getElem?_eq_some_iff.1 hg2
                have hK : ((k : Int) < x.1.length) = True := by simp; omega
                have hyl := hc x hmem y hmem2
                have hdp2 : (pl1 x).drop k = y.1 :: (pl1 x).drop (k + 1) := by
                  rw [pl1, ← List.map_drop, hd2, List.map_cons, List.map_drop]
                rw [hdp2] at hok2 hC2
                simp only [tabFit, tabB, List.all_cons, List.flatMap_cons] at hok2 hC2
                have hlenY : y.1.length = (kindsL i).length := by
                  have := formF_get (k := i) (l := pl1 x) hFF (by simp [pl, hg]) y.1 (List.mem_map.2 ⟨y, hmem2, rfl⟩)
                  simpa using this
                have hkl := kinds_len (i : Int)
                have hcol' := fun σ => hcol i σ
                have hwid := fun j hj σ => rwidth_ok i j 0 hlt hj (by omega) σ
                generalize hks : kindsL (i : Int) = ks at *
                repeat (first
                  | (with_reducible apply AWp.seq)
                  | (with_reducible apply AWp.block)
                  | ((with_reducible apply AWp.fork); simp -implicitDefEqProofs [hI, hltR, hg, hg', hK, lV, hto1, hto1', hB1])
                  | ((with_reducible apply AWp.region); simp -implicitDefEqProofs [hI, hltR, hg, hg', hK, lV, hto1, hto1', hB1])
                  | (with_reducible refine And.intro (by first | omega | assumption | decide) ?_)
                  | ((with_reducible show condK _ _ _); simp -implicitDefEqProofs [hI, hltR, hg, hg', hK, lV, hto1, hto1', hB1])
                  | ((with_reducible show guardK _ _ _ _ _ _ _ _ _); simp -implicitDefEqProofs [hI, hltR, hg, hg', hK, lV, hto1, hto1', hB1])
                  | (((with_reducible apply AWp.drawS (id := 9) (t := (Sch.step 0 (Sch.step 2 (Sch.step 5 (Sch.step 9 (Sch.pure 10 (Sch.read 1 (Sch.step 3 (Sch.read 4 (Sch.step 6 (Sch.read 7 (Sch.read 8 (Sch.step 11 Sch.done)))))))))))))); (exact mixed); kernel_rfl; kernel_rfl; (repeat (with_reducible first | apply PanQ.then | apply PanQ.block | apply PanQ.body | apply PanQ.no))); simp -implicitDefEqProofs [hI, hltR, hg, hg', hK, lV, hto1, hto1', hB1])
                  | ((with_reducible apply AWp.ret); try simp -implicitDefEqProofs [hI, hltR, hg, hg', hK, lV, hto1, hto1', hB1])
                  | ((with_reducible apply AWp.skip); try simp -implicitDefEqProofs [hI, hltR, hg, hg', hK, lV, hto1, hto1', hB1])
                  | ((with_reducible apply AWp.exit); try simp -implicitDefEqProofs [hI, hltR, hg, hg', hK, lV, hto1, hto1', hB1]))
                refine AWp.loopI (rbJ ks y.1 (okW (pl R) en) (tabFit i ((pl1 x).drop (k + 1)) && allFit (i + 1) ((pl R).drop (i + 1))) i k (20 + 30000 * i + 24 * k) ((tabB i ((pl1 x).drop (k + 1))) ++ bodyB (i + 1) ((pl R).drop (i + 1))) (writeW (pl R) en) id1 to B) (k0 := ks.length) ⟨0, l2, by omega, by omega, ?_, ?_, by omega, rfl, rfl⟩ (FrWk.mk (by simp)) (AS.le_refl _) ?_
                · rw [hok2, List.drop_zero, List.drop_zero, Bool.and_assoc, tabFit, hks]
                · rw [List.drop_zero, List.drop_zero, ← hC2]; simp [tabB, hks]
                rintro m3 f σ' ⟨j, l3, hm3, hj, hok3, hC3, hl3, hs, rfl⟩
                subst σ'
                by_cases hlt3 : j < ks.length
                · obtain ⟨kd, hg3, hd3, hmem3, _⟩ := at_lt ks hlt3
                  obtain ⟨v, hg4, hd4, hmem4, _⟩ := at_lt y.1 (show j < y.1.length by omega)
                  obtain ⟨_, hg4'⟩ := List.getElem?_eq_some_iff.1 hg4
                  rw [hd3, hd4] at hok3 hC3
                  simp only [rowFit, rowB] at hok3 hC3
                  have hJ : ((j : Int) < ks.length) = True := by simp; omega
                  have hyj : j < y.1.length := by omega
                  have hwj := fun σ => hwid j hlt3 σ
                  rw [show ks.getD j 0 = kd by simp [hg3]] at hwj
                  have hw24 := wK_24 kd 0
                  generalize hwK : wK kd 0 = wk at *
                  have hfit := fun σ => rfits_ok v wk hw24 σ
                  cases hfv : fitsB v wk with
                  | false =>
                    rw [hfv] at hok3 hfit
                    repeat (first
                      | (with_reducible apply AWp.seq)
                      | (with_reducible apply AWp.block)
                      | ((with_reducible apply AWp.fork); simp -implicitDefEqProofs [hI, hltR, hg, hg', hK, hlt2, hg2, hg2', hJ, hyj, hg4, hg4', lV, iV, i64v_def, hto1, hto1', hB1])
                      | ((with_reducible apply AWp.region); simp -implicitDefEqProofs [hI, hltR, hg, hg', hK, hlt2, hg2, hg2', hJ, hyj, hg4, hg4', lV, iV, i64v_def, hto1, hto1', hB1])
                      | (with_reducible refine And.intro (by first | omega | assumption | decide) ?_)
                      | ((with_reducible show condK _ _ _); simp -implicitDefEqProofs [hI, hltR, hg, hg', hK, hlt2, hg2, hg2', hJ, hyj, hg4, hg4', lV, iV, i64v_def, hto1, hto1', hB1])
                      | ((with_reducible show guardK _ _ _ _ _ _ _ _ _); simp -implicitDefEqProofs [hI, hltR, hg, hg', hK, hlt2, hg2, hg2', hJ, hyj, hg4, hg4', lV, iV, i64v_def, hto1, hto1', hB1])
                      | (((with_reducible apply AWp.drawS (id := 9) (t := (Sch.step 0 (Sch.step 2 (Sch.step 5 (Sch.step 9 (Sch.pure 10 (Sch.read 1 (Sch.step 3 (Sch.read 4 (Sch.step 6 (Sch.read 7 (Sch.read 8 (Sch.step 11 Sch.done)))))))))))))); (exact mixed); kernel_rfl; kernel_rfl; (repeat (with_reducible first | apply PanQ.then | apply PanQ.block | apply PanQ.body | apply PanQ.no))); simp -implicitDefEqProofs [hI, hltR, hg, hg', hK, hlt2, hg2, hg2', hJ, hyj, hg4, hg4', lV, iV, i64v_def, hto1, hto1', hB1])
                      | ((with_reducible apply aCall.id); first
                          | ((apply aCall.gives (hcol' _)); simp -implicitDefEqProofs [hI, hltR, hg, hg', hK, hlt2, hg2, hg2', hJ, hyj, hg4, hg4', lV, iV, i64v_def, hto1, hto1', hB1])
                          | ((apply aCall.gives (hwj _)); simp -implicitDefEqProofs [hI, hltR, hg, hg', hK, hlt2, hg2, hg2', hJ, hyj, hg4, hg4', lV, iV, i64v_def, hto1, hto1', hB1])
                          | ((apply aCall.gives (hfit _)); simp -implicitDefEqProofs [hI, hltR, hg, hg', hK, hlt2, hg2, hg2', hJ, hyj, hg4, hg4', lV, iV, i64v_def, hto1, hto1', hB1]))
                      | ((with_reducible apply pureCall.id); first
                          | ((apply pureCall.gives (fun _ => hcol' _)); simp -implicitDefEqProofs [hI, hltR, hg, hg', hK, hlt2, hg2, hg2', hJ, hyj, hg4, hg4', lV, iV, i64v_def, hto1, hto1', hB1])
                          | ((apply pureCall.gives (fun _ => hwj _)); simp -implicitDefEqProofs [hI, hltR, hg, hg', hK, hlt2, hg2, hg2', hJ, hyj, hg4, hg4', lV, iV, i64v_def, hto1, hto1', hB1])
                          | ((apply pureCall.gives (fun _ => hfit _)); simp -implicitDefEqProofs [hI, hltR, hg, hg', hK, hlt2, hg2, hg2', hJ, hyj, hg4, hg4', lV, iV, i64v_def, hto1, hto1', hB1]))
                      | ((with_reducible apply AWp.ret); try simp -implicitDefEqProofs [hI, hltR, hg, hg', hK, hlt2, hg2, hg2', hJ, hyj, hg4, hg4', lV, iV, i64v_def, hto1, hto1', hB1])
                      | ((with_reducible apply AWp.skip); try simp -implicitDefEqProofs [hI, hltR, hg, hg', hK, hlt2, hg2, hg2', hJ, hyj, hg4, hg4', lV, iV, i64v_def, hto1, hto1', hB1])
                      | ((with_reducible apply AWp.exit); try simp -implicitDefEqProofs [hI, hltR, hg, hg', hK, hlt2, hg2, hg2', hJ, hyj, hg4, hg4', lV, iV, i64v_def, hto1, hto1', hB1]))
                    exact RPost.no hS (by rw [hok3]; rfl) (AS.le_trans hle (le_new h_to (AS.le_refl _)))
                  | true =>
                    rw [hfv] at hok3 hfit
                    have hen2 := fitsB_le hfv
                    have hwl2 : IntKind.u64.wrap v = v := in_u64 (by omega) (by omega)
                    have hput := fun σ => rput_ok v wk (by omega) (by omega) (by omega) (by omega) σ
                    have hpl := putB_length v wk.toNat
                    have hpe : (putB v wk.toNat).isEmpty = false := by rcases hw24 with rfl | rfl <;> rfl
                    generalize putB v wk.toNat = pb at *
                    repeat (first
                      | (with_reducible apply AWp.seq)
                      | (with_reducible apply AWp.block)
                      | ((with_reducible apply AWp.fork); simp -implicitDefEqProofs [hI, hltR, hg, hg', hK, hlt2, hg2, hg2', hJ, hyj, hg4, hg4', lV, iV, i64v_def, hwl2, hto1, hto1', hB1])
                      | ((with_reducible apply AWp.region); simp -implicitDefEqProofs [hI, hltR, hg, hg', hK, hlt2, hg2, hg2', hJ, hyj, hg4, hg4', lV, iV, i64v_def, hwl2, hto1, hto1', hB1])
                      | (with_reducible refine And.intro (by first | omega | assumption | decide) ?_)
                      | ((with_reducible show condK _ _ _); simp -implicitDefEqProofs [hI, hltR, hg, hg', hK, hlt2, hg2, hg2', hJ, hyj, hg4, hg4', lV, iV, i64v_def, hwl2, hto1, hto1', hB1])
                      | ((with_reducible show guardK _ _ _ _ _ _ _ _ _); simp -implicitDefEqProofs [hI, hltR, hg, hg', hK, hlt2, hg2, hg2', hJ, hyj, hg4, hg4', lV, iV, i64v_def, hwl2, hto1, hto1', hB1])
                      | (((with_reducible apply AWp.drawS (id := 9) (t := (Sch.step 0 (Sch.step 2 (Sch.step 5 (Sch.step 9 (Sch.pure 10 (Sch.read 1 (Sch.step 3 (Sch.read 4 (Sch.step 6 (Sch.read 7 (Sch.read 8 (Sch.step 11 Sch.done)))))))))))))); (exact mixed); kernel_rfl; kernel_rfl; (repeat (with_reducible first | apply PanQ.then | apply PanQ.block | apply PanQ.body | apply PanQ.no))); simp -implicitDefEqProofs [hI, hltR, hg, hg', hK, hlt2, hg2, hg2', hJ, hyj, hg4, hg4', lV, iV, i64v_def, hwl2, hto1, hto1', hB1])
                      | ((with_reducible apply aCall.id); first
                          | ((apply aCall.gives (hcol' _)); simp -implicitDefEqProofs [hI, hltR, hg, hg', hK, hlt2, hg2, hg2', hJ, hyj, hg4, hg4', lV, iV, i64v_def, hwl2, hto1, hto1', hB1])
                          | ((apply aCall.gives (hwj _)); simp -implicitDefEqProofs [hI, hltR, hg, hg', hK, hlt2, hg2, hg2', hJ, hyj, hg4, hg4', lV, iV, i64v_def, hwl2, hto1, hto1', hB1])
                          | ((apply aCall.gives (hfit _)); simp -implicitDefEqProofs [hI, hltR, hg, hg', hK, hlt2, hg2, hg2', hJ, hyj, hg4, hg4', lV, iV, i64v_def, hwl2, hto1, hto1', hB1])
                          | ((apply aCall.owns (hput _)); simp -implicitDefEqProofs [hI, hltR, hg, hg', hK, hlt2, hg2, hg2', hJ, hyj, hg4, hg4', lV, iV, i64v_def, hwl2, hto1, hto1', hB1]))
                      | ((with_reducible apply pureCall.id); first
                          | ((apply pureCall.gives (fun _ => hcol' _)); simp -implicitDefEqProofs [hI, hltR, hg, hg', hK, hlt2, hg2, hg2', hJ, hyj, hg4, hg4', lV, iV, i64v_def, hwl2, hto1, hto1', hB1])
                          | ((apply pureCall.gives (fun _ => hwj _)); simp -implicitDefEqProofs [hI, hltR, hg, hg', hK, hlt2, hg2, hg2', hJ, hyj, hg4, hg4', lV, iV, i64v_def, hwl2, hto1, hto1', hB1])
                          | ((apply pureCall.gives (fun _ => hfit _)); simp -implicitDefEqProofs [hI, hltR, hg, hg', hK, hlt2, hg2, hg2', hJ, hyj, hg4, hg4', lV, iV, i64v_def, hwl2, hto1, hto1', hB1]))
                      | ((with_reducible apply AWp.ret); try simp -implicitDefEqProofs [hI, hltR, hg, hg', hK, hlt2, hg2, hg2', hJ, hyj, hg4, hg4', lV, iV, i64v_def, hwl2, hto1, hto1', hB1])
                      | ((with_reducible apply AWp.skip); try simp -implicitDefEqProofs [hI, hltR, hg, hg', hK, hlt2, hg2, hg2', hJ, hyj, hg4, hg4', lV, iV, i64v_def, hwl2, hto1, hto1', hB1])
                      | ((with_reducible apply AWp.exit); try simp -implicitDefEqProofs [hI, hltR, hg, hg', hK, hlt2, hg2, hg2', hJ, hyj, hg4, hg4', lV, iV, i64v_def, hwl2, hto1, hto1', hB1]))
                    intro tk3 h3 h3B
                    have h3' : ¬ to = tk3 := fun e => h3 e.symm
                    repeat (first
                      | (with_reducible apply AWp.seq)
                      | (with_reducible apply AWp.block)
                      | ((with_reducible apply AWp.fork); simp -implicitDefEqProofs [h3, h3', hpe, hpl, hB1])
                      | ((with_reducible apply AWp.region); simp -implicitDefEqProofs [h3, h3', hpe, hpl, hB1])
                      | (with_reducible refine And.intro (by first | omega | assumption | decide) ?_)
                      | ((with_reducible show condK _ _ _); simp -implicitDefEqProofs [h3, h3', hpe, hpl, hB1])
                      | ((with_reducible show guardK _ _ _ _ _ _ _ _ _); simp -implicitDefEqProofs [h3, h3', hpe, hpl, hB1])
                      | (((with_reducible apply AWp.drawS (id := 9) (t := (Sch.step 0 (Sch.step 2 (Sch.step 5 (Sch.step 9 (Sch.pure 10 (Sch.read 1 (Sch.step 3 (Sch.read 4 (Sch.step 6 (Sch.read 7 (Sch.read 8 (Sch.step 11 Sch.done)))))))))))))); (exact mixed); kernel_rfl; kernel_rfl; (repeat (with_reducible first | apply PanQ.then | apply PanQ.block | apply PanQ.body | apply PanQ.no))); simp -implicitDefEqProofs [h3, h3', hpe, hpl, hB1])
                      | ((with_reducible apply AWp.ret); try simp -implicitDefEqProofs [h3, h3', hpe, hpl, hB1])
                      | ((with_reducible apply AWp.skip); try simp -implicitDefEqProofs [h3, h3', hpe, hpl, hB1])
                      | ((with_reducible apply AWp.exit); try simp -implicitDefEqProofs [h3, h3', hpe, hpl, hB1]))
                    refine ⟨m3 - 1, _, _, by omega, FrWk.mk ?_, ?_, j + 1, l3 ++ pb, by omega, by omega, by rw [hok3]; simp, by rw [← hC3]; simp, by rw [List.length_append, hpl]; omega, rfl, rfl⟩
                    · simp [wInc (show j < 4000000000000000000 by omega)]
                    · rw [List.length_append, hpl]
                      exact le_new (by simp [AS.set, h3, h3B]) (AS.le_refl _)
                · have hJ : ((j : Int) < ks.length) = False := by simp; omega
                  have hdn : ks.drop j = [] := List.drop_eq_nil_of_le (by omega)
                  rw [hdn] at hok3 hC3
                  simp [rowFit, rowB] at hok3 hC3
                  repeat (first
                    | (with_reducible apply AWp.seq)
                    | (with_reducible apply AWp.block)
                    | ((with_reducible apply AWp.fork); simp -implicitDefEqProofs [hJ, hB1])
                    | ((with_reducible apply AWp.region); simp -implicitDefEqProofs [hJ, hB1])
                    | (with_reducible refine And.intro (by first | omega | assumption | decide) ?_)
                    | ((with_reducible show condK _ _ _); simp -implicitDefEqProofs [hJ, hB1])
                    | ((with_reducible show guardK _ _ _ _ _ _ _ _ _); simp -implicitDefEqProofs [hJ, hB1])
                    | (((with_reducible apply AWp.drawS (id := 9) (t := (Sch.step 0 (Sch.step 2 (Sch.step 5 (Sch.step 9 (Sch.pure 10 (Sch.read 1 (Sch.step 3 (Sch.read 4 (Sch.step 6 (Sch.read 7 (Sch.read 8 (Sch.step 11 Sch.done)))))))))))))); (exact mixed); kernel_rfl; kernel_rfl; (repeat (with_reducible first | apply PanQ.then | apply PanQ.block | apply PanQ.body | apply PanQ.no))); simp -implicitDefEqProofs [hJ, hB1])
                    | ((with_reducible apply aCall.id); first
                        | ((apply aCall.gives (hcol' _)); simp -implicitDefEqProofs [hJ, hB1]))
                    | ((with_reducible apply pureCall.id); first
                        | ((apply pureCall.gives (fun _ => hcol' _)); simp -implicitDefEqProofs [hJ, hB1]))
                    | ((with_reducible apply AWp.ret); try simp -implicitDefEqProofs [hJ, hB1])
                    | ((with_reducible apply AWp.skip); try simp -implicitDefEqProofs [hJ, hB1])
                    | ((with_reducible apply AWp.exit); try simp -implicitDefEqProofs [hJ, hB1]))
                  refine ⟨m2 - 1, _, _, by omega, FrWk.mk ?_, AS.le_refl _, k + 1, l3, by omega, by omega, hok3, hC3, by omega, rfl, rfl⟩
                  simp [wInc (show k < 4000000000000000000 by omega)]
              · have hK : ((k : Int) < x.1.length) = False := by simp; omega
                have hdn : (pl1 x).drop k = [] := List.drop_eq_nil_of_le (by simp [pl1]; omega)
                rw [hdn] at hok2 hC2
                simp [tabFit, tabB] at hok2 hC2
                repeat (first
                  | (with_reducible apply AWp.seq)
                  | (with_reducible apply AWp.block)
                  | ((with_reducible apply AWp.fork); simp -implicitDefEqProofs [hI, hltR, hg, hg', hK, lV, hto1, hto1', hB1])
                  | ((with_reducible apply AWp.region); simp -implicitDefEqProofs [hI, hltR, hg, hg', hK, lV, hto1, hto1', hB1])
                  | (with_reducible refine And.intro (by first | omega | assumption | decide) ?_)
                  | ((with_reducible show condK _ _ _); simp -implicitDefEqProofs [hI, hltR, hg, hg', hK, lV, hto1, hto1', hB1])
                  | ((with_reducible show guardK _ _ _ _ _ _ _ _ _); simp -implicitDefEqProofs [hI, hltR, hg, hg', hK, lV, hto1, hto1', hB1])
                  | (((with_reducible apply AWp.drawS (id := 9) (t := (Sch.step 0 (Sch.step 2 (Sch.step 5 (Sch.step 9 (Sch.pure 10 (Sch.read 1 (Sch.step 3 (Sch.read 4 (Sch.step 6 (Sch.read 7 (Sch.read 8 (Sch.step 11 Sch.done)))))))))))))); (exact mixed); kernel_rfl; kernel_rfl; (repeat (with_reducible first | apply PanQ.then | apply PanQ.block | apply PanQ.body | apply PanQ.no))); simp -implicitDefEqProofs [hI, hltR, hg, hg', hK, lV, hto1, hto1', hB1])
                  | ((with_reducible apply AWp.ret); try simp -implicitDefEqProofs [hI, hltR, hg, hg', hK, lV, hto1, hto1', hB1])
                  | ((with_reducible apply AWp.skip); try simp -implicitDefEqProofs [hI, hltR, hg, hg', hK, lV, hto1, hto1', hB1])
                  | ((with_reducible apply AWp.exit); try simp -implicitDefEqProofs [hI, hltR, hg, hg', hK, lV, hto1, hto1', hB1]))
                refine ⟨m - 1, _, _, by omega, FrWk.mk ?_, AS.le_refl _, i + 1, l2, by omega, by omega, hok2, hC2, by omega, rfl, rfl⟩
                simp [wInc (show i < 4000000000000000000 by omega)]
            · obtain rfl : i = 6 := by omega
              have hdn : (pl R).drop 6 = [] := List.drop_eq_nil_of_le (by omega)
              rw [hdn] at hok hC
              simp [allFit, bodyB] at hok hC
              repeat (first
                | (with_reducible apply AWp.seq)
                | (with_reducible apply AWp.block)
                | ((with_reducible apply AWp.fork); simp -implicitDefEqProofs [hB1])
                | ((with_reducible apply AWp.region); simp -implicitDefEqProofs [hB1])
                | (with_reducible refine And.intro (by first | omega | assumption | decide) ?_)
                | ((with_reducible show condK _ _ _); simp -implicitDefEqProofs [hB1])
                | ((with_reducible show guardK _ _ _ _ _ _ _ _ _); simp -implicitDefEqProofs [hB1])
                | (((with_reducible apply AWp.drawS (id := 9) (t := (Sch.step 0 (Sch.step 2 (Sch.step 5 (Sch.step 9 (Sch.pure 10 (Sch.read 1 (Sch.step 3 (Sch.read 4 (Sch.step 6 (Sch.read 7 (Sch.read 8 (Sch.step 11 Sch.done)))))))))))))); (exact mixed); kernel_rfl; kernel_rfl; (repeat (with_reducible first | apply PanQ.then | apply PanQ.block | apply PanQ.body | apply PanQ.no))); simp -implicitDefEqProofs [hB1])
                | ((with_reducible apply AWp.ret); try simp -implicitDefEqProofs [hB1])
                | ((with_reducible apply AWp.skip); try simp -implicitDefEqProofs [hB1])
                | ((with_reducible apply AWp.exit); try simp -implicitDefEqProofs [hB1]))
              refine ⟨_, _, ?_, ?_, .inl ⟨hS, .inl ⟨hok, to, hσto, rfl, rfl⟩⟩⟩
              · rw [← hC]; exact Wk.refl _
              · rw [← hC]; exact le_set2 hle
  · have h6' : ((R.length : Int) = 6) = False := by simp; omega
    have hS : formedS (pl R) = false := by simp [formedS, pl, h6]
    repeat (first
      | (with_reducible apply AWp.seq)
      | (with_reducible apply AWp.block)
      | ((with_reducible apply AWp.fork); simp -implicitDefEqProofs [h6'])
      | ((with_reducible apply AWp.region); simp -implicitDefEqProofs [h6'])
      | (with_reducible refine And.intro (by first | omega | assumption | decide) ?_)
      | ((with_reducible show condK _ _ _); simp -implicitDefEqProofs [h6'])
      | ((with_reducible show guardK _ _ _ _ _ _ _ _ _); simp -implicitDefEqProofs [h6'])
      | (((with_reducible apply AWp.drawS (id := 9) (t := (Sch.step 0 (Sch.step 2 (Sch.step 5 (Sch.step 9 (Sch.pure 10 (Sch.read 1 (Sch.step 3 (Sch.read 4 (Sch.step 6 (Sch.read 7 (Sch.read 8 (Sch.step 11 Sch.done)))))))))))))); (exact mixed); kernel_rfl; kernel_rfl; (repeat (with_reducible first | apply PanQ.then | apply PanQ.block | apply PanQ.body | apply PanQ.no))); simp -implicitDefEqProofs [h6'])
      | ((with_reducible apply AWp.ret); try simp -implicitDefEqProofs [h6'])
      | ((with_reducible apply AWp.skip); try simp -implicitDefEqProofs [h6'])
      | ((with_reducible apply AWp.exit); try simp -implicitDefEqProofs [h6']))
    exact RPost.arg hS (le_new h_id1 (AS.le_refl _))

end Go.Proofs.Ytpekbapmnmnjoaa
