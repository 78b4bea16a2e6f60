/- Chapter 09: the document's Fits, Check, Right. -/
import Derived.Test.YtknalmoackcpbaaGreatAwGo
import Derived.Test.YtknalmoackcpbaaGreatReg6
set_option linter.unusedSimpArgs false
set_option linter.unusedVariables false
set_option maxRecDepth 100000
set_option maxHeartbeats 3200000
namespace Go.Proofs.YtknalmoackcpbaaGreat
namespace Rg
open Go Go.AW
theorem D0_XReg7 (S : List Nat) : Plans Tryz.prog [] S := mixed
theorem D182_XReg7 (S : List Nat) : Plans Tryz.prog [(12, (Sch.step 0 (Sch.step 1 (Sch.step 2 (Sch.step 4 (Sch.step 5 (Sch.step 6 (Sch.read 3 (Sch.read 7 (Sch.alt 8 (Sch.step 9 Sch.done) Sch.none))))))))))] S := mixed
def gR (a b : Cl) (q : Int) : Bool := decide ((bnd b q).f < (bnd b q).t) && (withB (bnd a 1) (bnd b q) && (withB (bnd a 2) (bnd b q) && withB (bnd a 3) (bnd b q)))
def rR (a b : Cl) (q : Int) : Bool := decide (q = 1) || !(decide (a.hf = (bnd b q).f) || (decide (a.k = 2) && decide (a.fl = (bnd b q).f)))
def sameT (a b : Cl) : Bool := decide (a.tf = b.tf) && decide (a.tt = b.tt)
def mR (a b : Cl) (p q : Int) : Bool := meetB (bnd a p) (bnd b q) && !(sameT a b && (decide (p = 1) && decide (q = 1)))
def nR (a b : Cl) : Bool := ([1, 2, 3] : List Int).all fun p => ([1, 2, 3] : List Int).all fun q => !mR a b p q
def fitsR (a b : Cl) : Bool := if gR a b 1 = true then rR a b 1 else if gR a b 2 = true then rR a b 2 else if gR a b 3 = true then rR a b 3 else nR a b
theorem fitsR_at {a b : Cl} {q : Nat} (h1 : 1 ≤ q) (h3 : q ≤ 3) (hg : gR a b q = true) (hn : ∀ j : Nat, 1 ≤ j → j < q → gR a b j = false) : fitsR a b = rR a b q := by
  unfold fitsR
  have : q = 1 ∨ q = 2 ∨ q = 3 := by omega
  rcases this with rfl | rfl | rfl
  · rw [show ((1 : Nat) : Int) = 1 from rfl] at hg ⊢; rw [if_pos hg]
  · have := hn 1 (by omega) (by omega)
    rw [show ((2 : Nat) : Int) = 2 from rfl] at hg ⊢; rw [show ((1 : Nat) : Int) = 1 from rfl] at this
    rw [this, if_pos hg]; rfl
  · have k1 := hn 1 (by omega) (by omega)
    have k2 := hn 2 (by omega) (by omega)
    rw [show ((3 : Nat) : Int) = 3 from rfl] at hg ⊢; rw [show ((1 : Nat) : Int) = 1 from rfl] at k1; rw [show ((2 : Nat) : Int) = 2 from rfl] at k2
    rw [k1, k2, if_pos hg]; rfl
theorem fitsR_no {a b : Cl} (hn : ∀ j : Nat, 1 ≤ j → j < 4 → gR a b j = false) : fitsR a b = nR a b := by
  unfold fitsR
  have k1 := hn 1 (by omega) (by omega)
  have k2 := hn 2 (by omega) (by omega)
  have k3 := hn 3 (by omega) (by omega)
  rw [show ((1 : Nat) : Int) = 1 from rfl] at k1; rw [show ((2 : Nat) : Int) = 2 from rfl] at k2; rw [show ((3 : Nat) : Int) = 3 from rfl] at k3
  rw [k1, k2, k3]; rfl
theorem nR_bad {a b : Cl} {p q : Nat} (h1 : 1 ≤ p) (h2 : p ≤ 3) (h3 : 1 ≤ q) (h4 : q ≤ 3) (h : mR a b p q = true) : nR a b = false := by
  unfold nR
  rw [List.all_eq_false]
  refine ⟨p, by simp; omega, ?_⟩
  simp only [Bool.not_eq_true]
  rw [List.all_eq_false]
  exact ⟨q, by simp; omega, by rw [h]; simp⟩
theorem nR_good {a b : Cl} (h : ∀ p : Nat, 1 ≤ p → p < 4 → ∀ q : Nat, 1 ≤ q → q < 4 → mR a b p q = false) : nR a b = true := by
  have e : ∀ x : Int, x ∈ ([1, 2, 3] : List Int) → ∃ n : Nat, x = n ∧ 1 ≤ n ∧ n < 4 := by
    intro x hx
    simp at hx
    rcases hx with rfl | rfl | rfl
    · exact ⟨1, rfl, by omega, by omega⟩
    · exact ⟨2, rfl, by omega, by omega⟩
    · exact ⟨3, rfl, by omega, by omega⟩
  unfold nR
  rw [List.all_eq_true]
  intro p hp
  rw [List.all_eq_true]
  intro q hq
  obtain ⟨p, rfl, p1, p2⟩ := e p hp
  obtain ⟨q, rfl, q1, q2⟩ := e q hq
  rw [h p p1 p2 q q1 q2]; rfl
theorem rfits_ok (a b : Cl) (σ : AS) : ACalls Tryz.prog 230 [clV a, clV b] σ (Gives (.sc (.bool (fitsR a b))) σ) No := by
  have hb := fun q σ => bounds_ok b q σ
  have hw := fun p q σ => rwithin_ok a b p q σ
  have hm := fun p q σ => meet_ok a b p q σ
  simp only [clV_def] at hb hw hm ⊢
  refine ACalls.of_body Tryz.func230 rfl rfl (by simp [Tryz.ntmps230]) ?_
  refine gO (D0_XReg7 []) (j2 @ci_lt @ci_le) True.intro (k := ?_)
  intro id h_id
  refine gO (D0_XReg7 []) (j2 @ci_lt @ci_le) True.intro (k := ?_)
  intro id2 n_id2_id h_id2
  have n_id_id2 : ¬ id = id2 := fun e => n_id2_id e.symm
  obtain ⟨B, B_s, hB1, hB2, eq_B, le_B⟩ : ∃ B : AS, ((σ.set id (.cells 158 [.sc (.int .i64 a.k), .sc (.int .i64 a.tf), .sc (.int .i64 a.tt), .sc (.int .i64 a.hf), .sc (.int .i64 a.ht), .sc (.int .i64 a.fl), .sc (.int .i64 a.a), .sc (.int .i64 a.b), .sc (.int .i64 a.c), .sc (.bool a.r)])).set id2 (.cells 158 [.sc (.int .i64 b.k), .sc (.int .i64 b.tf), .sc (.int .i64 b.tt), .sc (.int .i64 b.hf), .sc (.int .i64 b.ht), .sc (.int .i64 b.fl), .sc (.int .i64 b.a), .sc (.int .i64 b.b), .sc (.int .i64 b.c), .sc (.bool b.r)])) = B ∧ B id = some (.cells 158 [.sc (.int .i64 a.k), .sc (.int .i64 a.tf), .sc (.int .i64 a.tt), .sc (.int .i64 a.hf), .sc (.int .i64 a.ht), .sc (.int .i64 a.fl), .sc (.int .i64 a.a), .sc (.int .i64 a.b), .sc (.int .i64 a.c), .sc (.bool a.r)]) ∧ B id2 = some (.cells 158 [.sc (.int .i64 b.k), .sc (.int .i64 b.tf), .sc (.int .i64 b.tt), .sc (.int .i64 b.hf), .sc (.int .i64 b.ht), .sc (.int .i64 b.fl), .sc (.int .i64 b.a), .sc (.int .i64 b.b), .sc (.int .i64 b.c), .sc (.bool b.r)]) ∧ (∀ j, j ≠ id → j ≠ id2 → B j = σ j) ∧ (∀ S' : AS, (∀ j, j ≠ id → j ≠ id2 → ∀ y, B j = some y → S' j = some y) → AS.le σ S') := by
    refine ⟨_, rfl, by simp [n_id_id2, n_id2_id], by simp [n_id_id2, n_id2_id], ?_, ?_⟩
    · intro j e_id e_id2; simp [AS.set, e_id, e_id2]
    intro S' h j x hj
    have e_id : j ≠ id := by rintro rfl; rw [h_id] at hj; cases hj
    have e_id2 : j ≠ id2 := by rintro rfl; rw [h_id2] at hj; cases hj
    exact h j e_id e_id2 x (by simp [AS.set, e_id, e_id2, hj])
  simp only [B_s]
  clear B_s
  have hle : AS.le σ B := le_B B fun _ _ _ _ h => h
  refine gO (D0_XReg7 []) (j6 @ci_lt @ci_le @n_id2_id @n_id_id2 @hB1 @hB2) True.intro (k := ?_)
  refine AWp.loopA (α := (Nat)) (1) (fun q => 4 - q) (fun q => 1 ≤ q ∧ q ≤ 4 ∧ ∀ j : Nat, 1 ≤ j → j < q → gR a b j = false) [(2, ?_), (3, ?_)] (fun q => [(5, .sc (.int .i64 q))]) (fun q => B) ?_ ?_ ?_ ?_
  rotate_left 2
  · (try dsimp only); (simp only [List.cons_append, List.nil_append]; repeat (first | exact FrWk.nil | refine FrWk.cons (by first | (simp -implicitDefEqProofs [ci_lt, ci_le, n_id2_id, n_id_id2, hB1, hB2]; done) | exact Wk.of (by (try simp -implicitDefEqProofs [ci_lt, ci_le, n_id2_id, n_id_id2, hB1, hB2]) <;> rfl)) ?_))
  · (try dsimp only); (first | exact AS.le_refl _ | assumption | (repeat (first | exact AS.le_refl _ | assumption | refine le_new (by simp [*]) ?_)))
  · exact ⟨by omega, by omega, fun j h1 h2 => by omega⟩
  intro q hx_
  try dsimp only at hx_ ⊢
  obtain ⟨q1, q4, hX⟩ := hx_
  simp only [List.cons_append, List.nil_append]
  by_cases hq : q < 4
  · have hq3 : ((q : Int) ≤ 3) = True := by simp; omega
    have wi_q : IntKind.i64.wrap ((q : Int) + 1) = ((q + 1 : Nat) : Int) := ci_wi (by omega)
    have hb' := hb q
    have w1 := hw 1 q
    have w2 := hw 2 q
    have w3 := hw 3 q
    have hG : gR a b q = (decide ((bnd b q).f < (bnd b q).t) && (withB (bnd a 1) (bnd b q) && (withB (bnd a 2) (bnd b q) && withB (bnd a 3) (bnd b q)))) := rfl
    have hR : rR a b q = (decide ((q : Int) = 1) || !(decide (a.hf = (bnd b q).f) || (decide (a.k = 2) && decide (a.fl = (bnd b q).f)))) := rfl
    have hF : gR a b q = true → fitsR a b = rR a b q := fun h => fitsR_at q1 (by omega) h hX
    have hnx : gR a b q = false → (1 ≤ q + 1 ∧ q + 1 ≤ 4 ∧ ∀ j : Nat, 1 ≤ j → j < q + 1 → gR a b j = false) := fun h => ⟨by omega, by omega, fun j j1 j2 => by
      by_cases e : j = q
      · rw [e]; exact h
      · exact hX j j1 (by omega)⟩
    generalize withB (bnd a 1) (bnd b q) = b1 at *
    generalize withB (bnd a 2) (bnd b q) = b2 at *
    generalize withB (bnd a 3) (bnd b q) = b3 at *
    cases hg : gR a b q with
    | true =>
      rw [hF hg, hR]
      rw [hg] at hG
      have hG' := hG.symm
      simp only [Bool.and_eq_true, decide_eq_true_eq] at hG'
      obtain ⟨g1, rfl, rfl, rfl⟩ := hG'
      generalize bnd b q = t at *
      repeat' (first
        | (with_reducible first | apply AWp.seq | apply AWp.block | refine And.intro (by first | omega | assumption | decide) ?_)
        | ((first | (with_reducible first | apply AWp.fork | apply AWp.region | show condK _ _ _ | show guardK _ _ _ _ _ _ _ _ _) | ((with_reducible apply aCall.id); first | apply aCall.gives (hb' _) | apply aCall.gives (w1 _) | apply aCall.gives (w2 _) | apply aCall.gives (w3 _))); simp -implicitDefEqProofs [hq3, g1, ci_lt, ci_le, n_id2_id, n_id_id2, hB1, hB2, wi_q])
        | trivial
        | (with_reducible apply And.intro)
        | ((with_reducible first | apply AWp.ret | apply AWp.skip | apply AWp.exit); try simp -implicitDefEqProofs [hq3, g1, ci_lt, ci_le, n_id2_id, n_id_id2, hB1, hB2, wi_q])
        | ((with_reducible first | apply condK.split | apply guardK.split | apply pureG.split) <;> (intro hc; (try simp -implicitDefEqProofs only [hc]); (try simp at hc)) <;> try simp -implicitDefEqProofs [hq3, g1, ci_lt, ci_le, n_id2_id, n_id_id2, hB1, hB2, wi_q]))
    | false =>
      rw [hg] at hG
      have hn := hnx hg
      generalize bnd b q = t at *
      by_cases g1 : t.f < t.t <;> cases b1 <;> cases b2 <;> cases b3
      all_goals first | (exfalso; simp [g1] at hG; done) | skip
      all_goals
        refine gO (D0_XReg7 []) (And.intro (j7 @hq3 @g1 @ci_lt @ci_le @n_id2_id @n_id_id2 @hB1) (j2 @hB2 @wi_q)) (j4 @hb' @w1 @w2 @w3) (k := ?_)
        refine stepA.mk (q + 1) (by (try dsimp only); omega) (by (try dsimp only); (simp only [List.cons_append, List.nil_append]; repeat (first | exact FrWk.nil | refine FrWk.cons (by first | (simp -implicitDefEqProofs [ci_lt, ci_le, n_id2_id, n_id_id2, hB1, hB2, wi_q]; done) | exact Wk.of (by (try simp -implicitDefEqProofs [ci_lt, ci_le, n_id2_id, n_id_id2, hB1, hB2, wi_q]) <;> rfl)) ?_))) (by (try dsimp only); (first | exact AS.le_refl _ | assumption | (repeat (first | exact AS.le_refl _ | assumption | refine le_new (by simp [*]) ?_)))) ?_
        try dsimp only
        exact hn
  · obtain rfl : q = 4 := by omega
    rw [fitsR_no hX]
    have hq3 : (((4 : Nat) : Int) ≤ 3) = False := by simp
    have hs3 : (a.tf = b.tf ∧ a.tt = b.tt ∧ sameT a b = true) ∨ (¬ a.tf = b.tf ∧ True ∧ sameT a b = false) ∨ (a.tf = b.tf ∧ ¬ a.tt = b.tt ∧ sameT a b = false) := by
      by_cases s1 : a.tf = b.tf
      · by_cases s2 : a.tt = b.tt
        · exact .inl ⟨s1, s2, by simp [sameT, s1, s2]⟩
        · exact .inr (.inr ⟨s1, s2, by simp [sameT, s2]⟩)
      · exact .inr (.inl ⟨s1, trivial, by simp [sameT, s1]⟩)
    have hM : ∀ p q : Int, mR a b p q = (meetB (bnd a p) (bnd b q) && !(sameT a b && (decide (p = 1) && decide (q = 1)))) := fun _ _ => rfl
    rcases hs3 with ⟨s1, s2, hs⟩ | ⟨s1, s2, hs⟩ | ⟨s1, s2, hs⟩
    all_goals
      simp only [hs] at hM
      refine gO (D0_XReg7 []) (And.intro (j7 @hq3 @s1 @s2 @ci_lt @ci_le @n_id2_id @n_id_id2) (j2 @hB1 @hB2)) True.intro (k := ?_)
      refine AWp.loopA (α := (Nat)) (1) (fun p => 4 - p) (fun p => 1 ≤ p ∧ p ≤ 4 ∧ ∀ i : Nat, 1 ≤ i → i < p → ∀ j : Nat, 1 ≤ j → j < 4 → mR a b i j = false) [(2, ?_), (3, ?_), (8, ?_)] (fun p => [(9, .sc (.int .i64 p))]) (fun p => B) ?_ ?_ ?_ ?_
      rotate_left 3
      · (try dsimp only); (simp only [List.cons_append, List.nil_append]; repeat (first | exact FrWk.nil | refine FrWk.cons (by first | (simp -implicitDefEqProofs [ci_lt, ci_le, n_id2_id, n_id_id2, hB1, hB2]; done) | exact Wk.of (by (try simp -implicitDefEqProofs [ci_lt, ci_le, n_id2_id, n_id_id2, hB1, hB2]) <;> rfl)) ?_))
      · (try dsimp only); (first | exact AS.le_refl _ | assumption | (repeat (first | exact AS.le_refl _ | assumption | refine le_new (by simp [*]) ?_)))
      · exact ⟨by omega, by omega, fun j h1 h2 => by omega⟩
      intro p hx_
      try dsimp only at hx_ ⊢
      obtain ⟨p1, p4, hY⟩ := hx_
      simp only [List.cons_append, List.nil_append]
      by_cases hp : p < 4
      · have hp3 : ((p : Int) ≤ 3) = True := by simp; omega
        have wi_p : IntKind.i64.wrap ((p : Int) + 1) = ((p + 1 : Nat) : Int) := ci_wi (by omega)
        refine gO (D0_XReg7 []) (j8 @hp3 @ci_lt @ci_le @n_id2_id @n_id_id2 @hB1 @hB2 @wi_p) True.intro (k := ?_)
        refine AWp.loopA (α := (Nat)) (1) (fun q => 4 - q) (fun q => 1 ≤ q ∧ q ≤ 4 ∧ ∀ j : Nat, 1 ≤ j → j < q → mR a b p j = false) [(2, ?_), (3, ?_), (8, ?_), (9, ?_), (74, ?_), (75, ?_)] (fun q => [(10, .sc (.int .i64 q))]) (fun q => B) ?_ ?_ ?_ ?_
        rotate_left 6
        · (try dsimp only); (simp only [List.cons_append, List.nil_append]; repeat (first | exact FrWk.nil | refine FrWk.cons (by first | (simp -implicitDefEqProofs [ci_lt, ci_le, n_id2_id, n_id_id2, hB1, hB2, wi_p]; done) | exact Wk.of (by (try simp -implicitDefEqProofs [ci_lt, ci_le, n_id2_id, n_id_id2, hB1, hB2, wi_p]) <;> rfl)) ?_))
        · (try dsimp only); (first | exact AS.le_refl _ | assumption | (repeat (first | exact AS.le_refl _ | assumption | refine le_new (by simp [*]) ?_)))
        · exact ⟨by omega, by omega, fun j h1 h2 => by omega⟩
        intro q hx_
        try dsimp only at hx_ ⊢
        obtain ⟨q1, q4, hZ⟩ := hx_
        simp only [List.cons_append, List.nil_append]
        by_cases hq : q < 4
        · have hq3 : ((q : Int) ≤ 3) = True := by simp; omega
          have wi_q : IntKind.i64.wrap ((q : Int) + 1) = ((q + 1 : Nat) : Int) := ci_wi (by omega)
          have hm' := hm p q
          have hM' := hM p q
          have hnx : mR a b p q = false → (1 ≤ q + 1 ∧ q + 1 ≤ 4 ∧ ∀ j : Nat, 1 ≤ j → j < q + 1 → mR a b p j = false) := fun h => ⟨by omega, by omega, fun j j1 j2 => by
            by_cases e : j = q
            · rw [e]; exact h
            · exact hZ j j1 (by omega)⟩
          have hbad : mR a b p q = true → nR a b = false := fun h => nR_bad p1 (by omega) q1 (by omega) h
          generalize meetB (bnd a p) (bnd b q) = b1 at *
          generalize mR a b p q = b2 at *
          generalize nR a b = b3 at *
          cases b1
          · simp at hM'
            refine gO (D0_XReg7 []) (And.intro (j7 @hq3 @ci_lt @ci_le @n_id2_id @n_id_id2 @hB1 @hB2) (j2 @wi_p @wi_q)) @hm' (k := ?_)
            refine stepA.mk (q + 1) (by (try dsimp only); omega) (by (try dsimp only); (simp only [List.cons_append, List.nil_append]; repeat (first | exact FrWk.nil | refine FrWk.cons (by first | (simp -implicitDefEqProofs [ci_lt, ci_le, n_id2_id, n_id_id2, hB1, hB2, wi_p, wi_q]; done) | exact Wk.of (by (try simp -implicitDefEqProofs [ci_lt, ci_le, n_id2_id, n_id_id2, hB1, hB2, wi_p, wi_q]) <;> rfl)) ?_))) (by (try dsimp only); (first | exact AS.le_refl _ | assumption | (repeat (first | exact AS.le_refl _ | assumption | refine le_new (by simp [*]) ?_)))) ?_
            try dsimp only
            exact hnx hM'
          · rcases em_eq ((p : Int) = 1) with e1 | e1 <;> rcases em_eq ((q : Int) = 1) with e2 | e2
            all_goals
              simp [e1, e2] at hM'
              subst hM'
              simp at hbad hnx
              (try rw [hbad])
              refine gO (D0_XReg7 []) (And.intro (j7 @hq3 @e1 @e2 @ci_lt @ci_le @n_id2_id @n_id_id2) (j4 @hB1 @hB2 @wi_p @wi_q)) @hm' (k := ?_)
              try exact hle
            all_goals
              refine stepA.mk (q + 1) (by (try dsimp only); omega) (by (try dsimp only); (simp only [List.cons_append, List.nil_append]; repeat (first | exact FrWk.nil | refine FrWk.cons (by first | (simp -implicitDefEqProofs [ci_lt, ci_le, n_id2_id, n_id_id2, hB1, hB2, wi_p, wi_q]; done) | exact Wk.of (by (try simp -implicitDefEqProofs [ci_lt, ci_le, n_id2_id, n_id_id2, hB1, hB2, wi_p, wi_q]) <;> rfl)) ?_))) (by (try dsimp only); (first | exact AS.le_refl _ | assumption | (repeat (first | exact AS.le_refl _ | assumption | refine le_new (by simp [*]) ?_)))) ?_
              try dsimp only
              simpa using hnx
        · obtain rfl : q = 4 := by omega
          have hq3 : (((4 : Nat) : Int) ≤ 3) = False := by simp
          refine gO (D0_XReg7 []) (j8 @hq3 @ci_lt @ci_le @n_id2_id @n_id_id2 @hB1 @hB2 @wi_p) True.intro (k := ?_)
          refine stepA.mk (p + 1) (by (try dsimp only); omega) (by (try dsimp only); (simp only [List.cons_append, List.nil_append]; repeat (first | exact FrWk.nil | refine FrWk.cons (by first | (simp -implicitDefEqProofs [ci_lt, ci_le, n_id2_id, n_id_id2, hB1, hB2, wi_p]; done) | exact Wk.of (by (try simp -implicitDefEqProofs [ci_lt, ci_le, n_id2_id, n_id_id2, hB1, hB2, wi_p]) <;> rfl)) ?_))) (by (try dsimp only); (first | exact AS.le_refl _ | assumption | (repeat (first | exact AS.le_refl _ | assumption | refine le_new (by simp [*]) ?_)))) ?_
          try dsimp only
          refine ⟨by omega, by omega, fun i i1 i2 j j1 j2 => ?_⟩
          by_cases e : i = p
          · rw [e]; exact hZ j j1 j2
          · exact hY i i1 (by omega) j j1 j2
      · obtain rfl : p = 4 := by omega
        have hp3 : (((4 : Nat) : Int) ≤ 3) = False := by simp
        rw [nR_good hY]
        refine gO (D0_XReg7 []) (j7 @hp3 @ci_lt @ci_le @n_id2_id @n_id_id2 @hB1 @hB2) True.intro (k := ?_)
        try exact hle
theorem rcheck_ok (n : Int) (l : List Cl) (o : Own) (nl : Bool) (hl : l.length ≤ 140737488355328) (σ : AS) :
    ACalls Tryz.prog 182 [.sc (.int .i64 n), clsV l o nl] σ (Gives (.tup [.sc (.int .i64 (checkS (aloneR n) fitsR l).1), .sc (.int .i64 (checkS (aloneR n) fitsR l).2)]) σ) No := by
  have ha := fun c σ => ralone_ok n c σ
  have hf := fun a c σ => rfits_ok a c σ
  unfold checkS
  simp only [clsV, clV_def] at ha hf ⊢
  generalize aloneR n = al at *
  generalize fitsR = ft at *
  refine ACalls.of_body Tryz.func182 rfl rfl (by simp [Tryz.ntmps182]) ?_
  by_cases h6 : 6 < l.length
  · have h6' : (6 < (l.length : Int)) = True := by simp; omega
    exact gE (D182_XReg7 []) (j4 @h6 @h6' @ci_lt @ci_le) True.intro
  · have h6' : (6 < (l.length : Int)) = False := by simp; omega
    rw [if_neg h6]
    refine gO (D182_XReg7 []) (j3 @h6' @ci_lt @ci_le) True.intro (k := ?_)
    refine AWp.loopA (α := (Nat)) (0) (fun i => l.length - i) (fun i => i ≤ l.length ∧ chkF al ft [] l = chkF al ft (l.take i) (l.drop i)) [(0, ?_), (1, ?_)] (fun i => [(6, .sc (.int .i64 i))]) (fun i => σ) ?_ ?_ ?_ ?_
    rotate_left 2
    · (try dsimp only); (simp only [List.cons_append, List.nil_append]; repeat (first | exact FrWk.nil | refine FrWk.cons (by first | (simp -implicitDefEqProofs [ci_lt, ci_le]; done) | exact Wk.of (by (try simp -implicitDefEqProofs [ci_lt, ci_le]) <;> rfl)) ?_))
    · (try dsimp only); (first | exact AS.le_refl _ | assumption | (repeat (first | exact AS.le_refl _ | assumption | refine le_new (by simp [*]) ?_)))
    · (try dsimp only) <;> first | exact trivial | exact ⟨by omega, rfl⟩ | omega | (simp; done) | exact ⟨by omega, by simp⟩ | exact ⟨by omega, by simp, rfl⟩
    intro i hx_
    try dsimp only at hx_ ⊢
    obtain ⟨hi, hX⟩ := hx_
    simp only [List.cons_append, List.nil_append]
    by_cases hlt : i < l.length
    · have wi_i : IntKind.i64.wrap ((i : Int) + 1) = ((i + 1 : Nat) : Int) := ci_wi (by omega)
      rw [List.drop_eq_getElem_cons hlt] at hX
      simp only [chkF, List.length_take] at hX
      have hal := ha l[i]
      generalize hc : l[i] = c at *
      by_cases h0 : al c = 0
      · rw [if_pos h0] at hX
        refine gO (D182_XReg7 []) (j7 @hlt @hc @clV_def @h0 @ci_lt @ci_le @wi_i) @hal (k := ?_)
        refine AWp.loopA (α := (Nat)) (0) (fun k => i - k) (fun k => k ≤ i ∧ ∀ x ∈ l.take k, ft x c = true) [(0, ?_), (1, ?_), (6, ?_), (7, ?_), (12, ?_), (13, ?_), (14, ?_), (15, ?_), (18, ?_), (19, ?_), (20, ?_), (21, ?_), (22, ?_), (23, ?_), (24, ?_), (25, ?_), (26, ?_), (27, ?_)] (fun k => [(8, .sc (.int .i64 k))]) (fun k => σ) ?_ ?_ ?_ ?_
        rotate_left 18
        · (try dsimp only); (simp only [List.cons_append, List.nil_append]; repeat (first | exact FrWk.nil | refine FrWk.cons (by first | (simp -implicitDefEqProofs [ci_lt, ci_le, wi_i]; done) | exact Wk.of (by (try simp -implicitDefEqProofs [ci_lt, ci_le, wi_i]) <;> rfl)) ?_))
        · (try dsimp only); (first | exact AS.le_refl _ | assumption | (repeat (first | exact AS.le_refl _ | assumption | refine le_new (by simp [*]) ?_)))
        · (try dsimp only) <;> first | exact trivial | exact ⟨by omega, rfl⟩ | omega | (simp; done) | exact ⟨by omega, by simp⟩ | exact ⟨by omega, by simp, rfl⟩
        intro k hx_
        try dsimp only at hx_ ⊢
        obtain ⟨hk, hY⟩ := hx_
        simp only [List.cons_append, List.nil_append]
        by_cases hlt2 : k < i
        · have wi_k : IntKind.i64.wrap ((k : Int) + 1) = ((k + 1 : Nat) : Int) := ci_wi (by omega)
          have hfc := hf l[k] c
          have hm1 : k < l.length := by omega
          generalize hd : l[k] = d at *
          cases hb : ft d c with
          | true =>
            rw [hb] at hfc
            refine gO (D182_XReg7 []) (And.intro (j7 @hlt @hc @hlt2 @hd @clV_def @hm1 @ci_lt) (j3 @ci_le @wi_i @wi_k)) @hfc (k := ?_)
            refine stepA.mk (k + 1) (by (try dsimp only); omega) (by (try dsimp only); (simp only [List.cons_append, List.nil_append]; repeat (first | exact FrWk.nil | refine FrWk.cons (by first | (simp -implicitDefEqProofs [ci_lt, ci_le, wi_i, wi_k]; done) | exact Wk.of (by (try simp -implicitDefEqProofs [ci_lt, ci_le, wi_i, wi_k]) <;> rfl)) ?_))) (by (try dsimp only); (first | exact AS.le_refl _ | assumption | (repeat (first | exact AS.le_refl _ | assumption | refine le_new (by simp [*]) ?_)))) ?_
            try dsimp only
            refine ⟨by omega, fun x hx => ?_⟩
            rw [List.take_succ_eq_append_getElem (by omega)] at hx
            rcases List.mem_append.1 hx with hx | hx
            · exact hY x hx
            · simp at hx; rw [hx, hd]; exact hb
          | false =>
            rw [hb] at hfc
            have hno : ¬ (l.take i).all (fun a => ft a c) = true := by
              intro h
              rw [List.all_eq_true] at h
              have := h d (by rw [List.mem_take_iff_getElem]; exact ⟨k, by omega, hd⟩)
              rw [hb] at this; cases this
            rw [if_neg hno, show min i l.length = i by omega] at hX
            rw [hX]
            exact gE (D182_XReg7 []) (And.intro (j7 @hlt @hc @hlt2 @hd @clV_def @hm1 @ci_lt) (j3 @ci_le @wi_i @wi_k)) @hfc
        · have hall : (l.take i).all (fun a => ft a c) = true := by
            rw [List.all_eq_true]
            intro x hx
            exact hY x (by rwa [show k = i by omega])
          rw [if_pos hall] at hX
          refine gO (D182_XReg7 []) (j4 @hlt2 @ci_lt @ci_le @wi_i) True.intro (k := ?_)
          refine stepA.mk (i + 1) (by (try dsimp only); omega) (by (try dsimp only); (simp only [List.cons_append, List.nil_append]; repeat (first | exact FrWk.nil | refine FrWk.cons (by first | (simp -implicitDefEqProofs [ci_lt, ci_le, wi_i]; done) | exact Wk.of (by (try simp -implicitDefEqProofs [ci_lt, ci_le, wi_i]) <;> rfl)) ?_))) (by (try dsimp only); (first | exact AS.le_refl _ | assumption | (repeat (first | exact AS.le_refl _ | assumption | refine le_new (by simp [*]) ?_)))) ?_
          try dsimp only
          refine ⟨by omega, ?_⟩
          rw [hX, List.take_succ_eq_append_getElem hlt, hc]
      · rw [if_neg h0, show min i l.length = i by omega] at hX
        rw [hX]
        exact gE (D182_XReg7 []) (j7 @hlt @hc @clV_def @h0 @ci_lt @ci_le @wi_i) @hal
    · rw [List.drop_eq_nil_of_le (by omega)] at hX
      rw [hX]
      simp only [chkF]
      exact gE (D182_XReg7 []) (j3 @hlt @ci_lt @ci_le) True.intro
theorem right_ok (n : Int) (l : List Cl) (o : Own) (nl : Bool) (hl : l.length ≤ 140737488355328) (σ : AS) :
    ACalls Tryz.prog 129 [.sc (.int .i64 n), clsV l o nl] σ (Gives (.sc (.bool (decide ((checkS (aloneR n) fitsR l).2 = 0)))) σ) No := by
  have hc := rcheck_ok n l o nl hl σ
  simp only [clsV] at hc ⊢
  refine ACalls.of_body Tryz.func129 rfl rfl (by simp [Tryz.ntmps129]) ?_
  exact gE (D0_XReg7 []) True.intro @hc
end Rg
end Go.Proofs.YtknalmoackcpbaaGreat
