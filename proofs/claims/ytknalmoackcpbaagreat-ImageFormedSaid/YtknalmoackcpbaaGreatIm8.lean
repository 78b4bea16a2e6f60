/- Chapter 10, the reference: Long. -/
import Derived.Test.YtknalmoackcpbaaGreatAwGo
import Derived.Test.YtknalmoackcpbaaGreatIm1
set_option linter.unusedSimpArgs false
set_option linter.unusedVariables false
set_option maxRecDepth 100000
set_option maxHeartbeats 3200000
namespace Go.Proofs.YtknalmoackcpbaaGreat
namespace Im
open Go Go.AW
theorem D0_XIm8 (S : List Nat) : Plans Tryz.prog [] S := mixed
open Rg (Cl clV clV_def)
def tLong (t : TD) : Bool := decide (20 < t.faces.length ∨ 100 < t.name.length)
def mLong (m : Mt) : Bool := decide (30 < m.ps.length ∨ 30 < m.ls.length ∨ 200 < m.code.length ∨ 20 < m.cls.length ∨ 100 < m.name.length)
def longB (g : Img) : Bool := decide (40 < g.ts.length ∨ 80 < g.fs.length ∨ 80 < g.ms.length) || (g.ts.any tLong || g.ms.any mLong)
theorem any_hit {α : Type} {p : α → Bool} {l : List α} {i : Nat} (h : i < l.length) (h2 : p l[i] = true) : l.any p = true := by
  rw [List.any_eq_true]; exact ⟨_, List.getElem_mem h, h2⟩
theorem any_none {α : Type} {p : α → Bool} {l : List α} {i : Nat} (h : ¬ i < l.length) (h1 : ∀ x ∈ l.take i, p x = false) : l.any p = false := by
  rw [List.take_of_length_le (by omega)] at h1
  cases e : l.any p with
  | false => rfl
  | true => rw [List.any_eq_true] at e; obtain ⟨x, hx, hp⟩ := e; rw [h1 x hx] at hp; cases hp
theorem any_next {α : Type} {p : α → Bool} {l : List α} {i : Nat} (h : i < l.length) (h1 : ∀ x ∈ l.take i, p x = false) (h2 : p l[i] = false) : ∀ x ∈ l.take (i + 1), p x = false := by
  intro x hx
  rw [List.take_succ_eq_append_getElem h] at hx
  rcases List.mem_append.1 hx with hx | hx
  · exact h1 x hx
  · simp at hx; rw [hx]; exact h2
theorem long_ok (g : Img) (h1 : g.ts.length ≤ 140737488355328) (h2 : g.ms.length ≤ 140737488355328) (σ : AS) :
    ACalls Tryz.prog 8 [imV g] σ (Gives (.sc (.bool (longB g))) σ) No := by
  unfold longB
  generalize hd0 : decide (40 < g.ts.length ∨ 80 < g.fs.length ∨ 80 < g.ms.length) = d0
  generalize hTA : g.ts.any tLong = TA
  generalize hMA : g.ms.any mLong = MA
  simp only [imV_def]
  refine ACalls.of_body Tryz.func8 rfl rfl (by simp [Tryz.ntmps8]) ?_
  refine gO (D0_XIm8 []) (j2 @ci_lt @ci_le) True.intro (k := ?_)
  intro id h_id
  by_cases a1 : 40 < g.ts.length
  · have a1' : (40 < (g.ts.length : Int)) = True := by simp; omega
    obtain rfl : d0 = true := by rw [← hd0]; simp; omega
    refine gO (D0_XIm8 []) (j3 @a1' @ci_lt @ci_le) True.intro (k := ?_)
    all_goals (repeat' (with_reducible apply And.intro))
    all_goals first
      | exact AS.le_refl _
      | ((repeat (first | exact AS.le_refl _ | assumption | refine le_new (by simp [*]) ?_)); done)
      | (refine wk_eq ?_; simp_all [skipV]; done)
      | (refine wk_b ?_; rw [Bool.eq_iff_iff]; simp [*]; omega)
      | (refine wk_eq ?_; simp [*]; omega)
      | (refine wk_eq ?_; split <;> simp_all [skipV]; done)
      | (exfalso; omega)
  · have a1' : (40 < (g.ts.length : Int)) = False := by simp; omega
    by_cases a2 : 80 < g.fs.length
    · have a2' : (80 < (g.fs.length : Int)) = True := by simp; omega
      obtain rfl : d0 = true := by rw [← hd0]; simp; omega
      refine gO (D0_XIm8 []) (j4 @a1' @a2' @ci_lt @ci_le) True.intro (k := ?_)
      all_goals (repeat' (with_reducible apply And.intro))
      all_goals first
        | exact AS.le_refl _
        | ((repeat (first | exact AS.le_refl _ | assumption | refine le_new (by simp [*]) ?_)); done)
        | (refine wk_eq ?_; simp_all [skipV]; done)
        | (refine wk_b ?_; rw [Bool.eq_iff_iff]; simp [*]; omega)
        | (refine wk_eq ?_; simp [*]; omega)
        | (refine wk_eq ?_; split <;> simp_all [skipV]; done)
        | (exfalso; omega)
    · have a2' : (80 < (g.fs.length : Int)) = False := by simp; omega
      by_cases a3 : 80 < g.ms.length
      · have a3' : (80 < (g.ms.length : Int)) = True := by simp; omega
        obtain rfl : d0 = true := by rw [← hd0]; simp; omega
        refine gO (D0_XIm8 []) (j5 @a1' @a2' @a3' @ci_lt @ci_le) True.intro (k := ?_)
        all_goals (repeat' (with_reducible apply And.intro))
        all_goals first
          | exact AS.le_refl _
          | ((repeat (first | exact AS.le_refl _ | assumption | refine le_new (by simp [*]) ?_)); done)
          | (refine wk_eq ?_; simp_all [skipV]; done)
          | (refine wk_b ?_; rw [Bool.eq_iff_iff]; simp [*]; omega)
          | (refine wk_eq ?_; simp [*]; omega)
          | (refine wk_eq ?_; split <;> simp_all [skipV]; done)
          | (exfalso; omega)
      · have a3' : (80 < (g.ms.length : Int)) = False := by simp; omega
        obtain rfl : d0 = false := by rw [← hd0]; simp; omega
        refine gO (D0_XIm8 []) (j5 @a1' @a2' @a3' @ci_lt @ci_le) True.intro (k := ?_)
        refine AWp.loopA (α := (Nat)) (0) (fun i => g.ts.length - i) (fun i => i ≤ g.ts.length ∧ ∀ x ∈ g.ts.take i, tLong x = false) [(1, ?_)] (fun i => [(3, .sc (.int .i64 i))]) (fun i => σ.set id (.cells 26 (imV g).cells)) ?_ ?_ ?_ ?_
        rotate_left 1
        · (try dsimp only); (simp only [List.cons_append, List.nil_append]; repeat (first | exact FrWk.nil | refine FrWk.cons (by first | (simp -implicitDefEqProofs [ci_lt, ci_le]; done) | exact Wk.of (by (try simp -implicitDefEqProofs [ci_lt, ci_le]) <;> rfl)) ?_))
        · (try dsimp only); (first | exact AS.le_refl _ | assumption | (repeat (first | exact AS.le_refl _ | assumption | refine le_new (by simp [*]) ?_)))
        · (try dsimp only) <;> first | exact trivial | exact ⟨by omega, rfl⟩ | omega | (simp; done) | exact ⟨by omega, by simp⟩ | exact ⟨by omega, by simp, rfl⟩
        intro i hx_
        try dsimp only at hx_ ⊢
        obtain ⟨hi0, hX0⟩ := hx_
        simp only [List.cons_append, List.nil_append]
        by_cases hlt0 : i < g.ts.length
        · have wi_i : IntKind.i64.wrap ((i : Int) + 1) = ((i + 1 : Nat) : Int) := ci_wi (by omega)
          have hbad : tLong g.ts[i] = true → TA = true := fun h => by rw [← hTA]; exact any_hit hlt0 h
          have hgood : tLong g.ts[i] = false → ∀ y ∈ g.ts.take (i + 1), tLong y = false := fun h => any_next hlt0 hX0 h
          generalize hc : g.ts[i] = t at *
          by_cases b1 : 20 < t.faces.length
          · have b1' : (20 < (t.faces.length : Int)) = True := by simp; omega
            rw [hbad (by unfold tLong; simp; omega)]
            refine gO (D0_XIm8 []) (j8 @hlt0 @hc @tdV_def @imV_def @b1' @ci_lt @ci_le @wi_i) True.intro (k := ?_)
            all_goals (repeat' (with_reducible apply And.intro))
            all_goals first
              | exact AS.le_refl _
              | ((repeat (first | exact AS.le_refl _ | assumption | refine le_new (by simp [*]) ?_)); done)
              | (refine wk_eq ?_; simp_all [skipV]; done)
              | (refine wk_b ?_; rw [Bool.eq_iff_iff]; simp [*]; omega)
              | (refine wk_eq ?_; simp [*]; omega)
              | (refine wk_eq ?_; split <;> simp_all [skipV]; done)
              | (exfalso; omega)
          · have b1' : (20 < (t.faces.length : Int)) = False := by simp; omega
            by_cases b2 : 100 < t.name.length
            · have b2' : (100 < (t.name.length : Int)) = True := by simp; omega
              rw [hbad (by unfold tLong; simp; omega)]
              refine gO (D0_XIm8 []) (And.intro (j7 @hlt0 @hc @tdV_def @imV_def @b1' @b2' @ci_lt) (j2 @ci_le @wi_i)) True.intro (k := ?_)
              all_goals (repeat' (with_reducible apply And.intro))
              all_goals first
                | exact AS.le_refl _
                | ((repeat (first | exact AS.le_refl _ | assumption | refine le_new (by simp [*]) ?_)); done)
                | (refine wk_eq ?_; simp_all [skipV]; done)
                | (refine wk_b ?_; rw [Bool.eq_iff_iff]; simp [*]; omega)
                | (refine wk_eq ?_; simp [*]; omega)
                | (refine wk_eq ?_; split <;> simp_all [skipV]; done)
                | (exfalso; omega)
            · have b2' : (100 < (t.name.length : Int)) = False := by simp; omega
              refine gO (D0_XIm8 []) (And.intro (j7 @hlt0 @hc @tdV_def @imV_def @b1' @b2' @ci_lt) (j2 @ci_le @wi_i)) True.intro (k := ?_)
              refine stepA.mk (i + 1) (by (try dsimp only); omega) (by (try dsimp only); (simp only [List.cons_append, List.nil_append]; repeat (first | exact FrWk.nil | refine FrWk.cons (by first | (simp -implicitDefEqProofs [ci_lt, ci_le, wi_i]; done) | exact Wk.of (by (try simp -implicitDefEqProofs [ci_lt, ci_le, wi_i]) <;> rfl)) ?_))) (by (try dsimp only); (first | exact AS.le_refl _ | assumption | (repeat (first | exact AS.le_refl _ | assumption | refine le_new (by simp [*]) ?_)))) ?_
              try dsimp only
              exact ⟨hlt0, hgood (by unfold tLong; simp; omega)⟩
        · have hTAt : TA = false := by rw [← hTA]; exact any_none hlt0 hX0
          rw [hTAt]
          refine gO (D0_XIm8 []) (j4 @hlt0 @imV_def @ci_lt @ci_le) True.intro (k := ?_)
          refine AWp.loopA (α := (Nat)) (0) (fun j => g.ms.length - j) (fun j => j ≤ g.ms.length ∧ ∀ x ∈ g.ms.take j, mLong x = false) [(1, ?_)] (fun j => [(4, .sc (.int .i64 j))]) (fun j => σ.set id (.cells 26 (imV g).cells)) ?_ ?_ ?_ ?_
          rotate_left 1
          · (try dsimp only); (simp only [List.cons_append, List.nil_append]; repeat (first | exact FrWk.nil | refine FrWk.cons (by first | (simp -implicitDefEqProofs [ci_lt, ci_le]; done) | exact Wk.of (by (try simp -implicitDefEqProofs [ci_lt, ci_le]) <;> rfl)) ?_))
          · (try dsimp only); (first | exact AS.le_refl _ | assumption | (repeat (first | exact AS.le_refl _ | assumption | refine le_new (by simp [*]) ?_)))
          · (try dsimp only) <;> first | exact trivial | exact ⟨by omega, rfl⟩ | omega | (simp; done) | exact ⟨by omega, by simp⟩ | exact ⟨by omega, by simp, rfl⟩
          intro j hx_
          try dsimp only at hx_ ⊢
          obtain ⟨hi1, hX1⟩ := hx_
          simp only [List.cons_append, List.nil_append]
          by_cases hlt1 : j < g.ms.length
          · have wi_j : IntKind.i64.wrap ((j : Int) + 1) = ((j + 1 : Nat) : Int) := ci_wi (by omega)
            have hbad : mLong g.ms[j] = true → MA = true := fun h => by rw [← hMA]; exact any_hit hlt1 h
            have hgood : mLong g.ms[j] = false → ∀ y ∈ g.ms.take (j + 1), mLong y = false := fun h => any_next hlt1 hX1 h
            generalize hc : g.ms[j] = m at *
            refine gO (D0_XIm8 []) (j7 @hlt1 @hc @mtV_def @imV_def @ci_lt @ci_le @wi_j) True.intro (k := ?_)
            intro id2 n_id2_id h_id2
            have n_id_id2 : ¬ id = id2 := fun e => n_id2_id e.symm
            by_cases b1 : 30 < m.ps.length
            · have b1' : (30 < (m.ps.length : Int)) = True := by simp; omega
              rw [hbad (by unfold mLong; simp; omega)]
              refine gO (D0_XIm8 []) (And.intro (j7 @hlt1 @hc @mtV_def @imV_def @n_id_id2 @n_id2_id @b1') (j5 @ci_lt @ci_le @wi_j @n_id2_id @n_id_id2)) True.intro (k := ?_)
              all_goals (repeat' (with_reducible apply And.intro))
              all_goals first
                | exact AS.le_refl _
                | ((repeat (first | exact AS.le_refl _ | assumption | refine le_new (by simp [*]) ?_)); done)
                | (refine wk_eq ?_; simp_all [skipV]; done)
                | (refine wk_b ?_; rw [Bool.eq_iff_iff]; simp [*]; omega)
                | (refine wk_eq ?_; simp [*]; omega)
                | (refine wk_eq ?_; split <;> simp_all [skipV]; done)
                | (exfalso; omega)
            · have b1' : (30 < (m.ps.length : Int)) = False := by simp; omega
              by_cases b2 : 30 < m.ls.length
              · have b2' : (30 < (m.ls.length : Int)) = True := by simp; omega
                rw [hbad (by unfold mLong; simp; omega)]
                refine gO (D0_XIm8 []) (And.intro (j7 @hlt1 @hc @mtV_def @imV_def @n_id_id2 @n_id2_id @b1') (j6 @b2' @ci_lt @ci_le @wi_j @n_id2_id @n_id_id2)) True.intro (k := ?_)
                all_goals (repeat' (with_reducible apply And.intro))
                all_goals first
                  | exact AS.le_refl _
                  | ((repeat (first | exact AS.le_refl _ | assumption | refine le_new (by simp [*]) ?_)); done)
                  | (refine wk_eq ?_; simp_all [skipV]; done)
                  | (refine wk_b ?_; rw [Bool.eq_iff_iff]; simp [*]; omega)
                  | (refine wk_eq ?_; simp [*]; omega)
                  | (refine wk_eq ?_; split <;> simp_all [skipV]; done)
                  | (exfalso; omega)
              · have b2' : (30 < (m.ls.length : Int)) = False := by simp; omega
                by_cases b3 : 200 < m.code.length
                · have b3' : (200 < (m.code.length : Int)) = True := by simp; omega
                  rw [hbad (by unfold mLong; simp; omega)]
                  refine gO (D0_XIm8 []) (And.intro (j7 @hlt1 @hc @mtV_def @imV_def @n_id_id2 @n_id2_id @b1') (j7 @b2' @b3' @ci_lt @ci_le @wi_j @n_id2_id @n_id_id2)) True.intro (k := ?_)
                  all_goals (repeat' (with_reducible apply And.intro))
                  all_goals first
                    | exact AS.le_refl _
                    | ((repeat (first | exact AS.le_refl _ | assumption | refine le_new (by simp [*]) ?_)); done)
                    | (refine wk_eq ?_; simp_all [skipV]; done)
                    | (refine wk_b ?_; rw [Bool.eq_iff_iff]; simp [*]; omega)
                    | (refine wk_eq ?_; simp [*]; omega)
                    | (refine wk_eq ?_; split <;> simp_all [skipV]; done)
                    | (exfalso; omega)
                · have b3' : (200 < (m.code.length : Int)) = False := by simp; omega
                  by_cases b4 : 20 < m.cls.length
                  · have b4' : (20 < (m.cls.length : Int)) = True := by simp; omega
                    rw [hbad (by unfold mLong; simp; omega)]
                    refine gO (D0_XIm8 []) (And.intro (j7 @hlt1 @hc @mtV_def @imV_def @n_id_id2 @n_id2_id @b1') (j8 @b2' @b3' @b4' @ci_lt @ci_le @wi_j @n_id2_id @n_id_id2)) True.intro (k := ?_)
                    all_goals (repeat' (with_reducible apply And.intro))
                    all_goals first
                      | exact AS.le_refl _
                      | ((repeat (first | exact AS.le_refl _ | assumption | refine le_new (by simp [*]) ?_)); done)
                      | (refine wk_eq ?_; simp_all [skipV]; done)
                      | (refine wk_b ?_; rw [Bool.eq_iff_iff]; simp [*]; omega)
                      | (refine wk_eq ?_; simp [*]; omega)
                      | (refine wk_eq ?_; split <;> simp_all [skipV]; done)
                      | (exfalso; omega)
                  · have b4' : (20 < (m.cls.length : Int)) = False := by simp; omega
                    by_cases b5 : 100 < m.name.length
                    · have b5' : (100 < (m.name.length : Int)) = True := by simp; omega
                      rw [hbad (by unfold mLong; simp; omega)]
                      refine gO (D0_XIm8 []) (And.intro (j7 @hlt1 @hc @mtV_def @imV_def @n_id_id2 @n_id2_id @b1') (And.intro (j7 @b2' @b3' @b4' @b5' @ci_lt @ci_le @wi_j) (j2 @n_id2_id @n_id_id2))) True.intro (k := ?_)
                      all_goals (repeat' (with_reducible apply And.intro))
                      all_goals first
                        | exact AS.le_refl _
                        | ((repeat (first | exact AS.le_refl _ | assumption | refine le_new (by simp [*]) ?_)); done)
                        | (refine wk_eq ?_; simp_all [skipV]; done)
                        | (refine wk_b ?_; rw [Bool.eq_iff_iff]; simp [*]; omega)
                        | (refine wk_eq ?_; simp [*]; omega)
                        | (refine wk_eq ?_; split <;> simp_all [skipV]; done)
                        | (exfalso; omega)
                    · have b5' : (100 < (m.name.length : Int)) = False := by simp; omega
                      refine gO (D0_XIm8 []) (And.intro (j7 @hlt1 @hc @mtV_def @imV_def @n_id_id2 @n_id2_id @b1') (And.intro (j7 @b2' @b3' @b4' @b5' @ci_lt @ci_le @wi_j) (j2 @n_id2_id @n_id_id2))) True.intro (k := ?_)
                      refine stepA.mk (j + 1) (by (try dsimp only); omega) (by (try dsimp only); (simp only [List.cons_append, List.nil_append]; repeat (first | exact FrWk.nil | refine FrWk.cons (by first | (simp -implicitDefEqProofs [ci_lt, ci_le, wi_j, n_id2_id, n_id_id2]; done) | exact Wk.of (by (try simp -implicitDefEqProofs [ci_lt, ci_le, wi_j, n_id2_id, n_id_id2]) <;> rfl)) ?_))) (by (try dsimp only); exact le_new (by simp [n_id2_id, h_id2]) (AS.le_refl _)) ?_
                      try dsimp only
                      exact ⟨hlt1, hgood (by unfold mLong; simp; omega)⟩
          · have hMAt : MA = false := by rw [← hMA]; exact any_none hlt1 hX1
            rw [hMAt]
            refine gO (D0_XIm8 []) (j4 @hlt1 @imV_def @ci_lt @ci_le) True.intro (k := ?_)
            all_goals (repeat' (with_reducible apply And.intro))
            all_goals first
              | exact AS.le_refl _
              | ((repeat (first | exact AS.le_refl _ | assumption | refine le_new (by simp [*]) ?_)); done)
              | (refine wk_eq ?_; simp_all [skipV]; done)
              | (refine wk_b ?_; rw [Bool.eq_iff_iff]; simp [*]; omega)
              | (refine wk_eq ?_; simp [*]; omega)
              | (refine wk_eq ?_; split <;> simp_all [skipV]; done)
              | (exfalso; omega)
end Im
end Go.Proofs.YtknalmoackcpbaaGreat
