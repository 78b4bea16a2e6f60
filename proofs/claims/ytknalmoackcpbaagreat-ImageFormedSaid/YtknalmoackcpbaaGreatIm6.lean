/- Chapter 10, the reference: formedMethod, Formed; they say what the program says. -/
import Derived.Test.YtknalmoackcpbaaGreatAwGo
import Derived.Test.YtknalmoackcpbaaGreatIm5
set_option linter.unusedSimpArgs false
set_option linter.unusedVariables false
set_option maxRecDepth 100000
set_option maxHeartbeats 3200000
namespace Go.Proofs.YtknalmoackcpbaaGreat
namespace Im
open Go Go.AW
abbrev sc_11_13_XIm6 : Sch := (Sch.step 0 (Sch.read 1 (Sch.alt 2 (Sch.step 3 (Sch.step 4 (Sch.step 5 (Sch.read 6 (Sch.step 7 (Sch.step 8 (Sch.step 9 (Sch.step 10 (Sch.step 12 (Sch.read 11 (Sch.step 13 (Sch.step 14 (Sch.step 15 (Sch.step 16 (Sch.step 17 (Sch.step 18 (Sch.step 19 (Sch.step 21 (Sch.step 23 (Sch.step 24 (Sch.read 20 (Sch.read 22 (Sch.step 25 (Sch.step 26 (Sch.read 27 (Sch.step 28 (Sch.step 29 (Sch.step 30 (Sch.step 31 (Sch.step 32 (Sch.step 34 (Sch.read 33 (Sch.alt 35 (Sch.step 36 (Sch.step 37 Sch.done)) Sch.none))))))))))))))))))))))))))))))))) Sch.none)))
abbrev sc_11_19_XIm6 : Sch := (Sch.step 0 (Sch.read 1 (Sch.step 2 (Sch.step 3 (Sch.step 4 (Sch.step 6 (Sch.read 5 (Sch.step 7 (Sch.step 8 (Sch.step 9 (Sch.step 10 (Sch.step 11 (Sch.step 12 (Sch.step 13 (Sch.step 15 (Sch.step 17 (Sch.step 18 (Sch.read 14 (Sch.read 16 (Sch.step 19 (Sch.step 20 (Sch.read 21 (Sch.step 22 (Sch.step 23 (Sch.step 24 (Sch.step 25 (Sch.read 26 (Sch.read 27 (Sch.alt 28 (Sch.step 29 (Sch.step 30 Sch.done)) Sch.none)))))))))))))))))))))))))))))
theorem D0_XIm6 (S : List Nat) : Plans Tryz.prog [] S := mixed
theorem D11_XIm6 (S : List Nat) : Plans Tryz.prog [(13, (Sch.step 0 (Sch.read 1 (Sch.alt 2 (Sch.step 3 (Sch.step 4 (Sch.step 5 (Sch.read 6 (Sch.step 7 (Sch.step 8 (Sch.step 9 (Sch.step 10 (Sch.step 12 (Sch.read 11 (Sch.step 13 (Sch.step 14 (Sch.step 15 (Sch.step 16 (Sch.step 17 (Sch.step 18 (Sch.step 19 (Sch.step 21 (Sch.step 23 (Sch.step 24 (Sch.read 20 (Sch.read 22 (Sch.step 25 (Sch.step 26 (Sch.read 27 (Sch.step 28 (Sch.step 29 (Sch.step 30 (Sch.step 31 (Sch.step 32 (Sch.step 34 (Sch.read 33 (Sch.alt 35 (Sch.step 36 (Sch.step 37 Sch.done)) Sch.none))))))))))))))))))))))))))))))))) Sch.none)))), (19, (Sch.step 0 (Sch.read 1 (Sch.step 2 (Sch.step 3 (Sch.step 4 (Sch.step 6 (Sch.read 5 (Sch.step 7 (Sch.step 8 (Sch.step 9 (Sch.step 10 (Sch.step 11 (Sch.step 12 (Sch.step 13 (Sch.step 15 (Sch.step 17 (Sch.step 18 (Sch.read 14 (Sch.read 16 (Sch.step 19 (Sch.step 20 (Sch.read 21 (Sch.step 22 (Sch.step 23 (Sch.step 24 (Sch.step 25 (Sch.read 26 (Sch.read 27 (Sch.alt 28 (Sch.step 29 (Sch.step 30 Sch.done)) Sch.none))))))))))))))))))))))))))))))] S := mixed
open Rg (Cl clV clV_def clsV checkS aloneS fitsS aloneR fitsR check_eq)
open Sg (tyV_def)
def rmtB (m : Mt) (nt nf nm : Int) : Bool :=
  fineB m.name && (decide (0 ≤ m.flags ∧ m.flags ≤ 31 ∧ 0 ≤ m.max ∧ m.max ≤ 12 ∧ m.ps.length ≤ 6 ∧ m.ls.length ≤ 12) && (ansB m.ret nt && (m.ps.all (fun t => locB t nt) && (m.ls.all (fun t => locB t nt) && rcodeB m nt nf nm))))
theorem rmtB_eq (m : Mt) (nt nf nm : Int) : rmtB m nt nf nm = mtB m nt nf nm := by
  unfold rmtB mtB rcodeB
  rw [check_eq]
  have e : (fun x => insB x nt nf nm m.code.length) = fun x => rinsB x nt nf nm m.code.length := by funext x; exact insB_eq x nt nf nm m.code.length
  rw [e]
  generalize fineB m.name = a
  generalize ansB m.ret nt = b
  generalize (m.ps.all fun t => locB t nt) = c
  generalize (m.ls.all fun t => locB t nt) = d
  generalize (m.code.all fun x => rinsB x nt nf nm m.code.length) = e
  generalize (m.cls.all fun c => clB c nt) = f
  generalize decide ((checkS (aloneS m.code.length) fitsS m.cls).2 = 0) = h
  rw [Bool.eq_iff_iff]
  simp only [Bool.and_eq_true, decide_eq_true_eq]
  constructor
  · rintro ⟨h1, ⟨h2, h3, h4, h5, h6, h7⟩, h8, h9, h10, h11, h12, h13, h14⟩
    exact ⟨h1, ⟨h2, h3, h4, h5, h6, h7, h11⟩, h8, h9, h10, h12, h13, h14⟩
  · rintro ⟨h1, ⟨h2, h3, h4, h5, h6, h7, h11⟩, h8, h9, h10, h12, h13, h14⟩
    exact ⟨h1, ⟨h2, h3, h4, h5, h6, h7⟩, h8, h9, h10, h11, h12, h13, h14⟩
theorem rmethod_ok (m : Mt) (g : Img) (hL : MtL m) (hI : ∀ x ∈ m.code, InI x) (σ : AS) :
    ACalls Tryz.prog 24 [mtV m, imV g] σ (Gives (.sc (.bool (rmtB m g.ts.length g.fs.length g.ms.length))) σ) No := by
  have hF := fun σ => rfine_ok m.name hL.name σ
  have hA := fun σ => rmay_ok m.ret 3 g.ts.length σ
  have hT := fun (t : Ty) σ => rmay_ok t 2 g.ts.length σ
  have hC := fun σ => rcode_ok m g hL hI σ
  have hlp := hL.ps
  have hll := hL.ls
  have e3 : (whereT m.ret 3 && ownT m.ret g.ts.length) = ansB m.ret g.ts.length := rfl
  rw [e3] at hA
  have e2 : ∀ t : Ty, (whereT t 2 && ownT t g.ts.length) = locB t g.ts.length := fun t => rfl
  simp only [e2] at hT
  unfold rmtB
  generalize fineB m.name = fb at hF ⊢
  generalize ansB m.ret g.ts.length = ab at hA ⊢
  generalize rcodeB m g.ts.length g.fs.length g.ms.length = cb at hC ⊢
  have hX1 : ∀ t, locB t g.ts.length = (fun t => locB t g.ts.length) t := fun _ => rfl
  generalize hp : (fun t => locB t g.ts.length) = p at hX1 ⊢
  simp only [hX1] at hT
  generalize hPA : m.ps.all p = PA
  generalize hLA : m.ls.all p = LA
  generalize hd0 : decide (0 ≤ m.flags ∧ m.flags ≤ 31 ∧ 0 ≤ m.max ∧ m.max ≤ 12 ∧ m.ps.length ≤ 6 ∧ m.ls.length ≤ 12) = d0
  simp only [mtV_def, imV_def, tyV, cells_agg] at hF hA hT hC ⊢
  refine ACalls.of_body Tryz.func24 rfl rfl (by simp [Tryz.ntmps24]) ?_
  refine gO (D0_XIm6 []) (j4 @ci_lt @ci_le @mtV_def @imV_def) True.intro (k := ?_)
  intro id h_id
  refine gO (D0_XIm6 []) (j4 @ci_lt @ci_le @mtV_def @imV_def) True.intro (k := ?_)
  intro id2 n_id2_id h_id2
  have n_id_id2 : ¬ id = id2 := fun e => n_id2_id e.symm
  cases fb
  · skip
    refine gO (D0_XIm6 []) (j8 @n_id_id2 @n_id2_id @ci_lt @ci_le @mtV_def @imV_def @n_id2_id @n_id_id2) (j3 @hF @hA @hC) (k := ?_)
    all_goals (repeat' (with_reducible apply And.intro))
    all_goals first
      | exact AS.le_refl _
      | ((repeat (first | exact AS.le_refl _ | assumption | refine le_new (by simp [*]) ?_)); done)
      | (refine wk_eq ?_; simp_all [skipV]; done)
      | (refine wk_b ?_; rw [Bool.eq_iff_iff]; simp [*]; omega)
      | (refine wk_eq ?_; simp [*]; omega)
      | (refine wk_eq ?_; split <;> simp_all [skipV]; done)
      | (exfalso; omega)
  · skip
    by_cases h1 : m.flags < 0
    · skip
      have hd : d0 = false := by rw [← hd0]; simp; omega
      subst hd
      refine gO (D0_XIm6 []) (And.intro (j7 @n_id_id2 @n_id2_id @h1 @ci_lt @ci_le @mtV_def @imV_def) (j2 @n_id2_id @n_id_id2)) (j3 @hF @hA @hC) (k := ?_)
      all_goals (repeat' (with_reducible apply And.intro))
      all_goals first
        | exact AS.le_refl _
        | ((repeat (first | exact AS.le_refl _ | assumption | refine le_new (by simp [*]) ?_)); done)
        | (refine wk_eq ?_; simp_all [skipV]; done)
        | (refine wk_b ?_; rw [Bool.eq_iff_iff]; simp [*]; omega)
        | (refine wk_eq ?_; simp [*]; omega)
        | (refine wk_eq ?_; split <;> simp_all [skipV]; done)
        | (exfalso; omega)
    · skip
      by_cases h2 : 31 < m.flags
      · skip
        have hd : d0 = false := by rw [← hd0]; simp; omega
        subst hd
        refine gO (D0_XIm6 []) (And.intro (j7 @n_id_id2 @n_id2_id @h1 @h2 @ci_lt @ci_le @mtV_def) (j3 @imV_def @n_id2_id @n_id_id2)) (j3 @hF @hA @hC) (k := ?_)
        all_goals (repeat' (with_reducible apply And.intro))
        all_goals first
          | exact AS.le_refl _
          | ((repeat (first | exact AS.le_refl _ | assumption | refine le_new (by simp [*]) ?_)); done)
          | (refine wk_eq ?_; simp_all [skipV]; done)
          | (refine wk_b ?_; rw [Bool.eq_iff_iff]; simp [*]; omega)
          | (refine wk_eq ?_; simp [*]; omega)
          | (refine wk_eq ?_; split <;> simp_all [skipV]; done)
          | (exfalso; omega)
      · skip
        by_cases h3 : m.max < 0
        · skip
          have hd : d0 = false := by rw [← hd0]; simp; omega
          subst hd
          refine gO (D0_XIm6 []) (And.intro (j7 @n_id_id2 @n_id2_id @h1 @h2 @h3 @ci_lt @ci_le) (j4 @mtV_def @imV_def @n_id2_id @n_id_id2)) (j3 @hF @hA @hC) (k := ?_)
          all_goals (repeat' (with_reducible apply And.intro))
          all_goals first
            | exact AS.le_refl _
            | ((repeat (first | exact AS.le_refl _ | assumption | refine le_new (by simp [*]) ?_)); done)
            | (refine wk_eq ?_; simp_all [skipV]; done)
            | (refine wk_b ?_; rw [Bool.eq_iff_iff]; simp [*]; omega)
            | (refine wk_eq ?_; simp [*]; omega)
            | (refine wk_eq ?_; split <;> simp_all [skipV]; done)
            | (exfalso; omega)
        · skip
          by_cases h4 : 12 < m.max
          · skip
            have hd : d0 = false := by rw [← hd0]; simp; omega
            subst hd
            refine gO (D0_XIm6 []) (And.intro (j7 @n_id_id2 @n_id2_id @h1 @h2 @h3 @h4 @ci_lt) (j5 @ci_le @mtV_def @imV_def @n_id2_id @n_id_id2)) (j3 @hF @hA @hC) (k := ?_)
            all_goals (repeat' (with_reducible apply And.intro))
            all_goals first
              | exact AS.le_refl _
              | ((repeat (first | exact AS.le_refl _ | assumption | refine le_new (by simp [*]) ?_)); done)
              | (refine wk_eq ?_; simp_all [skipV]; done)
              | (refine wk_b ?_; rw [Bool.eq_iff_iff]; simp [*]; omega)
              | (refine wk_eq ?_; simp [*]; omega)
              | (refine wk_eq ?_; split <;> simp_all [skipV]; done)
              | (exfalso; omega)
          · skip
            by_cases h5 : m.ps.length ≤ 6
            · have h5' : (6 < (m.ps.length : Int)) = False := by simp; omega
              by_cases h6 : m.ls.length ≤ 12
              · have h6' : (12 < (m.ls.length : Int)) = False := by simp; omega
                cases ab
                · skip
                  refine gO (D0_XIm6 []) (And.intro (j7 @n_id_id2 @n_id2_id @h1 @h2 @h3 @h4 @h5') (j7 @h6' @ci_lt @ci_le @mtV_def @imV_def @n_id2_id @n_id_id2)) (j3 @hF @hA @hC) (k := ?_)
                  all_goals (repeat' (with_reducible apply And.intro))
                  all_goals first
                    | exact AS.le_refl _
                    | ((repeat (first | exact AS.le_refl _ | assumption | refine le_new (by simp [*]) ?_)); done)
                    | (refine wk_eq ?_; simp_all [skipV]; done)
                    | (refine wk_b ?_; rw [Bool.eq_iff_iff]; simp [*]; omega)
                    | (refine wk_eq ?_; simp [*]; omega)
                    | (refine wk_eq ?_; split <;> simp_all [skipV]; done)
                    | (exfalso; omega)
                · skip
                  have hd : d0 = true := by rw [← hd0]; simp; omega
                  subst hd
                  refine gO (D0_XIm6 []) (And.intro (j7 @n_id_id2 @n_id2_id @h1 @h2 @h3 @h4 @h5') (j7 @h6' @ci_lt @ci_le @mtV_def @imV_def @n_id2_id @n_id_id2)) (j3 @hF @hA @hC) (k := ?_)
                  refine AWp.loopA (α := (Nat)) (0) (fun i => m.ps.length - i) (fun i => i ≤ m.ps.length ∧ ∀ x ∈ m.ps.take i, p x = true) [(2, ?_), (3, ?_), (5, ?_)] (fun i => [(6, .sc (.int .i64 i))]) (fun i => (σ.set id (.cells 53 (mtV m).cells)).set id2 (.cells 26 (imV g).cells)) ?_ ?_ ?_ ?_
                  rotate_left 3
                  · (try dsimp only); (simp only [List.cons_append, List.nil_append]; repeat (first | exact FrWk.nil | refine FrWk.cons (by first | (simp -implicitDefEqProofs [ci_lt, ci_le, mtV_def, imV_def, n_id2_id, n_id_id2]; done) | exact Wk.of (by (try simp -implicitDefEqProofs [ci_lt, ci_le, mtV_def, imV_def, n_id2_id, n_id_id2]) <;> rfl)) ?_))
                  · (try dsimp only); (first | exact AS.le_refl _ | assumption | (repeat (first | exact AS.le_refl _ | assumption | refine le_new (by simp [*]) ?_)))
                  · (try dsimp only) <;> first | exact trivial | exact ⟨by omega, rfl⟩ | omega | (simp; done) | exact ⟨by omega, by simp⟩ | exact ⟨by omega, by simp, rfl⟩
                  intro i hx_
                  try dsimp only at hx_ ⊢
                  obtain ⟨hi0, hX0⟩ := hx_
                  simp only [List.cons_append, List.nil_append]
                  by_cases hlt0 : i < m.ps.length
                  · have wi_i : IntKind.i64.wrap ((i : Int) + 1) = ((i + 1 : Nat) : Int) := ci_wi (by omega)
                    have hTi := hT m.ps[i]
                    have hbad : p m.ps[i] = false → PA = false := fun h => by rw [← hPA]; exact all_bad hlt0 h
                    have hgood : p m.ps[i] = true → ∀ y ∈ m.ps.take (i + 1), p y = true := fun h => all_next hlt0 hX0 h
                    generalize hc : m.ps[i] = t at *
                    cases hpt : p t with
                    | false =>
                      rw [hpt] at hTi
                      rw [hbad hpt]
                      refine gO (D0_XIm6 []) (And.intro (j7 @hlt0 @hc @tyV_def @n_id_id2 @n_id2_id @ci_lt @ci_le) (j5 @mtV_def @imV_def @n_id2_id @n_id_id2 @wi_i)) @hTi (k := ?_)
                      all_goals (repeat' (with_reducible apply And.intro))
                      all_goals first
                        | exact AS.le_refl _
                        | ((repeat (first | exact AS.le_refl _ | assumption | refine le_new (by simp [*]) ?_)); done)
                        | (refine wk_eq ?_; simp_all [skipV]; done)
                        | (refine wk_b ?_; rw [Bool.eq_iff_iff]; simp [*]; omega)
                        | (refine wk_eq ?_; simp [*]; omega)
                        | (refine wk_eq ?_; split <;> simp_all [skipV]; done)
                        | (exfalso; omega)
                    | true =>
                      rw [hpt] at hTi
                      refine gO (D0_XIm6 []) (And.intro (j7 @hlt0 @hc @tyV_def @n_id_id2 @n_id2_id @ci_lt @ci_le) (j5 @mtV_def @imV_def @n_id2_id @n_id_id2 @wi_i)) @hTi (k := ?_)
                      refine stepA.mk (i + 1) (by (try dsimp only); omega) (by (try dsimp only); (simp only [List.cons_append, List.nil_append]; repeat (first | exact FrWk.nil | refine FrWk.cons (by first | (simp -implicitDefEqProofs [ci_lt, ci_le, mtV_def, imV_def, n_id2_id, n_id_id2, wi_i]; done) | exact Wk.of (by (try simp -implicitDefEqProofs [ci_lt, ci_le, mtV_def, imV_def, n_id2_id, n_id_id2, wi_i]) <;> rfl)) ?_))) (by (try dsimp only); (first | exact AS.le_refl _ | assumption | (repeat (first | exact AS.le_refl _ | assumption | refine le_new (by simp [*]) ?_)))) ?_
                      try dsimp only
                      exact ⟨hlt0, hgood hpt⟩
                  · have hAt : PA = true := by rw [← hPA]; exact all_good hlt0 hX0
                    rw [hAt]
                    refine gO (D0_XIm6 []) (And.intro (j7 @hlt0 @n_id_id2 @n_id2_id @ci_lt @ci_le @mtV_def @imV_def) (j2 @n_id2_id @n_id_id2)) True.intro (k := ?_)
                    refine AWp.loopA (α := (Nat)) (0) (fun j => m.ls.length - j) (fun j => j ≤ m.ls.length ∧ ∀ x ∈ m.ls.take j, p x = true) [(2, ?_), (3, ?_), (5, ?_)] (fun j => [(7, .sc (.int .i64 j))]) (fun j => (σ.set id (.cells 53 (mtV m).cells)).set id2 (.cells 26 (imV g).cells)) ?_ ?_ ?_ ?_
                    rotate_left 3
                    · (try dsimp only); (simp only [List.cons_append, List.nil_append]; repeat (first | exact FrWk.nil | refine FrWk.cons (by first | (simp -implicitDefEqProofs [ci_lt, ci_le, mtV_def, imV_def, n_id2_id, n_id_id2]; done) | exact Wk.of (by (try simp -implicitDefEqProofs [ci_lt, ci_le, mtV_def, imV_def, n_id2_id, n_id_id2]) <;> rfl)) ?_))
                    · (try dsimp only); (first | exact AS.le_refl _ | assumption | (repeat (first | exact AS.le_refl _ | assumption | refine le_new (by simp [*]) ?_)))
                    · (try dsimp only) <;> first | exact trivial | exact ⟨by omega, rfl⟩ | omega | (simp; done) | exact ⟨by omega, by simp⟩ | exact ⟨by omega, by simp, rfl⟩
                    intro j hx_
                    try dsimp only at hx_ ⊢
                    obtain ⟨hi1, hX1⟩ := hx_
                    simp only [List.cons_append, List.nil_append]
                    by_cases hlt1 : j < m.ls.length
                    · have wi_j : IntKind.i64.wrap ((j : Int) + 1) = ((j + 1 : Nat) : Int) := ci_wi (by omega)
                      have hTi := hT m.ls[j]
                      have hbad : p m.ls[j] = false → LA = false := fun h => by rw [← hLA]; exact all_bad hlt1 h
                      have hgood : p m.ls[j] = true → ∀ y ∈ m.ls.take (j + 1), p y = true := fun h => all_next hlt1 hX1 h
                      generalize hc : m.ls[j] = t at *
                      cases hpt : p t with
                      | false =>
                        rw [hpt] at hTi
                        rw [hbad hpt]
                        refine gO (D0_XIm6 []) (And.intro (j7 @hlt1 @hc @tyV_def @n_id_id2 @n_id2_id @ci_lt @ci_le) (j5 @mtV_def @imV_def @n_id2_id @n_id_id2 @wi_j)) @hTi (k := ?_)
                        all_goals (repeat' (with_reducible apply And.intro))
                        all_goals first
                          | exact AS.le_refl _
                          | ((repeat (first | exact AS.le_refl _ | assumption | refine le_new (by simp [*]) ?_)); done)
                          | (refine wk_eq ?_; simp_all [skipV]; done)
                          | (refine wk_b ?_; rw [Bool.eq_iff_iff]; simp [*]; omega)
                          | (refine wk_eq ?_; simp [*]; omega)
                          | (refine wk_eq ?_; split <;> simp_all [skipV]; done)
                          | (exfalso; omega)
                      | true =>
                        rw [hpt] at hTi
                        refine gO (D0_XIm6 []) (And.intro (j7 @hlt1 @hc @tyV_def @n_id_id2 @n_id2_id @ci_lt @ci_le) (j5 @mtV_def @imV_def @n_id2_id @n_id_id2 @wi_j)) @hTi (k := ?_)
                        refine stepA.mk (j + 1) (by (try dsimp only); omega) (by (try dsimp only); (simp only [List.cons_append, List.nil_append]; repeat (first | exact FrWk.nil | refine FrWk.cons (by first | (simp -implicitDefEqProofs [ci_lt, ci_le, mtV_def, imV_def, n_id2_id, n_id_id2, wi_j]; done) | exact Wk.of (by (try simp -implicitDefEqProofs [ci_lt, ci_le, mtV_def, imV_def, n_id2_id, n_id_id2, wi_j]) <;> rfl)) ?_))) (by (try dsimp only); (first | exact AS.le_refl _ | assumption | (repeat (first | exact AS.le_refl _ | assumption | refine le_new (by simp [*]) ?_)))) ?_
                        try dsimp only
                        exact ⟨hlt1, hgood hpt⟩
                    · have hAt : LA = true := by rw [← hLA]; exact all_good hlt1 hX1
                      rw [hAt]
                      refine gO (D0_XIm6 []) (And.intro (j7 @hlt1 @n_id_id2 @n_id2_id @ci_lt @ci_le @mtV_def @imV_def) (j2 @n_id2_id @n_id_id2)) @hC (k := ?_)
                      all_goals (repeat' (with_reducible apply And.intro))
                      all_goals first
                        | exact AS.le_refl _
                        | ((repeat (first | exact AS.le_refl _ | assumption | refine le_new (by simp [*]) ?_)); done)
                        | (refine wk_eq ?_; simp_all [skipV]; done)
                        | (refine wk_b ?_; rw [Bool.eq_iff_iff]; simp [*]; omega)
                        | (refine wk_eq ?_; simp [*]; omega)
                        | (refine wk_eq ?_; split <;> simp_all [skipV]; done)
                        | (exfalso; omega)
              · have h6' : (12 < (m.ls.length : Int)) = True := by simp; omega
                have hd : d0 = false := by rw [← hd0]; simp; omega
                subst hd
                refine gO (D0_XIm6 []) (And.intro (j7 @n_id_id2 @n_id2_id @h1 @h2 @h3 @h4 @h5') (j7 @h6' @ci_lt @ci_le @mtV_def @imV_def @n_id2_id @n_id_id2)) (j3 @hF @hA @hC) (k := ?_)
                all_goals (repeat' (with_reducible apply And.intro))
                all_goals first
                  | exact AS.le_refl _
                  | ((repeat (first | exact AS.le_refl _ | assumption | refine le_new (by simp [*]) ?_)); done)
                  | (refine wk_eq ?_; simp_all [skipV]; done)
                  | (refine wk_b ?_; rw [Bool.eq_iff_iff]; simp [*]; omega)
                  | (refine wk_eq ?_; simp [*]; omega)
                  | (refine wk_eq ?_; split <;> simp_all [skipV]; done)
                  | (exfalso; omega)
            · have h5' : (6 < (m.ps.length : Int)) = True := by simp; omega
              have hd : d0 = false := by rw [← hd0]; simp; omega
              subst hd
              refine gO (D0_XIm6 []) (And.intro (j7 @n_id_id2 @n_id2_id @h1 @h2 @h3 @h4 @h5') (j6 @ci_lt @ci_le @mtV_def @imV_def @n_id2_id @n_id_id2)) (j3 @hF @hA @hC) (k := ?_)
              all_goals (repeat' (with_reducible apply And.intro))
              all_goals first
                | exact AS.le_refl _
                | ((repeat (first | exact AS.le_refl _ | assumption | refine le_new (by simp [*]) ?_)); done)
                | (refine wk_eq ?_; simp_all [skipV]; done)
                | (refine wk_b ?_; rw [Bool.eq_iff_iff]; simp [*]; omega)
                | (refine wk_eq ?_; simp [*]; omega)
                | (refine wk_eq ?_; split <;> simp_all [skipV]; done)
                | (exfalso; omega)
theorem same_at {α : Type} (F : α → Int) {l : List α} {i j : Nat} {hi : i < l.length} {hj : j < l.length} (h : i = j) : F l[i] = F l[j] := by subst h; rfl
theorem rformed_ok (g : Img) (hL : ImL g) (hI : ∀ m ∈ g.ms, ∀ x ∈ m.code, InI x) (σ : AS) :
    ACalls Tryz.prog 11 [imV g] σ (Gives (.sc (.bool (imB g))) σ) No := by
  have hT := fun (t : TD) (h : t ∈ g.ts) σ => rtype_ok t (hL.t t h).1 (hL.t t h).2 g.ts.length σ
  have hF := fun (f : Fd) (h : f ∈ g.fs) σ => rfine_ok f.name (hL.f f h) σ
  have hM := fun (t : Ty) σ => rmay_ok t 1 g.ts.length σ
  have e1 : ∀ t : Ty, (whereT t 1 && ownT t g.ts.length) = fldB t g.ts.length := fun t => rfl
  simp only [e1] at hM
  have hN := fun (m : Mt) (h : m ∈ g.ms) σ => rmethod_ok m g (hL.m m h) (hI m h) σ
  simp only [rmtB_eq] at hN
  have hlt := hL.ts
  have hlf := hL.fs
  have hlm := hL.ms
  unfold imB tdsB
  have hX1 : ∀ t, tdB t g.ts.length = (fun t => tdB t g.ts.length) t := fun _ => rfl
  generalize hp : (fun t => tdB t g.ts.length) = p at hX1 ⊢
  simp only [hX1] at hT
  generalize hTA : g.ts.all p = TA
  generalize hFA : fdsF g.ts.length 0 g.fs = FA
  generalize hMA : mtsF g.ts.length g.fs.length g.ms.length 0 g.ms = MA
  have hd0 : ((decide (g.ts.length ≤ 32) && TA) && ((FA && decide (g.fs.length ≤ 64)) && ((MA && decide (g.ms.length ≤ 64)) && decide (-1 ≤ g.entry ∧ g.entry < g.ms.length)))) = (decide (g.ts.length ≤ 32 ∧ g.fs.length ≤ 64 ∧ g.ms.length ≤ 64 ∧ -1 ≤ g.entry ∧ g.entry < g.ms.length) && (TA && (FA && MA))) := by
    rw [Bool.eq_iff_iff]
    simp only [Bool.and_eq_true, decide_eq_true_eq]
    constructor
    · rintro ⟨⟨a, b⟩, ⟨c, d⟩, ⟨e, f⟩, h⟩; exact ⟨⟨a, d, f, h⟩, b, c, e⟩
    · rintro ⟨⟨a, d, f, h⟩, b, c, e⟩; exact ⟨⟨a, b⟩, ⟨c, d⟩, ⟨e, f⟩, h⟩
  rw [hd0]
  clear hd0
  generalize hd0 : decide (g.ts.length ≤ 32 ∧ g.fs.length ≤ 64 ∧ g.ms.length ≤ 64 ∧ -1 ≤ g.entry ∧ g.entry < g.ms.length) = d0
  simp only [imV_def, mtV_def, tdV_def, tyV] at hT hF hM hN ⊢
  refine ACalls.of_body Tryz.func11 rfl rfl (by simp [Tryz.ntmps11]) ?_
  refine gO (D11_XIm6 []) (j3 @ci_lt @ci_le @imV_def) True.intro (k := ?_)
  intro id h_id
  by_cases h1 : g.ts.length ≤ 32
  · have h1' : (32 < (g.ts.length : Int)) = False := by simp; omega
    by_cases h2 : g.fs.length ≤ 64
    · have h2' : (64 < (g.fs.length : Int)) = False := by simp; omega
      by_cases h3 : g.ms.length ≤ 64
      · have h3' : (64 < (g.ms.length : Int)) = False := by simp; omega
        by_cases h4 : g.entry < -1
        · skip
          have hd : d0 = false := by rw [← hd0]; simp; omega
          subst hd
          refine gO (D11_XIm6 []) (j7 @h1' @h2' @h3' @h4 @ci_lt @ci_le @imV_def) True.intro (k := ?_)
          all_goals (repeat' (with_reducible apply And.intro))
          all_goals first
            | exact AS.le_refl _
            | ((repeat (first | exact AS.le_refl _ | assumption | refine le_new (by simp [*]) ?_)); done)
            | (refine wk_eq ?_; simp_all [skipV]; done)
            | (refine wk_b ?_; rw [Bool.eq_iff_iff]; simp [*]; omega)
            | (refine wk_eq ?_; simp [*]; omega)
            | (refine wk_eq ?_; split <;> simp_all [skipV]; done)
            | (exfalso; omega)
        · skip
          by_cases h5 : (g.ms.length : Int) ≤ g.entry
          · skip
            have hd : d0 = false := by rw [← hd0]; simp; omega
            subst hd
            refine gO (D11_XIm6 []) (j8 @h1' @h2' @h3' @h4 @h5 @ci_lt @ci_le @imV_def) True.intro (k := ?_)
            all_goals (repeat' (with_reducible apply And.intro))
            all_goals first
              | exact AS.le_refl _
              | ((repeat (first | exact AS.le_refl _ | assumption | refine le_new (by simp [*]) ?_)); done)
              | (refine wk_eq ?_; simp_all [skipV]; done)
              | (refine wk_b ?_; rw [Bool.eq_iff_iff]; simp [*]; omega)
              | (refine wk_eq ?_; simp [*]; omega)
              | (refine wk_eq ?_; split <;> simp_all [skipV]; done)
              | (exfalso; omega)
          · skip
            have hd : d0 = true := by rw [← hd0]; simp; omega
            subst hd
            simp only [Bool.true_and]
            refine gO (D11_XIm6 []) (j8 @h1' @h2' @h3' @h4 @h5 @ci_lt @ci_le @imV_def) True.intro (k := ?_)
            refine AWp.loopA (α := (Nat)) (0) (fun i => g.ts.length - i) (fun i => i ≤ g.ts.length ∧ ∀ x ∈ g.ts.take i, p x = true) [(1, ?_), (3, ?_)] (fun i => [(4, .sc (.int .i64 i))]) (fun i => σ.set id (.cells 26 (imV g).cells)) ?_ ?_ ?_ ?_
            rotate_left 2
            · (try dsimp only); (simp only [List.cons_append, List.nil_append]; repeat (first | exact FrWk.nil | refine FrWk.cons (by first | (simp -implicitDefEqProofs [ci_lt, ci_le, imV_def]; done) | exact Wk.of (by (try simp -implicitDefEqProofs [ci_lt, ci_le, imV_def]) <;> rfl)) ?_))
            · (try dsimp only); (first | exact AS.le_refl _ | assumption | (repeat (first | exact AS.le_refl _ | assumption | refine le_new (by simp [*]) ?_)))
            · (try dsimp only) <;> first | exact trivial | exact ⟨by omega, rfl⟩ | omega | (simp; done) | exact ⟨by omega, by simp⟩ | exact ⟨by omega, by simp, rfl⟩
            intro i hx_
            try dsimp only at hx_ ⊢
            obtain ⟨hi, hX⟩ := hx_
            simp only [List.cons_append, List.nil_append]
            by_cases hl1 : i < g.ts.length
            · have wi_i : IntKind.i64.wrap ((i : Int) + 1) = ((i + 1 : Nat) : Int) := ci_wi (by omega)
              have hTi := hT g.ts[i] (List.getElem_mem hl1)
              have hbad : p g.ts[i] = false → TA = false := fun h => by rw [← hTA]; exact all_bad hl1 h
              have hgood : p g.ts[i] = true → ∀ y ∈ g.ts.take (i + 1), p y = true := fun h => all_next hl1 hX h
              generalize hc : g.ts[i] = t at *
              cases hpt : p t with
              | false =>
                rw [hpt] at hTi
                rw [hbad hpt]
                refine gO (D11_XIm6 []) (j7 @hl1 @hc @tdV_def @ci_lt @ci_le @imV_def @wi_i) @hTi (k := ?_)
                all_goals (repeat' (with_reducible apply And.intro))
                all_goals first
                  | exact AS.le_refl _
                  | ((repeat (first | exact AS.le_refl _ | assumption | refine le_new (by simp [*]) ?_)); done)
                  | (refine wk_eq ?_; simp_all [skipV]; done)
                  | (refine wk_b ?_; rw [Bool.eq_iff_iff]; simp [*]; omega)
                  | (refine wk_eq ?_; simp [*]; omega)
                  | (refine wk_eq ?_; split <;> simp_all [skipV]; done)
                  | (exfalso; omega)
              | true =>
                rw [hpt] at hTi
                refine gO (D11_XIm6 []) (j7 @hl1 @hc @tdV_def @ci_lt @ci_le @imV_def @wi_i) @hTi (k := ?_)
                refine stepA.mk (i + 1) (by (try dsimp only); omega) (by (try dsimp only); (simp only [List.cons_append, List.nil_append]; repeat (first | exact FrWk.nil | refine FrWk.cons (by first | (simp -implicitDefEqProofs [ci_lt, ci_le, imV_def, wi_i]; done) | exact Wk.of (by (try simp -implicitDefEqProofs [ci_lt, ci_le, imV_def, wi_i]) <;> rfl)) ?_))) (by (try dsimp only); (first | exact AS.le_refl _ | assumption | (repeat (first | exact AS.le_refl _ | assumption | refine le_new (by simp [*]) ?_)))) ?_
                try dsimp only
                exact ⟨hl1, hgood hpt⟩
            · have hAt : TA = true := by rw [← hTA]; exact all_good hl1 hX
              rw [hAt]
              refine gO (D11_XIm6 []) (j4 @hl1 @ci_lt @ci_le @imV_def) True.intro (k := ?_)
              refine AWp.loopA (α := (Nat) × (Int)) ((0, 0)) (fun ⟨j, last⟩ => g.fs.length - j) (fun ⟨j, last⟩ => j ≤ g.fs.length ∧ fdsF g.ts.length 0 g.fs = fdsF g.ts.length last (g.fs.drop j) ∧ 0 ≤ last ∧ (j = 0 → last = 0) ∧ ∀ p_ (hp_ : p_ < g.fs.length), j = p_ + 1 → (g.fs[p_]).owner = last) [(1, ?_), (3, ?_)] (fun ⟨j, last⟩ => [(5, .sc (.int .i64 j))]) (fun ⟨j, last⟩ => σ.set id (.cells 26 (imV g).cells)) ?_ ?_ ?_ ?_
              rotate_left 2
              · (try dsimp only); (simp only [List.cons_append, List.nil_append]; repeat (first | exact FrWk.nil | refine FrWk.cons (by first | (simp -implicitDefEqProofs [ci_lt, ci_le, imV_def]; done) | exact Wk.of (by (try simp -implicitDefEqProofs [ci_lt, ci_le, imV_def]) <;> rfl)) ?_))
              · (try dsimp only); (first | exact AS.le_refl _ | assumption | (repeat (first | exact AS.le_refl _ | assumption | refine le_new (by simp [*]) ?_)))
              · exact ⟨by omega, by simp, by omega, by simp, by intros; omega⟩
              intro x_ hx_
              obtain ⟨j, last⟩ := x_
              try dsimp only at hx_ ⊢
              obtain ⟨hj, hY, hlast, hz, hprev⟩ := hx_
              simp only [List.cons_append, List.nil_append]
              by_cases hl2 : j < g.fs.length
              · have wi_j : IntKind.i64.wrap ((j : Int) + 1) = ((j + 1 : Nat) : Int) := ci_wi (by omega)
                rw [List.drop_eq_getElem_cons hl2] at hY
                simp only [fdsF] at hY
                have hFi := hF g.fs[j] (List.getElem_mem hl2)
                have hMi := hM (g.fs[j]).ty
                have hself : ∀ p_ (hp_ : p_ < g.fs.length), j + 1 = p_ + 1 → (g.fs[p_]).owner = (g.fs[j]).owner := fun p_ hp_ e => same_at (fun y : Fd => y.owner) (by omega)
                generalize hc : g.fs[j] = f at *
                have hbad : ¬ (fineB f.name = true ∧ last ≤ f.owner ∧ f.owner < g.ts.length ∧ fldB f.ty g.ts.length = true) → FA = false := fun h => by rw [← hFA, hY, if_neg h]
                have hgood : (fineB f.name = true ∧ last ≤ f.owner ∧ f.owner < g.ts.length ∧ fldB f.ty g.ts.length = true) → fdsF g.ts.length 0 g.fs = fdsF g.ts.length f.owner (g.fs.drop (j + 1)) := fun h => by rw [hY, if_pos h]
                clear hY
                refine gO (D11_XIm6 []) (j7 @hl2 @hc @fdV_def @ci_lt @ci_le @imV_def @wi_j) True.intro (k := ?_)
                intro id2 n_id2_id h_id2
                have n_id_id2 : ¬ id = id2 := fun e => n_id2_id e.symm
                by_cases h0 : j = 0
                · have hl0 := hz h0
                  have z0 : ¬ (0 < j) := by omega
                  cases hb : fineB f.name with
                  | false =>
                    rw [hb] at hFi
                    rw [hbad (fun h => by rw [hb] at h; cases h.1)]
                    refine gO (D11_XIm6 []) (And.intro (j7 @n_id_id2 @n_id2_id @fdV_def @z0 @ci_lt @ci_le @imV_def) (j3 @wi_j @n_id2_id @n_id_id2)) (j2 @hFi @hMi) (k := ?_)
                    all_goals (repeat' (with_reducible apply And.intro))
                    all_goals first
                      | exact AS.le_refl _
                      | ((repeat (first | exact AS.le_refl _ | assumption | refine le_new (by simp [*]) ?_)); done)
                      | (refine wk_eq ?_; simp_all [skipV]; done)
                      | (refine wk_b ?_; rw [Bool.eq_iff_iff]; simp [*]; omega)
                      | (refine wk_eq ?_; simp [*]; omega)
                      | (refine wk_eq ?_; split <;> simp_all [skipV]; done)
                      | (exfalso; omega)
                  | true =>
                    rw [hb] at hFi
                    by_cases c1 : f.owner < 0
                    · rw [hbad (fun h => absurd h.2.1 (by omega))]
                      refine gO (D11_XIm6 []) (And.intro (j7 @n_id_id2 @n_id2_id @fdV_def @z0 @c1 @ci_lt @ci_le) (j4 @imV_def @wi_j @n_id2_id @n_id_id2)) (j2 @hFi @hMi) (k := ?_)
                      all_goals (repeat' (with_reducible apply And.intro))
                      all_goals first
                        | exact AS.le_refl _
                        | ((repeat (first | exact AS.le_refl _ | assumption | refine le_new (by simp [*]) ?_)); done)
                        | (refine wk_eq ?_; simp_all [skipV]; done)
                        | (refine wk_b ?_; rw [Bool.eq_iff_iff]; simp [*]; omega)
                        | (refine wk_eq ?_; simp [*]; omega)
                        | (refine wk_eq ?_; split <;> simp_all [skipV]; done)
                        | (exfalso; omega)
                    · skip
                      by_cases c2 : (g.ts.length : Int) ≤ f.owner
                      · rw [hbad (fun h => absurd h.2.2.1 (by omega))]
                        refine gO (D11_XIm6 []) (And.intro (j7 @n_id_id2 @n_id2_id @fdV_def @z0 @c1 @c2 @ci_lt) (j5 @ci_le @imV_def @wi_j @n_id2_id @n_id_id2)) (j2 @hFi @hMi) (k := ?_)
                        all_goals (repeat' (with_reducible apply And.intro))
                        all_goals first
                          | exact AS.le_refl _
                          | ((repeat (first | exact AS.le_refl _ | assumption | refine le_new (by simp [*]) ?_)); done)
                          | (refine wk_eq ?_; simp_all [skipV]; done)
                          | (refine wk_b ?_; rw [Bool.eq_iff_iff]; simp [*]; omega)
                          | (refine wk_eq ?_; simp [*]; omega)
                          | (refine wk_eq ?_; split <;> simp_all [skipV]; done)
                          | (exfalso; omega)
                      · skip
                        cases ht : fldB f.ty g.ts.length with
                        | false =>
                          rw [ht] at hMi
                          rw [hbad (fun h => by rw [ht] at h; cases h.2.2.2)]
                          refine gO (D11_XIm6 []) (And.intro (j7 @n_id_id2 @n_id2_id @fdV_def @z0 @c1 @c2 @ci_lt) (j5 @ci_le @imV_def @wi_j @n_id2_id @n_id_id2)) (j2 @hFi @hMi) (k := ?_)
                          all_goals (repeat' (with_reducible apply And.intro))
                          all_goals first
                            | exact AS.le_refl _
                            | ((repeat (first | exact AS.le_refl _ | assumption | refine le_new (by simp [*]) ?_)); done)
                            | (refine wk_eq ?_; simp_all [skipV]; done)
                            | (refine wk_b ?_; rw [Bool.eq_iff_iff]; simp [*]; omega)
                            | (refine wk_eq ?_; simp [*]; omega)
                            | (refine wk_eq ?_; split <;> simp_all [skipV]; done)
                            | (exfalso; omega)
                        | true =>
                          rw [ht] at hMi
                          refine gO (D11_XIm6 []) (And.intro (j7 @n_id_id2 @n_id2_id @fdV_def @z0 @c1 @c2 @ci_lt) (j5 @ci_le @imV_def @wi_j @n_id2_id @n_id_id2)) (j2 @hFi @hMi) (k := ?_)
                          refine stepA.mk ((j + 1, f.owner)) (by (try dsimp only); omega) (by (try dsimp only); (simp only [List.cons_append, List.nil_append]; repeat (first | exact FrWk.nil | refine FrWk.cons (by first | (simp -implicitDefEqProofs [ci_lt, ci_le, imV_def, wi_j, n_id2_id, n_id_id2]; done) | exact Wk.of (by (try simp -implicitDefEqProofs [ci_lt, ci_le, imV_def, wi_j, n_id2_id, n_id_id2]) <;> rfl)) ?_))) (by (try dsimp only); exact le_new (by simp [n_id2_id, h_id2]) (AS.le_refl _)) ?_
                          try dsimp only
                          exact ⟨by omega, hgood ⟨hb, by omega, by omega, ht⟩, by omega, by omega, hself⟩
                · obtain ⟨q, hq⟩ : ∃ q, j = q + 1 := ⟨j - 1, by omega⟩
                  have hq1 : q < g.fs.length := by omega
                  have hpq := hprev q hq1 hq
                  have z0 : 0 < j := by omega
                  have z1 : IntKind.i64.wrap ((j : Int) - 1) = (q : Int) := by rw [w_i64]; omega
                  cases hb : fineB f.name with
                  | false =>
                    rw [hb] at hFi
                    rw [hbad (fun h => by rw [hb] at h; cases h.1)]
                    refine gO (D11_XIm6 []) (And.intro (j7 @n_id_id2 @n_id2_id @fdV_def @z0 @z1 @hq1 @hpq) (j6 @ci_lt @ci_le @imV_def @wi_j @n_id2_id @n_id_id2)) (j2 @hFi @hMi) (k := ?_)
                    all_goals (repeat' (with_reducible apply And.intro))
                    all_goals first
                      | exact AS.le_refl _
                      | ((repeat (first | exact AS.le_refl _ | assumption | refine le_new (by simp [*]) ?_)); done)
                      | (refine wk_eq ?_; simp_all [skipV]; done)
                      | (refine wk_b ?_; rw [Bool.eq_iff_iff]; simp [*]; omega)
                      | (refine wk_eq ?_; simp [*]; omega)
                      | (refine wk_eq ?_; split <;> simp_all [skipV]; done)
                      | (exfalso; omega)
                  | true =>
                    rw [hb] at hFi
                    by_cases c1 : f.owner < 0
                    · rw [hbad (fun h => absurd h.2.1 (by omega))]
                      refine gO (D11_XIm6 []) (And.intro (j7 @n_id_id2 @n_id2_id @fdV_def @z0 @z1 @hq1 @hpq) (j7 @c1 @ci_lt @ci_le @imV_def @wi_j @n_id2_id @n_id_id2)) (j2 @hFi @hMi) (k := ?_)
                      all_goals (repeat' (with_reducible apply And.intro))
                      all_goals first
                        | exact AS.le_refl _
                        | ((repeat (first | exact AS.le_refl _ | assumption | refine le_new (by simp [*]) ?_)); done)
                        | (refine wk_eq ?_; simp_all [skipV]; done)
                        | (refine wk_b ?_; rw [Bool.eq_iff_iff]; simp [*]; omega)
                        | (refine wk_eq ?_; simp [*]; omega)
                        | (refine wk_eq ?_; split <;> simp_all [skipV]; done)
                        | (exfalso; omega)
                    · skip
                      by_cases c2 : (g.ts.length : Int) ≤ f.owner
                      · rw [hbad (fun h => absurd h.2.2.1 (by omega))]
                        refine gO (D11_XIm6 []) (And.intro (j7 @n_id_id2 @n_id2_id @fdV_def @z0 @z1 @hq1 @hpq) (j8 @c1 @c2 @ci_lt @ci_le @imV_def @wi_j @n_id2_id @n_id_id2)) (j2 @hFi @hMi) (k := ?_)
                        all_goals (repeat' (with_reducible apply And.intro))
                        all_goals first
                          | exact AS.le_refl _
                          | ((repeat (first | exact AS.le_refl _ | assumption | refine le_new (by simp [*]) ?_)); done)
                          | (refine wk_eq ?_; simp_all [skipV]; done)
                          | (refine wk_b ?_; rw [Bool.eq_iff_iff]; simp [*]; omega)
                          | (refine wk_eq ?_; simp [*]; omega)
                          | (refine wk_eq ?_; split <;> simp_all [skipV]; done)
                          | (exfalso; omega)
                      · skip
                        by_cases c3 : f.owner < last
                        · rw [hbad (fun h => absurd h.2.1 (by omega))]
                          refine gO (D11_XIm6 []) (And.intro (j7 @n_id_id2 @n_id2_id @fdV_def @z0 @z1 @hq1 @hpq) (And.intro (j7 @c1 @c2 @z0 @c3 @ci_lt @ci_le @imV_def) (j3 @wi_j @n_id2_id @n_id_id2))) (j2 @hFi @hMi) (k := ?_)
                          all_goals (repeat' (with_reducible apply And.intro))
                          all_goals first
                            | exact AS.le_refl _
                            | ((repeat (first | exact AS.le_refl _ | assumption | refine le_new (by simp [*]) ?_)); done)
                            | (refine wk_eq ?_; simp_all [skipV]; done)
                            | (refine wk_b ?_; rw [Bool.eq_iff_iff]; simp [*]; omega)
                            | (refine wk_eq ?_; simp [*]; omega)
                            | (refine wk_eq ?_; split <;> simp_all [skipV]; done)
                            | (exfalso; omega)
                        · skip
                          cases ht : fldB f.ty g.ts.length with
                          | false =>
                            rw [ht] at hMi
                            rw [hbad (fun h => by rw [ht] at h; cases h.2.2.2)]
                            refine gO (D11_XIm6 []) (And.intro (j7 @n_id_id2 @n_id2_id @fdV_def @z0 @z1 @hq1 @hpq) (And.intro (j7 @c1 @c2 @z0 @c3 @ci_lt @ci_le @imV_def) (j3 @wi_j @n_id2_id @n_id_id2))) (j2 @hFi @hMi) (k := ?_)
                            all_goals (repeat' (with_reducible apply And.intro))
                            all_goals first
                              | exact AS.le_refl _
                              | ((repeat (first | exact AS.le_refl _ | assumption | refine le_new (by simp [*]) ?_)); done)
                              | (refine wk_eq ?_; simp_all [skipV]; done)
                              | (refine wk_b ?_; rw [Bool.eq_iff_iff]; simp [*]; omega)
                              | (refine wk_eq ?_; simp [*]; omega)
                              | (refine wk_eq ?_; split <;> simp_all [skipV]; done)
                              | (exfalso; omega)
                          | true =>
                            rw [ht] at hMi
                            repeat (first
                              | (with_reducible first | apply AWp.seq | apply AWp.block | refine And.intro (by first | omega | assumption | decide) ?_)
                              | ((first | (with_reducible first | apply AWp.fork | apply AWp.region | show condK _ _ _ | show guardK _ _ _ _ _ _ _ _ _) | ((with_reducible apply AWp.drawS (id := 13) (t := sc_11_13_XIm6)); (exact mixed); kernel_rfl; kernel_rfl; (repeat (with_reducible first | apply PanQ.then | apply PanQ.block | apply PanQ.body | apply PanQ.no))) | ((with_reducible apply AWp.drawS (id := 19) (t := sc_11_19_XIm6)); (exact mixed); kernel_rfl; kernel_rfl; (repeat (with_reducible first | apply PanQ.then | apply PanQ.block | apply PanQ.body | apply PanQ.no))) | ((with_reducible apply aCall.id); first | apply aCall.gives (hFi _) | apply aCall.gives (hMi _))); simp -implicitDefEqProofs [n_id_id2, n_id2_id, fdV_def, z0, z1, hq1, hpq, c1, c2, z0, c3, ci_lt, ci_le, imV_def, wi_j, n_id2_id, n_id_id2])
                              | ((with_reducible first | apply AWp.ret | apply AWp.skip | apply AWp.exit); try simp -implicitDefEqProofs [n_id_id2, n_id2_id, fdV_def, z0, z1, hq1, hpq, c1, c2, z0, c3, ci_lt, ci_le, imV_def, wi_j, n_id2_id, n_id_id2]))
                            refine stepA.mk ((j + 1, f.owner)) (by (try dsimp only); omega) (by (try dsimp only); (simp only [List.cons_append, List.nil_append]; repeat (first | exact FrWk.nil | refine FrWk.cons (by first | (simp -implicitDefEqProofs [ci_lt, ci_le, imV_def, wi_j, n_id2_id, n_id_id2]; done) | exact Wk.of (by (try simp -implicitDefEqProofs [ci_lt, ci_le, imV_def, wi_j, n_id2_id, n_id_id2]) <;> rfl)) ?_))) (by (try dsimp only); exact le_new (by simp [n_id2_id, h_id2]) (AS.le_refl _)) ?_
                            try dsimp only
                            exact ⟨by omega, hgood ⟨hb, by omega, by omega, ht⟩, by omega, by omega, hself⟩
              · have hFAt : FA = true := by rw [← hFA, hY, List.drop_eq_nil_of_le (by omega)]; rfl
                rw [hFAt]
                refine gO (D11_XIm6 []) (j4 @hl2 @ci_lt @ci_le @imV_def) True.intro (k := ?_)
                refine AWp.loopA (α := (Nat) × (Int)) ((0, 0)) (fun ⟨k, last⟩ => g.ms.length - k) (fun ⟨k, last⟩ => k ≤ g.ms.length ∧ mtsF g.ts.length g.fs.length g.ms.length 0 g.ms = mtsF g.ts.length g.fs.length g.ms.length last (g.ms.drop k) ∧ 0 ≤ last ∧ (k = 0 → last = 0) ∧ ∀ p_ (hp_ : p_ < g.ms.length), k = p_ + 1 → (g.ms[p_]).owner = last) [(1, ?_), (3, ?_)] (fun ⟨k, last⟩ => [(7, .sc (.int .i64 k))]) (fun ⟨k, last⟩ => σ.set id (.cells 26 (imV g).cells)) ?_ ?_ ?_ ?_
                rotate_left 2
                · (try dsimp only); (simp only [List.cons_append, List.nil_append]; repeat (first | exact FrWk.nil | refine FrWk.cons (by first | (simp -implicitDefEqProofs [ci_lt, ci_le, imV_def]; done) | exact Wk.of (by (try simp -implicitDefEqProofs [ci_lt, ci_le, imV_def]) <;> rfl)) ?_))
                · (try dsimp only); (first | exact AS.le_refl _ | assumption | (repeat (first | exact AS.le_refl _ | assumption | refine le_new (by simp [*]) ?_)))
                · exact ⟨by omega, by simp, by omega, by simp, by intros; omega⟩
                intro x_ hx_
                obtain ⟨k, last⟩ := x_
                try dsimp only at hx_ ⊢
                obtain ⟨hj, hY, hlast, hz, hprev⟩ := hx_
                simp only [List.cons_append, List.nil_append]
                by_cases hl3 : k < g.ms.length
                · have wi_k : IntKind.i64.wrap ((k : Int) + 1) = ((k + 1 : Nat) : Int) := ci_wi (by omega)
                  rw [List.drop_eq_getElem_cons hl3] at hY
                  simp only [mtsF] at hY
                  have hNi := hN g.ms[k] (List.getElem_mem hl3)
                  have hself : ∀ p_ (hp_ : p_ < g.ms.length), k + 1 = p_ + 1 → (g.ms[p_]).owner = (g.ms[k]).owner := fun p_ hp_ e => same_at (fun y : Mt => y.owner) (by omega)
                  generalize hc : g.ms[k] = m at *
                  have hbad : ¬ (last ≤ m.owner ∧ m.owner < g.ts.length ∧ mtB m g.ts.length g.fs.length g.ms.length = true) → MA = false := fun h => by rw [← hMA, hY, if_neg h]
                  have hgood : (last ≤ m.owner ∧ m.owner < g.ts.length ∧ mtB m g.ts.length g.fs.length g.ms.length = true) → mtsF g.ts.length g.fs.length g.ms.length 0 g.ms = mtsF g.ts.length g.fs.length g.ms.length m.owner (g.ms.drop (k + 1)) := fun h => by rw [hY, if_pos h]
                  clear hY
                  refine gO (D11_XIm6 []) (j7 @hl3 @hc @mtV_def @ci_lt @ci_le @imV_def @wi_k) True.intro (k := ?_)
                  intro id2 n_id2_id h_id2
                  have n_id_id2 : ¬ id = id2 := fun e => n_id2_id e.symm
                  by_cases h0 : k = 0
                  · have hl0 := hz h0
                    have z0 : ¬ (0 < k) := by omega
                    by_cases c1 : m.owner < 0
                    · rw [hbad (fun h => absurd h.1 (by omega))]
                      refine gO (D11_XIm6 []) (And.intro (j7 @n_id_id2 @n_id2_id @mtV_def @z0 @c1 @ci_lt @ci_le) (j4 @imV_def @wi_k @n_id2_id @n_id_id2)) @hNi (k := ?_)
                      all_goals (repeat' (with_reducible apply And.intro))
                      all_goals first
                        | exact AS.le_refl _
                        | ((repeat (first | exact AS.le_refl _ | assumption | refine le_new (by simp [*]) ?_)); done)
                        | (refine wk_eq ?_; simp_all [skipV]; done)
                        | (refine wk_b ?_; rw [Bool.eq_iff_iff]; simp [*]; omega)
                        | (refine wk_eq ?_; simp [*]; omega)
                        | (refine wk_eq ?_; split <;> simp_all [skipV]; done)
                        | (exfalso; omega)
                    · skip
                      by_cases c2 : (g.ts.length : Int) ≤ m.owner
                      · rw [hbad (fun h => absurd h.2.1 (by omega))]
                        refine gO (D11_XIm6 []) (And.intro (j7 @n_id_id2 @n_id2_id @mtV_def @z0 @c1 @c2 @ci_lt) (j5 @ci_le @imV_def @wi_k @n_id2_id @n_id_id2)) @hNi (k := ?_)
                        all_goals (repeat' (with_reducible apply And.intro))
                        all_goals first
                          | exact AS.le_refl _
                          | ((repeat (first | exact AS.le_refl _ | assumption | refine le_new (by simp [*]) ?_)); done)
                          | (refine wk_eq ?_; simp_all [skipV]; done)
                          | (refine wk_b ?_; rw [Bool.eq_iff_iff]; simp [*]; omega)
                          | (refine wk_eq ?_; simp [*]; omega)
                          | (refine wk_eq ?_; split <;> simp_all [skipV]; done)
                          | (exfalso; omega)
                      · skip
                        cases ht : mtB m g.ts.length g.fs.length g.ms.length with
                        | false =>
                          rw [ht] at hNi
                          rw [hbad (fun h => by rw [ht] at h; cases h.2.2)]
                          refine gO (D11_XIm6 []) (And.intro (j7 @n_id_id2 @n_id2_id @mtV_def @z0 @c1 @c2 @ci_lt) (j5 @ci_le @imV_def @wi_k @n_id2_id @n_id_id2)) @hNi (k := ?_)
                          all_goals (repeat' (with_reducible apply And.intro))
                          all_goals first
                            | exact AS.le_refl _
                            | ((repeat (first | exact AS.le_refl _ | assumption | refine le_new (by simp [*]) ?_)); done)
                            | (refine wk_eq ?_; simp_all [skipV]; done)
                            | (refine wk_b ?_; rw [Bool.eq_iff_iff]; simp [*]; omega)
                            | (refine wk_eq ?_; simp [*]; omega)
                            | (refine wk_eq ?_; split <;> simp_all [skipV]; done)
                            | (exfalso; omega)
                        | true =>
                          rw [ht] at hNi
                          refine gO (D11_XIm6 []) (And.intro (j7 @n_id_id2 @n_id2_id @mtV_def @z0 @c1 @c2 @ci_lt) (j5 @ci_le @imV_def @wi_k @n_id2_id @n_id_id2)) @hNi (k := ?_)
                          refine stepA.mk ((k + 1, m.owner)) (by (try dsimp only); omega) (by (try dsimp only); (simp only [List.cons_append, List.nil_append]; repeat (first | exact FrWk.nil | refine FrWk.cons (by first | (simp -implicitDefEqProofs [ci_lt, ci_le, imV_def, wi_k, n_id2_id, n_id_id2]; done) | exact Wk.of (by (try simp -implicitDefEqProofs [ci_lt, ci_le, imV_def, wi_k, n_id2_id, n_id_id2]) <;> rfl)) ?_))) (by (try dsimp only); exact le_new (by simp [n_id2_id, h_id2]) (AS.le_refl _)) ?_
                          try dsimp only
                          exact ⟨by omega, hgood ⟨by omega, by omega, ht⟩, by omega, by omega, hself⟩
                  · obtain ⟨q, hq⟩ : ∃ q, k = q + 1 := ⟨k - 1, by omega⟩
                    have hq1 : q < g.ms.length := by omega
                    have hpq := hprev q hq1 hq
                    have z0 : 0 < k := by omega
                    have z1 : IntKind.i64.wrap ((k : Int) - 1) = (q : Int) := by rw [w_i64]; omega
                    by_cases c1 : m.owner < 0
                    · rw [hbad (fun h => absurd h.1 (by omega))]
                      refine gO (D11_XIm6 []) (And.intro (j7 @n_id_id2 @n_id2_id @mtV_def @z0 @z1 @hq1 @hpq) (j7 @c1 @ci_lt @ci_le @imV_def @wi_k @n_id2_id @n_id_id2)) @hNi (k := ?_)
                      all_goals (repeat' (with_reducible apply And.intro))
                      all_goals first
                        | exact AS.le_refl _
                        | ((repeat (first | exact AS.le_refl _ | assumption | refine le_new (by simp [*]) ?_)); done)
                        | (refine wk_eq ?_; simp_all [skipV]; done)
                        | (refine wk_b ?_; rw [Bool.eq_iff_iff]; simp [*]; omega)
                        | (refine wk_eq ?_; simp [*]; omega)
                        | (refine wk_eq ?_; split <;> simp_all [skipV]; done)
                        | (exfalso; omega)
                    · skip
                      by_cases c2 : (g.ts.length : Int) ≤ m.owner
                      · rw [hbad (fun h => absurd h.2.1 (by omega))]
                        refine gO (D11_XIm6 []) (And.intro (j7 @n_id_id2 @n_id2_id @mtV_def @z0 @z1 @hq1 @hpq) (j8 @c1 @c2 @ci_lt @ci_le @imV_def @wi_k @n_id2_id @n_id_id2)) @hNi (k := ?_)
                        all_goals (repeat' (with_reducible apply And.intro))
                        all_goals first
                          | exact AS.le_refl _
                          | ((repeat (first | exact AS.le_refl _ | assumption | refine le_new (by simp [*]) ?_)); done)
                          | (refine wk_eq ?_; simp_all [skipV]; done)
                          | (refine wk_b ?_; rw [Bool.eq_iff_iff]; simp [*]; omega)
                          | (refine wk_eq ?_; simp [*]; omega)
                          | (refine wk_eq ?_; split <;> simp_all [skipV]; done)
                          | (exfalso; omega)
                      · skip
                        by_cases c3 : m.owner < last
                        · rw [hbad (fun h => absurd h.1 (by omega))]
                          refine gO (D11_XIm6 []) (And.intro (j7 @n_id_id2 @n_id2_id @mtV_def @z0 @z1 @hq1 @hpq) (And.intro (j7 @c1 @c2 @z0 @c3 @ci_lt @ci_le @imV_def) (j3 @wi_k @n_id2_id @n_id_id2))) @hNi (k := ?_)
                          all_goals (repeat' (with_reducible apply And.intro))
                          all_goals first
                            | exact AS.le_refl _
                            | ((repeat (first | exact AS.le_refl _ | assumption | refine le_new (by simp [*]) ?_)); done)
                            | (refine wk_eq ?_; simp_all [skipV]; done)
                            | (refine wk_b ?_; rw [Bool.eq_iff_iff]; simp [*]; omega)
                            | (refine wk_eq ?_; simp [*]; omega)
                            | (refine wk_eq ?_; split <;> simp_all [skipV]; done)
                            | (exfalso; omega)
                        · skip
                          cases ht : mtB m g.ts.length g.fs.length g.ms.length with
                          | false =>
                            rw [ht] at hNi
                            rw [hbad (fun h => by rw [ht] at h; cases h.2.2)]
                            refine gO (D11_XIm6 []) (And.intro (j7 @n_id_id2 @n_id2_id @mtV_def @z0 @z1 @hq1 @hpq) (And.intro (j7 @c1 @c2 @z0 @c3 @ci_lt @ci_le @imV_def) (j3 @wi_k @n_id2_id @n_id_id2))) @hNi (k := ?_)
                            all_goals (repeat' (with_reducible apply And.intro))
                            all_goals first
                              | exact AS.le_refl _
                              | ((repeat (first | exact AS.le_refl _ | assumption | refine le_new (by simp [*]) ?_)); done)
                              | (refine wk_eq ?_; simp_all [skipV]; done)
                              | (refine wk_b ?_; rw [Bool.eq_iff_iff]; simp [*]; omega)
                              | (refine wk_eq ?_; simp [*]; omega)
                              | (refine wk_eq ?_; split <;> simp_all [skipV]; done)
                              | (exfalso; omega)
                          | true =>
                            rw [ht] at hNi
                            repeat (first
                              | (with_reducible first | apply AWp.seq | apply AWp.block | refine And.intro (by first | omega | assumption | decide) ?_)
                              | ((first | (with_reducible first | apply AWp.fork | apply AWp.region | show condK _ _ _ | show guardK _ _ _ _ _ _ _ _ _) | ((with_reducible apply AWp.drawS (id := 13) (t := sc_11_13_XIm6)); (exact mixed); kernel_rfl; kernel_rfl; (repeat (with_reducible first | apply PanQ.then | apply PanQ.block | apply PanQ.body | apply PanQ.no))) | ((with_reducible apply AWp.drawS (id := 19) (t := sc_11_19_XIm6)); (exact mixed); kernel_rfl; kernel_rfl; (repeat (with_reducible first | apply PanQ.then | apply PanQ.block | apply PanQ.body | apply PanQ.no))) | ((with_reducible apply aCall.id); first | apply aCall.gives (hNi _))); simp -implicitDefEqProofs [n_id_id2, n_id2_id, mtV_def, z0, z1, hq1, hpq, c1, c2, z0, c3, ci_lt, ci_le, imV_def, wi_k, n_id2_id, n_id_id2])
                              | ((with_reducible first | apply AWp.ret | apply AWp.skip | apply AWp.exit); try simp -implicitDefEqProofs [n_id_id2, n_id2_id, mtV_def, z0, z1, hq1, hpq, c1, c2, z0, c3, ci_lt, ci_le, imV_def, wi_k, n_id2_id, n_id_id2]))
                            refine stepA.mk ((k + 1, m.owner)) (by (try dsimp only); omega) (by (try dsimp only); (simp only [List.cons_append, List.nil_append]; repeat (first | exact FrWk.nil | refine FrWk.cons (by first | (simp -implicitDefEqProofs [ci_lt, ci_le, imV_def, wi_k, n_id2_id, n_id_id2]; done) | exact Wk.of (by (try simp -implicitDefEqProofs [ci_lt, ci_le, imV_def, wi_k, n_id2_id, n_id_id2]) <;> rfl)) ?_))) (by (try dsimp only); exact le_new (by simp [n_id2_id, h_id2]) (AS.le_refl _)) ?_
                            try dsimp only
                            exact ⟨by omega, hgood ⟨by omega, by omega, ht⟩, by omega, by omega, hself⟩
                · have hMAt : MA = true := by rw [← hMA, hY, List.drop_eq_nil_of_le (by omega)]; rfl
                  rw [hMAt]
                  refine gO (D11_XIm6 []) (j4 @hl3 @ci_lt @ci_le @imV_def) True.intro (k := ?_)
                  all_goals (repeat' (with_reducible apply And.intro))
                  all_goals first
                    | exact AS.le_refl _
                    | ((repeat (first | exact AS.le_refl _ | assumption | refine le_new (by simp [*]) ?_)); done)
                    | (refine wk_eq ?_; simp_all [skipV]; done)
                    | (refine wk_b ?_; rw [Bool.eq_iff_iff]; simp [*]; omega)
                    | (refine wk_eq ?_; simp [*]; omega)
                    | (refine wk_eq ?_; split <;> simp_all [skipV]; done)
                    | (exfalso; omega)
      · have h3' : (64 < (g.ms.length : Int)) = True := by simp; omega
        have hd : d0 = false := by rw [← hd0]; simp; omega
        subst hd
        refine gO (D11_XIm6 []) (j6 @h1' @h2' @h3' @ci_lt @ci_le @imV_def) True.intro (k := ?_)
        all_goals (repeat' (with_reducible apply And.intro))
        all_goals first
          | exact AS.le_refl _
          | ((repeat (first | exact AS.le_refl _ | assumption | refine le_new (by simp [*]) ?_)); done)
          | (refine wk_eq ?_; simp_all [skipV]; done)
          | (refine wk_b ?_; rw [Bool.eq_iff_iff]; simp [*]; omega)
          | (refine wk_eq ?_; simp [*]; omega)
          | (refine wk_eq ?_; split <;> simp_all [skipV]; done)
          | (exfalso; omega)
    · have h2' : (64 < (g.fs.length : Int)) = True := by simp; omega
      have hd : d0 = false := by rw [← hd0]; simp; omega
      subst hd
      refine gO (D11_XIm6 []) (j5 @h1' @h2' @ci_lt @ci_le @imV_def) True.intro (k := ?_)
      all_goals (repeat' (with_reducible apply And.intro))
      all_goals first
        | exact AS.le_refl _
        | ((repeat (first | exact AS.le_refl _ | assumption | refine le_new (by simp [*]) ?_)); done)
        | (refine wk_eq ?_; simp_all [skipV]; done)
        | (refine wk_b ?_; rw [Bool.eq_iff_iff]; simp [*]; omega)
        | (refine wk_eq ?_; simp [*]; omega)
        | (refine wk_eq ?_; split <;> simp_all [skipV]; done)
        | (exfalso; omega)
  · have h1' : (32 < (g.ts.length : Int)) = True := by simp; omega
    have hd : d0 = false := by rw [← hd0]; simp; omega
    subst hd
    refine gO (D11_XIm6 []) (j4 @h1' @ci_lt @ci_le @imV_def) True.intro (k := ?_)
    all_goals (repeat' (with_reducible apply And.intro))
    all_goals first
      | exact AS.le_refl _
      | ((repeat (first | exact AS.le_refl _ | assumption | refine le_new (by simp [*]) ?_)); done)
      | (refine wk_eq ?_; simp_all [skipV]; done)
      | (refine wk_b ?_; rw [Bool.eq_iff_iff]; simp [*]; omega)
      | (refine wk_eq ?_; simp [*]; omega)
      | (refine wk_eq ?_; split <;> simp_all [skipV]; done)
      | (exfalso; omega)
end Im
end Go.Proofs.YtknalmoackcpbaaGreat
