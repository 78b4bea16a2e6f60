/- Chapter 10: where types may stand, instructions, clauses: own, field, local, answer, instr, clause; the reference's Own, May. -/
import Derived.Test.YtknalmoackcpbaaGreatAwGo
import Derived.Test.YtknalmoackcpbaaGreatIm1
set_option linter.unusedSimpArgs false
set_option linter.unusedVariables false
set_option maxRecDepth 100000
set_option maxHeartbeats 3200000
namespace Go.Proofs.YtknalmoackcpbaaGreat
namespace Im
open Go Go.AW
theorem D0_XIm2 (S : List Nat) : Plans Tryz.prog [] S := mixed
open Sg (PutField_ok PutField_bad tyB)
open Rg (Cl clV clV_def)
def ownT (t : Ty) (n : Int) : Bool := decide (¬ (t.kind = 5 ∨ t.kind = 6) ∨ t.index < n)
def fldB (t : Ty) (n : Int) : Bool := fieldT' t && ownT t n
def locB (t : Ty) (n : Int) : Bool := localT t && ownT t n
def ansB (t : Ty) (n : Int) : Bool := answerT t && ownT t n
theorem own_ok (t : Ty) (n : Int) (σ : AS) : ACalls Tryz.prog 114 [tyV t, .sc (.int .i64 n)] σ (Gives (.sc (.bool (ownT t n))) σ) No := by
  obtain ⟨k, x, d, r⟩ := t
  refine ACalls.of_body Tryz.func114 rfl rfl (by simp [Tryz.ntmps114]) ?_
  simp only [tyV, ownT]
  refine gO (D0_XIm2 []) True.intro True.intro (k := ?_)
  intro id hid
  by_cases h5 : k = 5
  · refine gO (D0_XIm2 []) @h5 True.intro (k := ?_)
    all_goals (repeat' (with_reducible apply And.intro))
    all_goals first
      | exact AS.le_refl _
      | ((repeat (first | exact AS.le_refl _ | assumption | refine le_new (by simp [*]) ?_)); done)
      | (refine wk_eq ?_; simp_all [skipV, h5]; done)
      | (refine wk_b ?_; rw [Bool.eq_iff_iff]; simp [*, h5]; omega)
      | (refine wk_eq ?_; simp [*, h5]; omega)
      | (refine wk_eq ?_; split <;> simp_all [skipV]; done)
      | (exfalso; omega)
  · by_cases h6 : k = 6
    · refine gO (D0_XIm2 []) (j2 @h5 @h6) True.intro (k := ?_)
      all_goals (repeat' (with_reducible apply And.intro))
      all_goals first
        | exact AS.le_refl _
        | ((repeat (first | exact AS.le_refl _ | assumption | refine le_new (by simp [*]) ?_)); done)
        | (refine wk_eq ?_; simp_all [skipV, h5, h6]; done)
        | (refine wk_b ?_; rw [Bool.eq_iff_iff]; simp [*, h5, h6]; omega)
        | (refine wk_eq ?_; simp [*, h5, h6]; omega)
        | (refine wk_eq ?_; split <;> simp_all [skipV]; done)
        | (exfalso; omega)
    · refine gO (D0_XIm2 []) (j2 @h5 @h6) True.intro (k := ?_)
      all_goals (repeat' (with_reducible apply And.intro))
      all_goals first
        | exact AS.le_refl _
        | ((repeat (first | exact AS.le_refl _ | assumption | refine le_new (by simp [*]) ?_)); done)
        | (refine wk_eq ?_; simp_all [skipV, h5, h6]; done)
        | (refine wk_b ?_; rw [Bool.eq_iff_iff]; simp [*, h5, h6]; omega)
        | (refine wk_eq ?_; simp [*, h5, h6]; omega)
        | (refine wk_eq ?_; split <;> simp_all [skipV]; done)
        | (exfalso; omega)
theorem rown_ok (t : Ty) (n : Int) (σ : AS) : ACalls Tryz.prog 56 [tyV t, .sc (.int .i64 n)] σ (Gives (.sc (.bool (ownT t n))) σ) No := by
  obtain ⟨k, x, d, r⟩ := t
  refine ACalls.of_body Tryz.func56 rfl rfl (by simp [Tryz.ntmps56]) ?_
  simp only [tyV, ownT]
  refine gO (D0_XIm2 []) True.intro True.intro (k := ?_)
  intro id hid
  by_cases h5 : k = 5
  · refine gO (D0_XIm2 []) @h5 True.intro (k := ?_)
    all_goals (repeat' (with_reducible apply And.intro))
    all_goals first
      | exact AS.le_refl _
      | ((repeat (first | exact AS.le_refl _ | assumption | refine le_new (by simp [*]) ?_)); done)
      | (refine wk_eq ?_; simp_all [skipV, h5]; done)
      | (refine wk_b ?_; rw [Bool.eq_iff_iff]; simp [*, h5]; omega)
      | (refine wk_eq ?_; simp [*, h5]; omega)
      | (refine wk_eq ?_; split <;> simp_all [skipV]; done)
      | (exfalso; omega)
  · by_cases h6 : k = 6
    · refine gO (D0_XIm2 []) (j2 @h5 @h6) True.intro (k := ?_)
      all_goals (repeat' (with_reducible apply And.intro))
      all_goals first
        | exact AS.le_refl _
        | ((repeat (first | exact AS.le_refl _ | assumption | refine le_new (by simp [*]) ?_)); done)
        | (refine wk_eq ?_; simp_all [skipV, h5, h6]; done)
        | (refine wk_b ?_; rw [Bool.eq_iff_iff]; simp [*, h5, h6]; omega)
        | (refine wk_eq ?_; simp [*, h5, h6]; omega)
        | (refine wk_eq ?_; split <;> simp_all [skipV]; done)
        | (exfalso; omega)
    · refine gO (D0_XIm2 []) (j2 @h5 @h6) True.intro (k := ?_)
      all_goals (repeat' (with_reducible apply And.intro))
      all_goals first
        | exact AS.le_refl _
        | ((repeat (first | exact AS.le_refl _ | assumption | refine le_new (by simp [*]) ?_)); done)
        | (refine wk_eq ?_; simp_all [skipV, h5, h6]; done)
        | (refine wk_b ?_; rw [Bool.eq_iff_iff]; simp [*, h5, h6]; omega)
        | (refine wk_eq ?_; simp [*, h5, h6]; omega)
        | (refine wk_eq ?_; split <;> simp_all [skipV]; done)
        | (exfalso; omega)
theorem rmay_ok (t : Ty) (p n : Int) (σ : AS) : ACalls Tryz.prog 23 [tyV t, .sc (.int .i64 p), .sc (.int .i64 n)] σ (Gives (.sc (.bool (whereT t p && ownT t n))) σ) No := by
  have hw := fun σ => rwhere_ok t p σ
  have ho := fun σ => rown_ok t n σ
  generalize ownT t n = b at ho ⊢
  cases hp : whereT t p <;> rw [hp] at hw <;> obtain ⟨k, x, d, r⟩ := t <;> simp only [tyV] at hw ho ⊢
  all_goals
    refine ACalls.of_body Tryz.func23 rfl rfl (by simp [Tryz.ntmps23]) ?_
    refine gO (D0_XIm2 []) True.intro True.intro (k := ?_)
    intro id hid
    refine gO (D0_XIm2 []) True.intro (j2 @hw @ho) (k := ?_)
    all_goals (repeat' (with_reducible apply And.intro))
    all_goals first
      | exact AS.le_refl _
      | ((repeat (first | exact AS.le_refl _ | assumption | refine le_new (by simp [*]) ?_)); done)
      | (refine wk_eq ?_; simp_all [skipV]; done)
      | (refine wk_b ?_; rw [Bool.eq_iff_iff]; simp [*]; omega)
      | (refine wk_eq ?_; simp [*]; omega)
      | (refine wk_eq ?_; split <;> simp_all [skipV]; done)
      | (exfalso; omega)
theorem unown {P : Program} {f : FuncId} {args : List AV} {σ : AS} {g : Nat → AV} {n : Nat} {v : AV} (h : ACalls P f args σ (Owns g n σ) No) (hw : ∀ tk, AV.Wk P (g tk) v) : ACalls P f args σ (Gives v σ) No :=
  ⟨h.body, fun G w vals hi hr => (h.run G w vals hi hr).mono fun e w' he => by
    unfold EndOk at he ⊢
    split at he
    · obtain ⟨G', σ', r, a, b, c, tk, h0, rfl, rfl⟩ := he
      exact ⟨G', σ, v, a, b.weaken (AS.le_set (AS.le_refl _) h0), hw tk _ _ c, rfl, rfl⟩
    · obtain ⟨x, y, G', σ', r, a, b, c, d⟩ := he; exact d.elim
    · exact he.elim⟩
theorem PutField_g (t : Ty) (σ : AS) : ∃ v, ACalls Tryz.prog 62 [tyV t] σ (Gives (.tup [v, .sc (.int .i64 (if fieldT' t = true then 0 else 17))]) σ) No := by
  by_cases h : fieldT' t = true
  · rw [if_pos h]
    exact ⟨_, unown (PutField_ok t h σ) fun tk => Wk_tup2 (a := .lst 5 ((6 :: tyB t).map u8) (.tok tk) false) (Wk_unk _ _ _ _ |>.2 trivial) (Wk.refl _)⟩
  · rw [if_neg h]; exact ⟨_, PutField_bad t (by simpa using h) σ⟩
theorem field_ok (t : Ty) (n : Int) (σ : AS) : ACalls Tryz.prog 53 [tyV t, .sc (.int .i64 n)] σ (Gives (.sc (.bool (fldB t n))) σ) No := by
  have hw := fun σ => PutField_g t σ
  have ho := fun σ => own_ok t n σ
  unfold fldB
  generalize ownT t n = b at ho ⊢
  cases hp : fieldT' t <;> rw [hp] at hw <;> obtain ⟨k, x, d, r⟩ := t <;> simp only [tyV, if_true, Bool.false_eq_true, if_false] at hw ho ⊢
  all_goals
    refine ACalls.of_body Tryz.func53 rfl rfl (by simp [Tryz.ntmps53]) ?_
    refine gO (D0_XIm2 []) True.intro True.intro (k := ?_)
    intro id hid
    obtain ⟨v, hw⟩ := hw (σ.set id (.cells 49 [.sc (.int .i64 k), .sc (.int .i64 x), .sc (.int .i64 d), .sc (.bool r)]))
    refine gO (D0_XIm2 []) True.intro (j2 @hw @ho) (k := ?_)
    all_goals (repeat' (with_reducible apply And.intro))
    all_goals first
      | exact AS.le_refl _
      | ((repeat (first | exact AS.le_refl _ | assumption | refine le_new (by simp [*]) ?_)); done)
      | (refine wk_eq ?_; simp_all [skipV]; done)
      | (refine wk_b ?_; rw [Bool.eq_iff_iff]; simp [*]; omega)
      | (refine wk_eq ?_; simp [*]; omega)
      | (refine wk_eq ?_; split <;> simp_all [skipV]; done)
      | (exfalso; omega)
theorem local_ok (t : Ty) (n : Int) (σ : AS) : ACalls Tryz.prog 116 [tyV t, .sc (.int .i64 n)] σ (Gives (.sc (.bool (locB t n))) σ) No := by
  have hw := fun σ => Plain_ok t σ
  have ho := fun σ => own_ok t n σ
  unfold locB localT
  generalize ownT t n = b at ho ⊢
  cases hp : plainT t <;> rw [hp] at hw <;> obtain ⟨k, x, d, r⟩ := t <;> simp only [tyV] at hw ho ⊢
  · refine ACalls.of_body Tryz.func116 rfl rfl (by simp [Tryz.ntmps116]) ?_
    refine gO (D0_XIm2 []) True.intro True.intro (k := ?_)
    intro id hid
    refine gO (D0_XIm2 []) True.intro (j2 @hw @ho) (k := ?_)
    all_goals (repeat' (with_reducible apply And.intro))
    all_goals first
      | exact AS.le_refl _
      | ((repeat (first | exact AS.le_refl _ | assumption | refine le_new (by simp [*]) ?_)); done)
      | (refine wk_eq ?_; simp_all [skipV]; done)
      | (refine wk_b ?_; rw [Bool.eq_iff_iff]; simp [*]; omega)
      | (refine wk_eq ?_; simp [*]; omega)
      | (refine wk_eq ?_; split <;> simp_all [skipV]; done)
      | (exfalso; omega)
  · by_cases h1 : k = 1
    · subst h1
      refine ACalls.of_body Tryz.func116 rfl rfl (by simp [Tryz.ntmps116]) ?_
      refine gO (D0_XIm2 []) True.intro True.intro (k := ?_)
      intro id hid
      refine gO (D0_XIm2 []) True.intro (j2 @hw @ho) (k := ?_)
      all_goals (repeat' (with_reducible apply And.intro))
      all_goals first
        | exact AS.le_refl _
        | ((repeat (first | exact AS.le_refl _ | assumption | refine le_new (by simp [*]) ?_)); done)
        | (refine wk_eq ?_; simp_all [skipV]; done)
        | (refine wk_b ?_; rw [Bool.eq_iff_iff]; simp [*]; omega)
        | (refine wk_eq ?_; simp [*]; omega)
        | (refine wk_eq ?_; split <;> simp_all [skipV]; done)
        | (exfalso; omega)
    · refine ACalls.of_body Tryz.func116 rfl rfl (by simp [Tryz.ntmps116]) ?_
      refine gO (D0_XIm2 []) True.intro True.intro (k := ?_)
      intro id hid
      refine gO (D0_XIm2 []) @h1 (j2 @hw @ho) (k := ?_)
      all_goals (repeat' (with_reducible apply And.intro))
      all_goals first
        | exact AS.le_refl _
        | ((repeat (first | exact AS.le_refl _ | assumption | refine le_new (by simp [*]) ?_)); done)
        | (refine wk_eq ?_; simp_all [skipV, h1]; done)
        | (refine wk_b ?_; rw [Bool.eq_iff_iff]; simp [*, h1]; omega)
        | (refine wk_eq ?_; simp [*, h1]; omega)
        | (refine wk_eq ?_; split <;> simp_all [skipV]; done)
        | (exfalso; omega)
theorem answer_ok (t : Ty) (n : Int) (σ : AS) : ACalls Tryz.prog 117 [tyV t, .sc (.int .i64 n)] σ (Gives (.sc (.bool (ansB t n))) σ) No := by
  have hw := fun σ => Plain_ok t σ
  have ho := fun σ => own_ok t n σ
  unfold ansB answerT
  generalize ownT t n = b at ho ⊢
  cases hp : plainT t <;> rw [hp] at hw <;> obtain ⟨k, x, d, r⟩ := t <;> simp only [tyV] at hw ho ⊢
  · refine ACalls.of_body Tryz.func117 rfl rfl (by simp [Tryz.ntmps117]) ?_
    refine gO (D0_XIm2 []) True.intro True.intro (k := ?_)
    intro id hid
    refine gO (D0_XIm2 []) True.intro (j2 @hw @ho) (k := ?_)
    all_goals (repeat' (with_reducible apply And.intro))
    all_goals first
      | exact AS.le_refl _
      | ((repeat (first | exact AS.le_refl _ | assumption | refine le_new (by simp [*]) ?_)); done)
      | (refine wk_eq ?_; simp_all [skipV]; done)
      | (refine wk_b ?_; rw [Bool.eq_iff_iff]; simp [*]; omega)
      | (refine wk_eq ?_; simp [*]; omega)
      | (refine wk_eq ?_; split <;> simp_all [skipV]; done)
      | (exfalso; omega)
  · cases r
    all_goals
      refine ACalls.of_body Tryz.func117 rfl rfl (by simp [Tryz.ntmps117]) ?_
      refine gO (D0_XIm2 []) True.intro True.intro (k := ?_)
      intro id hid
      refine gO (D0_XIm2 []) True.intro (j2 @hw @ho) (k := ?_)
      all_goals (repeat' (with_reducible apply And.intro))
      all_goals first
        | exact AS.le_refl _
        | ((repeat (first | exact AS.le_refl _ | assumption | refine le_new (by simp [*]) ?_)); done)
        | (refine wk_eq ?_; simp_all [skipV]; done)
        | (refine wk_b ?_; rw [Bool.eq_iff_iff]; simp [*]; omega)
        | (refine wk_eq ?_; simp [*]; omega)
        | (refine wk_eq ?_; split <;> simp_all [skipV]; done)
        | (exfalso; omega)
def clB (c : Cl) (n : Int) : Bool := if c.k = 1 then fldB ⟨c.a, c.b, c.c, c.r⟩ n else noT ⟨c.a, c.b, c.c, c.r⟩
theorem clause_ok (c : Cl) (n : Int) (σ : AS) : ACalls Tryz.prog 124 [clV c, .sc (.int .i64 n)] σ (Gives (.sc (.bool (clB c n))) σ) No := by
  have hf := fun σ => field_ok ⟨c.a, c.b, c.c, c.r⟩ n σ
  unfold clB
  generalize fldB ⟨c.a, c.b, c.c, c.r⟩ n = b at hf ⊢
  obtain ⟨k, tf, tt, hf', ht, fl, a, b', c', r⟩ := c
  simp only [tyV, clV_def, noT] at hf ⊢
  refine ACalls.of_body Tryz.func124 rfl rfl (by simp [Tryz.ntmps124]) ?_
  refine gO (D0_XIm2 []) True.intro True.intro (k := ?_)
  intro id hid
  by_cases h1 : k = 1
  · refine gO (D0_XIm2 []) @h1 @hf (k := ?_)
    all_goals (repeat' (with_reducible apply And.intro))
    all_goals first
      | exact AS.le_refl _
      | ((repeat (first | exact AS.le_refl _ | assumption | refine le_new (by simp [*]) ?_)); done)
      | (refine wk_eq ?_; simp_all [skipV, h1]; done)
      | (refine wk_b ?_; rw [Bool.eq_iff_iff]; simp [*, h1]; omega)
      | (refine wk_eq ?_; simp [*, h1]; omega)
      | (refine wk_eq ?_; split <;> simp_all [skipV]; done)
      | (exfalso; omega)
  · refine gO (D0_XIm2 []) @h1 @hf (k := ?_)
    all_goals (repeat' (with_reducible apply And.intro))
    all_goals first
      | exact AS.le_refl _
      | ((repeat (first | exact AS.le_refl _ | assumption | refine le_new (by simp [*]) ?_)); done)
      | (refine wk_eq ?_; simp_all [skipV, h1]; done)
      | (refine wk_b ?_; rw [Bool.eq_iff_iff]; simp [*, h1]; omega)
      | (refine wk_eq ?_; simp [*, h1]; omega)
      | (refine wk_eq ?_; split <;> simp_all [skipV]; done)
      | (exfalso; omega)
def insB (x : Ins) (nt nf nm n : Int) : Bool :=
  decide (fitsE x = 0) && (if (ofT x.op).2.1 = 5 then decide (x.arg < n) else if (ofT x.op).2.1 = 6 then decide (x.arg < nm) else if (ofT x.op).2.1 = 7 then decide (x.arg < nf) else ownT x.t nt)
theorem instr_ok (x : Ins) (g : Img) (n : Int) (σ : AS) : ACalls Tryz.prog 121 [insV x, imV g, .sc (.int .i64 n)] σ (Gives (.sc (.bool (insB x g.ts.length g.fs.length g.ms.length n))) σ) No := by
  have hf := fun σ => kFits_ok x σ
  have ho := fun σ => Of_ok x.op σ
  have hw := fun σ => own_ok x.t g.ts.length σ
  unfold insB
  generalize ownT x.t g.ts.length = b at hw ⊢
  generalize fitsE x = fe at hf ⊢
  generalize ofE x.op = oe at ho
  obtain ⟨op, arg, k, ix, d, r⟩ := x
  simp only [insV_def, imV_def, infV, tyV] at hf ho hw ⊢
  generalize ofT op = tt at ho ⊢
  obtain ⟨t1, t2, t3⟩ := tt
  simp only at ho ⊢
  refine ACalls.of_body Tryz.func121 rfl rfl (by simp [Tryz.ntmps121]) ?_
  refine gO (D0_XIm2 []) True.intro True.intro (k := ?_)
  intro id hid
  refine gO (D0_XIm2 []) True.intro True.intro (k := ?_)
  intro id2 ne hid2
  have ne' : ¬ id = id2 := fun e => ne e.symm
  by_cases h0 : fe = 0
  · refine gO (D0_XIm2 []) (j3 @ne @ne' @h0) (j3 @hf @ho @hw) (k := ?_)
    intro id3 ne32 ne31 hid3
    have ne13 : ¬ id = id3 := fun e => ne31 e.symm
    have ne23 : ¬ id2 = id3 := fun e => ne32 e.symm
    by_cases h5 : t2 = 5
    · refine gO (D0_XIm2 []) (j7 @ne @ne' @ne13 @ne23 @ne31 @ne32 @h5) (j3 @hf @ho @hw) (k := ?_)
      all_goals (repeat' (with_reducible apply And.intro))
      all_goals first
        | exact AS.le_refl _
        | ((repeat (first | exact AS.le_refl _ | assumption | refine le_new (by simp [*]) ?_)); done)
        | (refine wk_eq ?_; simp_all [skipV, h5, h0]; done)
        | (refine wk_b ?_; rw [Bool.eq_iff_iff]; simp [*, h5, h0]; omega)
        | (refine wk_eq ?_; simp [*, h5, h0]; omega)
        | (refine wk_eq ?_; split <;> simp_all [skipV]; done)
        | (exfalso; omega)
    · by_cases h6 : t2 = 6
      · refine gO (D0_XIm2 []) (j8 @ne @ne' @ne13 @ne23 @ne31 @ne32 @h5 @h6) (j3 @hf @ho @hw) (k := ?_)
        all_goals (repeat' (with_reducible apply And.intro))
        all_goals first
          | exact AS.le_refl _
          | ((repeat (first | exact AS.le_refl _ | assumption | refine le_new (by simp [*]) ?_)); done)
          | (refine wk_eq ?_; simp_all [skipV, h5, h6, h0]; done)
          | (refine wk_b ?_; rw [Bool.eq_iff_iff]; simp [*, h5, h6, h0]; omega)
          | (refine wk_eq ?_; simp [*, h5, h6, h0]; omega)
          | (refine wk_eq ?_; split <;> simp_all [skipV]; done)
          | (exfalso; omega)
      · by_cases h7 : t2 = 7
        · refine gO (D0_XIm2 []) (And.intro (j7 @ne @ne' @ne13 @ne23 @ne31 @ne32 @h5) (j2 @h6 @h7)) (j3 @hf @ho @hw) (k := ?_)
          all_goals (repeat' (with_reducible apply And.intro))
          all_goals first
            | exact AS.le_refl _
            | ((repeat (first | exact AS.le_refl _ | assumption | refine le_new (by simp [*]) ?_)); done)
            | (refine wk_eq ?_; simp_all [skipV, h5, h6, h7, h0]; done)
            | (refine wk_b ?_; rw [Bool.eq_iff_iff]; simp [*, h5, h6, h7, h0]; omega)
            | (refine wk_eq ?_; simp [*, h5, h6, h7, h0]; omega)
            | (refine wk_eq ?_; split <;> simp_all [skipV]; done)
            | (exfalso; omega)
        · refine gO (D0_XIm2 []) (And.intro (j7 @ne @ne' @ne13 @ne23 @ne31 @ne32 @h5) (j2 @h6 @h7)) (j3 @hf @ho @hw) (k := ?_)
          all_goals (repeat' (with_reducible apply And.intro))
          all_goals first
            | exact AS.le_refl _
            | ((repeat (first | exact AS.le_refl _ | assumption | refine le_new (by simp [*]) ?_)); done)
            | (refine wk_eq ?_; simp_all [skipV, h5, h6, h7, h0]; done)
            | (refine wk_b ?_; rw [Bool.eq_iff_iff]; simp [*, h5, h6, h7, h0]; omega)
            | (refine wk_eq ?_; simp [*, h5, h6, h7, h0]; omega)
            | (refine wk_eq ?_; split <;> simp_all [skipV]; done)
            | (exfalso; omega)
  · refine gO (D0_XIm2 []) (j3 @ne @ne' @h0) (j3 @hf @ho @hw) (k := ?_)
    all_goals (repeat' (with_reducible apply And.intro))
    all_goals first
      | exact AS.le_refl _
      | ((repeat (first | exact AS.le_refl _ | assumption | refine le_new (by simp [*]) ?_)); done)
      | (refine wk_eq ?_; simp_all [skipV, h0]; done)
      | (refine wk_b ?_; rw [Bool.eq_iff_iff]; simp [*, h0]; omega)
      | (refine wk_eq ?_; simp [*, h0]; omega)
      | (refine wk_eq ?_; split <;> simp_all [skipV]; done)
      | (exfalso; omega)
end Im
end Go.Proofs.YtknalmoackcpbaaGreat
