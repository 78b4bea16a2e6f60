/- Chapter 10: methods; Formed. -/
import Derived.Test.YtknalmoackcpbaaGreatAwGo
import Derived.Test.YtknalmoackcpbaaGreatIm3
set_option linter.unusedSimpArgs false
set_option linter.unusedVariables false
set_option maxRecDepth 100000
set_option maxHeartbeats 3200000
namespace Go.Proofs.YtknalmoackcpbaaGreat
namespace Im
open Go Go.AW
theorem D0_XIm4 (S : List Nat) : Plans Tryz.prog [] S := mixed
open Rg (Cl clV clV_def clsV checkS aloneS fitsS check_ok)
theorem m1_ok (t : Ty) (n : Int) (id : Nat) (σ : AS) (h : σ id = some (.cells 3 [.sc (.int .i64 n)])) :
    ACalls Tryz.prog 115 [tyV t, .ptr id 0] σ (Gives (.sc (.bool (!locB t n))) σ) No := by
  have hl := fun σ => local_ok t n σ
  generalize locB t n = b at hl ⊢
  obtain ⟨k, x, d, r⟩ := t
  simp only [tyV] at hl ⊢
  refine ACalls.of_body Tryz.func115 rfl rfl (by simp [Tryz.ntmps115]) ?_
  refine gO (D0_XIm4 []) True.intro True.intro (k := ?_)
  intro id2 h_id2
  have n_id_id2 : ¬ id = id2 := by rintro rfl; rw [h] at h_id2; cases h_id2
  have n_id2_id : ¬ id2 = id := fun e => n_id_id2 e.symm
  refine gO (D0_XIm4 []) (j6 @h @n_id_id2 @n_id2_id @n_id2_id @n_id_id2 @h) @hl (k := ?_)
  all_goals (repeat' (with_reducible apply And.intro))
  all_goals first
    | exact AS.le_refl _
    | ((repeat (first | exact AS.le_refl _ | assumption | refine le_new (by simp [*]) ?_)); done)
    | (refine wk_eq ?_; simp_all [skipV]; done)
    | (refine wk_b ?_; rw [Bool.eq_iff_iff]; simp [*]; omega)
    | (refine wk_eq ?_; simp [*]; omega)
    | (refine wk_eq ?_; split <;> simp_all [skipV]; done)
    | (exfalso; omega)
theorem m3_ok (c : Cl) (n : Int) (id : Nat) (σ : AS) (h : σ id = some (.cells 3 [.sc (.int .i64 n)])) :
    ACalls Tryz.prog 123 [clV c, .ptr id 0] σ (Gives (.sc (.bool (!clB c n))) σ) No := by
  have hl := fun σ => clause_ok c n σ
  generalize clB c n = b at hl ⊢
  simp only [clV_def] at hl ⊢
  refine ACalls.of_body Tryz.func123 rfl rfl (by simp [Tryz.ntmps123]) ?_
  refine gO (D0_XIm4 []) True.intro True.intro (k := ?_)
  intro id2 h_id2
  have n_id_id2 : ¬ id = id2 := by rintro rfl; rw [h] at h_id2; cases h_id2
  have n_id2_id : ¬ id2 = id := fun e => n_id_id2 e.symm
  refine gO (D0_XIm4 []) (j6 @h @n_id_id2 @n_id2_id @n_id2_id @n_id_id2 @h) @hl (k := ?_)
  all_goals (repeat' (with_reducible apply And.intro))
  all_goals first
    | exact AS.le_refl _
    | ((repeat (first | exact AS.le_refl _ | assumption | refine le_new (by simp [*]) ?_)); done)
    | (refine wk_eq ?_; simp_all [skipV]; done)
    | (refine wk_b ?_; rw [Bool.eq_iff_iff]; simp [*]; omega)
    | (refine wk_eq ?_; simp [*]; omega)
    | (refine wk_eq ?_; split <;> simp_all [skipV]; done)
    | (exfalso; omega)
theorem m2_ok (x : Ins) (m : Mt) (g : Img) (idg idm : Nat) (σ : AS) (hg : σ idg = some (.cells 26 (imV g).cells)) (hm : σ idm = some (.cells 53 (mtV m).cells)) :
    ACalls Tryz.prog 120 [insV x, .ptr idg 0, .ptr idm 0] σ (Gives (.sc (.bool (!insB x g.ts.length g.fs.length g.ms.length m.code.length))) σ) No := by
  have hl := fun σ => instr_ok x g m.code.length σ
  generalize insB x g.ts.length g.fs.length g.ms.length m.code.length = b at hl ⊢
  simp only [insV_def, imV_def, mtV_def, cells_agg] at hl hg hm ⊢
  refine ACalls.of_body Tryz.func120 rfl rfl (by simp [Tryz.ntmps120]) ?_
  refine gO (D0_XIm4 []) True.intro True.intro (k := ?_)
  intro id2 h_id2
  have n_idg_id2 : ¬ idg = id2 := by rintro rfl; rw [hg] at h_id2; cases h_id2
  have n_id2_idg : ¬ id2 = idg := fun e => n_idg_id2 e.symm
  have n_idm_id2 : ¬ idm = id2 := by rintro rfl; rw [hm] at h_id2; cases h_id2
  have n_id2_idm : ¬ id2 = idm := fun e => n_idm_id2 e.symm
  refine gO (D0_XIm4 []) (And.intro (j7 @hg @hm @n_idg_id2 @n_id2_idg @n_idm_id2 @n_id2_idm @n_id2_idg) (j5 @n_idg_id2 @hg @n_id2_idm @n_idm_id2 @hm)) @hl (k := ?_)
  all_goals (repeat' (with_reducible apply And.intro))
  all_goals first
    | exact AS.le_refl _
    | ((repeat (first | exact AS.le_refl _ | assumption | refine le_new (by simp [*]) ?_)); done)
    | (refine wk_eq ?_; simp_all [skipV]; done)
    | (refine wk_b ?_; rw [Bool.eq_iff_iff]; simp [*]; omega)
    | (refine wk_eq ?_; simp [*]; omega)
    | (refine wk_eq ?_; split <;> simp_all [skipV]; done)
    | (exfalso; omega)
def mtB (m : Mt) (nt nf nm : Int) : Bool :=
  fineB m.name && (decide (0 ≤ m.flags ∧ m.flags ≤ 31 ∧ 0 ≤ m.max ∧ m.max ≤ 12 ∧ m.ps.length ≤ 6 ∧ m.ls.length ≤ 12 ∧ m.code.length ≤ 160) && (ansB m.ret nt && (m.ps.all (fun t => locB t nt) && (m.ls.all (fun t => locB t nt) &&
    (m.code.all (fun x => insB x nt nf nm m.code.length) && (m.cls.all (fun c => clB c nt) && decide ((checkS (aloneS m.code.length) fitsS m.cls).2 = 0)))))))
structure MtL (m : Mt) : Prop where
  name : m.name.length ≤ 140737488355328
  ps : m.ps.length ≤ 140737488355328
  ls : m.ls.length ≤ 140737488355328
  code : m.code.length ≤ 140737488355328
  cls : m.cls.length ≤ 140737488355328
theorem method_ok (m : Mt) (g : Img) (hL : MtL m) (σ : AS) : ACalls Tryz.prog 54 [mtV m, imV g] σ (Gives (.sc (.bool (mtB m g.ts.length g.fs.length g.ms.length))) σ) No := by
  have hF := fun σ => fine_ok m.name hL.name σ
  have hA := fun σ => answer_ok m.ret g.ts.length σ
  have hP := fun σ id (h : σ id = some (.cells 3 [.sc (.int .i64 g.ts.length)])) => Sg.contains_ok m.ps .unk m.pn (.fn (.func 115) [] [.ptr id 0]) (fun t => !locB t g.ts.length) σ hL.ps
    (fun x hx => FnG.fn (m1_ok x g.ts.length id σ h))
  have hQ := fun σ id (h : σ id = some (.cells 3 [.sc (.int .i64 g.ts.length)])) => Sg.contains_ok m.ls .unk m.ln (.fn (.func 115) [] [.ptr id 0]) (fun t => !locB t g.ts.length) σ hL.ls
    (fun x hx => FnG.fn (m1_ok x g.ts.length id σ h))
  have hI := fun σ idg idm (hg : σ idg = some (.cells 26 (imV g).cells)) (hm : σ idm = some (.cells 53 (mtV m).cells)) => isHas_ok m.code .unk m.cn (.fn (.func 120) [] [.ptr idg 0, .ptr idm 0])
    (fun x => !insB x g.ts.length g.fs.length g.ms.length m.code.length) σ hL.code (fun x hx => FnG.fn (m2_ok x m g idg idm σ hg hm))
  have hC := fun σ id (h : σ id = some (.cells 3 [.sc (.int .i64 g.ts.length)])) => clHas_ok m.cls .unk m.xn (.fn (.func 123) [] [.ptr id 0]) (fun t => !clB t g.ts.length) σ hL.cls
    (fun x hx => FnG.fn (m3_ok x g.ts.length id σ h))
  have hK := fun σ => check_ok m.code.length m.cls .unk m.xn hL.cls σ
  simp only [any_not_all, clsV] at hP hQ hI hC hK
  unfold mtB
  generalize fineB m.name = fb at hF ⊢
  generalize ansB m.ret g.ts.length = ab at hA ⊢
  generalize (m.ps.all fun t => locB t g.ts.length) = pb at hP ⊢
  generalize (m.ls.all fun t => locB t g.ts.length) = qb at hQ ⊢
  generalize (m.code.all fun x => insB x g.ts.length g.fs.length g.ms.length m.code.length) = ib at hI ⊢
  generalize (m.cls.all fun c => clB c g.ts.length) = cb at hC ⊢
  generalize checkS (aloneS m.code.length) fitsS m.cls = ck at hK ⊢
  obtain ⟨c1, c2⟩ := ck
  simp only [mtV_def, imV_def, tyV, cells_agg] at hF hA hP hQ hI hC hK ⊢
  refine ACalls.of_body Tryz.func54 rfl rfl (by simp [Tryz.ntmps54]) ?_
  refine gO (D0_XIm4 []) True.intro True.intro (k := ?_)
  intro id h_id
  refine gO (D0_XIm4 []) True.intro True.intro (k := ?_)
  intro id2 n_id2_id h_id2
  have n_id_id2 : ¬ id = id2 := fun e => n_id2_id e.symm
  refine gO (D0_XIm4 []) (j4 @n_id_id2 @n_id2_id @n_id2_id @n_id_id2) True.intro (k := ?_)
  intro id3 n_id3_id2 n_id3_id h_id3
  have n_id2_id3 : ¬ id2 = id3 := fun e => n_id3_id2 e.symm
  have n_id_id3 : ¬ id = id3 := fun e => n_id3_id e.symm
  cases fb
  · repeat (first
      | (with_reducible first | apply AWp.seq | apply AWp.block | refine And.intro (by first | omega | assumption | decide) ?_)
      | ((first | (with_reducible first | apply AWp.fork | apply AWp.region | show condK _ _ _ | show guardK _ _ _ _ _ _ _ _ _) | ((with_reducible apply aCall.id); first | apply aCall.gives (hF _) | apply aCall.gives (hA _) | apply aCall.gives (hP _ id3 (by simp [n_id_id2, n_id2_id, n_id_id3, n_id3_id, n_id2_id3, n_id3_id2])) | apply aCall.gives (hQ _ id3 (by simp [n_id_id2, n_id2_id, n_id_id3, n_id3_id, n_id2_id3, n_id3_id2])) | apply aCall.gives (hI _ id2 id (by simp [n_id_id2, n_id2_id, n_id_id3, n_id3_id, n_id2_id3, n_id3_id2]) (by simp [n_id_id2, n_id2_id, n_id_id3, n_id3_id, n_id2_id3, n_id3_id2])) | apply aCall.gives (hC _ id3 (by simp [n_id_id2, n_id2_id, n_id_id3, n_id3_id, n_id2_id3, n_id3_id2])) | apply aCall.gives (hK _))); simp -implicitDefEqProofs [n_id_id2, n_id2_id, n_id_id3, n_id3_id, n_id2_id3, n_id3_id2, n_id2_id, n_id_id2, n_id3_id2, n_id2_id3, n_id3_id, n_id_id3])
      | ((with_reducible first | apply AWp.ret | apply AWp.skip | apply AWp.exit); try simp -implicitDefEqProofs [n_id_id2, n_id2_id, n_id_id3, n_id3_id, n_id2_id3, n_id3_id2, n_id2_id, n_id_id2, n_id3_id2, n_id2_id3, n_id3_id, n_id_id3]))
    all_goals (repeat' (with_reducible apply And.intro))
    all_goals first
      | exact AS.le_refl _
      | ((repeat (first | exact AS.le_refl _ | assumption | refine le_new (by simp [*]) ?_)); done)
      | (refine wk_eq ?_; simp_all [skipV]; done)
      | (refine wk_b ?_; rw [Bool.eq_iff_iff]; simp [*]; omega)
      | (refine wk_eq ?_; simp [*]; omega)
      | (refine wk_eq ?_; split <;> simp_all [skipV]; done)
      | (exfalso; omega)
  · by_cases h1 : m.flags < 0
    · repeat (first
        | (with_reducible first | apply AWp.seq | apply AWp.block | refine And.intro (by first | omega | assumption | decide) ?_)
        | ((first | (with_reducible first | apply AWp.fork | apply AWp.region | show condK _ _ _ | show guardK _ _ _ _ _ _ _ _ _) | ((with_reducible apply aCall.id); first | apply aCall.gives (hF _) | apply aCall.gives (hA _) | apply aCall.gives (hP _ id3 (by simp [n_id_id2, n_id2_id, n_id_id3, n_id3_id, n_id2_id3, n_id3_id2])) | apply aCall.gives (hQ _ id3 (by simp [n_id_id2, n_id2_id, n_id_id3, n_id3_id, n_id2_id3, n_id3_id2])) | apply aCall.gives (hI _ id2 id (by simp [n_id_id2, n_id2_id, n_id_id3, n_id3_id, n_id2_id3, n_id3_id2]) (by simp [n_id_id2, n_id2_id, n_id_id3, n_id3_id, n_id2_id3, n_id3_id2])) | apply aCall.gives (hC _ id3 (by simp [n_id_id2, n_id2_id, n_id_id3, n_id3_id, n_id2_id3, n_id3_id2])) | apply aCall.gives (hK _))); simp -implicitDefEqProofs [n_id_id2, n_id2_id, n_id_id3, n_id3_id, n_id2_id3, n_id3_id2, h1, n_id2_id, n_id_id2, n_id3_id2, n_id2_id3, n_id3_id, n_id_id3])
        | ((with_reducible first | apply AWp.ret | apply AWp.skip | apply AWp.exit); try simp -implicitDefEqProofs [n_id_id2, n_id2_id, n_id_id3, n_id3_id, n_id2_id3, n_id3_id2, h1, n_id2_id, n_id_id2, n_id3_id2, n_id2_id3, n_id3_id, n_id_id3]))
      all_goals (repeat' (with_reducible apply And.intro))
      all_goals first
        | exact AS.le_refl _
        | ((repeat (first | exact AS.le_refl _ | assumption | refine le_new (by simp [*]) ?_)); done)
        | (refine wk_eq ?_; simp_all [skipV, h1]; done)
        | (refine wk_b ?_; rw [Bool.eq_iff_iff]; simp [*, h1]; omega)
        | (refine wk_eq ?_; simp [*, h1]; omega)
        | (refine wk_eq ?_; split <;> simp_all [skipV]; done)
        | (exfalso; omega)
    · by_cases h2 : 31 < m.flags
      · repeat (first
          | (with_reducible first | apply AWp.seq | apply AWp.block | refine And.intro (by first | omega | assumption | decide) ?_)
          | ((first | (with_reducible first | apply AWp.fork | apply AWp.region | show condK _ _ _ | show guardK _ _ _ _ _ _ _ _ _) | ((with_reducible apply aCall.id); first | apply aCall.gives (hF _) | apply aCall.gives (hA _) | apply aCall.gives (hP _ id3 (by simp [n_id_id2, n_id2_id, n_id_id3, n_id3_id, n_id2_id3, n_id3_id2])) | apply aCall.gives (hQ _ id3 (by simp [n_id_id2, n_id2_id, n_id_id3, n_id3_id, n_id2_id3, n_id3_id2])) | apply aCall.gives (hI _ id2 id (by simp [n_id_id2, n_id2_id, n_id_id3, n_id3_id, n_id2_id3, n_id3_id2]) (by simp [n_id_id2, n_id2_id, n_id_id3, n_id3_id, n_id2_id3, n_id3_id2])) | apply aCall.gives (hC _ id3 (by simp [n_id_id2, n_id2_id, n_id_id3, n_id3_id, n_id2_id3, n_id3_id2])) | apply aCall.gives (hK _))); simp -implicitDefEqProofs [n_id_id2, n_id2_id, n_id_id3, n_id3_id, n_id2_id3, n_id3_id2, h1, h2, n_id2_id, n_id_id2, n_id3_id2, n_id2_id3, n_id3_id, n_id_id3])
          | ((with_reducible first | apply AWp.ret | apply AWp.skip | apply AWp.exit); try simp -implicitDefEqProofs [n_id_id2, n_id2_id, n_id_id3, n_id3_id, n_id2_id3, n_id3_id2, h1, h2, n_id2_id, n_id_id2, n_id3_id2, n_id2_id3, n_id3_id, n_id_id3]))
        all_goals (repeat' (with_reducible apply And.intro))
        all_goals first
          | exact AS.le_refl _
          | ((repeat (first | exact AS.le_refl _ | assumption | refine le_new (by simp [*]) ?_)); done)
          | (refine wk_eq ?_; simp_all [skipV, h1, h2]; done)
          | (refine wk_b ?_; rw [Bool.eq_iff_iff]; simp [*, h1, h2]; omega)
          | (refine wk_eq ?_; simp [*, h1, h2]; omega)
          | (refine wk_eq ?_; split <;> simp_all [skipV]; done)
          | (exfalso; omega)
      · by_cases h3 : m.max < 0
        · repeat (first
            | (with_reducible first | apply AWp.seq | apply AWp.block | refine And.intro (by first | omega | assumption | decide) ?_)
            | ((first | (with_reducible first | apply AWp.fork | apply AWp.region | show condK _ _ _ | show guardK _ _ _ _ _ _ _ _ _) | ((with_reducible apply aCall.id); first | apply aCall.gives (hF _) | apply aCall.gives (hA _) | apply aCall.gives (hP _ id3 (by simp [n_id_id2, n_id2_id, n_id_id3, n_id3_id, n_id2_id3, n_id3_id2])) | apply aCall.gives (hQ _ id3 (by simp [n_id_id2, n_id2_id, n_id_id3, n_id3_id, n_id2_id3, n_id3_id2])) | apply aCall.gives (hI _ id2 id (by simp [n_id_id2, n_id2_id, n_id_id3, n_id3_id, n_id2_id3, n_id3_id2]) (by simp [n_id_id2, n_id2_id, n_id_id3, n_id3_id, n_id2_id3, n_id3_id2])) | apply aCall.gives (hC _ id3 (by simp [n_id_id2, n_id2_id, n_id_id3, n_id3_id, n_id2_id3, n_id3_id2])) | apply aCall.gives (hK _))); simp -implicitDefEqProofs [n_id_id2, n_id2_id, n_id_id3, n_id3_id, n_id2_id3, n_id3_id2, h1, h2, h3, n_id2_id, n_id_id2, n_id3_id2, n_id2_id3, n_id3_id, n_id_id3])
            | ((with_reducible first | apply AWp.ret | apply AWp.skip | apply AWp.exit); try simp -implicitDefEqProofs [n_id_id2, n_id2_id, n_id_id3, n_id3_id, n_id2_id3, n_id3_id2, h1, h2, h3, n_id2_id, n_id_id2, n_id3_id2, n_id2_id3, n_id3_id, n_id_id3]))
          all_goals (repeat' (with_reducible apply And.intro))
          all_goals first
            | exact AS.le_refl _
            | ((repeat (first | exact AS.le_refl _ | assumption | refine le_new (by simp [*]) ?_)); done)
            | (refine wk_eq ?_; simp_all [skipV, h1, h2, h3]; done)
            | (refine wk_b ?_; rw [Bool.eq_iff_iff]; simp [*, h1, h2, h3]; omega)
            | (refine wk_eq ?_; simp [*, h1, h2, h3]; omega)
            | (refine wk_eq ?_; split <;> simp_all [skipV]; done)
            | (exfalso; omega)
        · by_cases h4 : 12 < m.max
          · repeat (first
              | (with_reducible first | apply AWp.seq | apply AWp.block | refine And.intro (by first | omega | assumption | decide) ?_)
              | ((first | (with_reducible first | apply AWp.fork | apply AWp.region | show condK _ _ _ | show guardK _ _ _ _ _ _ _ _ _) | ((with_reducible apply aCall.id); first | apply aCall.gives (hF _) | apply aCall.gives (hA _) | apply aCall.gives (hP _ id3 (by simp [n_id_id2, n_id2_id, n_id_id3, n_id3_id, n_id2_id3, n_id3_id2])) | apply aCall.gives (hQ _ id3 (by simp [n_id_id2, n_id2_id, n_id_id3, n_id3_id, n_id2_id3, n_id3_id2])) | apply aCall.gives (hI _ id2 id (by simp [n_id_id2, n_id2_id, n_id_id3, n_id3_id, n_id2_id3, n_id3_id2]) (by simp [n_id_id2, n_id2_id, n_id_id3, n_id3_id, n_id2_id3, n_id3_id2])) | apply aCall.gives (hC _ id3 (by simp [n_id_id2, n_id2_id, n_id_id3, n_id3_id, n_id2_id3, n_id3_id2])) | apply aCall.gives (hK _))); simp -implicitDefEqProofs [n_id_id2, n_id2_id, n_id_id3, n_id3_id, n_id2_id3, n_id3_id2, h1, h2, h3, h4, n_id2_id, n_id_id2, n_id3_id2, n_id2_id3, n_id3_id, n_id_id3])
              | ((with_reducible first | apply AWp.ret | apply AWp.skip | apply AWp.exit); try simp -implicitDefEqProofs [n_id_id2, n_id2_id, n_id_id3, n_id3_id, n_id2_id3, n_id3_id2, h1, h2, h3, h4, n_id2_id, n_id_id2, n_id3_id2, n_id2_id3, n_id3_id, n_id_id3]))
            all_goals (repeat' (with_reducible apply And.intro))
            all_goals first
              | exact AS.le_refl _
              | ((repeat (first | exact AS.le_refl _ | assumption | refine le_new (by simp [*]) ?_)); done)
              | (refine wk_eq ?_; simp_all [skipV, h1, h2, h3, h4]; done)
              | (refine wk_b ?_; rw [Bool.eq_iff_iff]; simp [*, h1, h2, h3, h4]; omega)
              | (refine wk_eq ?_; simp [*, h1, h2, h3, h4]; omega)
              | (refine wk_eq ?_; split <;> simp_all [skipV]; done)
              | (exfalso; omega)
          · by_cases h5 : m.ps.length ≤ 6
            · have h5' : (6 < (m.ps.length : Int)) = False := by simp; omega
              by_cases h6 : m.ls.length ≤ 12
              · have h6' : (12 < (m.ls.length : Int)) = False := by simp; omega
                cases ab
                · repeat (first
                    | (with_reducible first | apply AWp.seq | apply AWp.block | refine And.intro (by first | omega | assumption | decide) ?_)
                    | ((first | (with_reducible first | apply AWp.fork | apply AWp.region | show condK _ _ _ | show guardK _ _ _ _ _ _ _ _ _) | ((with_reducible apply aCall.id); first | apply aCall.gives (hF _) | apply aCall.gives (hA _) | apply aCall.gives (hP _ id3 (by simp [n_id_id2, n_id2_id, n_id_id3, n_id3_id, n_id2_id3, n_id3_id2])) | apply aCall.gives (hQ _ id3 (by simp [n_id_id2, n_id2_id, n_id_id3, n_id3_id, n_id2_id3, n_id3_id2])) | apply aCall.gives (hI _ id2 id (by simp [n_id_id2, n_id2_id, n_id_id3, n_id3_id, n_id2_id3, n_id3_id2]) (by simp [n_id_id2, n_id2_id, n_id_id3, n_id3_id, n_id2_id3, n_id3_id2])) | apply aCall.gives (hC _ id3 (by simp [n_id_id2, n_id2_id, n_id_id3, n_id3_id, n_id2_id3, n_id3_id2])) | apply aCall.gives (hK _))); simp -implicitDefEqProofs [n_id_id2, n_id2_id, n_id_id3, n_id3_id, n_id2_id3, n_id3_id2, h1, h2, h3, h4, h5', h6', n_id2_id, n_id_id2, n_id3_id2, n_id2_id3, n_id3_id, n_id_id3])
                    | ((with_reducible first | apply AWp.ret | apply AWp.skip | apply AWp.exit); try simp -implicitDefEqProofs [n_id_id2, n_id2_id, n_id_id3, n_id3_id, n_id2_id3, n_id3_id2, h1, h2, h3, h4, h5', h6', n_id2_id, n_id_id2, n_id3_id2, n_id2_id3, n_id3_id, n_id_id3]))
                  all_goals (repeat' (with_reducible apply And.intro))
                  all_goals first
                    | exact AS.le_refl _
                    | ((repeat (first | exact AS.le_refl _ | assumption | refine le_new (by simp [*]) ?_)); done)
                    | (refine wk_eq ?_; simp_all [skipV, h1, h2, h3, h4, h5, h6]; done)
                    | (refine wk_b ?_; rw [Bool.eq_iff_iff]; simp [*, h1, h2, h3, h4, h5, h6]; omega)
                    | (refine wk_eq ?_; simp [*, h1, h2, h3, h4, h5, h6]; omega)
                    | (refine wk_eq ?_; split <;> simp_all [skipV]; done)
                    | (exfalso; omega)
                · cases pb
                  · repeat (first
                      | (with_reducible first | apply AWp.seq | apply AWp.block | refine And.intro (by first | omega | assumption | decide) ?_)
                      | ((first | (with_reducible first | apply AWp.fork | apply AWp.region | show condK _ _ _ | show guardK _ _ _ _ _ _ _ _ _) | ((with_reducible apply aCall.id); first | apply aCall.gives (hF _) | apply aCall.gives (hA _) | apply aCall.gives (hP _ id3 (by simp [n_id_id2, n_id2_id, n_id_id3, n_id3_id, n_id2_id3, n_id3_id2])) | apply aCall.gives (hQ _ id3 (by simp [n_id_id2, n_id2_id, n_id_id3, n_id3_id, n_id2_id3, n_id3_id2])) | apply aCall.gives (hI _ id2 id (by simp [n_id_id2, n_id2_id, n_id_id3, n_id3_id, n_id2_id3, n_id3_id2]) (by simp [n_id_id2, n_id2_id, n_id_id3, n_id3_id, n_id2_id3, n_id3_id2])) | apply aCall.gives (hC _ id3 (by simp [n_id_id2, n_id2_id, n_id_id3, n_id3_id, n_id2_id3, n_id3_id2])) | apply aCall.gives (hK _))); simp -implicitDefEqProofs [n_id_id2, n_id2_id, n_id_id3, n_id3_id, n_id2_id3, n_id3_id2, h1, h2, h3, h4, h5', h6', n_id2_id, n_id_id2, n_id3_id2, n_id2_id3, n_id3_id, n_id_id3])
                      | ((with_reducible first | apply AWp.ret | apply AWp.skip | apply AWp.exit); try simp -implicitDefEqProofs [n_id_id2, n_id2_id, n_id_id3, n_id3_id, n_id2_id3, n_id3_id2, h1, h2, h3, h4, h5', h6', n_id2_id, n_id_id2, n_id3_id2, n_id2_id3, n_id3_id, n_id_id3]))
                    all_goals (repeat' (with_reducible apply And.intro))
                    all_goals first
                      | exact AS.le_refl _
                      | ((repeat (first | exact AS.le_refl _ | assumption | refine le_new (by simp [*]) ?_)); done)
                      | (refine wk_eq ?_; simp_all [skipV, h1, h2, h3, h4, h5, h6]; done)
                      | (refine wk_b ?_; rw [Bool.eq_iff_iff]; simp [*, h1, h2, h3, h4, h5, h6]; omega)
                      | (refine wk_eq ?_; simp [*, h1, h2, h3, h4, h5, h6]; omega)
                      | (refine wk_eq ?_; split <;> simp_all [skipV]; done)
                      | (exfalso; omega)
                  · cases qb
                    · repeat (first
                        | (with_reducible first | apply AWp.seq | apply AWp.block | refine And.intro (by first | omega | assumption | decide) ?_)
                        | ((first | (with_reducible first | apply AWp.fork | apply AWp.region | show condK _ _ _ | show guardK _ _ _ _ _ _ _ _ _) | ((with_reducible apply aCall.id); first | apply aCall.gives (hF _) | apply aCall.gives (hA _) | apply aCall.gives (hP _ id3 (by simp [n_id_id2, n_id2_id, n_id_id3, n_id3_id, n_id2_id3, n_id3_id2])) | apply aCall.gives (hQ _ id3 (by simp [n_id_id2, n_id2_id, n_id_id3, n_id3_id, n_id2_id3, n_id3_id2])) | apply aCall.gives (hI _ id2 id (by simp [n_id_id2, n_id2_id, n_id_id3, n_id3_id, n_id2_id3, n_id3_id2]) (by simp [n_id_id2, n_id2_id, n_id_id3, n_id3_id, n_id2_id3, n_id3_id2])) | apply aCall.gives (hC _ id3 (by simp [n_id_id2, n_id2_id, n_id_id3, n_id3_id, n_id2_id3, n_id3_id2])) | apply aCall.gives (hK _))); simp -implicitDefEqProofs [n_id_id2, n_id2_id, n_id_id3, n_id3_id, n_id2_id3, n_id3_id2, h1, h2, h3, h4, h5', h6', n_id2_id, n_id_id2, n_id3_id2, n_id2_id3, n_id3_id, n_id_id3])
                        | ((with_reducible first | apply AWp.ret | apply AWp.skip | apply AWp.exit); try simp -implicitDefEqProofs [n_id_id2, n_id2_id, n_id_id3, n_id3_id, n_id2_id3, n_id3_id2, h1, h2, h3, h4, h5', h6', n_id2_id, n_id_id2, n_id3_id2, n_id2_id3, n_id3_id, n_id_id3]))
                      all_goals (repeat' (with_reducible apply And.intro))
                      all_goals first
                        | exact AS.le_refl _
                        | ((repeat (first | exact AS.le_refl _ | assumption | refine le_new (by simp [*]) ?_)); done)
                        | (refine wk_eq ?_; simp_all [skipV, h1, h2, h3, h4, h5, h6]; done)
                        | (refine wk_b ?_; rw [Bool.eq_iff_iff]; simp [*, h1, h2, h3, h4, h5, h6]; omega)
                        | (refine wk_eq ?_; simp [*, h1, h2, h3, h4, h5, h6]; omega)
                        | (refine wk_eq ?_; split <;> simp_all [skipV]; done)
                        | (exfalso; omega)
                    · by_cases h7 : m.code.length ≤ 160
                      · have h7' : (160 < (m.code.length : Int)) = False := by simp; omega
                        cases ib
                        · repeat (first
                            | (with_reducible first | apply AWp.seq | apply AWp.block | refine And.intro (by first | omega | assumption | decide) ?_)
                            | ((first | (with_reducible first | apply AWp.fork | apply AWp.region | show condK _ _ _ | show guardK _ _ _ _ _ _ _ _ _) | ((with_reducible apply aCall.id); first | apply aCall.gives (hF _) | apply aCall.gives (hA _) | apply aCall.gives (hP _ id3 (by simp [n_id_id2, n_id2_id, n_id_id3, n_id3_id, n_id2_id3, n_id3_id2])) | apply aCall.gives (hQ _ id3 (by simp [n_id_id2, n_id2_id, n_id_id3, n_id3_id, n_id2_id3, n_id3_id2])) | apply aCall.gives (hI _ id2 id (by simp [n_id_id2, n_id2_id, n_id_id3, n_id3_id, n_id2_id3, n_id3_id2]) (by simp [n_id_id2, n_id2_id, n_id_id3, n_id3_id, n_id2_id3, n_id3_id2])) | apply aCall.gives (hC _ id3 (by simp [n_id_id2, n_id2_id, n_id_id3, n_id3_id, n_id2_id3, n_id3_id2])) | apply aCall.gives (hK _))); simp -implicitDefEqProofs [n_id_id2, n_id2_id, n_id_id3, n_id3_id, n_id2_id3, n_id3_id2, h1, h2, h3, h4, h5', h6', h7', n_id2_id, n_id_id2, n_id3_id2, n_id2_id3, n_id3_id, n_id_id3])
                            | ((with_reducible first | apply AWp.ret | apply AWp.skip | apply AWp.exit); try simp -implicitDefEqProofs [n_id_id2, n_id2_id, n_id_id3, n_id3_id, n_id2_id3, n_id3_id2, h1, h2, h3, h4, h5', h6', h7', n_id2_id, n_id_id2, n_id3_id2, n_id2_id3, n_id3_id, n_id_id3]))
                          all_goals (repeat' (with_reducible apply And.intro))
                          all_goals first
                            | exact AS.le_refl _
                            | ((repeat (first | exact AS.le_refl _ | assumption | refine le_new (by simp [*]) ?_)); done)
                            | (refine wk_eq ?_; simp_all [skipV, h1, h2, h3, h4, h5, h6, h7]; done)
                            | (refine wk_b ?_; rw [Bool.eq_iff_iff]; simp [*, h1, h2, h3, h4, h5, h6, h7]; omega)
                            | (refine wk_eq ?_; simp [*, h1, h2, h3, h4, h5, h6, h7]; omega)
                            | (refine wk_eq ?_; split <;> simp_all [skipV]; done)
                            | (exfalso; omega)
                        · cases cb
                          · repeat (first
                              | (with_reducible first | apply AWp.seq | apply AWp.block | refine And.intro (by first | omega | assumption | decide) ?_)
                              | ((first | (with_reducible first | apply AWp.fork | apply AWp.region | show condK _ _ _ | show guardK _ _ _ _ _ _ _ _ _) | ((with_reducible apply aCall.id); first | apply aCall.gives (hF _) | apply aCall.gives (hA _) | apply aCall.gives (hP _ id3 (by simp [n_id_id2, n_id2_id, n_id_id3, n_id3_id, n_id2_id3, n_id3_id2])) | apply aCall.gives (hQ _ id3 (by simp [n_id_id2, n_id2_id, n_id_id3, n_id3_id, n_id2_id3, n_id3_id2])) | apply aCall.gives (hI _ id2 id (by simp [n_id_id2, n_id2_id, n_id_id3, n_id3_id, n_id2_id3, n_id3_id2]) (by simp [n_id_id2, n_id2_id, n_id_id3, n_id3_id, n_id2_id3, n_id3_id2])) | apply aCall.gives (hC _ id3 (by simp [n_id_id2, n_id2_id, n_id_id3, n_id3_id, n_id2_id3, n_id3_id2])) | apply aCall.gives (hK _))); simp -implicitDefEqProofs [n_id_id2, n_id2_id, n_id_id3, n_id3_id, n_id2_id3, n_id3_id2, h1, h2, h3, h4, h5', h6', h7', n_id2_id, n_id_id2, n_id3_id2, n_id2_id3, n_id3_id, n_id_id3])
                              | ((with_reducible first | apply AWp.ret | apply AWp.skip | apply AWp.exit); try simp -implicitDefEqProofs [n_id_id2, n_id2_id, n_id_id3, n_id3_id, n_id2_id3, n_id3_id2, h1, h2, h3, h4, h5', h6', h7', n_id2_id, n_id_id2, n_id3_id2, n_id2_id3, n_id3_id, n_id_id3]))
                            all_goals (repeat' (with_reducible apply And.intro))
                            all_goals first
                              | exact AS.le_refl _
                              | ((repeat (first | exact AS.le_refl _ | assumption | refine le_new (by simp [*]) ?_)); done)
                              | (refine wk_eq ?_; simp_all [skipV, h1, h2, h3, h4, h5, h6, h7]; done)
                              | (refine wk_b ?_; rw [Bool.eq_iff_iff]; simp [*, h1, h2, h3, h4, h5, h6, h7]; omega)
                              | (refine wk_eq ?_; simp [*, h1, h2, h3, h4, h5, h6, h7]; omega)
                              | (refine wk_eq ?_; split <;> simp_all [skipV]; done)
                              | (exfalso; omega)
                          · repeat (first
                              | (with_reducible first | apply AWp.seq | apply AWp.block | refine And.intro (by first | omega | assumption | decide) ?_)
                              | ((first | (with_reducible first | apply AWp.fork | apply AWp.region | show condK _ _ _ | show guardK _ _ _ _ _ _ _ _ _) | ((with_reducible apply aCall.id); first | apply aCall.gives (hF _) | apply aCall.gives (hA _) | apply aCall.gives (hP _ id3 (by simp [n_id_id2, n_id2_id, n_id_id3, n_id3_id, n_id2_id3, n_id3_id2])) | apply aCall.gives (hQ _ id3 (by simp [n_id_id2, n_id2_id, n_id_id3, n_id3_id, n_id2_id3, n_id3_id2])) | apply aCall.gives (hI _ id2 id (by simp [n_id_id2, n_id2_id, n_id_id3, n_id3_id, n_id2_id3, n_id3_id2]) (by simp [n_id_id2, n_id2_id, n_id_id3, n_id3_id, n_id2_id3, n_id3_id2])) | apply aCall.gives (hC _ id3 (by simp [n_id_id2, n_id2_id, n_id_id3, n_id3_id, n_id2_id3, n_id3_id2])) | apply aCall.gives (hK _))); simp -implicitDefEqProofs [n_id_id2, n_id2_id, n_id_id3, n_id3_id, n_id2_id3, n_id3_id2, h1, h2, h3, h4, h5', h6', h7', n_id2_id, n_id_id2, n_id3_id2, n_id2_id3, n_id3_id, n_id_id3])
                              | ((with_reducible first | apply AWp.ret | apply AWp.skip | apply AWp.exit); try simp -implicitDefEqProofs [n_id_id2, n_id2_id, n_id_id3, n_id3_id, n_id2_id3, n_id3_id2, h1, h2, h3, h4, h5', h6', h7', n_id2_id, n_id_id2, n_id3_id2, n_id2_id3, n_id3_id, n_id_id3]))
                            all_goals (repeat' (with_reducible apply And.intro))
                            all_goals first
                              | exact AS.le_refl _
                              | ((repeat (first | exact AS.le_refl _ | assumption | refine le_new (by simp [*]) ?_)); done)
                              | (refine wk_eq ?_; simp_all [skipV, h1, h2, h3, h4, h5, h6, h7]; done)
                              | (refine wk_b ?_; rw [Bool.eq_iff_iff]; simp [*, h1, h2, h3, h4, h5, h6, h7]; omega)
                              | (refine wk_eq ?_; simp [*, h1, h2, h3, h4, h5, h6, h7]; omega)
                              | (refine wk_eq ?_; split <;> simp_all [skipV]; done)
                              | (exfalso; omega)
                      · have h7' : (160 < (m.code.length : Int)) = True := by simp; omega
                        repeat (first
                          | (with_reducible first | apply AWp.seq | apply AWp.block | refine And.intro (by first | omega | assumption | decide) ?_)
                          | ((first | (with_reducible first | apply AWp.fork | apply AWp.region | show condK _ _ _ | show guardK _ _ _ _ _ _ _ _ _) | ((with_reducible apply aCall.id); first | apply aCall.gives (hF _) | apply aCall.gives (hA _) | apply aCall.gives (hP _ id3 (by simp [n_id_id2, n_id2_id, n_id_id3, n_id3_id, n_id2_id3, n_id3_id2])) | apply aCall.gives (hQ _ id3 (by simp [n_id_id2, n_id2_id, n_id_id3, n_id3_id, n_id2_id3, n_id3_id2])) | apply aCall.gives (hI _ id2 id (by simp [n_id_id2, n_id2_id, n_id_id3, n_id3_id, n_id2_id3, n_id3_id2]) (by simp [n_id_id2, n_id2_id, n_id_id3, n_id3_id, n_id2_id3, n_id3_id2])) | apply aCall.gives (hC _ id3 (by simp [n_id_id2, n_id2_id, n_id_id3, n_id3_id, n_id2_id3, n_id3_id2])) | apply aCall.gives (hK _))); simp -implicitDefEqProofs [n_id_id2, n_id2_id, n_id_id3, n_id3_id, n_id2_id3, n_id3_id2, h1, h2, h3, h4, h5', h6', h7', n_id2_id, n_id_id2, n_id3_id2, n_id2_id3, n_id3_id, n_id_id3])
                          | ((with_reducible first | apply AWp.ret | apply AWp.skip | apply AWp.exit); try simp -implicitDefEqProofs [n_id_id2, n_id2_id, n_id_id3, n_id3_id, n_id2_id3, n_id3_id2, h1, h2, h3, h4, h5', h6', h7', n_id2_id, n_id_id2, n_id3_id2, n_id2_id3, n_id3_id, n_id_id3]))
                        refine And.intro (wk_eq (by simp [h7])) ?_
                        all_goals (repeat' (with_reducible apply And.intro))
                        all_goals first
                          | exact AS.le_refl _
                          | ((repeat (first | exact AS.le_refl _ | assumption | refine le_new (by simp [*]) ?_)); done)
                          | (refine wk_eq ?_; simp_all [skipV]; done)
                          | (refine wk_b ?_; rw [Bool.eq_iff_iff]; simp [*]; omega)
                          | (refine wk_eq ?_; simp [*]; omega)
                          | (refine wk_eq ?_; split <;> simp_all [skipV]; done)
                          | (exfalso; omega)
              · have h6' : (12 < (m.ls.length : Int)) = True := by simp; omega
                repeat (first
                  | (with_reducible first | apply AWp.seq | apply AWp.block | refine And.intro (by first | omega | assumption | decide) ?_)
                  | ((first | (with_reducible first | apply AWp.fork | apply AWp.region | show condK _ _ _ | show guardK _ _ _ _ _ _ _ _ _) | ((with_reducible apply aCall.id); first | apply aCall.gives (hF _) | apply aCall.gives (hA _) | apply aCall.gives (hP _ id3 (by simp [n_id_id2, n_id2_id, n_id_id3, n_id3_id, n_id2_id3, n_id3_id2])) | apply aCall.gives (hQ _ id3 (by simp [n_id_id2, n_id2_id, n_id_id3, n_id3_id, n_id2_id3, n_id3_id2])) | apply aCall.gives (hI _ id2 id (by simp [n_id_id2, n_id2_id, n_id_id3, n_id3_id, n_id2_id3, n_id3_id2]) (by simp [n_id_id2, n_id2_id, n_id_id3, n_id3_id, n_id2_id3, n_id3_id2])) | apply aCall.gives (hC _ id3 (by simp [n_id_id2, n_id2_id, n_id_id3, n_id3_id, n_id2_id3, n_id3_id2])) | apply aCall.gives (hK _))); simp -implicitDefEqProofs [n_id_id2, n_id2_id, n_id_id3, n_id3_id, n_id2_id3, n_id3_id2, h1, h2, h3, h4, h5', h6', n_id2_id, n_id_id2, n_id3_id2, n_id2_id3, n_id3_id, n_id_id3])
                  | ((with_reducible first | apply AWp.ret | apply AWp.skip | apply AWp.exit); try simp -implicitDefEqProofs [n_id_id2, n_id2_id, n_id_id3, n_id3_id, n_id2_id3, n_id3_id2, h1, h2, h3, h4, h5', h6', n_id2_id, n_id_id2, n_id3_id2, n_id2_id3, n_id3_id, n_id_id3]))
                refine And.intro (wk_eq (by simp [h6])) ?_
                all_goals (repeat' (with_reducible apply And.intro))
                all_goals first
                  | exact AS.le_refl _
                  | ((repeat (first | exact AS.le_refl _ | assumption | refine le_new (by simp [*]) ?_)); done)
                  | (refine wk_eq ?_; simp_all [skipV]; done)
                  | (refine wk_b ?_; rw [Bool.eq_iff_iff]; simp [*]; omega)
                  | (refine wk_eq ?_; simp [*]; omega)
                  | (refine wk_eq ?_; split <;> simp_all [skipV]; done)
                  | (exfalso; omega)
            · have h5' : (6 < (m.ps.length : Int)) = True := by simp; omega
              repeat (first
                | (with_reducible first | apply AWp.seq | apply AWp.block | refine And.intro (by first | omega | assumption | decide) ?_)
                | ((first | (with_reducible first | apply AWp.fork | apply AWp.region | show condK _ _ _ | show guardK _ _ _ _ _ _ _ _ _) | ((with_reducible apply aCall.id); first | apply aCall.gives (hF _) | apply aCall.gives (hA _) | apply aCall.gives (hP _ id3 (by simp [n_id_id2, n_id2_id, n_id_id3, n_id3_id, n_id2_id3, n_id3_id2])) | apply aCall.gives (hQ _ id3 (by simp [n_id_id2, n_id2_id, n_id_id3, n_id3_id, n_id2_id3, n_id3_id2])) | apply aCall.gives (hI _ id2 id (by simp [n_id_id2, n_id2_id, n_id_id3, n_id3_id, n_id2_id3, n_id3_id2]) (by simp [n_id_id2, n_id2_id, n_id_id3, n_id3_id, n_id2_id3, n_id3_id2])) | apply aCall.gives (hC _ id3 (by simp [n_id_id2, n_id2_id, n_id_id3, n_id3_id, n_id2_id3, n_id3_id2])) | apply aCall.gives (hK _))); simp -implicitDefEqProofs [n_id_id2, n_id2_id, n_id_id3, n_id3_id, n_id2_id3, n_id3_id2, h1, h2, h3, h4, h5', n_id2_id, n_id_id2, n_id3_id2, n_id2_id3, n_id3_id, n_id_id3])
                | ((with_reducible first | apply AWp.ret | apply AWp.skip | apply AWp.exit); try simp -implicitDefEqProofs [n_id_id2, n_id2_id, n_id_id3, n_id3_id, n_id2_id3, n_id3_id2, h1, h2, h3, h4, h5', n_id2_id, n_id_id2, n_id3_id2, n_id2_id3, n_id3_id, n_id_id3]))
              refine And.intro (wk_eq (by simp [h5])) ?_
              all_goals (repeat' (with_reducible apply And.intro))
              all_goals first
                | exact AS.le_refl _
                | ((repeat (first | exact AS.le_refl _ | assumption | refine le_new (by simp [*]) ?_)); done)
                | (refine wk_eq ?_; simp_all [skipV]; done)
                | (refine wk_b ?_; rw [Bool.eq_iff_iff]; simp [*]; omega)
                | (refine wk_eq ?_; simp [*]; omega)
                | (refine wk_eq ?_; split <;> simp_all [skipV]; done)
                | (exfalso; omega)
def mtsF (nt nf nm : Int) : Int → List Mt → Bool
  | _, [] => true
  | last, m :: r => if last ≤ m.owner ∧ m.owner < nt ∧ mtB m nt nf nm = true then mtsF nt nf nm m.owner r else false
theorem methods_ok (g : Img) (hl : g.ms.length ≤ 140737488355328) (hn : ∀ m ∈ g.ms, MtL m) (σ : AS) :
    ACalls Tryz.prog 20 [imV g] σ (Gives (.sc (.bool (mtsF g.ts.length g.fs.length g.ms.length 0 g.ms && decide (g.ms.length ≤ 64)))) σ) No := by
  have e64 : ((g.ms.length : Int) ≤ 64) = (g.ms.length ≤ 64) := by simp; omega
  have hM := fun (m : Mt) (h : MtL m) σ => method_ok m g h σ
  simp only [imV_def, mtV_def] at hM ⊢
  refine ACalls.of_body Tryz.func20 rfl rfl (by simp [Tryz.ntmps20]) ?_
  refine gO (D0_XIm4 []) (j3 @ci_lt @ci_le @imV_def) True.intro (k := ?_)
  intro id h_id
  refine gO (D0_XIm4 []) (j3 @ci_lt @ci_le @imV_def) True.intro (k := ?_)
  refine AWp.loopA (α := (Nat) × (Int)) ((0, 0)) (fun ⟨i, last⟩ => g.ms.length - i) (fun ⟨i, last⟩ => i ≤ g.ms.length ∧ mtsF g.ts.length g.fs.length g.ms.length 0 g.ms = mtsF g.ts.length g.fs.length g.ms.length last (g.ms.drop i)) [(1, ?_), (7, ?_), (8, ?_)] (fun ⟨i, last⟩ => [(9, .sc (.int .i64 i)), (3, .sc (.int .i64 last))]) (fun ⟨i, last⟩ => σ.set id (.cells 26 (imV g).cells)) ?_ ?_ ?_ ?_
  rotate_left 3
  · (try dsimp only); (simp only [List.cons_append, List.nil_append]; repeat (first | exact FrWk.nil | refine FrWk.cons (by first | (simp -implicitDefEqProofs [ci_lt, ci_le, imV_def]; done) | exact Wk.of (by (try simp -implicitDefEqProofs [ci_lt, ci_le, imV_def]) <;> rfl)) ?_))
  · (try dsimp only); (first | exact AS.le_refl _ | assumption | (repeat (first | exact AS.le_refl _ | assumption | refine le_new (by simp [*]) ?_)))
  · (try dsimp only) <;> first | exact trivial | exact ⟨by omega, rfl⟩ | omega | (simp; done) | exact ⟨by omega, by simp⟩ | exact ⟨by omega, by simp, rfl⟩
  intro x_ hx_
  obtain ⟨i, last⟩ := x_
  try dsimp only at hx_ ⊢
  obtain ⟨hi, hX⟩ := hx_
  simp only [List.cons_append, List.nil_append]
  by_cases hlt : i < g.ms.length
  · have wi_i : IntKind.i64.wrap ((i : Int) + 1) = ((i + 1 : Nat) : Int) := ci_wi (by omega)
    rw [List.drop_eq_getElem_cons hlt] at hX
    simp only [mtsF] at hX
    have hMi := hM g.ms[i] (hn _ (List.getElem_mem hlt))
    generalize hc : g.ms[i] = m at *
    refine gO (D0_XIm4 []) (j7 @hlt @hc @mtV_def @ci_lt @ci_le @imV_def @wi_i) True.intro (k := ?_)
    intro id2 n_id2_id h_id2
    have n_id_id2 : ¬ id = id2 := fun e => n_id2_id e.symm
    by_cases h2 : m.owner < last
    · rw [hX, if_neg (fun h => absurd h.1 (by omega))]
      refine gO (D0_XIm4 []) (And.intro (j7 @n_id_id2 @n_id2_id @h2 @mtV_def @ci_lt @ci_le @imV_def) (j3 @wi_i @n_id2_id @n_id_id2)) @hMi (k := ?_)
      all_goals (repeat' (with_reducible apply And.intro))
      all_goals first
        | exact AS.le_refl _
        | ((repeat (first | exact AS.le_refl _ | assumption | refine le_new (by simp [*]) ?_)); done)
        | (refine wk_eq ?_; simp_all [skipV]; done)
        | (refine wk_b ?_; rw [Bool.eq_iff_iff]; simp [*]; omega)
        | (refine wk_eq ?_; simp [*]; omega)
        | (refine wk_eq ?_; split <;> simp_all [skipV]; done)
        | (exfalso; omega)
    · by_cases h3 : (g.ts.length : Int) ≤ m.owner
      · rw [hX, if_neg (fun h => absurd h.2.1 (by omega))]
        refine gO (D0_XIm4 []) (And.intro (j7 @n_id_id2 @n_id2_id @h2 @h3 @mtV_def @ci_lt @ci_le) (j4 @imV_def @wi_i @n_id2_id @n_id_id2)) @hMi (k := ?_)
        all_goals (repeat' (with_reducible apply And.intro))
        all_goals first
          | exact AS.le_refl _
          | ((repeat (first | exact AS.le_refl _ | assumption | refine le_new (by simp [*]) ?_)); done)
          | (refine wk_eq ?_; simp_all [skipV]; done)
          | (refine wk_b ?_; rw [Bool.eq_iff_iff]; simp [*]; omega)
          | (refine wk_eq ?_; simp [*]; omega)
          | (refine wk_eq ?_; split <;> simp_all [skipV]; done)
          | (exfalso; omega)
      · cases h4 : mtB m g.ts.length g.fs.length g.ms.length with
        | false =>
          rw [h4] at hMi
          rw [hX, if_neg (by simp [h4])]
          refine gO (D0_XIm4 []) (And.intro (j7 @n_id_id2 @n_id2_id @h2 @h3 @mtV_def @ci_lt @ci_le) (j4 @imV_def @wi_i @n_id2_id @n_id_id2)) @hMi (k := ?_)
          all_goals (repeat' (with_reducible apply And.intro))
          all_goals first
            | exact AS.le_refl _
            | ((repeat (first | exact AS.le_refl _ | assumption | refine le_new (by simp [*]) ?_)); done)
            | (refine wk_eq ?_; simp_all [skipV]; done)
            | (refine wk_b ?_; rw [Bool.eq_iff_iff]; simp [*]; omega)
            | (refine wk_eq ?_; simp [*]; omega)
            | (refine wk_eq ?_; split <;> simp_all [skipV]; done)
            | (exfalso; omega)
        | true =>
          rw [h4] at hMi
          rw [if_pos ⟨by omega, by omega, h4⟩] at hX
          refine gO (D0_XIm4 []) (And.intro (j7 @n_id_id2 @n_id2_id @h2 @h3 @mtV_def @ci_lt @ci_le) (j4 @imV_def @wi_i @n_id2_id @n_id_id2)) @hMi (k := ?_)
          refine stepA.mk ((i + 1, m.owner)) (by (try dsimp only); omega) (by (try dsimp only); (simp only [List.cons_append, List.nil_append]; repeat (first | exact FrWk.nil | refine FrWk.cons (by first | (simp -implicitDefEqProofs [ci_lt, ci_le, imV_def, wi_i, n_id2_id, n_id_id2]; done) | exact Wk.of (by (try simp -implicitDefEqProofs [ci_lt, ci_le, imV_def, wi_i, n_id2_id, n_id_id2]) <;> rfl)) ?_))) (by (try dsimp only); exact le_new (by simp [n_id2_id, h_id2]) (AS.le_refl _)) ?_
          try dsimp only
          exact ⟨hlt, hX⟩
  · rw [List.drop_eq_nil_of_le (by omega)] at hX
    rw [hX]
    simp only [mtsF]
    refine gO (D0_XIm4 []) (j5 @hlt @e64 @ci_lt @ci_le @imV_def) True.intro (k := ?_)
    all_goals (repeat' (with_reducible apply And.intro))
    all_goals first
      | exact AS.le_refl _
      | ((repeat (first | exact AS.le_refl _ | assumption | refine le_new (by simp [*]) ?_)); done)
      | (refine wk_eq ?_; simp_all [skipV]; done)
      | (refine wk_b ?_; rw [Bool.eq_iff_iff]; simp [*]; omega)
      | (refine wk_eq ?_; simp [*]; omega)
      | (refine wk_eq ?_; split <;> simp_all [skipV]; done)
      | (exfalso; omega)
structure ImL (g : Img) : Prop where
  ts : g.ts.length ≤ 140737488355328
  fs : g.fs.length ≤ 140737488355328
  ms : g.ms.length ≤ 140737488355328
  t : ∀ t ∈ g.ts, t.faces.length ≤ 140737488355328 ∧ t.name.length ≤ 140737488355328
  f : ∀ f ∈ g.fs, f.name.length ≤ 140737488355328
  m : ∀ m ∈ g.ms, MtL m
def imB (g : Img) : Bool := tdsB g.ts && ((fdsF g.ts.length 0 g.fs && decide (g.fs.length ≤ 64)) && ((mtsF g.ts.length g.fs.length g.ms.length 0 g.ms && decide (g.ms.length ≤ 64)) && decide (-1 ≤ g.entry ∧ g.entry < g.ms.length)))
theorem formed_ok (g : Img) (hL : ImL g) (σ : AS) : ACalls Tryz.prog 9 [imV g] σ (Gives (.sc (.bool (imB g))) σ) No := by
  have h1 := fun σ => types_ok g hL.ts hL.t σ
  have h2 := fun σ => fields_ok g hL.fs hL.ts hL.f σ
  have h3 := fun σ => methods_ok g hL.ms hL.m σ
  unfold imB
  generalize tdsB g.ts = b1 at h1 ⊢
  generalize (fdsF g.ts.length 0 g.fs && decide (g.fs.length ≤ 64)) = b2 at h2 ⊢
  generalize (mtsF g.ts.length g.fs.length g.ms.length 0 g.ms && decide (g.ms.length ≤ 64)) = b3 at h3 ⊢
  simp only [imV_def] at h1 h2 h3 ⊢
  refine ACalls.of_body Tryz.func9 rfl rfl (by simp [Tryz.ntmps9]) ?_
  refine gO (D0_XIm4 []) True.intro True.intro (k := ?_)
  intro id h_id
  cases b1
  · refine gO (D0_XIm4 []) True.intro (j3 @h1 @h2 @h3) (k := ?_)
    all_goals (repeat' (with_reducible apply And.intro))
    all_goals first
      | exact AS.le_refl _
      | ((repeat (first | exact AS.le_refl _ | assumption | refine le_new (by simp [*]) ?_)); done)
      | (refine wk_eq ?_; simp_all [skipV]; done)
      | (refine wk_b ?_; rw [Bool.eq_iff_iff]; simp [*]; omega)
      | (refine wk_eq ?_; simp [*]; omega)
      | (refine wk_eq ?_; split <;> simp_all [skipV]; done)
      | (exfalso; omega)
  · cases b2
    · refine gO (D0_XIm4 []) True.intro (j3 @h1 @h2 @h3) (k := ?_)
      all_goals (repeat' (with_reducible apply And.intro))
      all_goals first
        | exact AS.le_refl _
        | ((repeat (first | exact AS.le_refl _ | assumption | refine le_new (by simp [*]) ?_)); done)
        | (refine wk_eq ?_; simp_all [skipV]; done)
        | (refine wk_b ?_; rw [Bool.eq_iff_iff]; simp [*]; omega)
        | (refine wk_eq ?_; simp [*]; omega)
        | (refine wk_eq ?_; split <;> simp_all [skipV]; done)
        | (exfalso; omega)
    · cases b3
      · refine gO (D0_XIm4 []) True.intro (j3 @h1 @h2 @h3) (k := ?_)
        all_goals (repeat' (with_reducible apply And.intro))
        all_goals first
          | exact AS.le_refl _
          | ((repeat (first | exact AS.le_refl _ | assumption | refine le_new (by simp [*]) ?_)); done)
          | (refine wk_eq ?_; simp_all [skipV]; done)
          | (refine wk_b ?_; rw [Bool.eq_iff_iff]; simp [*]; omega)
          | (refine wk_eq ?_; simp [*]; omega)
          | (refine wk_eq ?_; split <;> simp_all [skipV]; done)
          | (exfalso; omega)
      · by_cases e1 : -1 ≤ g.entry
        · by_cases e2 : g.entry < g.ms.length
          · refine gO (D0_XIm4 []) (j2 @e1 @e2) (j3 @h1 @h2 @h3) (k := ?_)
            all_goals (repeat' (with_reducible apply And.intro))
            all_goals first
              | exact AS.le_refl _
              | ((repeat (first | exact AS.le_refl _ | assumption | refine le_new (by simp [*]) ?_)); done)
              | (refine wk_eq ?_; simp_all [skipV, e1, e2]; done)
              | (refine wk_b ?_; rw [Bool.eq_iff_iff]; simp [*, e1, e2]; omega)
              | (refine wk_eq ?_; simp [*, e1, e2]; omega)
              | (refine wk_eq ?_; split <;> simp_all [skipV]; done)
              | (exfalso; omega)
          · refine gO (D0_XIm4 []) (j2 @e1 @e2) (j3 @h1 @h2 @h3) (k := ?_)
            all_goals (repeat' (with_reducible apply And.intro))
            all_goals first
              | exact AS.le_refl _
              | ((repeat (first | exact AS.le_refl _ | assumption | refine le_new (by simp [*]) ?_)); done)
              | (refine wk_eq ?_; simp_all [skipV, e1, e2]; done)
              | (refine wk_b ?_; rw [Bool.eq_iff_iff]; simp [*, e1, e2]; omega)
              | (refine wk_eq ?_; simp [*, e1, e2]; omega)
              | (refine wk_eq ?_; split <;> simp_all [skipV]; done)
              | (exfalso; omega)
        · refine gO (D0_XIm4 []) @e1 (j3 @h1 @h2 @h3) (k := ?_)
          all_goals (repeat' (with_reducible apply And.intro))
          all_goals first
            | exact AS.le_refl _
            | ((repeat (first | exact AS.le_refl _ | assumption | refine le_new (by simp [*]) ?_)); done)
            | (refine wk_eq ?_; simp_all [skipV, e1]; done)
            | (refine wk_b ?_; rw [Bool.eq_iff_iff]; simp [*, e1]; omega)
            | (refine wk_eq ?_; simp [*, e1]; omega)
            | (refine wk_eq ?_; split <;> simp_all [skipV]; done)
            | (exfalso; omega)
end Im
end Go.Proofs.YtknalmoackcpbaaGreat
