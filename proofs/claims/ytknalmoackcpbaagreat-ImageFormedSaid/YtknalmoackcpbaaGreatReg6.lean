/- Chapter 09: the document's Bounds, In, Fits, Check. -/
import Derived.Test.YtknalmoackcpbaaGreatAwGo
import Derived.Test.YtknalmoackcpbaaGreatReg5
set_option linter.unusedSimpArgs false
set_option linter.unusedVariables false
set_option maxRecDepth 100000
set_option maxHeartbeats 3200000
namespace Go.Proofs.YtknalmoackcpbaaGreat
namespace Rg
open Go Go.AW
theorem D262_XReg6 (S : List Nat) : Plans Tryz.prog [(3, (Sch.step 0 (Sch.step 2 (Sch.read 1 (Sch.step 4 (Sch.read 3 (Sch.step 5 Sch.done))))))), (5, (Sch.step 0 (Sch.step 2 (Sch.read 1 (Sch.step 4 (Sch.read 3 (Sch.step 5 Sch.done))))))), (7, (Sch.step 0 (Sch.step 2 (Sch.read 1 (Sch.step 4 (Sch.read 3 (Sch.step 5 Sch.done)))))))] S := mixed
theorem D0_XReg6 (S : List Nat) : Plans Tryz.prog [] S := mixed
def bnd (c : Cl) (p : Int) : Sn := if p = 1 then ⟨c.tf, c.tt⟩ else if p = 2 then ⟨c.hf, c.ht⟩ else if c.k = 2 then ⟨c.fl, c.hf⟩ else ⟨0, 0⟩
theorem bounds_ok (c : Cl) (p : Int) (σ : AS) : ACalls Tryz.prog 262 [clV c, .sc (.int .i64 p)] σ (Gives (.tup [.sc (.int .i64 (bnd c p).f), .sc (.int .i64 (bnd c p).t)]) σ) No := by
  unfold bnd
  simp only [clV_def]
  refine ACalls.of_body Tryz.func262 rfl rfl (by simp [Tryz.ntmps262]) ?_
  by_cases h1 : p = 1
  · refine gO (D262_XReg6 []) @h1 True.intro (k := ?_)
    intro id h_id
    refine gO (D262_XReg6 []) @h1 True.intro (k := ?_)
    all_goals (repeat' (with_reducible apply And.intro))
    all_goals first
      | exact AS.le_refl _
      | ((repeat (first | exact AS.le_refl _ | assumption | refine le_new (by simp [*]) ?_)); done)
      | (refine wk_eq ?_; simp_all [skipV]; done)
      | (refine wk_b ?_; rw [Bool.eq_iff_iff]; simp [*]; omega)
      | (refine wk_eq ?_; simp [*]; omega)
      | (refine wk_eq ?_; split <;> simp_all [skipV]; done)
      | (exfalso; omega)
  by_cases h2 : p = 2
  · refine gO (D262_XReg6 []) (j2 @h1 @h2) True.intro (k := ?_)
    intro id h_id
    refine gO (D262_XReg6 []) (j2 @h1 @h2) True.intro (k := ?_)
    all_goals (repeat' (with_reducible apply And.intro))
    all_goals first
      | exact AS.le_refl _
      | ((repeat (first | exact AS.le_refl _ | assumption | refine le_new (by simp [*]) ?_)); done)
      | (refine wk_eq ?_; simp_all [skipV]; done)
      | (refine wk_b ?_; rw [Bool.eq_iff_iff]; simp [*]; omega)
      | (refine wk_eq ?_; simp [*]; omega)
      | (refine wk_eq ?_; split <;> simp_all [skipV]; done)
      | (exfalso; omega)
  by_cases h3 : c.k = 2
  · refine gO (D262_XReg6 []) (j3 @h1 @h2 @h3) True.intro (k := ?_)
    intro id h_id
    refine gO (D262_XReg6 []) (j3 @h1 @h2 @h3) True.intro (k := ?_)
    all_goals (repeat' (with_reducible apply And.intro))
    all_goals first
      | exact AS.le_refl _
      | ((repeat (first | exact AS.le_refl _ | assumption | refine le_new (by simp [*]) ?_)); done)
      | (refine wk_eq ?_; simp_all [skipV]; done)
      | (refine wk_b ?_; rw [Bool.eq_iff_iff]; simp [*]; omega)
      | (refine wk_eq ?_; simp [*]; omega)
      | (refine wk_eq ?_; split <;> simp_all [skipV]; done)
      | (exfalso; omega)
  · refine gO (D262_XReg6 []) (j3 @h1 @h2 @h3) True.intro (k := ?_)
    intro id h_id
    refine gO (D262_XReg6 []) (j3 @h1 @h2 @h3) True.intro (k := ?_)
    all_goals (repeat' (with_reducible apply And.intro))
    all_goals first
      | exact AS.le_refl _
      | ((repeat (first | exact AS.le_refl _ | assumption | refine le_new (by simp [*]) ?_)); done)
      | (refine wk_eq ?_; simp_all [skipV]; done)
      | (refine wk_b ?_; rw [Bool.eq_iff_iff]; simp [*]; omega)
      | (refine wk_eq ?_; simp [*]; omega)
      | (refine wk_eq ?_; split <;> simp_all [skipV]; done)
      | (exfalso; omega)
def meetB (s t : Sn) : Bool := decide (s.f < t.t) && (decide (t.f < s.t) && (decide (s.f < s.t) && decide (t.f < t.t)))
def withB (s t : Sn) : Bool := (decide (s.f = 0) && decide (s.t = 0)) || (decide (t.f ≤ s.f) && (decide (s.t ≤ t.t) && (decide (t.f < s.f) || decide (s.t < t.t))))
theorem meet_ok (a b : Cl) (p q : Int) (σ : AS) : ACalls Tryz.prog 261 [clV a, .sc (.int .i64 p), clV b, .sc (.int .i64 q)] σ (Gives (.sc (.bool (meetB (bnd a p) (bnd b q)))) σ) No := by
  have hb := fun σ => bounds_ok a p σ
  have hb2 := fun σ => bounds_ok b q σ
  simp only [clV_def, meetB] at hb hb2 ⊢
  generalize bnd a p = s at *
  generalize bnd b q = t at *
  refine ACalls.of_body Tryz.func261 rfl rfl (by simp [Tryz.ntmps261]) ?_
  refine gO (D0_XReg6 []) True.intro True.intro (k := ?_)
  intro id h_id
  refine gO (D0_XReg6 []) True.intro True.intro (k := ?_)
  intro id2 n_id2_id h_id2
  have n_id_id2 : ¬ id = id2 := fun e => n_id2_id e.symm
  repeat' (first
    | (with_reducible first | apply AWp.seq | apply AWp.block | refine And.intro (by first | omega | assumption | decide) ?_)
    | ((first | (with_reducible first | apply AWp.fork | apply AWp.region | show condK _ _ _ | show guardK _ _ _ _ _ _ _ _ _) | ((with_reducible apply aCall.id); first | apply aCall.gives (hb _) | apply aCall.gives (hb2 _))); simp -implicitDefEqProofs [n_id2_id, n_id_id2])
    | trivial
    | (with_reducible apply And.intro)
    | ((with_reducible first | apply AWp.ret | apply AWp.skip | apply AWp.exit); try simp -implicitDefEqProofs [n_id2_id, n_id_id2])
    | ((with_reducible first | apply condK.split | apply guardK.split | apply pureG.split) <;> (intro hc; (try simp -implicitDefEqProofs only [hc]); (try simp at hc)) <;> try simp -implicitDefEqProofs [n_id2_id, n_id_id2]))
  all_goals (repeat' (with_reducible apply And.intro))
  all_goals first
    | exact AS.le_refl _
    | ((repeat (first | exact AS.le_refl _ | assumption | refine le_new (by simp [*]) ?_)); done)
    | (refine wk_eq ?_; simp_all [skipV]; done)
    | (refine wk_b ?_; rw [Bool.eq_iff_iff]; simp [*]; omega)
    | (refine wk_eq ?_; simp [*]; omega)
    | (refine wk_eq ?_; split <;> simp_all [skipV]; done)
    | (exfalso; omega)
theorem rwithin_ok (a b : Cl) (p q : Int) (σ : AS) : ACalls Tryz.prog 263 [clV a, .sc (.int .i64 p), clV b, .sc (.int .i64 q)] σ (Gives (.sc (.bool (withB (bnd a p) (bnd b q)))) σ) No := by
  have hb := fun σ => bounds_ok a p σ
  have hb2 := fun σ => bounds_ok b q σ
  simp only [clV_def, withB] at hb hb2 ⊢
  generalize bnd a p = s at *
  generalize bnd b q = t at *
  refine ACalls.of_body Tryz.func263 rfl rfl (by simp [Tryz.ntmps263]) ?_
  refine gO (D0_XReg6 []) True.intro True.intro (k := ?_)
  intro id h_id
  refine gO (D0_XReg6 []) True.intro True.intro (k := ?_)
  intro id2 n_id2_id h_id2
  have n_id_id2 : ¬ id = id2 := fun e => n_id2_id e.symm
  repeat' (first
    | (with_reducible first | apply AWp.seq | apply AWp.block | refine And.intro (by first | omega | assumption | decide) ?_)
    | ((first | (with_reducible first | apply AWp.fork | apply AWp.region | show condK _ _ _ | show guardK _ _ _ _ _ _ _ _ _) | ((with_reducible apply aCall.id); first | apply aCall.gives (hb _) | apply aCall.gives (hb2 _))); simp -implicitDefEqProofs [n_id2_id, n_id_id2])
    | trivial
    | (with_reducible apply And.intro)
    | ((with_reducible first | apply AWp.ret | apply AWp.skip | apply AWp.exit); try simp -implicitDefEqProofs [n_id2_id, n_id_id2])
    | ((with_reducible first | apply condK.split | apply guardK.split | apply pureG.split) <;> (intro hc; (try simp -implicitDefEqProofs only [hc]); (try simp at hc)) <;> try simp -implicitDefEqProofs [n_id2_id, n_id_id2]))
  all_goals (repeat' (with_reducible apply And.intro))
  all_goals first
    | exact AS.le_refl _
    | ((repeat (first | exact AS.le_refl _ | assumption | refine le_new (by simp [*]) ?_)); done)
    | (refine wk_eq ?_; simp_all [skipV]; done)
    | (refine wk_b ?_; rw [Bool.eq_iff_iff]; simp [*]; omega)
    | (refine wk_eq ?_; simp [*]; omega)
    | (refine wk_eq ?_; split <;> simp_all [skipV]; done)
    | (exfalso; omega)
def aloneR (n : Int) (c : Cl) : Int :=
  if (decide (c.k < 1) || (decide (4 < c.k) || (!insideS ⟨c.tf, c.tt⟩ n || !insideS ⟨c.hf, c.ht⟩ n))) = true then 3 else
  if ((decide (c.k = 2) && (decide (c.fl < 0) || decide (c.hf ≤ c.fl))) || (!decide (c.k = 2) && !decide (c.fl = -1))) = true then 3 else
  if (meetB (bnd c 1) (bnd c 2) || (meetB (bnd c 1) (bnd c 3) || meetB (bnd c 2) (bnd c 3))) = true then 12 else 0
theorem ralone_ok (n : Int) (c : Cl) (σ : AS) : ACalls Tryz.prog 229 [.sc (.int .i64 n), clV c] σ (Gives (.sc (.int .i64 (aloneR n c))) σ) No := by
  have h1 := fun σ => meet_ok c c 1 2 σ
  have h2 := fun σ => meet_ok c c 1 3 σ
  have h3 := fun σ => meet_ok c c 2 3 σ
  unfold aloneR
  generalize meetB (bnd c 1) (bnd c 2) = b1 at *
  generalize meetB (bnd c 1) (bnd c 3) = b2 at *
  generalize meetB (bnd c 2) (bnd c 3) = b3 at *
  simp only [clV_def, insideS] at h1 h2 h3 ⊢
  refine ACalls.of_body Tryz.func229 rfl rfl (by simp [Tryz.ntmps229]) ?_
  refine gO (D0_XReg6 []) True.intro True.intro (k := ?_)
  intro id h_id
  repeat' (first
    | (with_reducible first | apply AWp.seq | apply AWp.block | refine And.intro (by first | omega | assumption | decide) ?_)
    | ((first | (with_reducible first | apply AWp.fork | apply AWp.region) | ((with_reducible apply aCall.id); first | apply aCall.gives (h1 _) | apply aCall.gives (h2 _) | apply aCall.gives (h3 _))); simp -implicitDefEqProofs)
    | trivial
    | (with_reducible apply And.intro)
    | ((with_reducible first | apply AWp.ret | apply AWp.skip | apply AWp.exit); try simp -implicitDefEqProofs)
    | ((with_reducible first | apply condK.split | apply guardK.split | apply pureG.split) <;> (intro hc; (try simp -implicitDefEqProofs only [hc]); (try simp at hc)) <;> try simp -implicitDefEqProofs))
  all_goals (repeat' (with_reducible apply And.intro))
  all_goals first
    | exact AS.le_refl _
    | ((repeat (first | exact AS.le_refl _ | assumption | refine le_new (by simp [*]) ?_)); done)
    | (refine wk_eq ?_; simp_all [skipV]; done)
    | (refine wk_b ?_; rw [Bool.eq_iff_iff]; simp [*]; omega)
    | (refine wk_eq ?_; simp [*]; omega)
    | (refine wk_eq ?_; split <;> simp_all [skipV]; done)
    | (exfalso; omega)
end Rg
end Go.Proofs.YtknalmoackcpbaaGreat
