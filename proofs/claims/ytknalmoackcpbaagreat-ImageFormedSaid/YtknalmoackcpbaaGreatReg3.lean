/- Package regions: clash, alone, fits. -/
import Derived.Test.YtknalmoackcpbaaGreatAwGo
import Derived.Test.YtknalmoackcpbaaGreatReg1
set_option linter.unusedSimpArgs false
set_option linter.unusedVariables false
set_option maxRecDepth 100000
set_option maxHeartbeats 3200000
namespace Go.Proofs.YtknalmoackcpbaaGreat
namespace Rg
open Go Go.AW
abbrev sc_178_5_XReg3 : Sch := (Sch.read 0 (Sch.pure 1 (Sch.read 2 (Sch.pure 3 (Sch.alt 4 Sch.done Sch.none)))))
theorem D0_XReg3 (S : List Nat) : Plans Tryz.prog [] S := mixed
theorem D178_XReg3 (S : List Nat) : Plans Tryz.prog [(5, (Sch.read 0 (Sch.pure 1 (Sch.read 2 (Sch.pure 3 (Sch.alt 4 Sch.done Sch.none))))))] S := mixed
def fnV (f : Nat) : AV := .sc (.func (.func f) #[] #[])
theorem clash2_ok (a b : Pt) (f ida idm : Nat) (may : Pt → Pt → Bool) (hm : ∀ σ x y, ACalls Tryz.prog f [ptV x, ptV y] σ (Gives (.sc (.bool (may x y))) σ) No) (σ : AS)
    (h1 : σ ida = some (.cells 302 (ptV a).cells)) (h2 : σ idm = some (.cells 303 [fnV f])) :
    ACalls Tryz.prog 258 [ptV b, .ptr ida 0, .ptr idm 0] σ (Gives (.sc (.bool (meetsS a.s b.s && !may a b))) σ) No := by
  have hme := fun σ => meets_ok a.s b.s σ
  have hm' := fun σ => hm σ a b
  simp only [ptV, fnV, snV, cells_agg] at h1 h2 hme hm' ⊢
  refine ACalls.of_body Tryz.func258 rfl rfl (by simp [Tryz.ntmps258]) ?_
  refine gO (D0_XReg3 []) True.intro True.intro (k := ?_)
  intro id h_id
  have n_ida_id : ¬ ida = id := by rintro rfl; rw [h1] at h_id; cases h_id
  have n_id_ida : ¬ id = ida := fun e => n_ida_id e.symm
  have n_idm_id : ¬ idm = id := by rintro rfl; rw [h2] at h_id; cases h_id
  have n_id_idm : ¬ id = idm := fun e => n_idm_id e.symm
  cases hM : meetsS a.s b.s with
  | true =>
    rw [hM] at hme
    refine gO (D0_XReg3 []) (j6 @n_id_ida @n_ida_id @h1 @n_id_idm @n_idm_id @h2) (j2 @hme @hm') (k := ?_)
    all_goals (repeat' (with_reducible apply And.intro))
    all_goals first
      | exact AS.le_refl _
      | ((repeat (first | exact AS.le_refl _ | assumption | refine le_new (by simp [*]) ?_)); done)
      | (refine wk_eq ?_; simp_all [skipV]; done)
      | (refine wk_b ?_; rw [Bool.eq_iff_iff]; simp [*]; omega)
      | (refine wk_eq ?_; simp [*]; omega)
      | (refine wk_eq ?_; split <;> simp_all [skipV]; done)
      | (exfalso; omega)
  | false =>
    rw [hM] at hme
    refine gO (D0_XReg3 []) (j6 @n_id_ida @n_ida_id @h1 @n_id_idm @n_idm_id @h2) (j2 @hme @hm') (k := ?_)
    all_goals (repeat' (with_reducible apply And.intro))
    all_goals first
      | exact AS.le_refl _
      | ((repeat (first | exact AS.le_refl _ | assumption | refine le_new (by simp [*]) ?_)); done)
      | (refine wk_eq ?_; simp_all [skipV]; done)
      | (refine wk_b ?_; rw [Bool.eq_iff_iff]; simp [*]; omega)
      | (refine wk_eq ?_; simp [*]; omega)
      | (refine wk_eq ?_; split <;> simp_all [skipV]; done)
      | (exfalso; omega)
theorem clash1_ok (a : Pt) (m : List Pt) (o : Own) (nl : Bool) (hl : m.length ≤ 140737488355328) (f idl idm : Nat) (may : Pt → Pt → Bool) (hm : ∀ σ x y, ACalls Tryz.prog f [ptV x, ptV y] σ (Gives (.sc (.bool (may x y))) σ) No) (σ : AS)
    (h1 : σ idl = some (.cells 297 [.lst 302 (m.map ptV) o nl])) (h2 : σ idm = some (.cells 303 [fnV f])) :
    ACalls Tryz.prog 257 [ptV a, .ptr idl 0, .ptr idm 0] σ (Gives (.sc (.bool (m.any fun b => meetsS a.s b.s && !may a b))) σ) No := by
  have hc := fun id (hid : σ id = none) (hne : ¬ idm = id) => contains_ok m o nl (.fn (.func 258) [] [.ptr id 0, .ptr idm 0]) (fun b => meetsS a.s b.s && !may a b) (σ.set id (.cells 302 (ptV a).cells)) hl
    (fun x _ => FnG.fn (clash2_ok a x f id idm may hm _ (by simp) (by simp [hne, h2])))
  simp only [ptV, fnV, cells_agg] at h1 h2 hc ⊢
  refine ACalls.of_body Tryz.func257 rfl rfl (by simp [Tryz.ntmps257]) ?_
  refine gO (D0_XReg3 []) True.intro True.intro (k := ?_)
  intro id h_id
  have n_idl_id : ¬ idl = id := by rintro rfl; rw [h1] at h_id; cases h_id
  have n_id_idl : ¬ id = idl := fun e => n_idl_id e.symm
  have n_idm_id : ¬ idm = id := by rintro rfl; rw [h2] at h_id; cases h_id
  have n_id_idm : ¬ id = idm := fun e => n_idm_id e.symm
  refine gO (D0_XReg3 []) (j6 @n_id_idl @n_idl_id @h1 @n_id_idm @n_idm_id @h2) (hc id h_id n_idm_id) (k := ?_)
  all_goals (repeat' (with_reducible apply And.intro))
  all_goals first
    | exact AS.le_refl _
    | ((repeat (first | exact AS.le_refl _ | assumption | refine le_new (by simp [*]) ?_)); done)
    | (refine wk_eq ?_; simp_all [skipV]; done)
    | (refine wk_b ?_; rw [Bool.eq_iff_iff]; simp [*]; omega)
    | (refine wk_eq ?_; simp [*]; omega)
    | (refine wk_eq ?_; split <;> simp_all [skipV]; done)
    | (exfalso; omega)
def clashS (l m : List Pt) (may : Pt → Pt → Bool) : Bool := l.any fun a => m.any fun b => meetsS a.s b.s && !may a b
theorem clash_ok (l m : List Pt) (o1 o2 : Own) (n1 n2 : Bool) (hl : l.length ≤ 140737488355328) (hl2 : m.length ≤ 140737488355328) (f : Nat) (may : Pt → Pt → Bool) (hm : ∀ σ x y, ACalls Tryz.prog f [ptV x, ptV y] σ (Gives (.sc (.bool (may x y))) σ) No) (σ : AS) :
    ACalls Tryz.prog 220 [.lst 302 (l.map ptV) o1 n1, .lst 302 (m.map ptV) o2 n2, fnV f] σ (Gives (.sc (.bool (clashS l m may))) σ) No := by
  have hc := fun id id2 (hid : ¬ id = id2) => contains_ok l o1 n1 (.fn (.func 257) [] [.ptr id 0, .ptr id2 0]) (fun a => m.any fun b => meetsS a.s b.s && !may a b)
    ((σ.set id (.cells 297 [.lst 302 (m.map ptV) o2 n2])).set id2 (.cells 303 [fnV f])) hl
    (fun x _ => FnG.fn (clash1_ok x m o2 n2 hl2 f id id2 may hm _ (by simp [hid]) (by simp)))
  simp only [fnV] at hc ⊢
  refine ACalls.of_body Tryz.func220 rfl rfl (by simp [Tryz.ntmps220]) ?_
  refine gO (D0_XReg3 []) True.intro True.intro (k := ?_)
  intro id h_id
  refine gO (D0_XReg3 []) True.intro True.intro (k := ?_)
  intro id2 n_id2_id h_id2
  have n_id_id2 : ¬ id = id2 := fun e => n_id2_id e.symm
  refine gO (D0_XReg3 []) (j2 @n_id2_id @n_id_id2) (hc id id2 n_id_id2) (k := ?_)
  refine ⟨Wk.refl _, le_new ?_ (le_new h_id (AS.le_refl _))⟩
  simp [h_id2, n_id2_id]
def sameR (a b : Pt) : Bool := decide (a.k = b.k) && decide (a.p = b.p)
theorem same1_ok (σ : AS) (a b : Pt) : ACalls Tryz.prog 222 [ptV a, ptV b] σ (Gives (.sc (.bool (sameR a b))) σ) No := by
  refine ACalls.of_body Tryz.func222 rfl rfl (by simp [Tryz.ntmps222]) ?_
  simp only [ptV, sameR]
  refine gO (D0_XReg3 []) True.intro True.intro (k := ?_)
  intro id h_id
  refine gO (D0_XReg3 []) True.intro True.intro (k := ?_)
  intro id2 n_id2_id h_id2
  have n_id_id2 : ¬ id = id2 := fun e => n_id2_id e.symm
  refine gO (D0_XReg3 []) (j2 @n_id2_id @n_id_id2) True.intro (k := ?_)
  all_goals (repeat' (with_reducible apply And.intro))
  all_goals first
    | exact AS.le_refl _
    | ((repeat (first | exact AS.le_refl _ | assumption | refine le_new (by simp [*]) ?_)); done)
    | (refine wk_eq ?_; simp_all [skipV]; done)
    | (refine wk_b ?_; rw [Bool.eq_iff_iff]; simp [*]; omega)
    | (refine wk_eq ?_; simp [*]; omega)
    | (refine wk_eq ?_; split <;> simp_all [skipV]; done)
    | (exfalso; omega)
theorem never_ok (σ : AS) (a b : Pt) : ACalls Tryz.prog 228 [ptV a, ptV b] σ (Gives (.sc (.bool false)) σ) No := by
  refine ACalls.of_body Tryz.func228 rfl rfl (by simp [Tryz.ntmps228]) ?_
  simp only [ptV]
  refine gO (D0_XReg3 []) True.intro True.intro (k := ?_)
  intro id h_id
  refine gO (D0_XReg3 []) True.intro True.intro (k := ?_)
  intro id2 n_id2_id h_id2
  have n_id_id2 : ¬ id = id2 := fun e => n_id2_id e.symm
  refine gO (D0_XReg3 []) (j2 @n_id2_id @n_id_id2) True.intro (k := ?_)
  all_goals (repeat' (with_reducible apply And.intro))
  all_goals first
    | exact AS.le_refl _
    | ((repeat (first | exact AS.le_refl _ | assumption | refine le_new (by simp [*]) ?_)); done)
    | (refine wk_eq ?_; simp_all [skipV]; done)
    | (refine wk_b ?_; rw [Bool.eq_iff_iff]; simp [*]; omega)
    | (refine wk_eq ?_; simp [*]; omega)
    | (refine wk_eq ?_; split <;> simp_all [skipV]; done)
    | (exfalso; omega)
theorem tries_ok (σ : AS) (a b : Pt) : ACalls Tryz.prog 227 [ptV a, ptV b] σ (Gives (.sc (.bool (decide (a.p = 1) && decide (b.p = 1)))) σ) No := by
  refine ACalls.of_body Tryz.func227 rfl rfl (by simp [Tryz.ntmps227]) ?_
  simp only [ptV]
  refine gO (D0_XReg3 []) True.intro True.intro (k := ?_)
  intro id h_id
  refine gO (D0_XReg3 []) True.intro True.intro (k := ?_)
  intro id2 n_id2_id h_id2
  have n_id_id2 : ¬ id = id2 := fun e => n_id2_id e.symm
  repeat' (first
    | (with_reducible first | apply AWp.seq | apply AWp.block | refine And.intro (by first | omega | assumption | decide) ?_)
    | ((first | (with_reducible first | apply AWp.fork | apply AWp.region | show condK _ _ _ | show guardK _ _ _ _ _ _ _ _ _)); simp -implicitDefEqProofs [n_id2_id, n_id_id2])
    | trivial
    | (with_reducible apply And.intro)
    | ((with_reducible first | apply AWp.ret | apply AWp.skip | apply AWp.exit); try simp -implicitDefEqProofs [n_id2_id, n_id_id2])
    | ((with_reducible first | apply condK.split | apply guardK.split | apply pureG.split) <;> (intro hc; (try simp -implicitDefEqProofs only [hc]); (try simp at hc)) <;> try simp -implicitDefEqProofs [n_id2_id, n_id_id2]))
  all_goals (repeat' (with_reducible apply And.intro))
  all_goals first
    | exact AS.le_refl _
    | ((repeat (first | exact AS.le_refl _ | assumption | refine le_new (by simp [*]) ?_)); done)
    | (refine wk_eq ?_; simp_all [skipV]; done)
    | (refine wk_b ?_; rw [Bool.eq_iff_iff]; simp [*]; omega)
    | (refine wk_eq ?_; simp [*]; omega)
    | (refine wk_eq ?_; split <;> simp_all [skipV]; done)
    | (exfalso; omega)
theorem fits1_ok (x y : Pt) (id : Nat) (σ : AS) (h1 : σ id = some (.cells 302 (ptV x).cells)) :
    ACalls Tryz.prog 224 [ptV y, .ptr id 0] σ (Gives (.sc (.bool (!withinS y.s x.s))) σ) No := by
  have hw := fun σ => within_ok y.s x.s σ
  simp only [ptV, snV, cells_agg] at h1 hw ⊢
  refine ACalls.of_body Tryz.func224 rfl rfl (by simp [Tryz.ntmps224]) ?_
  refine gO (D0_XReg3 []) True.intro True.intro (k := ?_)
  intro id2 h_id2
  have n_id_id2 : ¬ id = id2 := by rintro rfl; rw [h1] at h_id2; cases h_id2
  have n_id2_id : ¬ id2 = id := fun e => n_id_id2 e.symm
  refine gO (D0_XReg3 []) (j3 @n_id2_id @n_id_id2 @h1) @hw (k := ?_)
  all_goals (repeat' (with_reducible apply And.intro))
  all_goals first
    | exact AS.le_refl _
    | ((repeat (first | exact AS.le_refl _ | assumption | refine le_new (by simp [*]) ?_)); done)
    | (refine wk_eq ?_; simp_all [skipV]; done)
    | (refine wk_b ?_; rw [Bool.eq_iff_iff]; simp [*]; omega)
    | (refine wk_eq ?_; simp [*]; omega)
    | (refine wk_eq ?_; split <;> simp_all [skipV]; done)
    | (exfalso; omega)
theorem fits2_ok (x y : Pt) (id : Nat) (σ : AS) (h1 : σ id = some (.cells 302 (ptV x).cells)) :
    ACalls Tryz.prog 226 [ptV y, .ptr id 0] σ (Gives (.sc (.bool (!decide (y.p = 1) && decide (y.s.f = x.s.f)))) σ) No := by
  simp only [ptV, snV, cells_agg] at h1 ⊢
  refine ACalls.of_body Tryz.func226 rfl rfl (by simp [Tryz.ntmps226]) ?_
  refine gO (D0_XReg3 []) True.intro True.intro (k := ?_)
  intro id2 h_id2
  have n_id_id2 : ¬ id = id2 := by rintro rfl; rw [h1] at h_id2; cases h_id2
  have n_id2_id : ¬ id2 = id := fun e => n_id_id2 e.symm
  repeat' (first
    | (with_reducible first | apply AWp.seq | apply AWp.block | refine And.intro (by first | omega | assumption | decide) ?_)
    | ((first | (with_reducible first | apply AWp.fork | apply AWp.region | show condK _ _ _ | show guardK _ _ _ _ _ _ _ _ _)); simp -implicitDefEqProofs [n_id2_id, n_id_id2, h1])
    | trivial
    | (with_reducible apply And.intro)
    | ((with_reducible first | apply AWp.ret | apply AWp.skip | apply AWp.exit); try simp -implicitDefEqProofs [n_id2_id, n_id_id2, h1])
    | ((with_reducible first | apply condK.split | apply guardK.split | apply pureG.split) <;> (intro hc; (try simp -implicitDefEqProofs only [hc]); (try simp at hc)) <;> try simp -implicitDefEqProofs [n_id2_id, n_id_id2, h1]))
  all_goals (repeat' (with_reducible apply And.intro))
  all_goals first
    | exact AS.le_refl _
    | ((repeat (first | exact AS.le_refl _ | assumption | refine le_new (by simp [*]) ?_)); done)
    | (refine wk_eq ?_; simp_all [skipV]; done)
    | (refine wk_b ?_; rw [Bool.eq_iff_iff]; simp [*]; omega)
    | (refine wk_eq ?_; simp [*]; omega)
    | (refine wk_eq ?_; split <;> simp_all [skipV]; done)
    | (exfalso; omega)
def aloneS (n : Int) (c : Cl) : Int :=
  if (decide (c.k < 1) || (decide (4 < c.k) || (!insideS ⟨c.tf, c.tt⟩ n || !insideS ⟨c.hf, c.ht⟩ n))) = true then 3 else
  if ((decide (c.k = 2) && (decide (c.fl < 0) || decide (c.hf ≤ c.fl))) || (!decide (c.k = 2) && !decide (c.fl = -1))) = true then 3 else
  if clashS (partsS 0 c) (partsS 0 c) sameR = true then 12 else 0
theorem alone_ok (n : Int) (c : Cl) (σ : AS) : ACalls Tryz.prog 178 [.sc (.int .i64 n), clV c] σ (Gives (.sc (.int .i64 (aloneS n c))) σ) No := by
  have h1 := fun σ => inside_ok ⟨c.tf, c.tt⟩ n σ
  have h2 := fun σ => inside_ok ⟨c.hf, c.ht⟩ n σ
  have hp := fun σ => parts_ok 0 c σ
  have hpl : (partsS 0 c).length ≤ 140737488355328 := by simp [partsS]; split <;> simp
  have hcl := fun σ => clash_ok (partsS 0 c) (partsS 0 c) .unk .unk false false hpl hpl 222 sameR same1_ok σ
  simp only [clV, snV, i64v_def, ptsV, fnV, aloneS] at h1 h2 hp hcl ⊢
  generalize insideS ⟨c.tf, c.tt⟩ n = b1 at *
  generalize insideS ⟨c.hf, c.ht⟩ n = b2 at *
  generalize clashS (partsS 0 c) (partsS 0 c) sameR = b3 at *
  generalize (partsS 0 c).map ptV = L at *
  generalize c.k = k at *
  generalize c.fl = fl at *
  refine ACalls.of_body Tryz.func178 rfl rfl (by simp [Tryz.ntmps178]) ?_
  refine gO (D178_XReg3 []) True.intro True.intro (k := ?_)
  intro id h_id
  cases b1 <;> cases b2 <;> cases b3
  all_goals
    repeat' (first
      | (with_reducible first | apply AWp.seq | apply AWp.block | refine And.intro (by first | omega | assumption | decide) ?_)
      | ((first | (with_reducible first | apply AWp.fork | apply AWp.region) | ((with_reducible apply AWp.drawS (id := 5) (t := sc_178_5_XReg3)); (exact mixed); kernel_rfl; kernel_rfl; (repeat (with_reducible first | apply PanQ.then | apply PanQ.block | apply PanQ.body | apply PanQ.no))) | ((with_reducible apply aCall.id); first | apply aCall.gives (h1 _) | apply aCall.gives (h2 _) | apply aCall.gives (hp _) | apply aCall.gives (hcl _)) | ((with_reducible apply pureCall.id); first | apply pureCall.gives (fun _ => h1 _) | apply pureCall.gives (fun _ => h2 _) | apply pureCall.gives (fun _ => hp _) | apply pureCall.gives (fun _ => hcl _))); simp -implicitDefEqProofs)
      | trivial
      | (with_reducible apply And.intro)
      | ((with_reducible first | apply AWp.ret | apply AWp.skip | apply AWp.exit); try simp -implicitDefEqProofs)
      | ((with_reducible first | apply condK.split | apply guardK.split | apply pureG.split) <;> (intro hc; (try simp -implicitDefEqProofs only [hc]); (try simp at hc)) <;> try simp -implicitDefEqProofs))
    all_goals (repeat' (with_reducible apply And.intro))
    all_goals first
      | exact AS.le_refl _
      | ((repeat (first | exact AS.le_refl _ | assumption | refine le_new (by simp [*]) ?_)); done)
      | (refine wk_eq ?_; simp_all [skipV]; done)
      | (refine wk_b ?_; rw [Bool.eq_iff_iff]; simp [*]; omega)
      | (refine wk_eq ?_; simp [*]; omega)
      | (refine wk_eq ?_; split <;> simp_all [skipV]; done)
      | (exfalso; omega)
end Rg
end Go.Proofs.YtknalmoackcpbaaGreat
