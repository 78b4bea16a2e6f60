/- Package regions: clash, alone, fits. -/
import Derived.Test.YthbmjmdmamapiaaReg2
set_option linter.unusedSimpArgs false
set_option linter.unusedVariables false
set_option maxRecDepth 100000
set_option maxHeartbeats 3200000
namespace Go.Proofs.Ythbmjmdmamapiaa
open Go Go.AW

def fnV (f : Nat) : AV := .sc (.func (.func f) #[] #[])

theorem clash2_ok (a b : Pt) (f ida idm : Nat) (may : Pt → Pt → Bool) (hm : ∀ σ x y, ACalls Try.prog f [ptV x, ptV y] σ (Gives (.sc (.bool (may x y))) σ) No) (σ : AS)
    (h1 : σ ida = some (.cells 64 (ptV a).cells)) (h2 : σ idm = some (.cells 81 [fnV f])) :
    ACalls Try.prog 85 [ptV b, .ptr ida 0, .ptr idm 0] σ (Gives (.sc (.bool (meetsS a.s b.s && !may a b))) σ) No := by
  have hme := fun σ => meets_ok a.s b.s σ
  have hm' := fun σ => hm σ a b
  simp only [ptV, fnV, snV, cells_agg] at h1 h2 hme hm' ⊢
  refine ACalls.of_body Try.func85 rfl rfl (by simp [Try.ntmps85]) ?_
  repeat (first
    | (with_reducible apply AWp.seq)
    | (with_reducible apply AWp.block)
    | ((with_reducible apply AWp.fork); simp -implicitDefEqProofs)
    | ((with_reducible apply AWp.region); simp -implicitDefEqProofs)
    | (with_reducible refine And.intro (by first | omega | assumption | decide) ?_)
    | ((with_reducible apply AWp.ret); try simp -implicitDefEqProofs)
    | ((with_reducible apply AWp.skip); try simp -implicitDefEqProofs)
    | ((with_reducible apply AWp.exit); try simp -implicitDefEqProofs))
  intro id h_id
  have n_ida_id : ¬ ida = id := by rintro rfl; rw [h1] at h_id; cases h_id
  have n_id_ida : ¬ id = ida := fun e => n_ida_id e.symm
  have n_idm_id : ¬ idm = id := by rintro rfl; rw [h2] at h_id; cases h_id
  have n_id_idm : ¬ id = idm := fun e => n_idm_id e.symm
  cases hM : meetsS a.s b.s with
  | true =>
    rw [hM] at hme
    repeat (first
      | (with_reducible apply AWp.seq)
      | (with_reducible apply AWp.block)
      | ((with_reducible apply AWp.fork); simp -implicitDefEqProofs [n_id_ida, n_ida_id, h1, n_id_idm, n_idm_id, h2])
      | ((with_reducible apply AWp.region); simp -implicitDefEqProofs [n_id_ida, n_ida_id, h1, n_id_idm, n_idm_id, h2])
      | (with_reducible refine And.intro (by first | omega | assumption | decide) ?_)
      | ((with_reducible show condK _ _ _); simp -implicitDefEqProofs [n_id_ida, n_ida_id, h1, n_id_idm, n_idm_id, h2])
      | ((with_reducible show guardK _ _ _ _ _ _ _ _ _); simp -implicitDefEqProofs [n_id_ida, n_ida_id, h1, n_id_idm, n_idm_id, h2])
      | ((with_reducible apply aCall.id); first
          | ((apply aCall.gives (hme _)); simp -implicitDefEqProofs [n_id_ida, n_ida_id, h1, n_id_idm, n_idm_id, h2])
          | ((apply aCall.gives (hm' _)); simp -implicitDefEqProofs [n_id_ida, n_ida_id, h1, n_id_idm, n_idm_id, h2]))
      | ((with_reducible apply AWp.ret); try simp -implicitDefEqProofs [n_id_ida, n_ida_id, h1, n_id_idm, n_idm_id, h2])
      | ((with_reducible apply AWp.skip); try simp -implicitDefEqProofs [n_id_ida, n_ida_id, h1, n_id_idm, n_idm_id, h2])
      | ((with_reducible apply AWp.exit); try simp -implicitDefEqProofs [n_id_ida, n_ida_id, h1, n_id_idm, n_idm_id, h2]))
    all_goals (repeat' (with_reducible apply And.intro))
    all_goals first
      | exact AS.le_refl _
      | ((repeat (first | exact AS.le_refl _ | assumption | refine le_new (by simp [*]) ?_)); done)
      | (refine wk_eq ?_; simp_all [skipV]; done)
      | (refine wk_b ?_; rw [Bool.eq_iff_iff]; simp [*]; omega)
      | (refine wk_eq ?_; simp [*]; omega)
      | (refine wk_eq ?_; split <;> simp_all [skipV]; done)
      | (exfalso; omega)
  | false =>
    rw [hM] at hme
    repeat (first
      | (with_reducible apply AWp.seq)
      | (with_reducible apply AWp.block)
      | ((with_reducible apply AWp.fork); simp -implicitDefEqProofs [n_id_ida, n_ida_id, h1, n_id_idm, n_idm_id, h2])
      | ((with_reducible apply AWp.region); simp -implicitDefEqProofs [n_id_ida, n_ida_id, h1, n_id_idm, n_idm_id, h2])
      | (with_reducible refine And.intro (by first | omega | assumption | decide) ?_)
      | ((with_reducible show condK _ _ _); simp -implicitDefEqProofs [n_id_ida, n_ida_id, h1, n_id_idm, n_idm_id, h2])
      | ((with_reducible show guardK _ _ _ _ _ _ _ _ _); simp -implicitDefEqProofs [n_id_ida, n_ida_id, h1, n_id_idm, n_idm_id, h2])
      | ((with_reducible apply aCall.id); first
          | ((apply aCall.gives (hme _)); simp -implicitDefEqProofs [n_id_ida, n_ida_id, h1, n_id_idm, n_idm_id, h2])
          | ((apply aCall.gives (hm' _)); simp -implicitDefEqProofs [n_id_ida, n_ida_id, h1, n_id_idm, n_idm_id, h2]))
      | ((with_reducible apply AWp.ret); try simp -implicitDefEqProofs [n_id_ida, n_ida_id, h1, n_id_idm, n_idm_id, h2])
      | ((with_reducible apply AWp.skip); try simp -implicitDefEqProofs [n_id_ida, n_ida_id, h1, n_id_idm, n_idm_id, h2])
      | ((with_reducible apply AWp.exit); try simp -implicitDefEqProofs [n_id_ida, n_ida_id, h1, n_id_idm, n_idm_id, h2]))
    all_goals (repeat' (with_reducible apply And.intro))
    all_goals first
      | exact AS.le_refl _
      | ((repeat (first | exact AS.le_refl _ | assumption | refine le_new (by simp [*]) ?_)); done)
      | (refine wk_eq ?_; simp_all [skipV]; done)
      | (refine wk_b ?_; rw [Bool.eq_iff_iff]; simp [*]; omega)
      | (refine wk_eq ?_; simp [*]; omega)
      | (refine wk_eq ?_; split <;> simp_all [skipV]; done)
      | (exfalso; omega)

theorem clash1_ok (a : Pt) (m : List Pt) (o : Own) (nl : Bool) (hl : m.length ≤ 140737488355328) (f idl idm : Nat) (may : Pt → Pt → Bool) (hm : ∀ σ x y, ACalls Try.prog f [ptV x, ptV y] σ (Gives (.sc (.bool (may x y))) σ) No) (σ : AS)
    (h1 : σ idl = some (.cells 59 [.lst 64 (m.map ptV) o nl])) (h2 : σ idm = some (.cells 81 [fnV f])) :
    ACalls Try.prog 84 [ptV a, .ptr idl 0, .ptr idm 0] σ (Gives (.sc (.bool (m.any fun b => meetsS a.s b.s && !may a b))) σ) No := by
  have hc := fun id (hid : σ id = none) (hne : ¬ idm = id) => contains_ok m o nl (.fn (.func 85) [] [.ptr id 0, .ptr idm 0]) (fun b => meetsS a.s b.s && !may a b) (σ.set id (.cells 64 (ptV a).cells)) hl
    (fun x _ => FnG.fn (clash2_ok a x f id idm may hm _ (by simp) (by simp [hne, h2])))
  simp only [ptV, fnV, cells_agg] at h1 h2 hc ⊢
  refine ACalls.of_body Try.func84 rfl rfl (by simp [Try.ntmps84]) ?_
  repeat (first
    | (with_reducible apply AWp.seq)
    | (with_reducible apply AWp.block)
    | ((with_reducible apply AWp.fork); simp -implicitDefEqProofs)
    | ((with_reducible apply AWp.region); simp -implicitDefEqProofs)
    | (with_reducible refine And.intro (by first | omega | assumption | decide) ?_)
    | ((with_reducible apply AWp.ret); try simp -implicitDefEqProofs)
    | ((with_reducible apply AWp.skip); try simp -implicitDefEqProofs)
    | ((with_reducible apply AWp.exit); try simp -implicitDefEqProofs))
  intro id h_id
  have n_idl_id : ¬ idl = id := by rintro rfl; rw [h1] at h_id; cases h_id
  have n_id_idl : ¬ id = idl := fun e => n_idl_id e.symm
  have n_idm_id : ¬ idm = id := by rintro rfl; rw [h2] at h_id; cases h_id
  have n_id_idm : ¬ id = idm := fun e => n_idm_id e.symm
  repeat (first
    | (with_reducible apply AWp.seq)
    | (with_reducible apply AWp.block)
    | ((with_reducible apply AWp.fork); simp -implicitDefEqProofs [n_id_idl, n_idl_id, h1, n_id_idm, n_idm_id, h2])
    | ((with_reducible apply AWp.region); simp -implicitDefEqProofs [n_id_idl, n_idl_id, h1, n_id_idm, n_idm_id, h2])
    | (with_reducible refine And.intro (by first | omega | assumption | decide) ?_)
    | ((with_reducible show condK _ _ _); simp -implicitDefEqProofs [n_id_idl, n_idl_id, h1, n_id_idm, n_idm_id, h2])
    | ((with_reducible show guardK _ _ _ _ _ _ _ _ _); simp -implicitDefEqProofs [n_id_idl, n_idl_id, h1, n_id_idm, n_idm_id, h2])
    | ((with_reducible apply aCall.id); first
        | ((apply aCall.gives (hc id h_id n_idm_id)); simp -implicitDefEqProofs [n_id_idl, n_idl_id, h1, n_id_idm, n_idm_id, h2]))
    | ((with_reducible apply AWp.ret); try simp -implicitDefEqProofs [n_id_idl, n_idl_id, h1, n_id_idm, n_idm_id, h2])
    | ((with_reducible apply AWp.skip); try simp -implicitDefEqProofs [n_id_idl, n_idl_id, h1, n_id_idm, n_idm_id, h2])
    | ((with_reducible apply AWp.exit); try simp -implicitDefEqProofs [n_id_idl, n_idl_id, h1, n_id_idm, n_idm_id, h2]))
  all_goals (repeat' (with_reducible apply And.intro))
  all_goals first
    | exact AS.le_refl _
    | ((repeat (first | exact AS.le_refl _ | assumption | refine le_new (by simp [*]) ?_)); done)
    | (refine wk_eq ?_; simp_all [skipV]; done)
    | (refine wk_b ?_; rw [Bool.eq_iff_iff]; simp [*]; omega)
    | (refine wk_eq ?_; simp [*]; omega)
    | (refine wk_eq ?_; split <;> simp_all [skipV]; done)
    | (exfalso; omega)

def clashS (l m : List Pt) (may : Pt → Pt → Bool) : Bool := l.any fun a => m.any fun b => meetsS a.s b.s && !may a b

theorem clash_ok (l m : List Pt) (o1 o2 : Own) (n1 n2 : Bool) (hl : l.length ≤ 140737488355328) (hl2 : m.length ≤ 140737488355328) (f : Nat) (may : Pt → Pt → Bool) (hm : ∀ σ x y, ACalls Try.prog f [ptV x, ptV y] σ (Gives (.sc (.bool (may x y))) σ) No) (σ : AS) :
    ACalls Try.prog 65 [.lst 64 (l.map ptV) o1 n1, .lst 64 (m.map ptV) o2 n2, fnV f] σ (Gives (.sc (.bool (clashS l m may))) σ) No := by
  have hc := fun id id2 (hid : ¬ id = id2) => contains_ok l o1 n1 (.fn (.func 84) [] [.ptr id 0, .ptr id2 0]) (fun a => m.any fun b => meetsS a.s b.s && !may a b)
    ((σ.set id (.cells 59 [.lst 64 (m.map ptV) o2 n2])).set id2 (.cells 81 [fnV f])) hl
    (fun x _ => FnG.fn (clash1_ok x m o2 n2 hl2 f id id2 may hm _ (by simp [hid]) (by simp)))
  simp only [fnV] at hc ⊢
  refine ACalls.of_body Try.func65 rfl rfl (by simp [Try.ntmps65]) ?_
  repeat (first
    | (with_reducible apply AWp.seq)
    | (with_reducible apply AWp.block)
    | ((with_reducible apply AWp.fork); simp -implicitDefEqProofs)
    | ((with_reducible apply AWp.region); simp -implicitDefEqProofs)
    | (with_reducible refine And.intro (by first | omega | assumption | decide) ?_)
    | ((with_reducible apply AWp.ret); try simp -implicitDefEqProofs)
    | ((with_reducible apply AWp.skip); try simp -implicitDefEqProofs)
    | ((with_reducible apply AWp.exit); try simp -implicitDefEqProofs))
  intro id h_id
  repeat (first
    | (with_reducible apply AWp.seq)
    | (with_reducible apply AWp.block)
    | ((with_reducible apply AWp.fork); simp -implicitDefEqProofs)
    | ((with_reducible apply AWp.region); simp -implicitDefEqProofs)
    | (with_reducible refine And.intro (by first | omega | assumption | decide) ?_)
    | ((with_reducible apply AWp.ret); try simp -implicitDefEqProofs)
    | ((with_reducible apply AWp.skip); try simp -implicitDefEqProofs)
    | ((with_reducible apply AWp.exit); try simp -implicitDefEqProofs))
  intro id2 n_id2_id h_id2
  have n_id_id2 : ¬ id = id2 := fun e => n_id2_id e.symm
  repeat (first
    | (with_reducible apply AWp.seq)
    | (with_reducible apply AWp.block)
    | ((with_reducible apply AWp.fork); simp -implicitDefEqProofs [n_id2_id, n_id_id2])
    | ((with_reducible apply AWp.region); simp -implicitDefEqProofs [n_id2_id, n_id_id2])
    | (with_reducible refine And.intro (by first | omega | assumption | decide) ?_)
    | ((with_reducible show condK _ _ _); simp -implicitDefEqProofs [n_id2_id, n_id_id2])
    | ((with_reducible show guardK _ _ _ _ _ _ _ _ _); simp -implicitDefEqProofs [n_id2_id, n_id_id2])
    | ((with_reducible apply aCall.id); first
        | ((apply aCall.gives (hc id id2 n_id_id2)); simp -implicitDefEqProofs [n_id2_id, n_id_id2]))
    | ((with_reducible apply AWp.ret); try simp -implicitDefEqProofs [n_id2_id, n_id_id2])
    | ((with_reducible apply AWp.skip); try simp -implicitDefEqProofs [n_id2_id, n_id_id2])
    | ((with_reducible apply AWp.exit); try simp -implicitDefEqProofs [n_id2_id, n_id_id2]))
  refine ⟨Wk.refl _, le_new ?_ (le_new h_id (AS.le_refl _))⟩
  simp [h_id2, n_id2_id]

def sameR (a b : Pt) : Bool := decide (a.k = b.k) && decide (a.p = b.p)
theorem same1_ok (σ : AS) (a b : Pt) : ACalls Try.prog 67 [ptV a, ptV b] σ (Gives (.sc (.bool (sameR a b))) σ) No := by
  refine ACalls.of_body Try.func67 rfl rfl (by simp [Try.ntmps67]) ?_
  simp only [ptV, sameR]
  repeat (first
    | (with_reducible apply AWp.seq)
    | (with_reducible apply AWp.block)
    | ((with_reducible apply AWp.fork); simp -implicitDefEqProofs)
    | ((with_reducible apply AWp.region); simp -implicitDefEqProofs)
    | (with_reducible refine And.intro (by first | omega | assumption | decide) ?_)
    | ((with_reducible apply AWp.ret); try simp -implicitDefEqProofs)
    | ((with_reducible apply AWp.skip); try simp -implicitDefEqProofs)
    | ((with_reducible apply AWp.exit); try simp -implicitDefEqProofs))
  intro id h_id
  repeat (first
    | (with_reducible apply AWp.seq)
    | (with_reducible apply AWp.block)
    | ((with_reducible apply AWp.fork); simp -implicitDefEqProofs)
    | ((with_reducible apply AWp.region); simp -implicitDefEqProofs)
    | (with_reducible refine And.intro (by first | omega | assumption | decide) ?_)
    | ((with_reducible apply AWp.ret); try simp -implicitDefEqProofs)
    | ((with_reducible apply AWp.skip); try simp -implicitDefEqProofs)
    | ((with_reducible apply AWp.exit); try simp -implicitDefEqProofs))
  intro id2 n_id2_id h_id2
  have n_id_id2 : ¬ id = id2 := fun e => n_id2_id e.symm
  repeat (first
    | (with_reducible apply AWp.seq)
    | (with_reducible apply AWp.block)
    | ((with_reducible apply AWp.fork); simp -implicitDefEqProofs [n_id2_id, n_id_id2])
    | ((with_reducible apply AWp.region); simp -implicitDefEqProofs [n_id2_id, n_id_id2])
    | (with_reducible refine And.intro (by first | omega | assumption | decide) ?_)
    | ((with_reducible show condK _ _ _); simp -implicitDefEqProofs [n_id2_id, n_id_id2])
    | ((with_reducible show guardK _ _ _ _ _ _ _ _ _); simp -implicitDefEqProofs [n_id2_id, n_id_id2])
    | ((with_reducible apply AWp.ret); try simp -implicitDefEqProofs [n_id2_id, n_id_id2])
    | ((with_reducible apply AWp.skip); try simp -implicitDefEqProofs [n_id2_id, n_id_id2])
    | ((with_reducible apply AWp.exit); try simp -implicitDefEqProofs [n_id2_id, n_id_id2]))
  all_goals (repeat' (with_reducible apply And.intro))
  all_goals first
    | exact AS.le_refl _
    | ((repeat (first | exact AS.le_refl _ | assumption | refine le_new (by simp [*]) ?_)); done)
    | (refine wk_eq ?_; simp_all [skipV]; done)
    | (refine wk_b ?_; rw [Bool.eq_iff_iff]; simp [*]; omega)
    | (refine wk_eq ?_; simp [*]; omega)
    | (refine wk_eq ?_; split <;> simp_all [skipV]; done)
    | (exfalso; omega)

theorem never_ok (σ : AS) (a b : Pt) : ACalls Try.prog 73 [ptV a, ptV b] σ (Gives (.sc (.bool false)) σ) No := by
  refine ACalls.of_body Try.func73 rfl rfl (by simp [Try.ntmps73]) ?_
  simp only [ptV]
  repeat (first
    | (with_reducible apply AWp.seq)
    | (with_reducible apply AWp.block)
    | ((with_reducible apply AWp.fork); simp -implicitDefEqProofs)
    | ((with_reducible apply AWp.region); simp -implicitDefEqProofs)
    | (with_reducible refine And.intro (by first | omega | assumption | decide) ?_)
    | ((with_reducible apply AWp.ret); try simp -implicitDefEqProofs)
    | ((with_reducible apply AWp.skip); try simp -implicitDefEqProofs)
    | ((with_reducible apply AWp.exit); try simp -implicitDefEqProofs))
  intro id h_id
  repeat (first
    | (with_reducible apply AWp.seq)
    | (with_reducible apply AWp.block)
    | ((with_reducible apply AWp.fork); simp -implicitDefEqProofs)
    | ((with_reducible apply AWp.region); simp -implicitDefEqProofs)
    | (with_reducible refine And.intro (by first | omega | assumption | decide) ?_)
    | ((with_reducible apply AWp.ret); try simp -implicitDefEqProofs)
    | ((with_reducible apply AWp.skip); try simp -implicitDefEqProofs)
    | ((with_reducible apply AWp.exit); try simp -implicitDefEqProofs))
  intro id2 n_id2_id h_id2
  have n_id_id2 : ¬ id = id2 := fun e => n_id2_id e.symm
  repeat (first
    | (with_reducible apply AWp.seq)
    | (with_reducible apply AWp.block)
    | ((with_reducible apply AWp.fork); simp -implicitDefEqProofs [n_id2_id, n_id_id2])
    | ((with_reducible apply AWp.region); simp -implicitDefEqProofs [n_id2_id, n_id_id2])
    | (with_reducible refine And.intro (by first | omega | assumption | decide) ?_)
    | ((with_reducible show condK _ _ _); simp -implicitDefEqProofs [n_id2_id, n_id_id2])
    | ((with_reducible show guardK _ _ _ _ _ _ _ _ _); simp -implicitDefEqProofs [n_id2_id, n_id_id2])
    | ((with_reducible apply AWp.ret); try simp -implicitDefEqProofs [n_id2_id, n_id_id2])
    | ((with_reducible apply AWp.skip); try simp -implicitDefEqProofs [n_id2_id, n_id_id2])
    | ((with_reducible apply AWp.exit); try simp -implicitDefEqProofs [n_id2_id, n_id_id2]))
  all_goals (repeat' (with_reducible apply And.intro))
  all_goals first
    | exact AS.le_refl _
    | ((repeat (first | exact AS.le_refl _ | assumption | refine le_new (by simp [*]) ?_)); done)
    | (refine wk_eq ?_; simp_all [skipV]; done)
    | (refine wk_b ?_; rw [Bool.eq_iff_iff]; simp [*]; omega)
    | (refine wk_eq ?_; simp [*]; omega)
    | (refine wk_eq ?_; split <;> simp_all [skipV]; done)
    | (exfalso; omega)

theorem tries_ok (σ : AS) (a b : Pt) : ACalls Try.prog 72 [ptV a, ptV b] σ (Gives (.sc (.bool (decide (a.p = 1) && decide (b.p = 1)))) σ) No := by
  refine ACalls.of_body Try.func72 rfl rfl (by simp [Try.ntmps72]) ?_
  simp only [ptV]
  repeat (first
    | (with_reducible apply AWp.seq)
    | (with_reducible apply AWp.block)
    | ((with_reducible apply AWp.fork); simp -implicitDefEqProofs)
    | ((with_reducible apply AWp.region); simp -implicitDefEqProofs)
    | (with_reducible refine And.intro (by first | omega | assumption | decide) ?_)
    | ((with_reducible apply AWp.ret); try simp -implicitDefEqProofs)
    | ((with_reducible apply AWp.skip); try simp -implicitDefEqProofs)
    | ((with_reducible apply AWp.exit); try simp -implicitDefEqProofs))
  intro id h_id
  repeat (first
    | (with_reducible apply AWp.seq)
    | (with_reducible apply AWp.block)
    | ((with_reducible apply AWp.fork); simp -implicitDefEqProofs)
    | ((with_reducible apply AWp.region); simp -implicitDefEqProofs)
    | (with_reducible refine And.intro (by first | omega | assumption | decide) ?_)
    | ((with_reducible apply AWp.ret); try simp -implicitDefEqProofs)
    | ((with_reducible apply AWp.skip); try simp -implicitDefEqProofs)
    | ((with_reducible apply AWp.exit); try simp -implicitDefEqProofs))
  intro id2 n_id2_id h_id2
  have n_id_id2 : ¬ id = id2 := fun e => n_id2_id e.symm
  repeat' (first
    | (with_reducible apply AWp.seq)
    | (with_reducible apply AWp.block)
    | ((with_reducible apply AWp.fork); simp -implicitDefEqProofs [n_id2_id, n_id_id2])
    | ((with_reducible apply AWp.region); simp -implicitDefEqProofs [n_id2_id, n_id_id2])
    | (with_reducible refine And.intro (by first | omega | assumption | decide) ?_)
    | ((with_reducible show condK _ _ _); simp -implicitDefEqProofs [n_id2_id, n_id_id2])
    | ((with_reducible show guardK _ _ _ _ _ _ _ _ _); simp -implicitDefEqProofs [n_id2_id, n_id_id2])
    | trivial
    | (with_reducible apply And.intro)
    | ((with_reducible apply AWp.ret); try simp -implicitDefEqProofs [n_id2_id, n_id_id2])
    | ((with_reducible apply AWp.skip); try simp -implicitDefEqProofs [n_id2_id, n_id_id2])
    | ((with_reducible apply AWp.exit); try simp -implicitDefEqProofs [n_id2_id, n_id_id2])
    | ((with_reducible apply condK.split) <;> (intro hc; (try simp -implicitDefEqProofs only [hc]); (try simp at hc)) <;> try simp -implicitDefEqProofs [n_id2_id, n_id_id2])
    | ((with_reducible apply guardK.split) <;> (intro hc; (try simp -implicitDefEqProofs only [hc]); (try simp at hc)) <;> try simp -implicitDefEqProofs [n_id2_id, n_id_id2])
    | ((with_reducible apply pureG.split) <;> (intro hc; (try simp -implicitDefEqProofs only [hc]); (try simp at hc)) <;> try simp -implicitDefEqProofs [n_id2_id, n_id_id2]))
  all_goals (repeat' (with_reducible apply And.intro))
  all_goals first
    | exact AS.le_refl _
    | ((repeat (first | exact AS.le_refl _ | assumption | refine le_new (by simp [*]) ?_)); done)
    | (refine wk_eq ?_; simp_all [skipV]; done)
    | (refine wk_b ?_; rw [Bool.eq_iff_iff]; simp [*]; omega)
    | (refine wk_eq ?_; simp [*]; omega)
    | (refine wk_eq ?_; split <;> simp_all [skipV]; done)
    | (exfalso; omega)

theorem fits1_ok (x y : Pt) (id : Nat) (σ : AS) (h1 : σ id = some (.cells 64 (ptV x).cells)) :
    ACalls Try.prog 69 [ptV y, .ptr id 0] σ (Gives (.sc (.bool (!withinS y.s x.s))) σ) No := by
  have hw := fun σ => within_ok y.s x.s σ
  simp only [ptV, snV, cells_agg] at h1 hw ⊢
  refine ACalls.of_body Try.func69 rfl rfl (by simp [Try.ntmps69]) ?_
  repeat (first
    | (with_reducible apply AWp.seq)
    | (with_reducible apply AWp.block)
    | ((with_reducible apply AWp.fork); simp -implicitDefEqProofs)
    | ((with_reducible apply AWp.region); simp -implicitDefEqProofs)
    | (with_reducible refine And.intro (by first | omega | assumption | decide) ?_)
    | ((with_reducible apply AWp.ret); try simp -implicitDefEqProofs)
    | ((with_reducible apply AWp.skip); try simp -implicitDefEqProofs)
    | ((with_reducible apply AWp.exit); try simp -implicitDefEqProofs))
  intro id2 h_id2
  have n_id_id2 : ¬ id = id2 := by rintro rfl; rw [h1] at h_id2; cases h_id2
  have n_id2_id : ¬ id2 = id := fun e => n_id_id2 e.symm
  repeat (first
    | (with_reducible apply AWp.seq)
    | (with_reducible apply AWp.block)
    | ((with_reducible apply AWp.fork); simp -implicitDefEqProofs [n_id2_id, n_id_id2, h1])
    | ((with_reducible apply AWp.region); simp -implicitDefEqProofs [n_id2_id, n_id_id2, h1])
    | (with_reducible refine And.intro (by first | omega | assumption | decide) ?_)
    | ((with_reducible show condK _ _ _); simp -implicitDefEqProofs [n_id2_id, n_id_id2, h1])
    | ((with_reducible show guardK _ _ _ _ _ _ _ _ _); simp -implicitDefEqProofs [n_id2_id, n_id_id2, h1])
    | ((with_reducible apply aCall.id); first
        | ((apply aCall.gives (hw _)); simp -implicitDefEqProofs [n_id2_id, n_id_id2, h1]))
    | ((with_reducible apply AWp.ret); try simp -implicitDefEqProofs [n_id2_id, n_id_id2, h1])
    | ((with_reducible apply AWp.skip); try simp -implicitDefEqProofs [n_id2_id, n_id_id2, h1])
    | ((with_reducible apply AWp.exit); try simp -implicitDefEqProofs [n_id2_id, n_id_id2, h1]))
  all_goals (repeat' (with_reducible apply And.intro))
  all_goals first
    | exact AS.le_refl _
    | ((repeat (first | exact AS.le_refl _ | assumption | refine le_new (by simp [*]) ?_)); done)
    | (refine wk_eq ?_; simp_all [skipV]; done)
    | (refine wk_b ?_; rw [Bool.eq_iff_iff]; simp [*]; omega)
    | (refine wk_eq ?_; simp [*]; omega)
    | (refine wk_eq ?_; split <;> simp_all [skipV]; done)
    | (exfalso; omega)

theorem fits2_ok (x y : Pt) (id : Nat) (σ : AS) (h1 : σ id = some (.cells 64 (ptV x).cells)) :
    ACalls Try.prog 71 [ptV y, .ptr id 0] σ (Gives (.sc (.bool (!decide (y.p = 1) && decide (y.s.f = x.s.f)))) σ) No := by
  simp only [ptV, snV, cells_agg] at h1 ⊢
  refine ACalls.of_body Try.func71 rfl rfl (by simp [Try.ntmps71]) ?_
  repeat (first
    | (with_reducible apply AWp.seq)
    | (with_reducible apply AWp.block)
    | ((with_reducible apply AWp.fork); simp -implicitDefEqProofs)
    | ((with_reducible apply AWp.region); simp -implicitDefEqProofs)
    | (with_reducible refine And.intro (by first | omega | assumption | decide) ?_)
    | ((with_reducible apply AWp.ret); try simp -implicitDefEqProofs)
    | ((with_reducible apply AWp.skip); try simp -implicitDefEqProofs)
    | ((with_reducible apply AWp.exit); try simp -implicitDefEqProofs))
  intro id2 h_id2
  have n_id_id2 : ¬ id = id2 := by rintro rfl; rw [h1] at h_id2; cases h_id2
  have n_id2_id : ¬ id2 = id := fun e => n_id_id2 e.symm
  repeat' (first
    | (with_reducible apply AWp.seq)
    | (with_reducible apply AWp.block)
    | ((with_reducible apply AWp.fork); simp -implicitDefEqProofs [n_id2_id, n_id_id2, h1])
    | ((with_reducible apply AWp.region); simp -implicitDefEqProofs [n_id2_id, n_id_id2, h1])
    | (with_reducible refine And.intro (by first | omega | assumption | decide) ?_)
    | ((with_reducible show condK _ _ _); simp -implicitDefEqProofs [n_id2_id, n_id_id2, h1])
    | ((with_reducible show guardK _ _ _ _ _ _ _ _ _); simp -implicitDefEqProofs [n_id2_id, n_id_id2, h1])
    | trivial
    | (with_reducible apply And.intro)
    | ((with_reducible apply AWp.ret); try simp -implicitDefEqProofs [n_id2_id, n_id_id2, h1])
    | ((with_reducible apply AWp.skip); try simp -implicitDefEqProofs [n_id2_id, n_id_id2, h1])
    | ((with_reducible apply AWp.exit); try simp -implicitDefEqProofs [n_id2_id, n_id_id2, h1])
    | ((with_reducible apply condK.split) <;> (intro hc; (try simp -implicitDefEqProofs only [hc]); (try simp at hc)) <;> try simp -implicitDefEqProofs [n_id2_id, n_id_id2, h1])
    | ((with_reducible apply guardK.split) <;> (intro hc; (try simp -implicitDefEqProofs only [hc]); (try simp at hc)) <;> try simp -implicitDefEqProofs [n_id2_id, n_id_id2, h1])
    | ((with_reducible apply pureG.split) <;> (intro hc; (try simp -implicitDefEqProofs only [hc]); (try simp at hc)) <;> try simp -implicitDefEqProofs [n_id2_id, n_id_id2, h1]))
  all_goals (repeat' (with_reducible apply And.intro))
  all_goals first
    | exact AS.le_refl _
    | ((repeat (first | exact AS.le_refl _ | assumption | refine le_new (by simp [*]) ?_)); done)
    | (refine wk_eq ?_; simp_all [skipV]; done)
    | (refine wk_b ?_; rw [Bool.eq_iff_iff]; simp [*]; omega)
    | (refine wk_eq ?_; simp [*]; omega)
    | (refine wk_eq ?_; split <;> simp_all [skipV]; done)
    | (exfalso; omega)


def aloneS (n : Int) (c : Cl) : Int :=
  if (decide (c.k < 1) || (decide (4 < c.k) || (!insideS ⟨c.tf, c.tt⟩ n || !insideS ⟨c.hf, c.ht⟩ n))) = true then 3 else
  if ((decide (c.k = 2) && (decide (c.fl < 0) || decide (c.hf ≤ c.fl))) || (!decide (c.k = 2) && !decide (c.fl = -1))) = true then 3 else
  if clashS (partsS 0 c) (partsS 0 c) sameR = true then 12 else 0

theorem alone_ok (n : Int) (c : Cl) (σ : AS) : ACalls Try.prog 42 [.sc (.int .i64 n), clV c] σ (Gives (.sc (.int .i64 (aloneS n c))) σ) No := by
  have h1 := fun σ => inside_ok ⟨c.tf, c.tt⟩ n σ
  have h2 := fun σ => inside_ok ⟨c.hf, c.ht⟩ n σ
  have hp := fun σ => parts_ok 0 c σ
  have hpl : (partsS 0 c).length ≤ 140737488355328 := by simp [partsS]; split <;> simp
  have hcl := fun σ => clash_ok (partsS 0 c) (partsS 0 c) .unk .unk false false hpl hpl 67 sameR same1_ok σ
  simp only [clV, snV, i64v_def, ptsV, fnV, aloneS] at h1 h2 hp hcl ⊢
  generalize insideS ⟨c.tf, c.tt⟩ n = b1 at *
  generalize insideS ⟨c.hf, c.ht⟩ n = b2 at *
  generalize clashS (partsS 0 c) (partsS 0 c) sameR = b3 at *
  generalize (partsS 0 c).map ptV = L at *
  generalize c.k = k at *
  generalize c.fl = fl at *
  refine ACalls.of_body Try.func42 rfl rfl (by simp [Try.ntmps42]) ?_
  repeat (first
    | (with_reducible apply AWp.seq)
    | (with_reducible apply AWp.block)
    | ((with_reducible apply AWp.fork); simp -implicitDefEqProofs)
    | ((with_reducible apply AWp.region); simp -implicitDefEqProofs)
    | (with_reducible refine And.intro (by first | omega | assumption | decide) ?_)
    | (((with_reducible apply AWp.drawS (id := 5) (t := (Sch.read 0 (Sch.pure 1 (Sch.read 2 (Sch.pure 3 (Sch.alt 4 Sch.done Sch.none))))))); (exact mixed); kernel_rfl; kernel_rfl; (repeat (with_reducible first | apply PanQ.then | apply PanQ.block | apply PanQ.body | apply PanQ.no))); simp -implicitDefEqProofs)
    | ((with_reducible apply AWp.ret); try simp -implicitDefEqProofs)
    | ((with_reducible apply AWp.skip); try simp -implicitDefEqProofs)
    | ((with_reducible apply AWp.exit); try simp -implicitDefEqProofs))
  intro id h_id
  cases b1 <;> cases b2 <;> cases b3
  all_goals
    repeat' (first
      | (with_reducible apply AWp.seq)
      | (with_reducible apply AWp.block)
      | ((with_reducible apply AWp.fork); simp -implicitDefEqProofs)
      | ((with_reducible apply AWp.region); simp -implicitDefEqProofs)
      | (with_reducible refine And.intro (by first | omega | assumption | decide) ?_)
      | trivial
      | (with_reducible apply And.intro)
      | (((with_reducible apply AWp.drawS (id := 5) (t := (Sch.read 0 (Sch.pure 1 (Sch.read 2 (Sch.pure 3 (Sch.alt 4 Sch.done Sch.none))))))); (exact mixed); kernel_rfl; kernel_rfl; (repeat (with_reducible first | apply PanQ.then | apply PanQ.block | apply PanQ.body | apply PanQ.no))); simp -implicitDefEqProofs)
      | ((with_reducible apply aCall.id); first
          | ((apply aCall.gives (h1 _)); simp -implicitDefEqProofs)
          | ((apply aCall.gives (h2 _)); simp -implicitDefEqProofs)
          | ((apply aCall.gives (hp _)); simp -implicitDefEqProofs)
          | ((apply aCall.gives (hcl _)); simp -implicitDefEqProofs))
      | ((with_reducible apply pureCall.id); first
          | ((apply pureCall.gives (fun _ => h1 _)); simp -implicitDefEqProofs)
          | ((apply pureCall.gives (fun _ => h2 _)); simp -implicitDefEqProofs)
          | ((apply pureCall.gives (fun _ => hp _)); simp -implicitDefEqProofs)
          | ((apply pureCall.gives (fun _ => hcl _)); simp -implicitDefEqProofs))
      | ((with_reducible apply AWp.ret); try simp -implicitDefEqProofs)
      | ((with_reducible apply AWp.skip); try simp -implicitDefEqProofs)
      | ((with_reducible apply AWp.exit); try simp -implicitDefEqProofs)
      | ((with_reducible apply condK.split) <;> (intro hc; (try simp -implicitDefEqProofs only [hc]); (try simp at hc)) <;> try simp -implicitDefEqProofs)
      | ((with_reducible apply guardK.split) <;> (intro hc; (try simp -implicitDefEqProofs only [hc]); (try simp at hc)) <;> try simp -implicitDefEqProofs)
      | ((with_reducible apply pureG.split) <;> (intro hc; (try simp -implicitDefEqProofs only [hc]); (try simp at hc)) <;> try simp -implicitDefEqProofs))
    all_goals (repeat' (with_reducible apply And.intro))
    all_goals first
      | exact AS.le_refl _
      | ((repeat (first | exact AS.le_refl _ | assumption | refine le_new (by simp [*]) ?_)); done)
      | (refine wk_eq ?_; simp_all [skipV]; done)
      | (refine wk_b ?_; rw [Bool.eq_iff_iff]; simp [*]; omega)
      | (refine wk_eq ?_; simp [*]; omega)
      | (refine wk_eq ?_; split <;> simp_all [skipV]; done)
      | (exfalso; omega)

end Go.Proofs.Ythbmjmdmamapiaa
