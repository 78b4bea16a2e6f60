/- Package sigs: types that may stand there; lists. -/
import Derived.Test.YtplphldpkliakaaSig3
set_option linter.unusedSimpArgs false
set_option linter.unusedVariables false
set_option maxRecDepth 100000
set_option maxHeartbeats 3200000
namespace Go.Proofs.Ytplphldpkliakaa
namespace Sg
open Go Go.AW

theorem tyV_def (t : Ty) : tyV t = .agg [.sc (.int .i64 t.kind), .sc (.int .i64 t.index), .sc (.int .i64 t.dims), .sc (.bool t.ref)] := rfl
theorem eTy_le {b : List UInt8} {a : Nat} {t : Ty} {a' : Nat} (h : eTy b a = .ok (t, a')) : a' ≤ b.length := by have := at_ty h; have := this.2.1.len; omega
theorem eMay_le {ok : Ty → Bool} {b : List UInt8} {a : Nat} {t : Ty} {a' : Nat} (h : eMay ok b a = .ok (t, a')) : a' ≤ b.length := by have := at_may h; have := this.2.2.1.len; omega

theorem may_ok (okT : Ty → Bool) (fv : AV) (hfv : ∀ (σ : AS) (t : Ty), FnG Try.prog σ fv [tyV t] (.sc (.bool (okT t)))) (id : Nat) (b : List UInt8) (a : Nat) (nl : Bool) (σ : AS) (h : σ id = some (rdC b a nl)) (ha : a ≤ b.length) (hnl : nl = true → b = []) (hb : b.length ≤ 100000) :
    ACalls Try.prog 51 [rdV id, fv] σ (RD (eMay okT b a) tyV b nl id σ) (TD (eMay okT b a) b nl id σ) := by
  have ht := fun σ h => typ_ok id b a nl σ h ha hnl hb
  refine ACalls.of_body Try.func51 rfl rfl (by simp [Try.ntmps51]) ?_
  simp only [rdV] at ht ⊢
  repeat (first
    | (with_reducible first | apply AWp.seq | apply AWp.block | refine And.intro (by first | omega | assumption | decide) ?_)
    | ((first | (with_reducible first | apply AWp.fork | apply AWp.region)); simp -implicitDefEqProofs)
    | ((with_reducible first | apply AWp.ret | apply AWp.skip | apply AWp.exit); try simp -implicitDefEqProofs))
  intro id1 h_id1
  repeat (first
    | (with_reducible first | apply AWp.seq | apply AWp.block | refine And.intro (by first | omega | assumption | decide) ?_)
    | ((first | (with_reducible first | apply AWp.fork | apply AWp.region)); simp -implicitDefEqProofs)
    | ((with_reducible first | apply AWp.ret | apply AWp.skip | apply AWp.exit); try simp -implicitDefEqProofs))
  intro id2 n_id2_id1 h_id2
  have n_id1_id2 : ¬ id1 = id2 := fun e => n_id2_id1 e.symm
  have n_id_id1 : ¬ id = id1 := by rintro rfl; rw [h] at h_id1; cases h_id1
  have n_id1_id : ¬ id1 = id := fun e => n_id_id1 e.symm
  have n_id_id2 : ¬ id = id2 := by rintro rfl; rw [h] at h_id2; cases h_id2
  have n_id2_id : ¬ id2 = id := fun e => n_id_id2 e.symm
  have hfin : ∀ (x1 x2 y : ABlk), AS.le (σ.set id y) (((σ.set id1 x1).set id2 x2).set id y) := fun x1 x2 y => le_set (AS.le_set (AS.le_set (AS.le_refl _) h_id1) h_id2)
  cases hT : eTy b a with
  | error e =>
    have hX : eMay okT b a = .error e := by unfold eMay; rw [hT]
    have ht1 := fun σ h => RD.bad (ht σ h) hT
    repeat (first
      | (with_reducible first | apply AWp.seq | apply AWp.block | refine And.intro (by first | omega | assumption | decide) ?_)
      | ((first | (with_reducible first | apply AWp.fork | apply AWp.region | show condK _ _ _ | show guardK _ _ _ _ _ _ _ _ _) | ((with_reducible apply aCall.id); first | apply (thr_ (ht1 _ (by simp [n_id_id1, n_id_id2, h]))))); simp -implicitDefEqProofs [n_id2_id1, n_id1_id2, n_id1_id, n_id_id1, h, n_id2_id, n_id_id2])
      | ((with_reducible first | apply AWp.ret | apply AWp.skip | apply AWp.exit); try simp -implicitDefEqProofs [n_id2_id1, n_id1_id2, n_id1_id, n_id_id1, h, n_id2_id, n_id_id2]))
    intro x
    exact ⟨_, hfin _ _ _, e, hX, rfl, x, rfl⟩
  | ok y =>
    obtain ⟨t, a1⟩ := y
    have ht1 := fun σ h => RD.ok (ht σ h) hT
    simp only [tyV_def] at ht1 hfv
    repeat (first
      | (with_reducible first | apply AWp.seq | apply AWp.block | refine And.intro (by first | omega | assumption | decide) ?_)
      | ((first | (with_reducible first | apply AWp.fork | apply AWp.region | show condK _ _ _ | show guardK _ _ _ _ _ _ _ _ _) | ((with_reducible apply aCall.id); first | apply aCall.gives (ht1 _ (by simp [n_id_id1, n_id_id2, h])))); simp -implicitDefEqProofs [n_id2_id1, n_id1_id2, n_id1_id, n_id_id1, h, n_id2_id, n_id_id2])
      | ((with_reducible first | apply AWp.ret | apply AWp.skip | apply AWp.exit); try simp -implicitDefEqProofs [n_id2_id1, n_id1_id2, n_id1_id, n_id_id1, h, n_id2_id, n_id_id2]))
    intro id3 n_id3_id n_id3_id2 n_id3_id1 h_id3
    have n_id_id3 : ¬ id = id3 := fun e => n_id3_id e.symm
    have n_id2_id3 : ¬ id2 = id3 := fun e => n_id3_id2 e.symm
    have n_id1_id3 : ¬ id1 = id3 := fun e => n_id3_id1 e.symm
    have hf := fun σ => hfv σ t
    cases ho : okT t with
    | true =>
      have hX : eMay okT b a = .ok (t, a1) := by unfold eMay; rw [hT]; simp [ho]
      rw [ho] at hf
      have hneed := fun σ => need_ok 10 σ
      repeat (first
        | (with_reducible first | apply AWp.seq | apply AWp.block | refine And.intro (by first | omega | assumption | decide) ?_)
        | ((first | (with_reducible first | apply AWp.fork | apply AWp.region | show condK _ _ _ | show guardK _ _ _ _ _ _ _ _ _) | ((with_reducible apply aCall.id); first | apply (FnG.use (hf _)) | apply aCall.gives (hneed _))); simp -implicitDefEqProofs [n_id_id3, n_id3_id, n_id2_id3, n_id3_id2, n_id1_id3, n_id3_id1, n_id2_id1, n_id1_id2, n_id1_id, n_id_id1, h, n_id2_id, n_id_id2])
        | ((with_reducible first | apply AWp.ret | apply AWp.skip | apply AWp.exit); try simp -implicitDefEqProofs [n_id_id3, n_id3_id, n_id2_id3, n_id3_id2, n_id1_id3, n_id3_id1, n_id2_id1, n_id1_id2, n_id1_id, n_id_id1, h, n_id2_id, n_id_id2]))
      refine ⟨_, _, Wk.refl _, ?_, t, a1, hX, rfl, rfl⟩
      intro j_ y_ hy_
      by_cases e_id : j_ = id
      · subst e_id; simp [AS.set, h_id1, h_id2, h_id3, n_id_id3, n_id3_id, n_id2_id3, n_id3_id2, n_id1_id3, n_id3_id1, n_id2_id1, n_id1_id2, n_id1_id, n_id_id1, h, n_id2_id, n_id_id2] at hy_ ⊢; try first | exact hy_ | (cases hy_; done)
      by_cases e_id1 : j_ = id1
      · subst e_id1; simp [AS.set, h_id1, h_id2, h_id3, n_id_id3, n_id3_id, n_id2_id3, n_id3_id2, n_id1_id3, n_id3_id1, n_id2_id1, n_id1_id2, n_id1_id, n_id_id1, h, n_id2_id, n_id_id2] at hy_ ⊢; try first | exact hy_ | (cases hy_; done)
      by_cases e_id2 : j_ = id2
      · subst e_id2; simp [AS.set, h_id1, h_id2, h_id3, n_id_id3, n_id3_id, n_id2_id3, n_id3_id2, n_id1_id3, n_id3_id1, n_id2_id1, n_id1_id2, n_id1_id, n_id_id1, h, n_id2_id, n_id_id2] at hy_ ⊢; try first | exact hy_ | (cases hy_; done)
      by_cases e_id3 : j_ = id3
      · subst e_id3; simp [AS.set, h_id1, h_id2, h_id3, n_id_id3, n_id3_id, n_id2_id3, n_id3_id2, n_id1_id3, n_id3_id1, n_id2_id1, n_id1_id2, n_id1_id, n_id_id1, h, n_id2_id, n_id_id2] at hy_ ⊢; try first | exact hy_ | (cases hy_; done)
      simp [AS.set, h_id1, h_id2, h_id3, n_id_id3, n_id3_id, n_id2_id3, n_id3_id2, n_id1_id3, n_id3_id1, n_id2_id1, n_id1_id2, n_id1_id, n_id_id1, h, n_id2_id, n_id_id2, e_id, e_id1, e_id2, e_id3] at hy_ ⊢; try exact hy_
    | false =>
      have hX : eMay okT b a = .error 10 := by unfold eMay; rw [hT]; simp [ho]
      rw [ho] at hf
      have hneed := fun σ => need_bad 10 σ
      repeat (first
        | (with_reducible first | apply AWp.seq | apply AWp.block | refine And.intro (by first | omega | assumption | decide) ?_)
        | ((first | (with_reducible first | apply AWp.fork | apply AWp.region | show condK _ _ _ | show guardK _ _ _ _ _ _ _ _ _) | ((with_reducible apply aCall.id); first | apply (FnG.use (hf _)) | apply (gp_ (hneed _)))); simp -implicitDefEqProofs [n_id_id3, n_id3_id, n_id2_id3, n_id3_id2, n_id1_id3, n_id3_id1, n_id2_id1, n_id1_id2, n_id1_id, n_id_id1, h, n_id2_id, n_id_id2])
        | ((with_reducible first | apply AWp.ret | apply AWp.skip | apply AWp.exit); try simp -implicitDefEqProofs [n_id_id3, n_id3_id, n_id2_id3, n_id3_id2, n_id1_id3, n_id3_id1, n_id2_id1, n_id1_id2, n_id1_id, n_id_id1, h, n_id2_id, n_id_id2]))
      refine ⟨_, ?_, 10, hX, rfl, a1, rfl⟩
      intro j_ y_ hy_
      by_cases e_id : j_ = id
      · subst e_id; simp [AS.set, h_id1, h_id2, h_id3, n_id_id3, n_id3_id, n_id2_id3, n_id3_id2, n_id1_id3, n_id3_id1, n_id2_id1, n_id1_id2, n_id1_id, n_id_id1, h, n_id2_id, n_id_id2] at hy_ ⊢; try first | exact hy_ | (cases hy_; done)
      by_cases e_id1 : j_ = id1
      · subst e_id1; simp [AS.set, h_id1, h_id2, h_id3, n_id_id3, n_id3_id, n_id2_id3, n_id3_id2, n_id1_id3, n_id3_id1, n_id2_id1, n_id1_id2, n_id1_id, n_id_id1, h, n_id2_id, n_id_id2] at hy_ ⊢; try first | exact hy_ | (cases hy_; done)
      by_cases e_id2 : j_ = id2
      · subst e_id2; simp [AS.set, h_id1, h_id2, h_id3, n_id_id3, n_id3_id, n_id2_id3, n_id3_id2, n_id1_id3, n_id3_id1, n_id2_id1, n_id1_id2, n_id1_id, n_id_id1, h, n_id2_id, n_id_id2] at hy_ ⊢; try first | exact hy_ | (cases hy_; done)
      by_cases e_id3 : j_ = id3
      · subst e_id3; simp [AS.set, h_id1, h_id2, h_id3, n_id_id3, n_id3_id, n_id2_id3, n_id3_id2, n_id1_id3, n_id3_id1, n_id2_id1, n_id1_id2, n_id1_id, n_id_id1, h, n_id2_id, n_id_id2] at hy_ ⊢; try first | exact hy_ | (cases hy_; done)
      simp [AS.set, h_id1, h_id2, h_id3, n_id_id3, n_id3_id, n_id2_id3, n_id3_id2, n_id1_id3, n_id3_id1, n_id2_id1, n_id1_id2, n_id1_id, n_id_id1, h, n_id2_id, n_id_id2, e_id, e_id1, e_id2, e_id3] at hy_ ⊢; try exact hy_

def preT (d : List Ty) : Except Int (List Ty × Nat) → Except Int (List Ty × Nat)
  | .error e => .error e
  | .ok (l, a) => .ok (d ++ l, a)
theorem preT_step (b : List UInt8) (d : List Ty) (k a : Nat) : preT d (eList b (k + 1) a) = match eMay localT b a with | .error e => .error e | .ok (t, a') => preT (d ++ [t]) (eList b k a') := by
  simp only [eList]
  cases eMay localT b a with
  | error e => rfl
  | ok y =>
    obtain ⟨t, a'⟩ := y
    simp only
    cases eList b k a' with
    | error e => rfl
    | ok z => obtain ⟨l, a2⟩ := z; simp [preT]
def tyL (l : List Ty) : AV := .lst 24 (l.map tyV) .unk (decide (l = []))
theorem eList_le {b : List UInt8} {k a : Nat} {l : List Ty} {a' : Nat} (ha : a ≤ b.length) (h : eList b k a = .ok (l, a')) : a' ≤ b.length := by
  have := at_list k a l a' ha h; have := this.2.2.1.len; omega

theorem list_ok (n : Nat) (hn : n ≤ 100) (id : Nat) (b : List UInt8) (a : Nat) (nl : Bool) (σ : AS) (h : σ id = some (rdC b a nl)) (ha : a ≤ b.length) (hnl : nl = true → b = []) (hb : b.length ≤ 100000) :
    ACalls Try.prog 52 [rdV id, .sc (.int .i64 n)] σ (RD (eList b n a) tyL b nl id σ) (TD (eList b n a) b nl id σ) := by
  have hm := fun x σ h hx => may_ok localT (.sc (.func (.func 70) #[] #[])) (fun σ t => FnG.func (klocal_ok t σ)) id b x nl σ h hx hnl hb
  refine ACalls.of_body Try.func52 rfl rfl (by simp [Try.ntmps52]) ?_
  simp only [rdV] at hm ⊢
  repeat (first
    | (with_reducible first | apply AWp.seq | apply AWp.block | refine And.intro (by first | omega | assumption | decide) ?_)
    | ((first | (with_reducible first | apply AWp.fork | apply AWp.region | show condK _ _ _ | show guardK _ _ _ _ _ _ _ _ _)); simp -implicitDefEqProofs [ci_lt, ci_le])
    | ((with_reducible first | apply AWp.ret | apply AWp.skip | apply AWp.exit); try simp -implicitDefEqProofs [ci_lt, ci_le]))
  intro id1 h_id1
  have n_id_id1 : ¬ id = id1 := by rintro rfl; rw [h] at h_id1; cases h_id1
  have n_id1_id : ¬ id1 = id := fun e => n_id_id1 e.symm
  repeat (first
    | (with_reducible first | apply AWp.seq | apply AWp.block | refine And.intro (by first | omega | assumption | decide) ?_)
    | ((first | (with_reducible first | apply AWp.fork | apply AWp.region | show condK _ _ _ | show guardK _ _ _ _ _ _ _ _ _)); simp -implicitDefEqProofs [ci_lt, ci_le, n_id1_id, n_id_id1, h])
    | ((with_reducible first | apply AWp.ret | apply AWp.skip | apply AWp.exit); try simp -implicitDefEqProofs [ci_lt, ci_le, n_id1_id, n_id_id1, h]))
  refine AWp.mint 5 24 [] true (by simp [Try.ntmps52]) (.inr ⟨by simp, rfl, rfl⟩) ?_
  simp -implicitDefEqProofs [ci_lt, ci_le, n_id1_id, n_id_id1, h]
  intro tk n_tk_id1 h_tk
  have n_id1_tk : ¬ id1 = tk := fun e => n_tk_id1 e.symm
  have n_id_tk : ¬ id = tk := by rintro rfl; rw [h] at h_tk; cases h_tk
  have n_tk_id : ¬ tk = id := fun e => n_id_tk e.symm
  refine AWp.loopA (α := (Nat) × (List Ty) × (Nat)) ((0, [], a)) (fun ⟨i, d, q⟩ => n - i) (fun ⟨i, d, q⟩ => i ≤ n ∧ d.length = i ∧ preT d (eList b (n - i) q) = eList b n a ∧ q ≤ b.length) [(2, ?_), (4, ?_), (6, ?_)] (fun ⟨i, d, q⟩ => [(7, .sc (.int .i64 i)), (5, .lst 24 (d.map tyV) (.tok tk) (decide (d = [])))]) (fun ⟨i, d, q⟩ => ((σ.set id1 (.cells 84 [.ptr id 0])).set tk (.tok d.length)).set id (rdC b q nl)) ?_ ?_ ?_ ?_
  rotate_left 3
  · (try dsimp only); (simp only [List.cons_append, List.nil_append]; repeat (first | exact FrWk.nil | refine FrWk.cons (by first | (simp -implicitDefEqProofs [ci_lt, ci_le, n_id1_id, n_id_id1, h, n_tk_id, n_id_tk, n_tk_id1, n_id1_tk]; done) | exact Wk.of (by (try simp -implicitDefEqProofs [ci_lt, ci_le, n_id1_id, n_id_id1, h, n_tk_id, n_id_tk, n_tk_id1, n_id1_tk]) <;> rfl)) ?_))
  · (try dsimp only); (simp; rw [set_self (by simp [n_id_id1, n_id_tk, h])]; exact AS.le_refl _)
  · exact ⟨by omega, rfl, by simp; cases eList b n a <;> simp [preT], ha⟩
  intro x_ hx_
  obtain ⟨i, d, q⟩ := x_
  try dsimp only at hx_ ⊢
  obtain ⟨hi, hd, hX, hq⟩ := hx_
  simp only [List.cons_append, List.nil_append]
  have hfin : ∀ (x1 x2 y : ABlk), AS.le (σ.set id y) (((σ.set id1 x1).set tk x2).set id y) := fun x1 x2 y => le_set (AS.le_set (AS.le_set (AS.le_refl _) h_id1) h_tk)
  by_cases hlt : i < n
  · have wi_i : IntKind.i64.wrap ((i : Int) + 1) = ((i + 1 : Nat) : Int) := ci_wi (by omega)
    obtain ⟨k, hk⟩ : ∃ k, n - i = k + 1 := ⟨n - i - 1, by omega⟩
    rw [hk, preT_step] at hX
    cases hM : eMay localT b q with
    | error e =>
      rw [hM] at hX
      have hm1 := fun σ h => RD.bad (hm q σ h hq) hM
      repeat (first
        | (with_reducible first | apply AWp.seq | apply AWp.block | refine And.intro (by first | omega | assumption | decide) ?_)
        | ((first | (with_reducible first | apply AWp.fork | apply AWp.region | show condK _ _ _ | show guardK _ _ _ _ _ _ _ _ _) | ((with_reducible apply aCall.id); first | apply (thr_ (hm1 _ (by simp))))); simp -implicitDefEqProofs [hlt, ci_lt, ci_le, n_id1_id, n_id_id1, h, n_tk_id, n_id_tk, n_tk_id1, n_id1_tk, wi_i])
        | ((with_reducible first | apply AWp.ret | apply AWp.skip | apply AWp.exit); try simp -implicitDefEqProofs [hlt, ci_lt, ci_le, n_id1_id, n_id_id1, h, n_tk_id, n_id_tk, n_tk_id1, n_id1_tk, wi_i]))
      intro x
      exact ⟨_, hfin _ _ _, e, hX.symm, rfl, x, rfl⟩
    | ok y =>
      obtain ⟨t, q1⟩ := y
      rw [hM] at hX
      have hm1 := fun σ h => RD.ok (hm q σ h hq) hM
      have hq1 := eMay_le hM
      simp only [tyV_def] at hm1
      have hdl : d.length ≤ 100 := by omega
      repeat (first
        | (with_reducible first | apply AWp.seq | apply AWp.block | refine And.intro (by first | omega | assumption | decide) ?_)
        | ((first | (with_reducible first | apply AWp.fork | apply AWp.region | show condK _ _ _ | show guardK _ _ _ _ _ _ _ _ _) | ((with_reducible apply aCall.id); first | apply aCall.gives (hm1 _ (by simp)))); simp -implicitDefEqProofs [hlt, hdl, ci_lt, ci_le, n_id1_id, n_id_id1, h, n_tk_id, n_id_tk, n_tk_id1, n_id1_tk, wi_i])
        | ((with_reducible first | apply AWp.ret | apply AWp.skip | apply AWp.exit); try simp -implicitDefEqProofs [hlt, hdl, ci_lt, ci_le, n_id1_id, n_id_id1, h, n_tk_id, n_id_tk, n_tk_id1, n_id1_tk, wi_i]))
      refine stepA.mk ((i + 1, d ++ [t], q1)) (by (try dsimp only); omega) (by (try dsimp only); (simp only [List.cons_append, List.nil_append]; repeat (first | exact FrWk.nil | refine FrWk.cons (by first | (simp -implicitDefEqProofs [tyV_def, ci_lt, ci_le, n_id1_id, n_id_id1, h, n_tk_id, n_id_tk, n_tk_id1, n_id1_tk, wi_i]; done) | exact Wk.of (by (try simp -implicitDefEqProofs [tyV_def, ci_lt, ci_le, n_id1_id, n_id_id1, h, n_tk_id, n_id_tk, n_tk_id1, n_id1_tk, wi_i]) <;> rfl)) ?_))) (by (try dsimp only); (simp; done)) ?_
      try dsimp only
      exact ⟨hlt, by simp [hd], by rw [← hX, show n - (i + 1) = k by omega], hq1⟩
  · have hkn : n - i = 0 := by omega
    rw [hkn] at hX
    have hX2 : eList b n a = .ok (d, q) := by rw [← hX]; simp [eList, preT]
    repeat (first
      | (with_reducible first | apply AWp.seq | apply AWp.block | refine And.intro (by first | omega | assumption | decide) ?_)
      | ((first | (with_reducible first | apply AWp.fork | apply AWp.region | show condK _ _ _ | show guardK _ _ _ _ _ _ _ _ _)); simp -implicitDefEqProofs [hlt, ci_lt, ci_le, n_id1_id, n_id_id1, h, n_tk_id, n_id_tk, n_tk_id1, n_id1_tk])
      | ((with_reducible first | apply AWp.ret | apply AWp.skip | apply AWp.exit); try simp -implicitDefEqProofs [hlt, ci_lt, ci_le, n_id1_id, n_id_id1, h, n_tk_id, n_id_tk, n_tk_id1, n_id1_tk]))
    exact ⟨_, _, Wk_unk _ _ _ _ |>.2 trivial, hfin _ _ _, d, q, hX2, rfl, rfl⟩

end Sg
end Go.Proofs.Ytplphldpkliakaa
