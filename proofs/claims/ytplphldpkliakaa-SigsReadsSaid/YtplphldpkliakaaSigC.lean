/- Package sigs: PutSig. -/
import Derived.Test.YtplphldpkliakaaSigB
set_option linter.unusedSimpArgs false
set_option linter.unusedVariables false
set_option maxRecDepth 100000
set_option maxHeartbeats 3200000
namespace Go.Proofs.Ytplphldpkliakaa
namespace Sg
open Go Go.AW

theorem del_at (τ : AS) (i j : Nat) : del τ i j = if j = i then none else τ j := rfl
def hdB (c : UInt8) (l : List Ty) : List UInt8 := c :: packL l.length
def preS (c : UInt8) (l : List Ty) (r : Ty) (i : Nat) : List UInt8 := hdB c l ++ (tyB r ++ (l.take i).flatMap tyB)
theorem preS_zero (c : UInt8) (l : List Ty) (r : Ty) : preS c l r 0 = hdB c l ++ tyB r := by simp [preS]
theorem preS_next (c : UInt8) (l : List Ty) (r : Ty) {i : Nat} (h : i < l.length) : preS c l r (i + 1) = preS c l r i ++ tyB l[i] := by
  unfold preS
  rw [List.take_succ_eq_append_getElem h, List.flatMap_append]
  simp only [List.flatMap_cons, List.flatMap_nil, List.append_nil, List.append_assoc]
theorem hdB_len (c : UInt8) (l : List Ty) (h : l.length ≤ 12) : (hdB c l).length = 2 := by unfold hdB; rw [packL_len _ h]; rfl
theorem preS_len (c : UInt8) (l : List Ty) (r : Ty) (h : l.length ≤ 12) (hr : plainT r = true) (hp : ∀ t ∈ l, plainT t = true) (i : Nat) (hi : i ≤ l.length) : (preS c l r i).length ≤ 12 + 10 * i := by
  induction i with
  | zero =>
    have := tyB_len hr
    rw [preS_zero, List.length_append, hdB_len c l h]; omega
  | succ i ih =>
    rw [preS_next c l r (by omega), List.length_append]
    have := ih (by omega)
    have := tyB_len (hp l[i] (List.getElem_mem (by omega)))
    omega
theorem preS_sg (th : Bool) (l : List Ty) (r : Ty) (h : l.length ≤ 12) : preS (if th = true then 32 else 0) l r l.length = sgB ⟨th, l, r⟩ := by
  unfold preS hdB sgB lsB
  rw [packL_len _ h, List.take_length]; rfl

theorem PutSig_long (th : Bool) (l : List Ty) (r : Ty) (o : Own) (nl : Bool) (hl : 6 < l.length) (hl2 : l.length ≤ 140737488355328) (σ : AS) :
    ACalls Try.prog 14 [.agg [.sc (.bool th), .lst 24 (l.map tyV) o nl, .sc (.int .i64 r.kind), .sc (.int .i64 r.index), .sc (.int .i64 r.dims), .sc (.bool r.ref)]] σ
    (Gives (.tup [.nilS, .sc (.int .i64 4)]) σ) No := by
  have h6 : ((6 : Int) < l.length) = True := by simp; omega
  refine ACalls.of_body Try.func14 rfl rfl (by simp [Try.ntmps14]) ?_
  repeat (first
    | (with_reducible first | apply AWp.seq | apply AWp.block | refine And.intro (by first | omega | assumption | decide) ?_)
    | ((first | (with_reducible first | apply AWp.fork | apply AWp.region)); simp -implicitDefEqProofs)
    | ((with_reducible first | apply AWp.ret | apply AWp.skip | apply AWp.exit); try simp -implicitDefEqProofs))
  intro id h_id
  repeat (first
    | (with_reducible first | apply AWp.seq | apply AWp.block | refine And.intro (by first | omega | assumption | decide) ?_)
    | ((first | (with_reducible first | apply AWp.fork | apply AWp.region | show condK _ _ _ | show guardK _ _ _ _ _ _ _ _ _)); simp -implicitDefEqProofs [h6])
    | ((with_reducible first | apply AWp.ret | apply AWp.skip | apply AWp.exit); try simp -implicitDefEqProofs [h6]))
  exact AS.le_set (AS.le_refl _) h_id

theorem PutSig_bad (th : Bool) (l : List Ty) (r : Ty) (o : Own) (nl : Bool) (hl : l.length ≤ 6) (hp : (l.all localT && answerT r) = false) (σ : AS) :
    ACalls Try.prog 14 [.agg [.sc (.bool th), .lst 24 (l.map tyV) o nl, .sc (.int .i64 r.kind), .sc (.int .i64 r.index), .sc (.int .i64 r.dims), .sc (.bool r.ref)]] σ
    (Gives (.tup [.nilS, .sc (.int .i64 17)]) σ) No := by
  have h6 : ((6 : Int) < l.length) = False := by simp; omega
  have ha := fun σ => all_ok l o nl (by omega) σ
  have hr := fun σ => kanswer_ok r σ
  simp only [tyV_def] at hr
  cases hA : l.all localT with
  | false =>
    rw [hA] at ha
    refine ACalls.of_body Try.func14 rfl rfl (by simp [Try.ntmps14]) ?_
    repeat (first
      | (with_reducible first | apply AWp.seq | apply AWp.block | refine And.intro (by first | omega | assumption | decide) ?_)
      | ((first | (with_reducible first | apply AWp.fork | apply AWp.region)); simp -implicitDefEqProofs)
      | ((with_reducible first | apply AWp.ret | apply AWp.skip | apply AWp.exit); try simp -implicitDefEqProofs))
    intro id h_id
    repeat (first
      | (with_reducible first | apply AWp.seq | apply AWp.block | refine And.intro (by first | omega | assumption | decide) ?_)
      | ((first | (with_reducible first | apply AWp.fork | apply AWp.region | show condK _ _ _ | show guardK _ _ _ _ _ _ _ _ _) | ((with_reducible apply aCall.id); first | apply aCall.gives (ha _))); simp -implicitDefEqProofs [h6])
      | ((with_reducible first | apply AWp.ret | apply AWp.skip | apply AWp.exit); try simp -implicitDefEqProofs [h6]))
    exact AS.le_set (AS.le_refl _) h_id
  | true =>
    rw [hA] at ha hp
    have hp' : answerT r = false := by simpa using hp
    rw [hp'] at hr
    refine ACalls.of_body Try.func14 rfl rfl (by simp [Try.ntmps14]) ?_
    repeat (first
      | (with_reducible first | apply AWp.seq | apply AWp.block | refine And.intro (by first | omega | assumption | decide) ?_)
      | ((first | (with_reducible first | apply AWp.fork | apply AWp.region)); simp -implicitDefEqProofs)
      | ((with_reducible first | apply AWp.ret | apply AWp.skip | apply AWp.exit); try simp -implicitDefEqProofs))
    intro id h_id
    repeat (first
      | (with_reducible first | apply AWp.seq | apply AWp.block | refine And.intro (by first | omega | assumption | decide) ?_)
      | ((first | (with_reducible first | apply AWp.fork | apply AWp.region | show condK _ _ _ | show guardK _ _ _ _ _ _ _ _ _) | ((with_reducible apply aCall.id); first | apply aCall.gives (ha _) | apply aCall.gives (hr _))); simp -implicitDefEqProofs [h6])
      | ((with_reducible first | apply AWp.ret | apply AWp.skip | apply AWp.exit); try simp -implicitDefEqProofs [h6]))
    exact AS.le_set (AS.le_refl _) h_id

theorem PutSig_ok (th : Bool) (l : List Ty) (r : Ty) (o : Own) (nl : Bool) (hl : l.length ≤ 6) (hp : (l.all localT && answerT r) = true) (σ : AS) :
    ACalls Try.prog 14 [.agg [.sc (.bool th), .lst 24 (l.map tyV) o nl, .sc (.int .i64 r.kind), .sc (.int .i64 r.index), .sc (.int .i64 r.dims), .sc (.bool r.ref)]] σ
    (Owns (fun tk => .tup [.lst 5 ((sgB ⟨th, l, r⟩).map u8) (.tok tk) false, .sc (.int .i64 0)]) (sgB ⟨th, l, r⟩).length σ) No := by
  have h6 : ((6 : Int) < l.length) = False := by simp; omega
  have ha := fun σ => all_ok l o nl (by omega) σ
  have hr := fun σ => kanswer_ok r σ
  simp only [tyV_def] at hr
  obtain ⟨hA, hR⟩ : l.all localT = true ∧ answerT r = true := by simpa using hp
  rw [hA] at ha
  rw [hR] at hr
  have hpr : plainT r = true := by unfold answerT at hR; simp at hR; exact hR.1
  have hpl : ∀ t ∈ l, plainT t = true := by
    intro t h
    have := List.all_eq_true.1 hA t h
    unfold localT at this
    simp at this
    exact this.1
  cases th with
  | false =>
    refine ACalls.of_body Try.func14 rfl rfl (by simp [Try.ntmps14]) ?_
    repeat (first
      | (with_reducible first | apply AWp.seq | apply AWp.block | refine And.intro (by first | omega | assumption | decide) ?_)
      | ((first | (with_reducible first | apply AWp.fork | apply AWp.region)); simp -implicitDefEqProofs)
      | ((with_reducible first | apply AWp.ret | apply AWp.skip | apply AWp.exit); try simp -implicitDefEqProofs))
    intro id h_id
    repeat (first
      | (with_reducible first | apply AWp.seq | apply AWp.block | refine And.intro (by first | omega | assumption | decide) ?_)
      | ((first | (with_reducible first | apply AWp.fork | ((fail_if_success (apply AWp.region (id := 5))); apply AWp.region) | show condK _ _ _ | show guardK _ _ _ _ _ _ _ _ _) | ((with_reducible apply aCall.id); first | apply aCall.gives (ha _) | apply aCall.gives (hr _))); simp -implicitDefEqProofs [h6])
      | ((with_reducible first | apply AWp.ret | apply AWp.skip | apply AWp.exit); try simp -implicitDefEqProofs [h6]))
    with_reducible apply AWp.regionS
    refine sOps.sp rfl (SOp.buildM (by decide) ?_)
    simp -implicitDefEqProofs [aBuildSliceM]
    intro id2 n_id2_id h_id2
    have n_id_id2 : ¬ id = id2 := fun e => n_id2_id e.symm
    refine sOps.rest ?_
    simp -implicitDefEqProofs
    repeat (first
      | (with_reducible first | apply AWp.seq | apply AWp.block | refine And.intro (by first | omega | assumption | decide) ?_)
      | ((first | (with_reducible first | apply AWp.fork | ((fail_if_success (apply AWp.region (id := 8))); apply AWp.region) | show condK _ _ _ | show guardK _ _ _ _ _ _ _ _ _)); simp -implicitDefEqProofs [h6, n_id2_id, n_id_id2])
      | ((with_reducible first | apply AWp.ret | apply AWp.skip | apply AWp.exit); try simp -implicitDefEqProofs [h6, n_id2_id, n_id_id2]))
    refine AWp.freeze 4 id2 (([0] : List UInt8).map u8) (m := 1) (by simp) (by simp [*]) (by simp) (by simp) (by simp) ?_
    simp -implicitDefEqProofs
    have hk := fun σ => pack_ok [0] .full false (by simp) (by simp) (l.length : Int) (by omega) (by omega) σ
    have hz : [0] ++ packL l.length = hdB 0 l := by simp [hdB]
    rw [hz] at hk
    simp at hk
    have hS := preS_sg false l r (by omega)
    simp at hS
    rw [← hS]
    have hL := preS_len 0 l r (by omega) hpr hpl
    have hd := hdB_len 0 l (by omega)
    repeat (first
      | (with_reducible first | apply AWp.seq | apply AWp.block | refine And.intro (by first | omega | assumption | decide) ?_)
      | ((first | (with_reducible first | apply AWp.fork | apply AWp.region | show condK _ _ _ | show guardK _ _ _ _ _ _ _ _ _) | ((with_reducible apply aCall.id); first | apply aCall.owns (hk _))); simp -implicitDefEqProofs [n_id2_id, n_id_id2, ci_lt, ci_le])
      | ((with_reducible first | apply AWp.ret | apply AWp.skip | apply AWp.exit); try simp -implicitDefEqProofs [n_id2_id, n_id_id2, ci_lt, ci_le]))
    intro tk0 n_tk0_id h_tk0
    have n_id_tk0 : ¬ id = tk0 := fun e => n_tk0_id e.symm
    repeat (first
      | (with_reducible first | apply AWp.seq | apply AWp.block | refine And.intro (by first | omega | assumption | decide) ?_)
      | ((first | (with_reducible first | apply AWp.fork | apply AWp.region | show condK _ _ _ | show guardK _ _ _ _ _ _ _ _ _) | ((with_reducible apply aCall.id); first | apply (pt_ (l := hdB 0 l) (t := r) (by simp) (by omega) hpr (by simp)))); simp -implicitDefEqProofs [n_id2_id, n_id_id2, ci_lt, ci_le, n_tk0_id, n_id_tk0])
      | ((with_reducible first | apply AWp.ret | apply AWp.skip | apply AWp.exit); try simp -implicitDefEqProofs [n_id2_id, n_id_id2, ci_lt, ci_le, n_tk0_id, n_id_tk0]))
    intro tk1 h_tk1'
    have h_tk1 : σ tk1 = none := by
      by_cases e1 : tk1 = tk0
      · rw [e1]; exact h_tk0
      · by_cases e2 : tk1 = id
        · rw [e2]; exact h_id
        · simpa [del, AS.set, e1, e2] using h_tk1'
    have n_id_tk1 : ¬ id = tk1 := by
      intro e
      rw [← e] at h_tk1'
      simp [del, n_id_tk0] at h_tk1'
    rw [← List.map_append, ← List.length_append, ← preS_zero]
    repeat (first
      | (with_reducible first | apply AWp.seq | apply AWp.block | refine And.intro (by first | omega | assumption | decide) ?_)
      | ((first | (with_reducible first | apply AWp.fork | apply AWp.region | show condK _ _ _ | show guardK _ _ _ _ _ _ _ _ _)); simp -implicitDefEqProofs [del_at, n_id_tk0, n_id_tk1, n_id2_id, n_id_id2, ci_lt, ci_le, n_tk0_id, n_id_tk0])
      | ((with_reducible first | apply AWp.ret | apply AWp.skip | apply AWp.exit); try simp -implicitDefEqProofs [del_at, n_id_tk0, n_id_tk1, n_id2_id, n_id_id2, ci_lt, ci_le, n_tk0_id, n_id_tk0]))
    refine AWp.loopA (α := (Nat) × (Nat)) ((0, tk1)) (fun ⟨i, tk⟩ => l.length - i) (fun ⟨i, tk⟩ => i ≤ l.length ∧ σ tk = none) [(2, ?_), (3, ?_), (41, ?_), (42, ?_)] (fun ⟨i, tk⟩ => [(43, .sc (.int .i64 i)), (4, .lst 5 ((preS 0 l r i).map u8) (.tok tk) false)]) (fun ⟨i, tk⟩ => σ.set tk (.tok (preS 0 l r i).length)) ?_ ?_ ?_ ?_
    rotate_left 4
    · (try dsimp only); (simp only [List.cons_append, List.nil_append]; repeat (first | exact FrWk.nil | refine FrWk.cons (by first | (simp -implicitDefEqProofs [n_id2_id, n_id_id2, ci_lt, ci_le, n_tk0_id, n_id_tk0]; done) | exact Wk.of (by (try simp -implicitDefEqProofs [n_id2_id, n_id_id2, ci_lt, ci_le, n_tk0_id, n_id_tk0]) <;> rfl)) ?_))
    · (try dsimp only); (exact le_set (le_del (AS.le_set (AS.le_set (AS.le_refl _) h_id) (by simp [n_tk0_id, h_tk0])) h_tk0))
    · exact ⟨by omega, h_tk1⟩
    intro x_ hx_
    obtain ⟨i, tk⟩ := x_
    try dsimp only at hx_ ⊢
    obtain ⟨hi, h_tk⟩ := hx_
    simp only [List.cons_append, List.nil_append]
    by_cases hlt : i < l.length
    · have wi_i : IntKind.i64.wrap ((i : Int) + 1) = ((i + 1 : Nat) : Int) := ci_wi (by omega)
      have hLi := hL i hi
      have hpi := hpl l[i] (List.getElem_mem hlt)
      repeat (first
        | (with_reducible first | apply AWp.seq | apply AWp.block | refine And.intro (by first | omega | assumption | decide) ?_)
        | ((first | (with_reducible first | apply AWp.fork | apply AWp.region | show condK _ _ _ | show guardK _ _ _ _ _ _ _ _ _)); simp -implicitDefEqProofs [hlt, tyV_def, n_id2_id, n_id_id2, ci_lt, ci_le, n_tk0_id, n_id_tk0, wi_i])
        | ((with_reducible first | apply AWp.ret | apply AWp.skip | apply AWp.exit); try simp -implicitDefEqProofs [hlt, tyV_def, n_id2_id, n_id_id2, ci_lt, ci_le, n_tk0_id, n_id_tk0, wi_i]))
      intro id3 n_id3_tk h_id3
      have n_tk_id3 : ¬ tk = id3 := fun e => n_id3_tk e.symm
      repeat (first
        | (with_reducible first | apply AWp.seq | apply AWp.block | refine And.intro (by first | omega | assumption | decide) ?_)
        | ((first | (with_reducible first | apply AWp.fork | apply AWp.region | show condK _ _ _ | show guardK _ _ _ _ _ _ _ _ _) | ((with_reducible apply aCall.id); first | apply (pt_ (l := preS 0 l r i) (t := l[i]) (by simp) (by omega) hpi (by simp [n_tk_id3])))); simp -implicitDefEqProofs [hlt, tyV_def, n_id2_id, n_id_id2, ci_lt, ci_le, n_tk0_id, n_id_tk0, wi_i, n_id3_tk, n_tk_id3])
        | ((with_reducible first | apply AWp.ret | apply AWp.skip | apply AWp.exit); try simp -implicitDefEqProofs [hlt, tyV_def, n_id2_id, n_id_id2, ci_lt, ci_le, n_tk0_id, n_id_tk0, wi_i, n_id3_tk, n_tk_id3]))
      intro tk' h_tk'
      have hf : σ tk' = none := by
        by_cases e1 : tk' = tk
        · rw [e1]; exact h_tk
        · by_cases e2 : tk' = id3
          · rw [e2]; exact h_id3
          · simpa [del, AS.set, e1, e2] using h_tk'
      have hle : ∀ x y, AS.le σ (del ((σ.set tk x).set id3 y) tk) := fun x y => le_del (AS.le_set (AS.le_set (AS.le_refl _) h_tk) (by simp [n_id3_tk, h_id3])) h_tk
      have hE := preS_next 0 l r hlt
      have hE1 : (preS 0 l r (i + 1)).map u8 = (preS 0 l r i).map u8 ++ (tyB l[i]).map u8 := by rw [hE, List.map_append]
      have hE2 : (preS 0 l r (i + 1)).length = (preS 0 l r i).length + (tyB l[i]).length := by rw [hE, List.length_append]
      repeat (first
        | (with_reducible first | apply AWp.seq | apply AWp.block | refine And.intro (by first | omega | assumption | decide) ?_)
        | ((first | (with_reducible first | apply AWp.fork | apply AWp.region | show condK _ _ _ | show guardK _ _ _ _ _ _ _ _ _)); simp -implicitDefEqProofs [n_id2_id, n_id_id2, ci_lt, ci_le, n_tk0_id, n_id_tk0, wi_i, n_id3_tk, n_tk_id3])
        | ((with_reducible first | apply AWp.ret | apply AWp.skip | apply AWp.exit); try simp -implicitDefEqProofs [n_id2_id, n_id_id2, ci_lt, ci_le, n_tk0_id, n_id_tk0, wi_i, n_id3_tk, n_tk_id3]))
      refine stepA.mk ((i + 1, tk')) (by (try dsimp only); omega) (by (try dsimp only); (simp only [List.cons_append, List.nil_append]; repeat (first | exact FrWk.nil | refine FrWk.cons (by first | (simp -implicitDefEqProofs [hE1, hE2, n_id2_id, n_id_id2, ci_lt, ci_le, n_tk0_id, n_id_tk0, wi_i, n_id3_tk, n_tk_id3]; done) | exact Wk.of (by (try simp -implicitDefEqProofs [hE1, hE2, n_id2_id, n_id_id2, ci_lt, ci_le, n_tk0_id, n_id_tk0, wi_i, n_id3_tk, n_tk_id3]) <;> rfl)) ?_))) (by (try dsimp only); (first | (simp [hE1, hE2]; done) | (simp [hE2]; exact le_set (hle _ _)))) ?_
      try dsimp only
      exact ⟨hlt, hf⟩
    · have hil : i = l.length := by omega
      subst hil
      repeat (first
        | (with_reducible first | apply AWp.seq | apply AWp.block | refine And.intro (by first | omega | assumption | decide) ?_)
        | ((first | (with_reducible first | apply AWp.fork | apply AWp.region | show condK _ _ _ | show guardK _ _ _ _ _ _ _ _ _)); simp -implicitDefEqProofs [hlt, n_id2_id, n_id_id2, ci_lt, ci_le, n_tk0_id, n_id_tk0])
        | ((with_reducible first | apply AWp.ret | apply AWp.skip | apply AWp.exit); try simp -implicitDefEqProofs [hlt, n_id2_id, n_id_id2, ci_lt, ci_le, n_tk0_id, n_id_tk0]))
      exact owns_end tk h_tk (by simp) (AS.le_refl _)
  | true =>
    refine ACalls.of_body Try.func14 rfl rfl (by simp [Try.ntmps14]) ?_
    repeat (first
      | (with_reducible first | apply AWp.seq | apply AWp.block | refine And.intro (by first | omega | assumption | decide) ?_)
      | ((first | (with_reducible first | apply AWp.fork | apply AWp.region)); simp -implicitDefEqProofs)
      | ((with_reducible first | apply AWp.ret | apply AWp.skip | apply AWp.exit); try simp -implicitDefEqProofs))
    intro id h_id
    repeat (first
      | (with_reducible first | apply AWp.seq | apply AWp.block | refine And.intro (by first | omega | assumption | decide) ?_)
      | ((first | (with_reducible first | apply AWp.fork | ((fail_if_success (apply AWp.region (id := 5))); apply AWp.region) | show condK _ _ _ | show guardK _ _ _ _ _ _ _ _ _) | ((with_reducible apply aCall.id); first | apply aCall.gives (ha _) | apply aCall.gives (hr _))); simp -implicitDefEqProofs [h6])
      | ((with_reducible first | apply AWp.ret | apply AWp.skip | apply AWp.exit); try simp -implicitDefEqProofs [h6]))
    with_reducible apply AWp.regionS
    refine sOps.sp rfl (SOp.buildM (by decide) ?_)
    simp -implicitDefEqProofs [aBuildSliceM]
    intro id2 n_id2_id h_id2
    have n_id_id2 : ¬ id = id2 := fun e => n_id2_id e.symm
    refine sOps.rest ?_
    simp -implicitDefEqProofs
    repeat (first
      | (with_reducible first | apply AWp.seq | apply AWp.block | refine And.intro (by first | omega | assumption | decide) ?_)
      | ((first | (with_reducible first | apply AWp.fork | ((fail_if_success (apply AWp.region (id := 8))); apply AWp.region) | show condK _ _ _ | show guardK _ _ _ _ _ _ _ _ _)); simp -implicitDefEqProofs [h6, n_id2_id, n_id_id2])
      | ((with_reducible first | apply AWp.ret | apply AWp.skip | apply AWp.exit); try simp -implicitDefEqProofs [h6, n_id2_id, n_id_id2]))
    refine AWp.freeze 4 id2 (([32] : List UInt8).map u8) (m := 1) (by simp) (by simp [*]) (by simp) (by simp) (by simp) ?_
    simp -implicitDefEqProofs
    have hk := fun σ => pack_ok [32] .full false (by simp) (by simp) (l.length : Int) (by omega) (by omega) σ
    have hz : [32] ++ packL l.length = hdB 32 l := by simp [hdB]
    rw [hz] at hk
    simp at hk
    have hS := preS_sg true l r (by omega)
    simp at hS
    rw [← hS]
    have hL := preS_len 32 l r (by omega) hpr hpl
    have hd := hdB_len 32 l (by omega)
    repeat (first
      | (with_reducible first | apply AWp.seq | apply AWp.block | refine And.intro (by first | omega | assumption | decide) ?_)
      | ((first | (with_reducible first | apply AWp.fork | apply AWp.region | show condK _ _ _ | show guardK _ _ _ _ _ _ _ _ _) | ((with_reducible apply aCall.id); first | apply aCall.owns (hk _))); simp -implicitDefEqProofs [n_id2_id, n_id_id2, ci_lt, ci_le])
      | ((with_reducible first | apply AWp.ret | apply AWp.skip | apply AWp.exit); try simp -implicitDefEqProofs [n_id2_id, n_id_id2, ci_lt, ci_le]))
    intro tk0 n_tk0_id h_tk0
    have n_id_tk0 : ¬ id = tk0 := fun e => n_tk0_id e.symm
    repeat (first
      | (with_reducible first | apply AWp.seq | apply AWp.block | refine And.intro (by first | omega | assumption | decide) ?_)
      | ((first | (with_reducible first | apply AWp.fork | apply AWp.region | show condK _ _ _ | show guardK _ _ _ _ _ _ _ _ _) | ((with_reducible apply aCall.id); first | apply (pt_ (l := hdB 32 l) (t := r) (by simp) (by omega) hpr (by simp)))); simp -implicitDefEqProofs [n_id2_id, n_id_id2, ci_lt, ci_le, n_tk0_id, n_id_tk0])
      | ((with_reducible first | apply AWp.ret | apply AWp.skip | apply AWp.exit); try simp -implicitDefEqProofs [n_id2_id, n_id_id2, ci_lt, ci_le, n_tk0_id, n_id_tk0]))
    intro tk1 h_tk1'
    have h_tk1 : σ tk1 = none := by
      by_cases e1 : tk1 = tk0
      · rw [e1]; exact h_tk0
      · by_cases e2 : tk1 = id
        · rw [e2]; exact h_id
        · simpa [del, AS.set, e1, e2] using h_tk1'
    have n_id_tk1 : ¬ id = tk1 := by
      intro e
      rw [← e] at h_tk1'
      simp [del, n_id_tk0] at h_tk1'
    rw [← List.map_append, ← List.length_append, ← preS_zero]
    repeat (first
      | (with_reducible first | apply AWp.seq | apply AWp.block | refine And.intro (by first | omega | assumption | decide) ?_)
      | ((first | (with_reducible first | apply AWp.fork | apply AWp.region | show condK _ _ _ | show guardK _ _ _ _ _ _ _ _ _)); simp -implicitDefEqProofs [del_at, n_id_tk0, n_id_tk1, n_id2_id, n_id_id2, ci_lt, ci_le, n_tk0_id, n_id_tk0])
      | ((with_reducible first | apply AWp.ret | apply AWp.skip | apply AWp.exit); try simp -implicitDefEqProofs [del_at, n_id_tk0, n_id_tk1, n_id2_id, n_id_id2, ci_lt, ci_le, n_tk0_id, n_id_tk0]))
    refine AWp.loopA (α := (Nat) × (Nat)) ((0, tk1)) (fun ⟨i, tk⟩ => l.length - i) (fun ⟨i, tk⟩ => i ≤ l.length ∧ σ tk = none) [(2, ?_), (3, ?_), (41, ?_), (42, ?_)] (fun ⟨i, tk⟩ => [(43, .sc (.int .i64 i)), (4, .lst 5 ((preS 32 l r i).map u8) (.tok tk) false)]) (fun ⟨i, tk⟩ => σ.set tk (.tok (preS 32 l r i).length)) ?_ ?_ ?_ ?_
    rotate_left 4
    · (try dsimp only); (simp only [List.cons_append, List.nil_append]; repeat (first | exact FrWk.nil | refine FrWk.cons (by first | (simp -implicitDefEqProofs [n_id2_id, n_id_id2, ci_lt, ci_le, n_tk0_id, n_id_tk0]; done) | exact Wk.of (by (try simp -implicitDefEqProofs [n_id2_id, n_id_id2, ci_lt, ci_le, n_tk0_id, n_id_tk0]) <;> rfl)) ?_))
    · (try dsimp only); (exact le_set (le_del (AS.le_set (AS.le_set (AS.le_refl _) h_id) (by simp [n_tk0_id, h_tk0])) h_tk0))
    · exact ⟨by omega, h_tk1⟩
    intro x_ hx_
    obtain ⟨i, tk⟩ := x_
    try dsimp only at hx_ ⊢
    obtain ⟨hi, h_tk⟩ := hx_
    simp only [List.cons_append, List.nil_append]
    by_cases hlt : i < l.length
    · have wi_i : IntKind.i64.wrap ((i : Int) + 1) = ((i + 1 : Nat) : Int) := ci_wi (by omega)
      have hLi := hL i hi
      have hpi := hpl l[i] (List.getElem_mem hlt)
      repeat (first
        | (with_reducible first | apply AWp.seq | apply AWp.block | refine And.intro (by first | omega | assumption | decide) ?_)
        | ((first | (with_reducible first | apply AWp.fork | apply AWp.region | show condK _ _ _ | show guardK _ _ _ _ _ _ _ _ _)); simp -implicitDefEqProofs [hlt, tyV_def, n_id2_id, n_id_id2, ci_lt, ci_le, n_tk0_id, n_id_tk0, wi_i])
        | ((with_reducible first | apply AWp.ret | apply AWp.skip | apply AWp.exit); try simp -implicitDefEqProofs [hlt, tyV_def, n_id2_id, n_id_id2, ci_lt, ci_le, n_tk0_id, n_id_tk0, wi_i]))
      intro id3 n_id3_tk h_id3
      have n_tk_id3 : ¬ tk = id3 := fun e => n_id3_tk e.symm
      repeat (first
        | (with_reducible first | apply AWp.seq | apply AWp.block | refine And.intro (by first | omega | assumption | decide) ?_)
        | ((first | (with_reducible first | apply AWp.fork | apply AWp.region | show condK _ _ _ | show guardK _ _ _ _ _ _ _ _ _) | ((with_reducible apply aCall.id); first | apply (pt_ (l := preS 32 l r i) (t := l[i]) (by simp) (by omega) hpi (by simp [n_tk_id3])))); simp -implicitDefEqProofs [hlt, tyV_def, n_id2_id, n_id_id2, ci_lt, ci_le, n_tk0_id, n_id_tk0, wi_i, n_id3_tk, n_tk_id3])
        | ((with_reducible first | apply AWp.ret | apply AWp.skip | apply AWp.exit); try simp -implicitDefEqProofs [hlt, tyV_def, n_id2_id, n_id_id2, ci_lt, ci_le, n_tk0_id, n_id_tk0, wi_i, n_id3_tk, n_tk_id3]))
      intro tk' h_tk'
      have hf : σ tk' = none := by
        by_cases e1 : tk' = tk
        · rw [e1]; exact h_tk
        · by_cases e2 : tk' = id3
          · rw [e2]; exact h_id3
          · simpa [del, AS.set, e1, e2] using h_tk'
      have hle : ∀ x y, AS.le σ (del ((σ.set tk x).set id3 y) tk) := fun x y => le_del (AS.le_set (AS.le_set (AS.le_refl _) h_tk) (by simp [n_id3_tk, h_id3])) h_tk
      have hE := preS_next 32 l r hlt
      have hE1 : (preS 32 l r (i + 1)).map u8 = (preS 32 l r i).map u8 ++ (tyB l[i]).map u8 := by rw [hE, List.map_append]
      have hE2 : (preS 32 l r (i + 1)).length = (preS 32 l r i).length + (tyB l[i]).length := by rw [hE, List.length_append]
      repeat (first
        | (with_reducible first | apply AWp.seq | apply AWp.block | refine And.intro (by first | omega | assumption | decide) ?_)
        | ((first | (with_reducible first | apply AWp.fork | apply AWp.region | show condK _ _ _ | show guardK _ _ _ _ _ _ _ _ _)); simp -implicitDefEqProofs [n_id2_id, n_id_id2, ci_lt, ci_le, n_tk0_id, n_id_tk0, wi_i, n_id3_tk, n_tk_id3])
        | ((with_reducible first | apply AWp.ret | apply AWp.skip | apply AWp.exit); try simp -implicitDefEqProofs [n_id2_id, n_id_id2, ci_lt, ci_le, n_tk0_id, n_id_tk0, wi_i, n_id3_tk, n_tk_id3]))
      refine stepA.mk ((i + 1, tk')) (by (try dsimp only); omega) (by (try dsimp only); (simp only [List.cons_append, List.nil_append]; repeat (first | exact FrWk.nil | refine FrWk.cons (by first | (simp -implicitDefEqProofs [hE1, hE2, n_id2_id, n_id_id2, ci_lt, ci_le, n_tk0_id, n_id_tk0, wi_i, n_id3_tk, n_tk_id3]; done) | exact Wk.of (by (try simp -implicitDefEqProofs [hE1, hE2, n_id2_id, n_id_id2, ci_lt, ci_le, n_tk0_id, n_id_tk0, wi_i, n_id3_tk, n_tk_id3]) <;> rfl)) ?_))) (by (try dsimp only); (first | (simp [hE1, hE2]; done) | (simp [hE2]; exact le_set (hle _ _)))) ?_
      try dsimp only
      exact ⟨hlt, hf⟩
    · have hil : i = l.length := by omega
      subst hil
      repeat (first
        | (with_reducible first | apply AWp.seq | apply AWp.block | refine And.intro (by first | omega | assumption | decide) ?_)
        | ((first | (with_reducible first | apply AWp.fork | apply AWp.region | show condK _ _ _ | show guardK _ _ _ _ _ _ _ _ _)); simp -implicitDefEqProofs [hlt, n_id2_id, n_id_id2, ci_lt, ci_le, n_tk0_id, n_id_tk0])
        | ((with_reducible first | apply AWp.ret | apply AWp.skip | apply AWp.exit); try simp -implicitDefEqProofs [hlt, n_id2_id, n_id_id2, ci_lt, ci_le, n_tk0_id, n_id_tk0]))
      exact owns_end tk h_tk (by simp) (AS.le_refl _)

end Sg
end Go.Proofs.Ytplphldpkliakaa
