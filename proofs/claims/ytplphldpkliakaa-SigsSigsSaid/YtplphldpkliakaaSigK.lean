/- The document: PutLocals, PutSig. -/
import Derived.Test.YtplphldpkliakaaSigJ
set_option linter.unusedSimpArgs false
set_option linter.unusedVariables false
set_option maxRecDepth 100000
set_option maxHeartbeats 3200000
namespace Go.Proofs.Ytplphldpkliakaa
namespace Sg
open Go Go.AW

def bL (b : List UInt8) : AV := .lst 5 (b.map u8) .unk (decide (b = []))
theorem bL_def (b : List UInt8) : bL b = .lst 5 (b.map u8) .unk (decide (b = [])) := rfl
def resB : Except Int (List UInt8) → List UInt8
  | .ok l => l
  | .error _ => []
theorem Wk_nilB : AV.Wk Try.prog .nilS (bL []) := by simp [bL]
theorem Wk_tokB (b : List UInt8) (o : Own) (nl : Bool) (h : nl = decide (b = [])) : AV.Wk Try.prog (.lst 5 (b.map u8) o nl) (bL b) := by
  subst h; exact Wk_unk _ _ _ _ |>.2 trivial

theorem preB_len2 (c : UInt8) (l : List Ty) (h : l.length ≤ 12) : ∀ i, i ≤ l.length → (∀ x ∈ l.take i, localT x = true) → (preB c l i).length ≤ 5 + 10 * i := by
  intro i
  induction i with
  | zero => intro _ _; unfold preB; rw [packL_len _ h]; simp
  | succ i ih =>
    intro hi hp
    have hlt : i < l.length := by omega
    rw [List.take_succ_eq_append_getElem hlt] at hp
    rw [preB_next c l hlt, List.length_append]
    have := ih (by omega) (fun x hx => hp x (List.mem_append.2 (.inl hx)))
    have h1 := hp l[i] (List.mem_append.2 (.inr (List.mem_singleton.2 rfl)))
    have h2 : plainT l[i] = true := by unfold localT at h1; simp at h1; exact h1.1
    have := tyB_len h2
    omega
theorem preS_len2 (c : UInt8) (l : List Ty) (r : Ty) (h : l.length ≤ 12) (hr : plainT r = true) : ∀ i, i ≤ l.length → (∀ x ∈ l.take i, localT x = true) → (preS c l r i).length ≤ 12 + 10 * i := by
  intro i
  induction i with
  | zero =>
    intro _ _
    have := tyB_len hr
    rw [preS_zero, List.length_append, hdB_len c l h]; omega
  | succ i ih =>
    intro hi hp
    have hlt : i < l.length := by omega
    rw [List.take_succ_eq_append_getElem hlt] at hp
    rw [preS_next c l r hlt, List.length_append]
    have := ih (by omega) (fun x hx => hp x (List.mem_append.2 (.inl hx)))
    have h1 := hp l[i] (List.mem_append.2 (.inr (List.mem_singleton.2 rfl)))
    have h2 : plainT l[i] = true := by unfold localT at h1; simp at h1; exact h1.1
    have := tyB_len h2
    omega

theorem rputLocals_ok (l : List Ty) (o : Own) (nl : Bool) (hl : l.length ≤ 100000) (σ : AS) : ACalls Try.prog 28 [.lst 24 (l.map tyV) o nl] σ
    (Gives (.tup [bL (resB (putLoc l)), .sc (.int .i64 (resE (putLoc l)))]) σ) No := by
  have hw := fun t σ => rwhere_ok t 2 σ
  have hwl : ∀ t, whereT t 2 = localT t := fun t => by unfold whereT localT; cases plainT t <;> simp
  simp only [hwl, tyV_def] at hw
  by_cases h12 : 12 < l.length
  · have h12' : ((12 : Int) < l.length) = True := eq_true (by omega)
    rw [show putLoc l = .error 4 by unfold putLoc; rw [if_pos h12]]
    simp only [resB, resE]
    refine ACalls.of_body Try.func28 rfl rfl (by simp [Try.ntmps28]) ?_
    repeat (first
      | (with_reducible first | apply AWp.seq | apply AWp.block | refine And.intro (by first | omega | assumption | decide) ?_)
      | ((first | (with_reducible first | apply AWp.fork | apply AWp.region | show condK _ _ _ | show guardK _ _ _ _ _ _ _ _ _)); simp -implicitDefEqProofs [h12'])
      | ((with_reducible first | apply AWp.ret | apply AWp.skip | apply AWp.exit); try simp -implicitDefEqProofs [h12']))
    exact Wk_tup2 Wk_nilB (Wk.refl _)
  · have h12' : ((12 : Int) < l.length) = False := eq_false (by omega)
    have hP : putLoc l = if l.all localT = true then .ok (lcB l) else .error 17 := by unfold putLoc; rw [if_neg h12]
    have hL := fun hp => preB_len 7 l (by omega) hp
    have hu : IntKind.u8.wrap (l.length : Int) = l.length := in_u8 (by omega) (by omega)
    refine ACalls.of_body Try.func28 rfl rfl (by simp [Try.ntmps28]) ?_
    repeat (first
      | (with_reducible first | apply AWp.seq | apply AWp.block | refine And.intro (by first | omega | assumption | decide) ?_)
      | ((first | (with_reducible first | apply AWp.fork | apply AWp.region | show condK _ _ _ | show guardK _ _ _ _ _ _ _ _ _)); simp -implicitDefEqProofs [h12', ci_lt, ci_le])
      | ((with_reducible first | apply AWp.ret | apply AWp.skip | apply AWp.exit); try simp -implicitDefEqProofs [h12', ci_lt, ci_le]))
    intro tk h_tk
    have hz : ((UInt8.ofNat l.length).toNat : Int) = l.length := by simp; omega
    have h0 : preB 7 l 0 = [7, UInt8.ofNat l.length] := by simp [preB, packL_len _ (show l.length ≤ 12 by omega)]
    have h00 : (preB 7 l 0).map u8 = [.sc (.int .u8 7), .sc (.int .u8 (IntKind.u8.wrap l.length))] := by rw [h0, hu]; simp only [List.map_cons, List.map_nil, u8, hz]; rfl
    repeat (first
      | (with_reducible first | apply AWp.seq | apply AWp.block | refine And.intro (by first | omega | assumption | decide) ?_)
      | ((first | (with_reducible first | apply AWp.fork | apply AWp.region | show condK _ _ _ | show guardK _ _ _ _ _ _ _ _ _)); simp -implicitDefEqProofs [ci_lt, ci_le, h00])
      | ((with_reducible first | apply AWp.ret | apply AWp.skip | apply AWp.exit); try simp -implicitDefEqProofs [ci_lt, ci_le, h00]))
    refine AWp.loopA (α := (Nat)) (0) (fun i => l.length - i) (fun i => i ≤ l.length ∧ ∀ x ∈ l.take i, localT x = true) [(0, ?_)] (fun i => [(5, .sc (.int .i64 i)), (4, .lst 5 ((preB 7 l i).map u8) (.tok tk) false)]) (fun i => σ.set tk (.tok (preB 7 l i).length)) ?_ ?_ ?_ ?_
    rotate_left 1
    · (try dsimp only); (simp only [List.cons_append, List.nil_append]; repeat (first | exact FrWk.nil | refine FrWk.cons (by first | (simp -implicitDefEqProofs [ci_lt, ci_le, h00]; done) | exact Wk.of (by (try simp -implicitDefEqProofs [ci_lt, ci_le, h00]) <;> rfl)) ?_))
    · (try dsimp only); (simp [h0]; done)
    · exact ⟨by omega, by simp⟩
    intro i hx_
    try dsimp only at hx_ ⊢
    obtain ⟨hi, hA⟩ := hx_
    simp only [List.cons_append, List.nil_append]
    by_cases hlt : i < l.length
    · have wi_i : IntKind.i64.wrap ((i : Int) + 1) = ((i + 1 : Nat) : Int) := ci_wi (by omega)
      have hw1 := fun σ => hw l[i] σ
      cases hLi : localT l[i] with
      | false =>
        rw [hLi] at hw1
        have hall : l.all localT = false := by
          rw [Bool.eq_false_iff]; intro h
          have := List.all_eq_true.1 h l[i] (List.getElem_mem hlt)
          rw [hLi] at this; cases this
        rw [hP, hall]
        simp only [Bool.false_eq_true, if_false, resB, resE]
        repeat (first
          | (with_reducible first | apply AWp.seq | apply AWp.block | refine And.intro (by first | omega | assumption | decide) ?_)
          | ((first | (with_reducible first | apply AWp.fork | apply AWp.region | show condK _ _ _ | show guardK _ _ _ _ _ _ _ _ _) | ((with_reducible apply aCall.id); first | apply aCall.gives (hw1 _))); simp -implicitDefEqProofs [hlt, tyV_def, ci_lt, ci_le, h00, wi_i])
          | ((with_reducible first | apply AWp.ret | apply AWp.skip | apply AWp.exit); try simp -implicitDefEqProofs [hlt, tyV_def, ci_lt, ci_le, h00, wi_i]))
        exact ⟨Wk_tup2 Wk_nilB (Wk.refl _), AS.le_set (AS.le_refl _) h_tk⟩
      | true =>
        rw [hLi] at hw1
        have hpi : plainT l[i] = true := by unfold localT at hLi; simp at hLi; exact hLi.1
        have hA1 : ∀ x ∈ l.take (i + 1), localT x = true := by
          rw [List.take_succ_eq_append_getElem hlt]
          intro x hx
          rcases List.mem_append.1 hx with hx | hx
          · exact hA x hx
          · rw [List.mem_singleton.1 hx]; exact hLi
        have hp := fun σ => rput_ok l[i] hpi σ
        have hE := preB_next 7 l hlt
        have hE1 : (preB 7 l (i + 1)).map u8 = (preB 7 l i).map u8 ++ (tyB l[i]).map u8 := by rw [hE, List.map_append]
        have hE2 : (preB 7 l (i + 1)).length = (preB 7 l i).length + (tyB l[i]).length := by rw [hE, List.length_append]
        have hpl : (preB 7 l i).length ≤ 1000 := by have := preB_len2 7 l (by omega) i hi hA; omega
        have htl := tyB_len hpi
        simp only [tyV_def] at hp
        repeat (first
          | (with_reducible first | apply AWp.seq | apply AWp.block | refine And.intro (by first | omega | assumption | decide) ?_)
          | ((first | (with_reducible first | apply AWp.fork | apply AWp.region | show condK _ _ _ | show guardK _ _ _ _ _ _ _ _ _) | ((with_reducible apply aCall.id); first | apply aCall.gives (hw1 _) | apply aCall.owns (hp _))); simp -implicitDefEqProofs [hlt, tyV_def, ci_lt, ci_le, h00, wi_i])
          | ((with_reducible first | apply AWp.ret | apply AWp.skip | apply AWp.exit); try simp -implicitDefEqProofs [hlt, tyV_def, ci_lt, ci_le, h00, wi_i]))
        intro tk2 n1 h2
        have n2 : ¬ tk = tk2 := fun e => n1 e.symm
        repeat (first
          | (with_reducible first | apply AWp.seq | apply AWp.block | refine And.intro (by first | omega | assumption | decide) ?_)
          | ((first | (with_reducible first | apply AWp.fork | apply AWp.region | show condK _ _ _ | show guardK _ _ _ _ _ _ _ _ _)); simp -implicitDefEqProofs [n1, n2, hpl, htl, ci_lt, ci_le, h00, wi_i])
          | ((with_reducible first | apply AWp.ret | apply AWp.skip | apply AWp.exit); try simp -implicitDefEqProofs [n1, n2, hpl, htl, ci_lt, ci_le, h00, wi_i]))
        refine stepA.mk ((i + 1)) (by (try dsimp only); omega) (by (try dsimp only); (simp only [List.cons_append, List.nil_append]; repeat (first | exact FrWk.nil | refine FrWk.cons (by first | (simp -implicitDefEqProofs [hE1, hE2, ci_lt, ci_le, h00, wi_i]; done) | exact Wk.of (by (try simp -implicitDefEqProofs [hE1, hE2, ci_lt, ci_le, h00, wi_i]) <;> rfl)) ?_))) (by (try dsimp only); (simp [hE1, hE2]; exact AS.le_set (AS.le_refl _) (by simp [*]))) ?_
        try dsimp only
        exact ⟨hlt, hA1⟩
    · have hil : i = l.length := by omega
      subst hil
      rw [List.take_length] at hA
      rw [hP, List.all_eq_true.2 hA]
      simp only [if_true, resB, resE]
      rw [← preB_lc l (by omega)]
      repeat (first
        | (with_reducible first | apply AWp.seq | apply AWp.block | refine And.intro (by first | omega | assumption | decide) ?_)
        | ((first | (with_reducible first | apply AWp.fork | apply AWp.region | show condK _ _ _ | show guardK _ _ _ _ _ _ _ _ _)); simp -implicitDefEqProofs [hlt, ci_lt, ci_le, h00])
        | ((with_reducible first | apply AWp.ret | apply AWp.skip | apply AWp.exit); try simp -implicitDefEqProofs [hlt, ci_lt, ci_le, h00]))
      exact ⟨Wk_tup2 (Wk_tokB _ _ _ (by simp [preB])) (Wk.refl _), AS.le_set (AS.le_refl _) h_tk⟩

theorem rputSig_ok (th : Bool) (l : List Ty) (r : Ty) (o : Own) (nl : Bool) (hl : l.length ≤ 100000) (σ : AS) :
    ACalls Try.prog 15 [.agg [.sc (.bool th), .lst 24 (l.map tyV) o nl, .sc (.int .i64 r.kind), .sc (.int .i64 r.index), .sc (.int .i64 r.dims), .sc (.bool r.ref)]] σ
    (Gives (.tup [bL (resB (putSig ⟨th, l, r⟩)), .sc (.int .i64 (resE (putSig ⟨th, l, r⟩)))]) σ) No := by
  have hw := fun t σ => rwhere_ok t 2 σ
  have hr := fun σ => rwhere_ok r 3 σ
  have hwl : ∀ t, whereT t 2 = localT t := fun t => by unfold whereT localT; cases plainT t <;> simp
  have hwr : whereT r 3 = answerT r := by unfold whereT; simp
  simp only [hwl, tyV_def] at hw
  simp only [hwr, tyV_def] at hr
  by_cases h6 : 6 < l.length
  · have h6' : ((6 : Int) < l.length) = True := eq_true (by omega)
    rw [show putSig ⟨th, l, r⟩ = .error 4 by unfold putSig; rw [if_pos h6]]
    simp only [resB, resE]
    refine ACalls.of_body Try.func15 rfl rfl (by simp [Try.ntmps15]) ?_
    repeat (first
      | (with_reducible first | apply AWp.seq | apply AWp.block | refine And.intro (by first | omega | assumption | decide) ?_)
      | ((first | (with_reducible first | apply AWp.fork | apply AWp.region)); simp -implicitDefEqProofs)
      | ((with_reducible first | apply AWp.ret | apply AWp.skip | apply AWp.exit); try simp -implicitDefEqProofs))
    intro id1 h_id1
    repeat (first
      | (with_reducible first | apply AWp.seq | apply AWp.block | refine And.intro (by first | omega | assumption | decide) ?_)
      | ((first | (with_reducible first | apply AWp.fork | apply AWp.region | show condK _ _ _ | show guardK _ _ _ _ _ _ _ _ _)); simp -implicitDefEqProofs [h6'])
      | ((with_reducible first | apply AWp.ret | apply AWp.skip | apply AWp.exit); try simp -implicitDefEqProofs [h6']))
    exact ⟨Wk_tup2 Wk_nilB (Wk.refl _), AS.le_set (AS.le_refl _) h_id1⟩
  have h6' : ((6 : Int) < l.length) = False := eq_false (by omega)
  have hP : putSig ⟨th, l, r⟩ = if (l.all localT && answerT r) = true then .ok (sgB ⟨th, l, r⟩) else .error 17 := by unfold putSig; rw [if_neg h6]
  have hu : IntKind.u8.wrap (l.length : Int) = l.length := in_u8 (by omega) (by omega)
  have hz : ((UInt8.ofNat l.length).toNat : Int) = l.length := by simp; omega
  cases th
  · -- false
    refine ACalls.of_body Try.func15 rfl rfl (by simp [Try.ntmps15]) ?_
    have hS0 : (preS 0 l r 0).map u8 = .sc (.int .u8 0) :: .sc (.int .u8 (IntKind.u8.wrap l.length)) :: (tyB r).map u8 := by
      rw [preS_zero, hdB, packL_len _ (show l.length ≤ 12 by omega), hu]; simp only [List.map_cons, List.map_nil, List.cons_append, List.nil_append, u8, hz]; rfl
    have hS1 : (preS 0 l r 0).length = (tyB r).length + 1 + 1 := by
      rw [preS_zero, hdB, packL_len _ (show l.length ≤ 12 by omega)]; simp
    repeat (first
      | (with_reducible first | apply AWp.seq | apply AWp.block | refine And.intro (by first | omega | assumption | decide) ?_)
      | ((first | (with_reducible first | apply AWp.fork | apply AWp.region | show condK _ _ _ | show guardK _ _ _ _ _ _ _ _ _)); simp -implicitDefEqProofs [ci_lt, ci_le])
      | ((with_reducible first | apply AWp.ret | apply AWp.skip | apply AWp.exit); try simp -implicitDefEqProofs [ci_lt, ci_le]))
    intro id1 h_id1
    repeat (first
      | (with_reducible first | apply AWp.seq | apply AWp.block | refine And.intro (by first | omega | assumption | decide) ?_)
      | ((first | (with_reducible first | apply AWp.fork | apply AWp.region | show condK _ _ _ | show guardK _ _ _ _ _ _ _ _ _)); simp -implicitDefEqProofs [h6', ci_lt, ci_le])
      | ((with_reducible first | apply AWp.ret | apply AWp.skip | apply AWp.exit); try simp -implicitDefEqProofs [h6', ci_lt, ci_le]))
    intro tk n_tk_id1 h_tk
    have n_id1_tk : ¬ id1 = tk := fun e => n_tk_id1 e.symm
    have hle : ∀ x y, AS.le σ ((σ.set id1 x).set tk y) := fun x y => AS.le_set (AS.le_set (AS.le_refl _) h_id1) (by simp [*])
    cases hR : answerT r with
    | false =>
      rw [hR] at hr
      rw [hP, hR, Bool.and_false]
      simp only [Bool.false_eq_true, if_false, resB, resE]
      repeat (first
        | (with_reducible first | apply AWp.seq | apply AWp.block | refine And.intro (by first | omega | assumption | decide) ?_)
        | ((first | (with_reducible first | apply AWp.fork | apply AWp.region | show condK _ _ _ | show guardK _ _ _ _ _ _ _ _ _) | ((with_reducible apply aCall.id); first | apply aCall.gives (hr _))); simp -implicitDefEqProofs [ci_lt, ci_le, n_tk_id1, n_id1_tk])
        | ((with_reducible first | apply AWp.ret | apply AWp.skip | apply AWp.exit); try simp -implicitDefEqProofs [ci_lt, ci_le, n_tk_id1, n_id1_tk]))
      exact ⟨Wk_tup2 Wk_nilB (Wk.refl _), hle _ _⟩
    | true =>
      rw [hR] at hr
      have hpr : plainT r = true := by unfold answerT at hR; simp at hR; exact hR.1
      have hp0 := fun σ => rput_ok r hpr σ
      have htr := tyB_len hpr
      repeat (first
        | (with_reducible first | apply AWp.seq | apply AWp.block | refine And.intro (by first | omega | assumption | decide) ?_)
        | ((first | (with_reducible first | apply AWp.fork | apply AWp.region | show condK _ _ _ | show guardK _ _ _ _ _ _ _ _ _) | ((with_reducible apply aCall.id); first | apply aCall.gives (hr _) | apply aCall.owns (hp0 _))); simp -implicitDefEqProofs [ci_lt, ci_le, n_tk_id1, n_id1_tk])
        | ((with_reducible first | apply AWp.ret | apply AWp.skip | apply AWp.exit); try simp -implicitDefEqProofs [ci_lt, ci_le, n_tk_id1, n_id1_tk]))
      intro tk3 n31 n3i h3
      have n13 : ¬ tk = tk3 := fun e => n31 e.symm
      have ni3 : ¬ id1 = tk3 := fun e => n3i e.symm
      repeat (first
        | (with_reducible first | apply AWp.seq | apply AWp.block | refine And.intro (by first | omega | assumption | decide) ?_)
        | ((first | (with_reducible first | apply AWp.fork | apply AWp.region | show condK _ _ _ | show guardK _ _ _ _ _ _ _ _ _)); simp -implicitDefEqProofs [n31, n3i, n13, ni3, htr, ci_lt, ci_le, n_tk_id1, n_id1_tk])
        | ((with_reducible first | apply AWp.ret | apply AWp.skip | apply AWp.exit); try simp -implicitDefEqProofs [n31, n3i, n13, ni3, htr, ci_lt, ci_le, n_tk_id1, n_id1_tk]))
      refine AWp.loopA (α := (Nat)) (0) (fun i => l.length - i) (fun i => i ≤ l.length ∧ ∀ x ∈ l.take i, localT x = true) [(1, ?_)] (fun i => [(5, .sc (.int .i64 i)), (4, .lst 5 ((preS 0 l r i).map u8) (.tok tk) false)]) (fun i => (σ.set id1 (.cells 26 [.sc (.bool false), .lst 24 (l.map tyV) o nl, .sc (.int .i64 r.kind), .sc (.int .i64 r.index), .sc (.int .i64 r.dims), .sc (.bool r.ref)])).set tk (.tok (preS 0 l r i).length)) ?_ ?_ ?_ ?_
      rotate_left 1
      · (try dsimp only); (simp only [List.cons_append, List.nil_append]; repeat (first | exact FrWk.nil | refine FrWk.cons (by first | (simp -implicitDefEqProofs [ci_lt, ci_le, n_tk_id1, n_id1_tk, hS0, hS1]; done) | exact Wk.of (by (try simp -implicitDefEqProofs [ci_lt, ci_le, n_tk_id1, n_id1_tk, hS0, hS1]) <;> rfl)) ?_))
      · (try dsimp only); (simp only [show (2 : Nat) + (tyB r).length = (tyB r).length + 1 + 1 by omega, hS1]; first | exact AS.le_refl _ | exact AS.le_set (AS.le_refl _) (by simp [*]))
      · exact ⟨by omega, by simp⟩
      intro i hx_
      try dsimp only at hx_ ⊢
      obtain ⟨hi, hA⟩ := hx_
      simp only [List.cons_append, List.nil_append]
      by_cases hlt : i < l.length
      · have wi_i : IntKind.i64.wrap ((i : Int) + 1) = ((i + 1 : Nat) : Int) := ci_wi (by omega)
        have hw1 := fun σ => hw l[i] σ
        cases hLi : localT l[i] with
        | false =>
          rw [hLi] at hw1
          have hall : l.all localT = false := by
            rw [Bool.eq_false_iff]; intro h
            have := List.all_eq_true.1 h l[i] (List.getElem_mem hlt)
            rw [hLi] at this; cases this
          rw [hP, hall, Bool.false_and]
          simp only [Bool.false_eq_true, if_false, resB, resE]
          repeat (first
            | (with_reducible first | apply AWp.seq | apply AWp.block | refine And.intro (by first | omega | assumption | decide) ?_)
            | ((first | (with_reducible first | apply AWp.fork | apply AWp.region | show condK _ _ _ | show guardK _ _ _ _ _ _ _ _ _) | ((with_reducible apply aCall.id); first | apply aCall.gives (hw1 _))); simp -implicitDefEqProofs [hlt, tyV_def, ci_lt, ci_le, n_tk_id1, n_id1_tk, hS0, hS1, wi_i])
            | ((with_reducible first | apply AWp.ret | apply AWp.skip | apply AWp.exit); try simp -implicitDefEqProofs [hlt, tyV_def, ci_lt, ci_le, n_tk_id1, n_id1_tk, hS0, hS1, wi_i]))
          exact ⟨Wk_tup2 Wk_nilB (Wk.refl _), hle _ _⟩
        | true =>
          rw [hLi] at hw1
          have hpi : plainT l[i] = true := by unfold localT at hLi; simp at hLi; exact hLi.1
          have hA1 : ∀ x ∈ l.take (i + 1), localT x = true := by
            rw [List.take_succ_eq_append_getElem hlt]
            intro x hx
            rcases List.mem_append.1 hx with hx | hx
            · exact hA x hx
            · rw [List.mem_singleton.1 hx]; exact hLi
          have hp := fun σ => rput_ok l[i] hpi σ
          have hE := preS_next 0 l r hlt
          have hE1 : (preS 0 l r (i + 1)).map u8 = (preS 0 l r i).map u8 ++ (tyB l[i]).map u8 := by rw [hE, List.map_append]
          have hE2 : (preS 0 l r (i + 1)).length = (preS 0 l r i).length + (tyB l[i]).length := by rw [hE, List.length_append]
          have hpl : (preS 0 l r i).length ≤ 1000 := by have := preS_len2 0 l r (by omega) hpr i hi hA; omega
          have htl := tyB_len hpi
          simp only [tyV_def] at hp
          repeat (first
            | (with_reducible first | apply AWp.seq | apply AWp.block | refine And.intro (by first | omega | assumption | decide) ?_)
            | ((first | (with_reducible first | apply AWp.fork | apply AWp.region | show condK _ _ _ | show guardK _ _ _ _ _ _ _ _ _) | ((with_reducible apply aCall.id); first | apply aCall.gives (hw1 _) | apply aCall.owns (hp _))); simp -implicitDefEqProofs [hlt, tyV_def, ci_lt, ci_le, n_tk_id1, n_id1_tk, hS0, hS1, wi_i])
            | ((with_reducible first | apply AWp.ret | apply AWp.skip | apply AWp.exit); try simp -implicitDefEqProofs [hlt, tyV_def, ci_lt, ci_le, n_tk_id1, n_id1_tk, hS0, hS1, wi_i]))
          intro tk2 n1 n1i h2
          have n2 : ¬ tk = tk2 := fun e => n1 e.symm
          have n2i : ¬ id1 = tk2 := fun e => n1i e.symm
          repeat (first
            | (with_reducible first | apply AWp.seq | apply AWp.block | refine And.intro (by first | omega | assumption | decide) ?_)
            | ((first | (with_reducible first | apply AWp.fork | apply AWp.region | show condK _ _ _ | show guardK _ _ _ _ _ _ _ _ _)); simp -implicitDefEqProofs [n1, n2, n1i, n2i, hpl, htl, ci_lt, ci_le, n_tk_id1, n_id1_tk, hS0, hS1, wi_i])
            | ((with_reducible first | apply AWp.ret | apply AWp.skip | apply AWp.exit); try simp -implicitDefEqProofs [n1, n2, n1i, n2i, hpl, htl, ci_lt, ci_le, n_tk_id1, n_id1_tk, hS0, hS1, wi_i]))
          refine stepA.mk ((i + 1)) (by (try dsimp only); omega) (by (try dsimp only); (simp only [List.cons_append, List.nil_append]; repeat (first | exact FrWk.nil | refine FrWk.cons (by first | (simp -implicitDefEqProofs [hE1, hE2, ci_lt, ci_le, n_tk_id1, n_id1_tk, hS0, hS1, wi_i]; done) | exact Wk.of (by (try simp -implicitDefEqProofs [hE1, hE2, ci_lt, ci_le, n_tk_id1, n_id1_tk, hS0, hS1, wi_i]) <;> rfl)) ?_))) (by (try dsimp only); (simp [hE1, hE2]; exact AS.le_set (AS.le_refl _) (by simp [*]))) ?_
          try dsimp only
          exact ⟨hlt, hA1⟩
      · have hil : i = l.length := by omega
        subst hil
        rw [List.take_length] at hA
        rw [hP, List.all_eq_true.2 hA, hR]
        simp only [Bool.and_self, if_true, resB, resE]
        have hE := preS_sg false l r (by omega)
        simp only [Bool.false_eq_true, if_false, if_true] at hE
        rw [← hE]
        repeat (first
          | (with_reducible first | apply AWp.seq | apply AWp.block | refine And.intro (by first | omega | assumption | decide) ?_)
          | ((first | (with_reducible first | apply AWp.fork | apply AWp.region | show condK _ _ _ | show guardK _ _ _ _ _ _ _ _ _)); simp -implicitDefEqProofs [hlt, ci_lt, ci_le, n_tk_id1, n_id1_tk, hS0, hS1])
          | ((with_reducible first | apply AWp.ret | apply AWp.skip | apply AWp.exit); try simp -implicitDefEqProofs [hlt, ci_lt, ci_le, n_tk_id1, n_id1_tk, hS0, hS1]))
        exact ⟨Wk_tup2 (Wk_tokB _ _ _ (by simp [preS, hdB])) (Wk.refl _), hle _ _⟩
  · -- true
    refine ACalls.of_body Try.func15 rfl rfl (by simp [Try.ntmps15]) ?_
    have hS0 : (preS 32 l r 0).map u8 = .sc (.int .u8 32) :: .sc (.int .u8 (IntKind.u8.wrap l.length)) :: (tyB r).map u8 := by
      rw [preS_zero, hdB, packL_len _ (show l.length ≤ 12 by omega), hu]; simp only [List.map_cons, List.map_nil, List.cons_append, List.nil_append, u8, hz]; rfl
    have hS1 : (preS 32 l r 0).length = (tyB r).length + 1 + 1 := by
      rw [preS_zero, hdB, packL_len _ (show l.length ≤ 12 by omega)]; simp
    repeat (first
      | (with_reducible first | apply AWp.seq | apply AWp.block | refine And.intro (by first | omega | assumption | decide) ?_)
      | ((first | (with_reducible first | apply AWp.fork | apply AWp.region | show condK _ _ _ | show guardK _ _ _ _ _ _ _ _ _)); simp -implicitDefEqProofs [ci_lt, ci_le])
      | ((with_reducible first | apply AWp.ret | apply AWp.skip | apply AWp.exit); try simp -implicitDefEqProofs [ci_lt, ci_le]))
    intro id1 h_id1
    repeat (first
      | (with_reducible first | apply AWp.seq | apply AWp.block | refine And.intro (by first | omega | assumption | decide) ?_)
      | ((first | (with_reducible first | apply AWp.fork | apply AWp.region | show condK _ _ _ | show guardK _ _ _ _ _ _ _ _ _)); simp -implicitDefEqProofs [h6', ci_lt, ci_le])
      | ((with_reducible first | apply AWp.ret | apply AWp.skip | apply AWp.exit); try simp -implicitDefEqProofs [h6', ci_lt, ci_le]))
    intro tk n_tk_id1 h_tk
    have n_id1_tk : ¬ id1 = tk := fun e => n_tk_id1 e.symm
    have hle : ∀ x y, AS.le σ ((σ.set id1 x).set tk y) := fun x y => AS.le_set (AS.le_set (AS.le_refl _) h_id1) (by simp [*])
    cases hR : answerT r with
    | false =>
      rw [hR] at hr
      rw [hP, hR, Bool.and_false]
      simp only [Bool.false_eq_true, if_false, resB, resE]
      repeat (first
        | (with_reducible first | apply AWp.seq | apply AWp.block | refine And.intro (by first | omega | assumption | decide) ?_)
        | ((first | (with_reducible first | apply AWp.fork | apply AWp.region | show condK _ _ _ | show guardK _ _ _ _ _ _ _ _ _) | ((with_reducible apply aCall.id); first | apply aCall.gives (hr _))); simp -implicitDefEqProofs [ci_lt, ci_le, n_tk_id1, n_id1_tk])
        | ((with_reducible first | apply AWp.ret | apply AWp.skip | apply AWp.exit); try simp -implicitDefEqProofs [ci_lt, ci_le, n_tk_id1, n_id1_tk]))
      exact ⟨Wk_tup2 Wk_nilB (Wk.refl _), hle _ _⟩
    | true =>
      rw [hR] at hr
      have hpr : plainT r = true := by unfold answerT at hR; simp at hR; exact hR.1
      have hp0 := fun σ => rput_ok r hpr σ
      have htr := tyB_len hpr
      repeat (first
        | (with_reducible first | apply AWp.seq | apply AWp.block | refine And.intro (by first | omega | assumption | decide) ?_)
        | ((first | (with_reducible first | apply AWp.fork | apply AWp.region | show condK _ _ _ | show guardK _ _ _ _ _ _ _ _ _) | ((with_reducible apply aCall.id); first | apply aCall.gives (hr _) | apply aCall.owns (hp0 _))); simp -implicitDefEqProofs [ci_lt, ci_le, n_tk_id1, n_id1_tk])
        | ((with_reducible first | apply AWp.ret | apply AWp.skip | apply AWp.exit); try simp -implicitDefEqProofs [ci_lt, ci_le, n_tk_id1, n_id1_tk]))
      intro tk3 n31 n3i h3
      have n13 : ¬ tk = tk3 := fun e => n31 e.symm
      have ni3 : ¬ id1 = tk3 := fun e => n3i e.symm
      repeat (first
        | (with_reducible first | apply AWp.seq | apply AWp.block | refine And.intro (by first | omega | assumption | decide) ?_)
        | ((first | (with_reducible first | apply AWp.fork | apply AWp.region | show condK _ _ _ | show guardK _ _ _ _ _ _ _ _ _)); simp -implicitDefEqProofs [n31, n3i, n13, ni3, htr, ci_lt, ci_le, n_tk_id1, n_id1_tk])
        | ((with_reducible first | apply AWp.ret | apply AWp.skip | apply AWp.exit); try simp -implicitDefEqProofs [n31, n3i, n13, ni3, htr, ci_lt, ci_le, n_tk_id1, n_id1_tk]))
      refine AWp.loopA (α := (Nat)) (0) (fun i => l.length - i) (fun i => i ≤ l.length ∧ ∀ x ∈ l.take i, localT x = true) [(1, ?_)] (fun i => [(5, .sc (.int .i64 i)), (4, .lst 5 ((preS 32 l r i).map u8) (.tok tk) false)]) (fun i => (σ.set id1 (.cells 26 [.sc (.bool true), .lst 24 (l.map tyV) o nl, .sc (.int .i64 r.kind), .sc (.int .i64 r.index), .sc (.int .i64 r.dims), .sc (.bool r.ref)])).set tk (.tok (preS 32 l r i).length)) ?_ ?_ ?_ ?_
      rotate_left 1
      · (try dsimp only); (simp only [List.cons_append, List.nil_append]; repeat (first | exact FrWk.nil | refine FrWk.cons (by first | (simp -implicitDefEqProofs [ci_lt, ci_le, n_tk_id1, n_id1_tk, hS0, hS1]; done) | exact Wk.of (by (try simp -implicitDefEqProofs [ci_lt, ci_le, n_tk_id1, n_id1_tk, hS0, hS1]) <;> rfl)) ?_))
      · (try dsimp only); (simp only [show (2 : Nat) + (tyB r).length = (tyB r).length + 1 + 1 by omega, hS1]; first | exact AS.le_refl _ | exact AS.le_set (AS.le_refl _) (by simp [*]))
      · exact ⟨by omega, by simp⟩
      intro i hx_
      try dsimp only at hx_ ⊢
      obtain ⟨hi, hA⟩ := hx_
      simp only [List.cons_append, List.nil_append]
      by_cases hlt : i < l.length
      · have wi_i : IntKind.i64.wrap ((i : Int) + 1) = ((i + 1 : Nat) : Int) := ci_wi (by omega)
        have hw1 := fun σ => hw l[i] σ
        cases hLi : localT l[i] with
        | false =>
          rw [hLi] at hw1
          have hall : l.all localT = false := by
            rw [Bool.eq_false_iff]; intro h
            have := List.all_eq_true.1 h l[i] (List.getElem_mem hlt)
            rw [hLi] at this; cases this
          rw [hP, hall, Bool.false_and]
          simp only [Bool.false_eq_true, if_false, resB, resE]
          repeat (first
            | (with_reducible first | apply AWp.seq | apply AWp.block | refine And.intro (by first | omega | assumption | decide) ?_)
            | ((first | (with_reducible first | apply AWp.fork | apply AWp.region | show condK _ _ _ | show guardK _ _ _ _ _ _ _ _ _) | ((with_reducible apply aCall.id); first | apply aCall.gives (hw1 _))); simp -implicitDefEqProofs [hlt, tyV_def, ci_lt, ci_le, n_tk_id1, n_id1_tk, hS0, hS1, wi_i])
            | ((with_reducible first | apply AWp.ret | apply AWp.skip | apply AWp.exit); try simp -implicitDefEqProofs [hlt, tyV_def, ci_lt, ci_le, n_tk_id1, n_id1_tk, hS0, hS1, wi_i]))
          exact ⟨Wk_tup2 Wk_nilB (Wk.refl _), hle _ _⟩
        | true =>
          rw [hLi] at hw1
          have hpi : plainT l[i] = true := by unfold localT at hLi; simp at hLi; exact hLi.1
          have hA1 : ∀ x ∈ l.take (i + 1), localT x = true := by
            rw [List.take_succ_eq_append_getElem hlt]
            intro x hx
            rcases List.mem_append.1 hx with hx | hx
            · exact hA x hx
            · rw [List.mem_singleton.1 hx]; exact hLi
          have hp := fun σ => rput_ok l[i] hpi σ
          have hE := preS_next 32 l r hlt
          have hE1 : (preS 32 l r (i + 1)).map u8 = (preS 32 l r i).map u8 ++ (tyB l[i]).map u8 := by rw [hE, List.map_append]
          have hE2 : (preS 32 l r (i + 1)).length = (preS 32 l r i).length + (tyB l[i]).length := by rw [hE, List.length_append]
          have hpl : (preS 32 l r i).length ≤ 1000 := by have := preS_len2 32 l r (by omega) hpr i hi hA; omega
          have htl := tyB_len hpi
          simp only [tyV_def] at hp
          repeat (first
            | (with_reducible first | apply AWp.seq | apply AWp.block | refine And.intro (by first | omega | assumption | decide) ?_)
            | ((first | (with_reducible first | apply AWp.fork | apply AWp.region | show condK _ _ _ | show guardK _ _ _ _ _ _ _ _ _) | ((with_reducible apply aCall.id); first | apply aCall.gives (hw1 _) | apply aCall.owns (hp _))); simp -implicitDefEqProofs [hlt, tyV_def, ci_lt, ci_le, n_tk_id1, n_id1_tk, hS0, hS1, wi_i])
            | ((with_reducible first | apply AWp.ret | apply AWp.skip | apply AWp.exit); try simp -implicitDefEqProofs [hlt, tyV_def, ci_lt, ci_le, n_tk_id1, n_id1_tk, hS0, hS1, wi_i]))
          intro tk2 n1 n1i h2
          have n2 : ¬ tk = tk2 := fun e => n1 e.symm
          have n2i : ¬ id1 = tk2 := fun e => n1i e.symm
          repeat (first
            | (with_reducible first | apply AWp.seq | apply AWp.block | refine And.intro (by first | omega | assumption | decide) ?_)
            | ((first | (with_reducible first | apply AWp.fork | apply AWp.region | show condK _ _ _ | show guardK _ _ _ _ _ _ _ _ _)); simp -implicitDefEqProofs [n1, n2, n1i, n2i, hpl, htl, ci_lt, ci_le, n_tk_id1, n_id1_tk, hS0, hS1, wi_i])
            | ((with_reducible first | apply AWp.ret | apply AWp.skip | apply AWp.exit); try simp -implicitDefEqProofs [n1, n2, n1i, n2i, hpl, htl, ci_lt, ci_le, n_tk_id1, n_id1_tk, hS0, hS1, wi_i]))
          refine stepA.mk ((i + 1)) (by (try dsimp only); omega) (by (try dsimp only); (simp only [List.cons_append, List.nil_append]; repeat (first | exact FrWk.nil | refine FrWk.cons (by first | (simp -implicitDefEqProofs [hE1, hE2, ci_lt, ci_le, n_tk_id1, n_id1_tk, hS0, hS1, wi_i]; done) | exact Wk.of (by (try simp -implicitDefEqProofs [hE1, hE2, ci_lt, ci_le, n_tk_id1, n_id1_tk, hS0, hS1, wi_i]) <;> rfl)) ?_))) (by (try dsimp only); (simp [hE1, hE2]; exact AS.le_set (AS.le_refl _) (by simp [*]))) ?_
          try dsimp only
          exact ⟨hlt, hA1⟩
      · have hil : i = l.length := by omega
        subst hil
        rw [List.take_length] at hA
        rw [hP, List.all_eq_true.2 hA, hR]
        simp only [Bool.and_self, if_true, resB, resE]
        have hE := preS_sg true l r (by omega)
        simp only [Bool.false_eq_true, if_false, if_true] at hE
        rw [← hE]
        repeat (first
          | (with_reducible first | apply AWp.seq | apply AWp.block | refine And.intro (by first | omega | assumption | decide) ?_)
          | ((first | (with_reducible first | apply AWp.fork | apply AWp.region | show condK _ _ _ | show guardK _ _ _ _ _ _ _ _ _)); simp -implicitDefEqProofs [hlt, ci_lt, ci_le, n_tk_id1, n_id1_tk, hS0, hS1])
          | ((with_reducible first | apply AWp.ret | apply AWp.skip | apply AWp.exit); try simp -implicitDefEqProofs [hlt, ci_lt, ci_le, n_tk_id1, n_id1_tk, hS0, hS1]))
        exact ⟨Wk_tup2 (Wk_tokB _ _ _ (by simp [preS, hdB])) (Wk.refl _), hle _ _⟩

end Sg
end Go.Proofs.Ytplphldpkliakaa
