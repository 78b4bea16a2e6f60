/- Chapter 07: the document's Raw, Width, Places, low. -/
import Derived.Test.YtnkjbgcbchbonaaCode2
import Derived.Test.YtnkjbgcbchbonaaRef1
set_option linter.unusedSimpArgs false
set_option linter.unusedVariables false
set_option maxRecDepth 100000
set_option maxHeartbeats 3200000
namespace Go.Proofs.Ytnkjbgcbchbonaa
open Go Go.AW

theorem rraw_ok (x : Ins) (h64 : Fit64 x) (σ : AS) : ACalls Try.prog 31 [insV x] σ (Gives (.sc (.bool (rawB x))) σ) No := by
  have ho := fun σ => rOf_ok x.op σ
  have hf := fun σ => rFits_ok x h64.1 h64.2 σ
  by_cases h : x.op < 1 ∨ 75 < x.op
  · have e1 : rawB x = false := by simp [rawB, h]
    have e2 : ofE x.op = 3 := by simp [ofE, h]
    rw [e1]
    rw [e2] at ho
    clear hf h64
    obtain ⟨op, arg, k, ix, d, r⟩ := x
    simp only [insV, infV] at ho ⊢
    refine ACalls.of_body Try.func31 rfl rfl (by simp [Try.ntmps31]) ?_
    repeat (first
      | (with_reducible first | apply AWp.seq | apply AWp.block | refine And.intro (by first | omega | assumption | decide) ?_)
      | ((first | (with_reducible first | apply AWp.fork | apply AWp.region)); simp -implicitDefEqProofs)
      | ((with_reducible first | apply AWp.ret | apply AWp.skip | apply AWp.exit); try simp -implicitDefEqProofs))
    intro id h_id
    repeat (first
      | (with_reducible first | apply AWp.seq | apply AWp.block | refine And.intro (by first | omega | assumption | decide) ?_)
      | ((first | (with_reducible first | apply AWp.fork | apply AWp.region) | ((with_reducible apply aCall.id); first | apply aCall.gives (ho _))); simp -implicitDefEqProofs)
      | ((with_reducible first | apply AWp.ret | apply AWp.skip | apply AWp.exit); try simp -implicitDefEqProofs))
    intro id2 n_id2_id h_id2
    have n_id_id2 : ¬ id = id2 := fun e => n_id2_id e.symm
    repeat (first
      | (with_reducible first | apply AWp.seq | apply AWp.block | refine And.intro (by first | omega | assumption | decide) ?_)
      | ((first | (with_reducible first | apply AWp.fork | apply AWp.region | show condK _ _ _ | show guardK _ _ _ _ _ _ _ _ _) | ((with_reducible apply aCall.id); first | apply aCall.gives (ho _))); simp -implicitDefEqProofs [n_id2_id, n_id_id2])
      | ((with_reducible first | apply AWp.ret | apply AWp.skip | apply AWp.exit); try simp -implicitDefEqProofs [n_id2_id, n_id_id2]))
    all_goals (repeat' (with_reducible apply And.intro))
    all_goals first
      | exact AS.le_refl _
      | ((repeat (first | exact AS.le_refl _ | assumption | refine le_new (by simp [*]) ?_)); done)
      | (refine wk_eq ?_; simp_all [skipV]; done)
      | (refine wk_b ?_; rw [Bool.eq_iff_iff]; simp [*]; omega)
      | (refine wk_eq ?_; simp [*]; omega)
      | (refine wk_eq ?_; split <;> simp_all [skipV]; done)
      | (exfalso; omega)
  · have e2 : ofE x.op = 0 := by simp [ofE, h]
    rw [e2] at ho
    clear h64
    by_cases h8 : oO x.op = 8
    · have e1 : rawB x = (noT x.t && (decide (0 < x.arg) && decide (x.arg < 16384))) := by unfold rawB; rw [if_neg h, if_pos h8]
      have e3 : (decide (0 < x.arg) && decide (x.arg < 16384)) = (decide (1 ≤ x.arg) && decide (x.arg ≤ 16383)) := by rw [Bool.eq_iff_iff]; simp; omega
      rw [e1, e3]
      have h8' : (ofT x.op).2.1 = 8 := h8
      obtain ⟨op, arg, k, ix, d, r⟩ := x
      have hq : eqAV Try.prog 8 40 (.agg [.sc (.int .i64 k), .sc (.int .i64 ix), .sc (.int .i64 d), .sc (.bool r)]) (.agg [.sc (.int .i64 0), .sc (.int .i64 0), .sc (.int .i64 0), .sc (.bool false)]) = some (noT ⟨k, ix, d, r⟩) := by simp [noT]
      simp only [insV, infV] at ho h8' hq ⊢
      rw [h8'] at ho
      clear hf
      generalize noT ⟨k, ix, d, r⟩ = nt at *
      refine ACalls.of_body Try.func31 rfl rfl (by simp [Try.ntmps31]) ?_
      repeat (first
        | (with_reducible first | apply AWp.seq | apply AWp.block | refine And.intro (by first | omega | assumption | decide) ?_)
        | ((first | (with_reducible first | apply AWp.fork | apply AWp.region)); simp -implicitDefEqProofs)
        | ((with_reducible first | apply AWp.ret | apply AWp.skip | apply AWp.exit); try simp -implicitDefEqProofs))
      intro id h_id
      repeat (first
        | (with_reducible first | apply AWp.seq | apply AWp.block | refine And.intro (by first | omega | assumption | decide) ?_)
        | ((first | (with_reducible first | apply AWp.fork | apply AWp.region) | ((with_reducible apply aCall.id); first | apply aCall.gives (ho _))); simp -implicitDefEqProofs)
        | ((with_reducible first | apply AWp.ret | apply AWp.skip | apply AWp.exit); try simp -implicitDefEqProofs))
      intro id2 n_id2_id h_id2
      have n_id_id2 : ¬ id = id2 := fun e => n_id2_id e.symm
      repeat' (first
        | (with_reducible first | apply AWp.seq | apply AWp.block | refine And.intro (by first | omega | assumption | decide) ?_)
        | ((first | (with_reducible first | apply AWp.fork | apply AWp.region | show condK _ _ _ | show guardK _ _ _ _ _ _ _ _ _) | ((with_reducible apply aCall.id); first | apply aCall.gives (ho _))); simp -implicitDefEqProofs [-eq_t, hq, n_id2_id, n_id_id2])
        | trivial
        | (with_reducible apply And.intro)
        | ((with_reducible first | apply AWp.ret | apply AWp.skip | apply AWp.exit); try simp -implicitDefEqProofs [-eq_t, hq, n_id2_id, n_id_id2])
        | ((with_reducible first | apply condK.split | apply guardK.split | apply pureG.split) <;> (intro hc; (try simp -implicitDefEqProofs only [hc]); (try simp at hc)) <;> try simp -implicitDefEqProofs [-eq_t, hq, n_id2_id, n_id_id2]))
      all_goals (repeat' (with_reducible apply And.intro))
      all_goals first
        | exact AS.le_refl _
        | ((repeat (first | exact AS.le_refl _ | assumption | refine le_new (by simp [*]) ?_)); done)
        | (refine wk_eq ?_; simp_all [skipV]; done)
        | (refine wk_b ?_; rw [Bool.eq_iff_iff]; simp [*]; omega)
        | (refine wk_eq ?_; simp [*]; omega)
        | (refine wk_eq ?_; split <;> simp_all [skipV]; done)
        | (exfalso; omega)
    · have e1 := fitsE_raw h h8
      rw [e1] at hf
      have h8' : ¬ (ofT x.op).2.1 = 8 := h8
      generalize rawB x = rb at *
      generalize ofT x.op = it at *
      obtain ⟨op, arg, k, ix, d, r⟩ := x
      obtain ⟨i1, i2, i3⟩ := it
      simp only [insV, infV] at ho hf h8' ⊢
      cases rb
      all_goals
        simp at hf
        refine ACalls.of_body Try.func31 rfl rfl (by simp [Try.ntmps31]) ?_
        repeat (first
          | (with_reducible first | apply AWp.seq | apply AWp.block | refine And.intro (by first | omega | assumption | decide) ?_)
          | ((first | (with_reducible first | apply AWp.fork | apply AWp.region)); simp -implicitDefEqProofs)
          | ((with_reducible first | apply AWp.ret | apply AWp.skip | apply AWp.exit); try simp -implicitDefEqProofs))
        intro id h_id
        repeat (first
          | (with_reducible first | apply AWp.seq | apply AWp.block | refine And.intro (by first | omega | assumption | decide) ?_)
          | ((first | (with_reducible first | apply AWp.fork | apply AWp.region) | ((with_reducible apply aCall.id); first | apply aCall.gives (ho _))); simp -implicitDefEqProofs)
          | ((with_reducible first | apply AWp.ret | apply AWp.skip | apply AWp.exit); try simp -implicitDefEqProofs))
        intro id2 n_id2_id h_id2
        have n_id_id2 : ¬ id = id2 := fun e => n_id2_id e.symm
        repeat (first
          | (with_reducible first | apply AWp.seq | apply AWp.block | refine And.intro (by first | omega | assumption | decide) ?_)
          | ((first | (with_reducible first | apply AWp.fork | apply AWp.region | show condK _ _ _ | show guardK _ _ _ _ _ _ _ _ _) | ((with_reducible apply aCall.id); first | apply aCall.gives (ho _) | apply aCall.gives (hf _))); simp -implicitDefEqProofs [h8', n_id2_id, n_id_id2])
          | ((with_reducible first | apply AWp.ret | apply AWp.skip | apply AWp.exit); try simp -implicitDefEqProofs [h8', n_id2_id, n_id_id2]))
        all_goals (repeat' (with_reducible apply And.intro))
        all_goals first
          | exact AS.le_refl _
          | ((repeat (first | exact AS.le_refl _ | assumption | refine le_new (by simp [*]) ?_)); done)
          | (refine wk_eq ?_; simp_all [skipV]; done)
          | (refine wk_b ?_; rw [Bool.eq_iff_iff]; simp [*]; omega)
          | (refine wk_eq ?_; simp [*]; omega)
          | (refine wk_eq ?_; split <;> simp_all [skipV]; done)
          | (exfalso; omega)

theorem rwidth_ok (op : Int) (h : ¬ (op < 1 ∨ 75 < op)) (σ : AS) : ACalls Try.prog 32 [.sc (.int .i64 op)] σ (Gives (.sc (.int .i64 (wdO (oO op)))) σ) No := by
  have ho := fun σ => rOf_ok op σ
  have e2 : ofE op = 0 := by simp [ofE, h]
  have hr := oO_range op
  rw [e2] at ho
  have e3 : oO op = (ofT op).2.1 := rfl
  rw [e3] at hr ⊢
  generalize ofT op = it at *
  obtain ⟨i1, o, i3⟩ := it
  simp only [infV] at ho hr ⊢
  have : o = 0 ∨ o = 1 ∨ o = 2 ∨ o = 3 ∨ o = 4 ∨ o = 5 ∨ o = 6 ∨ o = 7 ∨ o = 8 := by omega
  rcases this with rfl | rfl | rfl | rfl | rfl | rfl | rfl | rfl | rfl
  all_goals
    refine ACalls.of_body Try.func32 rfl rfl (by simp [Try.ntmps32]) ?_
    repeat (first
      | (with_reducible first | apply AWp.seq | apply AWp.block | refine And.intro (by first | omega | assumption | decide) ?_)
      | ((first | (with_reducible first | apply AWp.fork | apply AWp.region) | ((with_reducible apply aCall.id); first | apply aCall.gives (ho _))); simp -implicitDefEqProofs)
      | ((with_reducible first | apply AWp.ret | apply AWp.skip | apply AWp.exit); try simp -implicitDefEqProofs))
    intro id h_id
    repeat (first
      | (with_reducible first | apply AWp.seq | apply AWp.block | refine And.intro (by first | omega | assumption | decide) ?_)
      | ((first | (with_reducible first | apply AWp.fork | apply AWp.region | show condK _ _ _ | show guardK _ _ _ _ _ _ _ _ _)); simp -implicitDefEqProofs [Try.underlying3, Try.underlying5, wdO])
      | ((with_reducible first | apply AWp.ret | apply AWp.skip | apply AWp.exit); try simp -implicitDefEqProofs [Try.underlying3, Try.underlying5, wdO]))
    all_goals (repeat' (with_reducible apply And.intro))
    all_goals first
      | exact AS.le_refl _
      | ((repeat (first | exact AS.le_refl _ | assumption | refine le_new (by simp [*]) ?_)); done)
      | (refine wk_eq ?_; simp_all [skipV, wdO]; done)
      | (refine wk_b ?_; rw [Bool.eq_iff_iff]; simp [*, wdO]; omega)
      | (refine wk_eq ?_; simp [*, wdO]; omega)
      | (refine wk_eq ?_; split <;> simp_all [skipV]; done)
      | (exfalso; omega)

theorem rlow_ok (x n : Int) (h1 : 0 < n) (h8 : n ≤ 8) (σ : AS) :
    ACalls Try.prog 37 [.sc (.int .i64 x), .sc (.int .i64 n)] σ (Owns (fun tk => .lst 5 ((putB (m64 x) n.toNat).map u8) (.tok tk) false) n.toNat σ) No := by
  have hp := fun σ => rput_ok (m64 x) n (m64_nonneg x) (by unfold m64; omega) h1 h8 σ
  have hw : IntKind.u64.wrap x = m64 x := by rw [w_u64]; rfl
  refine ACalls.of_body Try.func37 rfl rfl (by simp [Try.ntmps37]) ?_
  repeat (first
    | (with_reducible first | apply AWp.seq | apply AWp.block | refine And.intro (by first | omega | assumption | decide) ?_)
    | ((first | (with_reducible first | apply AWp.fork | apply AWp.region | show condK _ _ _ | show guardK _ _ _ _ _ _ _ _ _) | ((with_reducible apply aCall.id); first | apply aCall.owns (hp _))); simp -implicitDefEqProofs [Try.underlying2, Try.underlying89, hw])
    | ((with_reducible first | apply AWp.ret | apply AWp.skip | apply AWp.exit); try simp -implicitDefEqProofs [Try.underlying2, Try.underlying89, hw]))
  intro tk htk
  repeat (first
    | (with_reducible first | apply AWp.seq | apply AWp.block | refine And.intro (by first | omega | assumption | decide) ?_)
    | ((first | (with_reducible first | apply AWp.fork | apply AWp.region)); simp -implicitDefEqProofs)
    | ((with_reducible first | apply AWp.ret | apply AWp.skip | apply AWp.exit); try simp -implicitDefEqProofs))
  exact owns_end tk htk (by simp) (by simp)

theorem rplaces_ok (l : List Ins) (o : Own) (nl : Bool) (h64 : ∀ x ∈ l, Fit64 x) (hl : l.length ≤ 140737488355328) (σ : AS) :
    ACalls Try.prog 14 [insL l o nl] σ (Gives (plV (placesS l)) σ) No := by
  have hraw := fun x h σ => rraw_ok x h σ
  have hwid := fun op h σ => rwidth_ok op h σ
  simp only [insL, plV]
  by_cases hL : 160 < l.length
  · have e : placesS l = ([], 4) := by simp [placesS, hL]
    rw [e]
    refine ACalls.of_body Try.func14 rfl rfl (by simp [Try.ntmps14]) ?_
    have hL' : (160 < (l.length : Int)) = True := eq_true (by omega)
    repeat (first
      | (with_reducible first | apply AWp.seq | apply AWp.block | refine And.intro (by first | omega | assumption | decide) ?_)
      | ((first | (with_reducible first | apply AWp.fork | apply AWp.region | show condK _ _ _ | show guardK _ _ _ _ _ _ _ _ _)); simp -implicitDefEqProofs [hL'])
      | ((with_reducible first | apply AWp.ret | apply AWp.skip | apply AWp.exit); try simp -implicitDefEqProofs [hL']))
  · have hL' : (160 < (l.length : Int)) = False := eq_false (by omega)
    have e : placesS l = if l.all rawB then (placesG l 0, 0) else ([], 17) := by simp only [placesS]; rw [if_neg hL]
    refine ACalls.of_body Try.func14 rfl rfl (by simp [Try.ntmps14]) ?_
    repeat (first
      | (with_reducible first | apply AWp.seq | apply AWp.block | refine And.intro (by first | omega | assumption | decide) ?_)
      | ((first | (with_reducible first | apply AWp.fork | ((fail_if_success (apply AWp.region (id := 5))); apply AWp.region) | show condK _ _ _ | show guardK _ _ _ _ _ _ _ _ _)); simp -implicitDefEqProofs [hL', ci_lt, ci_le])
      | ((with_reducible first | apply AWp.ret | apply AWp.skip | apply AWp.exit); try simp -implicitDefEqProofs [hL', ci_lt, ci_le]))
    refine AWp.mint 4 3 [] true (by simp [Try.ntmps14]) (.inr ⟨by simp, rfl, rfl⟩) ?_
    simp -implicitDefEqProofs [ci_lt, ci_le]
    intro tk h_tk
    repeat (first
      | (with_reducible first | apply AWp.seq | apply AWp.block | refine And.intro (by first | omega | assumption | decide) ?_)
      | ((first | (with_reducible first | apply AWp.fork | apply AWp.region | show condK _ _ _ | show guardK _ _ _ _ _ _ _ _ _)); simp -implicitDefEqProofs [ci_lt, ci_le])
      | ((with_reducible first | apply AWp.ret | apply AWp.skip | apply AWp.exit); try simp -implicitDefEqProofs [ci_lt, ci_le]))
    refine AWp.loopA (α := (Nat) × (List Int) × (Int)) ((0, [], 0)) (fun ⟨i, ds, a⟩ => l.length - i) (fun ⟨i, ds, a⟩ => i ≤ l.length ∧ ds.length = i ∧ l.all rawB = (l.drop i).all rawB ∧ ds ++ placesG (l.drop i) a = placesG l 0 ∧ 0 ≤ a ∧ a ≤ 9 * i) [(0, ?_)] (fun ⟨i, ds, a⟩ => [(6, .sc (.int .i64 i)), (4, .lst 3 (ds.map i64v ++ [.sc (.int .i64 a)]) (.tok tk) false), (5, .sc (.int .i64 a))]) (fun ⟨i, ds, a⟩ => σ.set tk (.tok (ds.length + 1))) ?_ ?_ ?_ ?_
    rotate_left 1
    · (try dsimp only); (simp only [List.cons_append, List.nil_append]; repeat (first | exact FrWk.nil | refine FrWk.cons (by first | (simp -implicitDefEqProofs [ci_lt, ci_le]; done) | exact Wk.of (by (try simp -implicitDefEqProofs [ci_lt, ci_le]) <;> rfl)) ?_))
    · (try dsimp only); (first | exact AS.le_refl _ | assumption | (repeat (first | exact AS.le_refl _ | assumption | refine le_new (by simp [*]) ?_)))
    · exact ⟨by omega, rfl, rfl, rfl, by omega, by omega⟩
    intro x_ hx_
    obtain ⟨i, ds, a⟩ := x_
    try dsimp only at hx_ ⊢
    obtain ⟨hi, hd, hA, hX, ha0, ha9⟩ := hx_
    simp only [List.cons_append, List.nil_append]
    by_cases hlt : i < l.length
    · have wi_i : IntKind.i64.wrap ((i : Int) + 1) = ((i + 1 : Nat) : Int) := ci_wi (by omega)
      rw [List.drop_eq_getElem_cons hlt] at hA hX
      have hr' := hraw l[i] (h64 _ (List.getElem_mem hlt))
      have hwd := wd_range (oO l[i].op)
      have hwr : rawB l[i] = true → _ := fun e σ => hwid l[i].op (by have := raw_inv e; omega) σ
      generalize hx : l[i] = x at *
      simp only [List.all_cons, placesG] at hA hX
      obtain ⟨op, arg, k, ix, d, r⟩ := x
      simp only at hwr hwd hX
      generalize hxo : oO op = xo at *
      cases hb : rawB ⟨op, arg, k, ix, d, r⟩
      · rw [hb] at hA hr'
        simp only [Bool.false_and] at hA
        rw [e, hA]
        simp only [insV] at hr'
        repeat (first
          | (with_reducible first | apply AWp.seq | apply AWp.block | refine And.intro (by first | omega | assumption | decide) ?_)
          | ((first | (with_reducible first | apply AWp.fork | apply AWp.region | show condK _ _ _ | show guardK _ _ _ _ _ _ _ _ _) | ((with_reducible apply aCall.id); first | apply aCall.gives (hr' _))); simp -implicitDefEqProofs [hlt, hx, insV, ci_lt, ci_le, wi_i])
          | ((with_reducible first | apply AWp.ret | apply AWp.skip | apply AWp.exit); try simp -implicitDefEqProofs [hlt, hx, insV, ci_lt, ci_le, wi_i]))
        all_goals (repeat' (with_reducible apply And.intro))
        all_goals first
          | exact AS.le_refl _
          | ((repeat (first | exact AS.le_refl _ | assumption | refine le_new (by simp [*]) ?_)); done)
          | (refine wk_eq ?_; simp_all [skipV]; done)
          | (refine wk_b ?_; rw [Bool.eq_iff_iff]; simp [*]; omega)
          | (refine wk_eq ?_; simp [*]; omega)
          | (refine wk_eq ?_; split <;> simp_all [skipV]; done)
          | (exfalso; omega)
      · have hwr := hwr hb
        rw [hb] at hA hr'
        simp only [Bool.true_and] at hA
        have w1 : IntKind.i64.wrap (1 + wdO xo) = 1 + wdO xo := in_i64 (by omega) (by omega)
        have w2 : IntKind.i64.wrap (a + (1 + wdO xo)) = a + (1 + wdO xo) := in_i64 (by omega) (by omega)
        simp only [insV] at hr'
        have hd1 : ds.length ≤ 160 := by omega
        repeat (first
          | (with_reducible first | apply AWp.seq | apply AWp.block | refine And.intro (by first | omega | assumption | decide) ?_)
          | ((first | (with_reducible first | apply AWp.fork | apply AWp.region | show condK _ _ _ | show guardK _ _ _ _ _ _ _ _ _) | ((with_reducible apply aCall.id); first | apply aCall.gives (hr' _) | apply aCall.gives (hwr _))); simp -implicitDefEqProofs [hlt, hx, insV, w1, w2, hd1, ci_lt, ci_le, wi_i])
          | ((with_reducible first | apply AWp.ret | apply AWp.skip | apply AWp.exit); try simp -implicitDefEqProofs [hlt, hx, insV, w1, w2, hd1, ci_lt, ci_le, wi_i]))
        refine stepA.mk ((i + 1, ds ++ [a], a + (1 + wdO xo))) (by (try dsimp only); omega) (by (try dsimp only); (simp only [List.cons_append, List.nil_append]; repeat (first | exact FrWk.nil | refine FrWk.cons (by first | (simp -implicitDefEqProofs [i64v_def, ci_lt, ci_le, wi_i]; done) | exact Wk.of (by (try simp -implicitDefEqProofs [i64v_def, ci_lt, ci_le, wi_i]) <;> rfl)) ?_))) (by (try dsimp only); (simp)) ?_
        try dsimp only
        exact ⟨by omega, by simp [hd], hA, by rw [← hX]; simp [Int.add_assoc], by omega, by omega⟩
    · rw [List.drop_eq_nil_of_le (by omega)] at hX hA
      rw [e, hA]
      simp only [placesG] at hX
      repeat (first
        | (with_reducible first | apply AWp.seq | apply AWp.block | refine And.intro (by first | omega | assumption | decide) ?_)
        | ((first | (with_reducible first | apply AWp.fork | apply AWp.region | show condK _ _ _ | show guardK _ _ _ _ _ _ _ _ _)); simp -implicitDefEqProofs [hlt, ← hX, i64v_def, ci_lt, ci_le])
        | ((with_reducible first | apply AWp.ret | apply AWp.skip | apply AWp.exit); try simp -implicitDefEqProofs [hlt, ← hX, i64v_def, ci_lt, ci_le]))
      all_goals (repeat' (with_reducible apply And.intro))
      all_goals first
        | exact AS.le_refl _
        | ((repeat (first | exact AS.le_refl _ | assumption | refine le_new (by simp [*]) ?_)); done)
        | (refine wk_eq ?_; simp_all [skipV]; done)
        | (refine wk_b ?_; rw [Bool.eq_iff_iff]; simp [*]; omega)
        | (refine wk_eq ?_; simp [*]; omega)
        | (refine wk_eq ?_; split <;> simp_all [skipV]; done)
        | (exfalso; omega)

end Go.Proofs.Ytnkjbgcbchbonaa
