/- The document: SameTypes, Same. -/
import Derived.Test.YtplphldpkliakaaSigC
set_option linter.unusedSimpArgs false
set_option linter.unusedVariables false
set_option maxRecDepth 100000
set_option maxHeartbeats 3200000
namespace Go.Proofs.Ytplphldpkliakaa
namespace Sg
open Go Go.AW
abbrev sc_30_6_XSigD : Sch := (Sch.step 0 (Sch.step 1 (Sch.step 2 (Sch.step 4 (Sch.step 5 (Sch.step 6 (Sch.read 3 (Sch.read 7 (Sch.step 8 Sch.done)))))))))

theorem ty_eqB (t u : Ty) : (decide (t.kind = u.kind) && (decide (t.index = u.index) && (decide (t.dims = u.dims) && (t.ref == u.ref)))) = decide (t = u) := by
  obtain ⟨a, b, c, d⟩ := t
  obtain ⟨a', b', c', d'⟩ := u
  rw [Bool.eq_iff_iff]
  simp

theorem same_types (l m : List Ty) (o1 o2 : Own) (n1 n2 : Bool) (hl : l.length ≤ 1000000) (hm : m.length ≤ 1000000) (σ : AS) :
    ACalls Try.prog 30 [.lst 24 (l.map tyV) o1 n1, .lst 24 (m.map tyV) o2 n2] σ (Gives (.sc (.bool (decide (l = m)))) σ) No := by
  by_cases hlen : l.length = m.length
  · have hL : ((l.length : Int) = m.length) = True := by simp [hlen]
    refine ACalls.of_body Try.func30 rfl rfl (by simp [Try.ntmps30]) ?_
    repeat (first
      | (with_reducible first | apply AWp.seq | apply AWp.block | refine And.intro (by first | omega | assumption | decide) ?_)
      | ((first | (with_reducible first | apply AWp.fork | apply AWp.region | show condK _ _ _ | show guardK _ _ _ _ _ _ _ _ _) | ((with_reducible apply AWp.drawS (id := 6) (t := sc_30_6_XSigD)); (exact mixed); kernel_rfl; kernel_rfl; (repeat (with_reducible first | apply PanQ.then | apply PanQ.block | apply PanQ.body | apply PanQ.no)))); simp -implicitDefEqProofs [hL, ci_lt, ci_le])
      | ((with_reducible first | apply AWp.ret | apply AWp.skip | apply AWp.exit); try simp -implicitDefEqProofs [hL, ci_lt, ci_le]))
    refine AWp.loopA (α := (Nat)) (0) (fun i => l.length - i) (fun i => i ≤ l.length ∧ l.take i = m.take i) [(0, ?_), (1, ?_)] (fun i => [(5, .sc (.int .i64 i))]) (fun i => σ) ?_ ?_ ?_ ?_
    rotate_left 2
    · (try dsimp only); (simp only [List.cons_append, List.nil_append]; repeat (first | exact FrWk.nil | refine FrWk.cons (by first | (simp -implicitDefEqProofs [ci_lt, ci_le]; done) | exact Wk.of (by (try simp -implicitDefEqProofs [ci_lt, ci_le]) <;> rfl)) ?_))
    · (try dsimp only); (first | exact AS.le_refl _ | assumption | (repeat (first | exact AS.le_refl _ | assumption | refine le_new (by simp [*]) ?_)))
    · (try dsimp only) <;> first | exact trivial | exact ⟨by omega, rfl⟩ | omega | (simp; done) | exact ⟨by omega, by simp⟩ | exact ⟨by omega, by simp, rfl⟩
    intro i hx_
    try dsimp only at hx_ ⊢
    obtain ⟨hi, hX⟩ := hx_
    simp only [List.cons_append, List.nil_append]
    by_cases hlt : i < l.length
    · have wi_i : IntKind.i64.wrap ((i : Int) + 1) = ((i + 1 : Nat) : Int) := ci_wi (by omega)
      have hlm : i < m.length := by omega
      have hq := ty_eqB l[i] m[i]
      by_cases he : l[i] = m[i]
      · repeat (first
          | (with_reducible first | apply AWp.seq | apply AWp.block | refine And.intro (by first | omega | assumption | decide) ?_)
          | ((first | (with_reducible first | apply AWp.fork | apply AWp.region | show condK _ _ _ | show guardK _ _ _ _ _ _ _ _ _) | ((with_reducible apply AWp.drawS (id := 6) (t := sc_30_6_XSigD)); (exact mixed); kernel_rfl; kernel_rfl; (repeat (with_reducible first | apply PanQ.then | apply PanQ.block | apply PanQ.body | apply PanQ.no)))); simp -implicitDefEqProofs [hlt, hlm, tyV_def, he, ci_lt, ci_le, wi_i])
          | ((with_reducible first | apply AWp.ret | apply AWp.skip | apply AWp.exit); try simp -implicitDefEqProofs [hlt, hlm, tyV_def, he, ci_lt, ci_le, wi_i]))
        refine stepA.mk (i + 1) (by (try dsimp only); omega) (by (try dsimp only); (simp only [List.cons_append, List.nil_append]; repeat (first | exact FrWk.nil | refine FrWk.cons (by first | (simp -implicitDefEqProofs [ci_lt, ci_le, wi_i]; done) | exact Wk.of (by (try simp -implicitDefEqProofs [ci_lt, ci_le, wi_i]) <;> rfl)) ?_))) (by (try dsimp only); (first | exact AS.le_refl _ | assumption | (repeat (first | exact AS.le_refl _ | assumption | refine le_new (by simp [*]) ?_)))) ?_
        try dsimp only
        exact ⟨hlt, by rw [List.take_succ_eq_append_getElem hlt, List.take_succ_eq_append_getElem hlm, hX, he]⟩
      · have hne : ¬ l = m := fun e => he (by subst e; rfl)
        rw [show decide (l[i] = m[i]) = false by simp [he]] at hq
        simp only [hne, decide_false]
        repeat (first
          | (with_reducible first | apply AWp.seq | apply AWp.block | refine And.intro (by first | omega | assumption | decide) ?_)
          | ((first | (with_reducible first | apply AWp.fork | apply AWp.region | show condK _ _ _ | show guardK _ _ _ _ _ _ _ _ _) | ((with_reducible apply AWp.drawS (id := 6) (t := sc_30_6_XSigD)); (exact mixed); kernel_rfl; kernel_rfl; (repeat (with_reducible first | apply PanQ.then | apply PanQ.block | apply PanQ.body | apply PanQ.no)))); simp -implicitDefEqProofs [hlt, hlm, tyV_def, ↓hq, ci_lt, ci_le, wi_i])
          | ((with_reducible first | apply AWp.ret | apply AWp.skip | apply AWp.exit); try simp -implicitDefEqProofs [hlt, hlm, tyV_def, ↓hq, ci_lt, ci_le, wi_i]))
    · have hE : l = m := by
        rw [List.take_of_length_le (by omega), List.take_of_length_le (by omega)] at hX; exact hX
      rw [show decide (l = m) = true by simp [hE]]
      repeat (first
        | (with_reducible first | apply AWp.seq | apply AWp.block | refine And.intro (by first | omega | assumption | decide) ?_)
        | ((first | (with_reducible first | apply AWp.fork | apply AWp.region | show condK _ _ _ | show guardK _ _ _ _ _ _ _ _ _) | ((with_reducible apply AWp.drawS (id := 6) (t := sc_30_6_XSigD)); (exact mixed); kernel_rfl; kernel_rfl; (repeat (with_reducible first | apply PanQ.then | apply PanQ.block | apply PanQ.body | apply PanQ.no)))); simp -implicitDefEqProofs [hlt, ci_lt, ci_le])
        | ((with_reducible first | apply AWp.ret | apply AWp.skip | apply AWp.exit); try simp -implicitDefEqProofs [hlt, ci_lt, ci_le]))
  · have hL : ((l.length : Int) = m.length) = False := by simp; omega
    have hne : ¬ l = m := fun e => hlen (by rw [e])
    rw [show decide (l = m) = false by simp [hne]]
    refine ACalls.of_body Try.func30 rfl rfl (by simp [Try.ntmps30]) ?_
    repeat (first
      | (with_reducible first | apply AWp.seq | apply AWp.block | refine And.intro (by first | omega | assumption | decide) ?_)
      | ((first | (with_reducible first | apply AWp.fork | apply AWp.region | show condK _ _ _ | show guardK _ _ _ _ _ _ _ _ _) | ((with_reducible apply AWp.drawS (id := 6) (t := sc_30_6_XSigD)); (exact mixed); kernel_rfl; kernel_rfl; (repeat (with_reducible first | apply PanQ.then | apply PanQ.block | apply PanQ.body | apply PanQ.no)))); simp -implicitDefEqProofs [hL])
      | ((with_reducible first | apply AWp.ret | apply AWp.skip | apply AWp.exit); try simp -implicitDefEqProofs [hL]))

theorem same_sig (a b : Bool) (l m : List Ty) (t u : Ty) (o1 o2 : Own) (n1 n2 : Bool) (hl : l.length ≤ 1000000) (hm : m.length ≤ 1000000) (σ : AS) :
    ACalls Try.prog 18 [.agg [.sc (.bool a), .lst 24 (l.map tyV) o1 n1, .sc (.int .i64 t.kind), .sc (.int .i64 t.index), .sc (.int .i64 t.dims), .sc (.bool t.ref)],
      .agg [.sc (.bool b), .lst 24 (m.map tyV) o2 n2, .sc (.int .i64 u.kind), .sc (.int .i64 u.index), .sc (.int .i64 u.dims), .sc (.bool u.ref)]] σ (Gives (.sc (.bool (decide (a = b ∧ l = m ∧ t = u)))) σ) No := by
  have hs := fun σ => same_types l m o1 o2 n1 n2 hl hm σ
  have hq := ty_eqB t u
  have hab : (a == b) = decide (a = b) := by cases a <;> cases b <;> rfl
  by_cases h1 : a = b
  · by_cases h2 : t = u
    · have hq' : (decide (t.kind = u.kind) && (decide (t.index = u.index) && (decide (t.dims = u.dims) && (t.ref == u.ref)))) = true := by rw [hq]; simp [h2]
      rw [show decide (a = b ∧ l = m ∧ t = u) = decide (l = m) by simp [h1, h2]]
      subst h1 h2
      refine ACalls.of_body Try.func18 rfl rfl (by simp [Try.ntmps18]) ?_
      repeat (first
        | (with_reducible first | apply AWp.seq | apply AWp.block | refine And.intro (by first | omega | assumption | decide) ?_)
        | ((first | (with_reducible first | apply AWp.fork | apply AWp.region)); simp -implicitDefEqProofs)
        | ((with_reducible first | apply AWp.ret | apply AWp.skip | apply AWp.exit); try simp -implicitDefEqProofs))
      intro id h_id
      intro id2 n_id2_id h_id2
      have n_id_id2 : ¬ id = id2 := fun e => n_id2_id e.symm
      repeat (first
        | (with_reducible first | apply AWp.seq | apply AWp.block | refine And.intro (by first | omega | assumption | decide) ?_)
        | ((first | (with_reducible first | apply AWp.fork | apply AWp.region | show condK _ _ _ | show guardK _ _ _ _ _ _ _ _ _) | ((with_reducible apply aCall.id); first | apply aCall.gives (hs _))); simp -implicitDefEqProofs [n_id2_id, n_id_id2])
        | ((with_reducible first | apply AWp.ret | apply AWp.skip | apply AWp.exit); try simp -implicitDefEqProofs [n_id2_id, n_id_id2]))
      exact AS.le_set (AS.le_set (AS.le_refl _) h_id) (by simp [n_id2_id, h_id2])
    · rw [show decide (t = u) = false by simp [h2]] at hq
      rw [show decide (a = b ∧ l = m ∧ t = u) = false by simp [h2]]
      subst h1
      refine ACalls.of_body Try.func18 rfl rfl (by simp [Try.ntmps18]) ?_
      repeat (first
        | (with_reducible first | apply AWp.seq | apply AWp.block | refine And.intro (by first | omega | assumption | decide) ?_)
        | ((first | (with_reducible first | apply AWp.fork | apply AWp.region)); simp -implicitDefEqProofs)
        | ((with_reducible first | apply AWp.ret | apply AWp.skip | apply AWp.exit); try simp -implicitDefEqProofs))
      intro id h_id
      intro id2 n_id2_id h_id2
      have n_id_id2 : ¬ id = id2 := fun e => n_id2_id e.symm
      repeat (first
        | (with_reducible first | apply AWp.seq | apply AWp.block | refine And.intro (by first | omega | assumption | decide) ?_)
        | ((first | (with_reducible first | apply AWp.fork | apply AWp.region | show condK _ _ _ | show guardK _ _ _ _ _ _ _ _ _)); simp -implicitDefEqProofs [↓hq, n_id2_id, n_id_id2])
        | ((with_reducible first | apply AWp.ret | apply AWp.skip | apply AWp.exit); try simp -implicitDefEqProofs [↓hq, n_id2_id, n_id_id2]))
      exact AS.le_set (AS.le_set (AS.le_refl _) h_id) (by simp [n_id2_id, h_id2])
  · rw [show decide (a = b ∧ l = m ∧ t = u) = false by simp [h1]]
    have h1' : (a == b) = false := by simp [h1]
    refine ACalls.of_body Try.func18 rfl rfl (by simp [Try.ntmps18]) ?_
    repeat (first
      | (with_reducible first | apply AWp.seq | apply AWp.block | refine And.intro (by first | omega | assumption | decide) ?_)
      | ((first | (with_reducible first | apply AWp.fork | apply AWp.region)); simp -implicitDefEqProofs)
      | ((with_reducible first | apply AWp.ret | apply AWp.skip | apply AWp.exit); try simp -implicitDefEqProofs))
    intro id h_id
    intro id2 n_id2_id h_id2
    have n_id_id2 : ¬ id = id2 := fun e => n_id2_id e.symm
    repeat (first
      | (with_reducible first | apply AWp.seq | apply AWp.block | refine And.intro (by first | omega | assumption | decide) ?_)
      | ((first | (with_reducible first | apply AWp.fork | apply AWp.region | show condK _ _ _ | show guardK _ _ _ _ _ _ _ _ _)); simp -implicitDefEqProofs [h1', n_id2_id, n_id_id2])
      | ((with_reducible first | apply AWp.ret | apply AWp.skip | apply AWp.exit); try simp -implicitDefEqProofs [h1', n_id2_id, n_id_id2]))
    exact AS.le_set (AS.le_set (AS.le_refl _) h_id) (by simp [n_id2_id, h_id2])

end Sg
end Go.Proofs.Ytplphldpkliakaa
