/- Package code: Encode. -/
import Derived.Test.YtnkjbgcbchbonaaCode4
set_option linter.unusedSimpArgs false
set_option linter.unusedVariables false
set_option maxRecDepth 100000
set_option maxHeartbeats 3200000
namespace Go.Proofs.Ytnkjbgcbchbonaa
open Go Go.AW
abbrev sc_15_12_XCode5 : Sch := (Sch.step 0 (Sch.step 1 (Sch.step 2 (Sch.step 3 (Sch.step 5 (Sch.read 4 (Sch.read 6 (Sch.step 7 (Sch.step 8 (Sch.alt 9 (Sch.step 10 (Sch.step 11 (Sch.alt 12 Sch.done Sch.none))) Sch.none))))))))))

/-- What Encode hands back. -/
def enV (p : List UInt8 × Int) : AV := .tup [.lst 5 (p.1.map u8) .unk (decide (p.1 = [])), .sc (.int .i64 p.2)]
/-- The array of the writer's functions. -/
def arrC (id : Nat) : ABlk := .cells 69 [.sc .nilFunc, .fn (.func 33) [.ptr id 0] [], .fn (.func 33) [.ptr id 0] [], .fn (.func 33) [.ptr id 0] [], .fn (.func 33) [.ptr id 0] [], .fn (.func 34) [.ptr id 0] [], .fn (.func 35) [.ptr id 0] [], .fn (.func 35) [.ptr id 0] [], .fn (.func 33) [.ptr id 0] []]
theorem le_setI {A C : AS} {i : Nat} {b : ABlk} (h : ∀ j, j ≠ i → ∀ y, A j = some y → C j = some y) : AS.le (A.set i b) (C.set i b) := by
  intro j y hy
  by_cases e : j = i
  · subst e; simpa [AS.set] using hy
  · simp [AS.set, e] at hy ⊢; exact h j e y hy

theorem cencode_ok (l : List Ins) (o : Own) (nl : Bool) (hl : l.length ≤ 140737488355328) (σ : AS) :
    ACalls Try.prog 15 [insL l o nl] σ (Gives (enV (encodeS l)) σ) No := by
  have hp := fun σ => cplaces_ok l o nl hl σ
  simp only [insL, plV, enV] at hp ⊢
  by_cases hpe : (placesS l).2 = 0
  rotate_left
  · have e : encodeS l = ([], (placesS l).2) := by unfold encodeS; rw [if_neg hpe]
    have e1 := placesS_err hpe
    rw [e]
    rw [e1] at hp
    generalize (placesS l).2 = pe at *
    refine ACalls.of_body Try.func15 rfl rfl (by simp [Try.ntmps15]) ?_
    repeat (first
      | (with_reducible first | apply AWp.seq | apply AWp.block | refine And.intro (by first | omega | assumption | decide) ?_)
      | ((first | (with_reducible first | apply AWp.fork | apply AWp.region | show condK _ _ _ | show guardK _ _ _ _ _ _ _ _ _) | ((with_reducible apply AWp.drawS (id := 12) (t := sc_15_12_XCode5)); (exact mixed); kernel_rfl; kernel_rfl; (repeat (with_reducible first | apply PanQ.then | apply PanQ.block | apply PanQ.body | apply PanQ.no))) | ((with_reducible apply aCall.id); first | apply aCall.gives (hp _))); simp -implicitDefEqProofs [hpe])
      | ((with_reducible first | apply AWp.ret | apply AWp.skip | apply AWp.exit); try simp -implicitDefEqProofs [hpe]))
  obtain ⟨hlen, hraw, hpl⟩ := places_all hpe
  have e : encodeS l = if l.any (flowB l.length) then ([], 11) else (codeG (placesG l 0) l 0, 0) := by unfold encodeS; rw [if_pos hpe]
  have hPl := places_len l 0
  have hPb : ∀ y ∈ placesG l 0, 0 ≤ y ∧ y ≤ 10000 := fun y hy => ⟨places_ge l 0 y hy, by have := places_le l 0 y hy; omega⟩
  have hP0 : ¬ placesG l 0 = [] := by intro e; rw [e] at hPl; simp at hPl
  rw [hpl] at hp
  simp only [hP0, decide_false] at hp
  generalize placesG l 0 = P at *
  have hraw' : ∀ x ∈ l, rawB x = true := by simpa using hraw
  have hcr := fun x σ => craw_ok x σ
  refine ACalls.of_body Try.func15 rfl rfl (by simp [Try.ntmps15]) ?_
  repeat (first
    | (with_reducible first | apply AWp.seq | apply AWp.block | refine And.intro (by first | omega | assumption | decide) ?_)
    | ((first | (with_reducible first | apply AWp.fork | ((fail_if_success (apply AWp.region (id := 5))); apply AWp.region) | show condK _ _ _ | show guardK _ _ _ _ _ _ _ _ _) | ((with_reducible apply AWp.drawS (id := 12) (t := sc_15_12_XCode5)); (exact mixed); kernel_rfl; kernel_rfl; (repeat (with_reducible first | apply PanQ.then | apply PanQ.block | apply PanQ.body | apply PanQ.no))) | ((with_reducible apply aCall.id); first | apply aCall.gives (hp _))); simp -implicitDefEqProofs [ci_lt, ci_le])
    | ((with_reducible first | apply AWp.ret | apply AWp.skip | apply AWp.exit); try simp -implicitDefEqProofs [ci_lt, ci_le]))
  intro id h_id
  repeat (first
    | (with_reducible first | apply AWp.seq | apply AWp.block | refine And.intro (by first | omega | assumption | decide) ?_)
    | ((first | (with_reducible first | apply AWp.fork | apply AWp.region | show condK _ _ _ | show guardK _ _ _ _ _ _ _ _ _) | ((with_reducible apply AWp.drawS (id := 12) (t := sc_15_12_XCode5)); (exact mixed); kernel_rfl; kernel_rfl; (repeat (with_reducible first | apply PanQ.then | apply PanQ.block | apply PanQ.body | apply PanQ.no)))); simp -implicitDefEqProofs [ci_lt, ci_le])
    | ((with_reducible first | apply AWp.ret | apply AWp.skip | apply AWp.exit); try simp -implicitDefEqProofs [ci_lt, ci_le]))
  intro id7 n_id7_id h_id7
  have n_id_id7 : ¬ id = id7 := fun e => n_id7_id e.symm
  refine AWp.mintC id 2 5 [] true (ty := 67) (cs := [.lst 42 (l.map insV) o nl, .lst 3 (P.map i64v) .unk false, .nilS]) (by simp [n_id_id7]) (by simp) (.inr ⟨by simp, rfl, rfl⟩) ?_
  simp -implicitDefEqProofs [ci_lt, ci_le, n_id7_id, n_id_id7]
  intro tk n_tk_id7 n_tk_id h_tk
  have n_id_tk : ¬ id = tk := fun e => n_tk_id e.symm
  have n_id7_tk : ¬ id7 = tk := fun e => n_tk_id7 e.symm
  repeat (first
    | (with_reducible first | apply AWp.seq | apply AWp.block | refine And.intro (by first | omega | assumption | decide) ?_)
    | ((first | (with_reducible first | apply AWp.fork | apply AWp.region | show condK _ _ _ | show guardK _ _ _ _ _ _ _ _ _) | ((with_reducible apply AWp.drawS (id := 12) (t := sc_15_12_XCode5)); (exact mixed); kernel_rfl; kernel_rfl; (repeat (with_reducible first | apply PanQ.then | apply PanQ.block | apply PanQ.body | apply PanQ.no)))); simp -implicitDefEqProofs [ci_lt, ci_le, n_id7_id, n_id_id7])
    | ((with_reducible first | apply AWp.ret | apply AWp.skip | apply AWp.exit); try simp -implicitDefEqProofs [ci_lt, ci_le, n_id7_id, n_id_id7]))
  refine AWp.loopA (α := (Nat) × (List UInt8) × (Nat)) ((0, [], tk)) (fun ⟨i, bs, t⟩ => l.length - i) (fun ⟨i, bs, t⟩ => i ≤ l.length ∧ bs.length ≤ 9 * i ∧ l.any (flowB l.length) = (l.drop i).any (flowB l.length) ∧ bs ++ codeG P (l.drop i) i = codeG P l 0 ∧ σ t = none ∧ ¬ t = id ∧ ¬ t = id7) [(0, ?_), (6, ?_), (7, ?_), (42, ?_), (43, ?_)] (fun ⟨i, bs, t⟩ => [(44, .sc (.int .i64 i))]) (fun ⟨i, bs, t⟩ => ((σ.set id7 (arrC id)).set t (.tok bs.length)).set id (wrC l o nl P false bs t (decide (bs = [])))) ?_ ?_ ?_ ?_
  rotate_left 5
  · (try dsimp only); (simp only [List.cons_append, List.nil_append]; repeat (first | exact FrWk.nil | refine FrWk.cons (by first | (simp -implicitDefEqProofs [ci_lt, ci_le, n_id7_id, n_id_id7]; done) | exact Wk.of (by (try simp -implicitDefEqProofs [ci_lt, ci_le, n_id7_id, n_id_id7]) <;> rfl)) ?_))
  · (try dsimp only); (intro j_ y_ hy_; by_cases e1 : j_ = id <;> by_cases e2 : j_ = id7 <;> by_cases e3 : j_ = tk <;> simp_all [AS.set, wrC_def, arrC])
  · exact ⟨by omega, by simp, rfl, rfl, h_tk, n_tk_id, n_tk_id7⟩
  intro x_ hx_
  obtain ⟨i, bs, t⟩ := x_
  try dsimp only at hx_ ⊢
  obtain ⟨hi, hbl, hF, hX, h_t, n_t_id, n_t_id7⟩ := hx_
  simp only [List.cons_append, List.nil_append]
  clear h_tk n_tk_id n_tk_id7 n_id_tk n_id7_tk
  have n_id_t : ¬ id = t := fun e => n_t_id e.symm
  have n_id7_t : ¬ id7 = t := fun e => n_t_id7 e.symm
  by_cases hlt : i < l.length
  · have wi_i : IntKind.i64.wrap ((i : Int) + 1) = ((i + 1 : Nat) : Int) := ci_wi (by omega)
    rw [List.drop_eq_getElem_cons hlt] at hF hX
    have hr' := hcr l[i]
    have hx0 := hraw' l[i] (List.getElem_mem hlt)
    generalize hx : l[i] = x at *
    rw [hx0] at hr'
    simp only [List.any_cons, codeG] at hF hX
    obtain ⟨r1, r2, r3, q0, q1, q3, q5, q6, q8⟩ := raw_inv hx0
    have hwr := fun σ => cwidth_ok (oO x.op) σ
    have hor := oO_range x.op
    have hxv : insV x = .agg [.sc (.int .i64 x.op), .sc (.int .i64 x.arg), .sc (.int .i64 x.t.kind), .sc (.int .i64 x.t.index), .sc (.int .i64 x.t.dims), .sc (.bool x.t.ref)] := rfl
    rw [hxv] at hr'
    by_cases hfl : flowB l.length x = true
    · have h5 : oO x.op = 5 := by simp [flowB] at hfl; exact hfl.1
      have hge : ((l.length : Int) ≤ x.arg) = True := eq_true (by simp [flowB] at hfl; exact hfl.2)
      rw [hfl] at hF
      simp only [Bool.true_or] at hF
      rw [e, hF]
      rw [h5] at hr'
      repeat (first
        | (with_reducible first | apply AWp.seq | apply AWp.block | refine And.intro (by first | omega | assumption | decide) ?_)
        | ((first | (with_reducible first | apply AWp.fork | apply AWp.region | show condK _ _ _ | show guardK _ _ _ _ _ _ _ _ _) | ((with_reducible apply AWp.drawS (id := 12) (t := sc_15_12_XCode5)); (exact mixed); kernel_rfl; kernel_rfl; (repeat (with_reducible first | apply PanQ.then | apply PanQ.block | apply PanQ.body | apply PanQ.no)))); simp -implicitDefEqProofs [hlt, hx, hxv, wrC_def, ci_lt, ci_le, n_id7_id, n_id_id7, wi_i])
        | ((with_reducible first | apply AWp.ret | apply AWp.skip | apply AWp.exit); try simp -implicitDefEqProofs [hlt, hx, hxv, wrC_def, ci_lt, ci_le, n_id7_id, n_id_id7, wi_i]))
      intro id9 n1 n2 n3 h_id9
      repeat (first
        | (with_reducible first | apply AWp.seq | apply AWp.block | refine And.intro (by first | omega | assumption | decide) ?_)
        | ((first | (with_reducible first | apply AWp.fork | apply AWp.region | show condK _ _ _ | show guardK _ _ _ _ _ _ _ _ _) | ((with_reducible apply AWp.drawS (id := 12) (t := sc_15_12_XCode5)); (exact mixed); kernel_rfl; kernel_rfl; (repeat (with_reducible first | apply PanQ.then | apply PanQ.block | apply PanQ.body | apply PanQ.no))) | ((with_reducible apply aCall.id); first | apply aCall.gives (hr' _))); simp -implicitDefEqProofs [n1, n2, n3, hge, ci_lt, ci_le, n_id7_id, n_id_id7, wi_i])
        | ((with_reducible first | apply AWp.ret | apply AWp.skip | apply AWp.exit); try simp -implicitDefEqProofs [n1, n2, n3, hge, ci_lt, ci_le, n_id7_id, n_id_id7, wi_i]))
      all_goals (repeat' (with_reducible apply And.intro))
      all_goals first
        | exact AS.le_refl _
        | ((repeat (first | exact AS.le_refl _ | assumption | refine le_new (by simp [*]) ?_)); done)
        | (refine wk_eq ?_; simp_all [skipV]; done)
        | (refine wk_b ?_; rw [Bool.eq_iff_iff]; simp [*]; omega)
        | (refine wk_eq ?_; simp [*]; omega)
        | (refine wk_eq ?_; split <;> simp_all [skipV]; done)
        | (exfalso; omega)
    · have hfl' : flowB l.length x = false := by simpa using hfl
      rw [hfl'] at hF
      simp only [Bool.false_or] at hF
      obtain ⟨c, hc⟩ : ∃ c : UInt8, UInt8.ofNat (x.op % 256).toNat = c := ⟨_, rfl⟩
      have hE8 : IntKind.u8.wrap x.op = (c.toNat : Int) := by rw [w_u8, ← hc]; simp; omega
      have hbl1 : bs.length ≤ 1440 := by omega
      have hP1 : i + 1 < P.length := by omega
      have hP2 : P.length ≤ 1000 := by omega
      generalize ho : oO x.op = xo at *
      have hoc : xo = 0 ∨ xo = 1 ∨ xo = 2 ∨ xo = 3 ∨ xo = 4 ∨ xo = 5 ∨ xo = 6 ∨ xo = 7 ∨ xo = 8 := by omega
      rcases hoc with rfl | rfl | rfl | rfl | rfl | rfl | rfl | rfl | rfl
      · repeat (first
          | (with_reducible first | apply AWp.seq | apply AWp.block | refine And.intro (by first | omega | assumption | decide) ?_)
          | ((first | (with_reducible first | apply AWp.fork | apply AWp.region | show condK _ _ _ | show guardK _ _ _ _ _ _ _ _ _) | ((with_reducible apply AWp.drawS (id := 12) (t := sc_15_12_XCode5)); (exact mixed); kernel_rfl; kernel_rfl; (repeat (with_reducible first | apply PanQ.then | apply PanQ.block | apply PanQ.body | apply PanQ.no)))); simp -implicitDefEqProofs [hlt, hx, hxv, wrC_def, ci_lt, ci_le, n_id7_id, n_id_id7, wi_i])
          | ((with_reducible first | apply AWp.ret | apply AWp.skip | apply AWp.exit); try simp -implicitDefEqProofs [hlt, hx, hxv, wrC_def, ci_lt, ci_le, n_id7_id, n_id_id7, wi_i]))
        intro id9 n1 n2 n3 h_id9
        have n1' : ¬ id = id9 := fun e => n1 e.symm
        have n2' : ¬ t = id9 := fun e => n2 e.symm
        have n3' : ¬ id7 = id9 := fun e => n3 e.symm
        repeat (first
          | (with_reducible first | apply AWp.seq | apply AWp.block | refine And.intro (by first | omega | assumption | decide) ?_)
          | ((first | (with_reducible first | apply AWp.fork | apply AWp.region | show condK _ _ _ | show guardK _ _ _ _ _ _ _ _ _) | ((with_reducible apply AWp.drawS (id := 12) (t := sc_15_12_XCode5)); (exact mixed); kernel_rfl; kernel_rfl; (repeat (with_reducible first | apply PanQ.then | apply PanQ.block | apply PanQ.body | apply PanQ.no))) | ((with_reducible apply aCall.id); first | apply aCall.gives (hr' _) | apply aCall.gives (hwr _))); simp -implicitDefEqProofs [n1, n2, n3, n1', n2', n3', n_id_t, n_id7_t, n_t_id, n_t_id7, hE8, hbl1, arrC, Try.underlying3, Try.underlying5, ci_lt, ci_le, n_id7_id, n_id_id7, wi_i])
          | ((with_reducible first | apply AWp.ret | apply AWp.skip | apply AWp.exit); try simp -implicitDefEqProofs [n1, n2, n3, n1', n2', n3', n_id_t, n_id7_t, n_t_id, n_t_id7, hE8, hbl1, arrC, Try.underlying3, Try.underlying5, ci_lt, ci_le, n_id7_id, n_id_id7, wi_i]))
        have hadd : insB x (P.getD x.arg.toNat 0) (P.getD (i + 1) 0) = [c] := by simp [insB, opdB, ho, hc]
        rw [hadd] at hX
        refine stepA.mk ((i + 1, bs ++ [c], t)) (by (try dsimp only); omega) (by (try dsimp only); (simp only [List.cons_append, List.nil_append]; repeat (first | exact FrWk.nil | refine FrWk.cons (by first | (simp -implicitDefEqProofs [ci_lt, ci_le, n_id7_id, n_id_id7, wi_i]; done) | exact Wk.of (by (try simp -implicitDefEqProofs [ci_lt, ci_le, n_id7_id, n_id_id7, wi_i]) <;> rfl)) ?_))) (by (try dsimp only); (intro j_ y_ hy_; by_cases e1 : j_ = id <;> by_cases e2 : j_ = id7 <;> by_cases e4 : j_ = t <;> by_cases e5 : j_ = id9 <;> simp_all [AS.set, wrC_def, arrC])) ?_
        try dsimp only
        exact ⟨hlt, by simp; omega, hF, by rw [← hX]; simp, h_t, n_t_id, n_t_id7⟩
      · repeat (first
          | (with_reducible first | apply AWp.seq | apply AWp.block | refine And.intro (by first | omega | assumption | decide) ?_)
          | ((first | (with_reducible first | apply AWp.fork | apply AWp.region | show condK _ _ _ | show guardK _ _ _ _ _ _ _ _ _) | ((with_reducible apply AWp.drawS (id := 12) (t := sc_15_12_XCode5)); (exact mixed); kernel_rfl; kernel_rfl; (repeat (with_reducible first | apply PanQ.then | apply PanQ.block | apply PanQ.body | apply PanQ.no)))); simp -implicitDefEqProofs [hlt, hx, hxv, wrC_def, ci_lt, ci_le, n_id7_id, n_id_id7, wi_i])
          | ((with_reducible first | apply AWp.ret | apply AWp.skip | apply AWp.exit); try simp -implicitDefEqProofs [hlt, hx, hxv, wrC_def, ci_lt, ci_le, n_id7_id, n_id_id7, wi_i]))
        intro id9 n1 n2 n3 h_id9
        have n1' : ¬ id = id9 := fun e => n1 e.symm
        have n2' : ¬ t = id9 := fun e => n2 e.symm
        have n3' : ¬ id7 = id9 := fun e => n3 e.symm
        repeat (first
          | (with_reducible first | apply AWp.seq | apply AWp.block | refine And.intro (by first | omega | assumption | decide) ?_)
          | ((first | (with_reducible first | apply AWp.fork | apply AWp.region | show condK _ _ _ | show guardK _ _ _ _ _ _ _ _ _) | ((with_reducible apply AWp.drawS (id := 12) (t := sc_15_12_XCode5)); (exact mixed); kernel_rfl; kernel_rfl; (repeat (with_reducible first | apply PanQ.then | apply PanQ.block | apply PanQ.body | apply PanQ.no))) | ((with_reducible apply aCall.id); first | apply aCall.gives (hr' _) | apply aCall.gives (hwr _))); simp -implicitDefEqProofs [n1, n2, n3, n1', n2', n3', n_id_t, n_id7_t, n_t_id, n_t_id7, hE8, hbl1, arrC, Try.underlying3, Try.underlying5, ci_lt, ci_le, n_id7_id, n_id_id7, wi_i])
          | ((with_reducible first | apply AWp.ret | apply AWp.skip | apply AWp.exit); try simp -implicitDefEqProofs [n1, n2, n3, n1', n2', n3', n_id_t, n_id7_t, n_t_id, n_t_id7, hE8, hbl1, arrC, Try.underlying3, Try.underlying5, ci_lt, ci_le, n_id7_id, n_id_id7, wi_i]))
        refine aCall.fnOf (first := [.ptr id 0]) (cap := []) (wplain_ok id l o nl P false (bs ++ [c]) t false (by simp) (by simp; omega) _ (by simp [wrC_def, n1, n2, n3, n1', n2', n3', n_id_t, n_id7_t, n_t_id, n_t_id7]) i x hlt hx 4 (by decide)) ?_ (fun _ _ h => h.elim)
        rintro r2 σ2 ⟨tk2, h_tk2, rfl, rfl⟩
        simp [wrC_def] at h_tk2
        simp -implicitDefEqProofs [ci_lt, ci_le, n_id7_id, n_id_id7, wi_i]
        repeat (first
          | (with_reducible first | apply AWp.seq | apply AWp.block | refine And.intro (by first | omega | assumption | decide) ?_)
          | ((first | (with_reducible first | apply AWp.fork | apply AWp.region | show condK _ _ _ | show guardK _ _ _ _ _ _ _ _ _) | ((with_reducible apply AWp.drawS (id := 12) (t := sc_15_12_XCode5)); (exact mixed); kernel_rfl; kernel_rfl; (repeat (with_reducible first | apply PanQ.then | apply PanQ.block | apply PanQ.body | apply PanQ.no)))); simp -implicitDefEqProofs [ci_lt, ci_le, n_id7_id, n_id_id7, wi_i])
          | ((with_reducible first | apply AWp.ret | apply AWp.skip | apply AWp.exit); try simp -implicitDefEqProofs [ci_lt, ci_le, n_id7_id, n_id_id7, wi_i]))
        have hadd : insB x (P.getD x.arg.toNat 0) (P.getD (i + 1) 0) = c :: putB (m64 x.arg) 4 := by simp [insB, opdB, ho, hc, wdO]
        rw [hadd] at hX
        refine stepA.mk ((i + 1, bs ++ c :: putB (m64 x.arg) 4, tk2)) (by (try dsimp only); omega) (by (try dsimp only); (simp only [List.cons_append, List.nil_append]; repeat (first | exact FrWk.nil | refine FrWk.cons (by first | (simp -implicitDefEqProofs [ci_lt, ci_le, n_id7_id, n_id_id7, wi_i]; done) | exact Wk.of (by (try simp -implicitDefEqProofs [ci_lt, ci_le, n_id7_id, n_id_id7, wi_i]) <;> rfl)) ?_))) (by (try dsimp only); (intro j_ y_ hy_; by_cases e1 : j_ = id <;> by_cases e2 : j_ = id7 <;> by_cases e3 : j_ = tk2 <;> by_cases e4 : j_ = t <;> by_cases e5 : j_ = id9 <;> simp_all [AS.set, wrC_def, arrC, putB_length])) ?_
        try dsimp only
        exact ⟨hlt, by simp [putB_length]; omega, hF, by rw [← hX]; simp, by simp [h_tk2], by simp [h_tk2], by simp [h_tk2]⟩
      · repeat (first
          | (with_reducible first | apply AWp.seq | apply AWp.block | refine And.intro (by first | omega | assumption | decide) ?_)
          | ((first | (with_reducible first | apply AWp.fork | apply AWp.region | show condK _ _ _ | show guardK _ _ _ _ _ _ _ _ _) | ((with_reducible apply AWp.drawS (id := 12) (t := sc_15_12_XCode5)); (exact mixed); kernel_rfl; kernel_rfl; (repeat (with_reducible first | apply PanQ.then | apply PanQ.block | apply PanQ.body | apply PanQ.no)))); simp -implicitDefEqProofs [hlt, hx, hxv, wrC_def, ci_lt, ci_le, n_id7_id, n_id_id7, wi_i])
          | ((with_reducible first | apply AWp.ret | apply AWp.skip | apply AWp.exit); try simp -implicitDefEqProofs [hlt, hx, hxv, wrC_def, ci_lt, ci_le, n_id7_id, n_id_id7, wi_i]))
        intro id9 n1 n2 n3 h_id9
        have n1' : ¬ id = id9 := fun e => n1 e.symm
        have n2' : ¬ t = id9 := fun e => n2 e.symm
        have n3' : ¬ id7 = id9 := fun e => n3 e.symm
        repeat (first
          | (with_reducible first | apply AWp.seq | apply AWp.block | refine And.intro (by first | omega | assumption | decide) ?_)
          | ((first | (with_reducible first | apply AWp.fork | apply AWp.region | show condK _ _ _ | show guardK _ _ _ _ _ _ _ _ _) | ((with_reducible apply AWp.drawS (id := 12) (t := sc_15_12_XCode5)); (exact mixed); kernel_rfl; kernel_rfl; (repeat (with_reducible first | apply PanQ.then | apply PanQ.block | apply PanQ.body | apply PanQ.no))) | ((with_reducible apply aCall.id); first | apply aCall.gives (hr' _) | apply aCall.gives (hwr _))); simp -implicitDefEqProofs [n1, n2, n3, n1', n2', n3', n_id_t, n_id7_t, n_t_id, n_t_id7, hE8, hbl1, arrC, Try.underlying3, Try.underlying5, ci_lt, ci_le, n_id7_id, n_id_id7, wi_i])
          | ((with_reducible first | apply AWp.ret | apply AWp.skip | apply AWp.exit); try simp -implicitDefEqProofs [n1, n2, n3, n1', n2', n3', n_id_t, n_id7_t, n_t_id, n_t_id7, hE8, hbl1, arrC, Try.underlying3, Try.underlying5, ci_lt, ci_le, n_id7_id, n_id_id7, wi_i]))
        refine aCall.fnOf (first := [.ptr id 0]) (cap := []) (wplain_ok id l o nl P false (bs ++ [c]) t false (by simp) (by simp; omega) _ (by simp [wrC_def, n1, n2, n3, n1', n2', n3', n_id_t, n_id7_t, n_t_id, n_t_id7]) i x hlt hx 8 (by decide)) ?_ (fun _ _ h => h.elim)
        rintro r2 σ2 ⟨tk2, h_tk2, rfl, rfl⟩
        simp [wrC_def] at h_tk2
        simp -implicitDefEqProofs [ci_lt, ci_le, n_id7_id, n_id_id7, wi_i]
        repeat (first
          | (with_reducible first | apply AWp.seq | apply AWp.block | refine And.intro (by first | omega | assumption | decide) ?_)
          | ((first | (with_reducible first | apply AWp.fork | apply AWp.region | show condK _ _ _ | show guardK _ _ _ _ _ _ _ _ _) | ((with_reducible apply AWp.drawS (id := 12) (t := sc_15_12_XCode5)); (exact mixed); kernel_rfl; kernel_rfl; (repeat (with_reducible first | apply PanQ.then | apply PanQ.block | apply PanQ.body | apply PanQ.no)))); simp -implicitDefEqProofs [ci_lt, ci_le, n_id7_id, n_id_id7, wi_i])
          | ((with_reducible first | apply AWp.ret | apply AWp.skip | apply AWp.exit); try simp -implicitDefEqProofs [ci_lt, ci_le, n_id7_id, n_id_id7, wi_i]))
        have hadd : insB x (P.getD x.arg.toNat 0) (P.getD (i + 1) 0) = c :: putB (m64 x.arg) 8 := by simp [insB, opdB, ho, hc, wdO]
        rw [hadd] at hX
        refine stepA.mk ((i + 1, bs ++ c :: putB (m64 x.arg) 8, tk2)) (by (try dsimp only); omega) (by (try dsimp only); (simp only [List.cons_append, List.nil_append]; repeat (first | exact FrWk.nil | refine FrWk.cons (by first | (simp -implicitDefEqProofs [ci_lt, ci_le, n_id7_id, n_id_id7, wi_i]; done) | exact Wk.of (by (try simp -implicitDefEqProofs [ci_lt, ci_le, n_id7_id, n_id_id7, wi_i]) <;> rfl)) ?_))) (by (try dsimp only); (intro j_ y_ hy_; by_cases e1 : j_ = id <;> by_cases e2 : j_ = id7 <;> by_cases e3 : j_ = tk2 <;> by_cases e4 : j_ = t <;> by_cases e5 : j_ = id9 <;> simp_all [AS.set, wrC_def, arrC, putB_length])) ?_
        try dsimp only
        exact ⟨hlt, by simp [putB_length]; omega, hF, by rw [← hX]; simp, by simp [h_tk2], by simp [h_tk2], by simp [h_tk2]⟩
      · repeat (first
          | (with_reducible first | apply AWp.seq | apply AWp.block | refine And.intro (by first | omega | assumption | decide) ?_)
          | ((first | (with_reducible first | apply AWp.fork | apply AWp.region | show condK _ _ _ | show guardK _ _ _ _ _ _ _ _ _) | ((with_reducible apply AWp.drawS (id := 12) (t := sc_15_12_XCode5)); (exact mixed); kernel_rfl; kernel_rfl; (repeat (with_reducible first | apply PanQ.then | apply PanQ.block | apply PanQ.body | apply PanQ.no)))); simp -implicitDefEqProofs [hlt, hx, hxv, wrC_def, ci_lt, ci_le, n_id7_id, n_id_id7, wi_i])
          | ((with_reducible first | apply AWp.ret | apply AWp.skip | apply AWp.exit); try simp -implicitDefEqProofs [hlt, hx, hxv, wrC_def, ci_lt, ci_le, n_id7_id, n_id_id7, wi_i]))
        intro id9 n1 n2 n3 h_id9
        have n1' : ¬ id = id9 := fun e => n1 e.symm
        have n2' : ¬ t = id9 := fun e => n2 e.symm
        have n3' : ¬ id7 = id9 := fun e => n3 e.symm
        repeat (first
          | (with_reducible first | apply AWp.seq | apply AWp.block | refine And.intro (by first | omega | assumption | decide) ?_)
          | ((first | (with_reducible first | apply AWp.fork | apply AWp.region | show condK _ _ _ | show guardK _ _ _ _ _ _ _ _ _) | ((with_reducible apply AWp.drawS (id := 12) (t := sc_15_12_XCode5)); (exact mixed); kernel_rfl; kernel_rfl; (repeat (with_reducible first | apply PanQ.then | apply PanQ.block | apply PanQ.body | apply PanQ.no))) | ((with_reducible apply aCall.id); first | apply aCall.gives (hr' _) | apply aCall.gives (hwr _))); simp -implicitDefEqProofs [n1, n2, n3, n1', n2', n3', n_id_t, n_id7_t, n_t_id, n_t_id7, hE8, hbl1, arrC, Try.underlying3, Try.underlying5, ci_lt, ci_le, n_id7_id, n_id_id7, wi_i])
          | ((with_reducible first | apply AWp.ret | apply AWp.skip | apply AWp.exit); try simp -implicitDefEqProofs [n1, n2, n3, n1', n2', n3', n_id_t, n_id7_t, n_t_id, n_t_id7, hE8, hbl1, arrC, Try.underlying3, Try.underlying5, ci_lt, ci_le, n_id7_id, n_id_id7, wi_i]))
        refine aCall.fnOf (first := [.ptr id 0]) (cap := []) (wplain_ok id l o nl P false (bs ++ [c]) t false (by simp) (by simp; omega) _ (by simp [wrC_def, n1, n2, n3, n1', n2', n3', n_id_t, n_id7_t, n_t_id, n_t_id7]) i x hlt hx 1 (by decide)) ?_ (fun _ _ h => h.elim)
        rintro r2 σ2 ⟨tk2, h_tk2, rfl, rfl⟩
        simp [wrC_def] at h_tk2
        simp -implicitDefEqProofs [ci_lt, ci_le, n_id7_id, n_id_id7, wi_i]
        repeat (first
          | (with_reducible first | apply AWp.seq | apply AWp.block | refine And.intro (by first | omega | assumption | decide) ?_)
          | ((first | (with_reducible first | apply AWp.fork | apply AWp.region | show condK _ _ _ | show guardK _ _ _ _ _ _ _ _ _) | ((with_reducible apply AWp.drawS (id := 12) (t := sc_15_12_XCode5)); (exact mixed); kernel_rfl; kernel_rfl; (repeat (with_reducible first | apply PanQ.then | apply PanQ.block | apply PanQ.body | apply PanQ.no)))); simp -implicitDefEqProofs [ci_lt, ci_le, n_id7_id, n_id_id7, wi_i])
          | ((with_reducible first | apply AWp.ret | apply AWp.skip | apply AWp.exit); try simp -implicitDefEqProofs [ci_lt, ci_le, n_id7_id, n_id_id7, wi_i]))
        have hadd : insB x (P.getD x.arg.toNat 0) (P.getD (i + 1) 0) = c :: putB (m64 x.arg) 1 := by simp [insB, opdB, ho, hc, wdO]
        rw [hadd] at hX
        refine stepA.mk ((i + 1, bs ++ c :: putB (m64 x.arg) 1, tk2)) (by (try dsimp only); omega) (by (try dsimp only); (simp only [List.cons_append, List.nil_append]; repeat (first | exact FrWk.nil | refine FrWk.cons (by first | (simp -implicitDefEqProofs [ci_lt, ci_le, n_id7_id, n_id_id7, wi_i]; done) | exact Wk.of (by (try simp -implicitDefEqProofs [ci_lt, ci_le, n_id7_id, n_id_id7, wi_i]) <;> rfl)) ?_))) (by (try dsimp only); (intro j_ y_ hy_; by_cases e1 : j_ = id <;> by_cases e2 : j_ = id7 <;> by_cases e3 : j_ = tk2 <;> by_cases e4 : j_ = t <;> by_cases e5 : j_ = id9 <;> simp_all [AS.set, wrC_def, arrC, putB_length])) ?_
        try dsimp only
        exact ⟨hlt, by simp [putB_length]; omega, hF, by rw [← hX]; simp, by simp [h_tk2], by simp [h_tk2], by simp [h_tk2]⟩
      · repeat (first
          | (with_reducible first | apply AWp.seq | apply AWp.block | refine And.intro (by first | omega | assumption | decide) ?_)
          | ((first | (with_reducible first | apply AWp.fork | apply AWp.region | show condK _ _ _ | show guardK _ _ _ _ _ _ _ _ _) | ((with_reducible apply AWp.drawS (id := 12) (t := sc_15_12_XCode5)); (exact mixed); kernel_rfl; kernel_rfl; (repeat (with_reducible first | apply PanQ.then | apply PanQ.block | apply PanQ.body | apply PanQ.no)))); simp -implicitDefEqProofs [hlt, hx, hxv, wrC_def, ci_lt, ci_le, n_id7_id, n_id_id7, wi_i])
          | ((with_reducible first | apply AWp.ret | apply AWp.skip | apply AWp.exit); try simp -implicitDefEqProofs [hlt, hx, hxv, wrC_def, ci_lt, ci_le, n_id7_id, n_id_id7, wi_i]))
        intro id9 n1 n2 n3 h_id9
        have n1' : ¬ id = id9 := fun e => n1 e.symm
        have n2' : ¬ t = id9 := fun e => n2 e.symm
        have n3' : ¬ id7 = id9 := fun e => n3 e.symm
        repeat (first
          | (with_reducible first | apply AWp.seq | apply AWp.block | refine And.intro (by first | omega | assumption | decide) ?_)
          | ((first | (with_reducible first | apply AWp.fork | apply AWp.region | show condK _ _ _ | show guardK _ _ _ _ _ _ _ _ _) | ((with_reducible apply AWp.drawS (id := 12) (t := sc_15_12_XCode5)); (exact mixed); kernel_rfl; kernel_rfl; (repeat (with_reducible first | apply PanQ.then | apply PanQ.block | apply PanQ.body | apply PanQ.no))) | ((with_reducible apply aCall.id); first | apply aCall.gives (hr' _) | apply aCall.gives (hwr _))); simp -implicitDefEqProofs [n1, n2, n3, n1', n2', n3', n_id_t, n_id7_t, n_t_id, n_t_id7, hE8, hbl1, arrC, Try.underlying3, Try.underlying5, ci_lt, ci_le, n_id7_id, n_id_id7, wi_i])
          | ((with_reducible first | apply AWp.ret | apply AWp.skip | apply AWp.exit); try simp -implicitDefEqProofs [n1, n2, n3, n1', n2', n3', n_id_t, n_id7_t, n_t_id, n_t_id7, hE8, hbl1, arrC, Try.underlying3, Try.underlying5, ci_lt, ci_le, n_id7_id, n_id_id7, wi_i]))
        refine aCall.fnOf (first := [.ptr id 0]) (cap := []) (wplain_ok id l o nl P false (bs ++ [c]) t false (by simp) (by simp; omega) _ (by simp [wrC_def, n1, n2, n3, n1', n2', n3', n_id_t, n_id7_t, n_t_id, n_t_id7]) i x hlt hx 1 (by decide)) ?_ (fun _ _ h => h.elim)
        rintro r2 σ2 ⟨tk2, h_tk2, rfl, rfl⟩
        simp [wrC_def] at h_tk2
        simp -implicitDefEqProofs [ci_lt, ci_le, n_id7_id, n_id_id7, wi_i]
        repeat (first
          | (with_reducible first | apply AWp.seq | apply AWp.block | refine And.intro (by first | omega | assumption | decide) ?_)
          | ((first | (with_reducible first | apply AWp.fork | apply AWp.region | show condK _ _ _ | show guardK _ _ _ _ _ _ _ _ _) | ((with_reducible apply AWp.drawS (id := 12) (t := sc_15_12_XCode5)); (exact mixed); kernel_rfl; kernel_rfl; (repeat (with_reducible first | apply PanQ.then | apply PanQ.block | apply PanQ.body | apply PanQ.no)))); simp -implicitDefEqProofs [ci_lt, ci_le, n_id7_id, n_id_id7, wi_i])
          | ((with_reducible first | apply AWp.ret | apply AWp.skip | apply AWp.exit); try simp -implicitDefEqProofs [ci_lt, ci_le, n_id7_id, n_id_id7, wi_i]))
        have hadd : insB x (P.getD x.arg.toNat 0) (P.getD (i + 1) 0) = c :: putB (m64 x.arg) 1 := by simp [insB, opdB, ho, hc, wdO]
        rw [hadd] at hX
        refine stepA.mk ((i + 1, bs ++ c :: putB (m64 x.arg) 1, tk2)) (by (try dsimp only); omega) (by (try dsimp only); (simp only [List.cons_append, List.nil_append]; repeat (first | exact FrWk.nil | refine FrWk.cons (by first | (simp -implicitDefEqProofs [ci_lt, ci_le, n_id7_id, n_id_id7, wi_i]; done) | exact Wk.of (by (try simp -implicitDefEqProofs [ci_lt, ci_le, n_id7_id, n_id_id7, wi_i]) <;> rfl)) ?_))) (by (try dsimp only); (intro j_ y_ hy_; by_cases e1 : j_ = id <;> by_cases e2 : j_ = id7 <;> by_cases e3 : j_ = tk2 <;> by_cases e4 : j_ = t <;> by_cases e5 : j_ = id9 <;> simp_all [AS.set, wrC_def, arrC, putB_length])) ?_
        try dsimp only
        exact ⟨hlt, by simp [putB_length]; omega, hF, by rw [← hX]; simp, by simp [h_tk2], by simp [h_tk2], by simp [h_tk2]⟩
      · repeat (first
          | (with_reducible first | apply AWp.seq | apply AWp.block | refine And.intro (by first | omega | assumption | decide) ?_)
          | ((first | (with_reducible first | apply AWp.fork | apply AWp.region | show condK _ _ _ | show guardK _ _ _ _ _ _ _ _ _) | ((with_reducible apply AWp.drawS (id := 12) (t := sc_15_12_XCode5)); (exact mixed); kernel_rfl; kernel_rfl; (repeat (with_reducible first | apply PanQ.then | apply PanQ.block | apply PanQ.body | apply PanQ.no)))); simp -implicitDefEqProofs [hlt, hx, hxv, wrC_def, ci_lt, ci_le, n_id7_id, n_id_id7, wi_i])
          | ((with_reducible first | apply AWp.ret | apply AWp.skip | apply AWp.exit); try simp -implicitDefEqProofs [hlt, hx, hxv, wrC_def, ci_lt, ci_le, n_id7_id, n_id_id7, wi_i]))
        intro id9 n1 n2 n3 h_id9
        have hge : ((l.length : Int) ≤ x.arg) = False := eq_false (by simp [flowB, ho] at hfl; omega)
        have n1' : ¬ id = id9 := fun e => n1 e.symm
        have n2' : ¬ t = id9 := fun e => n2 e.symm
        have n3' : ¬ id7 = id9 := fun e => n3 e.symm
        repeat (first
          | (with_reducible first | apply AWp.seq | apply AWp.block | refine And.intro (by first | omega | assumption | decide) ?_)
          | ((first | (with_reducible first | apply AWp.fork | apply AWp.region | show condK _ _ _ | show guardK _ _ _ _ _ _ _ _ _) | ((with_reducible apply AWp.drawS (id := 12) (t := sc_15_12_XCode5)); (exact mixed); kernel_rfl; kernel_rfl; (repeat (with_reducible first | apply PanQ.then | apply PanQ.block | apply PanQ.body | apply PanQ.no))) | ((with_reducible apply aCall.id); first | apply aCall.gives (hr' _) | apply aCall.gives (hwr _))); simp -implicitDefEqProofs [n1, n2, n3, n1', n2', n3', n_id_t, n_id7_t, n_t_id, n_t_id7, hge, hE8, hbl1, arrC, Try.underlying3, Try.underlying5, ci_lt, ci_le, n_id7_id, n_id_id7, wi_i])
          | ((with_reducible first | apply AWp.ret | apply AWp.skip | apply AWp.exit); try simp -implicitDefEqProofs [n1, n2, n3, n1', n2', n3', n_id_t, n_id7_t, n_t_id, n_t_id7, hge, hE8, hbl1, arrC, Try.underlying3, Try.underlying5, ci_lt, ci_le, n_id7_id, n_id_id7, wi_i]))
        obtain ⟨a1, a2⟩ := q5 rfl
        refine aCall.fnOf (first := [.ptr id 0]) (cap := []) (wplace_ok id l o nl P false (bs ++ [c]) t false (by simp) (by simp; omega) _ (by simp [wrC_def, n1, n2, n3, n1', n2', n3', n_id_t, n_id7_t, n_t_id, n_t_id7]) i x hlt hx hPb a1 (by simp [flowB, ho] at hfl; omega) hP1 hP2 2 (by decide)) ?_ (fun _ _ h => h.elim)
        rintro r2 σ2 ⟨tk2, h_tk2, rfl, rfl⟩
        simp [wrC_def] at h_tk2
        simp -implicitDefEqProofs [ci_lt, ci_le, n_id7_id, n_id_id7, wi_i]
        repeat (first
          | (with_reducible first | apply AWp.seq | apply AWp.block | refine And.intro (by first | omega | assumption | decide) ?_)
          | ((first | (with_reducible first | apply AWp.fork | apply AWp.region | show condK _ _ _ | show guardK _ _ _ _ _ _ _ _ _) | ((with_reducible apply AWp.drawS (id := 12) (t := sc_15_12_XCode5)); (exact mixed); kernel_rfl; kernel_rfl; (repeat (with_reducible first | apply PanQ.then | apply PanQ.block | apply PanQ.body | apply PanQ.no)))); simp -implicitDefEqProofs [ci_lt, ci_le, n_id7_id, n_id_id7, wi_i])
          | ((with_reducible first | apply AWp.ret | apply AWp.skip | apply AWp.exit); try simp -implicitDefEqProofs [ci_lt, ci_le, n_id7_id, n_id_id7, wi_i]))
        have hadd : insB x (P.getD x.arg.toNat 0) (P.getD (i + 1) 0) = c :: putB (m64 (P.getD x.arg.toNat 0 - P.getD (i + 1) 0)) 2 := by simp [insB, opdB, ho, hc, wdO]
        rw [hadd] at hX
        refine stepA.mk ((i + 1, bs ++ c :: putB (m64 (P.getD x.arg.toNat 0 - P.getD (i + 1) 0)) 2, tk2)) (by (try dsimp only); omega) (by (try dsimp only); (simp only [List.cons_append, List.nil_append]; repeat (first | exact FrWk.nil | refine FrWk.cons (by first | (simp -implicitDefEqProofs [ci_lt, ci_le, n_id7_id, n_id_id7, wi_i]; done) | exact Wk.of (by (try simp -implicitDefEqProofs [ci_lt, ci_le, n_id7_id, n_id_id7, wi_i]) <;> rfl)) ?_))) (by (try dsimp only); (intro j_ y_ hy_; by_cases e1 : j_ = id <;> by_cases e2 : j_ = id7 <;> by_cases e3 : j_ = tk2 <;> by_cases e4 : j_ = t <;> by_cases e5 : j_ = id9 <;> simp_all [AS.set, wrC_def, arrC, putB_length])) ?_
        try dsimp only
        exact ⟨hlt, by simp [putB_length]; omega, hF, by rw [← hX]; simp, by simp [h_tk2], by simp [h_tk2], by simp [h_tk2]⟩
      · repeat (first
          | (with_reducible first | apply AWp.seq | apply AWp.block | refine And.intro (by first | omega | assumption | decide) ?_)
          | ((first | (with_reducible first | apply AWp.fork | apply AWp.region | show condK _ _ _ | show guardK _ _ _ _ _ _ _ _ _) | ((with_reducible apply AWp.drawS (id := 12) (t := sc_15_12_XCode5)); (exact mixed); kernel_rfl; kernel_rfl; (repeat (with_reducible first | apply PanQ.then | apply PanQ.block | apply PanQ.body | apply PanQ.no)))); simp -implicitDefEqProofs [hlt, hx, hxv, wrC_def, ci_lt, ci_le, n_id7_id, n_id_id7, wi_i])
          | ((with_reducible first | apply AWp.ret | apply AWp.skip | apply AWp.exit); try simp -implicitDefEqProofs [hlt, hx, hxv, wrC_def, ci_lt, ci_le, n_id7_id, n_id_id7, wi_i]))
        intro id9 n1 n2 n3 h_id9
        have n1' : ¬ id = id9 := fun e => n1 e.symm
        have n2' : ¬ t = id9 := fun e => n2 e.symm
        have n3' : ¬ id7 = id9 := fun e => n3 e.symm
        repeat (first
          | (with_reducible first | apply AWp.seq | apply AWp.block | refine And.intro (by first | omega | assumption | decide) ?_)
          | ((first | (with_reducible first | apply AWp.fork | apply AWp.region | show condK _ _ _ | show guardK _ _ _ _ _ _ _ _ _) | ((with_reducible apply AWp.drawS (id := 12) (t := sc_15_12_XCode5)); (exact mixed); kernel_rfl; kernel_rfl; (repeat (with_reducible first | apply PanQ.then | apply PanQ.block | apply PanQ.body | apply PanQ.no))) | ((with_reducible apply aCall.id); first | apply aCall.gives (hr' _) | apply aCall.gives (hwr _))); simp -implicitDefEqProofs [n1, n2, n3, n1', n2', n3', n_id_t, n_id7_t, n_t_id, n_t_id7, hE8, hbl1, arrC, Try.underlying3, Try.underlying5, ci_lt, ci_le, n_id7_id, n_id_id7, wi_i])
          | ((with_reducible first | apply AWp.ret | apply AWp.skip | apply AWp.exit); try simp -implicitDefEqProofs [n1, n2, n3, n1', n2', n3', n_id_t, n_id7_t, n_t_id, n_t_id7, hE8, hbl1, arrC, Try.underlying3, Try.underlying5, ci_lt, ci_le, n_id7_id, n_id_id7, wi_i]))
        refine aCall.fnOf (first := [.ptr id 0]) (cap := []) (wrow_ok id l o nl P false (bs ++ [c]) t false (by simp) (by simp; omega) _ (by simp [wrC_def, n1, n2, n3, n1', n2', n3', n_id_t, n_id7_t, n_t_id, n_t_id7]) i x hlt hx (by have := q6 (by simp); omega) 2 (by decide)) ?_ (fun _ _ h => h.elim)
        rintro r2 σ2 ⟨tk2, h_tk2, rfl, rfl⟩
        simp [wrC_def] at h_tk2
        simp -implicitDefEqProofs [ci_lt, ci_le, n_id7_id, n_id_id7, wi_i]
        repeat (first
          | (with_reducible first | apply AWp.seq | apply AWp.block | refine And.intro (by first | omega | assumption | decide) ?_)
          | ((first | (with_reducible first | apply AWp.fork | apply AWp.region | show condK _ _ _ | show guardK _ _ _ _ _ _ _ _ _) | ((with_reducible apply AWp.drawS (id := 12) (t := sc_15_12_XCode5)); (exact mixed); kernel_rfl; kernel_rfl; (repeat (with_reducible first | apply PanQ.then | apply PanQ.block | apply PanQ.body | apply PanQ.no)))); simp -implicitDefEqProofs [ci_lt, ci_le, n_id7_id, n_id_id7, wi_i])
          | ((with_reducible first | apply AWp.ret | apply AWp.skip | apply AWp.exit); try simp -implicitDefEqProofs [ci_lt, ci_le, n_id7_id, n_id_id7, wi_i]))
        have hadd : insB x (P.getD x.arg.toNat 0) (P.getD (i + 1) 0) = c :: putB (m64 (x.arg + 1)) 2 := by simp [insB, opdB, ho, hc, wdO]
        rw [hadd] at hX
        refine stepA.mk ((i + 1, bs ++ c :: putB (m64 (x.arg + 1)) 2, tk2)) (by (try dsimp only); omega) (by (try dsimp only); (simp only [List.cons_append, List.nil_append]; repeat (first | exact FrWk.nil | refine FrWk.cons (by first | (simp -implicitDefEqProofs [ci_lt, ci_le, n_id7_id, n_id_id7, wi_i]; done) | exact Wk.of (by (try simp -implicitDefEqProofs [ci_lt, ci_le, n_id7_id, n_id_id7, wi_i]) <;> rfl)) ?_))) (by (try dsimp only); (intro j_ y_ hy_; by_cases e1 : j_ = id <;> by_cases e2 : j_ = id7 <;> by_cases e3 : j_ = tk2 <;> by_cases e4 : j_ = t <;> by_cases e5 : j_ = id9 <;> simp_all [AS.set, wrC_def, arrC, putB_length])) ?_
        try dsimp only
        exact ⟨hlt, by simp [putB_length]; omega, hF, by rw [← hX]; simp, by simp [h_tk2], by simp [h_tk2], by simp [h_tk2]⟩
      · repeat (first
          | (with_reducible first | apply AWp.seq | apply AWp.block | refine And.intro (by first | omega | assumption | decide) ?_)
          | ((first | (with_reducible first | apply AWp.fork | apply AWp.region | show condK _ _ _ | show guardK _ _ _ _ _ _ _ _ _) | ((with_reducible apply AWp.drawS (id := 12) (t := sc_15_12_XCode5)); (exact mixed); kernel_rfl; kernel_rfl; (repeat (with_reducible first | apply PanQ.then | apply PanQ.block | apply PanQ.body | apply PanQ.no)))); simp -implicitDefEqProofs [hlt, hx, hxv, wrC_def, ci_lt, ci_le, n_id7_id, n_id_id7, wi_i])
          | ((with_reducible first | apply AWp.ret | apply AWp.skip | apply AWp.exit); try simp -implicitDefEqProofs [hlt, hx, hxv, wrC_def, ci_lt, ci_le, n_id7_id, n_id_id7, wi_i]))
        intro id9 n1 n2 n3 h_id9
        have n1' : ¬ id = id9 := fun e => n1 e.symm
        have n2' : ¬ t = id9 := fun e => n2 e.symm
        have n3' : ¬ id7 = id9 := fun e => n3 e.symm
        repeat (first
          | (with_reducible first | apply AWp.seq | apply AWp.block | refine And.intro (by first | omega | assumption | decide) ?_)
          | ((first | (with_reducible first | apply AWp.fork | apply AWp.region | show condK _ _ _ | show guardK _ _ _ _ _ _ _ _ _) | ((with_reducible apply AWp.drawS (id := 12) (t := sc_15_12_XCode5)); (exact mixed); kernel_rfl; kernel_rfl; (repeat (with_reducible first | apply PanQ.then | apply PanQ.block | apply PanQ.body | apply PanQ.no))) | ((with_reducible apply aCall.id); first | apply aCall.gives (hr' _) | apply aCall.gives (hwr _))); simp -implicitDefEqProofs [n1, n2, n3, n1', n2', n3', n_id_t, n_id7_t, n_t_id, n_t_id7, hE8, hbl1, arrC, Try.underlying3, Try.underlying5, ci_lt, ci_le, n_id7_id, n_id_id7, wi_i])
          | ((with_reducible first | apply AWp.ret | apply AWp.skip | apply AWp.exit); try simp -implicitDefEqProofs [n1, n2, n3, n1', n2', n3', n_id_t, n_id7_t, n_t_id, n_t_id7, hE8, hbl1, arrC, Try.underlying3, Try.underlying5, ci_lt, ci_le, n_id7_id, n_id_id7, wi_i]))
        refine aCall.fnOf (first := [.ptr id 0]) (cap := []) (wrow_ok id l o nl P false (bs ++ [c]) t false (by simp) (by simp; omega) _ (by simp [wrC_def, n1, n2, n3, n1', n2', n3', n_id_t, n_id7_t, n_t_id, n_t_id7]) i x hlt hx (by have := q6 (by simp); omega) 2 (by decide)) ?_ (fun _ _ h => h.elim)
        rintro r2 σ2 ⟨tk2, h_tk2, rfl, rfl⟩
        simp [wrC_def] at h_tk2
        simp -implicitDefEqProofs [ci_lt, ci_le, n_id7_id, n_id_id7, wi_i]
        repeat (first
          | (with_reducible first | apply AWp.seq | apply AWp.block | refine And.intro (by first | omega | assumption | decide) ?_)
          | ((first | (with_reducible first | apply AWp.fork | apply AWp.region | show condK _ _ _ | show guardK _ _ _ _ _ _ _ _ _) | ((with_reducible apply AWp.drawS (id := 12) (t := sc_15_12_XCode5)); (exact mixed); kernel_rfl; kernel_rfl; (repeat (with_reducible first | apply PanQ.then | apply PanQ.block | apply PanQ.body | apply PanQ.no)))); simp -implicitDefEqProofs [ci_lt, ci_le, n_id7_id, n_id_id7, wi_i])
          | ((with_reducible first | apply AWp.ret | apply AWp.skip | apply AWp.exit); try simp -implicitDefEqProofs [ci_lt, ci_le, n_id7_id, n_id_id7, wi_i]))
        have hadd : insB x (P.getD x.arg.toNat 0) (P.getD (i + 1) 0) = c :: putB (m64 (x.arg + 1)) 2 := by simp [insB, opdB, ho, hc, wdO]
        rw [hadd] at hX
        refine stepA.mk ((i + 1, bs ++ c :: putB (m64 (x.arg + 1)) 2, tk2)) (by (try dsimp only); omega) (by (try dsimp only); (simp only [List.cons_append, List.nil_append]; repeat (first | exact FrWk.nil | refine FrWk.cons (by first | (simp -implicitDefEqProofs [ci_lt, ci_le, n_id7_id, n_id_id7, wi_i]; done) | exact Wk.of (by (try simp -implicitDefEqProofs [ci_lt, ci_le, n_id7_id, n_id_id7, wi_i]) <;> rfl)) ?_))) (by (try dsimp only); (intro j_ y_ hy_; by_cases e1 : j_ = id <;> by_cases e2 : j_ = id7 <;> by_cases e3 : j_ = tk2 <;> by_cases e4 : j_ = t <;> by_cases e5 : j_ = id9 <;> simp_all [AS.set, wrC_def, arrC, putB_length])) ?_
        try dsimp only
        exact ⟨hlt, by simp [putB_length]; omega, hF, by rw [← hX]; simp, by simp [h_tk2], by simp [h_tk2], by simp [h_tk2]⟩
      · repeat (first
          | (with_reducible first | apply AWp.seq | apply AWp.block | refine And.intro (by first | omega | assumption | decide) ?_)
          | ((first | (with_reducible first | apply AWp.fork | apply AWp.region | show condK _ _ _ | show guardK _ _ _ _ _ _ _ _ _) | ((with_reducible apply AWp.drawS (id := 12) (t := sc_15_12_XCode5)); (exact mixed); kernel_rfl; kernel_rfl; (repeat (with_reducible first | apply PanQ.then | apply PanQ.block | apply PanQ.body | apply PanQ.no)))); simp -implicitDefEqProofs [hlt, hx, hxv, wrC_def, ci_lt, ci_le, n_id7_id, n_id_id7, wi_i])
          | ((with_reducible first | apply AWp.ret | apply AWp.skip | apply AWp.exit); try simp -implicitDefEqProofs [hlt, hx, hxv, wrC_def, ci_lt, ci_le, n_id7_id, n_id_id7, wi_i]))
        intro id9 n1 n2 n3 h_id9
        have n1' : ¬ id = id9 := fun e => n1 e.symm
        have n2' : ¬ t = id9 := fun e => n2 e.symm
        have n3' : ¬ id7 = id9 := fun e => n3 e.symm
        repeat (first
          | (with_reducible first | apply AWp.seq | apply AWp.block | refine And.intro (by first | omega | assumption | decide) ?_)
          | ((first | (with_reducible first | apply AWp.fork | apply AWp.region | show condK _ _ _ | show guardK _ _ _ _ _ _ _ _ _) | ((with_reducible apply AWp.drawS (id := 12) (t := sc_15_12_XCode5)); (exact mixed); kernel_rfl; kernel_rfl; (repeat (with_reducible first | apply PanQ.then | apply PanQ.block | apply PanQ.body | apply PanQ.no))) | ((with_reducible apply aCall.id); first | apply aCall.gives (hr' _) | apply aCall.gives (hwr _))); simp -implicitDefEqProofs [n1, n2, n3, n1', n2', n3', n_id_t, n_id7_t, n_t_id, n_t_id7, hE8, hbl1, arrC, Try.underlying3, Try.underlying5, ci_lt, ci_le, n_id7_id, n_id_id7, wi_i])
          | ((with_reducible first | apply AWp.ret | apply AWp.skip | apply AWp.exit); try simp -implicitDefEqProofs [n1, n2, n3, n1', n2', n3', n_id_t, n_id7_t, n_t_id, n_t_id7, hE8, hbl1, arrC, Try.underlying3, Try.underlying5, ci_lt, ci_le, n_id7_id, n_id_id7, wi_i]))
        refine aCall.fnOf (first := [.ptr id 0]) (cap := []) (wplain_ok id l o nl P false (bs ++ [c]) t false (by simp) (by simp; omega) _ (by simp [wrC_def, n1, n2, n3, n1', n2', n3', n_id_t, n_id7_t, n_t_id, n_t_id7]) i x hlt hx 2 (by decide)) ?_ (fun _ _ h => h.elim)
        rintro r2 σ2 ⟨tk2, h_tk2, rfl, rfl⟩
        simp [wrC_def] at h_tk2
        simp -implicitDefEqProofs [ci_lt, ci_le, n_id7_id, n_id_id7, wi_i]
        repeat (first
          | (with_reducible first | apply AWp.seq | apply AWp.block | refine And.intro (by first | omega | assumption | decide) ?_)
          | ((first | (with_reducible first | apply AWp.fork | apply AWp.region | show condK _ _ _ | show guardK _ _ _ _ _ _ _ _ _) | ((with_reducible apply AWp.drawS (id := 12) (t := sc_15_12_XCode5)); (exact mixed); kernel_rfl; kernel_rfl; (repeat (with_reducible first | apply PanQ.then | apply PanQ.block | apply PanQ.body | apply PanQ.no)))); simp -implicitDefEqProofs [ci_lt, ci_le, n_id7_id, n_id_id7, wi_i])
          | ((with_reducible first | apply AWp.ret | apply AWp.skip | apply AWp.exit); try simp -implicitDefEqProofs [ci_lt, ci_le, n_id7_id, n_id_id7, wi_i]))
        have hadd : insB x (P.getD x.arg.toNat 0) (P.getD (i + 1) 0) = c :: putB (m64 x.arg) 2 := by simp [insB, opdB, ho, hc, wdO]
        rw [hadd] at hX
        refine stepA.mk ((i + 1, bs ++ c :: putB (m64 x.arg) 2, tk2)) (by (try dsimp only); omega) (by (try dsimp only); (simp only [List.cons_append, List.nil_append]; repeat (first | exact FrWk.nil | refine FrWk.cons (by first | (simp -implicitDefEqProofs [ci_lt, ci_le, n_id7_id, n_id_id7, wi_i]; done) | exact Wk.of (by (try simp -implicitDefEqProofs [ci_lt, ci_le, n_id7_id, n_id_id7, wi_i]) <;> rfl)) ?_))) (by (try dsimp only); (intro j_ y_ hy_; by_cases e1 : j_ = id <;> by_cases e2 : j_ = id7 <;> by_cases e3 : j_ = tk2 <;> by_cases e4 : j_ = t <;> by_cases e5 : j_ = id9 <;> simp_all [AS.set, wrC_def, arrC, putB_length])) ?_
        try dsimp only
        exact ⟨hlt, by simp [putB_length]; omega, hF, by rw [← hX]; simp, by simp [h_tk2], by simp [h_tk2], by simp [h_tk2]⟩
  · rw [List.drop_eq_nil_of_le (by omega)] at hX hF
    rw [e, hF]
    simp only [codeG, List.append_nil] at hX
    repeat (first
      | (with_reducible first | apply AWp.seq | apply AWp.block | refine And.intro (by first | omega | assumption | decide) ?_)
      | ((first | (with_reducible first | apply AWp.fork | apply AWp.region | show condK _ _ _ | show guardK _ _ _ _ _ _ _ _ _) | ((with_reducible apply AWp.drawS (id := 12) (t := sc_15_12_XCode5)); (exact mixed); kernel_rfl; kernel_rfl; (repeat (with_reducible first | apply PanQ.then | apply PanQ.block | apply PanQ.body | apply PanQ.no)))); simp -implicitDefEqProofs [hlt, ← hX, wrC_def, ci_lt, ci_le, n_id7_id, n_id_id7])
      | ((with_reducible first | apply AWp.ret | apply AWp.skip | apply AWp.exit); try simp -implicitDefEqProofs [hlt, ← hX, wrC_def, ci_lt, ci_le, n_id7_id, n_id_id7]))
    intro j_ y_ hy_; by_cases e1 : j_ = id <;> by_cases e2 : j_ = id7 <;> by_cases e3 : j_ = t <;> simp_all [AS.set]

end Go.Proofs.Ytnkjbgcbchbonaa
