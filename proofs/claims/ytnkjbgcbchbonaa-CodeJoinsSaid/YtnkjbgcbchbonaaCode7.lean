/- Chapter 07: the document's Encode. -/
import Derived.Test.YtnkjbgcbchbonaaCode5
import Derived.Test.YtnkjbgcbchbonaaCode3
set_option linter.unusedSimpArgs false
set_option linter.unusedVariables false
set_option maxRecDepth 100000
set_option maxHeartbeats 3200000
namespace Go.Proofs.Ytnkjbgcbchbonaa
open Go Go.AW
abbrev sc_16_17_XCode7 : Sch := (Sch.step 0 (Sch.step 1 (Sch.step 2 (Sch.step 3 (Sch.step 5 (Sch.step 6 (Sch.step 7 (Sch.step 8 (Sch.read 4 (Sch.read 9 (Sch.step 10 (Sch.alt 11 (Sch.alt 12 (Sch.step 13 Sch.done) Sch.none) Sch.none))))))))))))
abbrev sc_16_12_XCode7 : Sch := (Sch.step 0 (Sch.step 1 (Sch.step 2 (Sch.step 3 (Sch.step 4 (Sch.step 6 (Sch.step 7 (Sch.step 8 (Sch.step 9 (Sch.read 10 (Sch.pure 11 (Sch.read 5 (Sch.alt 12 (Sch.alt 13 (Sch.step 14 Sch.done) Sch.none) Sch.none)))))))))))))

theorem rencode_ok (l : List Ins) (o : Own) (nl : Bool) (h64 : ∀ x ∈ l, Fit64 x) (hl : l.length ≤ 140737488355328) (σ : AS) :
    ACalls Try.prog 16 [insL l o nl] σ (Gives (enV (encodeS l)) σ) No := by
  have hp := fun σ => rplaces_ok l o nl h64 hl σ
  simp only [insL, plV, enV] at hp ⊢
  by_cases hpe : (placesS l).2 = 0
  rotate_left
  · have e : encodeS l = ([], (placesS l).2) := by unfold encodeS; rw [if_neg hpe]
    have e1 := placesS_err hpe
    rw [e]
    rw [e1] at hp
    generalize (placesS l).2 = pe at *
    refine ACalls.of_body Try.func16 rfl rfl (by simp [Try.ntmps16]) ?_
    repeat (first
      | (with_reducible first | apply AWp.seq | apply AWp.block | refine And.intro (by first | omega | assumption | decide) ?_)
      | ((first | (with_reducible first | apply AWp.fork | apply AWp.region | show condK _ _ _ | show guardK _ _ _ _ _ _ _ _ _) | ((with_reducible apply AWp.drawS (id := 17) (t := sc_16_17_XCode7)); (exact mixed); kernel_rfl; kernel_rfl; (repeat (with_reducible first | apply PanQ.then | apply PanQ.block | apply PanQ.body | apply PanQ.no))) | ((with_reducible apply AWp.drawS (id := 12) (t := sc_16_12_XCode7)); (exact mixed); kernel_rfl; kernel_rfl; (repeat (with_reducible first | apply PanQ.then | apply PanQ.block | apply PanQ.body | apply PanQ.no))) | ((with_reducible apply aCall.id); first | apply aCall.gives (hp _)) | ((with_reducible apply pureCall.id); first | apply pureCall.gives (fun _ => hp _))); simp -implicitDefEqProofs [hpe])
      | ((with_reducible first | apply AWp.ret | apply AWp.skip | apply AWp.exit); try simp -implicitDefEqProofs [hpe]))
  obtain ⟨hlen, hraw, hpl⟩ := places_all hpe
  have e : encodeS l = if l.any (flowB l.length) then ([], 11) else (codeG (placesG l 0) l 0, 0) := by unfold encodeS; rw [if_pos hpe]
  have hPl := places_len l 0
  have hPb : ∀ y ∈ placesG l 0, 0 ≤ y ∧ y ≤ 10000 := fun y hy => ⟨places_ge l 0 y hy, by have := places_le l 0 y hy; omega⟩
  have hP0 : ¬ placesG l 0 = [] := by intro e; rw [e] at hPl; simp at hPl
  rw [hpl] at hp
  simp only [hP0, decide_false] at hp
  generalize placesG l 0 = P at *
  have hraw' : ∀ x ∈ l, rawB x = true := by simpa using hraw
  refine ACalls.of_body Try.func16 rfl rfl (by simp [Try.ntmps16]) ?_
  repeat (first
    | (with_reducible first | apply AWp.seq | apply AWp.block | refine And.intro (by first | omega | assumption | decide) ?_)
    | ((first | (with_reducible first | apply AWp.fork | ((fail_if_success (apply AWp.region (id := 5))); apply AWp.region) | show condK _ _ _ | show guardK _ _ _ _ _ _ _ _ _) | ((with_reducible apply AWp.drawS (id := 17) (t := sc_16_17_XCode7)); (exact mixed); kernel_rfl; kernel_rfl; (repeat (with_reducible first | apply PanQ.then | apply PanQ.block | apply PanQ.body | apply PanQ.no))) | ((with_reducible apply AWp.drawS (id := 12) (t := sc_16_12_XCode7)); (exact mixed); kernel_rfl; kernel_rfl; (repeat (with_reducible first | apply PanQ.then | apply PanQ.block | apply PanQ.body | apply PanQ.no))) | ((with_reducible apply aCall.id); first | apply aCall.gives (hp _)) | ((with_reducible apply pureCall.id); first | apply pureCall.gives (fun _ => hp _))); simp -implicitDefEqProofs [ci_lt, ci_le])
    | ((with_reducible first | apply AWp.ret | apply AWp.skip | apply AWp.exit); try simp -implicitDefEqProofs [ci_lt, ci_le]))
  refine AWp.mint 6 5 [] true (by simp [Try.ntmps16]) (.inr ⟨by simp, rfl, rfl⟩) ?_
  simp -implicitDefEqProofs [ci_lt, ci_le]
  intro tk h_tk
  repeat (first
    | (with_reducible first | apply AWp.seq | apply AWp.block | refine And.intro (by first | omega | assumption | decide) ?_)
    | ((first | (with_reducible first | apply AWp.fork | apply AWp.region | show condK _ _ _ | show guardK _ _ _ _ _ _ _ _ _) | ((with_reducible apply AWp.drawS (id := 17) (t := sc_16_17_XCode7)); (exact mixed); kernel_rfl; kernel_rfl; (repeat (with_reducible first | apply PanQ.then | apply PanQ.block | apply PanQ.body | apply PanQ.no))) | ((with_reducible apply AWp.drawS (id := 12) (t := sc_16_12_XCode7)); (exact mixed); kernel_rfl; kernel_rfl; (repeat (with_reducible first | apply PanQ.then | apply PanQ.block | apply PanQ.body | apply PanQ.no)))); simp -implicitDefEqProofs [ci_lt, ci_le])
    | ((with_reducible first | apply AWp.ret | apply AWp.skip | apply AWp.exit); try simp -implicitDefEqProofs [ci_lt, ci_le]))
  refine AWp.loopA (α := (Nat) × (List UInt8)) ((0, [])) (fun ⟨i, bs⟩ => l.length - i) (fun ⟨i, bs⟩ => i ≤ l.length ∧ bs.length ≤ 9 * i ∧ l.any (flowB l.length) = (l.drop i).any (flowB l.length) ∧ bs ++ codeG P (l.drop i) i = codeG P l 0) [(0, ?_), (4, ?_)] (fun ⟨i, bs⟩ => [(7, .sc (.int .i64 i)), (6, .lst 5 (bs.map u8) (.tok tk) (decide (bs = [])))]) (fun ⟨i, bs⟩ => σ.set tk (.tok bs.length)) ?_ ?_ ?_ ?_
  rotate_left 2
  · (try dsimp only); (simp only [List.cons_append, List.nil_append]; repeat (first | exact FrWk.nil | refine FrWk.cons (by first | (simp -implicitDefEqProofs [ci_lt, ci_le]; done) | exact Wk.of (by (try simp -implicitDefEqProofs [ci_lt, ci_le]) <;> rfl)) ?_))
  · (try dsimp only); (first | exact AS.le_refl _ | assumption | (repeat (first | exact AS.le_refl _ | assumption | refine le_new (by simp [*]) ?_)))
  · exact ⟨by omega, by simp, rfl, rfl⟩
  intro x_ hx_
  obtain ⟨i, bs⟩ := x_
  try dsimp only at hx_ ⊢
  obtain ⟨hi, hbl, hF, hX⟩ := hx_
  simp only [List.cons_append, List.nil_append]
  by_cases hlt : i < l.length
  · have wi_i : IntKind.i64.wrap ((i : Int) + 1) = ((i + 1 : Nat) : Int) := ci_wi (by omega)
    rw [List.drop_eq_getElem_cons hlt] at hF hX
    have hx0 := hraw' l[i] (List.getElem_mem hlt)
    have hx64 := h64 l[i] (List.getElem_mem hlt)
    generalize hx : l[i] = x at *
    simp only [List.any_cons, codeG] at hF hX
    obtain ⟨r1, r2, r3, q0, q1, q3, q5, q6, q8⟩ := raw_inv hx0
    have hwr := fun σ => rwidth_ok x.op (by omega) σ
    have hor := oO_range x.op
    have hxv : insV x = .agg [.sc (.int .i64 x.op), .sc (.int .i64 x.arg), .sc (.int .i64 x.t.kind), .sc (.int .i64 x.t.index), .sc (.int .i64 x.t.dims), .sc (.bool x.t.ref)] := rfl
    have ho' := fun σ => rOf_ok x.op σ
    have hoe : ofE x.op = 0 := by unfold ofE; rw [if_neg (by omega)]
    rw [hoe] at ho'
    have hoo : (ofT x.op).2.1 = oO x.op := rfl
    simp only [infV] at ho'
    rw [hoo] at ho'
    obtain ⟨c, hc⟩ : ∃ c : UInt8, UInt8.ofNat (x.op % 256).toNat = c := ⟨_, rfl⟩
    have hE8 : IntKind.u8.wrap x.op = (c.toNat : Int) := by rw [w_u8, ← hc]; simp; omega
    have hbl1 : bs.length ≤ 1440 := by omega
    have hP1 : i + 1 < P.length := by omega
    have hP2 : P.length ≤ 1000 := by omega
    by_cases hfl : flowB l.length x = true
    · have h5 : oO x.op = 5 := by simp [flowB] at hfl; exact hfl.1
      have hge : ((l.length : Int) ≤ x.arg) = True := eq_true (by simp [flowB] at hfl; exact hfl.2)
      rw [hfl] at hF
      simp only [Bool.true_or] at hF
      rw [e, hF]
      rw [h5] at ho'
      clear hwr
      repeat (first
        | (with_reducible first | apply AWp.seq | apply AWp.block | refine And.intro (by first | omega | assumption | decide) ?_)
        | ((first | (with_reducible first | apply AWp.fork | apply AWp.region | show condK _ _ _ | show guardK _ _ _ _ _ _ _ _ _) | ((with_reducible apply AWp.drawS (id := 17) (t := sc_16_17_XCode7)); (exact mixed); kernel_rfl; kernel_rfl; (repeat (with_reducible first | apply PanQ.then | apply PanQ.block | apply PanQ.body | apply PanQ.no))) | ((with_reducible apply AWp.drawS (id := 12) (t := sc_16_12_XCode7)); (exact mixed); kernel_rfl; kernel_rfl; (repeat (with_reducible first | apply PanQ.then | apply PanQ.block | apply PanQ.body | apply PanQ.no))) | ((with_reducible apply aCall.id); first | apply aCall.gives (ho' _)) | ((with_reducible apply pureCall.id); first | apply pureCall.gives (fun _ => ho' _))); simp -implicitDefEqProofs [hlt, hx, hxv, ci_lt, ci_le, wi_i])
        | ((with_reducible first | apply AWp.ret | apply AWp.skip | apply AWp.exit); try simp -implicitDefEqProofs [hlt, hx, hxv, ci_lt, ci_le, wi_i]))
      intro id8 n_id8_tk h_id8
      have n_tk_id8 : ¬ tk = id8 := fun e => n_id8_tk e.symm
      repeat (first
        | (with_reducible first | apply AWp.seq | apply AWp.block | refine And.intro (by first | omega | assumption | decide) ?_)
        | ((first | (with_reducible first | apply AWp.fork | apply AWp.region | show condK _ _ _ | show guardK _ _ _ _ _ _ _ _ _) | ((with_reducible apply AWp.drawS (id := 17) (t := sc_16_17_XCode7)); (exact mixed); kernel_rfl; kernel_rfl; (repeat (with_reducible first | apply PanQ.then | apply PanQ.block | apply PanQ.body | apply PanQ.no))) | ((with_reducible apply AWp.drawS (id := 12) (t := sc_16_12_XCode7)); (exact mixed); kernel_rfl; kernel_rfl; (repeat (with_reducible first | apply PanQ.then | apply PanQ.block | apply PanQ.body | apply PanQ.no)))); simp -implicitDefEqProofs [hge, hE8, hbl1, hlt, hx, hxv, Try.underlying3, Try.underlying5, ci_lt, ci_le, wi_i, n_id8_tk, n_tk_id8])
        | ((with_reducible first | apply AWp.ret | apply AWp.skip | apply AWp.exit); try simp -implicitDefEqProofs [hge, hE8, hbl1, hlt, hx, hxv, Try.underlying3, Try.underlying5, ci_lt, ci_le, wi_i, n_id8_tk, n_tk_id8]))
      exact le_new (by simp [n_id8_tk, h_id8]) (le_new h_tk (AS.le_refl _))
    · have hfl' : flowB l.length x = false := by simpa using hfl
      rw [hfl'] at hF
      simp only [Bool.false_or] at hF
      generalize ho : oO x.op = xo at *
      have hoc : xo = 0 ∨ xo = 1 ∨ xo = 2 ∨ xo = 3 ∨ xo = 4 ∨ xo = 5 ∨ xo = 6 ∨ xo = 7 ∨ xo = 8 := by omega
      rcases hoc with rfl | rfl | rfl | rfl | rfl | rfl | rfl | rfl | rfl
      · have hadd : insB x (P.getD x.arg.toNat 0) (P.getD (i + 1) 0) = [c] := by simp [insB, opdB, ho, hc]
        rw [hadd] at hX
        simp only [show wdO 0 = 0 from rfl] at hwr
        repeat (first
          | (with_reducible first | apply AWp.seq | apply AWp.block | refine And.intro (by first | omega | assumption | decide) ?_)
          | ((first | (with_reducible first | apply AWp.fork | apply AWp.region | show condK _ _ _ | show guardK _ _ _ _ _ _ _ _ _) | ((with_reducible apply AWp.drawS (id := 17) (t := sc_16_17_XCode7)); (exact mixed); kernel_rfl; kernel_rfl; (repeat (with_reducible first | apply PanQ.then | apply PanQ.block | apply PanQ.body | apply PanQ.no))) | ((with_reducible apply AWp.drawS (id := 12) (t := sc_16_12_XCode7)); (exact mixed); kernel_rfl; kernel_rfl; (repeat (with_reducible first | apply PanQ.then | apply PanQ.block | apply PanQ.body | apply PanQ.no))) | ((with_reducible apply aCall.id); first | apply aCall.gives (ho' _)) | ((with_reducible apply pureCall.id); first | apply pureCall.gives (fun _ => ho' _))); simp -implicitDefEqProofs [hlt, hx, hxv, ci_lt, ci_le, wi_i])
          | ((with_reducible first | apply AWp.ret | apply AWp.skip | apply AWp.exit); try simp -implicitDefEqProofs [hlt, hx, hxv, ci_lt, ci_le, wi_i]))
        intro id8 n_id8_tk h_id8
        have n_tk_id8 : ¬ tk = id8 := fun e => n_id8_tk e.symm
        repeat (first
          | (with_reducible first | apply AWp.seq | apply AWp.block | refine And.intro (by first | omega | assumption | decide) ?_)
          | ((first | (with_reducible first | apply AWp.fork | apply AWp.region | show condK _ _ _ | show guardK _ _ _ _ _ _ _ _ _) | ((with_reducible apply AWp.drawS (id := 17) (t := sc_16_17_XCode7)); (exact mixed); kernel_rfl; kernel_rfl; (repeat (with_reducible first | apply PanQ.then | apply PanQ.block | apply PanQ.body | apply PanQ.no))) | ((with_reducible apply AWp.drawS (id := 12) (t := sc_16_12_XCode7)); (exact mixed); kernel_rfl; kernel_rfl; (repeat (with_reducible first | apply PanQ.then | apply PanQ.block | apply PanQ.body | apply PanQ.no))) | ((with_reducible apply aCall.id); first | apply aCall.gives (hwr _)) | ((with_reducible apply pureCall.id); first | apply pureCall.gives (fun _ => hwr _))); simp -implicitDefEqProofs [hE8, hbl1, hlt, hx, hxv, Try.underlying3, Try.underlying5, ci_lt, ci_le, wi_i, n_id8_tk, n_tk_id8])
          | ((with_reducible first | apply AWp.ret | apply AWp.skip | apply AWp.exit); try simp -implicitDefEqProofs [hE8, hbl1, hlt, hx, hxv, Try.underlying3, Try.underlying5, ci_lt, ci_le, wi_i, n_id8_tk, n_tk_id8]))
        refine stepA.mk ((i + 1, bs ++ [c])) (by (try dsimp only); omega) (by (try dsimp only); (simp only [List.cons_append, List.nil_append]; repeat (first | exact FrWk.nil | refine FrWk.cons (by first | (simp -implicitDefEqProofs [ci_lt, ci_le, wi_i, n_id8_tk, n_tk_id8]; done) | exact Wk.of (by (try simp -implicitDefEqProofs [ci_lt, ci_le, wi_i, n_id8_tk, n_tk_id8]) <;> rfl)) ?_))) (by (try dsimp only); (intro j_ y_ hy_; by_cases e1 : j_ = tk <;> by_cases e2 : j_ = id8 <;> simp_all [AS.set, putB_length])) ?_
        try dsimp only
        exact ⟨hlt, by simp; omega, hF, by rw [← hX]; simp⟩
      · have hadd : insB x (P.getD x.arg.toNat 0) (P.getD (i + 1) 0) = c :: putB (m64 x.arg) 4 := by simp [insB, opdB, ho, hc, wdO]
        rw [hadd] at hX
        have hlw := fun σ => rlow_ok (x.arg) 4 (by omega) (by omega) σ
        simp only [show wdO 1 = 4 from rfl] at hwr
        repeat (first
          | (with_reducible first | apply AWp.seq | apply AWp.block | refine And.intro (by first | omega | assumption | decide) ?_)
          | ((first | (with_reducible first | apply AWp.fork | apply AWp.region | show condK _ _ _ | show guardK _ _ _ _ _ _ _ _ _) | ((with_reducible apply AWp.drawS (id := 17) (t := sc_16_17_XCode7)); (exact mixed); kernel_rfl; kernel_rfl; (repeat (with_reducible first | apply PanQ.then | apply PanQ.block | apply PanQ.body | apply PanQ.no))) | ((with_reducible apply AWp.drawS (id := 12) (t := sc_16_12_XCode7)); (exact mixed); kernel_rfl; kernel_rfl; (repeat (with_reducible first | apply PanQ.then | apply PanQ.block | apply PanQ.body | apply PanQ.no))) | ((with_reducible apply aCall.id); first | apply aCall.gives (ho' _)) | ((with_reducible apply pureCall.id); first | apply pureCall.gives (fun _ => ho' _))); simp -implicitDefEqProofs [hlt, hx, hxv, ci_lt, ci_le, wi_i])
          | ((with_reducible first | apply AWp.ret | apply AWp.skip | apply AWp.exit); try simp -implicitDefEqProofs [hlt, hx, hxv, ci_lt, ci_le, wi_i]))
        intro id8 n_id8_tk h_id8
        have n_tk_id8 : ¬ tk = id8 := fun e => n_id8_tk e.symm
        repeat (first
          | (with_reducible first | apply AWp.seq | apply AWp.block | refine And.intro (by first | omega | assumption | decide) ?_)
          | ((first | (with_reducible first | apply AWp.fork | apply AWp.region | show condK _ _ _ | show guardK _ _ _ _ _ _ _ _ _) | ((with_reducible apply AWp.drawS (id := 17) (t := sc_16_17_XCode7)); (exact mixed); kernel_rfl; kernel_rfl; (repeat (with_reducible first | apply PanQ.then | apply PanQ.block | apply PanQ.body | apply PanQ.no))) | ((with_reducible apply AWp.drawS (id := 12) (t := sc_16_12_XCode7)); (exact mixed); kernel_rfl; kernel_rfl; (repeat (with_reducible first | apply PanQ.then | apply PanQ.block | apply PanQ.body | apply PanQ.no))) | ((with_reducible apply aCall.id); first | apply aCall.gives (hwr _) | apply aCall.owns (hlw _)) | ((with_reducible apply pureCall.id); first | apply pureCall.gives (fun _ => hwr _))); simp -implicitDefEqProofs [hE8, hbl1, hlt, hx, hxv,  Try.underlying3, Try.underlying5, ci_lt, ci_le, wi_i, n_id8_tk, n_tk_id8])
          | ((with_reducible first | apply AWp.ret | apply AWp.skip | apply AWp.exit); try simp -implicitDefEqProofs [hE8, hbl1, hlt, hx, hxv,  Try.underlying3, Try.underlying5, ci_lt, ci_le, wi_i, n_id8_tk, n_tk_id8]))
        intro tk2 m2 m1 h_tk2
        have m1' : ¬ tk = tk2 := fun e => m1 e.symm
        have m2' : ¬ id8 = tk2 := fun e => m2 e.symm
        simp -implicitDefEqProofs [m1, m2, m1', m2', putB_length, ci_lt, ci_le, wi_i, n_id8_tk, n_tk_id8]
        repeat (first
          | (with_reducible first | apply AWp.seq | apply AWp.block | refine And.intro (by first | omega | assumption | decide) ?_)
          | ((first | (with_reducible first | apply AWp.fork | apply AWp.region | show condK _ _ _ | show guardK _ _ _ _ _ _ _ _ _) | ((with_reducible apply AWp.drawS (id := 17) (t := sc_16_17_XCode7)); (exact mixed); kernel_rfl; kernel_rfl; (repeat (with_reducible first | apply PanQ.then | apply PanQ.block | apply PanQ.body | apply PanQ.no))) | ((with_reducible apply AWp.drawS (id := 12) (t := sc_16_12_XCode7)); (exact mixed); kernel_rfl; kernel_rfl; (repeat (with_reducible first | apply PanQ.then | apply PanQ.block | apply PanQ.body | apply PanQ.no)))); simp -implicitDefEqProofs [m1, m2, m1', m2', putB_length, hbl1, ci_lt, ci_le, wi_i, n_id8_tk, n_tk_id8])
          | ((with_reducible first | apply AWp.ret | apply AWp.skip | apply AWp.exit); try simp -implicitDefEqProofs [m1, m2, m1', m2', putB_length, hbl1, ci_lt, ci_le, wi_i, n_id8_tk, n_tk_id8]))
        refine stepA.mk ((i + 1, bs ++ c :: putB (m64 x.arg) 4)) (by (try dsimp only); omega) (by (try dsimp only); (simp only [List.cons_append, List.nil_append]; repeat (first | exact FrWk.nil | refine FrWk.cons (by first | (simp -implicitDefEqProofs [ci_lt, ci_le, wi_i, n_id8_tk, n_tk_id8]; done) | exact Wk.of (by (try simp -implicitDefEqProofs [ci_lt, ci_le, wi_i, n_id8_tk, n_tk_id8]) <;> rfl)) ?_))) (by (try dsimp only); (intro j_ y_ hy_; by_cases e1 : j_ = tk <;> by_cases e2 : j_ = id8 <;> by_cases e3 : j_ = tk2 <;> simp_all [AS.set, putB_length])) ?_
        try dsimp only
        exact ⟨hlt, by simp [putB_length]; omega, hF, by rw [← hX]; simp⟩
      · have hadd : insB x (P.getD x.arg.toNat 0) (P.getD (i + 1) 0) = c :: putB (m64 x.arg) 8 := by simp [insB, opdB, ho, hc, wdO]
        rw [hadd] at hX
        have hlw := fun σ => rlow_ok (x.arg) 8 (by omega) (by omega) σ
        simp only [show wdO 2 = 8 from rfl] at hwr
        repeat (first
          | (with_reducible first | apply AWp.seq | apply AWp.block | refine And.intro (by first | omega | assumption | decide) ?_)
          | ((first | (with_reducible first | apply AWp.fork | apply AWp.region | show condK _ _ _ | show guardK _ _ _ _ _ _ _ _ _) | ((with_reducible apply AWp.drawS (id := 17) (t := sc_16_17_XCode7)); (exact mixed); kernel_rfl; kernel_rfl; (repeat (with_reducible first | apply PanQ.then | apply PanQ.block | apply PanQ.body | apply PanQ.no))) | ((with_reducible apply AWp.drawS (id := 12) (t := sc_16_12_XCode7)); (exact mixed); kernel_rfl; kernel_rfl; (repeat (with_reducible first | apply PanQ.then | apply PanQ.block | apply PanQ.body | apply PanQ.no))) | ((with_reducible apply aCall.id); first | apply aCall.gives (ho' _)) | ((with_reducible apply pureCall.id); first | apply pureCall.gives (fun _ => ho' _))); simp -implicitDefEqProofs [hlt, hx, hxv, ci_lt, ci_le, wi_i])
          | ((with_reducible first | apply AWp.ret | apply AWp.skip | apply AWp.exit); try simp -implicitDefEqProofs [hlt, hx, hxv, ci_lt, ci_le, wi_i]))
        intro id8 n_id8_tk h_id8
        have n_tk_id8 : ¬ tk = id8 := fun e => n_id8_tk e.symm
        repeat (first
          | (with_reducible first | apply AWp.seq | apply AWp.block | refine And.intro (by first | omega | assumption | decide) ?_)
          | ((first | (with_reducible first | apply AWp.fork | apply AWp.region | show condK _ _ _ | show guardK _ _ _ _ _ _ _ _ _) | ((with_reducible apply AWp.drawS (id := 17) (t := sc_16_17_XCode7)); (exact mixed); kernel_rfl; kernel_rfl; (repeat (with_reducible first | apply PanQ.then | apply PanQ.block | apply PanQ.body | apply PanQ.no))) | ((with_reducible apply AWp.drawS (id := 12) (t := sc_16_12_XCode7)); (exact mixed); kernel_rfl; kernel_rfl; (repeat (with_reducible first | apply PanQ.then | apply PanQ.block | apply PanQ.body | apply PanQ.no))) | ((with_reducible apply aCall.id); first | apply aCall.gives (hwr _) | apply aCall.owns (hlw _)) | ((with_reducible apply pureCall.id); first | apply pureCall.gives (fun _ => hwr _))); simp -implicitDefEqProofs [hE8, hbl1, hlt, hx, hxv,  Try.underlying3, Try.underlying5, ci_lt, ci_le, wi_i, n_id8_tk, n_tk_id8])
          | ((with_reducible first | apply AWp.ret | apply AWp.skip | apply AWp.exit); try simp -implicitDefEqProofs [hE8, hbl1, hlt, hx, hxv,  Try.underlying3, Try.underlying5, ci_lt, ci_le, wi_i, n_id8_tk, n_tk_id8]))
        intro tk2 m2 m1 h_tk2
        have m1' : ¬ tk = tk2 := fun e => m1 e.symm
        have m2' : ¬ id8 = tk2 := fun e => m2 e.symm
        simp -implicitDefEqProofs [m1, m2, m1', m2', putB_length, ci_lt, ci_le, wi_i, n_id8_tk, n_tk_id8]
        repeat (first
          | (with_reducible first | apply AWp.seq | apply AWp.block | refine And.intro (by first | omega | assumption | decide) ?_)
          | ((first | (with_reducible first | apply AWp.fork | apply AWp.region | show condK _ _ _ | show guardK _ _ _ _ _ _ _ _ _) | ((with_reducible apply AWp.drawS (id := 17) (t := sc_16_17_XCode7)); (exact mixed); kernel_rfl; kernel_rfl; (repeat (with_reducible first | apply PanQ.then | apply PanQ.block | apply PanQ.body | apply PanQ.no))) | ((with_reducible apply AWp.drawS (id := 12) (t := sc_16_12_XCode7)); (exact mixed); kernel_rfl; kernel_rfl; (repeat (with_reducible first | apply PanQ.then | apply PanQ.block | apply PanQ.body | apply PanQ.no)))); simp -implicitDefEqProofs [m1, m2, m1', m2', putB_length, hbl1, ci_lt, ci_le, wi_i, n_id8_tk, n_tk_id8])
          | ((with_reducible first | apply AWp.ret | apply AWp.skip | apply AWp.exit); try simp -implicitDefEqProofs [m1, m2, m1', m2', putB_length, hbl1, ci_lt, ci_le, wi_i, n_id8_tk, n_tk_id8]))
        refine stepA.mk ((i + 1, bs ++ c :: putB (m64 x.arg) 8)) (by (try dsimp only); omega) (by (try dsimp only); (simp only [List.cons_append, List.nil_append]; repeat (first | exact FrWk.nil | refine FrWk.cons (by first | (simp -implicitDefEqProofs [ci_lt, ci_le, wi_i, n_id8_tk, n_tk_id8]; done) | exact Wk.of (by (try simp -implicitDefEqProofs [ci_lt, ci_le, wi_i, n_id8_tk, n_tk_id8]) <;> rfl)) ?_))) (by (try dsimp only); (intro j_ y_ hy_; by_cases e1 : j_ = tk <;> by_cases e2 : j_ = id8 <;> by_cases e3 : j_ = tk2 <;> simp_all [AS.set, putB_length])) ?_
        try dsimp only
        exact ⟨hlt, by simp [putB_length]; omega, hF, by rw [← hX]; simp⟩
      · have hadd : insB x (P.getD x.arg.toNat 0) (P.getD (i + 1) 0) = c :: putB (m64 x.arg) 1 := by simp [insB, opdB, ho, hc, wdO]
        rw [hadd] at hX
        have hlw := fun σ => rlow_ok (x.arg) 1 (by omega) (by omega) σ
        simp only [show wdO 3 = 1 from rfl] at hwr
        repeat (first
          | (with_reducible first | apply AWp.seq | apply AWp.block | refine And.intro (by first | omega | assumption | decide) ?_)
          | ((first | (with_reducible first | apply AWp.fork | apply AWp.region | show condK _ _ _ | show guardK _ _ _ _ _ _ _ _ _) | ((with_reducible apply AWp.drawS (id := 17) (t := sc_16_17_XCode7)); (exact mixed); kernel_rfl; kernel_rfl; (repeat (with_reducible first | apply PanQ.then | apply PanQ.block | apply PanQ.body | apply PanQ.no))) | ((with_reducible apply AWp.drawS (id := 12) (t := sc_16_12_XCode7)); (exact mixed); kernel_rfl; kernel_rfl; (repeat (with_reducible first | apply PanQ.then | apply PanQ.block | apply PanQ.body | apply PanQ.no))) | ((with_reducible apply aCall.id); first | apply aCall.gives (ho' _)) | ((with_reducible apply pureCall.id); first | apply pureCall.gives (fun _ => ho' _))); simp -implicitDefEqProofs [hlt, hx, hxv, ci_lt, ci_le, wi_i])
          | ((with_reducible first | apply AWp.ret | apply AWp.skip | apply AWp.exit); try simp -implicitDefEqProofs [hlt, hx, hxv, ci_lt, ci_le, wi_i]))
        intro id8 n_id8_tk h_id8
        have n_tk_id8 : ¬ tk = id8 := fun e => n_id8_tk e.symm
        repeat (first
          | (with_reducible first | apply AWp.seq | apply AWp.block | refine And.intro (by first | omega | assumption | decide) ?_)
          | ((first | (with_reducible first | apply AWp.fork | apply AWp.region | show condK _ _ _ | show guardK _ _ _ _ _ _ _ _ _) | ((with_reducible apply AWp.drawS (id := 17) (t := sc_16_17_XCode7)); (exact mixed); kernel_rfl; kernel_rfl; (repeat (with_reducible first | apply PanQ.then | apply PanQ.block | apply PanQ.body | apply PanQ.no))) | ((with_reducible apply AWp.drawS (id := 12) (t := sc_16_12_XCode7)); (exact mixed); kernel_rfl; kernel_rfl; (repeat (with_reducible first | apply PanQ.then | apply PanQ.block | apply PanQ.body | apply PanQ.no))) | ((with_reducible apply aCall.id); first | apply aCall.gives (hwr _) | apply aCall.owns (hlw _)) | ((with_reducible apply pureCall.id); first | apply pureCall.gives (fun _ => hwr _))); simp -implicitDefEqProofs [hE8, hbl1, hlt, hx, hxv,  Try.underlying3, Try.underlying5, ci_lt, ci_le, wi_i, n_id8_tk, n_tk_id8])
          | ((with_reducible first | apply AWp.ret | apply AWp.skip | apply AWp.exit); try simp -implicitDefEqProofs [hE8, hbl1, hlt, hx, hxv,  Try.underlying3, Try.underlying5, ci_lt, ci_le, wi_i, n_id8_tk, n_tk_id8]))
        intro tk2 m2 m1 h_tk2
        have m1' : ¬ tk = tk2 := fun e => m1 e.symm
        have m2' : ¬ id8 = tk2 := fun e => m2 e.symm
        simp -implicitDefEqProofs [m1, m2, m1', m2', putB_length, ci_lt, ci_le, wi_i, n_id8_tk, n_tk_id8]
        repeat (first
          | (with_reducible first | apply AWp.seq | apply AWp.block | refine And.intro (by first | omega | assumption | decide) ?_)
          | ((first | (with_reducible first | apply AWp.fork | apply AWp.region | show condK _ _ _ | show guardK _ _ _ _ _ _ _ _ _) | ((with_reducible apply AWp.drawS (id := 17) (t := sc_16_17_XCode7)); (exact mixed); kernel_rfl; kernel_rfl; (repeat (with_reducible first | apply PanQ.then | apply PanQ.block | apply PanQ.body | apply PanQ.no))) | ((with_reducible apply AWp.drawS (id := 12) (t := sc_16_12_XCode7)); (exact mixed); kernel_rfl; kernel_rfl; (repeat (with_reducible first | apply PanQ.then | apply PanQ.block | apply PanQ.body | apply PanQ.no)))); simp -implicitDefEqProofs [m1, m2, m1', m2', putB_length, hbl1, ci_lt, ci_le, wi_i, n_id8_tk, n_tk_id8])
          | ((with_reducible first | apply AWp.ret | apply AWp.skip | apply AWp.exit); try simp -implicitDefEqProofs [m1, m2, m1', m2', putB_length, hbl1, ci_lt, ci_le, wi_i, n_id8_tk, n_tk_id8]))
        refine stepA.mk ((i + 1, bs ++ c :: putB (m64 x.arg) 1)) (by (try dsimp only); omega) (by (try dsimp only); (simp only [List.cons_append, List.nil_append]; repeat (first | exact FrWk.nil | refine FrWk.cons (by first | (simp -implicitDefEqProofs [ci_lt, ci_le, wi_i, n_id8_tk, n_tk_id8]; done) | exact Wk.of (by (try simp -implicitDefEqProofs [ci_lt, ci_le, wi_i, n_id8_tk, n_tk_id8]) <;> rfl)) ?_))) (by (try dsimp only); (intro j_ y_ hy_; by_cases e1 : j_ = tk <;> by_cases e2 : j_ = id8 <;> by_cases e3 : j_ = tk2 <;> simp_all [AS.set, putB_length])) ?_
        try dsimp only
        exact ⟨hlt, by simp [putB_length]; omega, hF, by rw [← hX]; simp⟩
      · have hadd : insB x (P.getD x.arg.toNat 0) (P.getD (i + 1) 0) = c :: putB (m64 x.arg) 1 := by simp [insB, opdB, ho, hc, wdO]
        rw [hadd] at hX
        have hlw := fun σ => rlow_ok (x.arg) 1 (by omega) (by omega) σ
        simp only [show wdO 4 = 1 from rfl] at hwr
        repeat (first
          | (with_reducible first | apply AWp.seq | apply AWp.block | refine And.intro (by first | omega | assumption | decide) ?_)
          | ((first | (with_reducible first | apply AWp.fork | apply AWp.region | show condK _ _ _ | show guardK _ _ _ _ _ _ _ _ _) | ((with_reducible apply AWp.drawS (id := 17) (t := sc_16_17_XCode7)); (exact mixed); kernel_rfl; kernel_rfl; (repeat (with_reducible first | apply PanQ.then | apply PanQ.block | apply PanQ.body | apply PanQ.no))) | ((with_reducible apply AWp.drawS (id := 12) (t := sc_16_12_XCode7)); (exact mixed); kernel_rfl; kernel_rfl; (repeat (with_reducible first | apply PanQ.then | apply PanQ.block | apply PanQ.body | apply PanQ.no))) | ((with_reducible apply aCall.id); first | apply aCall.gives (ho' _)) | ((with_reducible apply pureCall.id); first | apply pureCall.gives (fun _ => ho' _))); simp -implicitDefEqProofs [hlt, hx, hxv, ci_lt, ci_le, wi_i])
          | ((with_reducible first | apply AWp.ret | apply AWp.skip | apply AWp.exit); try simp -implicitDefEqProofs [hlt, hx, hxv, ci_lt, ci_le, wi_i]))
        intro id8 n_id8_tk h_id8
        have n_tk_id8 : ¬ tk = id8 := fun e => n_id8_tk e.symm
        repeat (first
          | (with_reducible first | apply AWp.seq | apply AWp.block | refine And.intro (by first | omega | assumption | decide) ?_)
          | ((first | (with_reducible first | apply AWp.fork | apply AWp.region | show condK _ _ _ | show guardK _ _ _ _ _ _ _ _ _) | ((with_reducible apply AWp.drawS (id := 17) (t := sc_16_17_XCode7)); (exact mixed); kernel_rfl; kernel_rfl; (repeat (with_reducible first | apply PanQ.then | apply PanQ.block | apply PanQ.body | apply PanQ.no))) | ((with_reducible apply AWp.drawS (id := 12) (t := sc_16_12_XCode7)); (exact mixed); kernel_rfl; kernel_rfl; (repeat (with_reducible first | apply PanQ.then | apply PanQ.block | apply PanQ.body | apply PanQ.no))) | ((with_reducible apply aCall.id); first | apply aCall.gives (hwr _) | apply aCall.owns (hlw _)) | ((with_reducible apply pureCall.id); first | apply pureCall.gives (fun _ => hwr _))); simp -implicitDefEqProofs [hE8, hbl1, hlt, hx, hxv,  Try.underlying3, Try.underlying5, ci_lt, ci_le, wi_i, n_id8_tk, n_tk_id8])
          | ((with_reducible first | apply AWp.ret | apply AWp.skip | apply AWp.exit); try simp -implicitDefEqProofs [hE8, hbl1, hlt, hx, hxv,  Try.underlying3, Try.underlying5, ci_lt, ci_le, wi_i, n_id8_tk, n_tk_id8]))
        intro tk2 m2 m1 h_tk2
        have m1' : ¬ tk = tk2 := fun e => m1 e.symm
        have m2' : ¬ id8 = tk2 := fun e => m2 e.symm
        simp -implicitDefEqProofs [m1, m2, m1', m2', putB_length, ci_lt, ci_le, wi_i, n_id8_tk, n_tk_id8]
        repeat (first
          | (with_reducible first | apply AWp.seq | apply AWp.block | refine And.intro (by first | omega | assumption | decide) ?_)
          | ((first | (with_reducible first | apply AWp.fork | apply AWp.region | show condK _ _ _ | show guardK _ _ _ _ _ _ _ _ _) | ((with_reducible apply AWp.drawS (id := 17) (t := sc_16_17_XCode7)); (exact mixed); kernel_rfl; kernel_rfl; (repeat (with_reducible first | apply PanQ.then | apply PanQ.block | apply PanQ.body | apply PanQ.no))) | ((with_reducible apply AWp.drawS (id := 12) (t := sc_16_12_XCode7)); (exact mixed); kernel_rfl; kernel_rfl; (repeat (with_reducible first | apply PanQ.then | apply PanQ.block | apply PanQ.body | apply PanQ.no)))); simp -implicitDefEqProofs [m1, m2, m1', m2', putB_length, hbl1, ci_lt, ci_le, wi_i, n_id8_tk, n_tk_id8])
          | ((with_reducible first | apply AWp.ret | apply AWp.skip | apply AWp.exit); try simp -implicitDefEqProofs [m1, m2, m1', m2', putB_length, hbl1, ci_lt, ci_le, wi_i, n_id8_tk, n_tk_id8]))
        refine stepA.mk ((i + 1, bs ++ c :: putB (m64 x.arg) 1)) (by (try dsimp only); omega) (by (try dsimp only); (simp only [List.cons_append, List.nil_append]; repeat (first | exact FrWk.nil | refine FrWk.cons (by first | (simp -implicitDefEqProofs [ci_lt, ci_le, wi_i, n_id8_tk, n_tk_id8]; done) | exact Wk.of (by (try simp -implicitDefEqProofs [ci_lt, ci_le, wi_i, n_id8_tk, n_tk_id8]) <;> rfl)) ?_))) (by (try dsimp only); (intro j_ y_ hy_; by_cases e1 : j_ = tk <;> by_cases e2 : j_ = id8 <;> by_cases e3 : j_ = tk2 <;> simp_all [AS.set, putB_length])) ?_
        try dsimp only
        exact ⟨hlt, by simp [putB_length]; omega, hF, by rw [← hX]; simp⟩
      · obtain ⟨a1, a2⟩ := q5 rfl
        have hge : ((l.length : Int) ≤ x.arg) = False := eq_false (by simp [flowB, ho] at hfl; omega)
        have a3 : x.arg < P.length := by simp [flowB, ho] at hfl; omega
        have a4 : x.arg.toNat < P.length := by omega
        have a5 : ((i : Int) + 1 : Int) < P.length := by omega
        have b1 := hPb _ (List.getElem_mem a4)
        have b2 := hPb _ (List.getElem_mem hP1)
        have g1 : P[x.arg.toNat]? = some P[x.arg.toNat] := List.getElem?_eq_getElem a4
        have g2 : P[i + 1]? = some P[i + 1] := List.getElem?_eq_getElem hP1
        have g3 : P.getD x.arg.toNat 0 = P[x.arg.toNat] := by simp [List.getD_eq_getElem?_getD, a4]
        have g4 : P.getD (i + 1) 0 = P[i + 1] := by simp [List.getD_eq_getElem?_getD, hP1]
        rw [g3, g4] at hX
        generalize P[x.arg.toNat] = p1 at *
        generalize P[i + 1] = p2 at *
        have hwa : IntKind.i64.wrap (p1 - p2) = p1 - p2 := in_i64 (by omega) (by omega)
        have hadd : insB x p1 p2 = c :: putB (m64 (p1 - p2)) 2 := by simp [insB, opdB, ho, hc, wdO]
        rw [hadd] at hX
        have hlw := fun σ => rlow_ok (p1 - p2) 2 (by omega) (by omega) σ
        simp only [show wdO 5 = 2 from rfl] at hwr
        repeat (first
          | (with_reducible first | apply AWp.seq | apply AWp.block | refine And.intro (by first | omega | assumption | decide) ?_)
          | ((first | (with_reducible first | apply AWp.fork | apply AWp.region | show condK _ _ _ | show guardK _ _ _ _ _ _ _ _ _) | ((with_reducible apply AWp.drawS (id := 17) (t := sc_16_17_XCode7)); (exact mixed); kernel_rfl; kernel_rfl; (repeat (with_reducible first | apply PanQ.then | apply PanQ.block | apply PanQ.body | apply PanQ.no))) | ((with_reducible apply AWp.drawS (id := 12) (t := sc_16_12_XCode7)); (exact mixed); kernel_rfl; kernel_rfl; (repeat (with_reducible first | apply PanQ.then | apply PanQ.block | apply PanQ.body | apply PanQ.no))) | ((with_reducible apply aCall.id); first | apply aCall.gives (ho' _)) | ((with_reducible apply pureCall.id); first | apply pureCall.gives (fun _ => ho' _))); simp -implicitDefEqProofs [hlt, hx, hxv, ci_lt, ci_le, wi_i])
          | ((with_reducible first | apply AWp.ret | apply AWp.skip | apply AWp.exit); try simp -implicitDefEqProofs [hlt, hx, hxv, ci_lt, ci_le, wi_i]))
        intro id8 n_id8_tk h_id8
        have n_tk_id8 : ¬ tk = id8 := fun e => n_id8_tk e.symm
        repeat (first
          | (with_reducible first | apply AWp.seq | apply AWp.block | refine And.intro (by first | omega | assumption | decide) ?_)
          | ((first | (with_reducible first | apply AWp.fork | apply AWp.region | show condK _ _ _ | show guardK _ _ _ _ _ _ _ _ _) | ((with_reducible apply AWp.drawS (id := 17) (t := sc_16_17_XCode7)); (exact mixed); kernel_rfl; kernel_rfl; (repeat (with_reducible first | apply PanQ.then | apply PanQ.block | apply PanQ.body | apply PanQ.no))) | ((with_reducible apply AWp.drawS (id := 12) (t := sc_16_12_XCode7)); (exact mixed); kernel_rfl; kernel_rfl; (repeat (with_reducible first | apply PanQ.then | apply PanQ.block | apply PanQ.body | apply PanQ.no))) | ((with_reducible apply aCall.id); first | apply aCall.gives (hwr _) | apply aCall.owns (hlw _)) | ((with_reducible apply pureCall.id); first | apply pureCall.gives (fun _ => hwr _))); simp -implicitDefEqProofs [hE8, hbl1, hlt, hx, hxv, hge, a3, a5, g1, g2, hwa, i64v_def, Try.underlying3, Try.underlying5, ci_lt, ci_le, wi_i, n_id8_tk, n_tk_id8])
          | ((with_reducible first | apply AWp.ret | apply AWp.skip | apply AWp.exit); try simp -implicitDefEqProofs [hE8, hbl1, hlt, hx, hxv, hge, a3, a5, g1, g2, hwa, i64v_def, Try.underlying3, Try.underlying5, ci_lt, ci_le, wi_i, n_id8_tk, n_tk_id8]))
        intro tk2 m2 m1 h_tk2
        have m1' : ¬ tk = tk2 := fun e => m1 e.symm
        have m2' : ¬ id8 = tk2 := fun e => m2 e.symm
        simp -implicitDefEqProofs [m1, m2, m1', m2', putB_length, ci_lt, ci_le, wi_i, n_id8_tk, n_tk_id8]
        repeat (first
          | (with_reducible first | apply AWp.seq | apply AWp.block | refine And.intro (by first | omega | assumption | decide) ?_)
          | ((first | (with_reducible first | apply AWp.fork | apply AWp.region | show condK _ _ _ | show guardK _ _ _ _ _ _ _ _ _) | ((with_reducible apply AWp.drawS (id := 17) (t := sc_16_17_XCode7)); (exact mixed); kernel_rfl; kernel_rfl; (repeat (with_reducible first | apply PanQ.then | apply PanQ.block | apply PanQ.body | apply PanQ.no))) | ((with_reducible apply AWp.drawS (id := 12) (t := sc_16_12_XCode7)); (exact mixed); kernel_rfl; kernel_rfl; (repeat (with_reducible first | apply PanQ.then | apply PanQ.block | apply PanQ.body | apply PanQ.no)))); simp -implicitDefEqProofs [m1, m2, m1', m2', putB_length, hbl1, ci_lt, ci_le, wi_i, n_id8_tk, n_tk_id8])
          | ((with_reducible first | apply AWp.ret | apply AWp.skip | apply AWp.exit); try simp -implicitDefEqProofs [m1, m2, m1', m2', putB_length, hbl1, ci_lt, ci_le, wi_i, n_id8_tk, n_tk_id8]))
        refine stepA.mk ((i + 1, bs ++ c :: putB (m64 (p1 - p2)) 2)) (by (try dsimp only); omega) (by (try dsimp only); (simp only [List.cons_append, List.nil_append]; repeat (first | exact FrWk.nil | refine FrWk.cons (by first | (simp -implicitDefEqProofs [ci_lt, ci_le, wi_i, n_id8_tk, n_tk_id8]; done) | exact Wk.of (by (try simp -implicitDefEqProofs [ci_lt, ci_le, wi_i, n_id8_tk, n_tk_id8]) <;> rfl)) ?_))) (by (try dsimp only); (intro j_ y_ hy_; by_cases e1 : j_ = tk <;> by_cases e2 : j_ = id8 <;> by_cases e3 : j_ = tk2 <;> simp_all [AS.set, putB_length])) ?_
        try dsimp only
        exact ⟨hlt, by simp [putB_length]; omega, hF, by rw [← hX]; simp⟩
      · obtain ⟨a1, a2⟩ := q6 (by simp)
        have hwa : IntKind.i64.wrap (x.arg + 1) = x.arg + 1 := in_i64 (by omega) (by omega)
        have hadd : insB x (P.getD x.arg.toNat 0) (P.getD (i + 1) 0) = c :: putB (m64 (x.arg + 1)) 2 := by simp [insB, opdB, ho, hc, wdO]
        rw [hadd] at hX
        have hlw := fun σ => rlow_ok (x.arg + 1) 2 (by omega) (by omega) σ
        simp only [show wdO 6 = 2 from rfl] at hwr
        repeat (first
          | (with_reducible first | apply AWp.seq | apply AWp.block | refine And.intro (by first | omega | assumption | decide) ?_)
          | ((first | (with_reducible first | apply AWp.fork | apply AWp.region | show condK _ _ _ | show guardK _ _ _ _ _ _ _ _ _) | ((with_reducible apply AWp.drawS (id := 17) (t := sc_16_17_XCode7)); (exact mixed); kernel_rfl; kernel_rfl; (repeat (with_reducible first | apply PanQ.then | apply PanQ.block | apply PanQ.body | apply PanQ.no))) | ((with_reducible apply AWp.drawS (id := 12) (t := sc_16_12_XCode7)); (exact mixed); kernel_rfl; kernel_rfl; (repeat (with_reducible first | apply PanQ.then | apply PanQ.block | apply PanQ.body | apply PanQ.no))) | ((with_reducible apply aCall.id); first | apply aCall.gives (ho' _)) | ((with_reducible apply pureCall.id); first | apply pureCall.gives (fun _ => ho' _))); simp -implicitDefEqProofs [hlt, hx, hxv, ci_lt, ci_le, wi_i])
          | ((with_reducible first | apply AWp.ret | apply AWp.skip | apply AWp.exit); try simp -implicitDefEqProofs [hlt, hx, hxv, ci_lt, ci_le, wi_i]))
        intro id8 n_id8_tk h_id8
        have n_tk_id8 : ¬ tk = id8 := fun e => n_id8_tk e.symm
        repeat (first
          | (with_reducible first | apply AWp.seq | apply AWp.block | refine And.intro (by first | omega | assumption | decide) ?_)
          | ((first | (with_reducible first | apply AWp.fork | apply AWp.region | show condK _ _ _ | show guardK _ _ _ _ _ _ _ _ _) | ((with_reducible apply AWp.drawS (id := 17) (t := sc_16_17_XCode7)); (exact mixed); kernel_rfl; kernel_rfl; (repeat (with_reducible first | apply PanQ.then | apply PanQ.block | apply PanQ.body | apply PanQ.no))) | ((with_reducible apply AWp.drawS (id := 12) (t := sc_16_12_XCode7)); (exact mixed); kernel_rfl; kernel_rfl; (repeat (with_reducible first | apply PanQ.then | apply PanQ.block | apply PanQ.body | apply PanQ.no))) | ((with_reducible apply aCall.id); first | apply aCall.gives (hwr _) | apply aCall.owns (hlw _)) | ((with_reducible apply pureCall.id); first | apply pureCall.gives (fun _ => hwr _))); simp -implicitDefEqProofs [hE8, hbl1, hlt, hx, hxv, hwa,  Try.underlying3, Try.underlying5, ci_lt, ci_le, wi_i, n_id8_tk, n_tk_id8])
          | ((with_reducible first | apply AWp.ret | apply AWp.skip | apply AWp.exit); try simp -implicitDefEqProofs [hE8, hbl1, hlt, hx, hxv, hwa,  Try.underlying3, Try.underlying5, ci_lt, ci_le, wi_i, n_id8_tk, n_tk_id8]))
        intro tk2 m2 m1 h_tk2
        have m1' : ¬ tk = tk2 := fun e => m1 e.symm
        have m2' : ¬ id8 = tk2 := fun e => m2 e.symm
        simp -implicitDefEqProofs [m1, m2, m1', m2', putB_length, ci_lt, ci_le, wi_i, n_id8_tk, n_tk_id8]
        repeat (first
          | (with_reducible first | apply AWp.seq | apply AWp.block | refine And.intro (by first | omega | assumption | decide) ?_)
          | ((first | (with_reducible first | apply AWp.fork | apply AWp.region | show condK _ _ _ | show guardK _ _ _ _ _ _ _ _ _) | ((with_reducible apply AWp.drawS (id := 17) (t := sc_16_17_XCode7)); (exact mixed); kernel_rfl; kernel_rfl; (repeat (with_reducible first | apply PanQ.then | apply PanQ.block | apply PanQ.body | apply PanQ.no))) | ((with_reducible apply AWp.drawS (id := 12) (t := sc_16_12_XCode7)); (exact mixed); kernel_rfl; kernel_rfl; (repeat (with_reducible first | apply PanQ.then | apply PanQ.block | apply PanQ.body | apply PanQ.no)))); simp -implicitDefEqProofs [m1, m2, m1', m2', putB_length, hbl1, ci_lt, ci_le, wi_i, n_id8_tk, n_tk_id8])
          | ((with_reducible first | apply AWp.ret | apply AWp.skip | apply AWp.exit); try simp -implicitDefEqProofs [m1, m2, m1', m2', putB_length, hbl1, ci_lt, ci_le, wi_i, n_id8_tk, n_tk_id8]))
        refine stepA.mk ((i + 1, bs ++ c :: putB (m64 (x.arg + 1)) 2)) (by (try dsimp only); omega) (by (try dsimp only); (simp only [List.cons_append, List.nil_append]; repeat (first | exact FrWk.nil | refine FrWk.cons (by first | (simp -implicitDefEqProofs [ci_lt, ci_le, wi_i, n_id8_tk, n_tk_id8]; done) | exact Wk.of (by (try simp -implicitDefEqProofs [ci_lt, ci_le, wi_i, n_id8_tk, n_tk_id8]) <;> rfl)) ?_))) (by (try dsimp only); (intro j_ y_ hy_; by_cases e1 : j_ = tk <;> by_cases e2 : j_ = id8 <;> by_cases e3 : j_ = tk2 <;> simp_all [AS.set, putB_length])) ?_
        try dsimp only
        exact ⟨hlt, by simp [putB_length]; omega, hF, by rw [← hX]; simp⟩
      · obtain ⟨a1, a2⟩ := q6 (by simp)
        have hwa : IntKind.i64.wrap (x.arg + 1) = x.arg + 1 := in_i64 (by omega) (by omega)
        have hadd : insB x (P.getD x.arg.toNat 0) (P.getD (i + 1) 0) = c :: putB (m64 (x.arg + 1)) 2 := by simp [insB, opdB, ho, hc, wdO]
        rw [hadd] at hX
        have hlw := fun σ => rlow_ok (x.arg + 1) 2 (by omega) (by omega) σ
        simp only [show wdO 7 = 2 from rfl] at hwr
        repeat (first
          | (with_reducible first | apply AWp.seq | apply AWp.block | refine And.intro (by first | omega | assumption | decide) ?_)
          | ((first | (with_reducible first | apply AWp.fork | apply AWp.region | show condK _ _ _ | show guardK _ _ _ _ _ _ _ _ _) | ((with_reducible apply AWp.drawS (id := 17) (t := sc_16_17_XCode7)); (exact mixed); kernel_rfl; kernel_rfl; (repeat (with_reducible first | apply PanQ.then | apply PanQ.block | apply PanQ.body | apply PanQ.no))) | ((with_reducible apply AWp.drawS (id := 12) (t := sc_16_12_XCode7)); (exact mixed); kernel_rfl; kernel_rfl; (repeat (with_reducible first | apply PanQ.then | apply PanQ.block | apply PanQ.body | apply PanQ.no))) | ((with_reducible apply aCall.id); first | apply aCall.gives (ho' _)) | ((with_reducible apply pureCall.id); first | apply pureCall.gives (fun _ => ho' _))); simp -implicitDefEqProofs [hlt, hx, hxv, ci_lt, ci_le, wi_i])
          | ((with_reducible first | apply AWp.ret | apply AWp.skip | apply AWp.exit); try simp -implicitDefEqProofs [hlt, hx, hxv, ci_lt, ci_le, wi_i]))
        intro id8 n_id8_tk h_id8
        have n_tk_id8 : ¬ tk = id8 := fun e => n_id8_tk e.symm
        repeat (first
          | (with_reducible first | apply AWp.seq | apply AWp.block | refine And.intro (by first | omega | assumption | decide) ?_)
          | ((first | (with_reducible first | apply AWp.fork | apply AWp.region | show condK _ _ _ | show guardK _ _ _ _ _ _ _ _ _) | ((with_reducible apply AWp.drawS (id := 17) (t := sc_16_17_XCode7)); (exact mixed); kernel_rfl; kernel_rfl; (repeat (with_reducible first | apply PanQ.then | apply PanQ.block | apply PanQ.body | apply PanQ.no))) | ((with_reducible apply AWp.drawS (id := 12) (t := sc_16_12_XCode7)); (exact mixed); kernel_rfl; kernel_rfl; (repeat (with_reducible first | apply PanQ.then | apply PanQ.block | apply PanQ.body | apply PanQ.no))) | ((with_reducible apply aCall.id); first | apply aCall.gives (hwr _) | apply aCall.owns (hlw _)) | ((with_reducible apply pureCall.id); first | apply pureCall.gives (fun _ => hwr _))); simp -implicitDefEqProofs [hE8, hbl1, hlt, hx, hxv, hwa,  Try.underlying3, Try.underlying5, ci_lt, ci_le, wi_i, n_id8_tk, n_tk_id8])
          | ((with_reducible first | apply AWp.ret | apply AWp.skip | apply AWp.exit); try simp -implicitDefEqProofs [hE8, hbl1, hlt, hx, hxv, hwa,  Try.underlying3, Try.underlying5, ci_lt, ci_le, wi_i, n_id8_tk, n_tk_id8]))
        intro tk2 m2 m1 h_tk2
        have m1' : ¬ tk = tk2 := fun e => m1 e.symm
        have m2' : ¬ id8 = tk2 := fun e => m2 e.symm
        simp -implicitDefEqProofs [m1, m2, m1', m2', putB_length, ci_lt, ci_le, wi_i, n_id8_tk, n_tk_id8]
        repeat (first
          | (with_reducible first | apply AWp.seq | apply AWp.block | refine And.intro (by first | omega | assumption | decide) ?_)
          | ((first | (with_reducible first | apply AWp.fork | apply AWp.region | show condK _ _ _ | show guardK _ _ _ _ _ _ _ _ _) | ((with_reducible apply AWp.drawS (id := 17) (t := sc_16_17_XCode7)); (exact mixed); kernel_rfl; kernel_rfl; (repeat (with_reducible first | apply PanQ.then | apply PanQ.block | apply PanQ.body | apply PanQ.no))) | ((with_reducible apply AWp.drawS (id := 12) (t := sc_16_12_XCode7)); (exact mixed); kernel_rfl; kernel_rfl; (repeat (with_reducible first | apply PanQ.then | apply PanQ.block | apply PanQ.body | apply PanQ.no)))); simp -implicitDefEqProofs [m1, m2, m1', m2', putB_length, hbl1, ci_lt, ci_le, wi_i, n_id8_tk, n_tk_id8])
          | ((with_reducible first | apply AWp.ret | apply AWp.skip | apply AWp.exit); try simp -implicitDefEqProofs [m1, m2, m1', m2', putB_length, hbl1, ci_lt, ci_le, wi_i, n_id8_tk, n_tk_id8]))
        refine stepA.mk ((i + 1, bs ++ c :: putB (m64 (x.arg + 1)) 2)) (by (try dsimp only); omega) (by (try dsimp only); (simp only [List.cons_append, List.nil_append]; repeat (first | exact FrWk.nil | refine FrWk.cons (by first | (simp -implicitDefEqProofs [ci_lt, ci_le, wi_i, n_id8_tk, n_tk_id8]; done) | exact Wk.of (by (try simp -implicitDefEqProofs [ci_lt, ci_le, wi_i, n_id8_tk, n_tk_id8]) <;> rfl)) ?_))) (by (try dsimp only); (intro j_ y_ hy_; by_cases e1 : j_ = tk <;> by_cases e2 : j_ = id8 <;> by_cases e3 : j_ = tk2 <;> simp_all [AS.set, putB_length])) ?_
        try dsimp only
        exact ⟨hlt, by simp [putB_length]; omega, hF, by rw [← hX]; simp⟩
      · have hadd : insB x (P.getD x.arg.toNat 0) (P.getD (i + 1) 0) = c :: putB (m64 x.arg) 2 := by simp [insB, opdB, ho, hc, wdO]
        rw [hadd] at hX
        have hlw := fun σ => rlow_ok (x.arg) 2 (by omega) (by omega) σ
        simp only [show wdO 8 = 2 from rfl] at hwr
        repeat (first
          | (with_reducible first | apply AWp.seq | apply AWp.block | refine And.intro (by first | omega | assumption | decide) ?_)
          | ((first | (with_reducible first | apply AWp.fork | apply AWp.region | show condK _ _ _ | show guardK _ _ _ _ _ _ _ _ _) | ((with_reducible apply AWp.drawS (id := 17) (t := sc_16_17_XCode7)); (exact mixed); kernel_rfl; kernel_rfl; (repeat (with_reducible first | apply PanQ.then | apply PanQ.block | apply PanQ.body | apply PanQ.no))) | ((with_reducible apply AWp.drawS (id := 12) (t := sc_16_12_XCode7)); (exact mixed); kernel_rfl; kernel_rfl; (repeat (with_reducible first | apply PanQ.then | apply PanQ.block | apply PanQ.body | apply PanQ.no))) | ((with_reducible apply aCall.id); first | apply aCall.gives (ho' _)) | ((with_reducible apply pureCall.id); first | apply pureCall.gives (fun _ => ho' _))); simp -implicitDefEqProofs [hlt, hx, hxv, ci_lt, ci_le, wi_i])
          | ((with_reducible first | apply AWp.ret | apply AWp.skip | apply AWp.exit); try simp -implicitDefEqProofs [hlt, hx, hxv, ci_lt, ci_le, wi_i]))
        intro id8 n_id8_tk h_id8
        have n_tk_id8 : ¬ tk = id8 := fun e => n_id8_tk e.symm
        repeat (first
          | (with_reducible first | apply AWp.seq | apply AWp.block | refine And.intro (by first | omega | assumption | decide) ?_)
          | ((first | (with_reducible first | apply AWp.fork | apply AWp.region | show condK _ _ _ | show guardK _ _ _ _ _ _ _ _ _) | ((with_reducible apply AWp.drawS (id := 17) (t := sc_16_17_XCode7)); (exact mixed); kernel_rfl; kernel_rfl; (repeat (with_reducible first | apply PanQ.then | apply PanQ.block | apply PanQ.body | apply PanQ.no))) | ((with_reducible apply AWp.drawS (id := 12) (t := sc_16_12_XCode7)); (exact mixed); kernel_rfl; kernel_rfl; (repeat (with_reducible first | apply PanQ.then | apply PanQ.block | apply PanQ.body | apply PanQ.no))) | ((with_reducible apply aCall.id); first | apply aCall.gives (hwr _) | apply aCall.owns (hlw _)) | ((with_reducible apply pureCall.id); first | apply pureCall.gives (fun _ => hwr _))); simp -implicitDefEqProofs [hE8, hbl1, hlt, hx, hxv,  Try.underlying3, Try.underlying5, ci_lt, ci_le, wi_i, n_id8_tk, n_tk_id8])
          | ((with_reducible first | apply AWp.ret | apply AWp.skip | apply AWp.exit); try simp -implicitDefEqProofs [hE8, hbl1, hlt, hx, hxv,  Try.underlying3, Try.underlying5, ci_lt, ci_le, wi_i, n_id8_tk, n_tk_id8]))
        intro tk2 m2 m1 h_tk2
        have m1' : ¬ tk = tk2 := fun e => m1 e.symm
        have m2' : ¬ id8 = tk2 := fun e => m2 e.symm
        simp -implicitDefEqProofs [m1, m2, m1', m2', putB_length, ci_lt, ci_le, wi_i, n_id8_tk, n_tk_id8]
        repeat (first
          | (with_reducible first | apply AWp.seq | apply AWp.block | refine And.intro (by first | omega | assumption | decide) ?_)
          | ((first | (with_reducible first | apply AWp.fork | apply AWp.region | show condK _ _ _ | show guardK _ _ _ _ _ _ _ _ _) | ((with_reducible apply AWp.drawS (id := 17) (t := sc_16_17_XCode7)); (exact mixed); kernel_rfl; kernel_rfl; (repeat (with_reducible first | apply PanQ.then | apply PanQ.block | apply PanQ.body | apply PanQ.no))) | ((with_reducible apply AWp.drawS (id := 12) (t := sc_16_12_XCode7)); (exact mixed); kernel_rfl; kernel_rfl; (repeat (with_reducible first | apply PanQ.then | apply PanQ.block | apply PanQ.body | apply PanQ.no)))); simp -implicitDefEqProofs [m1, m2, m1', m2', putB_length, hbl1, ci_lt, ci_le, wi_i, n_id8_tk, n_tk_id8])
          | ((with_reducible first | apply AWp.ret | apply AWp.skip | apply AWp.exit); try simp -implicitDefEqProofs [m1, m2, m1', m2', putB_length, hbl1, ci_lt, ci_le, wi_i, n_id8_tk, n_tk_id8]))
        refine stepA.mk ((i + 1, bs ++ c :: putB (m64 x.arg) 2)) (by (try dsimp only); omega) (by (try dsimp only); (simp only [List.cons_append, List.nil_append]; repeat (first | exact FrWk.nil | refine FrWk.cons (by first | (simp -implicitDefEqProofs [ci_lt, ci_le, wi_i, n_id8_tk, n_tk_id8]; done) | exact Wk.of (by (try simp -implicitDefEqProofs [ci_lt, ci_le, wi_i, n_id8_tk, n_tk_id8]) <;> rfl)) ?_))) (by (try dsimp only); (intro j_ y_ hy_; by_cases e1 : j_ = tk <;> by_cases e2 : j_ = id8 <;> by_cases e3 : j_ = tk2 <;> simp_all [AS.set, putB_length])) ?_
        try dsimp only
        exact ⟨hlt, by simp [putB_length]; omega, hF, by rw [← hX]; simp⟩
  · rw [List.drop_eq_nil_of_le (by omega)] at hX hF
    rw [e, hF]
    simp only [codeG, List.append_nil] at hX
    repeat (first
      | (with_reducible first | apply AWp.seq | apply AWp.block | refine And.intro (by first | omega | assumption | decide) ?_)
      | ((first | (with_reducible first | apply AWp.fork | apply AWp.region | show condK _ _ _ | show guardK _ _ _ _ _ _ _ _ _) | ((with_reducible apply AWp.drawS (id := 17) (t := sc_16_17_XCode7)); (exact mixed); kernel_rfl; kernel_rfl; (repeat (with_reducible first | apply PanQ.then | apply PanQ.block | apply PanQ.body | apply PanQ.no))) | ((with_reducible apply AWp.drawS (id := 12) (t := sc_16_12_XCode7)); (exact mixed); kernel_rfl; kernel_rfl; (repeat (with_reducible first | apply PanQ.then | apply PanQ.block | apply PanQ.body | apply PanQ.no)))); simp -implicitDefEqProofs [hlt, ← hX, ci_lt, ci_le])
      | ((with_reducible first | apply AWp.ret | apply AWp.skip | apply AWp.exit); try simp -implicitDefEqProofs [hlt, ← hX, ci_lt, ci_le]))
    all_goals (repeat' (with_reducible apply And.intro))
    all_goals first
      | exact AS.le_refl _
      | ((repeat (first | exact AS.le_refl _ | assumption | refine le_new (by simp [*]) ?_)); done)
      | (refine wk_eq ?_; simp_all [skipV]; done)
      | (refine wk_b ?_; rw [Bool.eq_iff_iff]; simp [*]; omega)
      | (refine wk_eq ?_; simp [*]; omega)
      | (refine wk_eq ?_; split <;> simp_all [skipV]; done)
      | (exfalso; omega)

end Go.Proofs.Ytnkjbgcbchbonaa
