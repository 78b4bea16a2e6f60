/- Chapter 07: Same; the laws as walks. -/
import Derived.Test.YtnkjbgcbchbonaaCodeA
import Derived.Test.YtnkjbgcbchbonaaCode7
set_option linter.unusedSimpArgs false
set_option linter.unusedVariables false
set_option maxRecDepth 100000
set_option maxHeartbeats 3200000
namespace Go.Proofs.Ytnkjbgcbchbonaa
open Go Go.AW
abbrev sc_19_6_XCodeB : Sch := (Sch.step 0 (Sch.step 1 (Sch.step 2 (Sch.step 4 (Sch.step 5 (Sch.step 6 (Sch.read 3 (Sch.read 7 (Sch.step 8 Sch.done)))))))))
abbrev sc_17_6_XCodeB : Sch := (Sch.step 0 (Sch.step 1 (Sch.step 2 (Sch.step 4 (Sch.step 5 (Sch.step 6 (Sch.read 3 (Sch.read 7 (Sch.step 8 Sch.done)))))))))

theorem sh_in : Program.stoodInHeld Try.prog 42 = false := by kernel_rfl
@[simp] theorem eg_in : Program.eqGuardType Try.prog Try.prog.depth 42 = false := by kernel_rfl
theorem eq_in (x y : Ins) : eqAV Try.prog 8 42 (insV x) (insV y) = some (decide (x = y)) := by
  obtain ⟨op, arg, k, i, d, r⟩ := x
  obtain ⟨op', arg', k', i', d', r'⟩ := y
  simp [eqAV, eqFs, insV, sh_in, sh_t, Try.underlying42, Try.underlying40, Try.underlying3, Try.underlying2, Try.underlying4]
  cases r <;> cases r' <;> rfl

def insI (l m : List Ins) (o1 o2 : Own) (n1 n2 : Bool) (σ : AS) (k : Nat) (fr : Fr) (σ' : AS) : Prop :=
  ∃ i : Nat, k = l.length - i ∧ i ≤ l.length ∧ decide (l = m) = decide (l.drop i = m.drop i) ∧ σ' = σ ∧
    fr = mkF [(0, .lst 42 (l.map insV) o1 n1), (1, .lst 42 (m.map insV) o2 n2), (5, .sc (.int .i64 i))]

theorem isame_ok (l m : List Ins) (o1 o2 : Own) (n1 n2 : Bool) (hl : l.length ≤ 140737488355328) (hm : m.length ≤ 140737488355328) (σ : AS) :
    ACalls Try.prog 19 [.lst 42 (l.map insV) o1 n1, .lst 42 (m.map insV) o2 n2] σ (Gives (.sc (.bool (decide (l = m)))) σ) No := by
  refine ACalls.of_body Try.func19 rfl rfl (by simp [Try.ntmps19]) ?_
  by_cases hlen : l.length = m.length
  · have hlen' : (l.length : Int) = m.length := by omega
    repeat (first
      | (with_reducible first | apply AWp.seq | apply AWp.block | refine And.intro (by first | omega | assumption | decide) ?_)
      | ((first | (with_reducible first | apply AWp.fork | apply AWp.region | show condK _ _ _ | show guardK _ _ _ _ _ _ _ _ _) | ((with_reducible apply AWp.drawS (id := 6) (t := sc_19_6_XCodeB)); (exact mixed); kernel_rfl; kernel_rfl; (repeat (with_reducible first | apply PanQ.then | apply PanQ.block | apply PanQ.body | apply PanQ.no)))); simp -implicitDefEqProofs [hlen, hlen'])
      | ((with_reducible first | apply AWp.ret | apply AWp.skip | apply AWp.exit); try simp -implicitDefEqProofs [hlen, hlen']))
    refine AWp.loopI (insI l m o1 o2 n1 n2 σ) (k0 := l.length) ⟨0, by omega, by omega, rfl, rfl, rfl⟩ (FrWk.mk (by simp)) (AS.le_refl _) ?_
    rintro k fr σ' ⟨i, hk, hi, hD, rfl, rfl⟩
    by_cases hlt : i < l.length
    · obtain ⟨r, hg, hd1, _, _⟩ := at_lt l hlt
      obtain ⟨q, hq, hd2, _, _⟩ := at_lt m (i := i) (by omega)
      obtain ⟨_, hg'⟩ := List.getElem?_eq_some_iff.1 hg
      obtain ⟨hlt2, hq'⟩ := List.getElem?_eq_some_iff.1 hq
      have hI : ((i : Int) < l.length) = True := by simp; omega
      have hI2 : ((i : Int) < m.length) = True := by simp; omega
      rw [hd1, hd2] at hD
      have hE := eq_in r q
      have hr : ∃ rc, (insV r) = .agg rc ∧ rc.length = 6 := ⟨_, rfl, rfl⟩
      have hq2 : ∃ qc, (insV q) = .agg qc ∧ qc.length = 6 := ⟨_, rfl, rfl⟩
      obtain ⟨rc, hr1, hr2⟩ := hr
      obtain ⟨qc, hq1, hq2⟩ := hq2
      rw [hr1, hq1] at hE
      have t6 : rc.take 6 = rc := by rw [← hr2]; simp
      have t7 : qc.take 6 = qc := by rw [← hq2]; simp
      by_cases he : r = q
      · have hE' : eqAV Try.prog 8 42 (.agg rc) (.agg qc) = some true := by rw [hE]; simp [he]
        repeat (first
          | (with_reducible first | apply AWp.seq | apply AWp.block | refine And.intro (by first | omega | assumption | decide) ?_)
          | ((first | (with_reducible first | apply AWp.fork | apply AWp.region | show condK _ _ _ | show guardK _ _ _ _ _ _ _ _ _) | ((with_reducible apply AWp.drawS (id := 6) (t := sc_19_6_XCodeB)); (exact mixed); kernel_rfl; kernel_rfl; (repeat (with_reducible first | apply PanQ.then | apply PanQ.block | apply PanQ.body | apply PanQ.no)))); simp -implicitDefEqProofs [hI, hI2, hlt, hlt2, hg, hq, hg', hq', hr1, hq1, hr2, hq2, t6, t7, hE'])
          | ((with_reducible first | apply AWp.ret | apply AWp.skip | apply AWp.exit); try simp -implicitDefEqProofs [hI, hI2, hlt, hlt2, hg, hq, hg', hq', hr1, hq1, hr2, hq2, t6, t7, hE']))
        refine ⟨k - 1, _, _, by omega, FrWk.mk ?_, AS.le_refl _, i + 1, by omega, by omega, by rw [hD]; simp [he], rfl, rfl⟩
        simp [wInc (show i < 4000000000000000000 by omega), i64v_def]
      · have hE' : eqAV Try.prog 8 42 (.agg rc) (.agg qc) = some false := by rw [hE]; simp [he]
        repeat (first
          | (with_reducible first | apply AWp.seq | apply AWp.block | refine And.intro (by first | omega | assumption | decide) ?_)
          | ((first | (with_reducible first | apply AWp.fork | apply AWp.region | show condK _ _ _ | show guardK _ _ _ _ _ _ _ _ _) | ((with_reducible apply AWp.drawS (id := 6) (t := sc_19_6_XCodeB)); (exact mixed); kernel_rfl; kernel_rfl; (repeat (with_reducible first | apply PanQ.then | apply PanQ.block | apply PanQ.body | apply PanQ.no)))); simp -implicitDefEqProofs [hI, hI2, hlt, hlt2, hg, hq, hg', hq', hr1, hq1, hr2, hq2, t6, t7, hE'])
          | ((with_reducible first | apply AWp.ret | apply AWp.skip | apply AWp.exit); try simp -implicitDefEqProofs [hI, hI2, hlt, hlt2, hg, hq, hg', hq', hr1, hq1, hr2, hq2, t6, t7, hE']))
        simp [hD, he]
    · have hI : ((i : Int) < l.length) = False := by simp; omega
      have hI2 : ((i : Int) < m.length) = False := by simp; omega
      have e1 : l.drop i = [] := List.drop_eq_nil_of_le (by omega)
      have e2 : m.drop i = [] := List.drop_eq_nil_of_le (by omega)
      rw [e1, e2] at hD
      repeat (first
        | (with_reducible first | apply AWp.seq | apply AWp.block | refine And.intro (by first | omega | assumption | decide) ?_)
        | ((first | (with_reducible first | apply AWp.fork | apply AWp.region | show condK _ _ _ | show guardK _ _ _ _ _ _ _ _ _) | ((with_reducible apply AWp.drawS (id := 6) (t := sc_19_6_XCodeB)); (exact mixed); kernel_rfl; kernel_rfl; (repeat (with_reducible first | apply PanQ.then | apply PanQ.block | apply PanQ.body | apply PanQ.no)))); simp -implicitDefEqProofs [hI, hI2])
        | ((with_reducible first | apply AWp.ret | apply AWp.skip | apply AWp.exit); try simp -implicitDefEqProofs [hI, hI2]))
      simp [hD]
  · have hlen' : ¬ (l.length : Int) = m.length := by omega
    repeat (first
      | (with_reducible first | apply AWp.seq | apply AWp.block | refine And.intro (by first | omega | assumption | decide) ?_)
      | ((first | (with_reducible first | apply AWp.fork | apply AWp.region | show condK _ _ _ | show guardK _ _ _ _ _ _ _ _ _) | ((with_reducible apply AWp.drawS (id := 6) (t := sc_19_6_XCodeB)); (exact mixed); kernel_rfl; kernel_rfl; (repeat (with_reducible first | apply PanQ.then | apply PanQ.block | apply PanQ.body | apply PanQ.no)))); simp -implicitDefEqProofs [hlen, hlen'])
      | ((with_reducible first | apply AWp.ret | apply AWp.skip | apply AWp.exit); try simp -implicitDefEqProofs [hlen, hlen']))
    have : ¬ l = m := by intro e; exact hlen (by rw [e])
    simp [this]

theorem enc_wake : encodeS [⟨1, 0, noTy⟩, ⟨34, 0, noTy⟩] = ([1, 34, 252, 255], 0) := by decide +kernel
theorem cwakes_ok (σ : AS) : ACalls Try.prog 12 [] σ (Gives (.sc (.bool true)) σ) No := by
  have he := fun σ => cencode_ok [⟨1, 0, noTy⟩, ⟨34, 0, noTy⟩] .full false (by simp) σ
  rw [enc_wake] at he
  simp only [enV, insL, insV, noTy, List.map_cons, List.map_nil, u8] at he
  refine ACalls.of_body Try.func12 rfl rfl (by simp [Try.ntmps12]) ?_
  simp at he
  have h61 : allU8 [.sc (.int .u8 1), .sc (.int .u8 34), .sc (.int .u8 252), .sc (.int .u8 255)] = some [1, 34, 252, 255] := by decide +kernel
  have hss : ((⟨[1, 34, 252, 255].toArray⟩ : ByteArray) == ⟨#[1, 34, 252, 255]⟩) = true := by decide +kernel
  repeat (first
    | (with_reducible first | apply AWp.seq | apply AWp.block | refine And.intro (by first | omega | assumption | decide) ?_)
    | ((first | (with_reducible first | apply AWp.fork | apply AWp.region | show condK _ _ _ | show guardK _ _ _ _ _ _ _ _ _) | ((with_reducible apply aCall.id); first | apply aCall.gives (he _))); simp -implicitDefEqProofs [h61, hss])
    | ((with_reducible first | apply AWp.ret | apply AWp.skip | apply AWp.exit); try simp -implicitDefEqProofs [h61, hss]))
  all_goals (repeat' (with_reducible apply And.intro))
  all_goals first
    | exact AS.le_refl _
    | ((repeat (first | exact AS.le_refl _ | assumption | refine le_new (by simp [*]) ?_)); done)
    | (refine wk_eq ?_; simp_all [skipV]; done)
    | (refine wk_b ?_; rw [Bool.eq_iff_iff]; simp [*]; omega)
    | (refine wk_eq ?_; simp [*]; omega)
    | (refine wk_eq ?_; split <;> simp_all [skipV]; done)
    | (exfalso; omega)

theorem sints_ok (l m : List Int) (o1 o2 : Own) (n1 n2 : Bool) (hl : l.length ≤ 140737488355328) (hm : m.length ≤ 140737488355328) (σ : AS) :
    ACalls Try.prog 17 [.lst 3 (l.map i64v) o1 n1, .lst 3 (m.map i64v) o2 n2] σ (Gives (.sc (.bool (decide (l = m)))) σ) No := by
  refine ACalls.of_body Try.func17 rfl rfl (by simp [Try.ntmps17]) ?_
  by_cases hlen : l.length = m.length
  · have hlen' : (l.length : Int) = m.length := by omega
    repeat (first
      | (with_reducible first | apply AWp.seq | apply AWp.block | refine And.intro (by first | omega | assumption | decide) ?_)
      | ((first | (with_reducible first | apply AWp.fork | apply AWp.region | show condK _ _ _ | show guardK _ _ _ _ _ _ _ _ _) | ((with_reducible apply AWp.drawS (id := 6) (t := sc_17_6_XCodeB)); (exact mixed); kernel_rfl; kernel_rfl; (repeat (with_reducible first | apply PanQ.then | apply PanQ.block | apply PanQ.body | apply PanQ.no)))); simp -implicitDefEqProofs [hlen, hlen', ci_lt, ci_le])
      | ((with_reducible first | apply AWp.ret | apply AWp.skip | apply AWp.exit); try simp -implicitDefEqProofs [hlen, hlen', ci_lt, ci_le]))
    refine AWp.loopA (α := (Nat)) (0) (fun i => l.length - i) (fun i => i ≤ l.length ∧ decide (l = m) = decide (l.drop i = m.drop i)) [(0, ?_), (1, ?_)] (fun i => [(5, .sc (.int .i64 i))]) (fun i => σ) ?_ ?_ ?_ ?_
    rotate_left 2
    · (try dsimp only); (simp only [List.cons_append, List.nil_append]; repeat (first | exact FrWk.nil | refine FrWk.cons (by first | (simp -implicitDefEqProofs [ci_lt, ci_le]; done) | exact Wk.of (by (try simp -implicitDefEqProofs [ci_lt, ci_le]) <;> rfl)) ?_))
    · (try dsimp only); (first | exact AS.le_refl _ | assumption | (repeat (first | exact AS.le_refl _ | assumption | refine le_new (by simp [*]) ?_)))
    · exact ⟨by omega, rfl⟩
    intro i hx_
    try dsimp only at hx_ ⊢
    obtain ⟨hi, hD⟩ := hx_
    simp only [List.cons_append, List.nil_append]
    by_cases hlt : i < l.length
    · have wi_i : IntKind.i64.wrap ((i : Int) + 1) = ((i + 1 : Nat) : Int) := ci_wi (by omega)
      obtain ⟨r, hg, hd1, _, _⟩ := at_lt l hlt
      obtain ⟨q, hq, hd2, _, _⟩ := at_lt m (i := i) (by omega)
      obtain ⟨_, hg'⟩ := List.getElem?_eq_some_iff.1 hg
      obtain ⟨hlt2, hq'⟩ := List.getElem?_eq_some_iff.1 hq
      rw [hd1, hd2] at hD
      by_cases he : r = q
      · subst he
        repeat (first
          | (with_reducible first | apply AWp.seq | apply AWp.block | refine And.intro (by first | omega | assumption | decide) ?_)
          | ((first | (with_reducible first | apply AWp.fork | apply AWp.region | show condK _ _ _ | show guardK _ _ _ _ _ _ _ _ _) | ((with_reducible apply AWp.drawS (id := 6) (t := sc_17_6_XCodeB)); (exact mixed); kernel_rfl; kernel_rfl; (repeat (with_reducible first | apply PanQ.then | apply PanQ.block | apply PanQ.body | apply PanQ.no)))); simp -implicitDefEqProofs [hlt, hlt2, hg, hq, hg', hq', i64v_def, ci_lt, ci_le, wi_i])
          | ((with_reducible first | apply AWp.ret | apply AWp.skip | apply AWp.exit); try simp -implicitDefEqProofs [hlt, hlt2, hg, hq, hg', hq', i64v_def, ci_lt, ci_le, wi_i]))
        refine stepA.mk (i + 1) (by (try dsimp only); omega) (by (try dsimp only); (simp only [List.cons_append, List.nil_append]; repeat (first | exact FrWk.nil | refine FrWk.cons (by first | (simp -implicitDefEqProofs [ci_lt, ci_le, wi_i]; done) | exact Wk.of (by (try simp -implicitDefEqProofs [ci_lt, ci_le, wi_i]) <;> rfl)) ?_))) (by (try dsimp only); (first | exact AS.le_refl _ | assumption | (repeat (first | exact AS.le_refl _ | assumption | refine le_new (by simp [*]) ?_)))) ?_
        try dsimp only
        exact ⟨hlt, by simpa using hD⟩
      · repeat (first
          | (with_reducible first | apply AWp.seq | apply AWp.block | refine And.intro (by first | omega | assumption | decide) ?_)
          | ((first | (with_reducible first | apply AWp.fork | apply AWp.region | show condK _ _ _ | show guardK _ _ _ _ _ _ _ _ _) | ((with_reducible apply AWp.drawS (id := 6) (t := sc_17_6_XCodeB)); (exact mixed); kernel_rfl; kernel_rfl; (repeat (with_reducible first | apply PanQ.then | apply PanQ.block | apply PanQ.body | apply PanQ.no)))); simp -implicitDefEqProofs [hlt, hlt2, hg, hq, hg', hq', i64v_def, he, ci_lt, ci_le, wi_i])
          | ((with_reducible first | apply AWp.ret | apply AWp.skip | apply AWp.exit); try simp -implicitDefEqProofs [hlt, hlt2, hg, hq, hg', hq', i64v_def, he, ci_lt, ci_le, wi_i]))
        simp [hD, he]
    · have e1 : l.drop i = [] := List.drop_eq_nil_of_le (by omega)
      have e2 : m.drop i = [] := List.drop_eq_nil_of_le (by omega)
      rw [e1, e2] at hD
      repeat (first
        | (with_reducible first | apply AWp.seq | apply AWp.block | refine And.intro (by first | omega | assumption | decide) ?_)
        | ((first | (with_reducible first | apply AWp.fork | apply AWp.region | show condK _ _ _ | show guardK _ _ _ _ _ _ _ _ _) | ((with_reducible apply AWp.drawS (id := 6) (t := sc_17_6_XCodeB)); (exact mixed); kernel_rfl; kernel_rfl; (repeat (with_reducible first | apply PanQ.then | apply PanQ.block | apply PanQ.body | apply PanQ.no)))); simp -implicitDefEqProofs [hlt, show ¬ i < m.length by omega, ci_lt, ci_le])
        | ((with_reducible first | apply AWp.ret | apply AWp.skip | apply AWp.exit); try simp -implicitDefEqProofs [hlt, show ¬ i < m.length by omega, ci_lt, ci_le]))
      simp [hD]
  · have hlen' : ¬ (l.length : Int) = m.length := by omega
    repeat (first
      | (with_reducible first | apply AWp.seq | apply AWp.block | refine And.intro (by first | omega | assumption | decide) ?_)
      | ((first | (with_reducible first | apply AWp.fork | apply AWp.region | show condK _ _ _ | show guardK _ _ _ _ _ _ _ _ _) | ((with_reducible apply AWp.drawS (id := 6) (t := sc_17_6_XCodeB)); (exact mixed); kernel_rfl; kernel_rfl; (repeat (with_reducible first | apply PanQ.then | apply PanQ.block | apply PanQ.body | apply PanQ.no)))); simp -implicitDefEqProofs [hlen, hlen', ci_lt, ci_le])
      | ((with_reducible first | apply AWp.ret | apply AWp.skip | apply AWp.exit); try simp -implicitDefEqProofs [hlen, hlen', ci_lt, ci_le]))
    have : ¬ l = m := by intro e; exact hlen (by rw [e])
    simp [this]

theorem encodeS_len (l : List Ins) : (encodeS l).1.length ≤ 1440 := by
  unfold encodeS
  split
  · rename_i hp
    split
    · simp
    · have h1 := code_len (placesG l 0) l 0 0
      have h2 := List.mem_of_getLast? h1
      have h3 := places_le l 0 _ h2
      have := (places_all hp).1
      simp only
      omega
  · simp
theorem placesS_len (l : List Ins) : (placesS l).1.length ≤ 161 := by
  unfold placesS
  split
  · simp
  · split
    · rw [places_len]; omega
    · simp

theorem codeEncodes_ok (l : List Ins) (nl : Bool) (h64 : ∀ x ∈ l, Fit64 x) (hl : l.length ≤ 140737488355328) :
    ACalls Try.prog 3 [insL l .unk nl] noAS IsTrue No := by
  refine ACalls.of_body Try.func3 rfl rfl (by simp [Try.ntmps3]) ?_
  by_cases hL : 400 < l.length
  · have hL' : (400 < (l.length : Int)) = True := eq_true (by omega)
    simp only [insL]
    repeat (first
      | (with_reducible first | apply AWp.seq | apply AWp.block | refine And.intro (by first | omega | assumption | decide) ?_)
      | ((first | (with_reducible first | apply AWp.fork | apply AWp.region | show condK _ _ _ | show guardK _ _ _ _ _ _ _ _ _) | ((with_reducible apply aCall.id); first | apply aCall.gives (cwakes_ok _))); simp -implicitDefEqProofs [hL'])
      | ((with_reducible first | apply AWp.ret | apply AWp.skip | apply AWp.exit); try simp -implicitDefEqProofs [hL']))
  · have hL' : (400 < (l.length : Int)) = False := eq_false (by omega)
    have hp1 := fun o n σ => cplaces_ok l o n hl σ
    have hp2 := fun o n σ => rplaces_ok l o n h64 hl σ
    have he1 := fun o n σ => cencode_ok l o n hl σ
    have he2 := fun o n σ => rencode_ok l o n h64 hl σ
    have hs := fun o1 o2 n1 n2 σ => isame_ok l l o1 o2 n1 n2 hl hl σ
    have hpl := placesS_len l
    have hel := encodeS_len l
    have hsi := fun o1 o2 n1 n2 σ => sints_ok (placesS l).1 (placesS l).1 o1 o2 n1 n2 (by omega) (by omega) σ
    have hsb := fun o1 o2 n1 n2 σ => same_ok (encodeS l).1 (encodeS l).1 o1 o2 n1 n2 (by omega) σ
    simp only [insL, plV, enV] at hp1 hp2 he1 he2 ⊢
    generalize placesS l = pp at *
    generalize encodeS l = ee at *
    obtain ⟨p1, p2⟩ := pp
    obtain ⟨e1, e2⟩ := ee
    simp only at hp1 hp2 he1 he2 hsi hsb
    have hl1 : l.length ≤ 400 := by omega
    repeat (first
      | (with_reducible first | apply AWp.seq | apply AWp.block | refine And.intro (by first | omega | assumption | decide) ?_)
      | ((first | (with_reducible first | apply AWp.fork | apply AWp.region | show condK _ _ _ | show guardK _ _ _ _ _ _ _ _ _) | ((with_reducible apply aCall.id); first | apply aCall.gives (cwakes_ok _) | apply aCall.gives (hp1 _ _ _) | apply aCall.gives (hp2 _ _ _) | apply aCall.gives (he1 _ _ _) | apply aCall.gives (he2 _ _ _) | apply aCall.gives (hs _ _ _ _ _) | apply aCall.gives (hsi _ _ _ _ _) | apply aCall.gives (hsb _ _ _ _ _))); simp -implicitDefEqProofs [hL'])
      | ((with_reducible first | apply AWp.ret | apply AWp.skip | apply AWp.exit); try simp -implicitDefEqProofs [hL']))
    intro tk h_tk
    repeat (first
      | (with_reducible first | apply AWp.seq | apply AWp.block | refine And.intro (by first | omega | assumption | decide) ?_)
      | ((first | (with_reducible first | apply AWp.fork | apply AWp.region) | ((with_reducible apply aCall.id); first | apply aCall.gives (hp1 _ _ _) | apply aCall.gives (hp2 _ _ _) | apply aCall.gives (he1 _ _ _) | apply aCall.gives (he2 _ _ _) | apply aCall.gives (hs _ _ _ _ _) | apply aCall.gives (hsi _ _ _ _ _) | apply aCall.gives (hsb _ _ _ _ _))); simp -implicitDefEqProofs)
      | ((with_reducible first | apply AWp.ret | apply AWp.skip | apply AWp.exit); try simp -implicitDefEqProofs))

theorem codeBack_ok (l : List Ins) (nl : Bool) (h64 : ∀ x ∈ l, Fit64 x) (hl : l.length ≤ 140737488355328) :
    ACalls Try.prog 5 [insL l .unk nl] noAS IsTrue No := by
  refine ACalls.of_body Try.func5 rfl rfl (by simp [Try.ntmps5]) ?_
  by_cases hL : 400 < l.length
  · have hL' : (400 < (l.length : Int)) = True := eq_true (by omega)
    simp only [insL]
    repeat (first
      | (with_reducible first | apply AWp.seq | apply AWp.block | refine And.intro (by first | omega | assumption | decide) ?_)
      | ((first | (with_reducible first | apply AWp.fork | apply AWp.region | show condK _ _ _ | show guardK _ _ _ _ _ _ _ _ _) | ((with_reducible apply aCall.id); first | apply aCall.gives (cwakes_ok _))); simp -implicitDefEqProofs [hL'])
      | ((with_reducible first | apply AWp.ret | apply AWp.skip | apply AWp.exit); try simp -implicitDefEqProofs [hL']))
  · have hL' : (400 < (l.length : Int)) = False := eq_false (by omega)
    have hp2 := fun o n σ => rplaces_ok l o n h64 hl σ
    have he1 := fun o n σ => cencode_ok l o n hl σ
    have hl1 : l.length ≤ 400 := by omega
    by_cases he : (encodeS l).2 = 0
    · obtain ⟨q1, q2, q3⟩ := dec_enc he h64
      have hel := encodeS_len l
      have hde := fun o n hn σ => cdecode_ok (encodeS l).1 o n hn (by omega) σ
      rw [q1] at hde
      rw [q3] at hp2
      have hpl := places_len l 0
      have hs := fun o1 o2 n1 n2 σ => isame_ok l l o1 o2 n1 n2 hl hl σ
      have hlp := (places_all q2).1
      have hsi := fun o1 o2 n1 n2 σ => sints_ok (placesG l 0) (placesG l 0) o1 o2 n1 n2 (by omega) (by omega) σ
      simp only [insL, plV, enV, he] at hp2 he1 ⊢
      generalize encodeS l = ee at *
      obtain ⟨e1, e2⟩ := ee
      simp only at hde he1
      repeat (first
        | (with_reducible first | apply AWp.seq | apply AWp.block | refine And.intro (by first | omega | assumption | decide) ?_)
        | ((first | (with_reducible first | apply AWp.fork | apply AWp.region | show condK _ _ _ | show guardK _ _ _ _ _ _ _ _ _) | ((with_reducible apply aCall.id); first | apply aCall.gives (cwakes_ok _) | apply aCall.gives (hp2 _ _ _) | apply aCall.gives (he1 _ _ _))); simp -implicitDefEqProofs [hL'])
        | ((with_reducible first | apply AWp.ret | apply AWp.skip | apply AWp.exit); try simp -implicitDefEqProofs [hL']))
      intro tk h_tk
      repeat (first
        | (with_reducible first | apply AWp.seq | apply AWp.block | refine And.intro (by first | omega | assumption | decide) ?_)
        | ((first | (with_reducible first | apply AWp.fork | apply AWp.region) | ((with_reducible apply aCall.id); first | apply aCall.gives (hp2 _ _ _) | apply aCall.gives (he1 _ _ _))); simp -implicitDefEqProofs)
        | ((with_reducible first | apply AWp.ret | apply AWp.skip | apply AWp.exit); try simp -implicitDefEqProofs))
      refine aCall.of (hde _ _ (by simp) _) ?_ (fun _ _ h => h.elim)
      rintro r σ2 ⟨nl', hnl', rfl, rfl⟩
      simp -implicitDefEqProofs [insL]
      repeat (first
        | (with_reducible first | apply AWp.seq | apply AWp.block | refine And.intro (by first | omega | assumption | decide) ?_)
        | ((first | (with_reducible first | apply AWp.fork | apply AWp.region) | ((with_reducible apply aCall.id); first | apply aCall.gives (hp2 _ _ _) | apply aCall.gives (hs _ _ _ _ _) | apply aCall.gives (hsi _ _ _ _ _))); simp -implicitDefEqProofs)
        | ((with_reducible first | apply AWp.ret | apply AWp.skip | apply AWp.exit); try simp -implicitDefEqProofs))
    · have hel : (encodeS l).1 = [] := by
        unfold encodeS at he ⊢
        split
        · rename_i hp
          rw [if_pos hp] at he
          split
          · rfl
          · rename_i hf; rw [if_neg hf] at he; simp at he
        · rfl
      simp only [insL, enV, hel] at he1 ⊢
      generalize (encodeS l).2 = e2 at *
      repeat (first
        | (with_reducible first | apply AWp.seq | apply AWp.block | refine And.intro (by first | omega | assumption | decide) ?_)
        | ((first | (with_reducible first | apply AWp.fork | apply AWp.region | show condK _ _ _ | show guardK _ _ _ _ _ _ _ _ _) | ((with_reducible apply aCall.id); first | apply aCall.gives (cwakes_ok _) | apply aCall.gives (he1 _ _ _))); simp -implicitDefEqProofs [hL', he])
        | ((with_reducible first | apply AWp.ret | apply AWp.skip | apply AWp.exit); try simp -implicitDefEqProofs [hL', he]))
      intro tk h_tk
      repeat (first
        | (with_reducible first | apply AWp.seq | apply AWp.block | refine And.intro (by first | omega | assumption | decide) ?_)
        | ((first | (with_reducible first | apply AWp.fork | apply AWp.region | show condK _ _ _ | show guardK _ _ _ _ _ _ _ _ _) | ((with_reducible apply aCall.id); first | apply aCall.gives (he1 _ _ _))); simp -implicitDefEqProofs [he])
        | ((with_reducible first | apply AWp.ret | apply AWp.skip | apply AWp.exit); try simp -implicitDefEqProofs [he]))

theorem codeOne_ok (b : List UInt8) (nb : Bool) (hnb : nb = true → b = []) (hl : b.length ≤ 140737488355328) :
    ACalls Try.prog 6 [.lst 5 (b.map u8) .unk nb] noAS IsTrue No := by
  refine ACalls.of_body Try.func6 rfl rfl (by simp [Try.ntmps6]) ?_
  by_cases hL : 2000 < b.length
  · have hL' : (2000 < (b.length : Int)) = True := eq_true (by omega)
    repeat (first
      | (with_reducible first | apply AWp.seq | apply AWp.block | refine And.intro (by first | omega | assumption | decide) ?_)
      | ((first | (with_reducible first | apply AWp.fork | apply AWp.region | show condK _ _ _ | show guardK _ _ _ _ _ _ _ _ _) | ((with_reducible apply aCall.id); first | apply aCall.gives (cwakes_ok _))); simp -implicitDefEqProofs [hL'])
      | ((with_reducible first | apply AWp.ret | apply AWp.skip | apply AWp.exit); try simp -implicitDefEqProofs [hL']))
  · have hL' : (2000 < (b.length : Int)) = False := eq_false (by omega)
    have hde := fun σ => cdecode_ok b .unk nb hnb (by omega) σ
    by_cases h0 : (decS b).2.2 = 0
    · have q := enc_dec h0
      generalize decS b = D at *
      obtain ⟨⟨l, pl⟩, at', e⟩ := D
      simp only at h0 q
      subst h0
      have hll : l.length ≤ 160 := by
        have : (placesS l).2 = 0 := by
          unfold encodeS at q
          split at q
          · assumption
          · rename_i hne; exact absurd (congrArg Prod.snd q) hne
        exact (places_all this).1
      have he1 := fun o n σ => cencode_ok l o n (by omega) σ
      have hs := fun o o' n1 n2 σ => same_ok b b o o' n1 n2 hl σ
      rw [q] at he1
      simp only [insL, enV] at he1
      repeat (first
        | (with_reducible first | apply AWp.seq | apply AWp.block | refine And.intro (by first | omega | assumption | decide) ?_)
        | ((first | (with_reducible first | apply AWp.fork | apply AWp.region | show condK _ _ _ | show guardK _ _ _ _ _ _ _ _ _) | ((with_reducible apply aCall.id); first | apply aCall.gives (cwakes_ok _))); simp -implicitDefEqProofs [hL'])
        | ((with_reducible first | apply AWp.ret | apply AWp.skip | apply AWp.exit); try simp -implicitDefEqProofs [hL']))
      refine aCall.of (hde _) ?_ (fun _ _ h => h.elim)
      rintro r σ2 ⟨nl', hnl', rfl, rfl⟩
      simp -implicitDefEqProofs [insL]
      repeat (first
        | (with_reducible first | apply AWp.seq | apply AWp.block | refine And.intro (by first | omega | assumption | decide) ?_)
        | ((first | (with_reducible first | apply AWp.fork | apply AWp.region) | ((with_reducible apply aCall.id); first | apply aCall.gives (he1 _ _ _) | apply aCall.gives (hs _ _ _ _ _))); simp -implicitDefEqProofs)
        | ((with_reducible first | apply AWp.ret | apply AWp.skip | apply AWp.exit); try simp -implicitDefEqProofs))
    · have hnil : (decS b).1.1 = [] := by
        unfold decS at h0 ⊢
        split
        · rfl
        · rename_i r hr
          rw [hr] at h0
          simp only at h0
          split
          · rfl
          · rename_i l hl2; rw [hl2] at h0; simp at h0
      generalize decS b = D at *
      obtain ⟨⟨l, pl⟩, at', e⟩ := D
      simp only at h0 hnil
      subst hnil
      repeat (first
        | (with_reducible first | apply AWp.seq | apply AWp.block | refine And.intro (by first | omega | assumption | decide) ?_)
        | ((first | (with_reducible first | apply AWp.fork | apply AWp.region | show condK _ _ _ | show guardK _ _ _ _ _ _ _ _ _) | ((with_reducible apply aCall.id); first | apply aCall.gives (cwakes_ok _))); simp -implicitDefEqProofs [hL'])
        | ((with_reducible first | apply AWp.ret | apply AWp.skip | apply AWp.exit); try simp -implicitDefEqProofs [hL']))
      refine aCall.of (hde _) ?_ (fun _ _ h => h.elim)
      rintro r σ2 ⟨nl', hnl', rfl, rfl⟩
      simp -implicitDefEqProofs [insL]
      repeat (first
        | (with_reducible first | apply AWp.seq | apply AWp.block | refine And.intro (by first | omega | assumption | decide) ?_)
        | ((first | (with_reducible first | apply AWp.fork | apply AWp.region | show condK _ _ _ | show guardK _ _ _ _ _ _ _ _ _)); simp -implicitDefEqProofs [h0])
        | ((with_reducible first | apply AWp.ret | apply AWp.skip | apply AWp.exit); try simp -implicitDefEqProofs [h0]))

end Go.Proofs.Ytnkjbgcbchbonaa
