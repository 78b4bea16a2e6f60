/- Package code: width, raw, Places; the document's. -/
import Derived.Test.YtnkjbgcbchbonaaCode1
import Derived.Test.YtnkjbgcbchbonaaAwLoop
import Derived.Test.YtnkjbgcbchbonaaAwGrow
set_option linter.unusedSimpArgs false
set_option linter.unusedVariables false
set_option maxRecDepth 100000
set_option maxHeartbeats 3200000
namespace Go.Proofs.Ytnkjbgcbchbonaa
open Go Go.AW
abbrev sc_29_5_XCode2 : Sch := (Sch.step 0 (Sch.step 2 (Sch.step 4 (Sch.read 1 (Sch.read 3 (Sch.step 5 (Sch.step 6 (Sch.step 7 (Sch.read 8 (Sch.step 9 (Sch.step 10 (Sch.step 11 (Sch.step 12 (Sch.step 16 (Sch.read 13 (Sch.step 14 (Sch.step 15 (Sch.step 17 Sch.done))))))))))))))))))
abbrev sc_29_6_XCode2 : Sch := (Sch.step 0 (Sch.read 2 (Sch.pure 3 (Sch.step 4 (Sch.read 1 (Sch.step 5 (Sch.step 6 Sch.done)))))))

def Fit64 (x : Ins) : Prop := -9223372036854775808 ≤ x.arg ∧ x.arg < 9223372036854775808
theorem cwidth_ok (o : Int) (σ : AS) : ACalls Try.prog 30 [.sc (.int .i64 o)] σ (Gives (.sc (.int .i64 (wdO o))) σ) No := by
  refine ACalls.of_body Try.func30 rfl rfl (by simp [Try.ntmps30]) ?_
  by_cases h0 : o = 0 <;> by_cases h1 : o = 1 <;> by_cases h2 : o = 2 <;> by_cases h3 : o = 3 <;> by_cases h4 : o = 4
  all_goals first
    | (exfalso; omega)
    | skip
  all_goals
    repeat (first
      | (with_reducible first | apply AWp.seq | apply AWp.block | refine And.intro (by first | omega | assumption | decide) ?_)
      | ((first | (with_reducible first | apply AWp.fork | apply AWp.region | show condK _ _ _ | show guardK _ _ _ _ _ _ _ _ _)); simp -implicitDefEqProofs [h0, h1, h2, h3, h4])
      | ((with_reducible first | apply AWp.ret | apply AWp.skip | apply AWp.exit); try simp -implicitDefEqProofs [h0, h1, h2, h3, h4]))
    try simp [wdO, h0, h1, h2, h3, h4]

theorem fitsE_raw {x : Ins} (h : ¬ (x.op < 1 ∨ 75 < x.op)) (h8 : ¬ oO x.op = 8) : fitsE x = if rawB x then 0 else 17 := by
  unfold fitsE rawB
  rw [if_neg h, if_neg h, if_neg h8]
  rfl

theorem craw_ok (x : Ins) (σ : AS) : ACalls Try.prog 29 [insV x] σ (Gives (.tup [.sc (.int .i64 (oO x.op)), .sc (.bool (rawB x))]) σ) No := by
  have ho := fun σ => Of_ok x.op σ
  have hf := fun σ => kFits_ok x σ
  by_cases h : x.op < 1 ∨ 75 < x.op
  · have e0 := oO_out h
    have e1 : rawB x = false := by simp [rawB, h]
    have e2 : ofE x.op = 3 := by simp [ofE, h]
    rw [e0, e1]
    rw [e2] at ho
    obtain ⟨op, arg, k, ix, d, r⟩ := x
    simp only [insV, infV] at ho ⊢
    refine ACalls.of_body Try.func29 rfl rfl (by simp [Try.ntmps29]) ?_
    repeat (first
      | (with_reducible first | apply AWp.seq | apply AWp.block | refine And.intro (by first | omega | assumption | decide) ?_)
      | ((first | (with_reducible first | apply AWp.fork | apply AWp.region) | ((with_reducible apply AWp.drawS (id := 5) (t := sc_29_5_XCode2)); (exact mixed); kernel_rfl; kernel_rfl; (repeat (with_reducible first | apply PanQ.then | apply PanQ.block | apply PanQ.body | apply PanQ.no))) | ((with_reducible apply AWp.drawS (id := 6) (t := sc_29_6_XCode2)); (exact mixed); kernel_rfl; kernel_rfl; (repeat (with_reducible first | apply PanQ.then | apply PanQ.block | apply PanQ.body | apply PanQ.no)))); simp -implicitDefEqProofs)
      | ((with_reducible first | apply AWp.ret | apply AWp.skip | apply AWp.exit); try simp -implicitDefEqProofs))
    intro id h_id
    repeat (first
      | (with_reducible first | apply AWp.seq | apply AWp.block | refine And.intro (by first | omega | assumption | decide) ?_)
      | ((first | (with_reducible first | apply AWp.fork | apply AWp.region) | ((with_reducible apply AWp.drawS (id := 5) (t := sc_29_5_XCode2)); (exact mixed); kernel_rfl; kernel_rfl; (repeat (with_reducible first | apply PanQ.then | apply PanQ.block | apply PanQ.body | apply PanQ.no))) | ((with_reducible apply AWp.drawS (id := 6) (t := sc_29_6_XCode2)); (exact mixed); kernel_rfl; kernel_rfl; (repeat (with_reducible first | apply PanQ.then | apply PanQ.block | apply PanQ.body | apply PanQ.no))) | ((with_reducible apply aCall.id); first | apply aCall.gives (ho _)) | ((with_reducible apply pureCall.id); first | apply pureCall.gives (fun _ => ho _))); simp -implicitDefEqProofs)
      | ((with_reducible first | apply AWp.ret | apply AWp.skip | apply AWp.exit); try simp -implicitDefEqProofs))
    intro id2 n_id2_id h_id2
    have n_id_id2 : ¬ id = id2 := fun e => n_id2_id e.symm
    repeat (first
      | (with_reducible first | apply AWp.seq | apply AWp.block | refine And.intro (by first | omega | assumption | decide) ?_)
      | ((first | (with_reducible first | apply AWp.fork | apply AWp.region | show condK _ _ _ | show guardK _ _ _ _ _ _ _ _ _) | ((with_reducible apply AWp.drawS (id := 5) (t := sc_29_5_XCode2)); (exact mixed); kernel_rfl; kernel_rfl; (repeat (with_reducible first | apply PanQ.then | apply PanQ.block | apply PanQ.body | apply PanQ.no))) | ((with_reducible apply AWp.drawS (id := 6) (t := sc_29_6_XCode2)); (exact mixed); kernel_rfl; kernel_rfl; (repeat (with_reducible first | apply PanQ.then | apply PanQ.block | apply PanQ.body | apply PanQ.no))) | ((with_reducible apply aCall.id); first | apply aCall.gives (ho _)) | ((with_reducible apply pureCall.id); first | apply pureCall.gives (fun _ => ho _))); simp -implicitDefEqProofs [n_id2_id, n_id_id2])
      | ((with_reducible first | apply AWp.ret | apply AWp.skip | apply AWp.exit); try simp -implicitDefEqProofs [n_id2_id, n_id_id2]))
    all_goals (repeat' (with_reducible apply And.intro))
    all_goals first
      | exact AS.le_refl _
      | ((repeat (first | exact AS.le_refl _ | assumption | refine le_new (by simp [*]) ?_)); done)
      | (refine wk_eq ?_; simp_all [skipV]; done)
      | (refine wk_b ?_; rw [Bool.eq_iff_iff]; simp [*]; omega)
      | (refine wk_eq ?_; simp [*]; omega)
      | (refine wk_eq ?_; split <;> simp_all [skipV]; done)
      | (exfalso; omega)
  · have e2 : ofE x.op = 0 := by simp [ofE, h]
    rw [e2] at ho
    by_cases h8 : oO x.op = 8
    · have e1 : rawB x = (noT x.t && (decide (0 < x.arg) && decide (x.arg < 16384))) := by unfold rawB; rw [if_neg h, if_pos h8]
      rw [e1]
      have h8' : (ofT x.op).2.1 = 8 := h8
      rw [h8]
      obtain ⟨op, arg, k, ix, d, r⟩ := x
      have hq : eqAV Try.prog 8 40 (.agg [.sc (.int .i64 k), .sc (.int .i64 ix), .sc (.int .i64 d), .sc (.bool r)]) (.agg [.sc (.int .i64 0), .sc (.int .i64 0), .sc (.int .i64 0), .sc (.bool false)]) = some (noT ⟨k, ix, d, r⟩) := by simp [noT]
      simp only [insV, infV] at ho h8' hq ⊢
      rw [h8'] at ho
      generalize noT ⟨k, ix, d, r⟩ = nt at *
      refine ACalls.of_body Try.func29 rfl rfl (by simp [Try.ntmps29]) ?_
      repeat (first
        | (with_reducible first | apply AWp.seq | apply AWp.block | refine And.intro (by first | omega | assumption | decide) ?_)
        | ((first | (with_reducible first | apply AWp.fork | apply AWp.region) | ((with_reducible apply AWp.drawS (id := 5) (t := sc_29_5_XCode2)); (exact mixed); kernel_rfl; kernel_rfl; (repeat (with_reducible first | apply PanQ.then | apply PanQ.block | apply PanQ.body | apply PanQ.no))) | ((with_reducible apply AWp.drawS (id := 6) (t := sc_29_6_XCode2)); (exact mixed); kernel_rfl; kernel_rfl; (repeat (with_reducible first | apply PanQ.then | apply PanQ.block | apply PanQ.body | apply PanQ.no)))); simp -implicitDefEqProofs)
        | ((with_reducible first | apply AWp.ret | apply AWp.skip | apply AWp.exit); try simp -implicitDefEqProofs))
      intro id h_id
      repeat (first
        | (with_reducible first | apply AWp.seq | apply AWp.block | refine And.intro (by first | omega | assumption | decide) ?_)
        | ((first | (with_reducible first | apply AWp.fork | apply AWp.region) | ((with_reducible apply AWp.drawS (id := 5) (t := sc_29_5_XCode2)); (exact mixed); kernel_rfl; kernel_rfl; (repeat (with_reducible first | apply PanQ.then | apply PanQ.block | apply PanQ.body | apply PanQ.no))) | ((with_reducible apply AWp.drawS (id := 6) (t := sc_29_6_XCode2)); (exact mixed); kernel_rfl; kernel_rfl; (repeat (with_reducible first | apply PanQ.then | apply PanQ.block | apply PanQ.body | apply PanQ.no))) | ((with_reducible apply aCall.id); first | apply aCall.gives (ho _)) | ((with_reducible apply pureCall.id); first | apply pureCall.gives (fun _ => ho _))); simp -implicitDefEqProofs)
        | ((with_reducible first | apply AWp.ret | apply AWp.skip | apply AWp.exit); try simp -implicitDefEqProofs))
      intro id2 n_id2_id h_id2
      have n_id_id2 : ¬ id = id2 := fun e => n_id2_id e.symm
      repeat' (first
        | (with_reducible first | apply AWp.seq | apply AWp.block | refine And.intro (by first | omega | assumption | decide) ?_)
        | ((first | (with_reducible first | apply AWp.fork | apply AWp.region | show condK _ _ _ | show guardK _ _ _ _ _ _ _ _ _) | ((with_reducible apply AWp.drawS (id := 5) (t := sc_29_5_XCode2)); (exact mixed); kernel_rfl; kernel_rfl; (repeat (with_reducible first | apply PanQ.then | apply PanQ.block | apply PanQ.body | apply PanQ.no))) | ((with_reducible apply AWp.drawS (id := 6) (t := sc_29_6_XCode2)); (exact mixed); kernel_rfl; kernel_rfl; (repeat (with_reducible first | apply PanQ.then | apply PanQ.block | apply PanQ.body | apply PanQ.no))) | ((with_reducible apply aCall.id); first | apply aCall.gives (ho _)) | ((with_reducible apply pureCall.id); first | apply pureCall.gives (fun _ => ho _))); simp -implicitDefEqProofs [-eq_t, hq, n_id2_id, n_id_id2])
        | trivial
        | (with_reducible apply And.intro)
        | ((with_reducible first | apply AWp.ret | apply AWp.skip | apply AWp.exit); try simp -implicitDefEqProofs [-eq_t, hq, n_id2_id, n_id_id2])
        | ((with_reducible first | apply condK.split | apply guardK.split | apply pureG.split) <;> (intro hc; (try simp -implicitDefEqProofs only [hc]); (try simp at hc)) <;> try simp -implicitDefEqProofs [-eq_t, hq, n_id2_id, n_id_id2]))
      all_goals (repeat' (with_reducible apply And.intro))
      all_goals first
        | exact AS.le_refl _
        | ((repeat (first | exact AS.le_refl _ | assumption | refine le_new (by simp [*]) ?_)); done)
        | (refine wk_eq ?_; simp_all [skipV]; done)
        | (refine wk_b ?_; rw [Bool.eq_iff_iff]; simp [*]; omega)
        | (refine wk_eq ?_; simp [*]; omega)
        | (refine wk_eq ?_; split <;> simp_all [skipV]; done)
        | (exfalso; omega)
    · have e1 := fitsE_raw h h8
      rw [e1] at hf
      have h8' : ¬ (ofT x.op).2.1 = 8 := h8
      have e3 : oO x.op = (ofT x.op).2.1 := rfl
      rw [e3]
      generalize rawB x = rb at *
      generalize ofT x.op = it at *
      obtain ⟨op, arg, k, ix, d, r⟩ := x
      obtain ⟨i1, i2, i3⟩ := it
      simp only [insV, infV] at ho hf h8' ⊢
      cases rb
      all_goals
        simp at hf
        refine ACalls.of_body Try.func29 rfl rfl (by simp [Try.ntmps29]) ?_
        repeat (first
          | (with_reducible first | apply AWp.seq | apply AWp.block | refine And.intro (by first | omega | assumption | decide) ?_)
          | ((first | (with_reducible first | apply AWp.fork | apply AWp.region) | ((with_reducible apply AWp.drawS (id := 5) (t := sc_29_5_XCode2)); (exact mixed); kernel_rfl; kernel_rfl; (repeat (with_reducible first | apply PanQ.then | apply PanQ.block | apply PanQ.body | apply PanQ.no))) | ((with_reducible apply AWp.drawS (id := 6) (t := sc_29_6_XCode2)); (exact mixed); kernel_rfl; kernel_rfl; (repeat (with_reducible first | apply PanQ.then | apply PanQ.block | apply PanQ.body | apply PanQ.no)))); simp -implicitDefEqProofs)
          | ((with_reducible first | apply AWp.ret | apply AWp.skip | apply AWp.exit); try simp -implicitDefEqProofs))
        intro id h_id
        repeat (first
          | (with_reducible first | apply AWp.seq | apply AWp.block | refine And.intro (by first | omega | assumption | decide) ?_)
          | ((first | (with_reducible first | apply AWp.fork | apply AWp.region) | ((with_reducible apply AWp.drawS (id := 5) (t := sc_29_5_XCode2)); (exact mixed); kernel_rfl; kernel_rfl; (repeat (with_reducible first | apply PanQ.then | apply PanQ.block | apply PanQ.body | apply PanQ.no))) | ((with_reducible apply AWp.drawS (id := 6) (t := sc_29_6_XCode2)); (exact mixed); kernel_rfl; kernel_rfl; (repeat (with_reducible first | apply PanQ.then | apply PanQ.block | apply PanQ.body | apply PanQ.no))) | ((with_reducible apply aCall.id); first | apply aCall.gives (ho _)) | ((with_reducible apply pureCall.id); first | apply pureCall.gives (fun _ => ho _))); simp -implicitDefEqProofs)
          | ((with_reducible first | apply AWp.ret | apply AWp.skip | apply AWp.exit); try simp -implicitDefEqProofs))
        intro id2 n_id2_id h_id2
        have n_id_id2 : ¬ id = id2 := fun e => n_id2_id e.symm
        repeat (first
          | (with_reducible first | apply AWp.seq | apply AWp.block | refine And.intro (by first | omega | assumption | decide) ?_)
          | ((first | (with_reducible first | apply AWp.fork | apply AWp.region | show condK _ _ _ | show guardK _ _ _ _ _ _ _ _ _) | ((with_reducible apply AWp.drawS (id := 5) (t := sc_29_5_XCode2)); (exact mixed); kernel_rfl; kernel_rfl; (repeat (with_reducible first | apply PanQ.then | apply PanQ.block | apply PanQ.body | apply PanQ.no))) | ((with_reducible apply AWp.drawS (id := 6) (t := sc_29_6_XCode2)); (exact mixed); kernel_rfl; kernel_rfl; (repeat (with_reducible first | apply PanQ.then | apply PanQ.block | apply PanQ.body | apply PanQ.no))) | ((with_reducible apply aCall.id); first | apply aCall.gives (ho _) | apply aCall.gives (hf _)) | ((with_reducible apply pureCall.id); first | apply pureCall.gives (fun _ => ho _) | apply pureCall.gives (fun _ => hf _))); simp -implicitDefEqProofs [h8', n_id2_id, n_id_id2])
          | ((with_reducible first | apply AWp.ret | apply AWp.skip | apply AWp.exit); try simp -implicitDefEqProofs [h8', n_id2_id, n_id_id2]))
        all_goals (repeat' (with_reducible apply And.intro))
        all_goals first
          | exact AS.le_refl _
          | ((repeat (first | exact AS.le_refl _ | assumption | refine le_new (by simp [*]) ?_)); done)
          | (refine wk_eq ?_; simp_all [skipV]; done)
          | (refine wk_b ?_; rw [Bool.eq_iff_iff]; simp [*]; omega)
          | (refine wk_eq ?_; simp [*]; omega)
          | (refine wk_eq ?_; split <;> simp_all [skipV]; done)
          | (exfalso; omega)

/-- Instructions as a slice. -/
def insL (l : List Ins) (o : Own) (nl : Bool) : AV := .lst 42 (l.map insV) o nl
theorem placesS_err {l : List Ins} (h : (placesS l).2 ≠ 0) : (placesS l).1 = [] := by
  unfold placesS at h ⊢
  split
  · rfl
  · split
    · rename_i h1 h2; rw [if_neg h1, if_pos h2] at h; simp at h
    · rfl
/-- What Places hands back. -/
def plV (p : List Int × Int) : AV := .tup [.lst 3 (p.1.map i64v) .unk (decide (p.1 = [])), .sc (.int .i64 p.2)]

theorem cplaces_ok (l : List Ins) (o : Own) (nl : Bool) (hl : l.length ≤ 140737488355328) (σ : AS) :
    ACalls Try.prog 13 [insL l o nl] σ (Gives (plV (placesS l)) σ) No := by
  have hraw := fun x σ => craw_ok x σ
  simp only [insL, plV]
  by_cases hL : 160 < l.length
  · have e : placesS l = ([], 4) := by simp [placesS, hL]
    rw [e]
    refine ACalls.of_body Try.func13 rfl rfl (by simp [Try.ntmps13]) ?_
    have hL' : (160 < (l.length : Int)) = True := eq_true (by omega)
    repeat (first
      | (with_reducible first | apply AWp.seq | apply AWp.block | refine And.intro (by first | omega | assumption | decide) ?_)
      | ((first | (with_reducible first | apply AWp.fork | apply AWp.region | show condK _ _ _ | show guardK _ _ _ _ _ _ _ _ _)); simp -implicitDefEqProofs [hL'])
      | ((with_reducible first | apply AWp.ret | apply AWp.skip | apply AWp.exit); try simp -implicitDefEqProofs [hL']))
  · have hL' : (160 < (l.length : Int)) = False := eq_false (by omega)
    have e : placesS l = if l.all rawB then (placesG l 0, 0) else ([], 17) := by simp only [placesS]; rw [if_neg hL]
    refine ACalls.of_body Try.func13 rfl rfl (by simp [Try.ntmps13]) ?_
    repeat (first
      | (with_reducible first | apply AWp.seq | apply AWp.block | refine And.intro (by first | omega | assumption | decide) ?_)
      | ((first | (with_reducible first | apply AWp.fork | apply AWp.region | show condK _ _ _ | show guardK _ _ _ _ _ _ _ _ _)); simp -implicitDefEqProofs [hL', ci_lt, ci_le])
      | ((with_reducible first | apply AWp.ret | apply AWp.skip | apply AWp.exit); try simp -implicitDefEqProofs [hL', ci_lt, ci_le]))
    refine AWp.mint 4 3 [i64v 0] false (by simp [Try.ntmps13]) (.inl (by simp [i64v_def])) ?_
    simp -implicitDefEqProofs [ci_lt, ci_le]
    intro tk h_tk
    repeat (first
      | (with_reducible first | apply AWp.seq | apply AWp.block | refine And.intro (by first | omega | assumption | decide) ?_)
      | ((first | (with_reducible first | apply AWp.fork | apply AWp.region | show condK _ _ _ | show guardK _ _ _ _ _ _ _ _ _)); simp -implicitDefEqProofs [ci_lt, ci_le])
      | ((with_reducible first | apply AWp.ret | apply AWp.skip | apply AWp.exit); try simp -implicitDefEqProofs [ci_lt, ci_le]))
    refine AWp.loopA (α := (Nat) × (List Int) × (Int)) ((0, [], 0)) (fun ⟨i, ds, a⟩ => l.length - i) (fun ⟨i, ds, a⟩ => i ≤ l.length ∧ ds.length = i ∧ l.all rawB = (l.drop i).all rawB ∧ ds ++ placesG (l.drop i) a = placesG l 0 ∧ 0 ≤ a ∧ a ≤ 9 * i) [(14, ?_), (15, ?_)] (fun ⟨i, ds, a⟩ => [(16, .sc (.int .i64 i)), (4, .lst 3 (ds.map i64v ++ [.sc (.int .i64 a)]) (.tok tk) false), (5, .sc (.int .i64 a))]) (fun ⟨i, ds, a⟩ => σ.set tk (.tok (ds.length + 1))) ?_ ?_ ?_ ?_
    rotate_left 2
    · (try dsimp only); (simp only [List.cons_append, List.nil_append]; repeat (first | exact FrWk.nil | refine FrWk.cons (by first | (simp -implicitDefEqProofs [ci_lt, ci_le]; done) | exact Wk.of (by (try simp -implicitDefEqProofs [ci_lt, ci_le]) <;> rfl)) ?_))
    · (try dsimp only); (first | exact AS.le_refl _ | assumption | (repeat (first | exact AS.le_refl _ | assumption | refine le_new (by simp [*]) ?_)))
    · exact ⟨by omega, rfl, rfl, rfl, by omega, by omega⟩
    intro x_ hx_
    obtain ⟨i, ds, a⟩ := x_
    try dsimp only at hx_ ⊢
    obtain ⟨hi, hd, hA, hX, ha0, ha9⟩ := hx_
    simp only [List.cons_append, List.nil_append]
    by_cases hlt : i < l.length
    · have wi_i : IntKind.i64.wrap ((i : Int) + 1) = ((i + 1 : Nat) : Int) := ci_wi (by omega)
      rw [List.drop_eq_getElem_cons hlt] at hA hX
      have hr' := hraw l[i]
      have hwd := wd_range (oO l[i].op)
      have hwr := fun σ => cwidth_ok (oO l[i].op) σ
      generalize hx : l[i] = x at *
      simp only [List.all_cons, placesG] at hA hX
      generalize hxo : oO x.op = xo at *
      obtain ⟨op, arg, k, ix, d, r⟩ := x
      cases hb : rawB ⟨op, arg, k, ix, d, r⟩
      · rw [hb] at hA hr'
        simp only [Bool.false_and] at hA
        rw [e, hA]
        simp only [insV] at hr'
        repeat (first
          | (with_reducible first | apply AWp.seq | apply AWp.block | refine And.intro (by first | omega | assumption | decide) ?_)
          | ((first | (with_reducible first | apply AWp.fork | apply AWp.region | show condK _ _ _ | show guardK _ _ _ _ _ _ _ _ _)); simp -implicitDefEqProofs [hlt, hx, insV, ci_lt, ci_le, wi_i])
          | ((with_reducible first | apply AWp.ret | apply AWp.skip | apply AWp.exit); try simp -implicitDefEqProofs [hlt, hx, insV, ci_lt, ci_le, wi_i]))
        intro id n_id_tk h_id
        have n_tk_id : ¬ tk = id := fun e => n_id_tk e.symm
        repeat (first
          | (with_reducible first | apply AWp.seq | apply AWp.block | refine And.intro (by first | omega | assumption | decide) ?_)
          | ((first | (with_reducible first | apply AWp.fork | apply AWp.region | show condK _ _ _ | show guardK _ _ _ _ _ _ _ _ _) | ((with_reducible apply aCall.id); first | apply aCall.gives (hr' _))); simp -implicitDefEqProofs [n_id_tk, n_tk_id, ci_lt, ci_le, wi_i])
          | ((with_reducible first | apply AWp.ret | apply AWp.skip | apply AWp.exit); try simp -implicitDefEqProofs [n_id_tk, n_tk_id, ci_lt, ci_le, wi_i]))
        all_goals (repeat' (with_reducible apply And.intro))
        all_goals first
          | exact AS.le_refl _
          | ((repeat (first | exact AS.le_refl _ | assumption | refine le_new (by simp [*]) ?_)); done)
          | (refine wk_eq ?_; simp_all [skipV]; done)
          | (refine wk_b ?_; rw [Bool.eq_iff_iff]; simp [*]; omega)
          | (refine wk_eq ?_; simp [*]; omega)
          | (refine wk_eq ?_; split <;> simp_all [skipV]; done)
          | (exfalso; omega)
      · rw [hb] at hA hr'
        simp only [Bool.true_and] at hA
        have w1 : IntKind.i64.wrap (1 + wdO xo) = 1 + wdO xo := in_i64 (by omega) (by omega)
        have w2 : IntKind.i64.wrap (a + (1 + wdO xo)) = a + (1 + wdO xo) := in_i64 (by omega) (by omega)
        simp only [insV] at hr'
        have hd1 : ds.length ≤ 160 := by omega
        repeat (first
          | (with_reducible first | apply AWp.seq | apply AWp.block | refine And.intro (by first | omega | assumption | decide) ?_)
          | ((first | (with_reducible first | apply AWp.fork | apply AWp.region | show condK _ _ _ | show guardK _ _ _ _ _ _ _ _ _)); simp -implicitDefEqProofs [hlt, hx, insV, ci_lt, ci_le, wi_i])
          | ((with_reducible first | apply AWp.ret | apply AWp.skip | apply AWp.exit); try simp -implicitDefEqProofs [hlt, hx, insV, ci_lt, ci_le, wi_i]))
        intro id n_id_tk h_id
        have n_tk_id : ¬ tk = id := fun e => n_id_tk e.symm
        repeat (first
          | (with_reducible first | apply AWp.seq | apply AWp.block | refine And.intro (by first | omega | assumption | decide) ?_)
          | ((first | (with_reducible first | apply AWp.fork | apply AWp.region | show condK _ _ _ | show guardK _ _ _ _ _ _ _ _ _) | ((with_reducible apply aCall.id); first | apply aCall.gives (hr' _) | apply aCall.gives (hwr _))); simp -implicitDefEqProofs [n_id_tk, n_tk_id, w1, w2, hd1, ci_lt, ci_le, wi_i])
          | ((with_reducible first | apply AWp.ret | apply AWp.skip | apply AWp.exit); try simp -implicitDefEqProofs [n_id_tk, n_tk_id, w1, w2, hd1, ci_lt, ci_le, wi_i]))
        refine stepA.mk ((i + 1, ds ++ [a], a + (1 + wdO xo))) (by (try dsimp only); omega) (by (try dsimp only); (simp only [List.cons_append, List.nil_append]; repeat (first | exact FrWk.nil | refine FrWk.cons (by first | (simp -implicitDefEqProofs [i64v_def, ci_lt, ci_le, wi_i]; done) | exact Wk.of (by (try simp -implicitDefEqProofs [i64v_def, ci_lt, ci_le, wi_i]) <;> rfl)) ?_))) (by (try dsimp only); (simp [n_id_tk]; exact le_new (by simp [n_id_tk, h_id]) (AS.le_refl _))) ?_
        try dsimp only
        exact ⟨by omega, by simp [hd], hA, by rw [← hX]; simp [Int.add_assoc], by omega, by omega⟩
    · rw [List.drop_eq_nil_of_le (by omega)] at hX hA
      rw [e, hA]
      simp only [placesG] at hX
      repeat (first
        | (with_reducible first | apply AWp.seq | apply AWp.block | refine And.intro (by first | omega | assumption | decide) ?_)
        | ((first | (with_reducible first | apply AWp.fork | apply AWp.region | show condK _ _ _ | show guardK _ _ _ _ _ _ _ _ _)); simp -implicitDefEqProofs [hlt, ← hX, i64v_def, ci_lt, ci_le])
        | ((with_reducible first | apply AWp.ret | apply AWp.skip | apply AWp.exit); try simp -implicitDefEqProofs [hlt, ← hX, i64v_def, ci_lt, ci_le]))
      all_goals (repeat' (with_reducible apply And.intro))
      all_goals first
        | exact AS.le_refl _
        | ((repeat (first | exact AS.le_refl _ | assumption | refine le_new (by simp [*]) ?_)); done)
        | (refine wk_eq ?_; simp_all [skipV]; done)
        | (refine wk_b ?_; rw [Bool.eq_iff_iff]; simp [*]; omega)
        | (refine wk_eq ?_; simp [*]; omega)
        | (refine wk_eq ?_; split <;> simp_all [skipV]; done)
        | (exfalso; omega)

end Go.Proofs.Ytnkjbgcbchbonaa
