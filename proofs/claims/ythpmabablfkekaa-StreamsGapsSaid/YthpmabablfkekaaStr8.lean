/- Chapter 03: wakes; StreamsSplits, StreamsJoins, StreamsBack as walks. -/
import Derived.Test.YthpmabablfkekaaStr4
import Derived.Test.YthpmabablfkekaaStr5
import Derived.Test.YthpmabablfkekaaStr7
set_option linter.unusedSimpArgs false
set_option linter.unusedVariables false
set_option maxRecDepth 100000
set_option maxHeartbeats 3200000
namespace Go.Proofs.Ythpmabablfkekaa
open Go Go.AW

theorem splitL_four {b : List UInt8} : ∀ {m a : Nat} {M : List (Int × Int × Int)} {o : Strs}, o.length = 4 → (splitL b m a M o).1.length = 4 := by
  intro m
  induction m with
  | zero => intro a M o h; simpa [splitL] using h
  | succ m ih =>
    intro a M o h
    rw [splitL]
    split
    · exact ih (by simpa using h)
    · rfl
theorem splitS_four (b : List UInt8) : ∃ o0 o1 o2 o3 a e, splitS b = ([o0, o1, o2, o3], a, e) := by
  have h : (splitS b).1.length = 4 := by
    unfold splitS
    repeat' split
    all_goals first | rfl | exact splitL_four rfl
  generalize splitS b = x at h ⊢
  obtain ⟨o, a, e⟩ := x
  match o, h with
  | [o0, o1, o2, o3], _ => exact ⟨o0, o1, o2, o3, a, e, rfl⟩
theorem seg_le (b : List UInt8) (x y : Int) : (seg b x y).length ≤ b.length := by simp [seg]; omega
theorem splitL_le {b : List UInt8} : ∀ {m a : Nat} {M : List (Int × Int × Int)} {o : Strs}, (∀ x ∈ o, x.1.length ≤ b.length) → ∀ x ∈ (splitL b m a M o).1, x.1.length ≤ b.length := by
  intro m
  induction m with
  | zero => intro a M o h; simpa [splitL] using h
  | succ m ih =>
    intro a M o h
    rw [splitL]
    split
    · refine ih (fun x hx => ?_)
      rcases List.mem_or_eq_of_mem_set hx with hx | rfl
      · exact h x hx
      · exact seg_le _ _ _
    · intro x hx
      simp [E4] at hx
      subst hx; simp
theorem splitS_le (b : List UInt8) : ∀ x ∈ (splitS b).1, x.1.length ≤ b.length := by
  have hE : ∀ x ∈ E4, x.1.length ≤ b.length := by
    intro x hx
    simp [E4] at hx
    subst hx; simp
  unfold splitS
  repeat' split
  all_goals first | exact hE | exact splitL_le hE

def Z2 : List UInt8 × Bool := ([], true)
theorem wk_Z {P : Program} : AV.Wk P (.agg [.nilS, .nilS, .nilS, .nilS]) (stO Z2 Z2 Z2 Z2 .unk .unk .unk .unk) := by
  refine Wk_agg4 ?_ ?_ ?_ ?_ <;> simp [sO, Z2]
def J0 : List UInt8 := joinL (fun k => (nth4 Z2 Z2 Z2 Z2 k).1)
theorem nth_Z (j : Nat) : (nth4 Z2 Z2 Z2 Z2 j).1 = [] := by unfold nth4; split <;> rfl
theorem J0_len : J0.length = 56 := by decide +kernel
theorem J0_split : splitS J0 = ([([], false), ([], false), ([], false), ([], false)], 0, 0) := by decide +kernel

theorem swakes_ok (σ : AS) : ACalls Try.prog 9 [] σ (Gives (.sc (.bool true)) σ) No := by
  have hj : ∀ σ, ACalls Try.prog 16 [.agg [.nilS, .nilS, .nilS, .nilS]] σ (Owns (fun tk => .tup [.lst 5 (J0.map u8) (.tok tk) false, .sc (.int .i64 0)]) J0.length σ) No := fun σ => by
    refine (join_ok Z2 Z2 Z2 Z2 .unk .unk .unk .unk (fun j => by rw [nth_Z]; simp) σ).wk _ rfl (fun i hi => ?_)
    match i, hi with
    | 0, _ => exact wk_Z
  have hs := fun tk σ => split_ok J0 (.tok tk) false (by simp) σ (by rw [J0_len]; omega)
  rw [J0_split] at hs
  have hm : ∀ σ, ACalls Try.prog 12 [stO ([], false) ([], false) ([], false) ([], false) .unk .unk .unk .unk, .agg [.nilS, .nilS, .nilS, .nilS]] σ (Gives (.sc (.bool true)) σ) No := fun σ => by
    refine (ssame_ok ([], false) ([], false) ([], false) ([], false) Z2 Z2 Z2 Z2 .unk .unk .unk .unk .unk .unk .unk .unk (fun j => by unfold nth4; split <;> simp) σ).wk _ rfl (fun i hi => ?_)
    match i, hi with
    | 0, _ => exact Wk.refl _
    | 1, _ => exact wk_Z
  have hl := J0_len
  generalize J0 = J at *
  simp only [RS, strV, List.map_cons, List.map_nil, sV, stO, sO] at hs hm
  refine ACalls.of_body Try.func9 rfl rfl (by simp [Try.ntmps9]) ?_
  repeat (first
    | (with_reducible first | apply AWp.seq | apply AWp.block | refine And.intro (by first | omega | assumption | decide) ?_)
    | ((first | (with_reducible first | apply AWp.fork | apply AWp.region)); simp -implicitDefEqProofs)
    | ((with_reducible first | apply AWp.ret | apply AWp.skip | apply AWp.exit); try simp -implicitDefEqProofs))
  refine aCall.owns (hj _) (fun tk htk => ?_)
  simp -implicitDefEqProofs
  repeat (first
    | (with_reducible first | apply AWp.seq | apply AWp.block | refine And.intro (by first | omega | assumption | decide) ?_)
    | ((first | (with_reducible first | apply AWp.fork | apply AWp.region) | ((with_reducible apply aCall.id); first | apply aCall.gives (hs _ _))); simp -implicitDefEqProofs)
    | ((with_reducible first | apply AWp.ret | apply AWp.skip | apply AWp.exit); try simp -implicitDefEqProofs))
  intro id3 n_id3_tk h_id3
  have n_tk_id3 : ¬ tk = id3 := fun e => n_id3_tk e.symm
  repeat (first
    | (with_reducible first | apply AWp.seq | apply AWp.block | refine And.intro (by first | omega | assumption | decide) ?_)
    | ((first | (with_reducible first | apply AWp.fork | apply AWp.region | show condK _ _ _ | show guardK _ _ _ _ _ _ _ _ _) | ((with_reducible apply aCall.id); first | apply aCall.gives (hm _))); simp -implicitDefEqProofs [hl, n_id3_tk, n_tk_id3])
    | ((with_reducible first | apply AWp.ret | apply AWp.skip | apply AWp.exit); try simp -implicitDefEqProofs [hl, n_id3_tk, n_tk_id3]))
  intro j_ y_ hy_
  by_cases e_id3 : j_ = id3
  · subst e_id3; simp [AS.set, h_id3, htk, n_id3_tk, n_tk_id3] at hy_ ⊢; try first | exact hy_ | (cases hy_; done)
  by_cases e_tk : j_ = tk
  · subst e_tk; simp [AS.set, h_id3, htk, n_id3_tk, n_tk_id3] at hy_ ⊢; try first | exact hy_ | (cases hy_; done)
  simp [AS.set, h_id3, htk, n_id3_tk, n_tk_id3, e_id3, e_tk] at hy_ ⊢; try exact hy_

theorem streamsSplits_ok (b : List UInt8) (own : Own) (nl : Bool) (hn : nl = true → b = []) (hlen : b.length ≤ 140737488355328) :
    ACalls Try.prog 3 [.lst 5 (b.map u8) own nl] noAS IsTrue No := by
  have hw := fun σ => swakes_ok σ
  by_cases h4 : 4000 < b.length
  · have h4' : (4000 < (b.length : Int)) = True := by simp; omega
    refine ACalls.of_body Try.func3 rfl rfl (by simp [Try.ntmps3]) ?_
    repeat (first
      | (with_reducible first | apply AWp.seq | apply AWp.block | refine And.intro (by first | omega | assumption | decide) ?_)
      | ((first | (with_reducible first | apply AWp.fork | apply AWp.region | show condK _ _ _ | show guardK _ _ _ _ _ _ _ _ _) | ((with_reducible apply aCall.id); first | apply aCall.gives (hw _))); simp -implicitDefEqProofs [h4'])
      | ((with_reducible first | apply AWp.ret | apply AWp.skip | apply AWp.exit); try simp -implicitDefEqProofs [h4']))
  have h4' : (4000 < (b.length : Int)) = False := by simp; omega
  have hs := fun tk σ => split_ok b (.tok tk) false (by simp) σ hlen
  have hr := fun σ => rsplit_any b own nl hn σ hlen
  have hsm := fun tk σ => same_ok b b (.tok tk) own false nl hlen σ
  simp only [decide_true] at hsm
  have hle := splitS_le b
  obtain ⟨o0, o1, o2, o3, a, e, hS⟩ := splitS_four b
  rw [hS] at hs hr hle
  have hss := fun σ => ssame_ok o0 o1 o2 o3 (nz o0) (nz o1) (nz o2) (nz o3) .unk .unk .unk .unk .unk .unk .unk .unk (fun j => by
    have : (nth4 o0 o1 o2 o3 j).1.length ≤ b.length := hle _ (by unfold nth4; split <;> simp)
    omega) σ
  rw [show eqS o0 o1 o2 o3 (nz o0) (nz o1) (nz o2) (nz o3) = true by simp [eqS, nz]] at hss
  simp only [RS, PV, strV, List.map_cons, List.map_nil, sV, stO, sO, List.cons_append, List.nil_append] at hs hr hss
  clear hle hS
  refine ACalls.of_body Try.func3 rfl rfl (by simp [Try.ntmps3]) ?_
  repeat (first
    | (with_reducible first | apply AWp.seq | apply AWp.block | refine And.intro (by first | omega | assumption | decide) ?_)
    | ((first | (with_reducible first | apply AWp.fork | apply AWp.region | show condK _ _ _ | show guardK _ _ _ _ _ _ _ _ _) | ((with_reducible apply aCall.id); first | apply aCall.gives (hw _))); simp -implicitDefEqProofs [h4'])
    | ((with_reducible first | apply AWp.ret | apply AWp.skip | apply AWp.exit); try simp -implicitDefEqProofs [h4']))
  intro tk htk
  repeat (first
    | (with_reducible first | apply AWp.seq | apply AWp.block | refine And.intro (by first | omega | assumption | decide) ?_)
    | ((first | (with_reducible first | apply AWp.fork | apply AWp.region) | ((with_reducible apply aCall.id); first | apply aCall.gives (hs _ _) | apply aCall.gives (hr _))); simp -implicitDefEqProofs)
    | ((with_reducible first | apply AWp.ret | apply AWp.skip | apply AWp.exit); try simp -implicitDefEqProofs))
  intro id4 n_id4_tk h_id4
  have n_tk_id4 : ¬ tk = id4 := fun e => n_id4_tk e.symm
  repeat (first
    | (with_reducible first | apply AWp.seq | apply AWp.block | refine And.intro (by first | omega | assumption | decide) ?_)
    | ((first | (with_reducible first | apply AWp.fork | apply AWp.region | show condK _ _ _ | show guardK _ _ _ _ _ _ _ _ _) | ((with_reducible apply aCall.id); first | apply aCall.gives (hr _))); simp -implicitDefEqProofs [n_id4_tk, n_tk_id4])
    | ((with_reducible first | apply AWp.ret | apply AWp.skip | apply AWp.exit); try simp -implicitDefEqProofs [n_id4_tk, n_tk_id4]))
  intro id7 n_id7_id4 n_id7_tk h_id7
  have n_id4_id7 : ¬ id4 = id7 := fun e => n_id7_id4 e.symm
  have n_tk_id7 : ¬ tk = id7 := fun e => n_id7_tk e.symm
  repeat (first
    | (with_reducible first | apply AWp.seq | apply AWp.block | refine And.intro (by first | omega | assumption | decide) ?_)
    | ((first | (with_reducible first | apply AWp.fork | apply AWp.region | show condK _ _ _ | show guardK _ _ _ _ _ _ _ _ _) | ((with_reducible apply aCall.id); first | apply aCall.gives (hss _) | apply aCall.gives (hsm _ _))); simp -implicitDefEqProofs [n_id4_tk, n_tk_id4, n_id7_id4, n_id4_id7, n_id7_tk, n_tk_id7])
    | ((with_reducible first | apply AWp.ret | apply AWp.skip | apply AWp.exit); try simp -implicitDefEqProofs [n_id4_tk, n_tk_id4, n_id7_id4, n_id4_id7, n_id7_tk, n_tk_id7]))

theorem longS_no {a0 a1 a2 a3 : List UInt8 × Bool} (h : longS a0 a1 a2 a3 = false) : a0.1.length ≤ 2000 ∧ a1.1.length ≤ 2000 ∧ a2.1.length ≤ 2000 ∧ a3.1.length ≤ 2000 := by
  simp only [longS, Bool.or_eq_false_iff, decide_eq_false_iff_not] at h
  omega

theorem streamsJoins_ok (a0 a1 a2 a3 : List UInt8 × Bool) :
    ACalls Try.prog 4 [stO a0 a1 a2 a3 .unk .unk .unk .unk] noAS IsTrue No := by
  have hw := fun σ => swakes_ok σ
  have hlg := fun σ => slong_ok a0 a1 a2 a3 .unk .unk .unk .unk σ
  cases hL : longS a0 a1 a2 a3 with
  | true =>
    rw [hL] at hlg
    simp only [stO, sO] at hlg ⊢
    refine ACalls.of_body Try.func4 rfl rfl (by simp [Try.ntmps4]) ?_
    repeat (first
      | (with_reducible first | apply AWp.seq | apply AWp.block | refine And.intro (by first | omega | assumption | decide) ?_)
      | ((first | (with_reducible first | apply AWp.fork | apply AWp.region)); simp -implicitDefEqProofs)
      | ((with_reducible first | apply AWp.ret | apply AWp.skip | apply AWp.exit); try simp -implicitDefEqProofs))
    intro id1 h_id1
    repeat (first
      | (with_reducible first | apply AWp.seq | apply AWp.block | refine And.intro (by first | omega | assumption | decide) ?_)
      | ((first | (with_reducible first | apply AWp.fork | apply AWp.region) | ((with_reducible apply aCall.id); first | apply aCall.gives (hw _) | apply aCall.gives (hlg _))); simp -implicitDefEqProofs)
      | ((with_reducible first | apply AWp.ret | apply AWp.skip | apply AWp.exit); try simp -implicitDefEqProofs))
  | false =>
    rw [hL] at hlg
    obtain ⟨l0, l1, l2, l3⟩ := longS_no hL
    have hcp := fun σ => scopied_ok a0 a1 a2 a3 .unk .unk .unk .unk l0 l1 l2 l3 σ
    have hl1 : ∀ j, (nth4 (a0.1, false) (a1.1, false) (a2.1, false) (a3.1, false) j).1.length ≤ 4000 := fun j => by unfold nth4; split <;> simp only <;> omega
    have hl2 : ∀ j, (nth4 a0 a1 a2 a3 j).1.length ≤ 4000 := fun j => by unfold nth4; split <;> omega
    have hj := fun σ => join_ok (a0.1, false) (a1.1, false) (a2.1, false) (a3.1, false) .unk .unk .unk .unk hl1 σ
    have hr := fun σ => rjoin_ok a0 a1 a2 a3 .unk .unk .unk .unk hl2 σ
    have hfe : (fun k => (nth4 (a0.1, false) (a1.1, false) (a2.1, false) (a3.1, false) k).1) = (fun k => (nth4 a0 a1 a2 a3 k).1) := by
      funext k; unfold nth4; split <;> rfl
    rw [hfe] at hj
    generalize hJ : joinL (fun k => (nth4 a0 a1 a2 a3 k).1) = J at hj hr
    have hJl : J.length ≤ 140737488355328 := by
      rw [← hJ, joinL, List.length_append, hdP_len]
      have := bdP_len (s := fun k => (nth4 a0 a1 a2 a3 k).1) (k := 4) (N := 4000) (fun j _ => hl2 j)
      omega
    have hsm := fun t1 t2 σ => same_ok J J (.tok t1) (.tok t2) false false hJl σ
    simp only [decide_true] at hsm
    have hss := fun σ => ssame_ok (a0.1, false) (a1.1, false) (a2.1, false) (a3.1, false) a0 a1 a2 a3 .unk .unk .unk .unk .unk .unk .unk .unk (fun j => by have := hl1 j; omega) σ
    rw [show eqS (a0.1, false) (a1.1, false) (a2.1, false) (a3.1, false) a0 a1 a2 a3 = true by simp [eqS]] at hss
    simp only [stO, sO, strV, List.map_cons, List.map_nil, sV] at hlg hcp hj hr hss ⊢
    refine ACalls.of_body Try.func4 rfl rfl (by simp [Try.ntmps4]) ?_
    repeat (first
      | (with_reducible first | apply AWp.seq | apply AWp.block | refine And.intro (by first | omega | assumption | decide) ?_)
      | ((first | (with_reducible first | apply AWp.fork | apply AWp.region)); simp -implicitDefEqProofs)
      | ((with_reducible first | apply AWp.ret | apply AWp.skip | apply AWp.exit); try simp -implicitDefEqProofs))
    intro id1 h_id1
    repeat (first
      | (with_reducible first | apply AWp.seq | apply AWp.block | refine And.intro (by first | omega | assumption | decide) ?_)
      | ((first | (with_reducible first | apply AWp.fork | apply AWp.region) | ((with_reducible apply aCall.id); first | apply aCall.gives (hw _) | apply aCall.gives (hlg _) | apply aCall.gives (hcp _))); simp -implicitDefEqProofs)
      | ((with_reducible first | apply AWp.ret | apply AWp.skip | apply AWp.exit); try simp -implicitDefEqProofs))
    intro id3 n_id3_id1 h_id3
    have n_id1_id3 : ¬ id1 = id3 := fun e => n_id3_id1 e.symm
    repeat (first
      | (with_reducible first | apply AWp.seq | apply AWp.block | refine And.intro (by first | omega | assumption | decide) ?_)
      | ((first | (with_reducible first | apply AWp.fork | apply AWp.region | show condK _ _ _ | show guardK _ _ _ _ _ _ _ _ _) | ((with_reducible apply aCall.id); first | apply aCall.owns (hj _))); simp -implicitDefEqProofs [n_id3_id1, n_id1_id3])
      | ((with_reducible first | apply AWp.ret | apply AWp.skip | apply AWp.exit); try simp -implicitDefEqProofs [n_id3_id1, n_id1_id3]))
    intro t1 n_t1_id3 n_t1_id1 h_t1
    have n_id3_t1 : ¬ id3 = t1 := fun e => n_t1_id3 e.symm
    have n_id1_t1 : ¬ id1 = t1 := fun e => n_t1_id1 e.symm
    repeat (first
      | (with_reducible first | apply AWp.seq | apply AWp.block | refine And.intro (by first | omega | assumption | decide) ?_)
      | ((first | (with_reducible first | apply AWp.fork | apply AWp.region | show condK _ _ _ | show guardK _ _ _ _ _ _ _ _ _) | ((with_reducible apply aCall.id); first | apply aCall.owns (hr _))); simp -implicitDefEqProofs [n_id3_id1, n_id1_id3, n_t1_id3, n_id3_t1, n_t1_id1, n_id1_t1])
      | ((with_reducible first | apply AWp.ret | apply AWp.skip | apply AWp.exit); try simp -implicitDefEqProofs [n_id3_id1, n_id1_id3, n_t1_id3, n_id3_t1, n_t1_id1, n_id1_t1]))
    intro t2 n_t2_t1 n_t2_id3 n_t2_id1 h_t2
    have n_t1_t2 : ¬ t1 = t2 := fun e => n_t2_t1 e.symm
    have n_id3_t2 : ¬ id3 = t2 := fun e => n_t2_id3 e.symm
    have n_id1_t2 : ¬ id1 = t2 := fun e => n_t2_id1 e.symm
    repeat (first
      | (with_reducible first | apply AWp.seq | apply AWp.block | refine And.intro (by first | omega | assumption | decide) ?_)
      | ((first | (with_reducible first | apply AWp.fork | apply AWp.region | show condK _ _ _ | show guardK _ _ _ _ _ _ _ _ _) | ((with_reducible apply aCall.id); first | apply aCall.gives (hsm _ _ _) | apply aCall.gives (hss _))); simp -implicitDefEqProofs [n_id3_id1, n_id1_id3, n_t1_id3, n_id3_t1, n_t1_id1, n_id1_t1, n_t2_t1, n_t1_t2, n_t2_id3, n_id3_t2, n_t2_id1, n_id1_t2])
      | ((with_reducible first | apply AWp.ret | apply AWp.skip | apply AWp.exit); try simp -implicitDefEqProofs [n_id3_id1, n_id1_id3, n_t1_id3, n_id3_t1, n_t1_id1, n_id1_t1, n_t2_t1, n_t1_t2, n_t2_id3, n_id3_t2, n_t2_id1, n_id1_t2]))

end Go.Proofs.Ythpmabablfkekaa
