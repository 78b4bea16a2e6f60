/- Chapter 03: what is parted lies apart (plain lists). -/
import Derived.Test.YthpmabablfkekaaStrB
set_option linter.unusedSimpArgs false
set_option linter.unusedVariables false
set_option maxRecDepth 100000
set_option maxHeartbeats 3200000
namespace Go.Proofs.Ythpmabablfkekaa
open Go Go.AW

def ind (n : Nat) (x : Int × Int × Int) : Nat := if x.2.1 ≤ (n : Int) ∧ (n : Int) < x.2.2 then 1 else 0
def cnt (n : Nat) (x : Int × Int × Int) : Nat := (min x.2.2 n - min x.2.1 n).toNat
def indS (n : Nat) : List (Int × Int × Int) → Nat
  | [] => 0
  | x :: M => ind n x + indS n M
def cntS (n : Nat) : List (Int × Int × Int) → Nat
  | [] => 0
  | x :: M => cnt n x + cntS n M
def Apart (M : List (Int × Int × Int)) : Prop := M.Pairwise fun x y => ov y.2.1 y.2.2 x = false

theorem ov_no {a e : Int} {x : Int × Int × Int} (h : ov a e x = false) : ¬ (a < x.2.2 ∧ x.2.1 < e ∧ a < e ∧ x.2.1 < x.2.2) := of_decide_eq_false h
theorem indS_zero {n : Nat} {M : List (Int × Int × Int)} (h : ∀ x ∈ M, ind n x = 0) : indS n M = 0 := by
  induction M with
  | nil => rfl
  | cons x M ih =>
    rw [indS, h x (by simp), ih (fun y hy => h y (by simp [hy]))]
theorem indS_one {n : Nat} {M : List (Int × Int × Int)} (h : Apart M) : indS n M ≤ 1 := by
  induction M with
  | nil => simp [indS]
  | cons x M ih =>
    obtain ⟨h1, h2⟩ := List.pairwise_cons.1 h
    have h3 := ih h2
    rw [indS]
    by_cases hx : ind n x = 0
    · omega
    · have hx1 : x.2.1 ≤ (n : Int) ∧ (n : Int) < x.2.2 := by
        unfold ind at hx
        split at hx
        · assumption
        · exact absurd rfl hx
      have : indS n M = 0 := indS_zero fun y hy => by
        have := ov_no (h1 y hy)
        unfold ind
        rw [if_neg]
        omega
      have : ind n x ≤ 1 := by unfold ind; split <;> omega
      omega
theorem cnt_succ (n : Nat) (x : Int × Int × Int) (h : x.2.1 ≤ x.2.2) : cnt (n + 1) x = cnt n x + ind n x := by
  unfold cnt ind
  split <;> omega
theorem cntS_succ (n : Nat) {M : List (Int × Int × Int)} (h : ∀ x ∈ M, x.2.1 ≤ x.2.2) : cntS (n + 1) M = cntS n M + indS n M := by
  induction M with
  | nil => rfl
  | cons x M ih =>
    rw [cntS, cntS, indS, ih (fun y hy => h y (by simp [hy])), cnt_succ n x (h x (by simp))]
    omega
theorem cntS_low {n : Nat} (hn : n ≤ 56) {M : List (Int × Int × Int)} (h : ∀ x ∈ M, 56 ≤ x.2.1 ∧ x.2.1 ≤ x.2.2) : cntS n M = 0 := by
  induction M with
  | nil => rfl
  | cons x M ih =>
    have h1 := h x (by simp)
    rw [cntS, ih (fun y hy => h y (by simp [hy]))]
    unfold cnt
    omega
theorem cntS_le {M : List (Int × Int × Int)} (hA : Apart M) (h : ∀ x ∈ M, 56 ≤ x.2.1 ∧ x.2.1 ≤ x.2.2) (d : Nat) : cntS (56 + d) M ≤ d := by
  induction d with
  | zero => rw [cntS_low (by omega) h]; omega
  | succ d ih =>
    have h1 := cntS_succ (56 + d) (M := M) (fun x hx => (h x hx).2)
    have h2 := indS_one (n := 56 + d) hA
    rw [show 56 + (d + 1) = 56 + d + 1 by omega, h1]
    omega
theorem cntS_app {n : Nat} {M : List (Int × Int × Int)} {x : Int × Int × Int} : cntS n (M ++ [x]) = cntS n M + cnt n x := by
  induction M with
  | nil => simp [cntS]
  | cons y M ih => simp only [List.cons_append, cntS, ih]; omega

def sumO (o : Strs) : Nat := (o.map fun x => x.1.length).sum
theorem sumO_set {o : Strs} (ho : o.length = 4) {k : Nat} (hk : k < 4) {z : List UInt8 × Bool} (h0 : (o.getD k ([], true)).1 = []) : sumO (o.set k z) = sumO o + z.1.length := by
  match o, ho with
  | [o0, o1, o2, o3], _ =>
    match k, hk with
    | 0, _ => simp [sumO] at h0 ⊢; rw [h0]; simp; omega
    | 1, _ => simp [sumO] at h0 ⊢; rw [h0]; simp; omega
    | 2, _ => simp [sumO] at h0 ⊢; rw [h0]; simp; omega
    | 3, _ => simp [sumO] at h0 ⊢; rw [h0]; simp; omega

theorem splitL_sum {b : List UInt8} (hb : 56 ≤ b.length) : ∀ {m a : Nat} {M : List (Int × Int × Int)} {o : Strs}, a + 12 * m ≤ b.length → o.length = 4 → Apart M → (∀ x ∈ M, 56 ≤ x.2.1 ∧ x.2.1 ≤ x.2.2 ∧ x.2.2 ≤ b.length) →
    sumO o = cntS b.length M → (∀ k : Nat, k < 4 → M.any (fun x => x.1 == (k : Int)) = false → (o.getD k ([], true)).1 = []) → (splitL b m a M o).2.2 = 0 → sumO (splitL b m a M o).1 + 56 ≤ b.length := by
  intro m
  induction m with
  | zero =>
    intro a M o _ ho hA hM hs hk he
    have := cntS_le hA (fun x hx => ⟨(hM x hx).1, (hM x hx).2.1⟩) (b.length - 56)
    rw [show 56 + (b.length - 56) = b.length by omega] at this
    simp only [splitL]
    omega
  | succ m ih =>
    intro a M o hab ho hA hM hs hk he
    rw [splitL] at he ⊢
    split at he
    · rename_i hw
      rw [if_pos hw]
      obtain ⟨w1, w2, w3, w4, w5, w6⟩ := wrongS_ok hw
      have e1 : 0 ≤ numL (seg b ((a : Int) + 4) 4) := numL_nonneg _
      have e2 := tagK_lt (seg b ((a : Int) + 8) 4)
      have e3 := seg_length b (numL (seg b a 4)) (numL (seg b ((a : Int) + 4) 4)) (by omega) e1 (by omega)
      generalize numL (seg b a 4) = x at *
      generalize numL (seg b ((a : Int) + 4) 4) = y at *
      generalize tagK (seg b ((a : Int) + 8) 4) = k at *
      obtain ⟨kn, rfl⟩ := Int.eq_ofNat_of_zero_le w1
      have hkn : kn < 4 := by omega
      refine ih (by omega) (by simpa using ho) ?_ ?_ ?_ ?_ he
      · refine List.pairwise_append.2 ⟨hA, List.pairwise_singleton _ _, fun z hz z2 hz2 => ?_⟩
        rcases List.mem_singleton.1 hz2 with rfl
        rw [List.any_eq_false] at w6
        have := w6 z hz
        simpa using this
      · intro z hz
        rcases List.mem_append.1 hz with hz | hz
        · exact hM z hz
        · rcases List.mem_singleton.1 hz with rfl
          exact ⟨w3, by show x ≤ x + y; omega, w5⟩
      · rw [show ((kn : Int)).toNat = kn by omega, sumO_set ho hkn (hk kn hkn w2), cntS_app, hs]
        have : cnt b.length ((kn : Int), x, x + y) = (seg b x y).length := by
          unfold cnt
          simp only
          omega
        rw [this]
      · intro k' hk' hany
        rw [List.any_append, Bool.or_eq_false_iff] at hany
        have hne : ¬ kn = k' := by
          rintro rfl
          simp at hany
        have h1 := hk k' hk' hany.1
        rw [List.getD_eq_getElem?_getD] at h1 ⊢
        rw [show ((kn : Int)).toNat = kn by omega, List.getElem?_set_ne hne]
        exact h1
    · exact absurd he (by assumption)

theorem splitL_err {b : List UInt8} : ∀ {m a : Nat} {M : List (Int × Int × Int)} {o : Strs}, (splitL b m a M o).2.2 ≠ 0 → (splitL b m a M o).1 = E4 := by
  intro m
  induction m with
  | zero => intro a M o h; exact absurd rfl h
  | succ m ih =>
    intro a M o h
    rw [splitL] at h ⊢
    split at h
    · rename_i hw; rw [if_pos hw]; exact ih h
    · rename_i hw; rw [if_neg hw]
theorem splitS_err {b : List UInt8} (h : (splitS b).2.2 ≠ 0) : (splitS b).1 = E4 := by
  unfold splitS at h ⊢
  split at h
  · rename_i h1; rw [if_pos h1]
  rename_i h1; rw [if_neg h1]
  split at h
  · rename_i h2; rw [if_pos h2]
  rename_i h2; rw [if_neg h2]
  split at h
  · rename_i h3; rw [if_pos h3]
  rename_i h3; rw [if_neg h3]
  split at h
  · rename_i h4; rw [if_pos h4]
  rename_i h4; rw [if_neg h4]
  split at h
  · rename_i h5; rw [if_pos h5]
  rename_i h5; rw [if_neg h5]
  exact splitL_err h
theorem splitS_sum {b : List UInt8} (h : (splitS b).2.2 = 0) : sumO (splitS b).1 + 56 ≤ b.length := by
  unfold splitS at h ⊢
  split at h
  · cases h
  rename_i h1
  split at h
  · cases h
  rename_i h2
  split at h
  · cases h
  rename_i h3
  split at h
  · cases h
  rename_i h4
  split at h
  · cases h
  rename_i h5
  rw [if_neg h1, if_neg h2, if_neg h3, if_neg h4, if_neg h5]
  exact splitL_sum (by omega) (by omega) rfl List.Pairwise.nil (by simp) rfl (fun k hk _ => by
    match k, hk with
    | 0, _ => rfl
    | 1, _ => rfl
    | 2, _ => rfl
    | 3, _ => rfl) h

theorem bdP_sum (s : Nat → List UInt8) : (bdP s 4).length ≤ (s 0).length + (s 1).length + (s 2).length + (s 3).length + 12 := by
  have p0 := pad_lt (bdP s 0).length
  have p1 := pad_lt (bdP s 1).length
  have p2 := pad_lt (bdP s 2).length
  have p3 := pad_lt (bdP s 3).length
  have e0 : (bdP s 0).length = 0 := rfl
  have e1 : (bdP s 1).length = (bdP s 0).length + pad (bdP s 0).length + (s 0).length := by rw [show bdP s 1 = bdP s 0 ++ List.replicate (pad (bdP s 0).length) 0 ++ s 0 from rfl]; simp only [List.length_append, List.length_replicate]
  have e2 : (bdP s 2).length = (bdP s 1).length + pad (bdP s 1).length + (s 1).length := by rw [show bdP s 2 = bdP s 1 ++ List.replicate (pad (bdP s 1).length) 0 ++ s 1 from rfl]; simp only [List.length_append, List.length_replicate]
  have e3 : (bdP s 3).length = (bdP s 2).length + pad (bdP s 2).length + (s 2).length := by rw [show bdP s 3 = bdP s 2 ++ List.replicate (pad (bdP s 2).length) 0 ++ s 2 from rfl]; simp only [List.length_append, List.length_replicate]
  have e4 : (bdP s 4).length = (bdP s 3).length + pad (bdP s 3).length + (s 3).length := by rw [show bdP s 4 = bdP s 3 ++ List.replicate (pad (bdP s 3).length) 0 ++ s 3 from rfl]; simp only [List.length_append, List.length_replicate]
  omega

theorem streamsPlain_ok (b : List UInt8) (own : Own) (nl : Bool) (hn : nl = true → b = []) (hlen : b.length ≤ 140737488355328) :
    ACalls Try.prog 6 [.lst 5 (b.map u8) own nl] noAS IsTrue No := by
  have hw := fun σ => swakes_ok σ
  by_cases h4 : 4000 < b.length
  · have h4' : (4000 < (b.length : Int)) = True := by simp; omega
    refine ACalls.of_body Try.func6 rfl rfl (by simp [Try.ntmps6]) ?_
    repeat (first
      | (with_reducible first | apply AWp.seq | apply AWp.block | refine And.intro (by first | omega | assumption | decide) ?_)
      | ((first | (with_reducible first | apply AWp.fork | apply AWp.region | show condK _ _ _ | show guardK _ _ _ _ _ _ _ _ _) | ((with_reducible apply aCall.id); first | apply aCall.gives (hw _))); simp -implicitDefEqProofs [h4'])
      | ((with_reducible first | apply AWp.ret | apply AWp.skip | apply AWp.exit); try simp -implicitDefEqProofs [h4']))
  have h4' : (4000 < (b.length : Int)) = False := by simp; omega
  have hs := fun σ => split_ok b own nl hn σ hlen
  have hle := splitS_le b
  have herr := splitS_err (b := b)
  have hsum := splitS_sum (b := b)
  obtain ⟨o0, o1, o2, o3, a, e, hS⟩ := splitS_four b
  rw [hS] at hs hle herr hsum
  have hl : ∀ j, (nth4 o0 o1 o2 o3 j).1.length ≤ 4000 := fun j => by
    have : (nth4 o0 o1 o2 o3 j).1.length ≤ b.length := hle _ (by unfold nth4; split <;> simp)
    omega
  by_cases he : e = 0
  · subst he
    have hsum := hsum rfl
    have hj := fun σ => join_ok o0 o1 o2 o3 .unk .unk .unk .unk hl σ
    have hJs := split_join (s := fun k => (nth4 o0 o1 o2 o3 k).1) (fun k _ => hl k)
    have hJl := joinL_short (s := fun k => (nth4 o0 o1 o2 o3 k).1) (fun k _ => hl k)
    have hbs := bdP_sum (fun k => (nth4 o0 o1 o2 o3 k).1)
    have hJn : (joinL (fun k => (nth4 o0 o1 o2 o3 k).1)).length ≤ b.length + 12 := by
      rw [joinL, List.length_append, hdP_len]
      simp only [nth4, sumO, List.map_cons, List.map_nil, List.sum_cons, List.sum_nil] at hbs hsum ⊢
      omega
    generalize hJ : joinL (fun k => (nth4 o0 o1 o2 o3 k).1) = J at hj hJs hJl hJn
    have hsp := fun tk σ => split_ok J (.tok tk) false (by simp) σ hJl
    rw [hJs] at hsp
    have hss := fun σ => ssame_ok o0 o1 o2 o3 (o0.1, false) (o1.1, false) (o2.1, false) (o3.1, false) .unk .unk .unk .unk .unk .unk .unk .unk (fun j => by have := hl j; omega) σ
    rw [show eqS o0 o1 o2 o3 (o0.1, false) (o1.1, false) (o2.1, false) (o3.1, false) = true by simp [eqS]] at hss
    have w1 : IntKind.i64.wrap ((b.length : Int) + 12) = (b.length : Int) + 12 := in_i64 (by omega) (by omega)
    have hJn' : ((J.length : Int) ≤ (b.length : Int) + 12) = True := by simp; omega
    simp only [stO, sO, strV, List.map_cons, List.map_nil, sV, RS, outS, nth4] at hs hj hsp hss ⊢
    clear hle herr hS hsum hbs
    refine ACalls.of_body Try.func6 rfl rfl (by simp [Try.ntmps6]) ?_
    repeat (first
      | (with_reducible first | apply AWp.seq | apply AWp.block | refine And.intro (by first | omega | assumption | decide) ?_)
      | ((first | (with_reducible first | apply AWp.fork | apply AWp.region | show condK _ _ _ | show guardK _ _ _ _ _ _ _ _ _) | ((with_reducible apply aCall.id); first | apply aCall.gives (hw _) | apply aCall.gives (hs _))); simp -implicitDefEqProofs [h4'])
      | ((with_reducible first | apply AWp.ret | apply AWp.skip | apply AWp.exit); try simp -implicitDefEqProofs [h4']))
    intro id3 h_id3
    repeat (first
      | (with_reducible first | apply AWp.seq | apply AWp.block | refine And.intro (by first | omega | assumption | decide) ?_)
      | ((first | (with_reducible first | apply AWp.fork | apply AWp.region) | ((with_reducible apply aCall.id); first | apply aCall.owns (hj _))); simp -implicitDefEqProofs)
      | ((with_reducible first | apply AWp.ret | apply AWp.skip | apply AWp.exit); try simp -implicitDefEqProofs))
    intro t1 n_t1_id3 h_t1
    have n_id3_t1 : ¬ id3 = t1 := fun e => n_t1_id3 e.symm
    repeat (first
      | (with_reducible first | apply AWp.seq | apply AWp.block | refine And.intro (by first | omega | assumption | decide) ?_)
      | ((first | (with_reducible first | apply AWp.fork | apply AWp.region | show condK _ _ _ | show guardK _ _ _ _ _ _ _ _ _) | ((with_reducible apply aCall.id); first | apply aCall.gives (hsp _ _))); simp -implicitDefEqProofs [n_t1_id3, n_id3_t1])
      | ((with_reducible first | apply AWp.ret | apply AWp.skip | apply AWp.exit); try simp -implicitDefEqProofs [n_t1_id3, n_id3_t1]))
    intro id8 n_id8_t1 n_id8_id3 h_id8
    have n_t1_id8 : ¬ t1 = id8 := fun e => n_id8_t1 e.symm
    have n_id3_id8 : ¬ id3 = id8 := fun e => n_id8_id3 e.symm
    repeat (first
      | (with_reducible first | apply AWp.seq | apply AWp.block | refine And.intro (by first | omega | assumption | decide) ?_)
      | ((first | (with_reducible first | apply AWp.fork | apply AWp.region | show condK _ _ _ | show guardK _ _ _ _ _ _ _ _ _) | ((with_reducible apply aCall.id); first | apply aCall.gives (hss _))); simp -implicitDefEqProofs [w1, hJn', n_t1_id3, n_id3_t1, n_id8_t1, n_t1_id8, n_id8_id3, n_id3_id8])
      | ((with_reducible first | apply AWp.ret | apply AWp.skip | apply AWp.exit); try simp -implicitDefEqProofs [w1, hJn', n_t1_id3, n_id3_t1, n_id8_t1, n_t1_id8, n_id8_id3, n_id3_id8]))
  · have hE := herr he
    simp only [E4, List.cons.injEq, and_true] at hE
    obtain ⟨rfl, rfl, rfl, rfl⟩ := hE
    have hm : ∀ σ, ACalls Try.prog 12 [stO ([], true) ([], true) ([], true) ([], true) .unk .unk .unk .unk, .agg [.nilS, .nilS, .nilS, .nilS]] σ (Gives (.sc (.bool true)) σ) No := fun σ => by
      refine (ssame_ok ([], true) ([], true) ([], true) ([], true) Z2 Z2 Z2 Z2 .unk .unk .unk .unk .unk .unk .unk .unk (fun j => by unfold nth4; split <;> simp) σ).wk _ rfl (fun i hi => ?_)
      match i, hi with
      | 0, _ => exact Wk.refl _
      | 1, _ => exact wk_Z
    simp only [stO, sO, strV, List.map_cons, List.map_nil, sV, RS] at hs hm ⊢
    clear hle herr hS hsum
    refine ACalls.of_body Try.func6 rfl rfl (by simp [Try.ntmps6]) ?_
    repeat (first
      | (with_reducible first | apply AWp.seq | apply AWp.block | refine And.intro (by first | omega | assumption | decide) ?_)
      | ((first | (with_reducible first | apply AWp.fork | apply AWp.region | show condK _ _ _ | show guardK _ _ _ _ _ _ _ _ _) | ((with_reducible apply aCall.id); first | apply aCall.gives (hw _) | apply aCall.gives (hs _))); simp -implicitDefEqProofs [h4'])
      | ((with_reducible first | apply AWp.ret | apply AWp.skip | apply AWp.exit); try simp -implicitDefEqProofs [h4']))
    intro id3 h_id3
    repeat (first
      | (with_reducible first | apply AWp.seq | apply AWp.block | refine And.intro (by first | omega | assumption | decide) ?_)
      | ((first | (with_reducible first | apply AWp.fork | apply AWp.region | show condK _ _ _ | show guardK _ _ _ _ _ _ _ _ _) | ((with_reducible apply aCall.id); first | apply aCall.gives (hm _))); simp -implicitDefEqProofs [he])
      | ((with_reducible first | apply AWp.ret | apply AWp.skip | apply AWp.exit); try simp -implicitDefEqProofs [he]))

end Go.Proofs.Ythpmabablfkekaa
