/- Chapter 22, plain law, and the laws as walks. -/
import Derived.Test.YthbmjmdmamapiaaUnwC
set_option linter.unusedSimpArgs false
set_option linter.unusedVariables false
set_option maxRecDepth 100000
set_option maxHeartbeats 3200000
namespace Go.Proofs.Ythbmjmdmamapiaa
open Go Go.AW

/-! plain facts -/

theorem hdS_mem {L : List Int} (h : 0 ≤ hdS L) : hdS L ∈ L := by
  cases L with
  | nil => simp [hdS] at h
  | cons x r => simp [hdS]
theorem hdS_min {L : List Int} {i : Int} (hs : L.Pairwise (· < ·)) (h1 : i ∈ L) (h2 : ∀ y ∈ L, i ≤ y) : hdS L = i := by
  cases L with
  | nil => cases h1
  | cons x r =>
    rw [hdS]
    rcases List.mem_cons.1 h1 with rfl | h
    · rfl
    · have := (List.pairwise_cons.1 hs).1 i h
      have := h2 x (by simp)
      omega
theorem next_some {l : List Cl} {x f a : Int} (h : 0 ≤ nextS l x f a) : ∃ (i : Nat) (c : Cl), l[i]? = some c ∧ nextS l x f a = i ∧ a < i ∧ mayC l x f c = true := by
  have hm := hdS_mem h
  rw [someI_mem] at hm
  obtain ⟨i, c, h1, h2, h3⟩ := hm
  simp only [Nat.zero_add, Bool.and_eq_true, decide_eq_true_eq] at h2 h3
  exact ⟨i, c, h1, h2, h3.1, h3.2⟩
theorem next_neg {l : List Cl} {x f a : Int} (h : ¬ 0 ≤ nextS l x f a) : nextS l x f a = -1 := by
  unfold nextS at h ⊢
  generalize hL : someI (fun k c => decide (a < k) && mayC l x f c) 0 l = L at *
  cases L with
  | nil => rfl
  | cons y r =>
    exfalso
    apply h
    have : y ∈ someI (fun k c => decide (a < k) && mayC l x f c) 0 l := by rw [hL]; simp
    rw [someI_mem] at this
    obtain ⟨i, _, _, h2, _⟩ := this
    rw [hdS, h2]; omega
theorem may_free {l : List Cl} {x f : Int} {c : Cl} (h : mayC l x f c = true) : mayC l x (-1) c = true ∧ triedS c x = true ∧ flB l f c = true := by
  simp only [mayC, askS, Bool.and_eq_true] at h ⊢
  exact ⟨⟨h.1, h.2.1, by simp [flB]⟩, h.2.1, h.2.2⟩
theorem next_pred {l : List Cl} {x : Int} {i : Nat} {c : Cl} (hc : l[i]? = some c) (hm : mayC l x (-1) c = true) : nextS l x (-1) ((i : Int) - 1) = i := by
  refine hdS_min someI_sorted ?_ ?_
  · rw [someI_mem]
    exact ⟨i, c, hc, by simp, by simp [hm]; omega⟩
  · intro y hy
    rw [someI_mem] at hy
    obtain ⟨j, d, _, h2, h3⟩ := hy
    simp only [Nat.zero_add, Bool.and_eq_true, decide_eq_true_eq] at h2 h3
    omega

def msr (n : Nat) (k : Int) : Nat := if k < 0 then 0 else n + 1 - k.toNat
theorem msr_at {n i : Nat} : msr n (i : Int) = n + 1 - i := by unfold msr; rw [if_neg (by omega)]; omega
theorem msr_lt {l : List Cl} {x f : Int} {i : Nat} (hi : i < l.length) : msr l.length (nextS l x f i) < msr l.length i := by
  rw [msr_at]
  by_cases h : 0 ≤ nextS l x f i
  · obtain ⟨j, c, h1, h2, h3, _⟩ := next_some h
    obtain ⟨hj, _⟩ := List.getElem?_eq_some_iff.1 h1
    rw [h2, msr_at]; omega
  · rw [next_neg h]; simp [msr]; omega

theorem part_try {k : Int} {c : Cl} : (⟨k, 1, ⟨c.tf, c.tt⟩⟩ : Pt) ∈ partsS k c := by simp [partsS]
theorem part_hand {k : Int} {c : Cl} : (⟨k, 2, ⟨c.hf, c.ht⟩⟩ : Pt) ∈ partsS k c := by simp [partsS]
theorem part_filt {k : Int} {c : Cl} (h : c.k = 2) : (⟨k, 3, ⟨c.fl, c.hf⟩⟩ : Pt) ∈ partsS k c := by simp [partsS, h]

/-- What an earlier one tries and a later one: the later one holds it. -/
theorem tries_nested {n x : Int} {l : List Cl} (hr : RightL n l) {i j : Nat} {a b : Cl} (ha : l[i]? = some a) (hb : l[j]? = some b) (hij : i < j) (h1 : triedS a x = true) (h2 : triedS b x = true) : b.tf ≤ a.tf ∧ a.tt ≤ b.tt := by
  obtain ⟨hi, ha⟩ := List.getElem?_eq_some_iff.1 ha
  obtain ⟨hj, hb⟩ := List.getElem?_eq_some_iff.1 hb
  have hw := (wf_of (hr.2.1 a (ha ▸ List.getElem_mem hi))).1
  have hw2 := (wf_of (hr.2.1 b (hb ▸ List.getElem_mem hj))).1
  have hff := List.pairwise_iff_getElem.1 hr.2.2 i j hi hj hij
  rw [ha, hb] at hff
  rcases nested (i := 0) (j := 1) hw hw2 hff part_try part_try h1 h2 with h | h
  · have := h.1
    simp at this
    omega
  · simp only [withinS, Bool.and_eq_true, decide_eq_true_eq] at h
    exact h.2

/-- All parts of an earlier one lie within the part of a later one that shares an instruction with one of them, unless both try the same. -/
theorem nested_all {a b : Cl} (ha : Wf a) (hb : Wf b) (hf : fitsS a b = true) {p q : Pt} {x : Int} (hp : p ∈ partsS 0 a) (hq : q ∈ partsS 1 b) (h1 : hasS p.s x = true) (h2 : hasS q.s x = true) (hne : ¬ q.p = 1) :
    ∀ p' ∈ partsS 0 a, withinS p'.s q.s = true := by
  unfold fitsS at hf
  split at hf
  · rename_i x0 he
    have hx := List.mem_of_find?_eq_some he
    have hall := List.find?_some he
    have hin : ∀ p' ∈ partsS 0 a, withinS p'.s x0.s = true := by
      intro p' hp'
      simp only [allIn, Bool.not_eq_true', List.any_eq_false, Bool.not_eq_true, Bool.not_eq_false'] at hall
      simpa using hall _ hp'
    have hx0 : hasS x0.s x = true := by
      have := hin p hp
      simp only [withinS, Bool.and_eq_true, Bool.not_eq_true', decide_eq_false_iff_not, decide_eq_true_eq] at this
      rw [has_iff] at h1 ⊢; omega
    have e : q = x0 := one_part hb hq hx h2 hx0
    rw [e]; exact hin
  · exfalso
    have hm := meets_of h1 h2
    split at hf
    · have := clash_no (by simpa using hf) hp hq hm
      simp only [triesB, Bool.and_eq_true, decide_eq_true_eq] at this
      exact hne this.2
    · have := clash_no (by simpa using hf) hp hq hm
      simp [noB] at this

/-- What is asked from within a filter handles there. -/
theorem floor_in {n x : Int} {l : List Cl} (hr : RightL n l) {i j : Nat} {c d : Cl} (hc : l[i]? = some c) (hd : l[j]? = some d) (hk : d.k = 2) (h1 : triedS c x = true) (h2 : d.fl ≤ c.tf) (h3 : c.tt ≤ d.hf) : d.fl ≤ c.hf ∧ c.ht ≤ d.hf := by
  obtain ⟨hi, hc⟩ := List.getElem?_eq_some_iff.1 hc
  obtain ⟨hj, hd⟩ := List.getElem?_eq_some_iff.1 hd
  have hw := (wf_of (hr.2.1 c (hc ▸ List.getElem_mem hi))).1
  have hw2 := (wf_of (hr.2.1 d (hd ▸ List.getElem_mem hj))).1
  have ht1 : hasS ⟨c.tf, c.tt⟩ x = true := h1
  have ht := has_iff.1 ht1
  simp only at ht
  have hfx : hasS ⟨d.fl, d.hf⟩ x = true := by rw [has_iff]; simp only; omega
  rcases Nat.lt_trichotomy i j with g | g | g
  · have hff := List.pairwise_iff_getElem.1 hr.2.2 i j hi hj g
    rw [hc, hd] at hff
    have := nested_all hw hw2 hff part_try (part_filt hk) ht1 hfx (by simp) _ part_hand
    simp only [withinS, Bool.and_eq_true, decide_eq_true_eq] at this
    exact this.2
  · subst g
    rw [hc] at hd
    subst hd
    exfalso
    have := hw.d2 hk
    rw [meets_of ht1 hfx] at this
    cases this
  · have hff := List.pairwise_iff_getElem.1 hr.2.2 j i hj hi g
    rw [hc, hd] at hff
    exfalso
    rcases nested (i := 0) (j := 1) hw2 hw hff (part_filt hk) part_try hfx ht1 with h | h
    · exact absurd h.2.1 (by simp)
    · simp only [withinS, Bool.and_eq_true, Bool.not_eq_true', decide_eq_false_iff_not, decide_eq_true_eq, Sn.mk.injEq] at h
      omega

theorem someI_congr2 {p q : Nat → Cl → Bool} : ∀ {l : List Cl} {k : Nat}, (∀ j c, l[j]? = some c → p (k + j) c = q (k + j) c) → someI p k l = someI q k l := by
  intro l
  induction l with
  | nil => intro k _; rfl
  | cons c l ih =>
    intro k h
    have h0 := h 0 c rfl
    rw [Nat.add_zero] at h0
    rw [someI, someI, h0, ih (fun j d hj => by have := h (j + 1) d (by simpa using hj); rw [show k + 1 + j = k + (j + 1) by omega]; exact this)]
theorem someI_filter2 {p : Nat → Cl → Bool} {q : Int → Bool} : ∀ {l : List Cl} {k : Nat}, (someI p k l).filter q = someI (fun k c => p k c && q k) k l := by
  intro l
  induction l with
  | nil => intro k; rfl
  | cons c l ih =>
    intro k
    rw [someI, someI]
    by_cases hp : p k c = true
    · rw [if_pos hp, List.filter_cons, ih]
      simp [hp]
    · rw [if_neg hp, ih, if_neg (by simp [hp])]
theorem someS_I {f : Cl → Bool} : ∀ {l : List Cl} {k : Nat}, someS f k l = someI (fun _ c => f c) k l := by
  intro l
  induction l with
  | nil => intro k; rfl
  | cons c l ih => intro k; rw [someS, someI, ih]

def kindB (l : List Cl) (k : Int) : Bool := decide ((l.map (·.k)).getD k.toNat 0 ≤ 2)
theorem kind_at {l : List Cl} {i : Nat} {c : Cl} (h : l[i]? = some c) : kindB l (i : Int) = decide (c.k ≤ 2) := by
  obtain ⟨hi, h⟩ := List.getElem?_eq_some_iff.1 h
  unfold kindB
  rw [show ((i : Int)).toNat = i by omega]
  simp [List.getD_eq_getElem?_getD, hi, h]

def wantS (l : List Cl) (x : Int) : List Int := someI (fun _ c => mayC l x (-1) c) 0 l
theorem want_eq {n x : Int} {l : List Cl} (hr : RightL n l) : (someS (fun c => triedS c x) 0 l).filter (kindB l) = wantS l x := by
  rw [someS_I, someI_filter2, wantS]
  refine someI_congr2 (fun j c hj => ?_)
  rw [Nat.zero_add, kind_at hj]
  obtain ⟨hi, hj⟩ := List.getElem?_eq_some_iff.1 hj
  have hw := (wf_of (hr.2.1 c (hj ▸ List.getElem_mem hi))).1
  have := hw.k1
  have e : decide (c.k ≤ 2) = (decide (c.k = 1) || decide (c.k = 2)) := by
    rw [Bool.eq_iff_iff]; simp; omega
  simp [mayC, askS, flB, e, Bool.and_comm]
theorem rest_eq {n x : Int} {l : List Cl} (hr : RightL n l) : (someS (fun c => triedS c x) 0 l).filter (fun k => !kindB l k) = finsS l x (-1) (-1) := by
  rw [someS_I, someI_filter2, finsS]
  refine someI_congr2 (fun j c hj => ?_)
  rw [Nat.zero_add, kind_at hj]
  obtain ⟨hi, hj⟩ := List.getElem?_eq_some_iff.1 hj
  have hw := (wf_of (hr.2.1 c (hj ▸ List.getElem_mem hi))).1
  have := hw.k4
  have e : (!decide (c.k ≤ 2)) = (decide (c.k = 3) || decide (c.k = 4)) := by
    rw [Bool.eq_iff_iff]; simp; omega
  simp [finC, askS, flB, e, Bool.and_comm]
theorem next_want {l : List Cl} {x a : Int} : nextS l x (-1) a = hdS ((wantS l x).filter (fun y => decide (a < y))) := by
  unfold nextS wantS
  rw [someI_filter]
theorem want_sorted {l : List Cl} {x : Int} : (wantS l x).Pairwise (· < ·) := someI_sorted
theorem want_pos {l : List Cl} {x y : Int} (h : y ∈ wantS l x) : 0 ≤ y := by
  unfold wantS at h
  rw [someI_mem] at h
  obtain ⟨i, _, _, h2, _⟩ := h
  omega
theorem want_next {l : List Cl} {x y : Int} {d r : List Int} (h : d ++ y :: r = wantS l x) : nextS l x (-1) y = hdS r := by
  rw [next_want, ← h]
  have hs := want_sorted (l := l) (x := x)
  rw [← h, List.pairwise_append, List.pairwise_cons] at hs
  obtain ⟨_, ⟨h2, _⟩, h3⟩ := hs
  rw [List.filter_append, List.filter_cons]
  have e1 : d.filter (fun z => decide (y < z)) = [] := by
    rw [List.filter_eq_nil_iff]
    intro z hz
    have := h3 z hz y (by simp)
    simp; omega
  have e2 : r.filter (fun z => decide (y < z)) = r := by
    rw [List.filter_eq_self]
    intro z hz
    simpa using h2 z hz
  rw [e1, e2]
  simp
theorem want_first {l : List Cl} {x : Int} : nextS l x (-1) (-1) = hdS (wantS l x) := by
  rw [next_want]
  congr 1
  rw [List.filter_eq_self]
  intro z hz
  have := want_pos hz
  simp; omega

/-! the example -/

def u0 : List Cl := [⟨3, 0, 3, 3, 4, -1, 0, 0, 0, false⟩, ⟨1, 0, 3, 4, 5, -1, 0, 0, 0, false⟩]
theorem uwakes_ok (σ : AS) : ACalls Try.prog 31 [] σ (Gives (.sc (.bool true)) σ) No := by
  have h1 := fun σ => next_ok u0 .full false 1 (-1) (-1) (by simp [u0]) (by omega) σ
  have h2 := fun σ => fins_ok u0 .full false 1 (-1) 1 (by simp [u0]) σ
  have h3 := fun σ => handler_ok u0 .full false 3 (by simp [u0]) σ
  have h4 := fun σ => same11_ok [0] [0] .unk .full false false (by simp) (by simp) σ
  rw [show nextS u0 1 (-1) (-1) = 1 by decide] at h1
  rw [show finsS u0 1 (-1) 1 = [0] by decide] at h2
  rw [show hanS (chainS u0 3) = 0 by decide] at h3
  simp [clsV, clV_def, u0, intsV, i64v_def] at h1 h2 h3 h4
  refine ACalls.of_body Try.func31 rfl rfl (by simp [Try.ntmps31]) ?_
  repeat (first
    | (with_reducible apply AWp.seq)
    | (with_reducible apply AWp.block)
    | ((with_reducible apply AWp.fork); simp -implicitDefEqProofs)
    | ((with_reducible apply AWp.region); simp -implicitDefEqProofs)
    | (with_reducible refine And.intro (by first | omega | assumption | decide) ?_)
    | ((with_reducible apply aCall.id); first
        | ((apply aCall.gives (h1 _)); simp -implicitDefEqProofs)
        | ((apply aCall.gives (h2 _)); simp -implicitDefEqProofs)
        | ((apply aCall.gives (h3 _)); simp -implicitDefEqProofs)
        | ((apply aCall.gives (h4 _)); simp -implicitDefEqProofs))
    | ((with_reducible apply AWp.ret); try simp -implicitDefEqProofs)
    | ((with_reducible apply AWp.skip); try simp -implicitDefEqProofs)
    | ((with_reducible apply AWp.exit); try simp -implicitDefEqProofs))

/-! UnwindInner -/

def askV (a f k t : Int) : AV := .agg [.sc (.int .i64 a), .sc (.int .i64 f), .sc (.int .i64 k), .sc (.int .i64 t)]

theorem right200 {l : List Cl} : decide ((checkS (aloneR 200) fitsR l).2 = 0) = true → RightL 200 l := by
  intro h
  rw [check_eq] at h
  simpa [right_iff] using h

theorem unwindInner_ok (l : List Cl) (nl : Bool) (x f k t : Int) (hl : l.length ≤ 140737488355328) :
    ACalls Try.prog 8 [clsV l .unk nl, askV x f k t] noAS IsTrue No := by
  have hw := fun σ => uwakes_ok σ
  have hr := fun σ => right_ok 200 l .unk nl hl σ
  have hR := right200 (l := l)
  generalize decide ((checkS (aloneR 200) fitsR l).2 = 0) = b at *
  cases b with
  | false =>
    simp only [clsV, askV] at hr ⊢
    refine ACalls.of_body Try.func8 rfl rfl (by simp [Try.ntmps8]) ?_
    repeat (first
      | (with_reducible apply AWp.seq)
      | (with_reducible apply AWp.block)
      | ((with_reducible apply AWp.fork); simp -implicitDefEqProofs)
      | ((with_reducible apply AWp.region); simp -implicitDefEqProofs)
      | (with_reducible refine And.intro (by first | omega | assumption | decide) ?_)
      | (((with_reducible apply AWp.drawS (id := 9) (t := (Sch.step 0 (Sch.step 1 (Sch.step 2 (Sch.step 3 (Sch.step 4 (Sch.step 5 (Sch.step 6 (Sch.step 7 (Sch.step 8 (Sch.step 9 (Sch.step 10 (Sch.step 12 (Sch.step 13 (Sch.step 14 (Sch.step 15 (Sch.read 11 (Sch.read 16 (Sch.step 17 (Sch.step 18 (Sch.step 19 (Sch.step 20 (Sch.step 21 (Sch.step 22 (Sch.step 24 (Sch.step 25 (Sch.step 26 (Sch.step 27 (Sch.read 23 (Sch.read 28 (Sch.step 29 (Sch.step 30 (Sch.step 31 (Sch.step 32 Sch.done))))))))))))))))))))))))))))))))))); (exact mixed); kernel_rfl; kernel_rfl; (repeat (with_reducible first | apply PanQ.then | apply PanQ.block | apply PanQ.body | apply PanQ.no))); simp -implicitDefEqProofs)
      | ((with_reducible apply AWp.ret); try simp -implicitDefEqProofs)
      | ((with_reducible apply AWp.skip); try simp -implicitDefEqProofs)
      | ((with_reducible apply AWp.exit); try simp -implicitDefEqProofs))
    intro id h_id
    repeat (first
      | (with_reducible apply AWp.seq)
      | (with_reducible apply AWp.block)
      | ((with_reducible apply AWp.fork); simp -implicitDefEqProofs)
      | ((with_reducible apply AWp.region); simp -implicitDefEqProofs)
      | (with_reducible refine And.intro (by first | omega | assumption | decide) ?_)
      | (((with_reducible apply AWp.drawS (id := 9) (t := (Sch.step 0 (Sch.step 1 (Sch.step 2 (Sch.step 3 (Sch.step 4 (Sch.step 5 (Sch.step 6 (Sch.step 7 (Sch.step 8 (Sch.step 9 (Sch.step 10 (Sch.step 12 (Sch.step 13 (Sch.step 14 (Sch.step 15 (Sch.read 11 (Sch.read 16 (Sch.step 17 (Sch.step 18 (Sch.step 19 (Sch.step 20 (Sch.step 21 (Sch.step 22 (Sch.step 24 (Sch.step 25 (Sch.step 26 (Sch.step 27 (Sch.read 23 (Sch.read 28 (Sch.step 29 (Sch.step 30 (Sch.step 31 (Sch.step 32 Sch.done))))))))))))))))))))))))))))))))))); (exact mixed); kernel_rfl; kernel_rfl; (repeat (with_reducible first | apply PanQ.then | apply PanQ.block | apply PanQ.body | apply PanQ.no))); simp -implicitDefEqProofs)
      | ((with_reducible apply aCall.id); first
          | ((apply aCall.gives (hw _)); simp -implicitDefEqProofs)
          | ((apply aCall.gives (hr _)); simp -implicitDefEqProofs))
      | ((with_reducible apply AWp.ret); try simp -implicitDefEqProofs)
      | ((with_reducible apply AWp.skip); try simp -implicitDefEqProofs)
      | ((with_reducible apply AWp.exit); try simp -implicitDefEqProofs))
  | true =>
    have hR := hR rfl
    have h6 := hR.1
    by_cases hx0 : x < 0
    · simp only [clsV, askV] at hr ⊢
      refine ACalls.of_body Try.func8 rfl rfl (by simp [Try.ntmps8]) ?_
      repeat (first
        | (with_reducible apply AWp.seq)
        | (with_reducible apply AWp.block)
        | ((with_reducible apply AWp.fork); simp -implicitDefEqProofs)
        | ((with_reducible apply AWp.region); simp -implicitDefEqProofs)
        | (with_reducible refine And.intro (by first | omega | assumption | decide) ?_)
        | (((with_reducible apply AWp.drawS (id := 9) (t := (Sch.step 0 (Sch.step 1 (Sch.step 2 (Sch.step 3 (Sch.step 4 (Sch.step 5 (Sch.step 6 (Sch.step 7 (Sch.step 8 (Sch.step 9 (Sch.step 10 (Sch.step 12 (Sch.step 13 (Sch.step 14 (Sch.step 15 (Sch.read 11 (Sch.read 16 (Sch.step 17 (Sch.step 18 (Sch.step 19 (Sch.step 20 (Sch.step 21 (Sch.step 22 (Sch.step 24 (Sch.step 25 (Sch.step 26 (Sch.step 27 (Sch.read 23 (Sch.read 28 (Sch.step 29 (Sch.step 30 (Sch.step 31 (Sch.step 32 Sch.done))))))))))))))))))))))))))))))))))); (exact mixed); kernel_rfl; kernel_rfl; (repeat (with_reducible first | apply PanQ.then | apply PanQ.block | apply PanQ.body | apply PanQ.no))); simp -implicitDefEqProofs)
        | ((with_reducible apply AWp.ret); try simp -implicitDefEqProofs)
        | ((with_reducible apply AWp.skip); try simp -implicitDefEqProofs)
        | ((with_reducible apply AWp.exit); try simp -implicitDefEqProofs))
      intro id h_id
      repeat (first
        | (with_reducible apply AWp.seq)
        | (with_reducible apply AWp.block)
        | ((with_reducible apply AWp.fork); simp -implicitDefEqProofs [hx0])
        | ((with_reducible apply AWp.region); simp -implicitDefEqProofs [hx0])
        | (with_reducible refine And.intro (by first | omega | assumption | decide) ?_)
        | ((with_reducible show condK _ _ _); simp -implicitDefEqProofs [hx0])
        | ((with_reducible show guardK _ _ _ _ _ _ _ _ _); simp -implicitDefEqProofs [hx0])
        | (((with_reducible apply AWp.drawS (id := 9) (t := (Sch.step 0 (Sch.step 1 (Sch.step 2 (Sch.step 3 (Sch.step 4 (Sch.step 5 (Sch.step 6 (Sch.step 7 (Sch.step 8 (Sch.step 9 (Sch.step 10 (Sch.step 12 (Sch.step 13 (Sch.step 14 (Sch.step 15 (Sch.read 11 (Sch.read 16 (Sch.step 17 (Sch.step 18 (Sch.step 19 (Sch.step 20 (Sch.step 21 (Sch.step 22 (Sch.step 24 (Sch.step 25 (Sch.step 26 (Sch.step 27 (Sch.read 23 (Sch.read 28 (Sch.step 29 (Sch.step 30 (Sch.step 31 (Sch.step 32 Sch.done))))))))))))))))))))))))))))))))))); (exact mixed); kernel_rfl; kernel_rfl; (repeat (with_reducible first | apply PanQ.then | apply PanQ.block | apply PanQ.body | apply PanQ.no))); simp -implicitDefEqProofs [hx0])
        | ((with_reducible apply aCall.id); first
            | ((apply aCall.gives (hw _)); simp -implicitDefEqProofs [hx0])
            | ((apply aCall.gives (hr _)); simp -implicitDefEqProofs [hx0]))
        | ((with_reducible apply AWp.ret); try simp -implicitDefEqProofs [hx0])
        | ((with_reducible apply AWp.skip); try simp -implicitDefEqProofs [hx0])
        | ((with_reducible apply AWp.exit); try simp -implicitDefEqProofs [hx0]))
    by_cases hx1 : 200 < x
    · simp only [clsV, askV] at hr ⊢
      refine ACalls.of_body Try.func8 rfl rfl (by simp [Try.ntmps8]) ?_
      repeat (first
        | (with_reducible apply AWp.seq)
        | (with_reducible apply AWp.block)
        | ((with_reducible apply AWp.fork); simp -implicitDefEqProofs)
        | ((with_reducible apply AWp.region); simp -implicitDefEqProofs)
        | (with_reducible refine And.intro (by first | omega | assumption | decide) ?_)
        | (((with_reducible apply AWp.drawS (id := 9) (t := (Sch.step 0 (Sch.step 1 (Sch.step 2 (Sch.step 3 (Sch.step 4 (Sch.step 5 (Sch.step 6 (Sch.step 7 (Sch.step 8 (Sch.step 9 (Sch.step 10 (Sch.step 12 (Sch.step 13 (Sch.step 14 (Sch.step 15 (Sch.read 11 (Sch.read 16 (Sch.step 17 (Sch.step 18 (Sch.step 19 (Sch.step 20 (Sch.step 21 (Sch.step 22 (Sch.step 24 (Sch.step 25 (Sch.step 26 (Sch.step 27 (Sch.read 23 (Sch.read 28 (Sch.step 29 (Sch.step 30 (Sch.step 31 (Sch.step 32 Sch.done))))))))))))))))))))))))))))))))))); (exact mixed); kernel_rfl; kernel_rfl; (repeat (with_reducible first | apply PanQ.then | apply PanQ.block | apply PanQ.body | apply PanQ.no))); simp -implicitDefEqProofs)
        | ((with_reducible apply AWp.ret); try simp -implicitDefEqProofs)
        | ((with_reducible apply AWp.skip); try simp -implicitDefEqProofs)
        | ((with_reducible apply AWp.exit); try simp -implicitDefEqProofs))
      intro id h_id
      repeat (first
        | (with_reducible apply AWp.seq)
        | (with_reducible apply AWp.block)
        | ((with_reducible apply AWp.fork); simp -implicitDefEqProofs [hx0, hx1])
        | ((with_reducible apply AWp.region); simp -implicitDefEqProofs [hx0, hx1])
        | (with_reducible refine And.intro (by first | omega | assumption | decide) ?_)
        | ((with_reducible show condK _ _ _); simp -implicitDefEqProofs [hx0, hx1])
        | ((with_reducible show guardK _ _ _ _ _ _ _ _ _); simp -implicitDefEqProofs [hx0, hx1])
        | (((with_reducible apply AWp.drawS (id := 9) (t := (Sch.step 0 (Sch.step 1 (Sch.step 2 (Sch.step 3 (Sch.step 4 (Sch.step 5 (Sch.step 6 (Sch.step 7 (Sch.step 8 (Sch.step 9 (Sch.step 10 (Sch.step 12 (Sch.step 13 (Sch.step 14 (Sch.step 15 (Sch.read 11 (Sch.read 16 (Sch.step 17 (Sch.step 18 (Sch.step 19 (Sch.step 20 (Sch.step 21 (Sch.step 22 (Sch.step 24 (Sch.step 25 (Sch.step 26 (Sch.step 27 (Sch.read 23 (Sch.read 28 (Sch.step 29 (Sch.step 30 (Sch.step 31 (Sch.step 32 Sch.done))))))))))))))))))))))))))))))))))); (exact mixed); kernel_rfl; kernel_rfl; (repeat (with_reducible first | apply PanQ.then | apply PanQ.block | apply PanQ.body | apply PanQ.no))); simp -implicitDefEqProofs [hx0, hx1])
        | ((with_reducible apply aCall.id); first
            | ((apply aCall.gives (hw _)); simp -implicitDefEqProofs [hx0, hx1])
            | ((apply aCall.gives (hr _)); simp -implicitDefEqProofs [hx0, hx1]))
        | ((with_reducible apply AWp.ret); try simp -implicitDefEqProofs [hx0, hx1])
        | ((with_reducible apply AWp.skip); try simp -implicitDefEqProofs [hx0, hx1])
        | ((with_reducible apply AWp.exit); try simp -implicitDefEqProofs [hx0, hx1]))
    have hn := fun a (ha : -9223372036854775808 ≤ a) σ => next_ok l .unk nl x (-1) a (by omega) ha σ
    have hn0 := fun σ => hn (-1) (by omega) σ
    simp only [clsV, askV] at hr hn hn0 ⊢
    refine ACalls.of_body Try.func8 rfl rfl (by simp [Try.ntmps8]) ?_
    repeat (first
      | (with_reducible apply AWp.seq)
      | (with_reducible apply AWp.block)
      | ((with_reducible apply AWp.fork); simp -implicitDefEqProofs [ci_lt, ci_le])
      | ((with_reducible apply AWp.region); simp -implicitDefEqProofs [ci_lt, ci_le])
      | (with_reducible refine And.intro (by first | omega | assumption | decide) ?_)
      | ((with_reducible show condK _ _ _); simp -implicitDefEqProofs [ci_lt, ci_le])
      | ((with_reducible show guardK _ _ _ _ _ _ _ _ _); simp -implicitDefEqProofs [ci_lt, ci_le])
      | (((with_reducible apply AWp.drawS (id := 9) (t := (Sch.step 0 (Sch.step 1 (Sch.step 2 (Sch.step 3 (Sch.step 4 (Sch.step 5 (Sch.step 6 (Sch.step 7 (Sch.step 8 (Sch.step 9 (Sch.step 10 (Sch.step 12 (Sch.step 13 (Sch.step 14 (Sch.step 15 (Sch.read 11 (Sch.read 16 (Sch.step 17 (Sch.step 18 (Sch.step 19 (Sch.step 20 (Sch.step 21 (Sch.step 22 (Sch.step 24 (Sch.step 25 (Sch.step 26 (Sch.step 27 (Sch.read 23 (Sch.read 28 (Sch.step 29 (Sch.step 30 (Sch.step 31 (Sch.step 32 Sch.done))))))))))))))))))))))))))))))))))); (exact mixed); kernel_rfl; kernel_rfl; (repeat (with_reducible first | apply PanQ.then | apply PanQ.block | apply PanQ.body | apply PanQ.no))); simp -implicitDefEqProofs [ci_lt, ci_le])
      | ((with_reducible apply AWp.ret); try simp -implicitDefEqProofs [ci_lt, ci_le])
      | ((with_reducible apply AWp.skip); try simp -implicitDefEqProofs [ci_lt, ci_le])
      | ((with_reducible apply AWp.exit); try simp -implicitDefEqProofs [ci_lt, ci_le]))
    intro id h_id
    repeat (first
      | (with_reducible apply AWp.seq)
      | (with_reducible apply AWp.block)
      | ((with_reducible apply AWp.fork); simp -implicitDefEqProofs [hx0, hx1, ci_lt, ci_le])
      | ((with_reducible apply AWp.region); simp -implicitDefEqProofs [hx0, hx1, ci_lt, ci_le])
      | (with_reducible refine And.intro (by first | omega | assumption | decide) ?_)
      | ((with_reducible show condK _ _ _); simp -implicitDefEqProofs [hx0, hx1, ci_lt, ci_le])
      | ((with_reducible show guardK _ _ _ _ _ _ _ _ _); simp -implicitDefEqProofs [hx0, hx1, ci_lt, ci_le])
      | (((with_reducible apply AWp.drawS (id := 9) (t := (Sch.step 0 (Sch.step 1 (Sch.step 2 (Sch.step 3 (Sch.step 4 (Sch.step 5 (Sch.step 6 (Sch.step 7 (Sch.step 8 (Sch.step 9 (Sch.step 10 (Sch.step 12 (Sch.step 13 (Sch.step 14 (Sch.step 15 (Sch.read 11 (Sch.read 16 (Sch.step 17 (Sch.step 18 (Sch.step 19 (Sch.step 20 (Sch.step 21 (Sch.step 22 (Sch.step 24 (Sch.step 25 (Sch.step 26 (Sch.step 27 (Sch.read 23 (Sch.read 28 (Sch.step 29 (Sch.step 30 (Sch.step 31 (Sch.step 32 Sch.done))))))))))))))))))))))))))))))))))); (exact mixed); kernel_rfl; kernel_rfl; (repeat (with_reducible first | apply PanQ.then | apply PanQ.block | apply PanQ.body | apply PanQ.no))); simp -implicitDefEqProofs [hx0, hx1, ci_lt, ci_le])
      | ((with_reducible apply aCall.id); first
          | ((apply aCall.gives (hw _)); simp -implicitDefEqProofs [hx0, hx1, ci_lt, ci_le])
          | ((apply aCall.gives (hr _)); simp -implicitDefEqProofs [hx0, hx1, ci_lt, ci_le])
          | ((apply aCall.gives (hn0 _)); simp -implicitDefEqProofs [hx0, hx1, ci_lt, ci_le]))
      | ((with_reducible apply AWp.ret); try simp -implicitDefEqProofs [hx0, hx1, ci_lt, ci_le])
      | ((with_reducible apply AWp.skip); try simp -implicitDefEqProofs [hx0, hx1, ci_lt, ci_le])
      | ((with_reducible apply AWp.exit); try simp -implicitDefEqProofs [hx0, hx1, ci_lt, ci_le]))
    refine AWp.loopA (α := (Int) × (Int)) ((-1, nextS l x (-1) (-1))) (fun ⟨z, y⟩ => msr l.length y) (fun ⟨z, y⟩ => y = nextS l x (-1) z ∧ (z = -1 ∨ ∃ (j : Nat) (c : Cl), l[j]? = some c ∧ z = j ∧ triedS c x = true)) [(0, ?_), (3, ?_)] (fun ⟨z, y⟩ => [(6, .sc (.int .i64 y)), (5, .sc (.int .i64 z))]) (fun ⟨z, y⟩ => AS.set noAS id (.cells 51 [.sc (.int .i64 x), .sc (.int .i64 f), .sc (.int .i64 k), .sc (.int .i64 t)])) ?_ ?_ ?_ ?_
    rotate_left 2
    · (try dsimp only); (simp only [List.cons_append, List.nil_append]; repeat (first | exact FrWk.nil | refine FrWk.cons (by first | (simp -implicitDefEqProofs [ci_lt, ci_le]; done) | exact Wk.of (by (try simp -implicitDefEqProofs [ci_lt, ci_le]) <;> rfl)) ?_))
    · (try dsimp only); (first | exact AS.le_refl _ | assumption | (repeat (first | exact AS.le_refl _ | assumption | refine le_new (by simp [*]) ?_)))
    · exact ⟨rfl, .inl rfl⟩
    intro x_ hx_
    obtain ⟨z, y⟩ := x_
    try dsimp only at hx_ ⊢
    obtain ⟨hy, hz⟩ := hx_
    simp only [List.cons_append, List.nil_append]
    by_cases hy0 : 0 ≤ y
    · rw [hy] at hy0
      obtain ⟨i, c, i1, i2, i3, i4⟩ := next_some hy0
      rw [i2] at hy
      subst hy
      obtain ⟨hi, hci⟩ := List.getElem?_eq_some_iff.1 i1
      obtain ⟨_, i5, _⟩ := may_free i4
      have hni := fun σ => hn i (by omega) σ
      have hms := msr_lt (l := l) (x := x) (f := -1) hi
      have hy1 : (0 : Int) ≤ i := by omega
      rcases hz with rfl | ⟨j, d, j1, rfl, j2⟩
      · have e1 : ¬ (i : Int) ≤ -1 := by omega
        repeat (first
          | (with_reducible apply AWp.seq)
          | (with_reducible apply AWp.block)
          | ((with_reducible apply AWp.fork); simp -implicitDefEqProofs [hy1, e1, ci_lt, ci_le])
          | ((with_reducible apply AWp.region); simp -implicitDefEqProofs [hy1, e1, ci_lt, ci_le])
          | (with_reducible refine And.intro (by first | omega | assumption | decide) ?_)
          | ((with_reducible show condK _ _ _); simp -implicitDefEqProofs [hy1, e1, ci_lt, ci_le])
          | ((with_reducible show guardK _ _ _ _ _ _ _ _ _); simp -implicitDefEqProofs [hy1, e1, ci_lt, ci_le])
          | (((with_reducible apply AWp.drawS (id := 9) (t := (Sch.step 0 (Sch.step 1 (Sch.step 2 (Sch.step 3 (Sch.step 4 (Sch.step 5 (Sch.step 6 (Sch.step 7 (Sch.step 8 (Sch.step 9 (Sch.step 10 (Sch.step 12 (Sch.step 13 (Sch.step 14 (Sch.step 15 (Sch.read 11 (Sch.read 16 (Sch.step 17 (Sch.step 18 (Sch.step 19 (Sch.step 20 (Sch.step 21 (Sch.step 22 (Sch.step 24 (Sch.step 25 (Sch.step 26 (Sch.step 27 (Sch.read 23 (Sch.read 28 (Sch.step 29 (Sch.step 30 (Sch.step 31 (Sch.step 32 Sch.done))))))))))))))))))))))))))))))))))); (exact mixed); kernel_rfl; kernel_rfl; (repeat (with_reducible first | apply PanQ.then | apply PanQ.block | apply PanQ.body | apply PanQ.no))); simp -implicitDefEqProofs [hy1, e1, ci_lt, ci_le])
          | ((with_reducible apply aCall.id); first
              | ((apply aCall.gives (hni _)); simp -implicitDefEqProofs [hy1, e1, ci_lt, ci_le]))
          | ((with_reducible apply AWp.ret); try simp -implicitDefEqProofs [hy1, e1, ci_lt, ci_le])
          | ((with_reducible apply AWp.skip); try simp -implicitDefEqProofs [hy1, e1, ci_lt, ci_le])
          | ((with_reducible apply AWp.exit); try simp -implicitDefEqProofs [hy1, e1, ci_lt, ci_le]))
        refine stepA.mk ((i, nextS l x (-1) i)) (by (try dsimp only); omega) (by (try dsimp only); (simp only [List.cons_append, List.nil_append]; repeat (first | exact FrWk.nil | refine FrWk.cons (by first | (simp -implicitDefEqProofs [ci_lt, ci_le]; done) | exact Wk.of (by (try simp -implicitDefEqProofs [ci_lt, ci_le]) <;> rfl)) ?_))) (by (try dsimp only); (first | exact AS.le_refl _ | assumption | (repeat (first | exact AS.le_refl _ | assumption | refine le_new (by simp [*]) ?_)))) ?_
        try dsimp only
        exact ⟨rfl, .inr ⟨i, c, i1, rfl, i5⟩⟩
      · obtain ⟨hj, hdj⟩ := List.getElem?_eq_some_iff.1 j1
        have hji : j < i := by omega
        obtain ⟨n1, n2⟩ := tries_nested hR j1 i1 hji j2 i5
        have e1 : ¬ (i : Int) ≤ j := by omega
        have e2 : (0 : Int) ≤ j := by omega
        have e3 : ¬ d.tf < c.tf := by omega
        have e4 : ¬ c.tt < d.tt := by omega
        repeat (first
          | (with_reducible apply AWp.seq)
          | (with_reducible apply AWp.block)
          | ((with_reducible apply AWp.fork); simp -implicitDefEqProofs [hy1, e1, e2, e3, e4, hi, hci, hj, hdj, clV_def, ci_lt, ci_le])
          | ((with_reducible apply AWp.region); simp -implicitDefEqProofs [hy1, e1, e2, e3, e4, hi, hci, hj, hdj, clV_def, ci_lt, ci_le])
          | (with_reducible refine And.intro (by first | omega | assumption | decide) ?_)
          | ((with_reducible show condK _ _ _); simp -implicitDefEqProofs [hy1, e1, e2, e3, e4, hi, hci, hj, hdj, clV_def, ci_lt, ci_le])
          | ((with_reducible show guardK _ _ _ _ _ _ _ _ _); simp -implicitDefEqProofs [hy1, e1, e2, e3, e4, hi, hci, hj, hdj, clV_def, ci_lt, ci_le])
          | (((with_reducible apply AWp.drawS (id := 9) (t := (Sch.step 0 (Sch.step 1 (Sch.step 2 (Sch.step 3 (Sch.step 4 (Sch.step 5 (Sch.step 6 (Sch.step 7 (Sch.step 8 (Sch.step 9 (Sch.step 10 (Sch.step 12 (Sch.step 13 (Sch.step 14 (Sch.step 15 (Sch.read 11 (Sch.read 16 (Sch.step 17 (Sch.step 18 (Sch.step 19 (Sch.step 20 (Sch.step 21 (Sch.step 22 (Sch.step 24 (Sch.step 25 (Sch.step 26 (Sch.step 27 (Sch.read 23 (Sch.read 28 (Sch.step 29 (Sch.step 30 (Sch.step 31 (Sch.step 32 Sch.done))))))))))))))))))))))))))))))))))); (exact mixed); kernel_rfl; kernel_rfl; (repeat (with_reducible first | apply PanQ.then | apply PanQ.block | apply PanQ.body | apply PanQ.no))); simp -implicitDefEqProofs [hy1, e1, e2, e3, e4, hi, hci, hj, hdj, clV_def, ci_lt, ci_le])
          | ((with_reducible apply aCall.id); first
              | ((apply aCall.gives (hni _)); simp -implicitDefEqProofs [hy1, e1, e2, e3, e4, hi, hci, hj, hdj, clV_def, ci_lt, ci_le]))
          | ((with_reducible apply AWp.ret); try simp -implicitDefEqProofs [hy1, e1, e2, e3, e4, hi, hci, hj, hdj, clV_def, ci_lt, ci_le])
          | ((with_reducible apply AWp.skip); try simp -implicitDefEqProofs [hy1, e1, e2, e3, e4, hi, hci, hj, hdj, clV_def, ci_lt, ci_le])
          | ((with_reducible apply AWp.exit); try simp -implicitDefEqProofs [hy1, e1, e2, e3, e4, hi, hci, hj, hdj, clV_def, ci_lt, ci_le]))
        refine stepA.mk ((i, nextS l x (-1) i)) (by (try dsimp only); omega) (by (try dsimp only); (simp only [List.cons_append, List.nil_append]; repeat (first | exact FrWk.nil | refine FrWk.cons (by first | (simp -implicitDefEqProofs [ci_lt, ci_le]; done) | exact Wk.of (by (try simp -implicitDefEqProofs [ci_lt, ci_le]) <;> rfl)) ?_))) (by (try dsimp only); (first | exact AS.le_refl _ | assumption | (repeat (first | exact AS.le_refl _ | assumption | refine le_new (by simp [*]) ?_)))) ?_
        try dsimp only
        exact ⟨rfl, .inr ⟨i, c, i1, rfl, i5⟩⟩
    · repeat (first
        | (with_reducible apply AWp.seq)
        | (with_reducible apply AWp.block)
        | ((with_reducible apply AWp.fork); simp -implicitDefEqProofs [hy0, ci_lt, ci_le])
        | ((with_reducible apply AWp.region); simp -implicitDefEqProofs [hy0, ci_lt, ci_le])
        | (with_reducible refine And.intro (by first | omega | assumption | decide) ?_)
        | ((with_reducible show condK _ _ _); simp -implicitDefEqProofs [hy0, ci_lt, ci_le])
        | ((with_reducible show guardK _ _ _ _ _ _ _ _ _); simp -implicitDefEqProofs [hy0, ci_lt, ci_le])
        | (((with_reducible apply AWp.drawS (id := 9) (t := (Sch.step 0 (Sch.step 1 (Sch.step 2 (Sch.step 3 (Sch.step 4 (Sch.step 5 (Sch.step 6 (Sch.step 7 (Sch.step 8 (Sch.step 9 (Sch.step 10 (Sch.step 12 (Sch.step 13 (Sch.step 14 (Sch.step 15 (Sch.read 11 (Sch.read 16 (Sch.step 17 (Sch.step 18 (Sch.step 19 (Sch.step 20 (Sch.step 21 (Sch.step 22 (Sch.step 24 (Sch.step 25 (Sch.step 26 (Sch.step 27 (Sch.read 23 (Sch.read 28 (Sch.step 29 (Sch.step 30 (Sch.step 31 (Sch.step 32 Sch.done))))))))))))))))))))))))))))))))))); (exact mixed); kernel_rfl; kernel_rfl; (repeat (with_reducible first | apply PanQ.then | apply PanQ.block | apply PanQ.body | apply PanQ.no))); simp -implicitDefEqProofs [hy0, ci_lt, ci_le])
        | ((with_reducible apply AWp.ret); try simp -implicitDefEqProofs [hy0, ci_lt, ci_le])
        | ((with_reducible apply AWp.skip); try simp -implicitDefEqProofs [hy0, ci_lt, ci_le])
        | ((with_reducible apply AWp.exit); try simp -implicitDefEqProofs [hy0, ci_lt, ci_le]))

end Go.Proofs.Ythbmjmdmamapiaa
