/- Chapter 09, plain law: the chain by size again and again is the sorted one. -/
import Derived.Test.YthbmjmdmamapiaaRegC
set_option linter.unusedSimpArgs false
set_option linter.unusedVariables false
namespace Go.Proofs.Ythbmjmdmamapiaa
open Go Go.AW

def szS (p : Pt) : Int := p.s.t - p.s.f
def cand : Nat → List Cl → List Pt
  | _, [] => []
  | k, c :: r => [⟨k, 1, bnd c 1⟩, ⟨k, 2, bnd c 2⟩, ⟨k, 3, bnd c 3⟩] ++ cand (k + 1) r
def stepR (x s : Int) (b : Int × Int × Int) (q : Pt) : Int × Int × Int :=
  if hasS q.s x = true ∧ s < IntKind.i64.wrap (q.s.t - q.s.f) ∧ (b.2.2 = 0 ∨ IntKind.i64.wrap (q.s.t - q.s.f) < b.2.2) then (q.k, q.p, IntKind.i64.wrap (q.s.t - q.s.f)) else b
def bestF (l : List Cl) (x s : Int) : Int × Int × Int := (cand 0 l).foldl (stepR x s) (0, 0, 0)
/-- The document's chain. -/
def DocC (l : List Cl) (x : Int) : Int → List Pt → Prop
  | s, [] => (bestF l x s).2.2 = 0
  | s, p :: r => bestF l x s = (p.k, p.p, szS p) ∧ 0 < szS p ∧ DocC l x (szS p) r

/-! facts of the clauses -/

theorem has_iff {s : Sn} {x : Int} : hasS s x = true ↔ s.f ≤ x ∧ x < s.t := by simp [hasS]
theorem meets_of {s t : Sn} {x : Int} (h1 : hasS s x = true) (h2 : hasS t x = true) : meetsS s t = true := by
  rw [has_iff] at h1 h2
  simp only [meetsS, Bool.and_eq_true, decide_eq_true_eq]; omega

theorem one_part {k : Int} {c : Cl} (hw : Wf c) {p q : Pt} {x : Int} (hp : p ∈ partsS k c) (hq : q ∈ partsS k c) (h1 : hasS p.s x = true) (h2 : hasS q.s x = true) : p = q := by
  have hm := meets_of h1 h2
  have d1 := hw.d1
  have d1' := meets_comm ⟨c.tf, c.tt⟩ ⟨c.hf, c.ht⟩
  by_cases hk : c.k = 2
  · have d2 := hw.d2 hk
    have d2' := meets_comm ⟨c.tf, c.tt⟩ ⟨c.fl, c.hf⟩
    rw [has_iff] at h1 h2
    rw [parts_2 hk] at hp hq
    simp only [List.mem_cons, List.not_mem_nil, or_false] at hp hq
    rcases hp with rfl | rfl | rfl <;> rcases hq with rfl | rfl | rfl
    all_goals first | rfl | (exfalso; simp_all; done) | (exfalso; simp at h1 h2; omega)
  · rw [parts_n hk] at hp hq
    simp only [List.mem_cons, List.not_mem_nil, or_false] at hp hq
    rcases hp with rfl | rfl <;> rcases hq with rfl | rfl
    all_goals first | rfl | (exfalso; simp_all; done)

theorem clash_no {l m : List Pt} {may : Pt → Pt → Bool} (h : clashS l m may = false) {p q : Pt} (hp : p ∈ l) (hq : q ∈ m) (hm : meetsS p.s q.s = true) : may p q = true := by
  unfold clashS at h
  rw [List.any_eq_false] at h
  have h1 := h p hp
  simp only [Bool.not_eq_true] at h1
  rw [List.any_eq_false] at h1
  have h2 := h1 q hq
  simp [hm] at h2
  exact h2

/-- A part of an earlier clause that shares an instruction with one of a later one lies within it, or they try the same. -/
theorem nested {a b : Cl} {i j : Int} (ha : Wf a) (hb : Wf b) (hf : fitsS a b = true) {p q : Pt} {x : Int} (hp : p ∈ partsS i a) (hq : q ∈ partsS j b) (h1 : hasS p.s x = true) (h2 : hasS q.s x = true) :
    (p.s = q.s ∧ p.p = 1 ∧ q.p = 1) ∨ withinS p.s q.s = true := by
  have ren : ∀ (u v : Int) (c : Cl) (z : Pt), z ∈ partsS u c → (⟨v, z.p, z.s⟩ : Pt) ∈ partsS v c := by
    intro u v c z hz
    unfold partsS at hz ⊢
    split at hz <;> simp at hz
    · rename_i e; rcases hz with rfl | rfl | rfl <;> simp [e]
    · rename_i e; rcases hz with rfl | rfl <;> simp [e]
  have hp0 := ren i 0 a p hp
  have hq1 := ren j 1 b q hq
  unfold fitsS at hf
  split at hf
  · rename_i x0 he
    have hx := List.mem_of_find?_eq_some he
    have hall := List.find?_some he
    have hin : withinS p.s x0.s = true := by
      simp only [allIn, Bool.not_eq_true', List.any_eq_false, Bool.not_eq_true, Bool.not_eq_false'] at hall
      simpa using hall _ hp0
    have hx0 : hasS x0.s x = true := by
      simp only [withinS, Bool.and_eq_true, Bool.not_eq_true', decide_eq_false_iff_not, decide_eq_true_eq] at hin
      rw [has_iff] at h1 ⊢; omega
    have e : (⟨1, q.p, q.s⟩ : Pt) = x0 := one_part hb hq1 hx h2 hx0
    right
    rw [← e] at hin
    exact hin
  · have hm := meets_of h1 h2
    split at hf
    · rename_i hs
      have := clash_no (by simpa using hf) hp0 hq1 hm
      simp only [triesB, Bool.and_eq_true, decide_eq_true_eq] at this
      left
      simp only [Bool.and_eq_true, decide_eq_true_eq] at hs
      have e1 : p.s = ⟨a.tf, a.tt⟩ := by
        unfold partsS at hp
        split at hp <;> simp at hp
        · rcases hp with rfl | rfl | rfl <;> simp_all
        · rcases hp with rfl | rfl <;> simp_all
      have e2 : q.s = ⟨b.tf, b.tt⟩ := by
        unfold partsS at hq
        split at hq <;> simp at hq
        · rcases hq with rfl | rfl | rfl <;> simp_all
        · rcases hq with rfl | rfl <;> simp_all
      exact ⟨by rw [e1, e2, hs.1, hs.2], this.1, this.2⟩
    · have := clash_no (by simpa using hf) hp0 hq1 hm
      simp [noB] at this

theorem within_sz {s t : Sn} (h : withinS s t = true) : s.t - s.f < t.t - t.f := by
  obtain ⟨a, b⟩ := s
  obtain ⟨c, d⟩ := t
  simp only [withinS, Bool.and_eq_true, Bool.not_eq_true', decide_eq_false_iff_not, decide_eq_true_eq, Sn.mk.injEq] at h
  simp; omega

/-! what stands at an instruction -/

structure PtsOk (n x : Int) (P : List Pt) : Prop where
  inc : P.Pairwise (fun a b => a.k < b.k)
  rng : ∀ p ∈ P, 0 ≤ p.s.f ∧ p.s.f ≤ x ∧ x < p.s.t ∧ p.s.t ≤ n ∧ 0 ≤ p.k ∧ p.k < 100
  nst : ∀ p ∈ P, ∀ q ∈ P, p.k < q.k → (p.s = q.s ∧ p.p = 1 ∧ q.p = 1) ∨ withinS p.s q.s = true

theorem part_in {n : Int} {c : Cl} (h : aloneS n c = 0) {k : Int} {p : Pt} (hp : p ∈ partsS k c) : 0 ≤ p.s.f ∧ p.s.t ≤ n := by
  obtain ⟨hw, h1, h2⟩ := wf_of h
  have := hw.t0
  have := hw.h0
  have := hw.h1
  by_cases hk : c.k = 2
  · have := hw.f1 hk
    rw [parts_2 hk] at hp
    simp only [List.mem_cons, List.not_mem_nil, or_false] at hp
    rcases hp with rfl | rfl | rfl <;> simp <;> omega
  · rw [parts_n hk] at hp
    simp only [List.mem_cons, List.not_mem_nil, or_false] at hp
    rcases hp with rfl | rfl <;> simp <;> omega

theorem ptsAt_inc {n x : Int} : ∀ {l : List Cl} {k : Nat}, (∀ c ∈ l, aloneS n c = 0) → (ptsAt x k l).Pairwise (fun a b => a.k < b.k) := by
  intro l
  induction l with
  | nil => intro k _; simp [ptsAt]
  | cons c l ih =>
    intro k h
    have hw := (wf_of (h c (by simp))).1
    simp only [ptsAt]
    rw [List.pairwise_append]
    refine ⟨?_, ih (fun d hd => h d (by simp [hd])), ?_⟩
    · rw [List.pairwise_iff_getElem]
      intro i j hi hj hij
      exfalso
      have m1 := List.getElem_mem hi
      have m2 := List.getElem_mem hj
      rw [List.mem_filter] at m1 m2
      have e := one_part hw m1.1 m2.1 m1.2 m2.2
      have hnd : ((partsS (k : Int) c).filter (fun p => hasS p.s x)).Nodup := by
        refine List.Pairwise.filter _ ?_
        unfold partsS; split <;> simp
      rw [List.nodup_iff_pairwise_ne, List.pairwise_iff_getElem] at hnd
      exact hnd i j hi hj hij e
    · intro a ha b hb
      rw [List.mem_filter] at ha
      obtain ⟨i, d, _, h2, _⟩ := mem_ptsAt hb
      rw [(parts_k ha.1).1, (parts_k h2).1]; omega

theorem ptsOk {n x : Int} {l : List Cl} (h : RightL n l) : PtsOk n x (ptsAt x 0 l) := by
  obtain ⟨h6, ha, hf⟩ := h
  refine ⟨ptsAt_inc ha, fun p hp => ?_, fun p hp q hq hk => ?_⟩
  · obtain ⟨i, c, q1, q2, q3⟩ := mem_ptsAt hp
    obtain ⟨hi, q1⟩ := List.getElem?_eq_some_iff.1 q1
    have hc := ha c (q1 ▸ List.getElem_mem hi)
    have := part_in hc q2
    rw [has_iff] at q3
    rw [(parts_k q2).1]
    omega
  · obtain ⟨i, c, q1, q2, q3⟩ := mem_ptsAt hp
    obtain ⟨j, d, r1, r2, r3⟩ := mem_ptsAt hq
    rw [(parts_k q2).1, (parts_k r2).1] at hk
    obtain ⟨hi, q1⟩ := List.getElem?_eq_some_iff.1 q1
    obtain ⟨hj, r1⟩ := List.getElem?_eq_some_iff.1 r1
    have hw := (wf_of (ha c (q1 ▸ List.getElem_mem hi))).1
    have hw2 := (wf_of (ha d (r1 ▸ List.getElem_mem hj))).1
    have hff := List.pairwise_iff_getElem.1 hf i j hi hj (by omega)
    rw [q1, r1] at hff
    exact nested hw hw2 hff q2 r2 q3 r3

theorem PtsOk.eqk {n x : Int} {P : List Pt} (h : PtsOk n x P) {p q : Pt} (hp : p ∈ P) (hq : q ∈ P) (e : p.k = q.k) : p = q := by
  obtain ⟨i, hi, rfl⟩ := List.getElem_of_mem hp
  obtain ⟨j, hj, rfl⟩ := List.getElem_of_mem hq
  have hpw := List.pairwise_iff_getElem.1 h.inc
  rcases Nat.lt_trichotomy i j with g | g | g
  · have := hpw i j hi hj g; omega
  · subst g; rfl
  · have := hpw j i hj hi g; omega
theorem PtsOk.eqsz {n x : Int} {P : List Pt} (h : PtsOk n x P) {p q : Pt} (hp : p ∈ P) (hq : q ∈ P) (e : szS p = szS q) : p.s = q.s := by
  unfold szS at e
  rcases Int.lt_trichotomy p.k q.k with g | g | g
  · rcases h.nst p hp q hq g with w | w
    · exact w.1
    · have := within_sz w; omega
  · rw [h.eqk hp hq g]
  · rcases h.nst q hq p hp g with w | w
    · exact w.1.symm
    · have := within_sz w; omega

/-! sorting -/

def ltP (a b : Pt) : Prop := szS a < szS b ∨ (szS a = szS b ∧ a.k < b.k)
theorem before_lt {n x : Int} {P : List Pt} (h : PtsOk n x P) (hn : n ≤ 100000) {a b : Pt} (ha : a ∈ P) (hb : b ∈ P) : beforeW a b < 0 ↔ ltP a b := by
  have r1 := h.rng a ha
  have r2 := h.rng b hb
  unfold beforeW ltP szS
  simp only []
  rw [in_i64 (n := a.s.t - a.s.f) (by omega) (by omega), in_i64 (n := b.s.t - b.s.f) (by omega) (by omega), in_i64 (n := a.s.t - a.s.f - (b.s.t - b.s.f)) (by omega) (by omega), in_i64 (n := a.k - b.k) (by omega) (by omega)]
  show (if a.s.t - a.s.f - (b.s.t - b.s.f) = 0 then a.k - b.k else a.s.t - a.s.f - (b.s.t - b.s.f)) < 0 ↔ _
  split <;> omega
theorem ltP_trans {a b c : Pt} (h1 : ltP a b) (h2 : ltP b c) : ltP a c := by unfold ltP at *; omega

theorem ins_sorted {n x : Int} {P : List Pt} (h : PtsOk n x P) (hn : n ≤ 100000) {y : Pt} (hy : y ∈ P) : ∀ {L : List Pt}, (∀ q ∈ L, q ∈ P ∧ q.k < y.k) → L.Pairwise (fun a b => ltP b a) → (insRev beforeW y L).Pairwise (fun a b => ltP b a) := by
  intro L
  induction L with
  | nil => intro _ _; simp [insRev]
  | cons z r ih =>
    intro hm hp
    rw [List.pairwise_cons] at hp
    rw [insRev]
    have hz := hm z (by simp)
    split
    · rename_i hlt
      rw [before_lt h hn hy hz.1] at hlt
      rw [List.pairwise_cons]
      refine ⟨fun q hq => ?_, ih (fun q hq => hm q (by simp [hq])) hp.2⟩
      rw [mem_ins] at hq
      rcases hq with rfl | hq
      · exact hlt
      · exact hp.1 q hq
    · rename_i hlt
      rw [before_lt h hn hy hz.1] at hlt
      have hzy : ltP z y := by unfold ltP at *; omega
      rw [List.pairwise_cons]
      refine ⟨fun q hq => ?_, by rw [List.pairwise_cons]; exact hp⟩
      rcases List.mem_cons.1 hq with rfl | hq
      · exact hzy
      · exact ltP_trans (hp.1 q hq) hzy

theorem sort_sorted {n x : Int} {P : List Pt} (h : PtsOk n x P) (hn : n ≤ 100000) : (sortS beforeW P).Pairwise ltP := by
  suffices hh : ∀ (R A : List Pt), (∀ q ∈ R, q ∈ P) → (∀ q ∈ A, q ∈ P ∧ ∀ z ∈ R, q.k < z.k) → R.Pairwise (fun a b => a.k < b.k) → A.Pairwise (fun a b => ltP b a) → (R.foldl (fun acc x => insRev beforeW x acc) A).Pairwise (fun a b => ltP b a) by
    have := hh P [] (fun q hq => hq) (fun q hq => by cases hq) h.inc (by simp)
    simp only [sortS, sortRev]
    rw [List.pairwise_reverse]
    exact this
  intro R
  induction R with
  | nil => intro A _ _ _ hA; exact hA
  | cons y R ih =>
    intro A hR hA hI hP
    rw [List.pairwise_cons] at hI
    rw [List.foldl_cons]
    refine ih _ (fun q hq => hR q (by simp [hq])) (fun q hq => ?_) hI.2 (ins_sorted h hn (hR y (by simp)) (fun q hq => ⟨(hA q hq).1, (hA q hq).2 y (by simp)⟩) hP)
    rw [mem_ins] at hq
    rcases hq with rfl | hq
    · exact ⟨hR q (by simp), fun z hz => hI.1 z hz⟩
    · exact ⟨(hA q hq).1, fun z hz => (hA q hq).2 z (by simp [hz])⟩

/-! the smallest that is bigger -/

theorem fold_has (x s : Int) : ∀ (l : List Cl) (k : Nat) (b : Int × Int × Int), (cand k l).foldl (stepR x s) b = (ptsAt x k l).foldl (stepR x s) b := by
  intro l
  induction l with
  | nil => intro k b; rfl
  | cons c l ih =>
    intro k b
    simp only [cand, ptsAt]
    rw [List.foldl_append, List.foldl_append, ih]
    congr 1
    have skip : ∀ (b : Int × Int × Int) (q : Pt), hasS q.s x = false → stepR x s b q = b := fun b q h => by simp [stepR, h]
    have filt : ∀ (L : List Pt) (b : Int × Int × Int), (L.filter (fun p => hasS p.s x)).foldl (stepR x s) b = L.foldl (stepR x s) b := by
      intro L
      induction L with
      | nil => intro b; rfl
      | cons q L ihL =>
        intro b
        rw [List.filter_cons]
        split
        · rw [List.foldl_cons, List.foldl_cons, ihL]
        · rename_i hq
          rw [ihL, List.foldl_cons, skip b q (by simpa using hq)]
    rw [filt]
    by_cases hk : c.k = 2
    · rw [parts_2 hk]; simp [bnd, hk]
    · rw [parts_n hk]
      have e : ∀ b, stepR x s b ⟨k, 3, bnd c 3⟩ = b := fun b => skip b _ (by simp [bnd, hk, hasS])
      rw [List.foldl_cons, List.foldl_cons, List.foldl_cons, List.foldl_nil, e]
      rfl

theorem best_at {n x : Int} {P : List Pt} (h : PtsOk n x P) (hn : n ≤ 100000) (s : Int) (hs : 0 ≤ s) : ∀ (R A : List Pt) (b : Int × Int × Int), A ++ R = P →
    ((b.2.2 = 0 ∧ ∀ q ∈ A, szS q ≤ s) ∨ ∃ p ∈ A, b = (p.k, p.p, szS p) ∧ s < szS p ∧ ∀ q ∈ A, s < szS q → p = q ∨ ltP p q) →
    ((R.foldl (stepR x s) b).2.2 = 0 ∧ ∀ q ∈ P, szS q ≤ s) ∨ ∃ p ∈ P, R.foldl (stepR x s) b = (p.k, p.p, szS p) ∧ s < szS p ∧ ∀ q ∈ P, s < szS q → p = q ∨ ltP p q := by
  intro R
  induction R with
  | nil => intro A b e hb; rw [List.append_nil] at e; subst e; exact hb
  | cons y R ih =>
    intro A b e hb
    have hy : y ∈ P := by rw [← e]; simp
    have r := h.rng y hy
    have hlt : ∀ q ∈ A, q.k < y.k := by
      intro q hq
      have := h.inc
      rw [← e, List.pairwise_append] at this
      exact this.2.2 q hq y (by simp)
    have hw : IntKind.i64.wrap (y.s.t - y.s.f) = szS y := in_i64 (by omega) (by omega)
    have hh : hasS y.s x = true := by rw [has_iff]; omega
    rw [List.foldl_cons]
    refine ih (A ++ [y]) _ (by simpa using e) ?_
    unfold stepR
    rw [hw]
    simp only [hh, true_and, List.mem_append, List.mem_singleton]
    rcases hb with ⟨b0, hb⟩ | ⟨p, hp, rfl, hps, hb⟩
    · by_cases hsy : s < szS y
      · rw [if_pos ⟨hsy, .inl b0⟩]
        right
        refine ⟨y, .inr rfl, rfl, hsy, fun q hq hsq => ?_⟩
        rcases hq with hq | hq
        · have := hb q hq; omega
        · exact .inl hq.symm
      · rw [if_neg (fun h => hsy h.1)]
        left
        refine ⟨b0, fun q hq => ?_⟩
        rcases hq with hq | rfl
        · exact hb q hq
        · omega
    · by_cases hsy : s < szS y ∧ szS y < szS p
      · rw [if_pos ⟨hsy.1, .inr hsy.2⟩]
        right
        refine ⟨y, .inr rfl, rfl, hsy.1, fun q hq hsq => ?_⟩
        rcases hq with hq | hq
        · rcases hb q hq hsq with rfl | hpq
          · right; left; exact hsy.2
          · right; unfold ltP at hpq ⊢; omega
        · exact .inl hq.symm
      · rw [if_neg (fun h => hsy ⟨h.1, by
          rcases h.2 with g | g
          · simp only at g; omega
          · exact g⟩)]
        right
        refine ⟨p, .inl hp, rfl, hps, fun q hq hsq => ?_⟩
        rcases hq with hq | rfl
        · exact hb q hq hsq
        · right
          have := hlt p hp
          unfold ltP; omega

theorem bestF_of {n x : Int} {l : List Cl} (h : PtsOk n x (ptsAt x 0 l)) (hn : n ≤ 100000) (s : Int) (hs : 0 ≤ s) :
    ((bestF l x s).2.2 = 0 ∧ ∀ q ∈ ptsAt x 0 l, szS q ≤ s) ∨ ∃ p ∈ ptsAt x 0 l, bestF l x s = (p.k, p.p, szS p) ∧ s < szS p ∧ ∀ q ∈ ptsAt x 0 l, s < szS q → p = q ∨ ltP p q := by
  unfold bestF
  rw [fold_has]
  exact best_at h hn s hs _ [] _ rfl (.inl ⟨rfl, by simp⟩)

theorem doc_comp {n x : Int} {l : List Cl} (h : PtsOk n x (ptsAt x 0 l)) (hn : n ≤ 100000) : ∀ (R : List Pt) (p : Pt), (∀ q ∈ p :: R, q ∈ ptsAt x 0 l) → (p :: R).Pairwise ltP → (∀ q ∈ ptsAt x 0 l, q ∈ R ∨ szS q ≤ szS p) →
    DocC l x (szS p) (compT eqS p R) := by
  intro R
  induction R with
  | nil =>
    intro p hm _ ha
    have hp := h.rng p (hm p (by simp))
    simp only [compT, DocC]
    rcases bestF_of h hn (szS p) (by unfold szS; omega) with hb | ⟨q, hq, _, hs, _⟩
    · exact hb.1
    · exfalso
      rcases ha q hq with hx | hx
      · cases hx
      · omega
  | cons y R ih =>
    intro p hm hP ha
    have hp := h.rng p (hm p (by simp))
    have hpm := hm p (by simp)
    have hym := hm y (by simp)
    rw [List.pairwise_cons] at hP
    have hpy := hP.1 y (by simp)
    have hP2 := List.pairwise_cons.1 hP.2
    have hyy : ∀ q ∈ ptsAt x 0 l, q ∈ R ∨ szS q ≤ szS y := by
      intro q hq
      rcases ha q hq with hx | hx
      · rcases List.mem_cons.1 hx with rfl | hx
        · exact .inr (Int.le_refl _)
        · exact .inl hx
      · right; unfold ltP at hpy; omega
    have hi := ih y (fun q hq => hm q (by simp at hq ⊢; exact .inr hq)) hP.2 hyy
    rw [compT]
    split
    · rename_i e
      simp only [eqS, Bool.and_eq_true, decide_eq_true_eq] at e
      have e2 : szS p = szS y := by unfold szS; omega
      rw [e2]; exact hi
    · rename_i e
      have hlt : szS p < szS y := by
        rcases hpy with hx | hx
        · exact hx
        · exfalso
          have := h.eqsz hpm hym hx.1
          exact e (by simp [eqS, this])
      refine ⟨?_, by unfold szS at *; omega, hi⟩
      rcases bestF_of h hn (szS p) (by unfold szS; omega) with hb | ⟨q, hq, hb, hs, hmin⟩
      · have := hb.2 y hym; omega
      · rw [hb]
        have : q = y := by
          rcases hmin y hym hlt with g | g
          · exact g
          · exfalso
            have hqR : q ∈ y :: R := by
              rcases ha q hq with hx | hx
              · exact hx
              · omega
            rcases List.mem_cons.1 hqR with rfl | hqR
            · unfold ltP at g; omega
            · have := hP2.1 q hqR
              unfold ltP at g this; omega
        rw [this]

theorem chain_doc {n x : Int} {l : List Cl} (hr : RightL n l) (hn : n ≤ 100000) : DocC l x 0 (chainS l x) := by
  have h := ptsOk (x := x) hr
  have hsrt := sort_sorted h hn
  have hmem : ∀ q, q ∈ sortS beforeW (ptsAt x 0 l) ↔ q ∈ ptsAt x 0 l := fun q => mem_sort
  unfold chainS
  generalize sortS beforeW (ptsAt x 0 l) = L at *
  cases L with
  | nil =>
    simp only [compS, DocC]
    rcases bestF_of h hn 0 (by omega) with hb | ⟨q, hq, _⟩
    · exact hb.1
    · exact absurd ((hmem q).2 hq) (by simp)
  | cons y R =>
    have hym : y ∈ ptsAt x 0 l := (hmem y).1 (by simp)
    have hy := h.rng y hym
    have hP := List.pairwise_cons.1 hsrt
    simp only [compS]
    refine ⟨?_, by unfold szS; omega, doc_comp h hn R y (fun q hq => (hmem q).1 hq) hsrt (fun q hq => ?_)⟩
    · rcases bestF_of h hn 0 (by omega) with hb | ⟨q, hq, hb, hs, hmin⟩
      · have := hb.2 y hym; unfold szS at this; omega
      · rw [hb]
        have : q = y := by
          rcases hmin y hym (by unfold szS; omega) with g | g
          · exact g
          · exfalso
            rcases List.mem_cons.1 ((hmem q).2 hq) with rfl | hqR
            · unfold ltP at g; omega
            · have := hP.1 q hqR
              unfold ltP at g this; omega
        rw [this]
    · rcases List.mem_cons.1 ((hmem q).2 hq) with rfl | hqR
      · exact .inr (Int.le_refl _)
      · exact .inl hqR

end Go.Proofs.Ythbmjmdmamapiaa
