/- Chapter 09: RegionsChain, RegionsWays, RegionsStay. -/
import Derived.Test.YthbmjmdmamapiaaRegG
set_option linter.unusedSimpArgs false
set_option linter.unusedVariables false
set_option maxRecDepth 100000
set_option maxHeartbeats 3200000
namespace Go.Proofs.Ythbmjmdmamapiaa
open Go Go.AW

/-! plain facts -/

theorem parts_bnd {k : Int} {c : Cl} {p : Pt} (h : p ∈ partsS k c) : bnd c p.p = p.s := by
  by_cases hk : c.k = 2
  · rw [parts_2 hk] at h
    simp only [List.mem_cons, List.not_mem_nil, or_false] at h
    rcases h with rfl | rfl | rfl <;> simp [bnd, hk]
  · rw [parts_n hk] at h
    simp only [List.mem_cons, List.not_mem_nil, or_false] at h
    rcases h with rfl | rfl <;> simp [bnd]

theorem doc_inc {n x : Int} {l : List Cl} (h : PtsOk n x (ptsAt x 0 l)) (hn : n ≤ 100000) : ∀ {C : List Pt} {s : Int}, 0 ≤ s → DocC l x s C → C.Pairwise (fun a b => szS a < szS b) ∧ ∀ p ∈ C, s < szS p := by
  intro C
  induction C with
  | nil => intro s _ _; simp
  | cons p r ih =>
    intro s hs hD
    obtain ⟨h1, h2, h3⟩ := hD
    have hlt : s < szS p := by
      rcases bestF_of h hn s hs with hb | ⟨q, _, hb, hq, _⟩
      · rw [h1] at hb; simp at hb; omega
      · rw [h1] at hb
        simp only [Prod.mk.injEq] at hb
        omega
    obtain ⟨i1, i2⟩ := ih (by omega) h3
    refine ⟨List.pairwise_cons.2 ⟨i2, i1⟩, fun q hq => ?_⟩
    rcases List.mem_cons.1 hq with rfl | hq
    · exact hlt
    · have := i2 q hq; omega

theorem chain_nested {n x : Int} {l : List Cl} (hr : RightL n l) (hn : n ≤ 100000) {i : Nat} (hi : i + 1 < (chainS l x).length) : withinS ((chainS l x)[i]).s ((chainS l x)[i + 1]).s = true := by
  have h := ptsOk (x := x) hr
  have hd := (doc_inc h hn (Int.le_refl 0) (chain_doc hr hn)).1
  have hsub : ∀ q ∈ chainS l x, q ∈ ptsAt x 0 l := fun q hq => by
    have := (compS_sub _ _).subset hq
    rwa [mem_sort] at this
  have h1 := List.pairwise_iff_getElem.1 hd i (i + 1) (by omega) hi (by omega)
  have m1 := hsub _ (List.getElem_mem (show i < (chainS l x).length by omega))
  have m2 := hsub _ (List.getElem_mem hi)
  generalize (chainS l x)[i] = a at *
  generalize (chainS l x)[i + 1] = b at *
  rcases Int.lt_trichotomy a.k b.k with g | g | g
  · rcases h.nst a m1 b m2 g with w | w
    · unfold szS at h1; rw [w.1] at h1; omega
    · exact w
  · have := h.eqk m1 m2 g
    subst this; omega
  · rcases h.nst b m2 a m1 g with w | w
    · unfold szS at h1; rw [w.1] at h1; omega
    · have := within_sz w; unfold szS at h1; omega

theorem compT_rep : ∀ (r : List Pt) (p : Pt), ∀ y ∈ r, (y.s = p.s) ∨ ∃ z ∈ compT eqS p r, z.s = y.s := by
  intro r
  induction r with
  | nil => intro p y hy; cases hy
  | cons x r ih =>
    intro p y hy
    rw [compT]
    have hs : ∀ a b : Pt, eqS a b = true → a.s = b.s := by
      intro a b h
      obtain ⟨_, _, ⟨_, _⟩⟩ := a
      obtain ⟨_, _, ⟨_, _⟩⟩ := b
      simpa [eqS] using h
    split
    · rename_i he
      have := hs _ _ he
      rcases List.mem_cons.1 hy with rfl | hy
      · exact .inl this
      · rcases ih x y hy with h | h
        · exact .inl (h.trans this)
        · exact .inr h
    · right
      rcases List.mem_cons.1 hy with rfl | hy
      · exact ⟨y, by simp, rfl⟩
      · rcases ih x y hy with h | ⟨z, h1, h2⟩
        · exact ⟨x, by simp, h.symm⟩
        · exact ⟨z, by simp [h1], h2⟩
theorem compS_rep {l : List Pt} {y : Pt} (h : y ∈ l) : ∃ z ∈ compS eqS l, z.s = y.s := by
  cases l with
  | nil => cases h
  | cons x r =>
    simp only [compS]
    rcases List.mem_cons.1 h with rfl | h
    · exact ⟨y, by simp, rfl⟩
    · rcases compT_rep r x y h with h | ⟨z, h1, h2⟩
      · exact ⟨x, by simp, h.symm⟩
      · exact ⟨z, by simp [h1], h2⟩
theorem mem_ptsAt_of {x : Int} {p : Pt} : ∀ {l : List Cl} {k i : Nat} {c : Cl}, l[i]? = some c → p ∈ partsS ((k + i : Nat) : Int) c → hasS p.s x = true → p ∈ ptsAt x k l := by
  intro l
  induction l with
  | nil => intro k i c h; simp at h
  | cons d l ih =>
    intro k i c h h1 h2
    rw [ptsAt, List.mem_append]
    cases i with
    | zero =>
      simp at h
      subst h
      left
      rw [List.mem_filter]
      exact ⟨by simpa using h1, h2⟩
    | succ i =>
      right
      refine ih (k := k + 1) (by simpa using h) ?_ h2
      rwa [show k + 1 + i = k + (i + 1) by omega]

theorem hit_finals {l : List Cl} {x y : Int} (h : hitB (chainS l y) y (chainS l x) = true) : ∀ c ∈ l, finalS c x y = false := by
  intro c hc
  obtain ⟨i, hi, rfl⟩ := List.getElem_of_mem hc
  rw [hitB, List.any_eq_true] at h
  obtain ⟨k, _, h⟩ := h
  simp only [decide_eq_true_eq] at h
  cases hf : finalS l[i] x y with
  | false => rfl
  | true =>
    exfalso
    simp only [finalS, Bool.and_eq_true, decide_eq_true_eq, Bool.not_eq_true'] at hf
    obtain ⟨_, h1, h2⟩ := hf
    have hp : (⟨(i : Int), 1, ⟨(l[i]).tf, (l[i]).tt⟩⟩ : Pt) ∈ ptsAt x 0 l := by
      refine mem_ptsAt_of (i := i) (c := l[i]) (by simp [hi]) ?_ h1
      simp [partsS]
    rw [← mem_sort (cmp := beforeW)] at hp
    obtain ⟨z, hz, hzs⟩ := compS_rep hp
    have hz' : z ∈ chainS l x := hz
    have hzm : (z.k, z.p) ∈ rgs (chainS l x) := List.mem_map.2 ⟨z, hz, rfl⟩
    rw [← h] at hzm
    obtain ⟨w, hw, hwe⟩ := List.mem_map.1 hzm
    simp only [Prod.mk.injEq] at hwe
    have hw' := List.mem_of_mem_drop hw
    obtain ⟨a, ca, a1, a2, a3⟩ := mem_chain hz'
    obtain ⟨b, cb, b1, b2, b3⟩ := mem_chain hw'
    have e : a = b := by have := (parts_k a2).1; have := (parts_k b2).1; omega
    subst e
    rw [a1] at b1
    cases b1
    have s1 := parts_bnd a2
    have s2 := parts_bnd b2
    rw [hwe.2, s1] at s2
    rw [← s2, hzs] at b3
    unfold triedS at h2
    rw [h2] at b3
    cases b3

theorem hit_leave {l : List Cl} {B A : List Pt} {y : Int} (h : hitB B y A = true) : leaveS l B y A = true := by
  cases A with
  | nil => simpa [leaveS] using h
  | cons z r => simp [leaveS, h]
theorem hit_self {B A : List Pt} {y : Int} (h : rgs B = rgs A) : hitB B y A = true := hitB_yes (k := 0) (by omega) (by simpa using h)
theorem some_nil {f : Cl → Bool} : ∀ {l : List Cl} {k : Nat}, (∀ c ∈ l, f c = false) → someS f k l = [] := by
  intro l
  induction l with
  | nil => intro k _; rfl
  | cons c l ih => intro k h; rw [someS, if_neg (by rw [h c (by simp)]; simp), ih (fun d hd => h d (by simp [hd]))]
theorem some_len {f : Cl → Bool} : ∀ {l : List Cl} {k : Nat}, (someS f k l).length ≤ l.length := by
  intro l
  induction l with
  | nil => intro k; simp [someS]
  | cons c l ih => intro k; rw [someS]; have := ih (k := k + 1); split <;> simp <;> omega

theorem rPass_ok (l : List Cl) (o : Own) (nl : Bool) (n x y : Int) (hr : RightL n l) (hn : n ≤ 100000) (σ : AS) :
    ACalls Try.prog 28 [clsV l o nl, .sc (.int .i64 x), .sc (.int .i64 y)] σ (Gives (.sc (.bool (hitB (chainS l y) y (chainS l x)))) σ) No := by
  have h6 := hr.1
  have hla := chainS_len l x
  have hlb := chainS_len l y
  have hw := fun σ => ways_ok l o nl x y false (chainS l x) (chainS l y) (chain_doc hr hn) (chain_doc hr hn) (by omega) (by omega) (by omega) (cls_chain l x) (cls_chain l y) (fun c hc => (wf_of (hr.2.1 c hc)).1.k1) σ
  simp only [clsV, Bool.false_eq_true, if_false] at hw ⊢
  refine ACalls.of_body Try.func28 rfl rfl (by simp [Try.ntmps28]) ?_
  repeat (first
    | (with_reducible apply AWp.seq)
    | (with_reducible apply AWp.block)
    | ((with_reducible apply AWp.fork); simp -implicitDefEqProofs)
    | ((with_reducible apply AWp.region); simp -implicitDefEqProofs)
    | (with_reducible refine And.intro (by first | omega | assumption | decide) ?_)
    | ((with_reducible apply aCall.id); first
        | ((apply aCall.gives (hw _)); simp -implicitDefEqProofs))
    | ((with_reducible apply AWp.ret); try simp -implicitDefEqProofs)
    | ((with_reducible apply AWp.skip); try simp -implicitDefEqProofs)
    | ((with_reducible apply AWp.exit); try simp -implicitDefEqProofs))
theorem rLeave_ok (l : List Cl) (o : Own) (nl : Bool) (n x y : Int) (hr : RightL n l) (hn : n ≤ 100000) (σ : AS) :
    ACalls Try.prog 29 [clsV l o nl, .sc (.int .i64 x), .sc (.int .i64 y)] σ (Gives (.sc (.bool (leaveS l (chainS l y) y (chainS l x)))) σ) No := by
  have h6 := hr.1
  have hla := chainS_len l x
  have hlb := chainS_len l y
  have hw := fun σ => ways_ok l o nl x y true (chainS l x) (chainS l y) (chain_doc hr hn) (chain_doc hr hn) (by omega) (by omega) (by omega) (cls_chain l x) (cls_chain l y) (fun c hc => (wf_of (hr.2.1 c hc)).1.k1) σ
  simp only [clsV, if_true] at hw ⊢
  refine ACalls.of_body Try.func29 rfl rfl (by simp [Try.ntmps29]) ?_
  repeat (first
    | (with_reducible apply AWp.seq)
    | (with_reducible apply AWp.block)
    | ((with_reducible apply AWp.fork); simp -implicitDefEqProofs)
    | ((with_reducible apply AWp.region); simp -implicitDefEqProofs)
    | (with_reducible refine And.intro (by first | omega | assumption | decide) ?_)
    | ((with_reducible apply aCall.id); first
        | ((apply aCall.gives (hw _)); simp -implicitDefEqProofs))
    | ((with_reducible apply AWp.ret); try simp -implicitDefEqProofs)
    | ((with_reducible apply AWp.skip); try simp -implicitDefEqProofs)
    | ((with_reducible apply AWp.exit); try simp -implicitDefEqProofs))

theorem sints_ok (l m : List Int) (o1 o2 : Own) (n1 n2 : Bool) (hl : l.length ≤ 140737488355328) (hm : m.length ≤ 140737488355328) (σ : AS) :
    ACalls Try.prog 49 [.lst 3 (l.map i64v) o1 n1, .lst 3 (m.map i64v) o2 n2] σ (Gives (.sc (.bool (decide (l = m)))) σ) No := by
  refine ACalls.of_body Try.func49 rfl rfl (by simp [Try.ntmps49]) ?_
  by_cases hlen : l.length = m.length
  · repeat (first
      | (with_reducible apply AWp.seq)
      | (with_reducible apply AWp.block)
      | ((with_reducible apply AWp.fork); simp -implicitDefEqProofs [hlen, ci_lt, ci_le])
      | ((with_reducible apply AWp.region); simp -implicitDefEqProofs [hlen, ci_lt, ci_le])
      | (with_reducible refine And.intro (by first | omega | assumption | decide) ?_)
      | ((with_reducible show condK _ _ _); simp -implicitDefEqProofs [hlen, ci_lt, ci_le])
      | ((with_reducible show guardK _ _ _ _ _ _ _ _ _); simp -implicitDefEqProofs [hlen, ci_lt, ci_le])
      | (((with_reducible apply AWp.drawS (id := 6) (t := (Sch.step 0 (Sch.step 1 (Sch.step 2 (Sch.step 4 (Sch.step 5 (Sch.step 6 (Sch.read 3 (Sch.read 7 (Sch.step 8 Sch.done))))))))))); (exact mixed); kernel_rfl; kernel_rfl; (repeat (with_reducible first | apply PanQ.then | apply PanQ.block | apply PanQ.body | apply PanQ.no))); simp -implicitDefEqProofs [hlen, ci_lt, ci_le])
      | ((with_reducible apply AWp.ret); try simp -implicitDefEqProofs [hlen, ci_lt, ci_le])
      | ((with_reducible apply AWp.skip); try simp -implicitDefEqProofs [hlen, ci_lt, ci_le])
      | ((with_reducible apply AWp.exit); try simp -implicitDefEqProofs [hlen, ci_lt, ci_le]))
    refine AWp.loopA (α := (Nat)) (0) (fun i => l.length - i) (fun i => i ≤ l.length ∧ (l = m ↔ l.drop i = m.drop i)) [(0, ?_), (1, ?_)] (fun i => [(5, .sc (.int .i64 i))]) (fun i => σ) ?_ ?_ ?_ ?_
    rotate_left 2
    · (try dsimp only); (simp only [List.cons_append, List.nil_append]; repeat (first | exact FrWk.nil | refine FrWk.cons (by first | (simp -implicitDefEqProofs [ci_lt, ci_le]; done) | exact Wk.of (by (try simp -implicitDefEqProofs [ci_lt, ci_le]) <;> rfl)) ?_))
    · (try dsimp only); (first | exact AS.le_refl _ | assumption | (repeat (first | exact AS.le_refl _ | assumption | refine le_new (by simp [*]) ?_)))
    · (try dsimp only) <;> first | exact trivial | exact ⟨by omega, rfl⟩ | omega | (simp; done) | exact ⟨by omega, by simp⟩ | exact ⟨by omega, by simp, rfl⟩
    intro i hx_
    try dsimp only at hx_ ⊢
    obtain ⟨hi, hX⟩ := hx_
    simp only [List.cons_append, List.nil_append]
    by_cases hlt : i < l.length
    · have wi_i : IntKind.i64.wrap ((i : Int) + 1) = ((i + 1 : Nat) : Int) := ci_wi (by omega)
      have hlt2 : i < m.length := by omega
      rw [List.drop_eq_getElem_cons hlt, List.drop_eq_getElem_cons hlt2, List.cons.injEq] at hX
      generalize hx : l[i] = x at *
      generalize hy : m[i] = y at *
      by_cases hc : x = y
      · repeat (first
          | (with_reducible apply AWp.seq)
          | (with_reducible apply AWp.block)
          | ((with_reducible apply AWp.fork); simp -implicitDefEqProofs [← hlen, hlt, hlt2, hx, hy, hc, i64v_def, ci_lt, ci_le, wi_i])
          | ((with_reducible apply AWp.region); simp -implicitDefEqProofs [← hlen, hlt, hlt2, hx, hy, hc, i64v_def, ci_lt, ci_le, wi_i])
          | (with_reducible refine And.intro (by first | omega | assumption | decide) ?_)
          | ((with_reducible show condK _ _ _); simp -implicitDefEqProofs [← hlen, hlt, hlt2, hx, hy, hc, i64v_def, ci_lt, ci_le, wi_i])
          | ((with_reducible show guardK _ _ _ _ _ _ _ _ _); simp -implicitDefEqProofs [← hlen, hlt, hlt2, hx, hy, hc, i64v_def, ci_lt, ci_le, wi_i])
          | (((with_reducible apply AWp.drawS (id := 6) (t := (Sch.step 0 (Sch.step 1 (Sch.step 2 (Sch.step 4 (Sch.step 5 (Sch.step 6 (Sch.read 3 (Sch.read 7 (Sch.step 8 Sch.done))))))))))); (exact mixed); kernel_rfl; kernel_rfl; (repeat (with_reducible first | apply PanQ.then | apply PanQ.block | apply PanQ.body | apply PanQ.no))); simp -implicitDefEqProofs [← hlen, hlt, hlt2, hx, hy, hc, i64v_def, ci_lt, ci_le, wi_i])
          | ((with_reducible apply AWp.ret); try simp -implicitDefEqProofs [← hlen, hlt, hlt2, hx, hy, hc, i64v_def, ci_lt, ci_le, wi_i])
          | ((with_reducible apply AWp.skip); try simp -implicitDefEqProofs [← hlen, hlt, hlt2, hx, hy, hc, i64v_def, ci_lt, ci_le, wi_i])
          | ((with_reducible apply AWp.exit); try simp -implicitDefEqProofs [← hlen, hlt, hlt2, hx, hy, hc, i64v_def, ci_lt, ci_le, wi_i]))
        refine stepA.mk (i + 1) (by (try dsimp only); omega) (by (try dsimp only); (simp only [List.cons_append, List.nil_append]; repeat (first | exact FrWk.nil | refine FrWk.cons (by first | (simp -implicitDefEqProofs [ci_lt, ci_le, wi_i]; done) | exact Wk.of (by (try simp -implicitDefEqProofs [ci_lt, ci_le, wi_i]) <;> rfl)) ?_))) (by (try dsimp only); (first | exact AS.le_refl _ | assumption | (repeat (first | exact AS.le_refl _ | assumption | refine le_new (by simp [*]) ?_)))) ?_
        try dsimp only
        exact ⟨by omega, hX.trans ⟨fun h => h.2, fun h => ⟨hc, h⟩⟩⟩
      · have hR : decide (l = m) = false := by
          simp only [decide_eq_false_iff_not]
          intro h; exact hc (hX.1 h).1
        rw [hR]
        repeat (first
          | (with_reducible apply AWp.seq)
          | (with_reducible apply AWp.block)
          | ((with_reducible apply AWp.fork); simp -implicitDefEqProofs [← hlen, hlt, hlt2, hx, hy, hc, i64v_def, ci_lt, ci_le, wi_i])
          | ((with_reducible apply AWp.region); simp -implicitDefEqProofs [← hlen, hlt, hlt2, hx, hy, hc, i64v_def, ci_lt, ci_le, wi_i])
          | (with_reducible refine And.intro (by first | omega | assumption | decide) ?_)
          | ((with_reducible show condK _ _ _); simp -implicitDefEqProofs [← hlen, hlt, hlt2, hx, hy, hc, i64v_def, ci_lt, ci_le, wi_i])
          | ((with_reducible show guardK _ _ _ _ _ _ _ _ _); simp -implicitDefEqProofs [← hlen, hlt, hlt2, hx, hy, hc, i64v_def, ci_lt, ci_le, wi_i])
          | (((with_reducible apply AWp.drawS (id := 6) (t := (Sch.step 0 (Sch.step 1 (Sch.step 2 (Sch.step 4 (Sch.step 5 (Sch.step 6 (Sch.read 3 (Sch.read 7 (Sch.step 8 Sch.done))))))))))); (exact mixed); kernel_rfl; kernel_rfl; (repeat (with_reducible first | apply PanQ.then | apply PanQ.block | apply PanQ.body | apply PanQ.no))); simp -implicitDefEqProofs [← hlen, hlt, hlt2, hx, hy, hc, i64v_def, ci_lt, ci_le, wi_i])
          | ((with_reducible apply AWp.ret); try simp -implicitDefEqProofs [← hlen, hlt, hlt2, hx, hy, hc, i64v_def, ci_lt, ci_le, wi_i])
          | ((with_reducible apply AWp.skip); try simp -implicitDefEqProofs [← hlen, hlt, hlt2, hx, hy, hc, i64v_def, ci_lt, ci_le, wi_i])
          | ((with_reducible apply AWp.exit); try simp -implicitDefEqProofs [← hlen, hlt, hlt2, hx, hy, hc, i64v_def, ci_lt, ci_le, wi_i]))
    · rw [List.drop_eq_nil_of_le (by omega), List.drop_eq_nil_of_le (by omega)] at hX
      have hR : decide (l = m) = true := by simp only [decide_eq_true_eq]; exact hX.2 rfl
      rw [hR]
      repeat (first
        | (with_reducible apply AWp.seq)
        | (with_reducible apply AWp.block)
        | ((with_reducible apply AWp.fork); simp -implicitDefEqProofs [← hlen, hlt, ci_lt, ci_le])
        | ((with_reducible apply AWp.region); simp -implicitDefEqProofs [← hlen, hlt, ci_lt, ci_le])
        | (with_reducible refine And.intro (by first | omega | assumption | decide) ?_)
        | ((with_reducible show condK _ _ _); simp -implicitDefEqProofs [← hlen, hlt, ci_lt, ci_le])
        | ((with_reducible show guardK _ _ _ _ _ _ _ _ _); simp -implicitDefEqProofs [← hlen, hlt, ci_lt, ci_le])
        | (((with_reducible apply AWp.drawS (id := 6) (t := (Sch.step 0 (Sch.step 1 (Sch.step 2 (Sch.step 4 (Sch.step 5 (Sch.step 6 (Sch.read 3 (Sch.read 7 (Sch.step 8 Sch.done))))))))))); (exact mixed); kernel_rfl; kernel_rfl; (repeat (with_reducible first | apply PanQ.then | apply PanQ.block | apply PanQ.body | apply PanQ.no))); simp -implicitDefEqProofs [← hlen, hlt, ci_lt, ci_le])
        | ((with_reducible apply AWp.ret); try simp -implicitDefEqProofs [← hlen, hlt, ci_lt, ci_le])
        | ((with_reducible apply AWp.skip); try simp -implicitDefEqProofs [← hlen, hlt, ci_lt, ci_le])
        | ((with_reducible apply AWp.exit); try simp -implicitDefEqProofs [← hlen, hlt, ci_lt, ci_le]))
  · have hR : decide (l = m) = false := by
      simp only [decide_eq_false_iff_not]; intro h; exact hlen (by rw [h])
    rw [hR]
    repeat (first
      | (with_reducible apply AWp.seq)
      | (with_reducible apply AWp.block)
      | ((with_reducible apply AWp.fork); simp -implicitDefEqProofs [hlen, ci_lt, ci_le])
      | ((with_reducible apply AWp.region); simp -implicitDefEqProofs [hlen, ci_lt, ci_le])
      | (with_reducible refine And.intro (by first | omega | assumption | decide) ?_)
      | ((with_reducible show condK _ _ _); simp -implicitDefEqProofs [hlen, ci_lt, ci_le])
      | ((with_reducible show guardK _ _ _ _ _ _ _ _ _); simp -implicitDefEqProofs [hlen, ci_lt, ci_le])
      | (((with_reducible apply AWp.drawS (id := 6) (t := (Sch.step 0 (Sch.step 1 (Sch.step 2 (Sch.step 4 (Sch.step 5 (Sch.step 6 (Sch.read 3 (Sch.read 7 (Sch.step 8 Sch.done))))))))))); (exact mixed); kernel_rfl; kernel_rfl; (repeat (with_reducible first | apply PanQ.then | apply PanQ.block | apply PanQ.body | apply PanQ.no))); simp -implicitDefEqProofs [hlen, ci_lt, ci_le])
      | ((with_reducible apply AWp.ret); try simp -implicitDefEqProofs [hlen, ci_lt, ci_le])
      | ((with_reducible apply AWp.skip); try simp -implicitDefEqProofs [hlen, ci_lt, ci_le])
      | ((with_reducible apply AWp.exit); try simp -implicitDefEqProofs [hlen, ci_lt, ci_le]))
theorem sints9_ok (l m : List Int) (o1 o2 : Own) (n1 n2 : Bool) (hl : l.length ≤ 140737488355328) (hm : m.length ≤ 140737488355328) (σ : AS) :
    ACalls Try.prog 21 [.lst 3 (l.map i64v) o1 n1, .lst 3 (m.map i64v) o2 n2] σ (Gives (.sc (.bool (decide (l = m)))) σ) No := by
  have hs := sints_ok l m o1 o2 n1 n2 hl hm σ
  refine ACalls.of_body Try.func21 rfl rfl (by simp [Try.ntmps21]) ?_
  repeat (first
    | (with_reducible apply AWp.seq)
    | (with_reducible apply AWp.block)
    | ((with_reducible apply AWp.fork); simp -implicitDefEqProofs)
    | ((with_reducible apply AWp.region); simp -implicitDefEqProofs)
    | (with_reducible refine And.intro (by first | omega | assumption | decide) ?_)
    | ((with_reducible apply aCall.id); first
        | ((apply aCall.gives (hs)); simp -implicitDefEqProofs))
    | ((with_reducible apply AWp.ret); try simp -implicitDefEqProofs)
    | ((with_reducible apply AWp.skip); try simp -implicitDefEqProofs)
    | ((with_reducible apply AWp.exit); try simp -implicitDefEqProofs))

end Go.Proofs.Ythbmjmdmamapiaa
