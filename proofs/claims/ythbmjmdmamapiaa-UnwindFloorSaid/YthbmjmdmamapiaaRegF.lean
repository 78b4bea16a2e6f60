/- Chapter 09: the document's Pass and Leave. -/
import Derived.Test.YthbmjmdmamapiaaRegE
set_option linter.unusedSimpArgs false
set_option linter.unusedVariables false
set_option maxRecDepth 100000
set_option maxHeartbeats 3200000
namespace Go.Proofs.Ythbmjmdmamapiaa
open Go Go.AW

theorem entS_step {x : Int} : ∀ {B : List Pt} {k : Nat} (hk : k < B.length), k ≤ entS x B → (((B[k]).p = 1 ∧ (B[k]).s.f = x) → k + 1 ≤ entS x B) ∧ (¬ ((B[k]).p = 1 ∧ (B[k]).s.f = x) → entS x B = k) := by
  intro B
  induction B with
  | nil => intro k hk; simp at hk
  | cons y r ih =>
    intro k hk h
    rw [entS] at h ⊢
    cases k with
    | zero =>
      simp only [List.getElem_cons_zero]
      exact ⟨fun h1 => by rw [if_pos h1]; omega, fun h1 => by rw [if_neg h1]⟩
    | succ k =>
      simp only [List.getElem_cons_succ]
      split at h
      · rename_i h0
        rw [if_pos h0]
        have := ih (k := k) (by simpa using hk) (by omega)
        exact ⟨fun h1 => by have := this.1 h1; omega, fun h1 => by rw [this.2 h1]⟩
      · omega

/-- What stands in a chain, and its clause. -/
def Cls (l : List Cl) (B : List Pt) : Prop := ∀ p ∈ B, ∃ (i : Nat) (c : Cl), l[i]? = some c ∧ p.k = i ∧ (p.p = 1 → p.s.f = c.tf)
theorem cls_chain (l : List Cl) (x : Int) : Cls l (chainS l x) := by
  intro p hp
  obtain ⟨i, c, h1, h2, _⟩ := mem_chain hp
  refine ⟨i, c, h1, (parts_k h2).1, fun h => ?_⟩
  unfold partsS at h2
  split at h2 <;> simp at h2
  · rcases h2 with rfl | rfl | rfl
    · rfl
    · simp at h
    · simp at h
  · rcases h2 with rfl | rfl
    · rfl
    · simp at h

theorem ways_ok (l : List Cl) (o : Own) (nl : Bool) (x y : Int) (out : Bool) (A B : List Pt) (hA : DocC l x 0 A) (hB : DocC l y 0 B) (hal : A.length ≤ 1000) (hbl : B.length ≤ 1000) (hl : l.length ≤ 1000)
    (cA : Cls l A) (cB : Cls l B) (hk1 : ∀ c ∈ l, 1 ≤ c.k) (σ : AS) :
    ACalls Try.prog 56 [clsV l o nl, .sc (.int .i64 x), .sc (.int .i64 y), .sc (.bool out)] σ (Gives (.sc (.bool (if out = true then leaveS l B y A else hitB B y A))) σ) No := by
  have hca := fun σ => rchain_ok l o nl x A hA hal hl σ
  have hcb := fun σ => rchain_ok l o nl y B hB hbl hl σ
  have hop := fun p i c h1 h2 h3 σ => opens_ok l o nl p i c h1 h2 h3 y hl σ
  simp only [clsV] at hca hcb hop ⊢
  refine ACalls.of_body Try.func56 rfl rfl (by simp [Try.ntmps56]) ?_
  repeat (first
    | (with_reducible apply AWp.seq)
    | (with_reducible apply AWp.block)
    | ((with_reducible apply AWp.fork); simp -implicitDefEqProofs [ci_lt, ci_le])
    | ((with_reducible apply AWp.region); simp -implicitDefEqProofs [ci_lt, ci_le])
    | (with_reducible refine And.intro (by first | omega | assumption | decide) ?_)
    | ((with_reducible show condK _ _ _); simp -implicitDefEqProofs [ci_lt, ci_le])
    | ((with_reducible show guardK _ _ _ _ _ _ _ _ _); simp -implicitDefEqProofs [ci_lt, ci_le])
    | ((with_reducible apply aCall.id); first
        | ((apply aCall.gives (hca _)); simp -implicitDefEqProofs [ci_lt, ci_le])
        | ((apply aCall.gives (hcb _)); simp -implicitDefEqProofs [ci_lt, ci_le]))
    | ((with_reducible apply AWp.ret); try simp -implicitDefEqProofs [ci_lt, ci_le])
    | ((with_reducible apply AWp.skip); try simp -implicitDefEqProofs [ci_lt, ci_le])
    | ((with_reducible apply AWp.exit); try simp -implicitDefEqProofs [ci_lt, ci_le]))
  refine AWp.loopA (α := (Nat)) (0) (fun i => A.length + 1 - i) (fun i => i ≤ A.length ∧ (0 < i → out = true) ∧ (if out = true then leaveS l B y A else hitB B y A) = (if out = true then leaveS l B y (A.drop i) else hitB B y (A.drop i))) [(0, ?_), (2, ?_), (3, ?_), (9, ?_), (10, ?_)] (fun i => [(11, .sc (.int .i64 i))]) (fun i => σ) ?_ ?_ ?_ ?_
  rotate_left 5
  · (try dsimp only); (simp only [List.cons_append, List.nil_append]; repeat (first | exact FrWk.nil | refine FrWk.cons (by first | (simp -implicitDefEqProofs [ci_lt, ci_le]; done) | exact Wk.of (by (try simp -implicitDefEqProofs [ci_lt, ci_le]) <;> rfl)) ?_))
  · (try dsimp only); (first | exact AS.le_refl _ | assumption | (repeat (first | exact AS.le_refl _ | assumption | refine le_new (by simp [*]) ?_)))
  · exact ⟨by omega, by simp, rfl⟩
  intro i hx_
  try dsimp only at hx_ ⊢
  obtain ⟨hi, ho, hL⟩ := hx_
  simp only [List.cons_append, List.nil_append]
  rw [hL]
  have wi_i : IntKind.i64.wrap ((i : Int) + 1) = ((i + 1 : Nat) : Int) := ci_wi (by omega)
  have hi' : ((i : Int) ≤ A.length) = True := by simp; omega
  have hyes : hitB B y (A.drop i) = true → (if out = true then leaveS l B y (A.drop i) else hitB B y (A.drop i)) = true := by
    intro h
    cases out with
    | false => simpa using h
    | true =>
      simp only [if_true]
      cases hd : A.drop i with
      | nil => rw [hd] at h; simpa [leaveS] using h
      | cons z r => rw [hd] at h; simp [leaveS, h]
  repeat (first
    | (with_reducible apply AWp.seq)
    | (with_reducible apply AWp.block)
    | ((with_reducible apply AWp.fork); simp -implicitDefEqProofs [hi', ci_lt, ci_le, wi_i])
    | ((with_reducible apply AWp.region); simp -implicitDefEqProofs [hi', ci_lt, ci_le, wi_i])
    | (with_reducible refine And.intro (by first | omega | assumption | decide) ?_)
    | ((with_reducible show condK _ _ _); simp -implicitDefEqProofs [hi', ci_lt, ci_le, wi_i])
    | ((with_reducible show guardK _ _ _ _ _ _ _ _ _); simp -implicitDefEqProofs [hi', ci_lt, ci_le, wi_i])
    | ((with_reducible apply AWp.ret); try simp -implicitDefEqProofs [hi', ci_lt, ci_le, wi_i])
    | ((with_reducible apply AWp.skip); try simp -implicitDefEqProofs [hi', ci_lt, ci_le, wi_i])
    | ((with_reducible apply AWp.exit); try simp -implicitDefEqProofs [hi', ci_lt, ci_le, wi_i]))
  refine AWp.loopA (α := (Nat)) (0) (fun k => B.length + 1 - k) (fun k => k ≤ B.length + 1 ∧ (k ≤ B.length → k ≤ entS y B) ∧ ∀ j, j < k → ¬ rgs (B.drop j) = rgs (A.drop i)) [(0, ?_), (2, ?_), (3, ?_), (9, ?_), (10, ?_), (11, ?_), (20, ?_), (21, ?_), (22, ?_), (23, ?_)] (fun k => [(12, .sc (.int .i64 k))]) (fun k => σ) ?_ ?_ ?_ ?_
  rotate_left 10
  · (try dsimp only); (simp only [List.cons_append, List.nil_append]; repeat (first | exact FrWk.nil | refine FrWk.cons (by first | (simp -implicitDefEqProofs [ci_lt, ci_le, wi_i]; done) | exact Wk.of (by (try simp -implicitDefEqProofs [ci_lt, ci_le, wi_i]) <;> rfl)) ?_))
  · (try dsimp only); (first | exact AS.le_refl _ | assumption | (repeat (first | exact AS.le_refl _ | assumption | refine le_new (by simp [*]) ?_)))
  · exact ⟨by omega, by omega, fun j hj => by omega⟩
  intro k hx_
  try dsimp only at hx_ ⊢
  obtain ⟨hk, hke, hX⟩ := hx_
  simp only [List.cons_append, List.nil_append]
  by_cases hgo : k ≤ B.length ∧ (rgs (A.drop i) = rgs (B.drop k) ∨ k = B.length ∨ ∃ h : k < B.length, (B[k].p = 1 ∧ B[k].s.f = y))
  · have wi_k : IntKind.i64.wrap ((k : Int) + 1) = ((k + 1 : Nat) : Int) := ci_wi (by omega)
    obtain ⟨hkb, hgo⟩ := hgo
    have hke' := hke hkb
    have hs := fun σ => rsame_ok A B i k .unk .unk (decide (A = [])) (decide (B = [])) hal hbl hi hkb σ
    by_cases hq : rgs (A.drop i) = rgs (B.drop k)
    · rw [hyes (hitB_yes hke' hq.symm)]
      simp only [hq, decide_true] at hs
      repeat (first
        | (with_reducible apply AWp.seq)
        | (with_reducible apply AWp.block)
        | ((with_reducible apply AWp.fork); simp -implicitDefEqProofs [hkb, ci_lt, ci_le, wi_i, wi_k])
        | ((with_reducible apply AWp.region); simp -implicitDefEqProofs [hkb, ci_lt, ci_le, wi_i, wi_k])
        | (with_reducible refine And.intro (by first | omega | assumption | decide) ?_)
        | ((with_reducible show condK _ _ _); simp -implicitDefEqProofs [hkb, ci_lt, ci_le, wi_i, wi_k])
        | ((with_reducible show guardK _ _ _ _ _ _ _ _ _); simp -implicitDefEqProofs [hkb, ci_lt, ci_le, wi_i, wi_k])
        | ((with_reducible apply aCall.id); first
            | ((apply aCall.gives (hs _)); simp -implicitDefEqProofs [hkb, ci_lt, ci_le, wi_i, wi_k]))
        | ((with_reducible apply AWp.ret); try simp -implicitDefEqProofs [hkb, ci_lt, ci_le, wi_i, wi_k])
        | ((with_reducible apply AWp.skip); try simp -implicitDefEqProofs [hkb, ci_lt, ci_le, wi_i, wi_k])
        | ((with_reducible apply AWp.exit); try simp -implicitDefEqProofs [hkb, ci_lt, ci_le, wi_i, wi_k]))
    · simp only [hq, decide_false] at hs
      have hX' : ∀ j, j < k + 1 → ¬ rgs (B.drop j) = rgs (A.drop i) := fun j hj => by
        by_cases e : j = k
        · rw [e]; exact fun h => hq h.symm
        · exact hX j (by omega)
      rcases hgo with hgo | hgo | ⟨hlt, hgo⟩
      · exact absurd hgo hq
      · have hnl : ¬ k < B.length := by omega
        repeat (first
          | (with_reducible apply AWp.seq)
          | (with_reducible apply AWp.block)
          | ((with_reducible apply AWp.fork); simp -implicitDefEqProofs [hkb, hnl, ci_lt, ci_le, wi_i, wi_k])
          | ((with_reducible apply AWp.region); simp -implicitDefEqProofs [hkb, hnl, ci_lt, ci_le, wi_i, wi_k])
          | (with_reducible refine And.intro (by first | omega | assumption | decide) ?_)
          | ((with_reducible show condK _ _ _); simp -implicitDefEqProofs [hkb, hnl, ci_lt, ci_le, wi_i, wi_k])
          | ((with_reducible show guardK _ _ _ _ _ _ _ _ _); simp -implicitDefEqProofs [hkb, hnl, ci_lt, ci_le, wi_i, wi_k])
          | ((with_reducible apply aCall.id); first
              | ((apply aCall.gives (hs _)); simp -implicitDefEqProofs [hkb, hnl, ci_lt, ci_le, wi_i, wi_k]))
          | ((with_reducible apply AWp.ret); try simp -implicitDefEqProofs [hkb, hnl, ci_lt, ci_le, wi_i, wi_k])
          | ((with_reducible apply AWp.skip); try simp -implicitDefEqProofs [hkb, hnl, ci_lt, ci_le, wi_i, wi_k])
          | ((with_reducible apply AWp.exit); try simp -implicitDefEqProofs [hkb, hnl, ci_lt, ci_le, wi_i, wi_k]))
        refine stepA.mk (k + 1) (by (try dsimp only); omega) (by (try dsimp only); (simp only [List.cons_append, List.nil_append]; repeat (first | exact FrWk.nil | refine FrWk.cons (by first | (simp -implicitDefEqProofs [ci_lt, ci_le, wi_i, wi_k]; done) | exact Wk.of (by (try simp -implicitDefEqProofs [ci_lt, ci_le, wi_i, wi_k]) <;> rfl)) ?_))) (by (try dsimp only); (first | exact AS.le_refl _ | assumption | (repeat (first | exact AS.le_refl _ | assumption | refine le_new (by simp [*]) ?_)))) ?_
        try dsimp only
        exact ⟨by omega, fun h => by omega, hX'⟩
      · have hes := (entS_step hlt hke').1 hgo
        obtain ⟨q, c, c1, c2, c3⟩ := cB B[k] (List.getElem_mem hlt)
        have hop' := hop _ q c c1 c2 c3
        have hgo' := decide_eq_true hgo
        rw [hgo'] at hop'
        generalize hz : B[k] = z at *
        simp only [rgV] at hop'
        repeat (first
          | (with_reducible apply AWp.seq)
          | (with_reducible apply AWp.block)
          | ((with_reducible apply AWp.fork); simp -implicitDefEqProofs [hkb, hlt, hz, rgV, ci_lt, ci_le, wi_i, wi_k])
          | ((with_reducible apply AWp.region); simp -implicitDefEqProofs [hkb, hlt, hz, rgV, ci_lt, ci_le, wi_i, wi_k])
          | (with_reducible refine And.intro (by first | omega | assumption | decide) ?_)
          | ((with_reducible show condK _ _ _); simp -implicitDefEqProofs [hkb, hlt, hz, rgV, ci_lt, ci_le, wi_i, wi_k])
          | ((with_reducible show guardK _ _ _ _ _ _ _ _ _); simp -implicitDefEqProofs [hkb, hlt, hz, rgV, ci_lt, ci_le, wi_i, wi_k])
          | ((with_reducible apply aCall.id); first
              | ((apply aCall.gives (hs _)); simp -implicitDefEqProofs [hkb, hlt, hz, rgV, ci_lt, ci_le, wi_i, wi_k])
              | ((apply aCall.gives (hop' _)); simp -implicitDefEqProofs [hkb, hlt, hz, rgV, ci_lt, ci_le, wi_i, wi_k]))
          | ((with_reducible apply AWp.ret); try simp -implicitDefEqProofs [hkb, hlt, hz, rgV, ci_lt, ci_le, wi_i, wi_k])
          | ((with_reducible apply AWp.skip); try simp -implicitDefEqProofs [hkb, hlt, hz, rgV, ci_lt, ci_le, wi_i, wi_k])
          | ((with_reducible apply AWp.exit); try simp -implicitDefEqProofs [hkb, hlt, hz, rgV, ci_lt, ci_le, wi_i, wi_k]))
        refine stepA.mk (k + 1) (by (try dsimp only); omega) (by (try dsimp only); (simp only [List.cons_append, List.nil_append]; repeat (first | exact FrWk.nil | refine FrWk.cons (by first | (simp -implicitDefEqProofs [ci_lt, ci_le, wi_i, wi_k]; done) | exact Wk.of (by (try simp -implicitDefEqProofs [ci_lt, ci_le, wi_i, wi_k]) <;> rfl)) ?_))) (by (try dsimp only); (first | exact AS.le_refl _ | assumption | (repeat (first | exact AS.le_refl _ | assumption | refine le_new (by simp [*]) ?_)))) ?_
        try dsimp only
        exact ⟨by omega, fun h => hes, hX'⟩
  · have hno : hitB B y (A.drop i) = false ∧ (k ≤ B.length → ∃ h : k < B.length, ¬ rgs (A.drop i) = rgs (B.drop k) ∧ ¬ (B[k].p = 1 ∧ B[k].s.f = y)) := by
      by_cases hkb : k ≤ B.length
      · have h1 : ¬ rgs (A.drop i) = rgs (B.drop k) := fun h => hgo ⟨hkb, .inl h⟩
        have h2 : k < B.length := by
          rcases Nat.lt_or_ge k B.length with h | h
          · exact h
          · exact absurd ⟨hkb, .inr (.inl (by omega))⟩ hgo
        have h3 : ¬ (B[k].p = 1 ∧ B[k].s.f = y) := fun h => hgo ⟨hkb, .inr (.inr ⟨h2, h⟩)⟩
        have he := (entS_step h2 (hke hkb)).2 h3
        refine ⟨hitB_no fun j hj => ?_, fun _ => ⟨h2, h1, h3⟩⟩
        by_cases e : j = k
        · rw [e]; exact fun h => h1 h.symm
        · exact hX j (by omega)
      · have := entS_le y B
        exact ⟨hitB_no fun j hj => hX j (by omega), fun h => absurd h hkb⟩
    obtain ⟨hno, hst⟩ := hno
    -- the rest, behind the inner loop
    have hrest : ∀ w : Int, (out = false ∧ (if out = true then leaveS l B y (A.drop i) else hitB B y (A.drop i)) = false) ∨ (out = true ∧ i = A.length ∧ (if out = true then leaveS l B y (A.drop i) else hitB B y (A.drop i)) = false) ∨
        (out = true ∧ ∃ h : i < A.length, (if out = true then leaveS l B y (A.drop i) else hitB B y (A.drop i)) = (!stopB l A[i] && leaveS l B y (A.drop (i + 1)))) := by
      intro _
      cases out with
      | false => left; exact ⟨rfl, by simpa using hno⟩
      | true =>
        right
        by_cases h : i < A.length
        · right
          refine ⟨rfl, h, ?_⟩
          simp only [if_true]
          rw [List.drop_eq_getElem_cons h] at hno ⊢
          rw [leaveS, hno]; simp
        · left
          have : i = A.length := by omega
          refine ⟨rfl, this, ?_⟩
          simp only [if_true]
          rw [List.drop_eq_nil_of_le (by omega)] at hno ⊢
          simpa [leaveS] using hno
    have hone : (k ≤ B.length ∧ ∃ h : k < B.length, ¬ rgs (A.drop i) = rgs (B.drop k) ∧ ¬ (B[k].p = 1 ∧ B[k].s.f = y)) ∨ ¬ k ≤ B.length := by
      by_cases h : k ≤ B.length
      · exact .inl ⟨h, hst h⟩
      · exact .inr h
    clear hgo hst
    have hkk : ∀ h : i < A.length, ∃ (q : Nat) (c : Cl), ∃ hq : q < l.length, l[q] = c ∧ 1 ≤ c.k ∧ (A[i]).k = q ∧ stopB l A[i] = (decide ((A[i]).p = 3) || (decide ((A[i]).p = 2) && decide (2 < c.k))) := by
      intro h
      obtain ⟨q, c, c1, c2, _⟩ := cA A[i] (List.getElem_mem h)
      obtain ⟨hq, c1⟩ := List.getElem?_eq_some_iff.1 c1
      have h1 := hk1 c (c1 ▸ List.getElem_mem hq)
      refine ⟨q, c, hq, c1, h1, c2, ?_⟩
      have hkd : (l.map (·.k)).getD (A[i]).k.toNat 0 = c.k := by
        rw [c2, ← c1]; simp [List.getD_eq_getElem?_getD, hq]
      rw [stopB, hkd]
      congr 2
      rw [Bool.eq_iff_iff]
      simp
      omega
    rcases hrest 0 with ⟨hout, hR⟩ | ⟨hout, hend, hR⟩ | ⟨hout, hlt, hR⟩
    · rw [hR]
      subst hout
      rcases hone with ⟨hkb, hlt, hq, hgo⟩ | hkb
      · have hs := fun σ => rsame_ok A B i k .unk .unk (decide (A = [])) (decide (B = [])) hal hbl hi hkb σ
        simp only [hq, decide_false] at hs
        obtain ⟨q, c, c1, c2, c3⟩ := cB B[k] (List.getElem_mem hlt)
        have hop' := hop _ q c c1 c2 c3
        rw [decide_eq_false hgo] at hop'
        generalize hz : B[k] = z at *
        simp only [rgV] at hop'
        repeat (first
          | (with_reducible apply AWp.seq)
          | (with_reducible apply AWp.block)
          | ((with_reducible apply AWp.fork); simp -implicitDefEqProofs [hkb, hlt, hz, rgV, ci_lt, ci_le, wi_i])
          | ((with_reducible apply AWp.region); simp -implicitDefEqProofs [hkb, hlt, hz, rgV, ci_lt, ci_le, wi_i])
          | (with_reducible refine And.intro (by first | omega | assumption | decide) ?_)
          | ((with_reducible show condK _ _ _); simp -implicitDefEqProofs [hkb, hlt, hz, rgV, ci_lt, ci_le, wi_i])
          | ((with_reducible show guardK _ _ _ _ _ _ _ _ _); simp -implicitDefEqProofs [hkb, hlt, hz, rgV, ci_lt, ci_le, wi_i])
          | ((with_reducible apply aCall.id); first
              | ((apply aCall.gives (hs _)); simp -implicitDefEqProofs [hkb, hlt, hz, rgV, ci_lt, ci_le, wi_i])
              | ((apply aCall.gives (hop' _)); simp -implicitDefEqProofs [hkb, hlt, hz, rgV, ci_lt, ci_le, wi_i]))
          | ((with_reducible apply AWp.ret); try simp -implicitDefEqProofs [hkb, hlt, hz, rgV, ci_lt, ci_le, wi_i])
          | ((with_reducible apply AWp.skip); try simp -implicitDefEqProofs [hkb, hlt, hz, rgV, ci_lt, ci_le, wi_i])
          | ((with_reducible apply AWp.exit); try simp -implicitDefEqProofs [hkb, hlt, hz, rgV, ci_lt, ci_le, wi_i]))
      · repeat (first
          | (with_reducible apply AWp.seq)
          | (with_reducible apply AWp.block)
          | ((with_reducible apply AWp.fork); simp -implicitDefEqProofs [hkb, ci_lt, ci_le, wi_i])
          | ((with_reducible apply AWp.region); simp -implicitDefEqProofs [hkb, ci_lt, ci_le, wi_i])
          | (with_reducible refine And.intro (by first | omega | assumption | decide) ?_)
          | ((with_reducible show condK _ _ _); simp -implicitDefEqProofs [hkb, ci_lt, ci_le, wi_i])
          | ((with_reducible show guardK _ _ _ _ _ _ _ _ _); simp -implicitDefEqProofs [hkb, ci_lt, ci_le, wi_i])
          | ((with_reducible apply AWp.ret); try simp -implicitDefEqProofs [hkb, ci_lt, ci_le, wi_i])
          | ((with_reducible apply AWp.skip); try simp -implicitDefEqProofs [hkb, ci_lt, ci_le, wi_i])
          | ((with_reducible apply AWp.exit); try simp -implicitDefEqProofs [hkb, ci_lt, ci_le, wi_i]))
    · rw [hR]
      subst hout
      have hend' : ((i : Int) = A.length) = True := by simp; omega
      rcases hone with ⟨hkb, hlt, hq, hgo⟩ | hkb
      · have hs := fun σ => rsame_ok A B i k .unk .unk (decide (A = [])) (decide (B = [])) hal hbl hi hkb σ
        simp only [hq, decide_false] at hs
        obtain ⟨q, c, c1, c2, c3⟩ := cB B[k] (List.getElem_mem hlt)
        have hop' := hop _ q c c1 c2 c3
        rw [decide_eq_false hgo] at hop'
        generalize hz : B[k] = z at *
        simp only [rgV] at hop'
        repeat (first
          | (with_reducible apply AWp.seq)
          | (with_reducible apply AWp.block)
          | ((with_reducible apply AWp.fork); simp -implicitDefEqProofs [hkb, hlt, hz, rgV, hend', ci_lt, ci_le, wi_i])
          | ((with_reducible apply AWp.region); simp -implicitDefEqProofs [hkb, hlt, hz, rgV, hend', ci_lt, ci_le, wi_i])
          | (with_reducible refine And.intro (by first | omega | assumption | decide) ?_)
          | ((with_reducible show condK _ _ _); simp -implicitDefEqProofs [hkb, hlt, hz, rgV, hend', ci_lt, ci_le, wi_i])
          | ((with_reducible show guardK _ _ _ _ _ _ _ _ _); simp -implicitDefEqProofs [hkb, hlt, hz, rgV, hend', ci_lt, ci_le, wi_i])
          | ((with_reducible apply aCall.id); first
              | ((apply aCall.gives (hs _)); simp -implicitDefEqProofs [hkb, hlt, hz, rgV, hend', ci_lt, ci_le, wi_i])
              | ((apply aCall.gives (hop' _)); simp -implicitDefEqProofs [hkb, hlt, hz, rgV, hend', ci_lt, ci_le, wi_i]))
          | ((with_reducible apply AWp.ret); try simp -implicitDefEqProofs [hkb, hlt, hz, rgV, hend', ci_lt, ci_le, wi_i])
          | ((with_reducible apply AWp.skip); try simp -implicitDefEqProofs [hkb, hlt, hz, rgV, hend', ci_lt, ci_le, wi_i])
          | ((with_reducible apply AWp.exit); try simp -implicitDefEqProofs [hkb, hlt, hz, rgV, hend', ci_lt, ci_le, wi_i]))
      · repeat (first
          | (with_reducible apply AWp.seq)
          | (with_reducible apply AWp.block)
          | ((with_reducible apply AWp.fork); simp -implicitDefEqProofs [hkb, hend', ci_lt, ci_le, wi_i])
          | ((with_reducible apply AWp.region); simp -implicitDefEqProofs [hkb, hend', ci_lt, ci_le, wi_i])
          | (with_reducible refine And.intro (by first | omega | assumption | decide) ?_)
          | ((with_reducible show condK _ _ _); simp -implicitDefEqProofs [hkb, hend', ci_lt, ci_le, wi_i])
          | ((with_reducible show guardK _ _ _ _ _ _ _ _ _); simp -implicitDefEqProofs [hkb, hend', ci_lt, ci_le, wi_i])
          | ((with_reducible apply AWp.ret); try simp -implicitDefEqProofs [hkb, hend', ci_lt, ci_le, wi_i])
          | ((with_reducible apply AWp.skip); try simp -implicitDefEqProofs [hkb, hend', ci_lt, ci_le, wi_i])
          | ((with_reducible apply AWp.exit); try simp -implicitDefEqProofs [hkb, hend', ci_lt, ci_le, wi_i]))
    · obtain ⟨q', c', hq', e1, e2, e3, e4⟩ := hkk hlt
      rw [hR]
      have hend' : ((i : Int) = A.length) = False := by simp; omega
      generalize hLV : leaveS l B y (A.drop (i + 1)) = LV at *
      generalize hw : A[i] = w at *
      have hp3 : (w.p = 3 ∧ stopB l w = true) ∨ (¬ w.p = 3 ∧ w.p = 2 ∧ 2 < c'.k ∧ stopB l w = true) ∨ (¬ w.p = 3 ∧ w.p = 2 ∧ ¬ 2 < c'.k ∧ stopB l w = false) ∨ (¬ w.p = 3 ∧ ¬ w.p = 2 ∧ stopB l w = false) := by
        by_cases h3 : w.p = 3
        · left; exact ⟨h3, by rw [e4]; simp [h3]⟩
        · by_cases h2 : w.p = 2
          · by_cases hk2 : 2 < c'.k
            · right; left; exact ⟨h3, h2, hk2, by rw [e4]; simp [h2, hk2]⟩
            · right; right; left; exact ⟨h3, h2, hk2, by rw [e4]; simp [h2]; omega⟩
          · right; right; right; exact ⟨h3, h2, by rw [e4]; simp [h3, h2]⟩
      rcases hone with ⟨hkb, hlt2, hq, hgo⟩ | hkb
      · have hs := fun σ => rsame_ok A B i k .unk .unk (decide (A = [])) (decide (B = [])) hal hbl hi hkb σ
        simp only [hq, decide_false] at hs
        obtain ⟨q, c, c1, c2, c3⟩ := cB B[k] (List.getElem_mem hlt2)
        have hop' := hop _ q c c1 c2 c3
        rw [decide_eq_false hgo] at hop'
        generalize hz : B[k] = z at *
        simp only [rgV] at hop'
        rcases hp3 with ⟨f1, f2⟩ | ⟨f1, f3, f4, f2⟩ | ⟨f1, f3, f4, f2⟩ | ⟨f1, f3, f2⟩
        · rw [f2]
          subst hout
          repeat (first
            | (with_reducible apply AWp.seq)
            | (with_reducible apply AWp.block)
            | ((with_reducible apply AWp.fork); simp -implicitDefEqProofs [hkb, hlt2, hz, rgV, hend', hlt, hw, e3, hq', e1, clV_def, f1, ci_lt, ci_le, wi_i])
            | ((with_reducible apply AWp.region); simp -implicitDefEqProofs [hkb, hlt2, hz, rgV, hend', hlt, hw, e3, hq', e1, clV_def, f1, ci_lt, ci_le, wi_i])
            | (with_reducible refine And.intro (by first | omega | assumption | decide) ?_)
            | ((with_reducible show condK _ _ _); simp -implicitDefEqProofs [hkb, hlt2, hz, rgV, hend', hlt, hw, e3, hq', e1, clV_def, f1, ci_lt, ci_le, wi_i])
            | ((with_reducible show guardK _ _ _ _ _ _ _ _ _); simp -implicitDefEqProofs [hkb, hlt2, hz, rgV, hend', hlt, hw, e3, hq', e1, clV_def, f1, ci_lt, ci_le, wi_i])
            | ((with_reducible apply aCall.id); first
                | ((apply aCall.gives (hs _)); simp -implicitDefEqProofs [hkb, hlt2, hz, rgV, hend', hlt, hw, e3, hq', e1, clV_def, f1, ci_lt, ci_le, wi_i])
                | ((apply aCall.gives (hop' _)); simp -implicitDefEqProofs [hkb, hlt2, hz, rgV, hend', hlt, hw, e3, hq', e1, clV_def, f1, ci_lt, ci_le, wi_i]))
            | ((with_reducible apply AWp.ret); try simp -implicitDefEqProofs [hkb, hlt2, hz, rgV, hend', hlt, hw, e3, hq', e1, clV_def, f1, ci_lt, ci_le, wi_i])
            | ((with_reducible apply AWp.skip); try simp -implicitDefEqProofs [hkb, hlt2, hz, rgV, hend', hlt, hw, e3, hq', e1, clV_def, f1, ci_lt, ci_le, wi_i])
            | ((with_reducible apply AWp.exit); try simp -implicitDefEqProofs [hkb, hlt2, hz, rgV, hend', hlt, hw, e3, hq', e1, clV_def, f1, ci_lt, ci_le, wi_i]))
        · rw [f2]
          subst hout
          repeat (first
            | (with_reducible apply AWp.seq)
            | (with_reducible apply AWp.block)
            | ((with_reducible apply AWp.fork); simp -implicitDefEqProofs [hkb, hlt2, hz, rgV, hend', hlt, hw, e3, hq', e1, clV_def, f1, f3, f4, ci_lt, ci_le, wi_i])
            | ((with_reducible apply AWp.region); simp -implicitDefEqProofs [hkb, hlt2, hz, rgV, hend', hlt, hw, e3, hq', e1, clV_def, f1, f3, f4, ci_lt, ci_le, wi_i])
            | (with_reducible refine And.intro (by first | omega | assumption | decide) ?_)
            | ((with_reducible show condK _ _ _); simp -implicitDefEqProofs [hkb, hlt2, hz, rgV, hend', hlt, hw, e3, hq', e1, clV_def, f1, f3, f4, ci_lt, ci_le, wi_i])
            | ((with_reducible show guardK _ _ _ _ _ _ _ _ _); simp -implicitDefEqProofs [hkb, hlt2, hz, rgV, hend', hlt, hw, e3, hq', e1, clV_def, f1, f3, f4, ci_lt, ci_le, wi_i])
            | ((with_reducible apply aCall.id); first
                | ((apply aCall.gives (hs _)); simp -implicitDefEqProofs [hkb, hlt2, hz, rgV, hend', hlt, hw, e3, hq', e1, clV_def, f1, f3, f4, ci_lt, ci_le, wi_i])
                | ((apply aCall.gives (hop' _)); simp -implicitDefEqProofs [hkb, hlt2, hz, rgV, hend', hlt, hw, e3, hq', e1, clV_def, f1, f3, f4, ci_lt, ci_le, wi_i]))
            | ((with_reducible apply AWp.ret); try simp -implicitDefEqProofs [hkb, hlt2, hz, rgV, hend', hlt, hw, e3, hq', e1, clV_def, f1, f3, f4, ci_lt, ci_le, wi_i])
            | ((with_reducible apply AWp.skip); try simp -implicitDefEqProofs [hkb, hlt2, hz, rgV, hend', hlt, hw, e3, hq', e1, clV_def, f1, f3, f4, ci_lt, ci_le, wi_i])
            | ((with_reducible apply AWp.exit); try simp -implicitDefEqProofs [hkb, hlt2, hz, rgV, hend', hlt, hw, e3, hq', e1, clV_def, f1, f3, f4, ci_lt, ci_le, wi_i]))
        · rw [f2]
          subst hout
          repeat (first
            | (with_reducible apply AWp.seq)
            | (with_reducible apply AWp.block)
            | ((with_reducible apply AWp.fork); simp -implicitDefEqProofs [hkb, hlt2, hz, rgV, hend', hlt, hw, e3, hq', e1, clV_def, f1, f3, f4, ci_lt, ci_le, wi_i])
            | ((with_reducible apply AWp.region); simp -implicitDefEqProofs [hkb, hlt2, hz, rgV, hend', hlt, hw, e3, hq', e1, clV_def, f1, f3, f4, ci_lt, ci_le, wi_i])
            | (with_reducible refine And.intro (by first | omega | assumption | decide) ?_)
            | ((with_reducible show condK _ _ _); simp -implicitDefEqProofs [hkb, hlt2, hz, rgV, hend', hlt, hw, e3, hq', e1, clV_def, f1, f3, f4, ci_lt, ci_le, wi_i])
            | ((with_reducible show guardK _ _ _ _ _ _ _ _ _); simp -implicitDefEqProofs [hkb, hlt2, hz, rgV, hend', hlt, hw, e3, hq', e1, clV_def, f1, f3, f4, ci_lt, ci_le, wi_i])
            | ((with_reducible apply aCall.id); first
                | ((apply aCall.gives (hs _)); simp -implicitDefEqProofs [hkb, hlt2, hz, rgV, hend', hlt, hw, e3, hq', e1, clV_def, f1, f3, f4, ci_lt, ci_le, wi_i])
                | ((apply aCall.gives (hop' _)); simp -implicitDefEqProofs [hkb, hlt2, hz, rgV, hend', hlt, hw, e3, hq', e1, clV_def, f1, f3, f4, ci_lt, ci_le, wi_i]))
            | ((with_reducible apply AWp.ret); try simp -implicitDefEqProofs [hkb, hlt2, hz, rgV, hend', hlt, hw, e3, hq', e1, clV_def, f1, f3, f4, ci_lt, ci_le, wi_i])
            | ((with_reducible apply AWp.skip); try simp -implicitDefEqProofs [hkb, hlt2, hz, rgV, hend', hlt, hw, e3, hq', e1, clV_def, f1, f3, f4, ci_lt, ci_le, wi_i])
            | ((with_reducible apply AWp.exit); try simp -implicitDefEqProofs [hkb, hlt2, hz, rgV, hend', hlt, hw, e3, hq', e1, clV_def, f1, f3, f4, ci_lt, ci_le, wi_i]))
          refine stepA.mk (i + 1) (by (try dsimp only); omega) (by (try dsimp only); (simp only [List.cons_append, List.nil_append]; repeat (first | exact FrWk.nil | refine FrWk.cons (by first | (simp -implicitDefEqProofs [ci_lt, ci_le, wi_i]; done) | exact Wk.of (by (try simp -implicitDefEqProofs [ci_lt, ci_le, wi_i]) <;> rfl)) ?_))) (by (try dsimp only); (first | exact AS.le_refl _ | assumption | (repeat (first | exact AS.le_refl _ | assumption | refine le_new (by simp [*]) ?_)))) ?_
          try dsimp only
          exact ⟨by omega, hLV.symm⟩
        · rw [f2]
          subst hout
          repeat (first
            | (with_reducible apply AWp.seq)
            | (with_reducible apply AWp.block)
            | ((with_reducible apply AWp.fork); simp -implicitDefEqProofs [hkb, hlt2, hz, rgV, hend', hlt, hw, e3, hq', e1, clV_def, f1, f3, ci_lt, ci_le, wi_i])
            | ((with_reducible apply AWp.region); simp -implicitDefEqProofs [hkb, hlt2, hz, rgV, hend', hlt, hw, e3, hq', e1, clV_def, f1, f3, ci_lt, ci_le, wi_i])
            | (with_reducible refine And.intro (by first | omega | assumption | decide) ?_)
            | ((with_reducible show condK _ _ _); simp -implicitDefEqProofs [hkb, hlt2, hz, rgV, hend', hlt, hw, e3, hq', e1, clV_def, f1, f3, ci_lt, ci_le, wi_i])
            | ((with_reducible show guardK _ _ _ _ _ _ _ _ _); simp -implicitDefEqProofs [hkb, hlt2, hz, rgV, hend', hlt, hw, e3, hq', e1, clV_def, f1, f3, ci_lt, ci_le, wi_i])
            | ((with_reducible apply aCall.id); first
                | ((apply aCall.gives (hs _)); simp -implicitDefEqProofs [hkb, hlt2, hz, rgV, hend', hlt, hw, e3, hq', e1, clV_def, f1, f3, ci_lt, ci_le, wi_i])
                | ((apply aCall.gives (hop' _)); simp -implicitDefEqProofs [hkb, hlt2, hz, rgV, hend', hlt, hw, e3, hq', e1, clV_def, f1, f3, ci_lt, ci_le, wi_i]))
            | ((with_reducible apply AWp.ret); try simp -implicitDefEqProofs [hkb, hlt2, hz, rgV, hend', hlt, hw, e3, hq', e1, clV_def, f1, f3, ci_lt, ci_le, wi_i])
            | ((with_reducible apply AWp.skip); try simp -implicitDefEqProofs [hkb, hlt2, hz, rgV, hend', hlt, hw, e3, hq', e1, clV_def, f1, f3, ci_lt, ci_le, wi_i])
            | ((with_reducible apply AWp.exit); try simp -implicitDefEqProofs [hkb, hlt2, hz, rgV, hend', hlt, hw, e3, hq', e1, clV_def, f1, f3, ci_lt, ci_le, wi_i]))
          refine stepA.mk (i + 1) (by (try dsimp only); omega) (by (try dsimp only); (simp only [List.cons_append, List.nil_append]; repeat (first | exact FrWk.nil | refine FrWk.cons (by first | (simp -implicitDefEqProofs [ci_lt, ci_le, wi_i]; done) | exact Wk.of (by (try simp -implicitDefEqProofs [ci_lt, ci_le, wi_i]) <;> rfl)) ?_))) (by (try dsimp only); (first | exact AS.le_refl _ | assumption | (repeat (first | exact AS.le_refl _ | assumption | refine le_new (by simp [*]) ?_)))) ?_
          try dsimp only
          exact ⟨by omega, hLV.symm⟩
      · rcases hp3 with ⟨f1, f2⟩ | ⟨f1, f3, f4, f2⟩ | ⟨f1, f3, f4, f2⟩ | ⟨f1, f3, f2⟩
        · rw [f2]
          subst hout
          repeat (first
            | (with_reducible apply AWp.seq)
            | (with_reducible apply AWp.block)
            | ((with_reducible apply AWp.fork); simp -implicitDefEqProofs [hkb, rgV, hend', hlt, hw, e3, hq', e1, clV_def, f1, ci_lt, ci_le, wi_i])
            | ((with_reducible apply AWp.region); simp -implicitDefEqProofs [hkb, rgV, hend', hlt, hw, e3, hq', e1, clV_def, f1, ci_lt, ci_le, wi_i])
            | (with_reducible refine And.intro (by first | omega | assumption | decide) ?_)
            | ((with_reducible show condK _ _ _); simp -implicitDefEqProofs [hkb, rgV, hend', hlt, hw, e3, hq', e1, clV_def, f1, ci_lt, ci_le, wi_i])
            | ((with_reducible show guardK _ _ _ _ _ _ _ _ _); simp -implicitDefEqProofs [hkb, rgV, hend', hlt, hw, e3, hq', e1, clV_def, f1, ci_lt, ci_le, wi_i])
            | ((with_reducible apply AWp.ret); try simp -implicitDefEqProofs [hkb, rgV, hend', hlt, hw, e3, hq', e1, clV_def, f1, ci_lt, ci_le, wi_i])
            | ((with_reducible apply AWp.skip); try simp -implicitDefEqProofs [hkb, rgV, hend', hlt, hw, e3, hq', e1, clV_def, f1, ci_lt, ci_le, wi_i])
            | ((with_reducible apply AWp.exit); try simp -implicitDefEqProofs [hkb, rgV, hend', hlt, hw, e3, hq', e1, clV_def, f1, ci_lt, ci_le, wi_i]))
        · rw [f2]
          subst hout
          repeat (first
            | (with_reducible apply AWp.seq)
            | (with_reducible apply AWp.block)
            | ((with_reducible apply AWp.fork); simp -implicitDefEqProofs [hkb, rgV, hend', hlt, hw, e3, hq', e1, clV_def, f1, f3, f4, ci_lt, ci_le, wi_i])
            | ((with_reducible apply AWp.region); simp -implicitDefEqProofs [hkb, rgV, hend', hlt, hw, e3, hq', e1, clV_def, f1, f3, f4, ci_lt, ci_le, wi_i])
            | (with_reducible refine And.intro (by first | omega | assumption | decide) ?_)
            | ((with_reducible show condK _ _ _); simp -implicitDefEqProofs [hkb, rgV, hend', hlt, hw, e3, hq', e1, clV_def, f1, f3, f4, ci_lt, ci_le, wi_i])
            | ((with_reducible show guardK _ _ _ _ _ _ _ _ _); simp -implicitDefEqProofs [hkb, rgV, hend', hlt, hw, e3, hq', e1, clV_def, f1, f3, f4, ci_lt, ci_le, wi_i])
            | ((with_reducible apply AWp.ret); try simp -implicitDefEqProofs [hkb, rgV, hend', hlt, hw, e3, hq', e1, clV_def, f1, f3, f4, ci_lt, ci_le, wi_i])
            | ((with_reducible apply AWp.skip); try simp -implicitDefEqProofs [hkb, rgV, hend', hlt, hw, e3, hq', e1, clV_def, f1, f3, f4, ci_lt, ci_le, wi_i])
            | ((with_reducible apply AWp.exit); try simp -implicitDefEqProofs [hkb, rgV, hend', hlt, hw, e3, hq', e1, clV_def, f1, f3, f4, ci_lt, ci_le, wi_i]))
        · rw [f2]
          subst hout
          repeat (first
            | (with_reducible apply AWp.seq)
            | (with_reducible apply AWp.block)
            | ((with_reducible apply AWp.fork); simp -implicitDefEqProofs [hkb, rgV, hend', hlt, hw, e3, hq', e1, clV_def, f1, f3, f4, ci_lt, ci_le, wi_i])
            | ((with_reducible apply AWp.region); simp -implicitDefEqProofs [hkb, rgV, hend', hlt, hw, e3, hq', e1, clV_def, f1, f3, f4, ci_lt, ci_le, wi_i])
            | (with_reducible refine And.intro (by first | omega | assumption | decide) ?_)
            | ((with_reducible show condK _ _ _); simp -implicitDefEqProofs [hkb, rgV, hend', hlt, hw, e3, hq', e1, clV_def, f1, f3, f4, ci_lt, ci_le, wi_i])
            | ((with_reducible show guardK _ _ _ _ _ _ _ _ _); simp -implicitDefEqProofs [hkb, rgV, hend', hlt, hw, e3, hq', e1, clV_def, f1, f3, f4, ci_lt, ci_le, wi_i])
            | ((with_reducible apply AWp.ret); try simp -implicitDefEqProofs [hkb, rgV, hend', hlt, hw, e3, hq', e1, clV_def, f1, f3, f4, ci_lt, ci_le, wi_i])
            | ((with_reducible apply AWp.skip); try simp -implicitDefEqProofs [hkb, rgV, hend', hlt, hw, e3, hq', e1, clV_def, f1, f3, f4, ci_lt, ci_le, wi_i])
            | ((with_reducible apply AWp.exit); try simp -implicitDefEqProofs [hkb, rgV, hend', hlt, hw, e3, hq', e1, clV_def, f1, f3, f4, ci_lt, ci_le, wi_i]))
          refine stepA.mk (i + 1) (by (try dsimp only); omega) (by (try dsimp only); (simp only [List.cons_append, List.nil_append]; repeat (first | exact FrWk.nil | refine FrWk.cons (by first | (simp -implicitDefEqProofs [ci_lt, ci_le, wi_i]; done) | exact Wk.of (by (try simp -implicitDefEqProofs [ci_lt, ci_le, wi_i]) <;> rfl)) ?_))) (by (try dsimp only); (first | exact AS.le_refl _ | assumption | (repeat (first | exact AS.le_refl _ | assumption | refine le_new (by simp [*]) ?_)))) ?_
          try dsimp only
          exact ⟨by omega, hLV.symm⟩
        · rw [f2]
          subst hout
          repeat (first
            | (with_reducible apply AWp.seq)
            | (with_reducible apply AWp.block)
            | ((with_reducible apply AWp.fork); simp -implicitDefEqProofs [hkb, rgV, hend', hlt, hw, e3, hq', e1, clV_def, f1, f3, ci_lt, ci_le, wi_i])
            | ((with_reducible apply AWp.region); simp -implicitDefEqProofs [hkb, rgV, hend', hlt, hw, e3, hq', e1, clV_def, f1, f3, ci_lt, ci_le, wi_i])
            | (with_reducible refine And.intro (by first | omega | assumption | decide) ?_)
            | ((with_reducible show condK _ _ _); simp -implicitDefEqProofs [hkb, rgV, hend', hlt, hw, e3, hq', e1, clV_def, f1, f3, ci_lt, ci_le, wi_i])
            | ((with_reducible show guardK _ _ _ _ _ _ _ _ _); simp -implicitDefEqProofs [hkb, rgV, hend', hlt, hw, e3, hq', e1, clV_def, f1, f3, ci_lt, ci_le, wi_i])
            | ((with_reducible apply AWp.ret); try simp -implicitDefEqProofs [hkb, rgV, hend', hlt, hw, e3, hq', e1, clV_def, f1, f3, ci_lt, ci_le, wi_i])
            | ((with_reducible apply AWp.skip); try simp -implicitDefEqProofs [hkb, rgV, hend', hlt, hw, e3, hq', e1, clV_def, f1, f3, ci_lt, ci_le, wi_i])
            | ((with_reducible apply AWp.exit); try simp -implicitDefEqProofs [hkb, rgV, hend', hlt, hw, e3, hq', e1, clV_def, f1, f3, ci_lt, ci_le, wi_i]))
          refine stepA.mk (i + 1) (by (try dsimp only); omega) (by (try dsimp only); (simp only [List.cons_append, List.nil_append]; repeat (first | exact FrWk.nil | refine FrWk.cons (by first | (simp -implicitDefEqProofs [ci_lt, ci_le, wi_i]; done) | exact Wk.of (by (try simp -implicitDefEqProofs [ci_lt, ci_le, wi_i]) <;> rfl)) ?_))) (by (try dsimp only); (first | exact AS.le_refl _ | assumption | (repeat (first | exact AS.le_refl _ | assumption | refine le_new (by simp [*]) ?_)))) ?_
          try dsimp only
          exact ⟨by omega, hLV.symm⟩

end Go.Proofs.Ythbmjmdmamapiaa
