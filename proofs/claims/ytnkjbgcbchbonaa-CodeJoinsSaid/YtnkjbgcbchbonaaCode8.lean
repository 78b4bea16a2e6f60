/- Package code: signed; BinarySearch. -/
import Derived.Test.YtnkjbgcbchbonaaCode5
set_option linter.unusedSimpArgs false
set_option linter.unusedVariables false
set_option maxRecDepth 100000
set_option maxHeartbeats 3200000
namespace Go.Proofs.Ytnkjbgcbchbonaa
open Go Go.AW

theorem cnan_ok (x : Int) (σ : AS) : ACalls Try.prog 77 [.sc (.int .i64 x)] σ (Gives (.sc (.bool false)) σ) No := by
  refine ACalls.of_body Try.func77 rfl rfl (by simp [Try.ntmps77]) ?_
  repeat (first
    | (with_reducible first | apply AWp.seq | apply AWp.block | refine And.intro (by first | omega | assumption | decide) ?_)
    | ((first | (with_reducible first | apply AWp.fork | apply AWp.region)); simp -implicitDefEqProofs)
    | ((with_reducible first | apply AWp.ret | apply AWp.skip | apply AWp.exit); try simp -implicitDefEqProofs))
theorem snan_ok (x : Int) (σ : AS) : ACalls Try.prog 65 [.sc (.int .i64 x)] σ (Gives (.sc (.bool false)) σ) No := by
  refine ACalls.of_body Try.func65 rfl rfl (by simp [Try.ntmps65]) ?_
  repeat (first
    | (with_reducible first | apply AWp.seq | apply AWp.block | refine And.intro (by first | omega | assumption | decide) ?_)
    | ((first | (with_reducible first | apply AWp.fork | apply AWp.region)); simp -implicitDefEqProofs)
    | ((with_reducible first | apply AWp.ret | apply AWp.skip | apply AWp.exit); try simp -implicitDefEqProofs))
theorem less_ok (x y : Int) (σ : AS) : ACalls Try.prog 64 [.sc (.int .i64 x), .sc (.int .i64 y)] σ (Gives (.sc (.bool (decide (x < y)))) σ) No := by
  refine ACalls.of_body Try.func64 rfl rfl (by simp [Try.ntmps64]) ?_
  repeat (first
    | (with_reducible first | apply AWp.seq | apply AWp.block | refine And.intro (by first | omega | assumption | decide) ?_)
    | ((first | (with_reducible first | apply AWp.fork | apply AWp.region) | ((with_reducible apply aCall.id); first | apply aCall.gives (cnan_ok _ _))); simp -implicitDefEqProofs)
    | ((with_reducible first | apply AWp.ret | apply AWp.skip | apply AWp.exit); try simp -implicitDefEqProofs))

/-- Where a number would stand among numbers that rise. -/
theorem lb_ex (l : List Int) (t : Int) (hs : l.Pairwise (· < ·)) : ∃ p : Nat, p ≤ l.length ∧ (∀ j (h : j < l.length), l[j] < t ↔ j < p) := by
  induction l with
  | nil => exact ⟨0, by simp, fun j h => by simp at h⟩
  | cons a r ih =>
    obtain ⟨h1, h2⟩ := List.pairwise_cons.1 hs
    obtain ⟨p, h3, h4⟩ := ih h2
    by_cases ha : a < t
    · refine ⟨p + 1, by simp; omega, fun j hj => ?_⟩
      cases j with
      | zero => simp [ha]
      | succ j => simpa using h4 j (by simpa using hj)
    · refine ⟨0, by simp, fun j hj => ?_⟩
      cases j with
      | zero => simp; omega
      | succ j => have := h1 _ (List.getElem_mem (show j < r.length by simpa using hj)); simp; omega
theorem lb_find (l : List Int) (t : Int) (hs : l.Pairwise (· < ·)) (p : Nat) (hp : ∀ j (h : j < l.length), l[j] < t ↔ j < p) : l.findIdx? (fun y => decide (y = t)) = if l[p]? = some t then some p else none := by
  split
  · rename_i h
    obtain ⟨h1, h2⟩ := List.getElem?_eq_some_iff.1 h
    rw [List.findIdx?_eq_some_iff_getElem]
    refine ⟨h1, by simp [h2], fun j hj => ?_⟩
    have := (hp j (by omega)).2 hj
    simp; omega
  · rename_i h
    rw [List.findIdx?_eq_none_iff]
    intro x hx
    obtain ⟨j, hj, rfl⟩ := List.mem_iff_getElem.1 hx
    simp
    intro e
    apply h
    have h1 := (hp j hj)
    have h2 : ¬ j < p := fun q => by have := h1.2 q; omega
    rcases Nat.lt_or_ge p j with h3 | h3
    · have h4 : ¬ l[p] < t := fun q => by have := (hp p (by omega)).1 q; omega
      have h5 := List.pairwise_iff_getElem.1 hs p j (by omega) hj h3
      exfalso; omega
    · have : p = j := by omega
      subst this
      rw [List.getElem?_eq_getElem hj, e]

theorem bs_ok (l : List Int) (t : Int) (o : Own) (nl : Bool) (p : Nat) (hp : p ≤ l.length) (hl : l.length ≤ 1000000) (h : ∀ j (h : j < l.length), l[j] < t ↔ j < p) (σ : AS) :
    ACalls Try.prog 43 [.lst 3 (l.map i64v) o nl, .sc (.int .i64 t)] σ (Gives (.tup [.sc (.int .i64 p), .sc (.bool (decide (l[p]? = some t)))]) σ) No := by
  have hls := fun x σ => less_ok x t σ
  have hp0 := h
  obtain ⟨n, hn⟩ : ∃ n, l.length = n := ⟨_, rfl⟩
  rw [hn] at hp hl
  refine ACalls.of_body Try.func43 rfl rfl (by simp [Try.ntmps43]) ?_
  repeat (first
    | (with_reducible first | apply AWp.seq | apply AWp.block | refine And.intro (by first | omega | assumption | decide) ?_)
    | ((first | (with_reducible first | apply AWp.fork | apply AWp.region | show condK _ _ _ | show guardK _ _ _ _ _ _ _ _ _)); simp -implicitDefEqProofs [ci_lt, ci_le, hn])
    | ((with_reducible first | apply AWp.ret | apply AWp.skip | apply AWp.exit); try simp -implicitDefEqProofs [ci_lt, ci_le, hn]))
  refine AWp.loopA (α := (Nat) × (Nat)) ((0, n)) (fun ⟨i, j⟩ => j - i) (fun ⟨i, j⟩ => i ≤ p ∧ p ≤ j ∧ j ≤ n) [(0, ?_), (1, ?_), (4, ?_), (5, ?_), (6, ?_)] (fun ⟨i, j⟩ => [(7, .sc (.int .i64 i)), (8, .sc (.int .i64 j))]) (fun ⟨i, j⟩ => σ) ?_ ?_ ?_ ?_
  rotate_left 5
  · (try dsimp only); (simp only [List.cons_append, List.nil_append]; repeat (first | exact FrWk.nil | refine FrWk.cons (by first | (simp -implicitDefEqProofs [ci_lt, ci_le, hn]; done) | exact Wk.of (by (try simp -implicitDefEqProofs [ci_lt, ci_le, hn]) <;> rfl)) ?_))
  · (try dsimp only); (first | exact AS.le_refl _ | assumption | (repeat (first | exact AS.le_refl _ | assumption | refine le_new (by simp [*]) ?_)))
  · (try dsimp only) <;> first | exact trivial | exact ⟨by omega, rfl⟩ | omega | (simp; done) | exact ⟨by omega, by simp⟩ | exact ⟨by omega, by simp, rfl⟩
  intro x_ hx_
  obtain ⟨i, j⟩ := x_
  try dsimp only at hx_ ⊢
  obtain ⟨h1, h2, h3⟩ := hx_
  simp only [List.cons_append, List.nil_append]
  by_cases hlt : i < j
  · have w1 : IntKind.i64.wrap ((i : Int) + j) = (i : Int) + j := in_i64 (by omega) (by omega)
    have w2 : IntKind.u64.wrap ((i : Int) + j) = (i : Int) + j := in_u64 (by omega) (by omega)
    obtain ⟨m, hm⟩ : ∃ m : Nat, m = (i + j) / 2 := ⟨_, rfl⟩
    have w3 : IntKind.i64.wrap (((i : Int) + j) / 2) = (m : Int) := by rw [in_i64 (by omega) (by omega)]; omega
    have hm1 : m < n := by omega
    have hm2 : m < l.length := by omega
    have hpm := hp0 m hm2
    obtain ⟨x, hx, _⟩ := at_lt l hm2
    obtain ⟨_, hx2⟩ := List.getElem?_eq_some_iff.1 hx
    rw [hx2] at hpm
    have wi_m : IntKind.i64.wrap ((m : Int) + 1) = ((m + 1 : Nat) : Int) := ci_wi (by omega)
    by_cases hc : x < t
    · repeat (first
        | (with_reducible first | apply AWp.seq | apply AWp.block | refine And.intro (by first | omega | assumption | decide) ?_)
        | ((first | (with_reducible first | apply AWp.fork | apply AWp.region | show condK _ _ _ | show guardK _ _ _ _ _ _ _ _ _) | ((with_reducible apply aCall.id); first | apply aCall.gives (hls _ _))); simp -implicitDefEqProofs [hlt, w1, w2, w3, hm1, hm2, hx, hx2, hc, i64v_def, ci_lt, ci_le, hn, wi_m])
        | ((with_reducible first | apply AWp.ret | apply AWp.skip | apply AWp.exit); try simp -implicitDefEqProofs [hlt, w1, w2, w3, hm1, hm2, hx, hx2, hc, i64v_def, ci_lt, ci_le, hn, wi_m]))
      refine stepA.mk ((m + 1, j)) (by (try dsimp only); omega) (by (try dsimp only); (simp only [List.cons_append, List.nil_append]; repeat (first | exact FrWk.nil | refine FrWk.cons (by first | (simp -implicitDefEqProofs [ci_lt, ci_le, hn, wi_m]; done) | exact Wk.of (by (try simp -implicitDefEqProofs [ci_lt, ci_le, hn, wi_m]) <;> rfl)) ?_))) (by (try dsimp only); (first | exact AS.le_refl _ | assumption | (repeat (first | exact AS.le_refl _ | assumption | refine le_new (by simp [*]) ?_)))) ?_
      try dsimp only
      exact ⟨by have := hpm.1 hc; omega, h2, h3⟩
    · repeat (first
        | (with_reducible first | apply AWp.seq | apply AWp.block | refine And.intro (by first | omega | assumption | decide) ?_)
        | ((first | (with_reducible first | apply AWp.fork | apply AWp.region | show condK _ _ _ | show guardK _ _ _ _ _ _ _ _ _) | ((with_reducible apply aCall.id); first | apply aCall.gives (hls _ _))); simp -implicitDefEqProofs [hlt, w1, w2, w3, hm1, hm2, hx, hx2, hc, i64v_def, ci_lt, ci_le, hn, wi_m])
        | ((with_reducible first | apply AWp.ret | apply AWp.skip | apply AWp.exit); try simp -implicitDefEqProofs [hlt, w1, w2, w3, hm1, hm2, hx, hx2, hc, i64v_def, ci_lt, ci_le, hn, wi_m]))
      refine stepA.mk ((i, m)) (by (try dsimp only); omega) (by (try dsimp only); (simp only [List.cons_append, List.nil_append]; repeat (first | exact FrWk.nil | refine FrWk.cons (by first | (simp -implicitDefEqProofs [ci_lt, ci_le, hn, wi_m]; done) | exact Wk.of (by (try simp -implicitDefEqProofs [ci_lt, ci_le, hn, wi_m]) <;> rfl)) ?_))) (by (try dsimp only); (first | exact AS.le_refl _ | assumption | (repeat (first | exact AS.le_refl _ | assumption | refine le_new (by simp [*]) ?_)))) ?_
      try dsimp only
      exact ⟨h1, by rcases Nat.lt_or_ge m p with q | q; exact absurd (hpm.2 q) hc; exact q, by omega⟩
  · obtain rfl : i = j := by omega
    obtain rfl : i = p := by omega
    by_cases hin : i < n
    · obtain ⟨x, hx, _⟩ := at_lt l (i := i) (by omega)
      obtain ⟨hx1, hx2⟩ := List.getElem?_eq_some_iff.1 hx
      by_cases he : x = t
      · repeat (first
          | (with_reducible first | apply AWp.seq | apply AWp.block | refine And.intro (by first | omega | assumption | decide) ?_)
          | ((first | (with_reducible first | apply AWp.fork | apply AWp.region | show condK _ _ _ | show guardK _ _ _ _ _ _ _ _ _) | ((with_reducible apply aCall.id); first | apply aCall.gives (snan_ok _ _))); simp -implicitDefEqProofs [hlt, hin, hx, hx1, hx2, he, i64v_def, ci_lt, ci_le, hn])
          | ((with_reducible first | apply AWp.ret | apply AWp.skip | apply AWp.exit); try simp -implicitDefEqProofs [hlt, hin, hx, hx1, hx2, he, i64v_def, ci_lt, ci_le, hn]))
      · repeat (first
          | (with_reducible first | apply AWp.seq | apply AWp.block | refine And.intro (by first | omega | assumption | decide) ?_)
          | ((first | (with_reducible first | apply AWp.fork | apply AWp.region | show condK _ _ _ | show guardK _ _ _ _ _ _ _ _ _) | ((with_reducible apply aCall.id); first | apply aCall.gives (snan_ok _ _))); simp -implicitDefEqProofs [hlt, hin, hx, hx1, hx2, he, i64v_def, ci_lt, ci_le, hn])
          | ((with_reducible first | apply AWp.ret | apply AWp.skip | apply AWp.exit); try simp -implicitDefEqProofs [hlt, hin, hx, hx1, hx2, he, i64v_def, ci_lt, ci_le, hn]))
    · have hno : l[i]? = none := List.getElem?_eq_none (by omega)
      repeat (first
        | (with_reducible first | apply AWp.seq | apply AWp.block | refine And.intro (by first | omega | assumption | decide) ?_)
        | ((first | (with_reducible first | apply AWp.fork | apply AWp.region | show condK _ _ _ | show guardK _ _ _ _ _ _ _ _ _)); simp -implicitDefEqProofs [hlt, hin, hno, ci_lt, ci_le, hn])
        | ((with_reducible first | apply AWp.ret | apply AWp.skip | apply AWp.exit); try simp -implicitDefEqProofs [hlt, hin, hno, ci_lt, ci_le, hn]))

theorem signed_ok (v n : Int) (hn : n = 2 ∨ n = 4 ∨ n = 8) (h0 : 0 ≤ v) (hv : v < 256 ^ n.toNat) (σ : AS) : ACalls Try.prog 62 [.sc (.int .u64 v), .sc (.int .i64 n)] σ (Gives (.sc (.int .i64 (sgn n.toNat v))) σ) No := by
  have w48 : IntKind.i64.wrap 48 = 48 := by decide
  rcases hn with rfl | rfl | rfl
  all_goals
    refine ACalls.of_body Try.func62 rfl rfl (by simp [Try.ntmps62]) ?_
    repeat (first
      | (with_reducible first | apply AWp.seq | apply AWp.block | refine And.intro (by first | omega | assumption | decide) ?_)
      | ((first | (with_reducible first | apply AWp.fork | apply AWp.region | show condK _ _ _ | show guardK _ _ _ _ _ _ _ _ _)); simp -implicitDefEqProofs [w48, Try.underlying2, Try.underlying89, Try.underlying3])
      | ((with_reducible first | apply AWp.ret | apply AWp.skip | apply AWp.exit); try simp -implicitDefEqProofs [w48, Try.underlying2, Try.underlying89, Try.underlying3]))
    refine wk_i ?_
    simp only [Int.reduceToNat, pow2, pow4, pow8] at hv
    simp only [sgn, Int.reduceToNat, pow2, pow4, pow8, w_i64, w_u64]
    split <;> omega

end Go.Proofs.Ytnkjbgcbchbonaa
