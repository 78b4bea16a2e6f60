/- Package slices: IndexFunc, ContainsFunc over parts. -/
import Derived.Test.YthbmjmdmamapiaaReg1
set_option linter.unusedSimpArgs false
set_option linter.unusedVariables false
set_option maxRecDepth 100000
set_option maxHeartbeats 3200000
namespace Go.Proofs.Ythbmjmdmamapiaa
open Go Go.AW

def idxS {α : Type} (g : α → Bool) (l : List α) : Int := match l.findIdx? g with | some i => (i : Int) | none => -1
theorem idxS_at {α : Type} {g : α → Bool} {l : List α} {i : Nat} (h : i < l.length) (h1 : ∀ x ∈ l.take i, g x = false) (h2 : g l[i] = true) : idxS g l = i := by
  have : l.findIdx? g = some i := by
    rw [List.findIdx?_eq_some_iff_getElem]
    refine ⟨h, h2, fun j hj => ?_⟩
    rw [h1 _ (by rw [List.mem_take_iff_getElem]; exact ⟨j, by omega, rfl⟩)]; simp
  simp [idxS, this]
theorem idxS_no {α : Type} {g : α → Bool} {l : List α} (h1 : ∀ x ∈ l, g x = false) : idxS g l = -1 := by
  have : l.findIdx? g = none := by rw [List.findIdx?_eq_none_iff]; exact h1
  simp [idxS, this]
theorem idxS_any {α : Type} (g : α → Bool) (l : List α) : decide (0 ≤ idxS g l) = l.any g := by
  unfold idxS
  cases h : l.findIdx? g with
  | none =>
    rw [List.findIdx?_eq_none_iff] at h
    simp
    exact h
  | some i =>
    rw [List.findIdx?_eq_some_iff_getElem] at h
    obtain ⟨h1, h2, _⟩ := h
    simp
    exact ⟨_, List.getElem_mem h1, h2⟩
theorem take_all {α : Type} {g : α → Bool} {l : List α} {i : Nat} (h : i < l.length) (h1 : ∀ x ∈ l.take i, g x = false) (h2 : g l[i] = false) : ∀ x ∈ l.take (i + 1), g x = false := by
  intro x hx
  rw [List.take_succ_eq_append_getElem h] at hx
  rcases List.mem_append.1 hx with hx | hx
  · exact h1 x hx
  · simp at hx; rw [hx]; exact h2

theorem index_ok (l : List Pt) (o : Own) (nl : Bool) (fv : AV) (g : Pt → Bool) (σ : AS) (hl : l.length ≤ 140737488355328) (hf : ∀ x ∈ l, FnG Try.prog σ fv [ptV x] (.sc (.bool (g x)))) :
    ACalls Try.prog 87 [.lst 64 (l.map ptV) o nl, fv] σ (Gives (.sc (.int .i64 (idxS g l))) σ) No := by
  refine ACalls.of_body Try.func87 rfl rfl (by simp [Try.ntmps87]) ?_
  repeat (first
    | (with_reducible apply AWp.seq)
    | (with_reducible apply AWp.block)
    | ((with_reducible apply AWp.fork); simp -implicitDefEqProofs [ci_lt, ci_le])
    | ((with_reducible apply AWp.region); simp -implicitDefEqProofs [ci_lt, ci_le])
    | (with_reducible refine And.intro (by first | omega | assumption | decide) ?_)
    | ((with_reducible show condK _ _ _); simp -implicitDefEqProofs [ci_lt, ci_le])
    | ((with_reducible show guardK _ _ _ _ _ _ _ _ _); simp -implicitDefEqProofs [ci_lt, ci_le])
    | ((with_reducible apply AWp.ret); try simp -implicitDefEqProofs [ci_lt, ci_le])
    | ((with_reducible apply AWp.skip); try simp -implicitDefEqProofs [ci_lt, ci_le])
    | ((with_reducible apply AWp.exit); try simp -implicitDefEqProofs [ci_lt, ci_le]))
  refine AWp.loopA (α := (Nat)) (0) (fun i => l.length - i) (fun i => i ≤ l.length ∧ ∀ x ∈ l.take i, g x = false) [(0, ?_), (1, ?_), (7, ?_)] (fun i => [(8, .sc (.int .i64 i))]) (fun i => σ) ?_ ?_ ?_ ?_
  rotate_left 3
  · (try dsimp only); (simp only [List.cons_append, List.nil_append]; repeat (first | exact FrWk.nil | refine FrWk.cons (by first | (simp -implicitDefEqProofs [ci_lt, ci_le]; done) | exact Wk.of (by (try simp -implicitDefEqProofs [ci_lt, ci_le]) <;> rfl)) ?_))
  · (try dsimp only); (first | exact AS.le_refl _ | assumption | (repeat (first | exact AS.le_refl _ | assumption | refine le_new (by simp [*]) ?_)))
  · (try dsimp only) <;> first | exact trivial | exact ⟨by omega, rfl⟩ | omega | (simp; done) | exact ⟨by omega, by simp⟩ | exact ⟨by omega, by simp, rfl⟩
  intro i hx_
  try dsimp only at hx_ ⊢
  obtain ⟨hi, hX⟩ := hx_
  simp only [List.cons_append, List.nil_append]
  by_cases hlt : i < l.length
  · have wi_i : IntKind.i64.wrap ((i : Int) + 1) = ((i + 1 : Nat) : Int) := ci_wi (by omega)
    have hu := (hf l[i] (List.getElem_mem hlt))
    simp only [ptV] at hu
    cases hg : g l[i] with
    | true =>
      rw [hg] at hu
      rw [idxS_at hlt hX hg]
      repeat (first
        | (with_reducible apply AWp.seq)
        | (with_reducible apply AWp.block)
        | ((with_reducible apply AWp.fork); simp -implicitDefEqProofs [hlt, ptV, ci_lt, ci_le, wi_i])
        | ((with_reducible apply AWp.region); simp -implicitDefEqProofs [hlt, ptV, ci_lt, ci_le, wi_i])
        | (with_reducible refine And.intro (by first | omega | assumption | decide) ?_)
        | ((with_reducible show condK _ _ _); simp -implicitDefEqProofs [hlt, ptV, ci_lt, ci_le, wi_i])
        | ((with_reducible show guardK _ _ _ _ _ _ _ _ _); simp -implicitDefEqProofs [hlt, ptV, ci_lt, ci_le, wi_i])
        | ((with_reducible apply aCall.id); first
            | ((apply (hu.use)); simp -implicitDefEqProofs [hlt, ptV, ci_lt, ci_le, wi_i]))
        | ((with_reducible apply AWp.ret); try simp -implicitDefEqProofs [hlt, ptV, ci_lt, ci_le, wi_i])
        | ((with_reducible apply AWp.skip); try simp -implicitDefEqProofs [hlt, ptV, ci_lt, ci_le, wi_i])
        | ((with_reducible apply AWp.exit); try simp -implicitDefEqProofs [hlt, ptV, ci_lt, ci_le, wi_i]))
    | false =>
      rw [hg] at hu
      repeat (first
        | (with_reducible apply AWp.seq)
        | (with_reducible apply AWp.block)
        | ((with_reducible apply AWp.fork); simp -implicitDefEqProofs [hlt, ptV, ci_lt, ci_le, wi_i])
        | ((with_reducible apply AWp.region); simp -implicitDefEqProofs [hlt, ptV, ci_lt, ci_le, wi_i])
        | (with_reducible refine And.intro (by first | omega | assumption | decide) ?_)
        | ((with_reducible show condK _ _ _); simp -implicitDefEqProofs [hlt, ptV, ci_lt, ci_le, wi_i])
        | ((with_reducible show guardK _ _ _ _ _ _ _ _ _); simp -implicitDefEqProofs [hlt, ptV, ci_lt, ci_le, wi_i])
        | ((with_reducible apply aCall.id); first
            | ((apply (hu.use)); simp -implicitDefEqProofs [hlt, ptV, ci_lt, ci_le, wi_i]))
        | ((with_reducible apply AWp.ret); try simp -implicitDefEqProofs [hlt, ptV, ci_lt, ci_le, wi_i])
        | ((with_reducible apply AWp.skip); try simp -implicitDefEqProofs [hlt, ptV, ci_lt, ci_le, wi_i])
        | ((with_reducible apply AWp.exit); try simp -implicitDefEqProofs [hlt, ptV, ci_lt, ci_le, wi_i]))
      refine stepA.mk (i + 1) (by (try dsimp only); omega) (by (try dsimp only); (simp only [List.cons_append, List.nil_append]; repeat (first | exact FrWk.nil | refine FrWk.cons (by first | (simp -implicitDefEqProofs [ci_lt, ci_le, wi_i]; done) | exact Wk.of (by (try simp -implicitDefEqProofs [ci_lt, ci_le, wi_i]) <;> rfl)) ?_))) (by (try dsimp only); (first | exact AS.le_refl _ | assumption | (repeat (first | exact AS.le_refl _ | assumption | refine le_new (by simp [*]) ?_)))) ?_
      try dsimp only
      exact ⟨hlt, take_all hlt hX hg⟩
  · rw [idxS_no (by rwa [List.take_of_length_le (by omega)] at hX)]
    repeat (first
      | (with_reducible apply AWp.seq)
      | (with_reducible apply AWp.block)
      | ((with_reducible apply AWp.fork); simp -implicitDefEqProofs [hlt, ci_lt, ci_le])
      | ((with_reducible apply AWp.region); simp -implicitDefEqProofs [hlt, ci_lt, ci_le])
      | (with_reducible refine And.intro (by first | omega | assumption | decide) ?_)
      | ((with_reducible show condK _ _ _); simp -implicitDefEqProofs [hlt, ci_lt, ci_le])
      | ((with_reducible show guardK _ _ _ _ _ _ _ _ _); simp -implicitDefEqProofs [hlt, ci_lt, ci_le])
      | ((with_reducible apply AWp.ret); try simp -implicitDefEqProofs [hlt, ci_lt, ci_le])
      | ((with_reducible apply AWp.skip); try simp -implicitDefEqProofs [hlt, ci_lt, ci_le])
      | ((with_reducible apply AWp.exit); try simp -implicitDefEqProofs [hlt, ci_lt, ci_le]))

theorem contains_ok (l : List Pt) (o : Own) (nl : Bool) (fv : AV) (g : Pt → Bool) (σ : AS) (hl : l.length ≤ 140737488355328) (hf : ∀ x ∈ l, FnG Try.prog σ fv [ptV x] (.sc (.bool (g x)))) :
    ACalls Try.prog 68 [.lst 64 (l.map ptV) o nl, fv] σ (Gives (.sc (.bool (l.any g))) σ) No := by
  have hi := index_ok l o nl fv g σ hl hf
  rw [← idxS_any]
  refine ACalls.of_body Try.func68 rfl rfl (by simp [Try.ntmps68]) ?_
  repeat (first
    | (with_reducible apply AWp.seq)
    | (with_reducible apply AWp.block)
    | ((with_reducible apply AWp.fork); simp -implicitDefEqProofs)
    | ((with_reducible apply AWp.region); simp -implicitDefEqProofs)
    | (with_reducible refine And.intro (by first | omega | assumption | decide) ?_)
    | ((with_reducible apply aCall.id); first
        | ((apply aCall.gives (hi)); simp -implicitDefEqProofs))
    | ((with_reducible apply AWp.ret); try simp -implicitDefEqProofs)
    | ((with_reducible apply AWp.skip); try simp -implicitDefEqProofs)
    | ((with_reducible apply AWp.exit); try simp -implicitDefEqProofs))

end Go.Proofs.Ythbmjmdmamapiaa
