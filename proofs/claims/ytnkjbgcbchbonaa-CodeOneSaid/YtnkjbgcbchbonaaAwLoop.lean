/- A layer of abstract values over the model's machine: own work for this claim, part AwLoop. -/
import Derived.Test.YtnkjbgcbchbonaaAwMut
set_option linter.unusedSimpArgs false
set_option linter.unusedVariables false
namespace Go.AW
open Go Go.RowKit

variable {P : Program} {n : Nat} {ds : List Deferred} {Q : AQ} {s : Fr} {σ : AS}

theorem Wk.of {a b : AV} (h : a = b) : AV.Wk P a b := h ▸ Wk.refl _
theorem FrWk.nil : FrWk P s (mkF []) := fun _ _ _ _ => .any _
theorem FrWk.cons {j : Nat} {v : AV} {r : List (Nat × AV)} (h : AV.Wk P (s j) v) (hr : FrWk P s (mkF r)) : FrWk P s (mkF ((j, v) :: r)) := by
  intro i
  simp only [mkF_cons]
  split
  · rename_i e; subst e; exact h
  · exact hr i

/-- What a loop's step hands on: c stays, v goes on. -/
def stepA (P : Program) {α : Type} (m : α → Nat) (I : α → Prop) (c : List (Nat × AV)) (v : α → List (Nat × AV)) (st : α → AS) (a : α) (s' : Fr) (σ' : AS) : Prop :=
  ∃ a', m a' < m a ∧ I a' ∧ FrWk P s' (mkF (c ++ v a')) ∧ AS.le (st a') σ'
theorem stepA.mk {α : Type} {m : α → Nat} {I : α → Prop} {c : List (Nat × AV)} {v : α → List (Nat × AV)} {st : α → AS} {a : α} {s' : Fr} {σ' : AS} (a' : α)
    (h1 : m a' < m a) (h2 : FrWk P s' (mkF (c ++ v a'))) (h3 : AS.le (st a') σ') (h4 : I a') : stepA P m I c v st a s' σ' := ⟨a', h1, h4, h2, h3⟩
@[congr] theorem stepA_congr {α : Type} {m : α → Nat} {I : α → Prop} {c : List (Nat × AV)} {v : α → List (Nat × AV)} {st : α → AS} {a : α} {s s' : Fr} {σ σ' : AS} (h1 : s = s') (h2 : σ = σ') :
    stepA P m I c v st a s σ = stepA P m I c v st a s' σ' := by rw [h1, h2]

theorem AWp.loopA {α : Type} {body : Code} (a0 : α) (m : α → Nat) (I : α → Prop) (c : List (Nat × AV)) (v : α → List (Nat × AV)) (st : α → AS)
    (hs : FrWk P s (mkF (c ++ v a0))) (hσ : AS.le (st a0) σ) (h0 : I a0)
    (hr : ∀ a, I a → AWp P n ds body (thenQ (stepA P m I c v st a) Q) (mkF (c ++ v a)) (st a)) : AWp P n ds (.loop body) Q s σ := by
  refine AWp.loop (fun k s σ => ∃ a, k = m a ∧ I a ∧ s = mkF (c ++ v a) ∧ σ = st a) ⟨a0, rfl, h0, rfl, rfl⟩ hs hσ ?_
  rintro k s σ ⟨a, rfl, ha, rfl, rfl⟩
  refine (hr a ha).mono fun e s' σ' hq => ?_
  cases e with
  | normal =>
    obtain ⟨a', h1, h2, h3, h4⟩ := hq
    exact ⟨m a', _, _, h1, h3, h4, a', rfl, h2, rfl, rfl⟩
  | exit i => exact hq
  | ret => exact hq
  | panic x => exact hq

/-! ## values that are functions -/

theorem aCall.fnGives {f : FuncId} {first cap args : List AV} {σ1 : AS} {v : AV} {K Kp : AV → AS → Prop} (h : ACalls P f (first ++ args ++ cap) σ (Gives v σ1) No) (hk : K v σ1) : aCall P (.fn (.func f) first cap) args σ K Kp :=
  ⟨_, _, h, fun r σ' ⟨h1, h2⟩ => by subst h1; subst h2; exact hk, fun _ _ h => h.elim⟩

/-- A value that is called: in this heap it comes to g, and leaves the heap. -/
def FnG (P : Program) (σ : AS) (fv : AV) (args : List AV) (g : AV) : Prop := ∀ K Kp : AV → AS → Prop, K g σ → aCall P fv args σ K Kp
theorem FnG.use {fv : AV} {args : List AV} {g : AV} (h : FnG P σ fv args g) {K Kp : AV → AS → Prop} (hk : K g σ) : aCall P fv args σ K Kp := h K Kp hk
theorem FnG.fn {f : FuncId} {first cap args : List AV} {g : AV} (h : ACalls P f (first ++ args ++ cap) σ (Gives g σ) No) : FnG P σ (.fn (.func f) first cap) args g := fun _ _ hk => aCall.fnGives h hk
theorem FnG.func {f : FuncId} {args : List AV} {g : AV} (h : ACalls P f args σ (Gives g σ) No) : FnG P σ (.sc (.func (.func f) #[] #[])) args g := fun _ _ hk => aCall.gives h hk

theorem em_eq (p : Prop) : (p = True) ∨ (p = False) := by by_cases h : p; exact .inl (eq_true h); exact .inr (eq_false h)
theorem ci_lt (a b : Nat) : ((a : Int) < (b : Int)) = (a < b) := by simp only [eq_iff_iff]; omega
theorem ci_le (a b : Nat) : ((a : Int) ≤ (b : Int)) = (a ≤ b) := by simp only [eq_iff_iff]; omega
theorem ci_wi {i : Nat} (h : i < 4000000000000000000) : IntKind.i64.wrap ((i : Int) + 1) = ((i + 1 : Nat) : Int) := wInc h

end Go.AW
