/- Chapter 22: the document's Next, Finals; Handler. -/
import Derived.Test.YthbmjmdmamapiaaUnwB
set_option linter.unusedSimpArgs false
set_option linter.unusedVariables false
set_option maxRecDepth 100000
set_option maxHeartbeats 3200000
namespace Go.Proofs.Ythbmjmdmamapiaa
open Go Go.AW

theorem rnext_ok (l : List Cl) (o : Own) (nl : Bool) (x f a : Int) (hl : l.length ≤ 1000) (σ : AS) :
    ACalls Try.prog 35 [clsV l o nl, .sc (.int .i64 x), .sc (.int .i64 f), .sc (.int .i64 a)] σ (Gives (.sc (.int .i64 (nextS l x f a))) σ) No := by
  have ha := fun c i hi hc σ => rAsked_ok l o nl c i hi hc x f (by omega) σ
  have hm : ∀ c, mayC l x f c = ((decide (c.k = 1) || decide (c.k = 2)) && askS l x f c) := fun _ => rfl
  unfold nextS
  generalize hP : mayC l x f = P at *
  generalize askS l x f = Q at *
  simp only [clsV] at ha ⊢
  refine ACalls.of_body Try.func35 rfl rfl (by simp [Try.ntmps35]) ?_
  repeat (first
    | (with_reducible apply AWp.seq)
    | (with_reducible apply AWp.block)
    | ((with_reducible apply AWp.fork); simp -implicitDefEqProofs [ci_lt, ci_le])
    | ((with_reducible apply AWp.region); simp -implicitDefEqProofs [ci_lt, ci_le])
    | (with_reducible refine And.intro (by first | omega | assumption | decide) ?_)
    | ((with_reducible show condK _ _ _); simp -implicitDefEqProofs [ci_lt, ci_le])
    | ((with_reducible show guardK _ _ _ _ _ _ _ _ _); simp -implicitDefEqProofs [ci_lt, ci_le])
    | ((with_reducible apply AWp.ret); try simp -implicitDefEqProofs [ci_lt, ci_le])
    | ((with_reducible apply AWp.skip); try simp -implicitDefEqProofs [ci_lt, ci_le])
    | ((with_reducible apply AWp.exit); try simp -implicitDefEqProofs [ci_lt, ci_le]))
  refine AWp.loopA (α := (Nat)) (0) (fun i => l.length - i) (fun i => i ≤ l.length ∧ hdS (someI (fun k c => decide (a < k) && P c) 0 l) = hdS (someI (fun k c => decide (a < k) && P c) i (l.drop i))) [(0, ?_), (1, ?_), (2, ?_), (3, ?_)] (fun i => [(9, .sc (.int .i64 i))]) (fun i => σ) ?_ ?_ ?_ ?_
  rotate_left 4
  · (try dsimp only); (simp only [List.cons_append, List.nil_append]; repeat (first | exact FrWk.nil | refine FrWk.cons (by first | (simp -implicitDefEqProofs [ci_lt, ci_le]; done) | exact Wk.of (by (try simp -implicitDefEqProofs [ci_lt, ci_le]) <;> rfl)) ?_))
  · (try dsimp only); (first | exact AS.le_refl _ | assumption | (repeat (first | exact AS.le_refl _ | assumption | refine le_new (by simp [*]) ?_)))
  · exact ⟨by omega, by simp⟩
  intro i hx_
  try dsimp only at hx_ ⊢
  obtain ⟨hi, hX⟩ := hx_
  simp only [List.cons_append, List.nil_append]
  rw [hX]
  by_cases hlt : i < l.length
  · have wi_i : IntKind.i64.wrap ((i : Int) + 1) = ((i + 1 : Nat) : Int) := ci_wi (by omega)
    rw [List.drop_eq_getElem_cons hlt]
    rw [someI]
    have hac := ha l[i] i hlt rfl
    have hmc := hm l[i]
    generalize hc : l[i] = c at *
    by_cases h1 : a < (i : Int)
    · by_cases hP1 : P c = true
      · rw [if_pos (by simp [h1, hP1]), hdS]
        rw [hP1] at hmc
        have hmc' := hmc.symm
        simp only [Bool.and_eq_true, Bool.or_eq_true, decide_eq_true_eq] at hmc'
        obtain ⟨k1, k2⟩ := hmc'
        rw [k2] at hac
        by_cases k3 : c.k = 1
        · replace k3 := eq_true k3
          repeat (first
            | (with_reducible apply AWp.seq)
            | (with_reducible apply AWp.block)
            | ((with_reducible apply AWp.fork); simp -implicitDefEqProofs [hlt, hc, clV_def, h1, k3, ci_lt, ci_le, wi_i])
            | ((with_reducible apply AWp.region); simp -implicitDefEqProofs [hlt, hc, clV_def, h1, k3, ci_lt, ci_le, wi_i])
            | (with_reducible refine And.intro (by first | omega | assumption | decide) ?_)
            | ((with_reducible show condK _ _ _); simp -implicitDefEqProofs [hlt, hc, clV_def, h1, k3, ci_lt, ci_le, wi_i])
            | ((with_reducible show guardK _ _ _ _ _ _ _ _ _); simp -implicitDefEqProofs [hlt, hc, clV_def, h1, k3, ci_lt, ci_le, wi_i])
            | ((with_reducible apply aCall.id); first
                | ((apply aCall.gives (hac _)); simp -implicitDefEqProofs [hlt, hc, clV_def, h1, k3, ci_lt, ci_le, wi_i]))
            | ((with_reducible apply AWp.ret); try simp -implicitDefEqProofs [hlt, hc, clV_def, h1, k3, ci_lt, ci_le, wi_i])
            | ((with_reducible apply AWp.skip); try simp -implicitDefEqProofs [hlt, hc, clV_def, h1, k3, ci_lt, ci_le, wi_i])
            | ((with_reducible apply AWp.exit); try simp -implicitDefEqProofs [hlt, hc, clV_def, h1, k3, ci_lt, ci_le, wi_i]))
        · have k4 : c.k = 2 := by rcases k1 with h | h; exact absurd h k3; exact h
          replace k3 := eq_false k3
          replace k4 := eq_true k4
          repeat (first
            | (with_reducible apply AWp.seq)
            | (with_reducible apply AWp.block)
            | ((with_reducible apply AWp.fork); simp -implicitDefEqProofs [hlt, hc, clV_def, h1, k3, k4, ci_lt, ci_le, wi_i])
            | ((with_reducible apply AWp.region); simp -implicitDefEqProofs [hlt, hc, clV_def, h1, k3, k4, ci_lt, ci_le, wi_i])
            | (with_reducible refine And.intro (by first | omega | assumption | decide) ?_)
            | ((with_reducible show condK _ _ _); simp -implicitDefEqProofs [hlt, hc, clV_def, h1, k3, k4, ci_lt, ci_le, wi_i])
            | ((with_reducible show guardK _ _ _ _ _ _ _ _ _); simp -implicitDefEqProofs [hlt, hc, clV_def, h1, k3, k4, ci_lt, ci_le, wi_i])
            | ((with_reducible apply aCall.id); first
                | ((apply aCall.gives (hac _)); simp -implicitDefEqProofs [hlt, hc, clV_def, h1, k3, k4, ci_lt, ci_le, wi_i]))
            | ((with_reducible apply AWp.ret); try simp -implicitDefEqProofs [hlt, hc, clV_def, h1, k3, k4, ci_lt, ci_le, wi_i])
            | ((with_reducible apply AWp.skip); try simp -implicitDefEqProofs [hlt, hc, clV_def, h1, k3, k4, ci_lt, ci_le, wi_i])
            | ((with_reducible apply AWp.exit); try simp -implicitDefEqProofs [hlt, hc, clV_def, h1, k3, k4, ci_lt, ci_le, wi_i]))
      · rw [if_neg (by simp [hP1])]
        have hP1' : P c = false := by simpa using hP1
        rw [hP1'] at hmc
        by_cases k3 : c.k = 1
        · have hq : Q c = false := by simpa [k3] using hmc.symm
          rw [hq] at hac
          replace k3 := eq_true k3
          repeat (first
            | (with_reducible apply AWp.seq)
            | (with_reducible apply AWp.block)
            | ((with_reducible apply AWp.fork); simp -implicitDefEqProofs [hlt, hc, clV_def, h1, k3, ci_lt, ci_le, wi_i])
            | ((with_reducible apply AWp.region); simp -implicitDefEqProofs [hlt, hc, clV_def, h1, k3, ci_lt, ci_le, wi_i])
            | (with_reducible refine And.intro (by first | omega | assumption | decide) ?_)
            | ((with_reducible show condK _ _ _); simp -implicitDefEqProofs [hlt, hc, clV_def, h1, k3, ci_lt, ci_le, wi_i])
            | ((with_reducible show guardK _ _ _ _ _ _ _ _ _); simp -implicitDefEqProofs [hlt, hc, clV_def, h1, k3, ci_lt, ci_le, wi_i])
            | ((with_reducible apply aCall.id); first
                | ((apply aCall.gives (hac _)); simp -implicitDefEqProofs [hlt, hc, clV_def, h1, k3, ci_lt, ci_le, wi_i]))
            | ((with_reducible apply AWp.ret); try simp -implicitDefEqProofs [hlt, hc, clV_def, h1, k3, ci_lt, ci_le, wi_i])
            | ((with_reducible apply AWp.skip); try simp -implicitDefEqProofs [hlt, hc, clV_def, h1, k3, ci_lt, ci_le, wi_i])
            | ((with_reducible apply AWp.exit); try simp -implicitDefEqProofs [hlt, hc, clV_def, h1, k3, ci_lt, ci_le, wi_i]))
          refine stepA.mk (i + 1) (by (try dsimp only); omega) (by (try dsimp only); (simp only [List.cons_append, List.nil_append]; repeat (first | exact FrWk.nil | refine FrWk.cons (by first | (simp -implicitDefEqProofs [ci_lt, ci_le, wi_i]; done) | exact Wk.of (by (try simp -implicitDefEqProofs [ci_lt, ci_le, wi_i]) <;> rfl)) ?_))) (by (try dsimp only); (first | exact AS.le_refl _ | assumption | (repeat (first | exact AS.le_refl _ | assumption | refine le_new (by simp [*]) ?_)))) ?_
          try dsimp only
          exact ⟨hlt, rfl⟩
        · by_cases k4 : c.k = 2
          · have hq : Q c = false := by simpa [k4] using hmc.symm
            rw [hq] at hac
            replace k3 := eq_false k3
            replace k4 := eq_true k4
            repeat (first
              | (with_reducible apply AWp.seq)
              | (with_reducible apply AWp.block)
              | ((with_reducible apply AWp.fork); simp -implicitDefEqProofs [hlt, hc, clV_def, h1, k3, k4, ci_lt, ci_le, wi_i])
              | ((with_reducible apply AWp.region); simp -implicitDefEqProofs [hlt, hc, clV_def, h1, k3, k4, ci_lt, ci_le, wi_i])
              | (with_reducible refine And.intro (by first | omega | assumption | decide) ?_)
              | ((with_reducible show condK _ _ _); simp -implicitDefEqProofs [hlt, hc, clV_def, h1, k3, k4, ci_lt, ci_le, wi_i])
              | ((with_reducible show guardK _ _ _ _ _ _ _ _ _); simp -implicitDefEqProofs [hlt, hc, clV_def, h1, k3, k4, ci_lt, ci_le, wi_i])
              | ((with_reducible apply aCall.id); first
                  | ((apply aCall.gives (hac _)); simp -implicitDefEqProofs [hlt, hc, clV_def, h1, k3, k4, ci_lt, ci_le, wi_i]))
              | ((with_reducible apply AWp.ret); try simp -implicitDefEqProofs [hlt, hc, clV_def, h1, k3, k4, ci_lt, ci_le, wi_i])
              | ((with_reducible apply AWp.skip); try simp -implicitDefEqProofs [hlt, hc, clV_def, h1, k3, k4, ci_lt, ci_le, wi_i])
              | ((with_reducible apply AWp.exit); try simp -implicitDefEqProofs [hlt, hc, clV_def, h1, k3, k4, ci_lt, ci_le, wi_i]))
            refine stepA.mk (i + 1) (by (try dsimp only); omega) (by (try dsimp only); (simp only [List.cons_append, List.nil_append]; repeat (first | exact FrWk.nil | refine FrWk.cons (by first | (simp -implicitDefEqProofs [ci_lt, ci_le, wi_i]; done) | exact Wk.of (by (try simp -implicitDefEqProofs [ci_lt, ci_le, wi_i]) <;> rfl)) ?_))) (by (try dsimp only); (first | exact AS.le_refl _ | assumption | (repeat (first | exact AS.le_refl _ | assumption | refine le_new (by simp [*]) ?_)))) ?_
            try dsimp only
            exact ⟨hlt, rfl⟩
          · replace k3 := eq_false k3
            replace k4 := eq_false k4
            repeat (first
              | (with_reducible apply AWp.seq)
              | (with_reducible apply AWp.block)
              | ((with_reducible apply AWp.fork); simp -implicitDefEqProofs [hlt, hc, clV_def, h1, k3, k4, ci_lt, ci_le, wi_i])
              | ((with_reducible apply AWp.region); simp -implicitDefEqProofs [hlt, hc, clV_def, h1, k3, k4, ci_lt, ci_le, wi_i])
              | (with_reducible refine And.intro (by first | omega | assumption | decide) ?_)
              | ((with_reducible show condK _ _ _); simp -implicitDefEqProofs [hlt, hc, clV_def, h1, k3, k4, ci_lt, ci_le, wi_i])
              | ((with_reducible show guardK _ _ _ _ _ _ _ _ _); simp -implicitDefEqProofs [hlt, hc, clV_def, h1, k3, k4, ci_lt, ci_le, wi_i])
              | ((with_reducible apply aCall.id); first
                  | ((apply aCall.gives (hac _)); simp -implicitDefEqProofs [hlt, hc, clV_def, h1, k3, k4, ci_lt, ci_le, wi_i]))
              | ((with_reducible apply AWp.ret); try simp -implicitDefEqProofs [hlt, hc, clV_def, h1, k3, k4, ci_lt, ci_le, wi_i])
              | ((with_reducible apply AWp.skip); try simp -implicitDefEqProofs [hlt, hc, clV_def, h1, k3, k4, ci_lt, ci_le, wi_i])
              | ((with_reducible apply AWp.exit); try simp -implicitDefEqProofs [hlt, hc, clV_def, h1, k3, k4, ci_lt, ci_le, wi_i]))
            refine stepA.mk (i + 1) (by (try dsimp only); omega) (by (try dsimp only); (simp only [List.cons_append, List.nil_append]; repeat (first | exact FrWk.nil | refine FrWk.cons (by first | (simp -implicitDefEqProofs [ci_lt, ci_le, wi_i]; done) | exact Wk.of (by (try simp -implicitDefEqProofs [ci_lt, ci_le, wi_i]) <;> rfl)) ?_))) (by (try dsimp only); (first | exact AS.le_refl _ | assumption | (repeat (first | exact AS.le_refl _ | assumption | refine le_new (by simp [*]) ?_)))) ?_
            try dsimp only
            exact ⟨hlt, rfl⟩
    · rw [if_neg (by simp [h1])]
      repeat (first
        | (with_reducible apply AWp.seq)
        | (with_reducible apply AWp.block)
        | ((with_reducible apply AWp.fork); simp -implicitDefEqProofs [hlt, hc, clV_def, h1, ci_lt, ci_le, wi_i])
        | ((with_reducible apply AWp.region); simp -implicitDefEqProofs [hlt, hc, clV_def, h1, ci_lt, ci_le, wi_i])
        | (with_reducible refine And.intro (by first | omega | assumption | decide) ?_)
        | ((with_reducible show condK _ _ _); simp -implicitDefEqProofs [hlt, hc, clV_def, h1, ci_lt, ci_le, wi_i])
        | ((with_reducible show guardK _ _ _ _ _ _ _ _ _); simp -implicitDefEqProofs [hlt, hc, clV_def, h1, ci_lt, ci_le, wi_i])
        | ((with_reducible apply AWp.ret); try simp -implicitDefEqProofs [hlt, hc, clV_def, h1, ci_lt, ci_le, wi_i])
        | ((with_reducible apply AWp.skip); try simp -implicitDefEqProofs [hlt, hc, clV_def, h1, ci_lt, ci_le, wi_i])
        | ((with_reducible apply AWp.exit); try simp -implicitDefEqProofs [hlt, hc, clV_def, h1, ci_lt, ci_le, wi_i]))
      refine stepA.mk (i + 1) (by (try dsimp only); omega) (by (try dsimp only); (simp only [List.cons_append, List.nil_append]; repeat (first | exact FrWk.nil | refine FrWk.cons (by first | (simp -implicitDefEqProofs [ci_lt, ci_le, wi_i]; done) | exact Wk.of (by (try simp -implicitDefEqProofs [ci_lt, ci_le, wi_i]) <;> rfl)) ?_))) (by (try dsimp only); (first | exact AS.le_refl _ | assumption | (repeat (first | exact AS.le_refl _ | assumption | refine le_new (by simp [*]) ?_)))) ?_
      try dsimp only
      exact ⟨hlt, rfl⟩
  · rw [List.drop_eq_nil_of_le (by omega)]
    simp only [someI, hdS]
    repeat (first
      | (with_reducible apply AWp.seq)
      | (with_reducible apply AWp.block)
      | ((with_reducible apply AWp.fork); simp -implicitDefEqProofs [hlt, ci_lt, ci_le])
      | ((with_reducible apply AWp.region); simp -implicitDefEqProofs [hlt, ci_lt, ci_le])
      | (with_reducible refine And.intro (by first | omega | assumption | decide) ?_)
      | ((with_reducible show condK _ _ _); simp -implicitDefEqProofs [hlt, ci_lt, ci_le])
      | ((with_reducible show guardK _ _ _ _ _ _ _ _ _); simp -implicitDefEqProofs [hlt, ci_lt, ci_le])
      | ((with_reducible apply AWp.ret); try simp -implicitDefEqProofs [hlt, ci_lt, ci_le])
      | ((with_reducible apply AWp.skip); try simp -implicitDefEqProofs [hlt, ci_lt, ci_le])
      | ((with_reducible apply AWp.exit); try simp -implicitDefEqProofs [hlt, ci_lt, ci_le]))

theorem rfins_ok (l : List Cl) (o : Own) (nl : Bool) (x f u : Int) (hl : l.length ≤ 1000) (σ : AS) :
    ACalls Try.prog 36 [clsV l o nl, .sc (.int .i64 x), .sc (.int .i64 f), .sc (.int .i64 u)] σ (Gives (intsV (finsS l x f u)) σ) No := by
  have ha := fun c i hi hc σ => rAsked_ok l o nl c i hi hc x f (by omega) σ
  have hm : ∀ c, finC l x f c = ((decide (c.k = 3) || decide (c.k = 4)) && askS l x f c) := fun _ => rfl
  unfold finsS
  generalize hP : finC l x f = P at *
  generalize askS l x f = Q at *
  generalize hR : (fun (k : Nat) c => (decide (u < 0) || decide ((k : Int) < u)) && P c) = R at *
  have hRc : ∀ k c, R k c = ((decide (u < 0) || decide ((k : Int) < u)) && P c) := fun k c => by rw [← hR]
  simp only [clsV, intsV] at ha ⊢
  refine ACalls.of_body Try.func36 rfl rfl (by simp [Try.ntmps36]) ?_
  repeat (first
    | (with_reducible apply AWp.seq)
    | (with_reducible apply AWp.block)
    | ((with_reducible apply AWp.fork); simp -implicitDefEqProofs [ci_lt, ci_le])
    | ((with_reducible apply AWp.region); simp -implicitDefEqProofs [ci_lt, ci_le])
    | (with_reducible refine And.intro (by first | omega | assumption | decide) ?_)
    | ((with_reducible show condK _ _ _); simp -implicitDefEqProofs [ci_lt, ci_le])
    | ((with_reducible show guardK _ _ _ _ _ _ _ _ _); simp -implicitDefEqProofs [ci_lt, ci_le])
    | ((with_reducible apply AWp.ret); try simp -implicitDefEqProofs [ci_lt, ci_le])
    | ((with_reducible apply AWp.skip); try simp -implicitDefEqProofs [ci_lt, ci_le])
    | ((with_reducible apply AWp.exit); try simp -implicitDefEqProofs [ci_lt, ci_le]))
  refine AWp.mint 9 3 [] true (by simp [Try.ntmps36]) (.inr ⟨by simp, rfl, rfl⟩) ?_
  simp -implicitDefEqProofs [ci_lt, ci_le]
  intro tk htk
  repeat (first
    | (with_reducible apply AWp.seq)
    | (with_reducible apply AWp.block)
    | ((with_reducible apply AWp.fork); simp -implicitDefEqProofs [ci_lt, ci_le])
    | ((with_reducible apply AWp.region); simp -implicitDefEqProofs [ci_lt, ci_le])
    | (with_reducible refine And.intro (by first | omega | assumption | decide) ?_)
    | ((with_reducible show condK _ _ _); simp -implicitDefEqProofs [ci_lt, ci_le])
    | ((with_reducible show guardK _ _ _ _ _ _ _ _ _); simp -implicitDefEqProofs [ci_lt, ci_le])
    | ((with_reducible apply AWp.ret); try simp -implicitDefEqProofs [ci_lt, ci_le])
    | ((with_reducible apply AWp.skip); try simp -implicitDefEqProofs [ci_lt, ci_le])
    | ((with_reducible apply AWp.exit); try simp -implicitDefEqProofs [ci_lt, ci_le]))
  refine AWp.loopA (α := (Nat) × (List Int)) ((0, [])) (fun ⟨i, d⟩ => l.length - i) (fun ⟨i, d⟩ => i ≤ l.length ∧ d.length ≤ i ∧ d ++ someI R i (l.drop i) = someI R 0 l) [(0, ?_), (1, ?_), (2, ?_), (3, ?_), (8, ?_)] (fun ⟨i, d⟩ => [(10, .sc (.int .i64 i)), (9, .lst 3 (d.map i64v) (.tok tk) (decide (d = [])))]) (fun ⟨i, d⟩ => σ.set tk (.tok d.length)) ?_ ?_ ?_ ?_
  rotate_left 5
  · (try dsimp only); (simp only [List.cons_append, List.nil_append]; repeat (first | exact FrWk.nil | refine FrWk.cons (by first | (simp -implicitDefEqProofs [ci_lt, ci_le]; done) | exact Wk.of (by (try simp -implicitDefEqProofs [ci_lt, ci_le]) <;> rfl)) ?_))
  · (try dsimp only); (first | exact AS.le_refl _ | assumption | (repeat (first | exact AS.le_refl _ | assumption | refine le_new (by simp [*]) ?_)))
  · exact ⟨by omega, by simp, rfl⟩
  intro x_ hx_
  obtain ⟨i, d⟩ := x_
  try dsimp only at hx_ ⊢
  obtain ⟨hi', hd, hX⟩ := hx_
  simp only [List.cons_append, List.nil_append]
  by_cases hlt : i < l.length
  · have wi_i : IntKind.i64.wrap ((i : Int) + 1) = ((i + 1 : Nat) : Int) := ci_wi (by omega)
    rw [List.drop_eq_getElem_cons hlt, someI, hRc] at hX
    have hac := ha l[i] i hlt rfl
    have hmc := hm l[i]
    generalize hc : l[i] = c at *
    have hd1 : d.length ≤ 1000 := by omega
    have hu : (u < 0 ∧ (decide (u < 0) || decide ((i : Int) < u)) = true) ∨ (¬ u < 0 ∧ (i : Int) < u ∧ (decide (u < 0) || decide ((i : Int) < u)) = true) ∨ (¬ u < 0 ∧ ¬ (i : Int) < u ∧ (decide (u < 0) || decide ((i : Int) < u)) = false) := by
      by_cases h1 : u < 0
      · exact .inl ⟨h1, by simp [h1]⟩
      · by_cases h2 : (i : Int) < u
        · exact .inr (.inl ⟨h1, h2, by simp [h2]⟩)
        · exact .inr (.inr ⟨h1, h2, by simp [h1, h2]⟩)
    have hk : (P c = true ∧ Q c = true ∧ c.k = 3) ∨ (P c = true ∧ Q c = true ∧ ¬ c.k = 3 ∧ c.k = 4) ∨ (P c = false ∧ Q c = false ∧ c.k = 3) ∨ (P c = false ∧ Q c = false ∧ ¬ c.k = 3 ∧ c.k = 4) ∨ (P c = false ∧ ¬ c.k = 3 ∧ ¬ c.k = 4) := by
      rw [hmc]
      by_cases k3 : c.k = 3
      · cases hq : Q c <;> simp [k3]
      · by_cases k4 : c.k = 4
        · cases hq : Q c <;> simp [k4]
        · simp [k3, k4]
    clear hmc
    rcases hu with ⟨u1, hu⟩ | ⟨u1, u2, hu⟩ | ⟨u1, u2, hu⟩
    · rcases hk with ⟨p1, q1, k1⟩ | ⟨p1, q1, k1, k2⟩ | ⟨p1, q1, k1⟩ | ⟨p1, q1, k1, k2⟩ | ⟨p1, k1, k2⟩
      · rw [q1] at hac
        replace k1 := eq_true k1
        simp [hu, p1] at hX
        repeat (first
          | (with_reducible apply AWp.seq)
          | (with_reducible apply AWp.block)
          | ((with_reducible apply AWp.fork); simp -implicitDefEqProofs [hlt, hc, clV_def, u1, k1, hd1, ci_lt, ci_le, wi_i])
          | ((with_reducible apply AWp.region); simp -implicitDefEqProofs [hlt, hc, clV_def, u1, k1, hd1, ci_lt, ci_le, wi_i])
          | (with_reducible refine And.intro (by first | omega | assumption | decide) ?_)
          | ((with_reducible show condK _ _ _); simp -implicitDefEqProofs [hlt, hc, clV_def, u1, k1, hd1, ci_lt, ci_le, wi_i])
          | ((with_reducible show guardK _ _ _ _ _ _ _ _ _); simp -implicitDefEqProofs [hlt, hc, clV_def, u1, k1, hd1, ci_lt, ci_le, wi_i])
          | ((with_reducible apply aCall.id); first
              | ((apply aCall.gives (hac _)); simp -implicitDefEqProofs [hlt, hc, clV_def, u1, k1, hd1, ci_lt, ci_le, wi_i]))
          | ((with_reducible apply AWp.ret); try simp -implicitDefEqProofs [hlt, hc, clV_def, u1, k1, hd1, ci_lt, ci_le, wi_i])
          | ((with_reducible apply AWp.skip); try simp -implicitDefEqProofs [hlt, hc, clV_def, u1, k1, hd1, ci_lt, ci_le, wi_i])
          | ((with_reducible apply AWp.exit); try simp -implicitDefEqProofs [hlt, hc, clV_def, u1, k1, hd1, ci_lt, ci_le, wi_i]))
        refine stepA.mk ((i + 1, d ++ [(i : Int)])) (by (try dsimp only); omega) (by (try dsimp only); (simp only [List.cons_append, List.nil_append]; repeat (first | exact FrWk.nil | refine FrWk.cons (by first | (simp -implicitDefEqProofs [i64v_def, ci_lt, ci_le, wi_i]; done) | exact Wk.of (by (try simp -implicitDefEqProofs [i64v_def, ci_lt, ci_le, wi_i]) <;> rfl)) ?_))) (by (try dsimp only); simp) ?_
        try dsimp only
        exact ⟨by omega, by simp; omega, by simpa using hX⟩
      · rw [q1] at hac
        replace k1 := eq_false k1
        replace k2 := eq_true k2
        simp [hu, p1] at hX
        repeat (first
          | (with_reducible apply AWp.seq)
          | (with_reducible apply AWp.block)
          | ((with_reducible apply AWp.fork); simp -implicitDefEqProofs [hlt, hc, clV_def, u1, k1, k2, hd1, ci_lt, ci_le, wi_i])
          | ((with_reducible apply AWp.region); simp -implicitDefEqProofs [hlt, hc, clV_def, u1, k1, k2, hd1, ci_lt, ci_le, wi_i])
          | (with_reducible refine And.intro (by first | omega | assumption | decide) ?_)
          | ((with_reducible show condK _ _ _); simp -implicitDefEqProofs [hlt, hc, clV_def, u1, k1, k2, hd1, ci_lt, ci_le, wi_i])
          | ((with_reducible show guardK _ _ _ _ _ _ _ _ _); simp -implicitDefEqProofs [hlt, hc, clV_def, u1, k1, k2, hd1, ci_lt, ci_le, wi_i])
          | ((with_reducible apply aCall.id); first
              | ((apply aCall.gives (hac _)); simp -implicitDefEqProofs [hlt, hc, clV_def, u1, k1, k2, hd1, ci_lt, ci_le, wi_i]))
          | ((with_reducible apply AWp.ret); try simp -implicitDefEqProofs [hlt, hc, clV_def, u1, k1, k2, hd1, ci_lt, ci_le, wi_i])
          | ((with_reducible apply AWp.skip); try simp -implicitDefEqProofs [hlt, hc, clV_def, u1, k1, k2, hd1, ci_lt, ci_le, wi_i])
          | ((with_reducible apply AWp.exit); try simp -implicitDefEqProofs [hlt, hc, clV_def, u1, k1, k2, hd1, ci_lt, ci_le, wi_i]))
        refine stepA.mk ((i + 1, d ++ [(i : Int)])) (by (try dsimp only); omega) (by (try dsimp only); (simp only [List.cons_append, List.nil_append]; repeat (first | exact FrWk.nil | refine FrWk.cons (by first | (simp -implicitDefEqProofs [i64v_def, ci_lt, ci_le, wi_i]; done) | exact Wk.of (by (try simp -implicitDefEqProofs [i64v_def, ci_lt, ci_le, wi_i]) <;> rfl)) ?_))) (by (try dsimp only); simp) ?_
        try dsimp only
        exact ⟨by omega, by simp; omega, by simpa using hX⟩
      · rw [q1] at hac
        replace k1 := eq_true k1
        simp [hu, p1] at hX
        repeat (first
          | (with_reducible apply AWp.seq)
          | (with_reducible apply AWp.block)
          | ((with_reducible apply AWp.fork); simp -implicitDefEqProofs [hlt, hc, clV_def, u1, k1, hd1, ci_lt, ci_le, wi_i])
          | ((with_reducible apply AWp.region); simp -implicitDefEqProofs [hlt, hc, clV_def, u1, k1, hd1, ci_lt, ci_le, wi_i])
          | (with_reducible refine And.intro (by first | omega | assumption | decide) ?_)
          | ((with_reducible show condK _ _ _); simp -implicitDefEqProofs [hlt, hc, clV_def, u1, k1, hd1, ci_lt, ci_le, wi_i])
          | ((with_reducible show guardK _ _ _ _ _ _ _ _ _); simp -implicitDefEqProofs [hlt, hc, clV_def, u1, k1, hd1, ci_lt, ci_le, wi_i])
          | ((with_reducible apply aCall.id); first
              | ((apply aCall.gives (hac _)); simp -implicitDefEqProofs [hlt, hc, clV_def, u1, k1, hd1, ci_lt, ci_le, wi_i]))
          | ((with_reducible apply AWp.ret); try simp -implicitDefEqProofs [hlt, hc, clV_def, u1, k1, hd1, ci_lt, ci_le, wi_i])
          | ((with_reducible apply AWp.skip); try simp -implicitDefEqProofs [hlt, hc, clV_def, u1, k1, hd1, ci_lt, ci_le, wi_i])
          | ((with_reducible apply AWp.exit); try simp -implicitDefEqProofs [hlt, hc, clV_def, u1, k1, hd1, ci_lt, ci_le, wi_i]))
        refine stepA.mk ((i + 1, d)) (by (try dsimp only); omega) (by (try dsimp only); (simp only [List.cons_append, List.nil_append]; repeat (first | exact FrWk.nil | refine FrWk.cons (by first | (simp -implicitDefEqProofs [ci_lt, ci_le, wi_i]; done) | exact Wk.of (by (try simp -implicitDefEqProofs [ci_lt, ci_le, wi_i]) <;> rfl)) ?_))) (by (try dsimp only); (first | exact AS.le_refl _ | assumption | (repeat (first | exact AS.le_refl _ | assumption | refine le_new (by simp [*]) ?_)))) ?_
        try dsimp only
        exact ⟨by omega, by omega, hX⟩
      · rw [q1] at hac
        replace k1 := eq_false k1
        replace k2 := eq_true k2
        simp [hu, p1] at hX
        repeat (first
          | (with_reducible apply AWp.seq)
          | (with_reducible apply AWp.block)
          | ((with_reducible apply AWp.fork); simp -implicitDefEqProofs [hlt, hc, clV_def, u1, k1, k2, hd1, ci_lt, ci_le, wi_i])
          | ((with_reducible apply AWp.region); simp -implicitDefEqProofs [hlt, hc, clV_def, u1, k1, k2, hd1, ci_lt, ci_le, wi_i])
          | (with_reducible refine And.intro (by first | omega | assumption | decide) ?_)
          | ((with_reducible show condK _ _ _); simp -implicitDefEqProofs [hlt, hc, clV_def, u1, k1, k2, hd1, ci_lt, ci_le, wi_i])
          | ((with_reducible show guardK _ _ _ _ _ _ _ _ _); simp -implicitDefEqProofs [hlt, hc, clV_def, u1, k1, k2, hd1, ci_lt, ci_le, wi_i])
          | ((with_reducible apply aCall.id); first
              | ((apply aCall.gives (hac _)); simp -implicitDefEqProofs [hlt, hc, clV_def, u1, k1, k2, hd1, ci_lt, ci_le, wi_i]))
          | ((with_reducible apply AWp.ret); try simp -implicitDefEqProofs [hlt, hc, clV_def, u1, k1, k2, hd1, ci_lt, ci_le, wi_i])
          | ((with_reducible apply AWp.skip); try simp -implicitDefEqProofs [hlt, hc, clV_def, u1, k1, k2, hd1, ci_lt, ci_le, wi_i])
          | ((with_reducible apply AWp.exit); try simp -implicitDefEqProofs [hlt, hc, clV_def, u1, k1, k2, hd1, ci_lt, ci_le, wi_i]))
        refine stepA.mk ((i + 1, d)) (by (try dsimp only); omega) (by (try dsimp only); (simp only [List.cons_append, List.nil_append]; repeat (first | exact FrWk.nil | refine FrWk.cons (by first | (simp -implicitDefEqProofs [ci_lt, ci_le, wi_i]; done) | exact Wk.of (by (try simp -implicitDefEqProofs [ci_lt, ci_le, wi_i]) <;> rfl)) ?_))) (by (try dsimp only); (first | exact AS.le_refl _ | assumption | (repeat (first | exact AS.le_refl _ | assumption | refine le_new (by simp [*]) ?_)))) ?_
        try dsimp only
        exact ⟨by omega, by omega, hX⟩
      · replace k1 := eq_false k1
        replace k2 := eq_false k2
        simp [hu, p1] at hX
        repeat (first
          | (with_reducible apply AWp.seq)
          | (with_reducible apply AWp.block)
          | ((with_reducible apply AWp.fork); simp -implicitDefEqProofs [hlt, hc, clV_def, u1, k1, k2, hd1, ci_lt, ci_le, wi_i])
          | ((with_reducible apply AWp.region); simp -implicitDefEqProofs [hlt, hc, clV_def, u1, k1, k2, hd1, ci_lt, ci_le, wi_i])
          | (with_reducible refine And.intro (by first | omega | assumption | decide) ?_)
          | ((with_reducible show condK _ _ _); simp -implicitDefEqProofs [hlt, hc, clV_def, u1, k1, k2, hd1, ci_lt, ci_le, wi_i])
          | ((with_reducible show guardK _ _ _ _ _ _ _ _ _); simp -implicitDefEqProofs [hlt, hc, clV_def, u1, k1, k2, hd1, ci_lt, ci_le, wi_i])
          | ((with_reducible apply aCall.id); first
              | ((apply aCall.gives (hac _)); simp -implicitDefEqProofs [hlt, hc, clV_def, u1, k1, k2, hd1, ci_lt, ci_le, wi_i]))
          | ((with_reducible apply AWp.ret); try simp -implicitDefEqProofs [hlt, hc, clV_def, u1, k1, k2, hd1, ci_lt, ci_le, wi_i])
          | ((with_reducible apply AWp.skip); try simp -implicitDefEqProofs [hlt, hc, clV_def, u1, k1, k2, hd1, ci_lt, ci_le, wi_i])
          | ((with_reducible apply AWp.exit); try simp -implicitDefEqProofs [hlt, hc, clV_def, u1, k1, k2, hd1, ci_lt, ci_le, wi_i]))
        refine stepA.mk ((i + 1, d)) (by (try dsimp only); omega) (by (try dsimp only); (simp only [List.cons_append, List.nil_append]; repeat (first | exact FrWk.nil | refine FrWk.cons (by first | (simp -implicitDefEqProofs [ci_lt, ci_le, wi_i]; done) | exact Wk.of (by (try simp -implicitDefEqProofs [ci_lt, ci_le, wi_i]) <;> rfl)) ?_))) (by (try dsimp only); (first | exact AS.le_refl _ | assumption | (repeat (first | exact AS.le_refl _ | assumption | refine le_new (by simp [*]) ?_)))) ?_
        try dsimp only
        exact ⟨by omega, by omega, hX⟩
    · rcases hk with ⟨p1, q1, k1⟩ | ⟨p1, q1, k1, k2⟩ | ⟨p1, q1, k1⟩ | ⟨p1, q1, k1, k2⟩ | ⟨p1, k1, k2⟩
      · rw [q1] at hac
        replace k1 := eq_true k1
        simp [hu, p1] at hX
        repeat (first
          | (with_reducible apply AWp.seq)
          | (with_reducible apply AWp.block)
          | ((with_reducible apply AWp.fork); simp -implicitDefEqProofs [hlt, hc, clV_def, u1, u2, k1, hd1, ci_lt, ci_le, wi_i])
          | ((with_reducible apply AWp.region); simp -implicitDefEqProofs [hlt, hc, clV_def, u1, u2, k1, hd1, ci_lt, ci_le, wi_i])
          | (with_reducible refine And.intro (by first | omega | assumption | decide) ?_)
          | ((with_reducible show condK _ _ _); simp -implicitDefEqProofs [hlt, hc, clV_def, u1, u2, k1, hd1, ci_lt, ci_le, wi_i])
          | ((with_reducible show guardK _ _ _ _ _ _ _ _ _); simp -implicitDefEqProofs [hlt, hc, clV_def, u1, u2, k1, hd1, ci_lt, ci_le, wi_i])
          | ((with_reducible apply aCall.id); first
              | ((apply aCall.gives (hac _)); simp -implicitDefEqProofs [hlt, hc, clV_def, u1, u2, k1, hd1, ci_lt, ci_le, wi_i]))
          | ((with_reducible apply AWp.ret); try simp -implicitDefEqProofs [hlt, hc, clV_def, u1, u2, k1, hd1, ci_lt, ci_le, wi_i])
          | ((with_reducible apply AWp.skip); try simp -implicitDefEqProofs [hlt, hc, clV_def, u1, u2, k1, hd1, ci_lt, ci_le, wi_i])
          | ((with_reducible apply AWp.exit); try simp -implicitDefEqProofs [hlt, hc, clV_def, u1, u2, k1, hd1, ci_lt, ci_le, wi_i]))
        refine stepA.mk ((i + 1, d ++ [(i : Int)])) (by (try dsimp only); omega) (by (try dsimp only); (simp only [List.cons_append, List.nil_append]; repeat (first | exact FrWk.nil | refine FrWk.cons (by first | (simp -implicitDefEqProofs [i64v_def, ci_lt, ci_le, wi_i]; done) | exact Wk.of (by (try simp -implicitDefEqProofs [i64v_def, ci_lt, ci_le, wi_i]) <;> rfl)) ?_))) (by (try dsimp only); simp) ?_
        try dsimp only
        exact ⟨by omega, by simp; omega, by simpa using hX⟩
      · rw [q1] at hac
        replace k1 := eq_false k1
        replace k2 := eq_true k2
        simp [hu, p1] at hX
        repeat (first
          | (with_reducible apply AWp.seq)
          | (with_reducible apply AWp.block)
          | ((with_reducible apply AWp.fork); simp -implicitDefEqProofs [hlt, hc, clV_def, u1, u2, k1, k2, hd1, ci_lt, ci_le, wi_i])
          | ((with_reducible apply AWp.region); simp -implicitDefEqProofs [hlt, hc, clV_def, u1, u2, k1, k2, hd1, ci_lt, ci_le, wi_i])
          | (with_reducible refine And.intro (by first | omega | assumption | decide) ?_)
          | ((with_reducible show condK _ _ _); simp -implicitDefEqProofs [hlt, hc, clV_def, u1, u2, k1, k2, hd1, ci_lt, ci_le, wi_i])
          | ((with_reducible show guardK _ _ _ _ _ _ _ _ _); simp -implicitDefEqProofs [hlt, hc, clV_def, u1, u2, k1, k2, hd1, ci_lt, ci_le, wi_i])
          | ((with_reducible apply aCall.id); first
              | ((apply aCall.gives (hac _)); simp -implicitDefEqProofs [hlt, hc, clV_def, u1, u2, k1, k2, hd1, ci_lt, ci_le, wi_i]))
          | ((with_reducible apply AWp.ret); try simp -implicitDefEqProofs [hlt, hc, clV_def, u1, u2, k1, k2, hd1, ci_lt, ci_le, wi_i])
          | ((with_reducible apply AWp.skip); try simp -implicitDefEqProofs [hlt, hc, clV_def, u1, u2, k1, k2, hd1, ci_lt, ci_le, wi_i])
          | ((with_reducible apply AWp.exit); try simp -implicitDefEqProofs [hlt, hc, clV_def, u1, u2, k1, k2, hd1, ci_lt, ci_le, wi_i]))
        refine stepA.mk ((i + 1, d ++ [(i : Int)])) (by (try dsimp only); omega) (by (try dsimp only); (simp only [List.cons_append, List.nil_append]; repeat (first | exact FrWk.nil | refine FrWk.cons (by first | (simp -implicitDefEqProofs [i64v_def, ci_lt, ci_le, wi_i]; done) | exact Wk.of (by (try simp -implicitDefEqProofs [i64v_def, ci_lt, ci_le, wi_i]) <;> rfl)) ?_))) (by (try dsimp only); simp) ?_
        try dsimp only
        exact ⟨by omega, by simp; omega, by simpa using hX⟩
      · rw [q1] at hac
        replace k1 := eq_true k1
        simp [hu, p1] at hX
        repeat (first
          | (with_reducible apply AWp.seq)
          | (with_reducible apply AWp.block)
          | ((with_reducible apply AWp.fork); simp -implicitDefEqProofs [hlt, hc, clV_def, u1, u2, k1, hd1, ci_lt, ci_le, wi_i])
          | ((with_reducible apply AWp.region); simp -implicitDefEqProofs [hlt, hc, clV_def, u1, u2, k1, hd1, ci_lt, ci_le, wi_i])
          | (with_reducible refine And.intro (by first | omega | assumption | decide) ?_)
          | ((with_reducible show condK _ _ _); simp -implicitDefEqProofs [hlt, hc, clV_def, u1, u2, k1, hd1, ci_lt, ci_le, wi_i])
          | ((with_reducible show guardK _ _ _ _ _ _ _ _ _); simp -implicitDefEqProofs [hlt, hc, clV_def, u1, u2, k1, hd1, ci_lt, ci_le, wi_i])
          | ((with_reducible apply aCall.id); first
              | ((apply aCall.gives (hac _)); simp -implicitDefEqProofs [hlt, hc, clV_def, u1, u2, k1, hd1, ci_lt, ci_le, wi_i]))
          | ((with_reducible apply AWp.ret); try simp -implicitDefEqProofs [hlt, hc, clV_def, u1, u2, k1, hd1, ci_lt, ci_le, wi_i])
          | ((with_reducible apply AWp.skip); try simp -implicitDefEqProofs [hlt, hc, clV_def, u1, u2, k1, hd1, ci_lt, ci_le, wi_i])
          | ((with_reducible apply AWp.exit); try simp -implicitDefEqProofs [hlt, hc, clV_def, u1, u2, k1, hd1, ci_lt, ci_le, wi_i]))
        refine stepA.mk ((i + 1, d)) (by (try dsimp only); omega) (by (try dsimp only); (simp only [List.cons_append, List.nil_append]; repeat (first | exact FrWk.nil | refine FrWk.cons (by first | (simp -implicitDefEqProofs [ci_lt, ci_le, wi_i]; done) | exact Wk.of (by (try simp -implicitDefEqProofs [ci_lt, ci_le, wi_i]) <;> rfl)) ?_))) (by (try dsimp only); (first | exact AS.le_refl _ | assumption | (repeat (first | exact AS.le_refl _ | assumption | refine le_new (by simp [*]) ?_)))) ?_
        try dsimp only
        exact ⟨by omega, by omega, hX⟩
      · rw [q1] at hac
        replace k1 := eq_false k1
        replace k2 := eq_true k2
        simp [hu, p1] at hX
        repeat (first
          | (with_reducible apply AWp.seq)
          | (with_reducible apply AWp.block)
          | ((with_reducible apply AWp.fork); simp -implicitDefEqProofs [hlt, hc, clV_def, u1, u2, k1, k2, hd1, ci_lt, ci_le, wi_i])
          | ((with_reducible apply AWp.region); simp -implicitDefEqProofs [hlt, hc, clV_def, u1, u2, k1, k2, hd1, ci_lt, ci_le, wi_i])
          | (with_reducible refine And.intro (by first | omega | assumption | decide) ?_)
          | ((with_reducible show condK _ _ _); simp -implicitDefEqProofs [hlt, hc, clV_def, u1, u2, k1, k2, hd1, ci_lt, ci_le, wi_i])
          | ((with_reducible show guardK _ _ _ _ _ _ _ _ _); simp -implicitDefEqProofs [hlt, hc, clV_def, u1, u2, k1, k2, hd1, ci_lt, ci_le, wi_i])
          | ((with_reducible apply aCall.id); first
              | ((apply aCall.gives (hac _)); simp -implicitDefEqProofs [hlt, hc, clV_def, u1, u2, k1, k2, hd1, ci_lt, ci_le, wi_i]))
          | ((with_reducible apply AWp.ret); try simp -implicitDefEqProofs [hlt, hc, clV_def, u1, u2, k1, k2, hd1, ci_lt, ci_le, wi_i])
          | ((with_reducible apply AWp.skip); try simp -implicitDefEqProofs [hlt, hc, clV_def, u1, u2, k1, k2, hd1, ci_lt, ci_le, wi_i])
          | ((with_reducible apply AWp.exit); try simp -implicitDefEqProofs [hlt, hc, clV_def, u1, u2, k1, k2, hd1, ci_lt, ci_le, wi_i]))
        refine stepA.mk ((i + 1, d)) (by (try dsimp only); omega) (by (try dsimp only); (simp only [List.cons_append, List.nil_append]; repeat (first | exact FrWk.nil | refine FrWk.cons (by first | (simp -implicitDefEqProofs [ci_lt, ci_le, wi_i]; done) | exact Wk.of (by (try simp -implicitDefEqProofs [ci_lt, ci_le, wi_i]) <;> rfl)) ?_))) (by (try dsimp only); (first | exact AS.le_refl _ | assumption | (repeat (first | exact AS.le_refl _ | assumption | refine le_new (by simp [*]) ?_)))) ?_
        try dsimp only
        exact ⟨by omega, by omega, hX⟩
      · replace k1 := eq_false k1
        replace k2 := eq_false k2
        simp [hu, p1] at hX
        repeat (first
          | (with_reducible apply AWp.seq)
          | (with_reducible apply AWp.block)
          | ((with_reducible apply AWp.fork); simp -implicitDefEqProofs [hlt, hc, clV_def, u1, u2, k1, k2, hd1, ci_lt, ci_le, wi_i])
          | ((with_reducible apply AWp.region); simp -implicitDefEqProofs [hlt, hc, clV_def, u1, u2, k1, k2, hd1, ci_lt, ci_le, wi_i])
          | (with_reducible refine And.intro (by first | omega | assumption | decide) ?_)
          | ((with_reducible show condK _ _ _); simp -implicitDefEqProofs [hlt, hc, clV_def, u1, u2, k1, k2, hd1, ci_lt, ci_le, wi_i])
          | ((with_reducible show guardK _ _ _ _ _ _ _ _ _); simp -implicitDefEqProofs [hlt, hc, clV_def, u1, u2, k1, k2, hd1, ci_lt, ci_le, wi_i])
          | ((with_reducible apply aCall.id); first
              | ((apply aCall.gives (hac _)); simp -implicitDefEqProofs [hlt, hc, clV_def, u1, u2, k1, k2, hd1, ci_lt, ci_le, wi_i]))
          | ((with_reducible apply AWp.ret); try simp -implicitDefEqProofs [hlt, hc, clV_def, u1, u2, k1, k2, hd1, ci_lt, ci_le, wi_i])
          | ((with_reducible apply AWp.skip); try simp -implicitDefEqProofs [hlt, hc, clV_def, u1, u2, k1, k2, hd1, ci_lt, ci_le, wi_i])
          | ((with_reducible apply AWp.exit); try simp -implicitDefEqProofs [hlt, hc, clV_def, u1, u2, k1, k2, hd1, ci_lt, ci_le, wi_i]))
        refine stepA.mk ((i + 1, d)) (by (try dsimp only); omega) (by (try dsimp only); (simp only [List.cons_append, List.nil_append]; repeat (first | exact FrWk.nil | refine FrWk.cons (by first | (simp -implicitDefEqProofs [ci_lt, ci_le, wi_i]; done) | exact Wk.of (by (try simp -implicitDefEqProofs [ci_lt, ci_le, wi_i]) <;> rfl)) ?_))) (by (try dsimp only); (first | exact AS.le_refl _ | assumption | (repeat (first | exact AS.le_refl _ | assumption | refine le_new (by simp [*]) ?_)))) ?_
        try dsimp only
        exact ⟨by omega, by omega, hX⟩
    · simp [hu] at hX
      repeat (first
        | (with_reducible apply AWp.seq)
        | (with_reducible apply AWp.block)
        | ((with_reducible apply AWp.fork); simp -implicitDefEqProofs [hlt, hc, clV_def, u1, u2, hd1, ci_lt, ci_le, wi_i])
        | ((with_reducible apply AWp.region); simp -implicitDefEqProofs [hlt, hc, clV_def, u1, u2, hd1, ci_lt, ci_le, wi_i])
        | (with_reducible refine And.intro (by first | omega | assumption | decide) ?_)
        | ((with_reducible show condK _ _ _); simp -implicitDefEqProofs [hlt, hc, clV_def, u1, u2, hd1, ci_lt, ci_le, wi_i])
        | ((with_reducible show guardK _ _ _ _ _ _ _ _ _); simp -implicitDefEqProofs [hlt, hc, clV_def, u1, u2, hd1, ci_lt, ci_le, wi_i])
        | ((with_reducible apply aCall.id); first
            | ((apply aCall.gives (hac _)); simp -implicitDefEqProofs [hlt, hc, clV_def, u1, u2, hd1, ci_lt, ci_le, wi_i]))
        | ((with_reducible apply AWp.ret); try simp -implicitDefEqProofs [hlt, hc, clV_def, u1, u2, hd1, ci_lt, ci_le, wi_i])
        | ((with_reducible apply AWp.skip); try simp -implicitDefEqProofs [hlt, hc, clV_def, u1, u2, hd1, ci_lt, ci_le, wi_i])
        | ((with_reducible apply AWp.exit); try simp -implicitDefEqProofs [hlt, hc, clV_def, u1, u2, hd1, ci_lt, ci_le, wi_i]))
      refine stepA.mk ((i + 1, d)) (by (try dsimp only); omega) (by (try dsimp only); (simp only [List.cons_append, List.nil_append]; repeat (first | exact FrWk.nil | refine FrWk.cons (by first | (simp -implicitDefEqProofs [ci_lt, ci_le, wi_i]; done) | exact Wk.of (by (try simp -implicitDefEqProofs [ci_lt, ci_le, wi_i]) <;> rfl)) ?_))) (by (try dsimp only); (first | exact AS.le_refl _ | assumption | (repeat (first | exact AS.le_refl _ | assumption | refine le_new (by simp [*]) ?_)))) ?_
      try dsimp only
      exact ⟨by omega, by omega, hX⟩
  · rw [List.drop_eq_nil_of_le (by omega)] at hX
    simp only [someI, List.append_nil] at hX
    subst hX
    repeat (first
      | (with_reducible apply AWp.seq)
      | (with_reducible apply AWp.block)
      | ((with_reducible apply AWp.fork); simp -implicitDefEqProofs [hlt, ci_lt, ci_le])
      | ((with_reducible apply AWp.region); simp -implicitDefEqProofs [hlt, ci_lt, ci_le])
      | (with_reducible refine And.intro (by first | omega | assumption | decide) ?_)
      | ((with_reducible show condK _ _ _); simp -implicitDefEqProofs [hlt, ci_lt, ci_le])
      | ((with_reducible show guardK _ _ _ _ _ _ _ _ _); simp -implicitDefEqProofs [hlt, ci_lt, ci_le])
      | ((with_reducible apply AWp.ret); try simp -implicitDefEqProofs [hlt, ci_lt, ci_le])
      | ((with_reducible apply AWp.skip); try simp -implicitDefEqProofs [hlt, ci_lt, ci_le])
      | ((with_reducible apply AWp.exit); try simp -implicitDefEqProofs [hlt, ci_lt, ci_le]))
    exact le_new htk (AS.le_refl _)

/-! the handler -/

def hanS : List Pt → Int
  | [] => -1
  | p :: r => if p.p = 1 then hanS r else if p.p = 2 then p.k else -1

theorem rindex_ok (l : List Pt) (o : Own) (nl : Bool) (fv : AV) (g : Pt → Bool) (σ : AS) (hl : l.length ≤ 140737488355328) (hf : ∀ x ∈ l, FnG Try.prog σ fv [rgV x] (.sc (.bool (g x)))) :
    ACalls Try.prog 62 [.lst 47 (l.map rgV) o nl, fv] σ (Gives (.sc (.int .i64 (idxS g l))) σ) No := by
  refine ACalls.of_body Try.func62 rfl rfl (by simp [Try.ntmps62]) ?_
  repeat (first
    | (with_reducible apply AWp.seq)
    | (with_reducible apply AWp.block)
    | ((with_reducible apply AWp.fork); simp -implicitDefEqProofs [ci_lt, ci_le])
    | ((with_reducible apply AWp.region); simp -implicitDefEqProofs [ci_lt, ci_le])
    | (with_reducible refine And.intro (by first | omega | assumption | decide) ?_)
    | ((with_reducible show condK _ _ _); simp -implicitDefEqProofs [ci_lt, ci_le])
    | ((with_reducible show guardK _ _ _ _ _ _ _ _ _); simp -implicitDefEqProofs [ci_lt, ci_le])
    | ((with_reducible apply AWp.ret); try simp -implicitDefEqProofs [ci_lt, ci_le])
    | ((with_reducible apply AWp.skip); try simp -implicitDefEqProofs [ci_lt, ci_le])
    | ((with_reducible apply AWp.exit); try simp -implicitDefEqProofs [ci_lt, ci_le]))
  refine AWp.loopA (α := (Nat)) (0) (fun i => l.length - i) (fun i => i ≤ l.length ∧ ∀ x ∈ l.take i, g x = false) [(0, ?_), (1, ?_), (7, ?_)] (fun i => [(8, .sc (.int .i64 i))]) (fun i => σ) ?_ ?_ ?_ ?_
  rotate_left 3
  · (try dsimp only); (simp only [List.cons_append, List.nil_append]; repeat (first | exact FrWk.nil | refine FrWk.cons (by first | (simp -implicitDefEqProofs [ci_lt, ci_le]; done) | exact Wk.of (by (try simp -implicitDefEqProofs [ci_lt, ci_le]) <;> rfl)) ?_))
  · (try dsimp only); (first | exact AS.le_refl _ | assumption | (repeat (first | exact AS.le_refl _ | assumption | refine le_new (by simp [*]) ?_)))
  · (try dsimp only) <;> first | exact trivial | exact ⟨by omega, rfl⟩ | omega | (simp; done) | exact ⟨by omega, by simp⟩ | exact ⟨by omega, by simp, rfl⟩
  intro i hx_
  try dsimp only at hx_ ⊢
  obtain ⟨hi, hX⟩ := hx_
  simp only [List.cons_append, List.nil_append]
  by_cases hlt : i < l.length
  · have wi_i : IntKind.i64.wrap ((i : Int) + 1) = ((i + 1 : Nat) : Int) := ci_wi (by omega)
    have hu := (hf l[i] (List.getElem_mem hlt))
    simp only [rgV] at hu
    cases hg : g l[i] with
    | true =>
      rw [hg] at hu
      rw [idxS_at hlt hX hg]
      repeat (first
        | (with_reducible apply AWp.seq)
        | (with_reducible apply AWp.block)
        | ((with_reducible apply AWp.fork); simp -implicitDefEqProofs [hlt, rgV, ci_lt, ci_le, wi_i])
        | ((with_reducible apply AWp.region); simp -implicitDefEqProofs [hlt, rgV, ci_lt, ci_le, wi_i])
        | (with_reducible refine And.intro (by first | omega | assumption | decide) ?_)
        | ((with_reducible show condK _ _ _); simp -implicitDefEqProofs [hlt, rgV, ci_lt, ci_le, wi_i])
        | ((with_reducible show guardK _ _ _ _ _ _ _ _ _); simp -implicitDefEqProofs [hlt, rgV, ci_lt, ci_le, wi_i])
        | ((with_reducible apply aCall.id); first
            | ((apply (hu.use)); simp -implicitDefEqProofs [hlt, rgV, ci_lt, ci_le, wi_i]))
        | ((with_reducible apply AWp.ret); try simp -implicitDefEqProofs [hlt, rgV, ci_lt, ci_le, wi_i])
        | ((with_reducible apply AWp.skip); try simp -implicitDefEqProofs [hlt, rgV, ci_lt, ci_le, wi_i])
        | ((with_reducible apply AWp.exit); try simp -implicitDefEqProofs [hlt, rgV, ci_lt, ci_le, wi_i]))
    | false =>
      rw [hg] at hu
      repeat (first
        | (with_reducible apply AWp.seq)
        | (with_reducible apply AWp.block)
        | ((with_reducible apply AWp.fork); simp -implicitDefEqProofs [hlt, rgV, ci_lt, ci_le, wi_i])
        | ((with_reducible apply AWp.region); simp -implicitDefEqProofs [hlt, rgV, ci_lt, ci_le, wi_i])
        | (with_reducible refine And.intro (by first | omega | assumption | decide) ?_)
        | ((with_reducible show condK _ _ _); simp -implicitDefEqProofs [hlt, rgV, ci_lt, ci_le, wi_i])
        | ((with_reducible show guardK _ _ _ _ _ _ _ _ _); simp -implicitDefEqProofs [hlt, rgV, ci_lt, ci_le, wi_i])
        | ((with_reducible apply aCall.id); first
            | ((apply (hu.use)); simp -implicitDefEqProofs [hlt, rgV, ci_lt, ci_le, wi_i]))
        | ((with_reducible apply AWp.ret); try simp -implicitDefEqProofs [hlt, rgV, ci_lt, ci_le, wi_i])
        | ((with_reducible apply AWp.skip); try simp -implicitDefEqProofs [hlt, rgV, ci_lt, ci_le, wi_i])
        | ((with_reducible apply AWp.exit); try simp -implicitDefEqProofs [hlt, rgV, ci_lt, ci_le, wi_i]))
      refine stepA.mk (i + 1) (by (try dsimp only); omega) (by (try dsimp only); (simp only [List.cons_append, List.nil_append]; repeat (first | exact FrWk.nil | refine FrWk.cons (by first | (simp -implicitDefEqProofs [ci_lt, ci_le, wi_i]; done) | exact Wk.of (by (try simp -implicitDefEqProofs [ci_lt, ci_le, wi_i]) <;> rfl)) ?_))) (by (try dsimp only); (first | exact AS.le_refl _ | assumption | (repeat (first | exact AS.le_refl _ | assumption | refine le_new (by simp [*]) ?_)))) ?_
      try dsimp only
      exact ⟨hlt, take_all hlt hX hg⟩
  · rw [idxS_no (by rwa [List.take_of_length_le (by omega)] at hX)]
    repeat (first
      | (with_reducible apply AWp.seq)
      | (with_reducible apply AWp.block)
      | ((with_reducible apply AWp.fork); simp -implicitDefEqProofs [hlt, ci_lt, ci_le])
      | ((with_reducible apply AWp.region); simp -implicitDefEqProofs [hlt, ci_lt, ci_le])
      | (with_reducible refine And.intro (by first | omega | assumption | decide) ?_)
      | ((with_reducible show condK _ _ _); simp -implicitDefEqProofs [hlt, ci_lt, ci_le])
      | ((with_reducible show guardK _ _ _ _ _ _ _ _ _); simp -implicitDefEqProofs [hlt, ci_lt, ci_le])
      | ((with_reducible apply AWp.ret); try simp -implicitDefEqProofs [hlt, ci_lt, ci_le])
      | ((with_reducible apply AWp.skip); try simp -implicitDefEqProofs [hlt, ci_lt, ci_le])
      | ((with_reducible apply AWp.exit); try simp -implicitDefEqProofs [hlt, ci_lt, ci_le]))

theorem hand1_ok (p : Pt) (σ : AS) : ACalls Try.prog 63 [rgV p] σ (Gives (.sc (.bool (!decide (p.p = 1)))) σ) No := by
  refine ACalls.of_body Try.func63 rfl rfl (by simp [Try.ntmps63]) ?_
  simp only [rgV]
  repeat (first
    | (with_reducible apply AWp.seq)
    | (with_reducible apply AWp.block)
    | ((with_reducible apply AWp.fork); simp -implicitDefEqProofs)
    | ((with_reducible apply AWp.region); simp -implicitDefEqProofs)
    | (with_reducible refine And.intro (by first | omega | assumption | decide) ?_)
    | ((with_reducible apply AWp.ret); try simp -implicitDefEqProofs)
    | ((with_reducible apply AWp.skip); try simp -implicitDefEqProofs)
    | ((with_reducible apply AWp.exit); try simp -implicitDefEqProofs))
  intro id h_id
  repeat (first
    | (with_reducible apply AWp.seq)
    | (with_reducible apply AWp.block)
    | ((with_reducible apply AWp.fork); simp -implicitDefEqProofs)
    | ((with_reducible apply AWp.region); simp -implicitDefEqProofs)
    | (with_reducible refine And.intro (by first | omega | assumption | decide) ?_)
    | ((with_reducible apply AWp.ret); try simp -implicitDefEqProofs)
    | ((with_reducible apply AWp.skip); try simp -implicitDefEqProofs)
    | ((with_reducible apply AWp.exit); try simp -implicitDefEqProofs))
  all_goals (repeat' (with_reducible apply And.intro))
  all_goals first
    | exact AS.le_refl _
    | ((repeat (first | exact AS.le_refl _ | assumption | refine le_new (by simp [*]) ?_)); done)
    | (refine wk_eq ?_; simp_all [skipV]; done)
    | (refine wk_b ?_; rw [Bool.eq_iff_iff]; simp [*]; omega)
    | (refine wk_eq ?_; simp [*]; omega)
    | (refine wk_eq ?_; split <;> simp_all [skipV]; done)
    | (exfalso; omega)

theorem han_cases (C : List Pt) : (idxS (fun p => !decide (p.p = 1)) C = -1 ∧ hanS C = -1) ∨ ∃ (i : Nat) (p : Pt), ∃ hi : i < C.length, idxS (fun p => !decide (p.p = 1)) C = i ∧ C[i] = p ∧ hanS C = if p.p = 2 then p.k else -1 := by
  unfold idxS
  induction C with
  | nil => left; simp [hanS]
  | cons q r ih =>
    rw [List.findIdx?_cons]
    by_cases h : q.p = 1
    · simp only [h, decide_true, Bool.not_true, hanS]
      rcases ih with ⟨h1, h2⟩ | ⟨i, p, hi, h1, h2, h3⟩
      · left
        refine ⟨?_, h2⟩
        cases hh : r.findIdx? (fun p => !decide (p.p = 1)) with
        | none => simp
        | some j => rw [hh] at h1; simp at h1
      · right
        refine ⟨i + 1, p, by simpa using hi, ?_, by simpa using h2, h3⟩
        cases hh : r.findIdx? (fun p => !decide (p.p = 1)) with
        | none => rw [hh] at h1; simp at h1
        | some j => rw [hh] at h1; simp at h1 ⊢; omega
    · right
      exact ⟨0, q, by simp, by simp [h], rfl, by simp [hanS, h]⟩

theorem handler_ok (l : List Cl) (o : Own) (nl : Bool) (x : Int) (hl : l.length ≤ 6) (σ : AS) :
    ACalls Try.prog 37 [clsV l o nl, .sc (.int .i64 x)] σ (Gives (.sc (.int .i64 (hanS (chainS l x)))) σ) No := by
  have hc := fun σ => regs_ok l o nl x hl σ
  have hla := chainS_len l x
  have hx := fun o nl σ => rindex_ok (chainS l x) o nl (fnV 63) (fun p => !decide (p.p = 1)) σ (by omega) (fun p _ => FnG.func (hand1_ok p σ))
  have hcs := han_cases (chainS l x)
  generalize chainS l x = C at *
  simp only [clsV, fnV] at hc hx ⊢
  refine ACalls.of_body Try.func37 rfl rfl (by simp [Try.ntmps37]) ?_
  rcases hcs with ⟨h1, h2⟩ | ⟨i, p, hi, h1, h2, h3⟩
  · rw [h1] at hx
    rw [h2]
    repeat (first
      | (with_reducible apply AWp.seq)
      | (with_reducible apply AWp.block)
      | ((with_reducible apply AWp.fork); simp -implicitDefEqProofs)
      | ((with_reducible apply AWp.region); simp -implicitDefEqProofs)
      | (with_reducible refine And.intro (by first | omega | assumption | decide) ?_)
      | ((with_reducible apply aCall.id); first
          | ((apply aCall.gives (hc _)); simp -implicitDefEqProofs)
          | ((apply aCall.gives (hx _ _ _)); simp -implicitDefEqProofs))
      | ((with_reducible apply AWp.ret); try simp -implicitDefEqProofs)
      | ((with_reducible apply AWp.skip); try simp -implicitDefEqProofs)
      | ((with_reducible apply AWp.exit); try simp -implicitDefEqProofs))
  · rw [h1] at hx
    rw [h3]
    have hi0 : ¬ (i : Int) < 0 := by omega
    by_cases h4 : p.p = 2
    · rw [if_pos h4]
      repeat (first
        | (with_reducible apply AWp.seq)
        | (with_reducible apply AWp.block)
        | ((with_reducible apply AWp.fork); simp -implicitDefEqProofs [hi0, hi, h2, rgV, h4])
        | ((with_reducible apply AWp.region); simp -implicitDefEqProofs [hi0, hi, h2, rgV, h4])
        | (with_reducible refine And.intro (by first | omega | assumption | decide) ?_)
        | ((with_reducible show condK _ _ _); simp -implicitDefEqProofs [hi0, hi, h2, rgV, h4])
        | ((with_reducible show guardK _ _ _ _ _ _ _ _ _); simp -implicitDefEqProofs [hi0, hi, h2, rgV, h4])
        | ((with_reducible apply aCall.id); first
            | ((apply aCall.gives (hc _)); simp -implicitDefEqProofs [hi0, hi, h2, rgV, h4])
            | ((apply aCall.gives (hx _ _ _)); simp -implicitDefEqProofs [hi0, hi, h2, rgV, h4]))
        | ((with_reducible apply AWp.ret); try simp -implicitDefEqProofs [hi0, hi, h2, rgV, h4])
        | ((with_reducible apply AWp.skip); try simp -implicitDefEqProofs [hi0, hi, h2, rgV, h4])
        | ((with_reducible apply AWp.exit); try simp -implicitDefEqProofs [hi0, hi, h2, rgV, h4]))
    · rw [if_neg h4]
      repeat (first
        | (with_reducible apply AWp.seq)
        | (with_reducible apply AWp.block)
        | ((with_reducible apply AWp.fork); simp -implicitDefEqProofs [hi0, hi, h2, rgV, h4])
        | ((with_reducible apply AWp.region); simp -implicitDefEqProofs [hi0, hi, h2, rgV, h4])
        | (with_reducible refine And.intro (by first | omega | assumption | decide) ?_)
        | ((with_reducible show condK _ _ _); simp -implicitDefEqProofs [hi0, hi, h2, rgV, h4])
        | ((with_reducible show guardK _ _ _ _ _ _ _ _ _); simp -implicitDefEqProofs [hi0, hi, h2, rgV, h4])
        | ((with_reducible apply aCall.id); first
            | ((apply aCall.gives (hc _)); simp -implicitDefEqProofs [hi0, hi, h2, rgV, h4])
            | ((apply aCall.gives (hx _ _ _)); simp -implicitDefEqProofs [hi0, hi, h2, rgV, h4]))
        | ((with_reducible apply AWp.ret); try simp -implicitDefEqProofs [hi0, hi, h2, rgV, h4])
        | ((with_reducible apply AWp.skip); try simp -implicitDefEqProofs [hi0, hi, h2, rgV, h4])
        | ((with_reducible apply AWp.exit); try simp -implicitDefEqProofs [hi0, hi, h2, rgV, h4]))

theorem rhandler_ok (l : List Cl) (o : Own) (nl : Bool) (x : Int) (C : List Pt) (hC : DocC l x 0 C) (hcl : C.length ≤ 1000) (hl : l.length ≤ 1000) (hp : ∀ p ∈ C, p.p = 1 ∨ p.p = 2 ∨ p.p = 3) (σ : AS) :
    ACalls Try.prog 38 [clsV l o nl, .sc (.int .i64 x)] σ (Gives (.sc (.int .i64 (hanS C))) σ) No := by
  have hc := fun σ => rchain_ok l o nl x C hC hcl hl σ
  simp only [clsV] at hc ⊢
  refine ACalls.of_body Try.func38 rfl rfl (by simp [Try.ntmps38]) ?_
  repeat (first
    | (with_reducible apply AWp.seq)
    | (with_reducible apply AWp.block)
    | ((with_reducible apply AWp.fork); simp -implicitDefEqProofs [ci_lt, ci_le])
    | ((with_reducible apply AWp.region); simp -implicitDefEqProofs [ci_lt, ci_le])
    | (with_reducible refine And.intro (by first | omega | assumption | decide) ?_)
    | ((with_reducible show condK _ _ _); simp -implicitDefEqProofs [ci_lt, ci_le])
    | ((with_reducible show guardK _ _ _ _ _ _ _ _ _); simp -implicitDefEqProofs [ci_lt, ci_le])
    | ((with_reducible apply aCall.id); first
        | ((apply aCall.gives (hc _)); simp -implicitDefEqProofs [ci_lt, ci_le]))
    | ((with_reducible apply AWp.ret); try simp -implicitDefEqProofs [ci_lt, ci_le])
    | ((with_reducible apply AWp.skip); try simp -implicitDefEqProofs [ci_lt, ci_le])
    | ((with_reducible apply AWp.exit); try simp -implicitDefEqProofs [ci_lt, ci_le]))
  refine AWp.loopA (α := (Nat)) (0) (fun i => C.length - i) (fun i => i ≤ C.length ∧ hanS C = hanS (C.drop i)) [(5, ?_)] (fun i => [(6, .sc (.int .i64 i))]) (fun i => σ) ?_ ?_ ?_ ?_
  rotate_left 1
  · (try dsimp only); (simp only [List.cons_append, List.nil_append]; repeat (first | exact FrWk.nil | refine FrWk.cons (by first | (simp -implicitDefEqProofs [ci_lt, ci_le]; done) | exact Wk.of (by (try simp -implicitDefEqProofs [ci_lt, ci_le]) <;> rfl)) ?_))
  · (try dsimp only); (first | exact AS.le_refl _ | assumption | (repeat (first | exact AS.le_refl _ | assumption | refine le_new (by simp [*]) ?_)))
  · exact ⟨by omega, by simp⟩
  intro i hx_
  try dsimp only at hx_ ⊢
  obtain ⟨hi, hX⟩ := hx_
  simp only [List.cons_append, List.nil_append]
  rw [hX]
  by_cases hlt : i < C.length
  · have wi_i : IntKind.i64.wrap ((i : Int) + 1) = ((i + 1 : Nat) : Int) := ci_wi (by omega)
    rw [List.drop_eq_getElem_cons hlt]
    have hpp := hp C[i] (List.getElem_mem hlt)
    generalize hq : C[i] = p at *
    simp only [hanS]
    rcases hpp with h | h | h
    · rw [if_pos h]
      repeat (first
        | (with_reducible apply AWp.seq)
        | (with_reducible apply AWp.block)
        | ((with_reducible apply AWp.fork); simp -implicitDefEqProofs [hlt, hq, rgV, h, ci_lt, ci_le, wi_i])
        | ((with_reducible apply AWp.region); simp -implicitDefEqProofs [hlt, hq, rgV, h, ci_lt, ci_le, wi_i])
        | (with_reducible refine And.intro (by first | omega | assumption | decide) ?_)
        | ((with_reducible show condK _ _ _); simp -implicitDefEqProofs [hlt, hq, rgV, h, ci_lt, ci_le, wi_i])
        | ((with_reducible show guardK _ _ _ _ _ _ _ _ _); simp -implicitDefEqProofs [hlt, hq, rgV, h, ci_lt, ci_le, wi_i])
        | ((with_reducible apply AWp.ret); try simp -implicitDefEqProofs [hlt, hq, rgV, h, ci_lt, ci_le, wi_i])
        | ((with_reducible apply AWp.skip); try simp -implicitDefEqProofs [hlt, hq, rgV, h, ci_lt, ci_le, wi_i])
        | ((with_reducible apply AWp.exit); try simp -implicitDefEqProofs [hlt, hq, rgV, h, ci_lt, ci_le, wi_i]))
      refine stepA.mk (i + 1) (by (try dsimp only); omega) (by (try dsimp only); (simp only [List.cons_append, List.nil_append]; repeat (first | exact FrWk.nil | refine FrWk.cons (by first | (simp -implicitDefEqProofs [ci_lt, ci_le, wi_i]; done) | exact Wk.of (by (try simp -implicitDefEqProofs [ci_lt, ci_le, wi_i]) <;> rfl)) ?_))) (by (try dsimp only); (first | exact AS.le_refl _ | assumption | (repeat (first | exact AS.le_refl _ | assumption | refine le_new (by simp [*]) ?_)))) ?_
      try dsimp only
      exact ⟨hlt, rfl⟩
    · rw [if_neg (by omega), if_pos h]
      repeat (first
        | (with_reducible apply AWp.seq)
        | (with_reducible apply AWp.block)
        | ((with_reducible apply AWp.fork); simp -implicitDefEqProofs [hlt, hq, rgV, h, ci_lt, ci_le, wi_i])
        | ((with_reducible apply AWp.region); simp -implicitDefEqProofs [hlt, hq, rgV, h, ci_lt, ci_le, wi_i])
        | (with_reducible refine And.intro (by first | omega | assumption | decide) ?_)
        | ((with_reducible show condK _ _ _); simp -implicitDefEqProofs [hlt, hq, rgV, h, ci_lt, ci_le, wi_i])
        | ((with_reducible show guardK _ _ _ _ _ _ _ _ _); simp -implicitDefEqProofs [hlt, hq, rgV, h, ci_lt, ci_le, wi_i])
        | ((with_reducible apply AWp.ret); try simp -implicitDefEqProofs [hlt, hq, rgV, h, ci_lt, ci_le, wi_i])
        | ((with_reducible apply AWp.skip); try simp -implicitDefEqProofs [hlt, hq, rgV, h, ci_lt, ci_le, wi_i])
        | ((with_reducible apply AWp.exit); try simp -implicitDefEqProofs [hlt, hq, rgV, h, ci_lt, ci_le, wi_i]))
    · rw [if_neg (by omega), if_neg (by omega)]
      repeat (first
        | (with_reducible apply AWp.seq)
        | (with_reducible apply AWp.block)
        | ((with_reducible apply AWp.fork); simp -implicitDefEqProofs [hlt, hq, rgV, h, ci_lt, ci_le, wi_i])
        | ((with_reducible apply AWp.region); simp -implicitDefEqProofs [hlt, hq, rgV, h, ci_lt, ci_le, wi_i])
        | (with_reducible refine And.intro (by first | omega | assumption | decide) ?_)
        | ((with_reducible show condK _ _ _); simp -implicitDefEqProofs [hlt, hq, rgV, h, ci_lt, ci_le, wi_i])
        | ((with_reducible show guardK _ _ _ _ _ _ _ _ _); simp -implicitDefEqProofs [hlt, hq, rgV, h, ci_lt, ci_le, wi_i])
        | ((with_reducible apply AWp.ret); try simp -implicitDefEqProofs [hlt, hq, rgV, h, ci_lt, ci_le, wi_i])
        | ((with_reducible apply AWp.skip); try simp -implicitDefEqProofs [hlt, hq, rgV, h, ci_lt, ci_le, wi_i])
        | ((with_reducible apply AWp.exit); try simp -implicitDefEqProofs [hlt, hq, rgV, h, ci_lt, ci_le, wi_i]))
  · rw [List.drop_eq_nil_of_le (by omega)]
    simp only [hanS]
    repeat (first
      | (with_reducible apply AWp.seq)
      | (with_reducible apply AWp.block)
      | ((with_reducible apply AWp.fork); simp -implicitDefEqProofs [hlt, ci_lt, ci_le])
      | ((with_reducible apply AWp.region); simp -implicitDefEqProofs [hlt, ci_lt, ci_le])
      | (with_reducible refine And.intro (by first | omega | assumption | decide) ?_)
      | ((with_reducible show condK _ _ _); simp -implicitDefEqProofs [hlt, ci_lt, ci_le])
      | ((with_reducible show guardK _ _ _ _ _ _ _ _ _); simp -implicitDefEqProofs [hlt, ci_lt, ci_le])
      | ((with_reducible apply AWp.ret); try simp -implicitDefEqProofs [hlt, ci_lt, ci_le])
      | ((with_reducible apply AWp.skip); try simp -implicitDefEqProofs [hlt, ci_lt, ci_le])
      | ((with_reducible apply AWp.exit); try simp -implicitDefEqProofs [hlt, ci_lt, ci_le]))

end Go.Proofs.Ythbmjmdmamapiaa
