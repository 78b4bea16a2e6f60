/- Chapter 22: what is asked; the next clause, the finals, the handler. -/
import Derived.Test.YthbmjmdmamapiaaRegH
set_option linter.unusedSimpArgs false
set_option linter.unusedVariables false
set_option maxRecDepth 100000
set_option maxHeartbeats 3200000
namespace Go.Proofs.Ythbmjmdmamapiaa
open Go Go.AW

def flB (l : List Cl) (f : Int) (c : Cl) : Bool :=
  if f = -1 then true else if 0 ≤ f then (match l[f.toNat]? with | some d => decide (d.k = 2) && (decide (d.fl ≤ c.tf) && decide (c.tt ≤ d.hf)) | none => false) else false
def askS (l : List Cl) (x f : Int) (c : Cl) : Bool := triedS c x && flB l f c
theorem tried_def (c : Cl) (x : Int) : triedS c x = (decide (c.tf ≤ x) && decide (x < c.tt)) := rfl

/-- The floor: there is none, it is no clause, it is one without a filter, or with one. -/
theorem floor_cases (l : List Cl) (f : Int) (c : Cl) (hl : l.length ≤ 140737488355328) :
    (f = -1 ∧ flB l f c = true) ∨ (¬ f = -1 ∧ f < 0 ∧ flB l f c = false) ∨ (¬ f = -1 ∧ ¬ f < 0 ∧ (l.length : Int) ≤ f ∧ flB l f c = false) ∨
    (∃ (n : Nat) (d : Cl), f = n ∧ ∃ hn : n < l.length, l[n] = d ∧ ¬ d.k = 2 ∧ flB l f c = false) ∨
    (∃ (n : Nat) (d : Cl), f = n ∧ ∃ hn : n < l.length, l[n] = d ∧ d.k = 2 ∧ flB l f c = (decide (d.fl ≤ c.tf) && decide (c.tt ≤ d.hf))) := by
  unfold flB
  by_cases h1 : f = -1
  · exact .inl ⟨h1, by rw [if_pos h1]⟩
  right
  rw [if_neg h1]
  by_cases h2 : 0 ≤ f
  · rw [if_pos h2]
    right
    by_cases h3 : f.toNat < l.length
    · right
      have e : l[f.toNat]? = some l[f.toNat] := by simp [h3]
      rw [e]
      by_cases h4 : (l[f.toNat]).k = 2
      · right
        exact ⟨f.toNat, _, by omega, h3, rfl, h4, by simp [h4]⟩
      · left
        exact ⟨f.toNat, _, by omega, h3, rfl, h4, by simp [h4]⟩
    · left
      rw [List.getElem?_eq_none (by omega)]
      exact ⟨h1, by omega, by omega, rfl⟩
  · rw [if_neg h2]
    exact .inl ⟨h1, by omega, rfl⟩

theorem asked_ok (l : List Cl) (o : Own) (nl : Bool) (c : Cl) (x f : Int) (hl : l.length ≤ 140737488355328) (σ : AS) :
    ACalls Try.prog 59 [clsV l o nl, clV c, .sc (.int .i64 x), .sc (.int .i64 f)] σ (Gives (.sc (.bool (askS l x f c))) σ) No := by
  have hT := tried_def c x
  have hF := floor_cases l f c hl
  unfold askS
  rw [hT]
  generalize flB l f c = b at *
  simp only [clsV, clV_def]
  refine ACalls.of_body Try.func59 rfl rfl (by simp [Try.ntmps59]) ?_
  repeat (first
    | (with_reducible apply AWp.seq)
    | (with_reducible apply AWp.block)
    | ((with_reducible apply AWp.fork); simp -implicitDefEqProofs [ci_lt, ci_le])
    | ((with_reducible apply AWp.region); simp -implicitDefEqProofs [ci_lt, ci_le])
    | (with_reducible refine And.intro (by first | omega | assumption | decide) ?_)
    | ((with_reducible show condK _ _ _); simp -implicitDefEqProofs [ci_lt, ci_le])
    | ((with_reducible show guardK _ _ _ _ _ _ _ _ _); simp -implicitDefEqProofs [ci_lt, ci_le])
    | (((with_reducible apply AWp.drawS (id := 7) (t := (Sch.step 0 (Sch.step 2 (Sch.step 3 (Sch.step 4 (Sch.step 5 (Sch.read 1 (Sch.read 6 (Sch.step 7 (Sch.step 8 (Sch.step 9 (Sch.step 11 (Sch.step 12 (Sch.step 13 (Sch.step 14 (Sch.read 10 (Sch.read 15 (Sch.step 16 (Sch.step 17 (Sch.step 18 Sch.done))))))))))))))))))))); (exact mixed); kernel_rfl; kernel_rfl; (repeat (with_reducible first | apply PanQ.then | apply PanQ.block | apply PanQ.body | apply PanQ.no))); simp -implicitDefEqProofs [ci_lt, ci_le])
    | ((with_reducible apply AWp.ret); try simp -implicitDefEqProofs [ci_lt, ci_le])
    | ((with_reducible apply AWp.skip); try simp -implicitDefEqProofs [ci_lt, ci_le])
    | ((with_reducible apply AWp.exit); try simp -implicitDefEqProofs [ci_lt, ci_le]))
  intro id h_id
  by_cases h1 : x < c.tf
  · have h1' : ¬ c.tf ≤ x := by omega
    repeat (first
      | (with_reducible apply AWp.seq)
      | (with_reducible apply AWp.block)
      | ((with_reducible apply AWp.fork); simp -implicitDefEqProofs [h1, h1', ci_lt, ci_le])
      | ((with_reducible apply AWp.region); simp -implicitDefEqProofs [h1, h1', ci_lt, ci_le])
      | (with_reducible refine And.intro (by first | omega | assumption | decide) ?_)
      | ((with_reducible show condK _ _ _); simp -implicitDefEqProofs [h1, h1', ci_lt, ci_le])
      | ((with_reducible show guardK _ _ _ _ _ _ _ _ _); simp -implicitDefEqProofs [h1, h1', ci_lt, ci_le])
      | (((with_reducible apply AWp.drawS (id := 7) (t := (Sch.step 0 (Sch.step 2 (Sch.step 3 (Sch.step 4 (Sch.step 5 (Sch.read 1 (Sch.read 6 (Sch.step 7 (Sch.step 8 (Sch.step 9 (Sch.step 11 (Sch.step 12 (Sch.step 13 (Sch.step 14 (Sch.read 10 (Sch.read 15 (Sch.step 16 (Sch.step 17 (Sch.step 18 Sch.done))))))))))))))))))))); (exact mixed); kernel_rfl; kernel_rfl; (repeat (with_reducible first | apply PanQ.then | apply PanQ.block | apply PanQ.body | apply PanQ.no))); simp -implicitDefEqProofs [h1, h1', ci_lt, ci_le])
      | ((with_reducible apply AWp.ret); try simp -implicitDefEqProofs [h1, h1', ci_lt, ci_le])
      | ((with_reducible apply AWp.skip); try simp -implicitDefEqProofs [h1, h1', ci_lt, ci_le])
      | ((with_reducible apply AWp.exit); try simp -implicitDefEqProofs [h1, h1', ci_lt, ci_le]))
    all_goals (repeat' (with_reducible apply And.intro))
    all_goals first
      | exact AS.le_refl _
      | ((repeat (first | exact AS.le_refl _ | assumption | refine le_new (by simp [*]) ?_)); done)
      | (refine wk_eq ?_; simp_all [skipV]; done)
      | (refine wk_b ?_; rw [Bool.eq_iff_iff]; simp [*]; omega)
      | (refine wk_eq ?_; simp [*]; omega)
      | (refine wk_eq ?_; split <;> simp_all [skipV]; done)
      | (exfalso; omega)
  have h1' : c.tf ≤ x := by omega
  by_cases h2 : c.tt ≤ x
  · have h2' : ¬ x < c.tt := by omega
    repeat (first
      | (with_reducible apply AWp.seq)
      | (with_reducible apply AWp.block)
      | ((with_reducible apply AWp.fork); simp -implicitDefEqProofs [h1, h1', h2, h2', ci_lt, ci_le])
      | ((with_reducible apply AWp.region); simp -implicitDefEqProofs [h1, h1', h2, h2', ci_lt, ci_le])
      | (with_reducible refine And.intro (by first | omega | assumption | decide) ?_)
      | ((with_reducible show condK _ _ _); simp -implicitDefEqProofs [h1, h1', h2, h2', ci_lt, ci_le])
      | ((with_reducible show guardK _ _ _ _ _ _ _ _ _); simp -implicitDefEqProofs [h1, h1', h2, h2', ci_lt, ci_le])
      | (((with_reducible apply AWp.drawS (id := 7) (t := (Sch.step 0 (Sch.step 2 (Sch.step 3 (Sch.step 4 (Sch.step 5 (Sch.read 1 (Sch.read 6 (Sch.step 7 (Sch.step 8 (Sch.step 9 (Sch.step 11 (Sch.step 12 (Sch.step 13 (Sch.step 14 (Sch.read 10 (Sch.read 15 (Sch.step 16 (Sch.step 17 (Sch.step 18 Sch.done))))))))))))))))))))); (exact mixed); kernel_rfl; kernel_rfl; (repeat (with_reducible first | apply PanQ.then | apply PanQ.block | apply PanQ.body | apply PanQ.no))); simp -implicitDefEqProofs [h1, h1', h2, h2', ci_lt, ci_le])
      | ((with_reducible apply AWp.ret); try simp -implicitDefEqProofs [h1, h1', h2, h2', ci_lt, ci_le])
      | ((with_reducible apply AWp.skip); try simp -implicitDefEqProofs [h1, h1', h2, h2', ci_lt, ci_le])
      | ((with_reducible apply AWp.exit); try simp -implicitDefEqProofs [h1, h1', h2, h2', ci_lt, ci_le]))
    all_goals (repeat' (with_reducible apply And.intro))
    all_goals first
      | exact AS.le_refl _
      | ((repeat (first | exact AS.le_refl _ | assumption | refine le_new (by simp [*]) ?_)); done)
      | (refine wk_eq ?_; simp_all [skipV]; done)
      | (refine wk_b ?_; rw [Bool.eq_iff_iff]; simp [*]; omega)
      | (refine wk_eq ?_; simp [*]; omega)
      | (refine wk_eq ?_; split <;> simp_all [skipV]; done)
      | (exfalso; omega)
  have h2' : x < c.tt := by omega
  rcases hF with ⟨f1, rfl⟩ | ⟨f1, f2, rfl⟩ | ⟨f1, f2, f3, rfl⟩ | ⟨n, d, rfl, hn, hd, f4, rfl⟩ | ⟨n, d, rfl, hn, hd, f4, rfl⟩
  · repeat (first
      | (with_reducible apply AWp.seq)
      | (with_reducible apply AWp.block)
      | ((with_reducible apply AWp.fork); simp -implicitDefEqProofs [h1, h1', h2, h2', f1, ci_lt, ci_le])
      | ((with_reducible apply AWp.region); simp -implicitDefEqProofs [h1, h1', h2, h2', f1, ci_lt, ci_le])
      | (with_reducible refine And.intro (by first | omega | assumption | decide) ?_)
      | ((with_reducible show condK _ _ _); simp -implicitDefEqProofs [h1, h1', h2, h2', f1, ci_lt, ci_le])
      | ((with_reducible show guardK _ _ _ _ _ _ _ _ _); simp -implicitDefEqProofs [h1, h1', h2, h2', f1, ci_lt, ci_le])
      | (((with_reducible apply AWp.drawS (id := 7) (t := (Sch.step 0 (Sch.step 2 (Sch.step 3 (Sch.step 4 (Sch.step 5 (Sch.read 1 (Sch.read 6 (Sch.step 7 (Sch.step 8 (Sch.step 9 (Sch.step 11 (Sch.step 12 (Sch.step 13 (Sch.step 14 (Sch.read 10 (Sch.read 15 (Sch.step 16 (Sch.step 17 (Sch.step 18 Sch.done))))))))))))))))))))); (exact mixed); kernel_rfl; kernel_rfl; (repeat (with_reducible first | apply PanQ.then | apply PanQ.block | apply PanQ.body | apply PanQ.no))); simp -implicitDefEqProofs [h1, h1', h2, h2', f1, ci_lt, ci_le])
      | ((with_reducible apply AWp.ret); try simp -implicitDefEqProofs [h1, h1', h2, h2', f1, ci_lt, ci_le])
      | ((with_reducible apply AWp.skip); try simp -implicitDefEqProofs [h1, h1', h2, h2', f1, ci_lt, ci_le])
      | ((with_reducible apply AWp.exit); try simp -implicitDefEqProofs [h1, h1', h2, h2', f1, ci_lt, ci_le]))
    all_goals (repeat' (with_reducible apply And.intro))
    all_goals first
      | exact AS.le_refl _
      | ((repeat (first | exact AS.le_refl _ | assumption | refine le_new (by simp [*]) ?_)); done)
      | (refine wk_eq ?_; simp_all [skipV]; done)
      | (refine wk_b ?_; rw [Bool.eq_iff_iff]; simp [*]; omega)
      | (refine wk_eq ?_; simp [*]; omega)
      | (refine wk_eq ?_; split <;> simp_all [skipV]; done)
      | (exfalso; omega)
  · repeat (first
      | (with_reducible apply AWp.seq)
      | (with_reducible apply AWp.block)
      | ((with_reducible apply AWp.fork); simp -implicitDefEqProofs [h1, h1', h2, h2', f1, f2, ci_lt, ci_le])
      | ((with_reducible apply AWp.region); simp -implicitDefEqProofs [h1, h1', h2, h2', f1, f2, ci_lt, ci_le])
      | (with_reducible refine And.intro (by first | omega | assumption | decide) ?_)
      | ((with_reducible show condK _ _ _); simp -implicitDefEqProofs [h1, h1', h2, h2', f1, f2, ci_lt, ci_le])
      | ((with_reducible show guardK _ _ _ _ _ _ _ _ _); simp -implicitDefEqProofs [h1, h1', h2, h2', f1, f2, ci_lt, ci_le])
      | (((with_reducible apply AWp.drawS (id := 7) (t := (Sch.step 0 (Sch.step 2 (Sch.step 3 (Sch.step 4 (Sch.step 5 (Sch.read 1 (Sch.read 6 (Sch.step 7 (Sch.step 8 (Sch.step 9 (Sch.step 11 (Sch.step 12 (Sch.step 13 (Sch.step 14 (Sch.read 10 (Sch.read 15 (Sch.step 16 (Sch.step 17 (Sch.step 18 Sch.done))))))))))))))))))))); (exact mixed); kernel_rfl; kernel_rfl; (repeat (with_reducible first | apply PanQ.then | apply PanQ.block | apply PanQ.body | apply PanQ.no))); simp -implicitDefEqProofs [h1, h1', h2, h2', f1, f2, ci_lt, ci_le])
      | ((with_reducible apply AWp.ret); try simp -implicitDefEqProofs [h1, h1', h2, h2', f1, f2, ci_lt, ci_le])
      | ((with_reducible apply AWp.skip); try simp -implicitDefEqProofs [h1, h1', h2, h2', f1, f2, ci_lt, ci_le])
      | ((with_reducible apply AWp.exit); try simp -implicitDefEqProofs [h1, h1', h2, h2', f1, f2, ci_lt, ci_le]))
    all_goals (repeat' (with_reducible apply And.intro))
    all_goals first
      | exact AS.le_refl _
      | ((repeat (first | exact AS.le_refl _ | assumption | refine le_new (by simp [*]) ?_)); done)
      | (refine wk_eq ?_; simp_all [skipV]; done)
      | (refine wk_b ?_; rw [Bool.eq_iff_iff]; simp [*]; omega)
      | (refine wk_eq ?_; simp [*]; omega)
      | (refine wk_eq ?_; split <;> simp_all [skipV]; done)
      | (exfalso; omega)
  · repeat (first
      | (with_reducible apply AWp.seq)
      | (with_reducible apply AWp.block)
      | ((with_reducible apply AWp.fork); simp -implicitDefEqProofs [h1, h1', h2, h2', f1, f2, f3, ci_lt, ci_le])
      | ((with_reducible apply AWp.region); simp -implicitDefEqProofs [h1, h1', h2, h2', f1, f2, f3, ci_lt, ci_le])
      | (with_reducible refine And.intro (by first | omega | assumption | decide) ?_)
      | ((with_reducible show condK _ _ _); simp -implicitDefEqProofs [h1, h1', h2, h2', f1, f2, f3, ci_lt, ci_le])
      | ((with_reducible show guardK _ _ _ _ _ _ _ _ _); simp -implicitDefEqProofs [h1, h1', h2, h2', f1, f2, f3, ci_lt, ci_le])
      | (((with_reducible apply AWp.drawS (id := 7) (t := (Sch.step 0 (Sch.step 2 (Sch.step 3 (Sch.step 4 (Sch.step 5 (Sch.read 1 (Sch.read 6 (Sch.step 7 (Sch.step 8 (Sch.step 9 (Sch.step 11 (Sch.step 12 (Sch.step 13 (Sch.step 14 (Sch.read 10 (Sch.read 15 (Sch.step 16 (Sch.step 17 (Sch.step 18 Sch.done))))))))))))))))))))); (exact mixed); kernel_rfl; kernel_rfl; (repeat (with_reducible first | apply PanQ.then | apply PanQ.block | apply PanQ.body | apply PanQ.no))); simp -implicitDefEqProofs [h1, h1', h2, h2', f1, f2, f3, ci_lt, ci_le])
      | ((with_reducible apply AWp.ret); try simp -implicitDefEqProofs [h1, h1', h2, h2', f1, f2, f3, ci_lt, ci_le])
      | ((with_reducible apply AWp.skip); try simp -implicitDefEqProofs [h1, h1', h2, h2', f1, f2, f3, ci_lt, ci_le])
      | ((with_reducible apply AWp.exit); try simp -implicitDefEqProofs [h1, h1', h2, h2', f1, f2, f3, ci_lt, ci_le]))
    all_goals (repeat' (with_reducible apply And.intro))
    all_goals first
      | exact AS.le_refl _
      | ((repeat (first | exact AS.le_refl _ | assumption | refine le_new (by simp [*]) ?_)); done)
      | (refine wk_eq ?_; simp_all [skipV]; done)
      | (refine wk_b ?_; rw [Bool.eq_iff_iff]; simp [*]; omega)
      | (refine wk_eq ?_; simp [*]; omega)
      | (refine wk_eq ?_; split <;> simp_all [skipV]; done)
      | (exfalso; omega)
  · have f0 : ¬ (l.length : Int) ≤ n := by omega
    have f5 : ¬ (n : Int) = -1 := by omega
    have f8 : ¬ (n : Int) < 0 := by omega
    have f6 := eq_false f4
    repeat (first
      | (with_reducible apply AWp.seq)
      | (with_reducible apply AWp.block)
      | ((with_reducible apply AWp.fork); simp -implicitDefEqProofs [h1, h1', h2, h2', f0, f5, f8, hn, hd, clV_def, f6, ci_lt, ci_le])
      | ((with_reducible apply AWp.region); simp -implicitDefEqProofs [h1, h1', h2, h2', f0, f5, f8, hn, hd, clV_def, f6, ci_lt, ci_le])
      | (with_reducible refine And.intro (by first | omega | assumption | decide) ?_)
      | ((with_reducible show condK _ _ _); simp -implicitDefEqProofs [h1, h1', h2, h2', f0, f5, f8, hn, hd, clV_def, f6, ci_lt, ci_le])
      | ((with_reducible show guardK _ _ _ _ _ _ _ _ _); simp -implicitDefEqProofs [h1, h1', h2, h2', f0, f5, f8, hn, hd, clV_def, f6, ci_lt, ci_le])
      | (((with_reducible apply AWp.drawS (id := 7) (t := (Sch.step 0 (Sch.step 2 (Sch.step 3 (Sch.step 4 (Sch.step 5 (Sch.read 1 (Sch.read 6 (Sch.step 7 (Sch.step 8 (Sch.step 9 (Sch.step 11 (Sch.step 12 (Sch.step 13 (Sch.step 14 (Sch.read 10 (Sch.read 15 (Sch.step 16 (Sch.step 17 (Sch.step 18 Sch.done))))))))))))))))))))); (exact mixed); kernel_rfl; kernel_rfl; (repeat (with_reducible first | apply PanQ.then | apply PanQ.block | apply PanQ.body | apply PanQ.no))); simp -implicitDefEqProofs [h1, h1', h2, h2', f0, f5, f8, hn, hd, clV_def, f6, ci_lt, ci_le])
      | ((with_reducible apply AWp.ret); try simp -implicitDefEqProofs [h1, h1', h2, h2', f0, f5, f8, hn, hd, clV_def, f6, ci_lt, ci_le])
      | ((with_reducible apply AWp.skip); try simp -implicitDefEqProofs [h1, h1', h2, h2', f0, f5, f8, hn, hd, clV_def, f6, ci_lt, ci_le])
      | ((with_reducible apply AWp.exit); try simp -implicitDefEqProofs [h1, h1', h2, h2', f0, f5, f8, hn, hd, clV_def, f6, ci_lt, ci_le]))
    all_goals (repeat' (with_reducible apply And.intro))
    all_goals first
      | exact AS.le_refl _
      | ((repeat (first | exact AS.le_refl _ | assumption | refine le_new (by simp [*]) ?_)); done)
      | (refine wk_eq ?_; simp_all [skipV]; done)
      | (refine wk_b ?_; rw [Bool.eq_iff_iff]; simp [*]; omega)
      | (refine wk_eq ?_; simp [*]; omega)
      | (refine wk_eq ?_; split <;> simp_all [skipV]; done)
      | (exfalso; omega)
  · have f0 : ¬ (l.length : Int) ≤ n := by omega
    have f5 : ¬ (n : Int) = -1 := by omega
    have f8 : ¬ (n : Int) < 0 := by omega
    have f6 := eq_true f4
    by_cases f7 : d.fl ≤ c.tf
    · repeat (first
        | (with_reducible apply AWp.seq)
        | (with_reducible apply AWp.block)
        | ((with_reducible apply AWp.fork); simp -implicitDefEqProofs [h1, h1', h2, h2', f0, f5, f8, hn, hd, clV_def, f6, f7, ci_lt, ci_le])
        | ((with_reducible apply AWp.region); simp -implicitDefEqProofs [h1, h1', h2, h2', f0, f5, f8, hn, hd, clV_def, f6, f7, ci_lt, ci_le])
        | (with_reducible refine And.intro (by first | omega | assumption | decide) ?_)
        | ((with_reducible show condK _ _ _); simp -implicitDefEqProofs [h1, h1', h2, h2', f0, f5, f8, hn, hd, clV_def, f6, f7, ci_lt, ci_le])
        | ((with_reducible show guardK _ _ _ _ _ _ _ _ _); simp -implicitDefEqProofs [h1, h1', h2, h2', f0, f5, f8, hn, hd, clV_def, f6, f7, ci_lt, ci_le])
        | (((with_reducible apply AWp.drawS (id := 7) (t := (Sch.step 0 (Sch.step 2 (Sch.step 3 (Sch.step 4 (Sch.step 5 (Sch.read 1 (Sch.read 6 (Sch.step 7 (Sch.step 8 (Sch.step 9 (Sch.step 11 (Sch.step 12 (Sch.step 13 (Sch.step 14 (Sch.read 10 (Sch.read 15 (Sch.step 16 (Sch.step 17 (Sch.step 18 Sch.done))))))))))))))))))))); (exact mixed); kernel_rfl; kernel_rfl; (repeat (with_reducible first | apply PanQ.then | apply PanQ.block | apply PanQ.body | apply PanQ.no))); simp -implicitDefEqProofs [h1, h1', h2, h2', f0, f5, f8, hn, hd, clV_def, f6, f7, ci_lt, ci_le])
        | ((with_reducible apply AWp.ret); try simp -implicitDefEqProofs [h1, h1', h2, h2', f0, f5, f8, hn, hd, clV_def, f6, f7, ci_lt, ci_le])
        | ((with_reducible apply AWp.skip); try simp -implicitDefEqProofs [h1, h1', h2, h2', f0, f5, f8, hn, hd, clV_def, f6, f7, ci_lt, ci_le])
        | ((with_reducible apply AWp.exit); try simp -implicitDefEqProofs [h1, h1', h2, h2', f0, f5, f8, hn, hd, clV_def, f6, f7, ci_lt, ci_le]))
      all_goals (repeat' (with_reducible apply And.intro))
      all_goals first
        | exact AS.le_refl _
        | ((repeat (first | exact AS.le_refl _ | assumption | refine le_new (by simp [*]) ?_)); done)
        | (refine wk_eq ?_; simp_all [skipV]; done)
        | (refine wk_b ?_; rw [Bool.eq_iff_iff]; simp [*]; omega)
        | (refine wk_eq ?_; simp [*]; omega)
        | (refine wk_eq ?_; split <;> simp_all [skipV]; done)
        | (exfalso; omega)
    · repeat (first
        | (with_reducible apply AWp.seq)
        | (with_reducible apply AWp.block)
        | ((with_reducible apply AWp.fork); simp -implicitDefEqProofs [h1, h1', h2, h2', f0, f5, f8, hn, hd, clV_def, f6, f7, ci_lt, ci_le])
        | ((with_reducible apply AWp.region); simp -implicitDefEqProofs [h1, h1', h2, h2', f0, f5, f8, hn, hd, clV_def, f6, f7, ci_lt, ci_le])
        | (with_reducible refine And.intro (by first | omega | assumption | decide) ?_)
        | ((with_reducible show condK _ _ _); simp -implicitDefEqProofs [h1, h1', h2, h2', f0, f5, f8, hn, hd, clV_def, f6, f7, ci_lt, ci_le])
        | ((with_reducible show guardK _ _ _ _ _ _ _ _ _); simp -implicitDefEqProofs [h1, h1', h2, h2', f0, f5, f8, hn, hd, clV_def, f6, f7, ci_lt, ci_le])
        | (((with_reducible apply AWp.drawS (id := 7) (t := (Sch.step 0 (Sch.step 2 (Sch.step 3 (Sch.step 4 (Sch.step 5 (Sch.read 1 (Sch.read 6 (Sch.step 7 (Sch.step 8 (Sch.step 9 (Sch.step 11 (Sch.step 12 (Sch.step 13 (Sch.step 14 (Sch.read 10 (Sch.read 15 (Sch.step 16 (Sch.step 17 (Sch.step 18 Sch.done))))))))))))))))))))); (exact mixed); kernel_rfl; kernel_rfl; (repeat (with_reducible first | apply PanQ.then | apply PanQ.block | apply PanQ.body | apply PanQ.no))); simp -implicitDefEqProofs [h1, h1', h2, h2', f0, f5, f8, hn, hd, clV_def, f6, f7, ci_lt, ci_le])
        | ((with_reducible apply AWp.ret); try simp -implicitDefEqProofs [h1, h1', h2, h2', f0, f5, f8, hn, hd, clV_def, f6, f7, ci_lt, ci_le])
        | ((with_reducible apply AWp.skip); try simp -implicitDefEqProofs [h1, h1', h2, h2', f0, f5, f8, hn, hd, clV_def, f6, f7, ci_lt, ci_le])
        | ((with_reducible apply AWp.exit); try simp -implicitDefEqProofs [h1, h1', h2, h2', f0, f5, f8, hn, hd, clV_def, f6, f7, ci_lt, ci_le]))
      all_goals (repeat' (with_reducible apply And.intro))
      all_goals first
        | exact AS.le_refl _
        | ((repeat (first | exact AS.le_refl _ | assumption | refine le_new (by simp [*]) ?_)); done)
        | (refine wk_eq ?_; simp_all [skipV]; done)
        | (refine wk_b ?_; rw [Bool.eq_iff_iff]; simp [*]; omega)
        | (refine wk_eq ?_; simp [*]; omega)
        | (refine wk_eq ?_; split <;> simp_all [skipV]; done)
        | (exfalso; omega)

theorem rAsked_ok (l : List Cl) (o : Own) (nl : Bool) (c : Cl) (i : Nat) (hi : i < l.length) (hc : l[i] = c) (x f : Int) (hl : l.length ≤ 140737488355328) (σ : AS) :
    ACalls Try.prog 61 [clsV l o nl, .sc (.int .i64 i), .sc (.int .i64 x), .sc (.int .i64 f)] σ (Gives (.sc (.bool (askS l x f c))) σ) No := by
  have hin := fun σ => in_ok c 1 x σ
  have hbt : hasS (bnd c 1) x = triedS c x := rfl
  have hF := floor_cases l f c hl
  unfold askS
  rw [hbt] at hin
  generalize flB l f c = b at *
  simp only [clsV, clV_def] at hin ⊢
  refine ACalls.of_body Try.func61 rfl rfl (by simp [Try.ntmps61]) ?_
  cases hT : triedS c x with
  | false =>
    rw [hT] at hin
    repeat (first
      | (with_reducible apply AWp.seq)
      | (with_reducible apply AWp.block)
      | ((with_reducible apply AWp.fork); simp -implicitDefEqProofs [hi, hc, clV_def, ci_lt, ci_le])
      | ((with_reducible apply AWp.region); simp -implicitDefEqProofs [hi, hc, clV_def, ci_lt, ci_le])
      | (with_reducible refine And.intro (by first | omega | assumption | decide) ?_)
      | ((with_reducible show condK _ _ _); simp -implicitDefEqProofs [hi, hc, clV_def, ci_lt, ci_le])
      | ((with_reducible show guardK _ _ _ _ _ _ _ _ _); simp -implicitDefEqProofs [hi, hc, clV_def, ci_lt, ci_le])
      | (((with_reducible apply AWp.drawS (id := 7) (t := (Sch.step 0 (Sch.step 1 (Sch.step 2 (Sch.step 3 (Sch.step 5 (Sch.step 6 (Sch.step 7 (Sch.step 8 (Sch.read 4 (Sch.read 9 (Sch.step 10 (Sch.step 11 (Sch.step 12 (Sch.step 13 (Sch.step 14 (Sch.step 15 (Sch.step 17 (Sch.step 18 (Sch.step 19 (Sch.step 20 (Sch.read 16 (Sch.read 21 (Sch.step 22 (Sch.step 23 (Sch.step 24 Sch.done))))))))))))))))))))))))))); (exact mixed); kernel_rfl; kernel_rfl; (repeat (with_reducible first | apply PanQ.then | apply PanQ.block | apply PanQ.body | apply PanQ.no))); simp -implicitDefEqProofs [hi, hc, clV_def, ci_lt, ci_le])
      | ((with_reducible apply aCall.id); first
          | ((apply aCall.gives (hin _)); simp -implicitDefEqProofs [hi, hc, clV_def, ci_lt, ci_le]))
      | ((with_reducible apply AWp.ret); try simp -implicitDefEqProofs [hi, hc, clV_def, ci_lt, ci_le])
      | ((with_reducible apply AWp.skip); try simp -implicitDefEqProofs [hi, hc, clV_def, ci_lt, ci_le])
      | ((with_reducible apply AWp.exit); try simp -implicitDefEqProofs [hi, hc, clV_def, ci_lt, ci_le]))
  | true =>
    rw [hT] at hin
    rcases hF with ⟨f1, rfl⟩ | ⟨f1, f2, rfl⟩ | ⟨f1, f2, f3, rfl⟩ | ⟨n, d, rfl, hn, hd, f4, rfl⟩ | ⟨n, d, rfl, hn, hd, f4, rfl⟩
    · repeat (first
        | (with_reducible apply AWp.seq)
        | (with_reducible apply AWp.block)
        | ((with_reducible apply AWp.fork); simp -implicitDefEqProofs [hi, hc, clV_def, f1, ci_lt, ci_le])
        | ((with_reducible apply AWp.region); simp -implicitDefEqProofs [hi, hc, clV_def, f1, ci_lt, ci_le])
        | (with_reducible refine And.intro (by first | omega | assumption | decide) ?_)
        | ((with_reducible show condK _ _ _); simp -implicitDefEqProofs [hi, hc, clV_def, f1, ci_lt, ci_le])
        | ((with_reducible show guardK _ _ _ _ _ _ _ _ _); simp -implicitDefEqProofs [hi, hc, clV_def, f1, ci_lt, ci_le])
        | (((with_reducible apply AWp.drawS (id := 7) (t := (Sch.step 0 (Sch.step 1 (Sch.step 2 (Sch.step 3 (Sch.step 5 (Sch.step 6 (Sch.step 7 (Sch.step 8 (Sch.read 4 (Sch.read 9 (Sch.step 10 (Sch.step 11 (Sch.step 12 (Sch.step 13 (Sch.step 14 (Sch.step 15 (Sch.step 17 (Sch.step 18 (Sch.step 19 (Sch.step 20 (Sch.read 16 (Sch.read 21 (Sch.step 22 (Sch.step 23 (Sch.step 24 Sch.done))))))))))))))))))))))))))); (exact mixed); kernel_rfl; kernel_rfl; (repeat (with_reducible first | apply PanQ.then | apply PanQ.block | apply PanQ.body | apply PanQ.no))); simp -implicitDefEqProofs [hi, hc, clV_def, f1, ci_lt, ci_le])
        | ((with_reducible apply aCall.id); first
            | ((apply aCall.gives (hin _)); simp -implicitDefEqProofs [hi, hc, clV_def, f1, ci_lt, ci_le]))
        | ((with_reducible apply AWp.ret); try simp -implicitDefEqProofs [hi, hc, clV_def, f1, ci_lt, ci_le])
        | ((with_reducible apply AWp.skip); try simp -implicitDefEqProofs [hi, hc, clV_def, f1, ci_lt, ci_le])
        | ((with_reducible apply AWp.exit); try simp -implicitDefEqProofs [hi, hc, clV_def, f1, ci_lt, ci_le]))
    · repeat (first
        | (with_reducible apply AWp.seq)
        | (with_reducible apply AWp.block)
        | ((with_reducible apply AWp.fork); simp -implicitDefEqProofs [hi, hc, clV_def, f1, f2, ci_lt, ci_le])
        | ((with_reducible apply AWp.region); simp -implicitDefEqProofs [hi, hc, clV_def, f1, f2, ci_lt, ci_le])
        | (with_reducible refine And.intro (by first | omega | assumption | decide) ?_)
        | ((with_reducible show condK _ _ _); simp -implicitDefEqProofs [hi, hc, clV_def, f1, f2, ci_lt, ci_le])
        | ((with_reducible show guardK _ _ _ _ _ _ _ _ _); simp -implicitDefEqProofs [hi, hc, clV_def, f1, f2, ci_lt, ci_le])
        | (((with_reducible apply AWp.drawS (id := 7) (t := (Sch.step 0 (Sch.step 1 (Sch.step 2 (Sch.step 3 (Sch.step 5 (Sch.step 6 (Sch.step 7 (Sch.step 8 (Sch.read 4 (Sch.read 9 (Sch.step 10 (Sch.step 11 (Sch.step 12 (Sch.step 13 (Sch.step 14 (Sch.step 15 (Sch.step 17 (Sch.step 18 (Sch.step 19 (Sch.step 20 (Sch.read 16 (Sch.read 21 (Sch.step 22 (Sch.step 23 (Sch.step 24 Sch.done))))))))))))))))))))))))))); (exact mixed); kernel_rfl; kernel_rfl; (repeat (with_reducible first | apply PanQ.then | apply PanQ.block | apply PanQ.body | apply PanQ.no))); simp -implicitDefEqProofs [hi, hc, clV_def, f1, f2, ci_lt, ci_le])
        | ((with_reducible apply aCall.id); first
            | ((apply aCall.gives (hin _)); simp -implicitDefEqProofs [hi, hc, clV_def, f1, f2, ci_lt, ci_le]))
        | ((with_reducible apply AWp.ret); try simp -implicitDefEqProofs [hi, hc, clV_def, f1, f2, ci_lt, ci_le])
        | ((with_reducible apply AWp.skip); try simp -implicitDefEqProofs [hi, hc, clV_def, f1, f2, ci_lt, ci_le])
        | ((with_reducible apply AWp.exit); try simp -implicitDefEqProofs [hi, hc, clV_def, f1, f2, ci_lt, ci_le]))
    · repeat (first
        | (with_reducible apply AWp.seq)
        | (with_reducible apply AWp.block)
        | ((with_reducible apply AWp.fork); simp -implicitDefEqProofs [hi, hc, clV_def, f1, f2, f3, ci_lt, ci_le])
        | ((with_reducible apply AWp.region); simp -implicitDefEqProofs [hi, hc, clV_def, f1, f2, f3, ci_lt, ci_le])
        | (with_reducible refine And.intro (by first | omega | assumption | decide) ?_)
        | ((with_reducible show condK _ _ _); simp -implicitDefEqProofs [hi, hc, clV_def, f1, f2, f3, ci_lt, ci_le])
        | ((with_reducible show guardK _ _ _ _ _ _ _ _ _); simp -implicitDefEqProofs [hi, hc, clV_def, f1, f2, f3, ci_lt, ci_le])
        | (((with_reducible apply AWp.drawS (id := 7) (t := (Sch.step 0 (Sch.step 1 (Sch.step 2 (Sch.step 3 (Sch.step 5 (Sch.step 6 (Sch.step 7 (Sch.step 8 (Sch.read 4 (Sch.read 9 (Sch.step 10 (Sch.step 11 (Sch.step 12 (Sch.step 13 (Sch.step 14 (Sch.step 15 (Sch.step 17 (Sch.step 18 (Sch.step 19 (Sch.step 20 (Sch.read 16 (Sch.read 21 (Sch.step 22 (Sch.step 23 (Sch.step 24 Sch.done))))))))))))))))))))))))))); (exact mixed); kernel_rfl; kernel_rfl; (repeat (with_reducible first | apply PanQ.then | apply PanQ.block | apply PanQ.body | apply PanQ.no))); simp -implicitDefEqProofs [hi, hc, clV_def, f1, f2, f3, ci_lt, ci_le])
        | ((with_reducible apply aCall.id); first
            | ((apply aCall.gives (hin _)); simp -implicitDefEqProofs [hi, hc, clV_def, f1, f2, f3, ci_lt, ci_le]))
        | ((with_reducible apply AWp.ret); try simp -implicitDefEqProofs [hi, hc, clV_def, f1, f2, f3, ci_lt, ci_le])
        | ((with_reducible apply AWp.skip); try simp -implicitDefEqProofs [hi, hc, clV_def, f1, f2, f3, ci_lt, ci_le])
        | ((with_reducible apply AWp.exit); try simp -implicitDefEqProofs [hi, hc, clV_def, f1, f2, f3, ci_lt, ci_le]))
    · have f0 : ¬ (l.length : Int) ≤ n := by omega
      have f5 : ¬ (n : Int) = -1 := by omega
      have f8 : ¬ (n : Int) < 0 := by omega
      have f6 := eq_false f4
      repeat (first
        | (with_reducible apply AWp.seq)
        | (with_reducible apply AWp.block)
        | ((with_reducible apply AWp.fork); simp -implicitDefEqProofs [hi, hc, f0, f5, f8, hn, hd, clV_def, f6, ci_lt, ci_le])
        | ((with_reducible apply AWp.region); simp -implicitDefEqProofs [hi, hc, f0, f5, f8, hn, hd, clV_def, f6, ci_lt, ci_le])
        | (with_reducible refine And.intro (by first | omega | assumption | decide) ?_)
        | ((with_reducible show condK _ _ _); simp -implicitDefEqProofs [hi, hc, f0, f5, f8, hn, hd, clV_def, f6, ci_lt, ci_le])
        | ((with_reducible show guardK _ _ _ _ _ _ _ _ _); simp -implicitDefEqProofs [hi, hc, f0, f5, f8, hn, hd, clV_def, f6, ci_lt, ci_le])
        | (((with_reducible apply AWp.drawS (id := 7) (t := (Sch.step 0 (Sch.step 1 (Sch.step 2 (Sch.step 3 (Sch.step 5 (Sch.step 6 (Sch.step 7 (Sch.step 8 (Sch.read 4 (Sch.read 9 (Sch.step 10 (Sch.step 11 (Sch.step 12 (Sch.step 13 (Sch.step 14 (Sch.step 15 (Sch.step 17 (Sch.step 18 (Sch.step 19 (Sch.step 20 (Sch.read 16 (Sch.read 21 (Sch.step 22 (Sch.step 23 (Sch.step 24 Sch.done))))))))))))))))))))))))))); (exact mixed); kernel_rfl; kernel_rfl; (repeat (with_reducible first | apply PanQ.then | apply PanQ.block | apply PanQ.body | apply PanQ.no))); simp -implicitDefEqProofs [hi, hc, f0, f5, f8, hn, hd, clV_def, f6, ci_lt, ci_le])
        | ((with_reducible apply aCall.id); first
            | ((apply aCall.gives (hin _)); simp -implicitDefEqProofs [hi, hc, f0, f5, f8, hn, hd, clV_def, f6, ci_lt, ci_le]))
        | ((with_reducible apply AWp.ret); try simp -implicitDefEqProofs [hi, hc, f0, f5, f8, hn, hd, clV_def, f6, ci_lt, ci_le])
        | ((with_reducible apply AWp.skip); try simp -implicitDefEqProofs [hi, hc, f0, f5, f8, hn, hd, clV_def, f6, ci_lt, ci_le])
        | ((with_reducible apply AWp.exit); try simp -implicitDefEqProofs [hi, hc, f0, f5, f8, hn, hd, clV_def, f6, ci_lt, ci_le]))
    · have f0 : ¬ (l.length : Int) ≤ n := by omega
      have f5 : ¬ (n : Int) = -1 := by omega
      have f8 : ¬ (n : Int) < 0 := by omega
      have f6 := eq_true f4
      by_cases f7 : d.fl ≤ c.tf
      · repeat (first
          | (with_reducible apply AWp.seq)
          | (with_reducible apply AWp.block)
          | ((with_reducible apply AWp.fork); simp -implicitDefEqProofs [hi, hc, f0, f5, f8, hn, hd, clV_def, f6, f7, ci_lt, ci_le])
          | ((with_reducible apply AWp.region); simp -implicitDefEqProofs [hi, hc, f0, f5, f8, hn, hd, clV_def, f6, f7, ci_lt, ci_le])
          | (with_reducible refine And.intro (by first | omega | assumption | decide) ?_)
          | ((with_reducible show condK _ _ _); simp -implicitDefEqProofs [hi, hc, f0, f5, f8, hn, hd, clV_def, f6, f7, ci_lt, ci_le])
          | ((with_reducible show guardK _ _ _ _ _ _ _ _ _); simp -implicitDefEqProofs [hi, hc, f0, f5, f8, hn, hd, clV_def, f6, f7, ci_lt, ci_le])
          | (((with_reducible apply AWp.drawS (id := 7) (t := (Sch.step 0 (Sch.step 1 (Sch.step 2 (Sch.step 3 (Sch.step 5 (Sch.step 6 (Sch.step 7 (Sch.step 8 (Sch.read 4 (Sch.read 9 (Sch.step 10 (Sch.step 11 (Sch.step 12 (Sch.step 13 (Sch.step 14 (Sch.step 15 (Sch.step 17 (Sch.step 18 (Sch.step 19 (Sch.step 20 (Sch.read 16 (Sch.read 21 (Sch.step 22 (Sch.step 23 (Sch.step 24 Sch.done))))))))))))))))))))))))))); (exact mixed); kernel_rfl; kernel_rfl; (repeat (with_reducible first | apply PanQ.then | apply PanQ.block | apply PanQ.body | apply PanQ.no))); simp -implicitDefEqProofs [hi, hc, f0, f5, f8, hn, hd, clV_def, f6, f7, ci_lt, ci_le])
          | ((with_reducible apply aCall.id); first
              | ((apply aCall.gives (hin _)); simp -implicitDefEqProofs [hi, hc, f0, f5, f8, hn, hd, clV_def, f6, f7, ci_lt, ci_le]))
          | ((with_reducible apply AWp.ret); try simp -implicitDefEqProofs [hi, hc, f0, f5, f8, hn, hd, clV_def, f6, f7, ci_lt, ci_le])
          | ((with_reducible apply AWp.skip); try simp -implicitDefEqProofs [hi, hc, f0, f5, f8, hn, hd, clV_def, f6, f7, ci_lt, ci_le])
          | ((with_reducible apply AWp.exit); try simp -implicitDefEqProofs [hi, hc, f0, f5, f8, hn, hd, clV_def, f6, f7, ci_lt, ci_le]))
      · repeat (first
          | (with_reducible apply AWp.seq)
          | (with_reducible apply AWp.block)
          | ((with_reducible apply AWp.fork); simp -implicitDefEqProofs [hi, hc, f0, f5, f8, hn, hd, clV_def, f6, f7, ci_lt, ci_le])
          | ((with_reducible apply AWp.region); simp -implicitDefEqProofs [hi, hc, f0, f5, f8, hn, hd, clV_def, f6, f7, ci_lt, ci_le])
          | (with_reducible refine And.intro (by first | omega | assumption | decide) ?_)
          | ((with_reducible show condK _ _ _); simp -implicitDefEqProofs [hi, hc, f0, f5, f8, hn, hd, clV_def, f6, f7, ci_lt, ci_le])
          | ((with_reducible show guardK _ _ _ _ _ _ _ _ _); simp -implicitDefEqProofs [hi, hc, f0, f5, f8, hn, hd, clV_def, f6, f7, ci_lt, ci_le])
          | (((with_reducible apply AWp.drawS (id := 7) (t := (Sch.step 0 (Sch.step 1 (Sch.step 2 (Sch.step 3 (Sch.step 5 (Sch.step 6 (Sch.step 7 (Sch.step 8 (Sch.read 4 (Sch.read 9 (Sch.step 10 (Sch.step 11 (Sch.step 12 (Sch.step 13 (Sch.step 14 (Sch.step 15 (Sch.step 17 (Sch.step 18 (Sch.step 19 (Sch.step 20 (Sch.read 16 (Sch.read 21 (Sch.step 22 (Sch.step 23 (Sch.step 24 Sch.done))))))))))))))))))))))))))); (exact mixed); kernel_rfl; kernel_rfl; (repeat (with_reducible first | apply PanQ.then | apply PanQ.block | apply PanQ.body | apply PanQ.no))); simp -implicitDefEqProofs [hi, hc, f0, f5, f8, hn, hd, clV_def, f6, f7, ci_lt, ci_le])
          | ((with_reducible apply aCall.id); first
              | ((apply aCall.gives (hin _)); simp -implicitDefEqProofs [hi, hc, f0, f5, f8, hn, hd, clV_def, f6, f7, ci_lt, ci_le]))
          | ((with_reducible apply AWp.ret); try simp -implicitDefEqProofs [hi, hc, f0, f5, f8, hn, hd, clV_def, f6, f7, ci_lt, ci_le])
          | ((with_reducible apply AWp.skip); try simp -implicitDefEqProofs [hi, hc, f0, f5, f8, hn, hd, clV_def, f6, f7, ci_lt, ci_le])
          | ((with_reducible apply AWp.exit); try simp -implicitDefEqProofs [hi, hc, f0, f5, f8, hn, hd, clV_def, f6, f7, ci_lt, ci_le]))

/-! clauses that are so -/

def someI (p : Nat → Cl → Bool) : Nat → List Cl → List Int
  | _, [] => []
  | k, c :: r => if p k c = true then (k : Int) :: someI p (k + 1) r else someI p (k + 1) r
theorem someI_none {p : Nat → Cl → Bool} : ∀ {l : List Cl} {k : Nat}, (∀ j c, k ≤ j → p j c = false) → someI p k l = [] := by
  intro l
  induction l with
  | nil => intro k _; rfl
  | cons c l ih => intro k h; rw [someI, if_neg (by rw [h k c (Nat.le_refl _)]; simp), ih (fun j d hj => h j d (by omega))]
theorem someI_skip {p : Nat → Cl → Bool} {l : List Cl} {m : Nat} (h : ∀ j c, j < m → p j c = false) : someI p 0 l = someI p m (l.drop m) := by
  suffices hh : ∀ (l : List Cl) (k m : Nat), (∀ j c, j < k + m → p j c = false) → someI p k l = someI p (k + m) (l.drop m) by
    have := hh l 0 m (by simpa using h)
    simpa using this
  intro l
  induction l with
  | nil => intro k m _; simp [someI]
  | cons c l ih =>
    intro k m h
    cases m with
    | zero => simp
    | succ m =>
      rw [someI, if_neg (by rw [h k c (by omega)]; simp), List.drop_succ_cons, ih (k + 1) m (fun j d hj => h j d (by omega)), show k + 1 + m = k + (m + 1) by omega]
theorem someI_congr {p q : Nat → Cl → Bool} : ∀ {l : List Cl} {k : Nat}, (∀ j c, k ≤ j → j < k + l.length → p j c = q j c) → someI p k l = someI q k l := by
  intro l
  induction l with
  | nil => intro k _; rfl
  | cons c l ih =>
    intro k h
    rw [someI, someI, h k c (Nat.le_refl _) (by simp), ih (fun j d h1 h2 => h j d (by omega) (by simp at h2 ⊢; omega))]
theorem someI_len {p : Nat → Cl → Bool} : ∀ {l : List Cl} {k : Nat}, (someI p k l).length ≤ l.length := by
  intro l
  induction l with
  | nil => intro k; simp [someI]
  | cons c l ih => intro k; rw [someI]; have := ih (k := k + 1); split <;> simp <;> omega
theorem someI_mono {p q : Nat → Cl → Bool} : ∀ {l : List Cl} {k : Nat}, (∀ j c, p j c = true → q j c = true) → (someI p k l).length ≤ (someI q k l).length := by
  intro l
  induction l with
  | nil => intro k _; simp [someI]
  | cons c l ih =>
    intro k h
    have := ih (k := k + 1) h
    rw [someI, someI]
    by_cases hp : p k c = true
    · rw [if_pos hp, if_pos (h k c hp)]; simp; exact this
    · rw [if_neg hp]
      split
      · simp; omega
      · exact this
theorem someI_mem {p : Nat → Cl → Bool} {x : Int} : ∀ {l : List Cl} {k : Nat}, x ∈ someI p k l ↔ ∃ (i : Nat) (c : Cl), l[i]? = some c ∧ x = ((k + i : Nat) : Int) ∧ p (k + i) c = true := by
  intro l
  induction l with
  | nil => intro k; simp [someI]
  | cons c l ih =>
    intro k
    have hcons : (∃ (i : Nat) (d : Cl), (c :: l)[i]? = some d ∧ x = ((k + i : Nat) : Int) ∧ p (k + i) d = true) ↔ (x = (k : Int) ∧ p k c = true) ∨ ∃ (i : Nat) (d : Cl), l[i]? = some d ∧ x = ((k + 1 + i : Nat) : Int) ∧ p (k + 1 + i) d = true := by
      constructor
      · rintro ⟨i, d, h1, h2, h3⟩
        cases i with
        | zero => simp at h1; subst h1; exact .inl ⟨h2, h3⟩
        | succ i => right; exact ⟨i, d, by simpa using h1, by rw [show k + 1 + i = k + (i + 1) by omega]; exact h2, by rw [show k + 1 + i = k + (i + 1) by omega]; exact h3⟩
      · rintro (⟨h1, h2⟩ | ⟨i, d, h1, h2, h3⟩)
        · exact ⟨0, c, rfl, h1, h2⟩
        · exact ⟨i + 1, d, by simpa using h1, by rw [show k + (i + 1) = k + 1 + i by omega]; exact h2, by rw [show k + (i + 1) = k + 1 + i by omega]; exact h3⟩
    rw [hcons, someI]
    split
    · rename_i h; rw [List.mem_cons, ih]; simp [h]
    · rename_i h; rw [ih]; simp [h]
theorem someI_sorted {p : Nat → Cl → Bool} : ∀ {l : List Cl} {k : Nat}, (someI p k l).Pairwise (· < ·) := by
  intro l
  induction l with
  | nil => intro k; simp [someI]
  | cons c l ih =>
    intro k
    rw [someI]
    split
    · rw [List.pairwise_cons]
      refine ⟨fun x hx => ?_, ih⟩
      obtain ⟨i, _, _, rfl, _⟩ := someI_mem.1 hx
      omega
    · exact ih
theorem someI_filter {p : Nat → Cl → Bool} {a : Int} : ∀ {l : List Cl} {k : Nat}, someI (fun k c => decide (a < k) && p k c) k l = (someI p k l).filter (fun x => decide (a < x)) := by
  intro l
  induction l with
  | nil => intro k; rfl
  | cons c l ih =>
    intro k
    rw [someI, someI]
    by_cases hp : p k c = true
    · rw [if_pos hp, List.filter_cons, ih]
      simp [hp]
    · rw [if_neg hp, ih, if_neg (by simp [hp])]

def inB (lo hi : Int) (g : Cl → Bool) (k : Nat) (c : Cl) : Bool := decide (lo ≤ k) && (decide ((k : Int) < hi) && g c)

theorem usome_ok (l : List Cl) (o : Own) (nl : Bool) (fv : AV) (g : Cl → Bool) (lo hi : Int) (hl : l.length ≤ 1000) (σ : AS) (hf : ∀ σ', AS.le σ σ' → ∀ c ∈ l, FnG Try.prog σ' fv [clV c] (.sc (.bool (g c)))) :
    ACalls Try.prog 57 [clsV l o nl, .sc (.int .i64 lo), .sc (.int .i64 hi), fv] σ (Gives (intsV (someI (inB lo hi g) 0 l)) σ) No := by
  obtain ⟨k0, hk0⟩ : ∃ k0 : Nat, (k0 : Int) = if lo < 0 then 0 else lo := by
    by_cases h : lo < 0
    · exact ⟨0, by rw [if_pos h]; rfl⟩
    · exact ⟨lo.toNat, by rw [if_neg h]; omega⟩
  have hk0' : (lo < 0 ∧ k0 = 0) ∨ (0 ≤ lo ∧ (k0 : Int) = lo) := by
    by_cases h : lo < 0
    · rw [if_pos h] at hk0; exact .inl ⟨h, by omega⟩
    · rw [if_neg h] at hk0; exact .inr ⟨by omega, hk0⟩
  simp only [clsV, clV_def, intsV] at hf ⊢
  refine ACalls.of_body Try.func57 rfl rfl (by simp [Try.ntmps57]) ?_
  repeat (first
    | (with_reducible apply AWp.seq)
    | (with_reducible apply AWp.block)
    | ((with_reducible apply AWp.fork); simp -implicitDefEqProofs [ci_lt, ci_le])
    | ((with_reducible apply AWp.region); simp -implicitDefEqProofs [ci_lt, ci_le])
    | (with_reducible refine And.intro (by first | omega | assumption | decide) ?_)
    | ((with_reducible show condK _ _ _); simp -implicitDefEqProofs [ci_lt, ci_le])
    | ((with_reducible show guardK _ _ _ _ _ _ _ _ _); simp -implicitDefEqProofs [ci_lt, ci_le])
    | ((with_reducible apply AWp.ret); try simp -implicitDefEqProofs [ci_lt, ci_le])
    | ((with_reducible apply AWp.skip); try simp -implicitDefEqProofs [ci_lt, ci_le])
    | ((with_reducible apply AWp.exit); try simp -implicitDefEqProofs [ci_lt, ci_le]))
  refine AWp.mint 9 3 [] true (by simp [Try.ntmps57]) (.inr ⟨by simp, rfl, rfl⟩) ?_
  simp -implicitDefEqProofs [ci_lt, ci_le]
  intro tk htk
  repeat (first
    | (with_reducible apply AWp.seq)
    | (with_reducible apply AWp.block)
    | ((with_reducible apply AWp.fork); simp -implicitDefEqProofs [ci_lt, ci_le])
    | ((with_reducible apply AWp.region); simp -implicitDefEqProofs [ci_lt, ci_le])
    | (with_reducible refine And.intro (by first | omega | assumption | decide) ?_)
    | ((with_reducible show condK _ _ _); simp -implicitDefEqProofs [ci_lt, ci_le])
    | ((with_reducible show guardK _ _ _ _ _ _ _ _ _); simp -implicitDefEqProofs [ci_lt, ci_le])
    | ((with_reducible apply AWp.ret); try simp -implicitDefEqProofs [ci_lt, ci_le])
    | ((with_reducible apply AWp.skip); try simp -implicitDefEqProofs [ci_lt, ci_le])
    | ((with_reducible apply AWp.exit); try simp -implicitDefEqProofs [ci_lt, ci_le]))
  simp only [← hk0]
  refine AWp.loopA (α := (Nat) × (List Int)) ((k0, [])) (fun ⟨i, d⟩ => l.length - i) (fun ⟨i, d⟩ => d.length ≤ i ∧ d.length ≤ l.length ∧ d ++ someI (inB lo hi g) i (l.drop i) = someI (inB lo hi g) 0 l ∧ lo ≤ i) [(0, ?_), (2, ?_), (3, ?_), (8, ?_)] (fun ⟨i, d⟩ => [(10, .sc (.int .i64 i)), (9, .lst 3 (d.map i64v) (.tok tk) (decide (d = [])))]) (fun ⟨i, d⟩ => σ.set tk (.tok d.length)) ?_ ?_ ?_ ?_
  rotate_left 4
  · (try dsimp only); (simp only [List.cons_append, List.nil_append]; repeat (first | exact FrWk.nil | refine FrWk.cons (by first | (simp -implicitDefEqProofs [ci_lt, ci_le]; done) | exact Wk.of (by (try simp -implicitDefEqProofs [ci_lt, ci_le]) <;> rfl)) ?_))
  · (try dsimp only); (first | exact AS.le_refl _ | assumption | (repeat (first | exact AS.le_refl _ | assumption | refine le_new (by simp [*]) ?_)))
  · exact ⟨by simp, by simp, by rw [someI_skip (m := k0) (fun j c hj => by simp [inB]; omega)]; rfl, by omega⟩
  intro x_ hx_
  obtain ⟨i, d⟩ := x_
  try dsimp only at hx_ ⊢
  obtain ⟨hd, hdl, hX, hlo⟩ := hx_
  simp only [List.cons_append, List.nil_append]
  have hle : AS.le σ (σ.set tk (.tok d.length)) := le_new htk (AS.le_refl _)
  by_cases hlt : i < l.length ∧ (i : Int) < hi
  · obtain ⟨hlt, hih⟩ := hlt
    have wi_i : IntKind.i64.wrap ((i : Int) + 1) = ((i + 1 : Nat) : Int) := ci_wi (by omega)
    have hmin : ((i : Int) < if hi < l.length then hi else l.length) = True := by
      simp only [eq_iff_iff, iff_true]; split <;> omega
    have hmin2 : ((i : Int) < if (l.length : Int) < hi then (l.length : Int) else hi) = True := by
      simp only [eq_iff_iff, iff_true]; split <;> omega
    have hmem : l[i] ∈ l := List.getElem_mem hlt
    rw [List.drop_eq_getElem_cons hlt, someI] at hX
    generalize hx : l[i] = c at *
    have hd1 : d.length ≤ 1000 := by omega
    have hdr := someI_len (p := inB lo hi g) (l := l) (k := 0)
    have hu := hf _ hle c hmem
    cases hg : g c with
    | true =>
      rw [hg] at hu
      rw [if_pos (by simp [inB, hg]; omega)] at hX
      have hdd : d.length + 1 ≤ l.length := by rw [← hX] at hdr; simp at hdr; omega
      repeat (first
        | (with_reducible apply AWp.seq)
        | (with_reducible apply AWp.block)
        | ((with_reducible apply AWp.fork); simp -implicitDefEqProofs [hmin, hmin2, hlt, hx, clV_def, hd1, ci_lt, ci_le, wi_i])
        | ((with_reducible apply AWp.region); simp -implicitDefEqProofs [hmin, hmin2, hlt, hx, clV_def, hd1, ci_lt, ci_le, wi_i])
        | (with_reducible refine And.intro (by first | omega | assumption | decide) ?_)
        | ((with_reducible show condK _ _ _); simp -implicitDefEqProofs [hmin, hmin2, hlt, hx, clV_def, hd1, ci_lt, ci_le, wi_i])
        | ((with_reducible show guardK _ _ _ _ _ _ _ _ _); simp -implicitDefEqProofs [hmin, hmin2, hlt, hx, clV_def, hd1, ci_lt, ci_le, wi_i])
        | ((with_reducible apply aCall.id); first
            | ((apply (hu.use)); simp -implicitDefEqProofs [hmin, hmin2, hlt, hx, clV_def, hd1, ci_lt, ci_le, wi_i]))
        | ((with_reducible apply AWp.ret); try simp -implicitDefEqProofs [hmin, hmin2, hlt, hx, clV_def, hd1, ci_lt, ci_le, wi_i])
        | ((with_reducible apply AWp.skip); try simp -implicitDefEqProofs [hmin, hmin2, hlt, hx, clV_def, hd1, ci_lt, ci_le, wi_i])
        | ((with_reducible apply AWp.exit); try simp -implicitDefEqProofs [hmin, hmin2, hlt, hx, clV_def, hd1, ci_lt, ci_le, wi_i]))
      refine stepA.mk ((i + 1, d ++ [(i : Int)])) (by (try dsimp only); omega) (by (try dsimp only); (simp only [List.cons_append, List.nil_append]; repeat (first | exact FrWk.nil | refine FrWk.cons (by first | (simp -implicitDefEqProofs [i64v_def, ci_lt, ci_le, wi_i]; done) | exact Wk.of (by (try simp -implicitDefEqProofs [i64v_def, ci_lt, ci_le, wi_i]) <;> rfl)) ?_))) (by (try dsimp only); simp) ?_
      try dsimp only
      exact ⟨by simp; omega, by simp; omega, by simpa using hX, by omega⟩
    | false =>
      rw [hg] at hu
      rw [if_neg (by simp [inB, hg])] at hX
      repeat (first
        | (with_reducible apply AWp.seq)
        | (with_reducible apply AWp.block)
        | ((with_reducible apply AWp.fork); simp -implicitDefEqProofs [hmin, hmin2, hlt, hx, clV_def, hd1, ci_lt, ci_le, wi_i])
        | ((with_reducible apply AWp.region); simp -implicitDefEqProofs [hmin, hmin2, hlt, hx, clV_def, hd1, ci_lt, ci_le, wi_i])
        | (with_reducible refine And.intro (by first | omega | assumption | decide) ?_)
        | ((with_reducible show condK _ _ _); simp -implicitDefEqProofs [hmin, hmin2, hlt, hx, clV_def, hd1, ci_lt, ci_le, wi_i])
        | ((with_reducible show guardK _ _ _ _ _ _ _ _ _); simp -implicitDefEqProofs [hmin, hmin2, hlt, hx, clV_def, hd1, ci_lt, ci_le, wi_i])
        | ((with_reducible apply aCall.id); first
            | ((apply (hu.use)); simp -implicitDefEqProofs [hmin, hmin2, hlt, hx, clV_def, hd1, ci_lt, ci_le, wi_i]))
        | ((with_reducible apply AWp.ret); try simp -implicitDefEqProofs [hmin, hmin2, hlt, hx, clV_def, hd1, ci_lt, ci_le, wi_i])
        | ((with_reducible apply AWp.skip); try simp -implicitDefEqProofs [hmin, hmin2, hlt, hx, clV_def, hd1, ci_lt, ci_le, wi_i])
        | ((with_reducible apply AWp.exit); try simp -implicitDefEqProofs [hmin, hmin2, hlt, hx, clV_def, hd1, ci_lt, ci_le, wi_i]))
      refine stepA.mk ((i + 1, d)) (by (try dsimp only); omega) (by (try dsimp only); (simp only [List.cons_append, List.nil_append]; repeat (first | exact FrWk.nil | refine FrWk.cons (by first | (simp -implicitDefEqProofs [ci_lt, ci_le, wi_i]; done) | exact Wk.of (by (try simp -implicitDefEqProofs [ci_lt, ci_le, wi_i]) <;> rfl)) ?_))) (by (try dsimp only); (first | exact AS.le_refl _ | assumption | (repeat (first | exact AS.le_refl _ | assumption | refine le_new (by simp [*]) ?_)))) ?_
      try dsimp only
      exact ⟨by omega, by omega, hX, by omega⟩
  · have hmin : ((i : Int) < if hi < l.length then hi else l.length) = False := by
      simp only [eq_iff_iff, iff_false]; split <;> omega
    have hmin2 : ((i : Int) < if (l.length : Int) < hi then (l.length : Int) else hi) = False := by
      simp only [eq_iff_iff, iff_false]; split <;> omega
    have hend : someI (inB lo hi g) i (l.drop i) = [] := by
      by_cases h : i < l.length
      · exact someI_none (fun j c hj => by simp [inB]; omega)
      · rw [List.drop_eq_nil_of_le (by omega)]; rfl
    rw [hend, List.append_nil] at hX
    subst hX
    repeat (first
      | (with_reducible apply AWp.seq)
      | (with_reducible apply AWp.block)
      | ((with_reducible apply AWp.fork); simp -implicitDefEqProofs [hmin, hmin2, ci_lt, ci_le])
      | ((with_reducible apply AWp.region); simp -implicitDefEqProofs [hmin, hmin2, ci_lt, ci_le])
      | (with_reducible refine And.intro (by first | omega | assumption | decide) ?_)
      | ((with_reducible show condK _ _ _); simp -implicitDefEqProofs [hmin, hmin2, ci_lt, ci_le])
      | ((with_reducible show guardK _ _ _ _ _ _ _ _ _); simp -implicitDefEqProofs [hmin, hmin2, ci_lt, ci_le])
      | ((with_reducible apply AWp.ret); try simp -implicitDefEqProofs [hmin, hmin2, ci_lt, ci_le])
      | ((with_reducible apply AWp.skip); try simp -implicitDefEqProofs [hmin, hmin2, ci_lt, ci_le])
      | ((with_reducible apply AWp.exit); try simp -implicitDefEqProofs [hmin, hmin2, ci_lt, ci_le]))
    exact hle

end Go.Proofs.Ythbmjmdmamapiaa
