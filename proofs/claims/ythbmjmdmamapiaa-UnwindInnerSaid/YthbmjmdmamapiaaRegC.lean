/- Package regions: Tries, Finals, Pass, Leave. -/
import Derived.Test.YthbmjmdmamapiaaRegB
set_option linter.unusedSimpArgs false
set_option linter.unusedVariables false
set_option maxRecDepth 100000
set_option maxHeartbeats 3200000
namespace Go.Proofs.Ythbmjmdmamapiaa
open Go Go.AW

def intsV (l : List Int) : AV := .lst 3 (l.map i64v) .unk (decide (l = []))
def someS (f : Cl → Bool) : Nat → List Cl → List Int
  | _, [] => []
  | k, c :: r => if f c = true then (k : Int) :: someS f (k + 1) r else someS f (k + 1) r

theorem some_ok (l : List Cl) (o : Own) (nl : Bool) (fv : AV) (g : Cl → Bool) (hl : l.length ≤ 1000) (σ : AS) (hf : ∀ σ', AS.le σ σ' → ∀ c ∈ l, FnG Try.prog σ' fv [clV c] (.sc (.bool (g c)))) :
    ACalls Try.prog 50 [clsV l o nl, fv] σ (Gives (intsV (someS g 0 l)) σ) No := by
  simp only [clsV, clV_def, intsV] at hf ⊢
  refine ACalls.of_body Try.func50 rfl rfl (by simp [Try.ntmps50]) ?_
  repeat (first
    | (with_reducible apply AWp.seq)
    | (with_reducible apply AWp.block)
    | ((with_reducible apply AWp.fork); simp -implicitDefEqProofs [ci_lt, ci_le])
    | ((with_reducible apply AWp.region); simp -implicitDefEqProofs [ci_lt, ci_le])
    | (with_reducible refine And.intro (by first | omega | assumption | decide) ?_)
    | ((with_reducible show condK _ _ _); simp -implicitDefEqProofs [ci_lt, ci_le])
    | ((with_reducible show guardK _ _ _ _ _ _ _ _ _); simp -implicitDefEqProofs [ci_lt, ci_le])
    | ((with_reducible apply AWp.ret); try simp -implicitDefEqProofs [ci_lt, ci_le])
    | ((with_reducible apply AWp.skip); try simp -implicitDefEqProofs [ci_lt, ci_le])
    | ((with_reducible apply AWp.exit); try simp -implicitDefEqProofs [ci_lt, ci_le]))
  refine AWp.mint 5 3 [] true (by simp [Try.ntmps50]) (.inr ⟨by simp, rfl, rfl⟩) ?_
  simp -implicitDefEqProofs [ci_lt, ci_le]
  intro tk htk
  refine AWp.loopA (α := (Nat) × (List Int)) ((0, [])) (fun ⟨i, d⟩ => l.length - i) (fun ⟨i, d⟩ => i ≤ l.length ∧ d.length ≤ i ∧ d ++ someS g i (l.drop i) = someS g 0 l) [(1, ?_), (4, ?_), (8, ?_), (9, ?_)] (fun ⟨i, d⟩ => [(10, .sc (.int .i64 i)), (5, .lst 3 (d.map i64v) (.tok tk) (decide (d = [])))]) (fun ⟨i, d⟩ => σ.set tk (.tok d.length)) ?_ ?_ ?_ ?_
  rotate_left 4
  · (try dsimp only); (simp only [List.cons_append, List.nil_append]; repeat (first | exact FrWk.nil | refine FrWk.cons (by first | (simp -implicitDefEqProofs [ci_lt, ci_le]; done) | exact Wk.of (by (try simp -implicitDefEqProofs [ci_lt, ci_le]) <;> rfl)) ?_))
  · (try dsimp only); (first | exact AS.le_refl _ | assumption | (repeat (first | exact AS.le_refl _ | assumption | refine le_new (by simp [*]) ?_)))
  · exact ⟨by omega, by simp, rfl⟩
  intro x_ hx_
  obtain ⟨i, d⟩ := x_
  try dsimp only at hx_ ⊢
  obtain ⟨hi, hd, hX⟩ := hx_
  simp only [List.cons_append, List.nil_append]
  have hle : AS.le σ (σ.set tk (.tok d.length)) := le_new htk (AS.le_refl _)
  by_cases hlt : i < l.length
  · have wi_i : IntKind.i64.wrap ((i : Int) + 1) = ((i + 1 : Nat) : Int) := ci_wi (by omega)
    have hmem : l[i] ∈ l := List.getElem_mem hlt
    rw [List.drop_eq_getElem_cons hlt] at hX
    simp only [someS] at hX
    generalize hx : l[i] = c at *
    have hd1 : d.length ≤ 1000 := by omega
    repeat (first
      | (with_reducible apply AWp.seq)
      | (with_reducible apply AWp.block)
      | ((with_reducible apply AWp.fork); simp -implicitDefEqProofs [hlt, hx, clV_def, ci_lt, ci_le, wi_i])
      | ((with_reducible apply AWp.region); simp -implicitDefEqProofs [hlt, hx, clV_def, ci_lt, ci_le, wi_i])
      | (with_reducible refine And.intro (by first | omega | assumption | decide) ?_)
      | ((with_reducible show condK _ _ _); simp -implicitDefEqProofs [hlt, hx, clV_def, ci_lt, ci_le, wi_i])
      | ((with_reducible show guardK _ _ _ _ _ _ _ _ _); simp -implicitDefEqProofs [hlt, hx, clV_def, ci_lt, ci_le, wi_i])
      | ((with_reducible apply AWp.ret); try simp -implicitDefEqProofs [hlt, hx, clV_def, ci_lt, ci_le, wi_i])
      | ((with_reducible apply AWp.skip); try simp -implicitDefEqProofs [hlt, hx, clV_def, ci_lt, ci_le, wi_i])
      | ((with_reducible apply AWp.exit); try simp -implicitDefEqProofs [hlt, hx, clV_def, ci_lt, ci_le, wi_i]))
    intro id n_id_tk h_id
    have n_tk_id : ¬ tk = id := fun e => n_id_tk e.symm
    have hu := hf _ (le_new (b := .cells 45 (clV c).cells) (show (σ.set tk (.tok d.length)) id = none by simp [n_id_tk, h_id]) hle) c hmem
    simp only [clV_def, cells_agg] at hu
    cases hg : g c with
    | true =>
      rw [hg] at hu hX
      simp at hX
      repeat (first
        | (with_reducible apply AWp.seq)
        | (with_reducible apply AWp.block)
        | ((with_reducible apply AWp.fork); simp -implicitDefEqProofs [n_id_tk, n_tk_id, hd1, ci_lt, ci_le, wi_i])
        | ((with_reducible apply AWp.region); simp -implicitDefEqProofs [n_id_tk, n_tk_id, hd1, ci_lt, ci_le, wi_i])
        | (with_reducible refine And.intro (by first | omega | assumption | decide) ?_)
        | ((with_reducible show condK _ _ _); simp -implicitDefEqProofs [n_id_tk, n_tk_id, hd1, ci_lt, ci_le, wi_i])
        | ((with_reducible show guardK _ _ _ _ _ _ _ _ _); simp -implicitDefEqProofs [n_id_tk, n_tk_id, hd1, ci_lt, ci_le, wi_i])
        | ((with_reducible apply aCall.id); first
            | ((apply (hu.use)); simp -implicitDefEqProofs [n_id_tk, n_tk_id, hd1, ci_lt, ci_le, wi_i]))
        | ((with_reducible apply AWp.ret); try simp -implicitDefEqProofs [n_id_tk, n_tk_id, hd1, ci_lt, ci_le, wi_i])
        | ((with_reducible apply AWp.skip); try simp -implicitDefEqProofs [n_id_tk, n_tk_id, hd1, ci_lt, ci_le, wi_i])
        | ((with_reducible apply AWp.exit); try simp -implicitDefEqProofs [n_id_tk, n_tk_id, hd1, ci_lt, ci_le, wi_i]))
      refine stepA.mk ((i + 1, d ++ [(i : Int)])) (by (try dsimp only); omega) (by (try dsimp only); (simp only [List.cons_append, List.nil_append]; repeat (first | exact FrWk.nil | refine FrWk.cons (by first | (simp -implicitDefEqProofs [i64v_def, ci_lt, ci_le, wi_i]; done) | exact Wk.of (by (try simp -implicitDefEqProofs [i64v_def, ci_lt, ci_le, wi_i]) <;> rfl)) ?_))) (by (try dsimp only); (simp [n_id_tk]; exact le_new (by simp [n_id_tk, h_id]) (AS.le_refl _))) ?_
      try dsimp only
      exact ⟨by omega, by simp; omega, by simpa using hX⟩
    | false =>
      rw [hg] at hu hX
      simp at hX
      repeat (first
        | (with_reducible apply AWp.seq)
        | (with_reducible apply AWp.block)
        | ((with_reducible apply AWp.fork); simp -implicitDefEqProofs [n_id_tk, n_tk_id, hd1, ci_lt, ci_le, wi_i])
        | ((with_reducible apply AWp.region); simp -implicitDefEqProofs [n_id_tk, n_tk_id, hd1, ci_lt, ci_le, wi_i])
        | (with_reducible refine And.intro (by first | omega | assumption | decide) ?_)
        | ((with_reducible show condK _ _ _); simp -implicitDefEqProofs [n_id_tk, n_tk_id, hd1, ci_lt, ci_le, wi_i])
        | ((with_reducible show guardK _ _ _ _ _ _ _ _ _); simp -implicitDefEqProofs [n_id_tk, n_tk_id, hd1, ci_lt, ci_le, wi_i])
        | ((with_reducible apply aCall.id); first
            | ((apply (hu.use)); simp -implicitDefEqProofs [n_id_tk, n_tk_id, hd1, ci_lt, ci_le, wi_i]))
        | ((with_reducible apply AWp.ret); try simp -implicitDefEqProofs [n_id_tk, n_tk_id, hd1, ci_lt, ci_le, wi_i])
        | ((with_reducible apply AWp.skip); try simp -implicitDefEqProofs [n_id_tk, n_tk_id, hd1, ci_lt, ci_le, wi_i])
        | ((with_reducible apply AWp.exit); try simp -implicitDefEqProofs [n_id_tk, n_tk_id, hd1, ci_lt, ci_le, wi_i]))
      refine stepA.mk ((i + 1, d)) (by (try dsimp only); omega) (by (try dsimp only); (simp only [List.cons_append, List.nil_append]; repeat (first | exact FrWk.nil | refine FrWk.cons (by first | (simp -implicitDefEqProofs [ci_lt, ci_le, wi_i]; done) | exact Wk.of (by (try simp -implicitDefEqProofs [ci_lt, ci_le, wi_i]) <;> rfl)) ?_))) (by (try dsimp only); (exact le_new (by simp [n_id_tk, h_id]) (AS.le_refl _))) ?_
      try dsimp only
      exact ⟨by omega, by omega, by simpa using hX⟩
  · rw [List.drop_eq_nil_of_le (by omega)] at hX
    simp only [someS, List.append_nil] at hX
    subst hX
    repeat (first
      | (with_reducible apply AWp.seq)
      | (with_reducible apply AWp.block)
      | ((with_reducible apply AWp.fork); simp -implicitDefEqProofs [hlt, ci_lt, ci_le])
      | ((with_reducible apply AWp.region); simp -implicitDefEqProofs [hlt, ci_lt, ci_le])
      | (with_reducible refine And.intro (by first | omega | assumption | decide) ?_)
      | ((with_reducible show condK _ _ _); simp -implicitDefEqProofs [hlt, ci_lt, ci_le])
      | ((with_reducible show guardK _ _ _ _ _ _ _ _ _); simp -implicitDefEqProofs [hlt, ci_lt, ci_le])
      | ((with_reducible apply AWp.ret); try simp -implicitDefEqProofs [hlt, ci_lt, ci_le])
      | ((with_reducible apply AWp.skip); try simp -implicitDefEqProofs [hlt, ci_lt, ci_le])
      | ((with_reducible apply AWp.exit); try simp -implicitDefEqProofs [hlt, ci_lt, ci_le]))
    exact le_new htk (AS.le_refl _)

def triedS (c : Cl) (x : Int) : Bool := hasS ⟨c.tf, c.tt⟩ x
theorem tried_ok (c : Cl) (x : Int) (σ : AS) : ACalls Try.prog 52 [clV c, .sc (.int .i64 x)] σ (Gives (.sc (.bool (triedS c x))) σ) No := by
  have hh := fun σ => has_ok ⟨c.tf, c.tt⟩ x σ
  simp only [clV_def, snV, triedS] at hh ⊢
  refine ACalls.of_body Try.func52 rfl rfl (by simp [Try.ntmps52]) ?_
  repeat (first
    | (with_reducible apply AWp.seq)
    | (with_reducible apply AWp.block)
    | ((with_reducible apply AWp.fork); simp -implicitDefEqProofs)
    | ((with_reducible apply AWp.region); simp -implicitDefEqProofs)
    | (with_reducible refine And.intro (by first | omega | assumption | decide) ?_)
    | ((with_reducible apply AWp.ret); try simp -implicitDefEqProofs)
    | ((with_reducible apply AWp.skip); try simp -implicitDefEqProofs)
    | ((with_reducible apply AWp.exit); try simp -implicitDefEqProofs))
  intro id h_id
  repeat (first
    | (with_reducible apply AWp.seq)
    | (with_reducible apply AWp.block)
    | ((with_reducible apply AWp.fork); simp -implicitDefEqProofs)
    | ((with_reducible apply AWp.region); simp -implicitDefEqProofs)
    | (with_reducible refine And.intro (by first | omega | assumption | decide) ?_)
    | ((with_reducible apply aCall.id); first
        | ((apply aCall.gives (hh _)); simp -implicitDefEqProofs))
    | ((with_reducible apply AWp.ret); try simp -implicitDefEqProofs)
    | ((with_reducible apply AWp.skip); try simp -implicitDefEqProofs)
    | ((with_reducible apply AWp.exit); try simp -implicitDefEqProofs))
  all_goals (repeat' (with_reducible apply And.intro))
  all_goals first
    | exact AS.le_refl _
    | ((repeat (first | exact AS.le_refl _ | assumption | refine le_new (by simp [*]) ?_)); done)
    | (refine wk_eq ?_; simp_all [skipV]; done)
    | (refine wk_b ?_; rw [Bool.eq_iff_iff]; simp [*]; omega)
    | (refine wk_eq ?_; simp [*]; omega)
    | (refine wk_eq ?_; split <;> simp_all [skipV]; done)
    | (exfalso; omega)

theorem tries1_ok (c : Cl) (x : Int) (id : Nat) (σ : AS) (h : σ id = some (.cells 3 [.sc (.int .i64 x)])) : ACalls Try.prog 51 [clV c, .ptr id 0] σ (Gives (.sc (.bool (triedS c x))) σ) No := by
  have hh := fun σ => tried_ok c x σ
  simp only [clV_def] at hh ⊢
  refine ACalls.of_body Try.func51 rfl rfl (by simp [Try.ntmps51]) ?_
  repeat (first
    | (with_reducible apply AWp.seq)
    | (with_reducible apply AWp.block)
    | ((with_reducible apply AWp.fork); simp -implicitDefEqProofs)
    | ((with_reducible apply AWp.region); simp -implicitDefEqProofs)
    | (with_reducible refine And.intro (by first | omega | assumption | decide) ?_)
    | ((with_reducible apply AWp.ret); try simp -implicitDefEqProofs)
    | ((with_reducible apply AWp.skip); try simp -implicitDefEqProofs)
    | ((with_reducible apply AWp.exit); try simp -implicitDefEqProofs))
  intro id2 h_id2
  have n_id_id2 : ¬ id = id2 := by rintro rfl; rw [h] at h_id2; cases h_id2
  have n_id2_id : ¬ id2 = id := fun e => n_id_id2 e.symm
  repeat (first
    | (with_reducible apply AWp.seq)
    | (with_reducible apply AWp.block)
    | ((with_reducible apply AWp.fork); simp -implicitDefEqProofs [n_id2_id, n_id_id2, h])
    | ((with_reducible apply AWp.region); simp -implicitDefEqProofs [n_id2_id, n_id_id2, h])
    | (with_reducible refine And.intro (by first | omega | assumption | decide) ?_)
    | ((with_reducible show condK _ _ _); simp -implicitDefEqProofs [n_id2_id, n_id_id2, h])
    | ((with_reducible show guardK _ _ _ _ _ _ _ _ _); simp -implicitDefEqProofs [n_id2_id, n_id_id2, h])
    | ((with_reducible apply aCall.id); first
        | ((apply aCall.gives (hh _)); simp -implicitDefEqProofs [n_id2_id, n_id_id2, h]))
    | ((with_reducible apply AWp.ret); try simp -implicitDefEqProofs [n_id2_id, n_id_id2, h])
    | ((with_reducible apply AWp.skip); try simp -implicitDefEqProofs [n_id2_id, n_id_id2, h])
    | ((with_reducible apply AWp.exit); try simp -implicitDefEqProofs [n_id2_id, n_id_id2, h]))
  all_goals (repeat' (with_reducible apply And.intro))
  all_goals first
    | exact AS.le_refl _
    | ((repeat (first | exact AS.le_refl _ | assumption | refine le_new (by simp [*]) ?_)); done)
    | (refine wk_eq ?_; simp_all [skipV]; done)
    | (refine wk_b ?_; rw [Bool.eq_iff_iff]; simp [*]; omega)
    | (refine wk_eq ?_; simp [*]; omega)
    | (refine wk_eq ?_; split <;> simp_all [skipV]; done)
    | (exfalso; omega)

theorem triesW_ok (l : List Cl) (o : Own) (nl : Bool) (x : Int) (hl : l.length ≤ 1000) (σ : AS) :
    ACalls Try.prog 22 [clsV l o nl, .sc (.int .i64 x)] σ (Gives (intsV (someS (fun c => triedS c x) 0 l)) σ) No := by
  have hs := fun id (hid : σ id = none) => some_ok l o nl (.fn (.func 51) [] [.ptr id 0]) (fun c => triedS c x) hl (σ.set id (.cells 3 [.sc (.int .i64 x)]))
    (fun σ' hle c _ => FnG.fn (first := []) (args := [clV c]) (cap := [.ptr id 0]) (tries1_ok c x id σ' (hle id _ (by simp))))
  simp only [clsV, intsV] at hs ⊢
  refine ACalls.of_body Try.func22 rfl rfl (by simp [Try.ntmps22]) ?_
  repeat (first
    | (with_reducible apply AWp.seq)
    | (with_reducible apply AWp.block)
    | ((with_reducible apply AWp.fork); simp -implicitDefEqProofs)
    | ((with_reducible apply AWp.region); simp -implicitDefEqProofs)
    | (with_reducible refine And.intro (by first | omega | assumption | decide) ?_)
    | ((with_reducible apply AWp.ret); try simp -implicitDefEqProofs)
    | ((with_reducible apply AWp.skip); try simp -implicitDefEqProofs)
    | ((with_reducible apply AWp.exit); try simp -implicitDefEqProofs))
  intro id h_id
  repeat (first
    | (with_reducible apply AWp.seq)
    | (with_reducible apply AWp.block)
    | ((with_reducible apply AWp.fork); simp -implicitDefEqProofs)
    | ((with_reducible apply AWp.region); simp -implicitDefEqProofs)
    | (with_reducible refine And.intro (by first | omega | assumption | decide) ?_)
    | ((with_reducible apply aCall.id); first
        | ((apply aCall.gives (hs id h_id)); simp -implicitDefEqProofs))
    | ((with_reducible apply AWp.ret); try simp -implicitDefEqProofs)
    | ((with_reducible apply AWp.skip); try simp -implicitDefEqProofs)
    | ((with_reducible apply AWp.exit); try simp -implicitDefEqProofs))
  all_goals (repeat' (with_reducible apply And.intro))
  all_goals first
    | exact AS.le_refl _
    | ((repeat (first | exact AS.le_refl _ | assumption | refine le_new (by simp [*]) ?_)); done)
    | (refine wk_eq ?_; simp_all [skipV]; done)
    | (refine wk_b ?_; rw [Bool.eq_iff_iff]; simp [*]; omega)
    | (refine wk_eq ?_; simp [*]; omega)
    | (refine wk_eq ?_; split <;> simp_all [skipV]; done)
    | (exfalso; omega)

def finalS (c : Cl) (x y : Int) : Bool := decide (c.k = 3) && (triedS c x && !triedS c y)
theorem finals1_ok (c : Cl) (x y : Int) (id id2 : Nat) (σ : AS) (h : σ id = some (.cells 3 [.sc (.int .i64 x)])) (h2 : σ id2 = some (.cells 3 [.sc (.int .i64 y)])) :
    ACalls Try.prog 55 [clV c, .ptr id 0, .ptr id2 0] σ (Gives (.sc (.bool (finalS c x y))) σ) No := by
  have hh := fun σ => tried_ok c x σ
  have hh2 := fun σ => tried_ok c y σ
  unfold finalS
  simp only [clV_def] at hh hh2 ⊢
  generalize triedS c x = b1 at *
  generalize triedS c y = b2 at *
  refine ACalls.of_body Try.func55 rfl rfl (by simp [Try.ntmps55]) ?_
  repeat (first
    | (with_reducible apply AWp.seq)
    | (with_reducible apply AWp.block)
    | ((with_reducible apply AWp.fork); simp -implicitDefEqProofs)
    | ((with_reducible apply AWp.region); simp -implicitDefEqProofs)
    | (with_reducible refine And.intro (by first | omega | assumption | decide) ?_)
    | ((with_reducible apply AWp.ret); try simp -implicitDefEqProofs)
    | ((with_reducible apply AWp.skip); try simp -implicitDefEqProofs)
    | ((with_reducible apply AWp.exit); try simp -implicitDefEqProofs))
  intro id3 h_id3
  have n_id_id3 : ¬ id = id3 := by rintro rfl; rw [h] at h_id3; cases h_id3
  have n_id3_id : ¬ id3 = id := fun e => n_id_id3 e.symm
  have n_id2_id3 : ¬ id2 = id3 := by rintro rfl; rw [h2] at h_id3; cases h_id3
  have n_id3_id2 : ¬ id3 = id2 := fun e => n_id2_id3 e.symm
  repeat' (first
    | (with_reducible apply AWp.seq)
    | (with_reducible apply AWp.block)
    | ((with_reducible apply AWp.fork); simp -implicitDefEqProofs [n_id3_id, n_id_id3, h, n_id3_id2, n_id2_id3, h2])
    | ((with_reducible apply AWp.region); simp -implicitDefEqProofs [n_id3_id, n_id_id3, h, n_id3_id2, n_id2_id3, h2])
    | (with_reducible refine And.intro (by first | omega | assumption | decide) ?_)
    | ((with_reducible show condK _ _ _); simp -implicitDefEqProofs [n_id3_id, n_id_id3, h, n_id3_id2, n_id2_id3, h2])
    | ((with_reducible show guardK _ _ _ _ _ _ _ _ _); simp -implicitDefEqProofs [n_id3_id, n_id_id3, h, n_id3_id2, n_id2_id3, h2])
    | trivial
    | (with_reducible apply And.intro)
    | ((with_reducible apply aCall.id); first
        | ((apply aCall.gives (hh _)); simp -implicitDefEqProofs [n_id3_id, n_id_id3, h, n_id3_id2, n_id2_id3, h2])
        | ((apply aCall.gives (hh2 _)); simp -implicitDefEqProofs [n_id3_id, n_id_id3, h, n_id3_id2, n_id2_id3, h2]))
    | ((with_reducible apply AWp.ret); try simp -implicitDefEqProofs [n_id3_id, n_id_id3, h, n_id3_id2, n_id2_id3, h2])
    | ((with_reducible apply AWp.skip); try simp -implicitDefEqProofs [n_id3_id, n_id_id3, h, n_id3_id2, n_id2_id3, h2])
    | ((with_reducible apply AWp.exit); try simp -implicitDefEqProofs [n_id3_id, n_id_id3, h, n_id3_id2, n_id2_id3, h2])
    | ((with_reducible apply condK.split) <;> (intro hc; (try simp -implicitDefEqProofs only [hc]); (try simp at hc)) <;> try simp -implicitDefEqProofs [n_id3_id, n_id_id3, h, n_id3_id2, n_id2_id3, h2])
    | ((with_reducible apply guardK.split) <;> (intro hc; (try simp -implicitDefEqProofs only [hc]); (try simp at hc)) <;> try simp -implicitDefEqProofs [n_id3_id, n_id_id3, h, n_id3_id2, n_id2_id3, h2])
    | ((with_reducible apply pureG.split) <;> (intro hc; (try simp -implicitDefEqProofs only [hc]); (try simp at hc)) <;> try simp -implicitDefEqProofs [n_id3_id, n_id_id3, h, n_id3_id2, n_id2_id3, h2]))
  all_goals (repeat' (with_reducible apply And.intro))
  all_goals first
    | exact AS.le_refl _
    | ((repeat (first | exact AS.le_refl _ | assumption | refine le_new (by simp [*]) ?_)); done)
    | (refine wk_eq ?_; simp_all [skipV]; done)
    | (refine wk_b ?_; rw [Bool.eq_iff_iff]; simp [*]; omega)
    | (refine wk_eq ?_; simp [*]; omega)
    | (refine wk_eq ?_; split <;> simp_all [skipV]; done)
    | (exfalso; omega)

theorem finalsW_ok (l : List Cl) (o : Own) (nl : Bool) (x y : Int) (hl : l.length ≤ 1000) (σ : AS) :
    ACalls Try.prog 26 [clsV l o nl, .sc (.int .i64 x), .sc (.int .i64 y)] σ (Gives (intsV (someS (fun c => finalS c x y) 0 l)) σ) No := by
  have hs := fun id id2 (hid : ¬ id = id2) => some_ok l o nl (.fn (.func 55) [] [.ptr id 0, .ptr id2 0]) (fun c => finalS c x y) hl ((σ.set id (.cells 3 [.sc (.int .i64 x)])).set id2 (.cells 3 [.sc (.int .i64 y)]))
    (fun σ' hle c _ => FnG.fn (first := []) (args := [clV c]) (cap := [.ptr id 0, .ptr id2 0]) (finals1_ok c x y id id2 σ' (hle id _ (by simp [hid])) (hle id2 _ (by simp))))
  simp only [clsV, intsV] at hs ⊢
  refine ACalls.of_body Try.func26 rfl rfl (by simp [Try.ntmps26]) ?_
  repeat (first
    | (with_reducible apply AWp.seq)
    | (with_reducible apply AWp.block)
    | ((with_reducible apply AWp.fork); simp -implicitDefEqProofs)
    | ((with_reducible apply AWp.region); simp -implicitDefEqProofs)
    | (with_reducible refine And.intro (by first | omega | assumption | decide) ?_)
    | ((with_reducible apply AWp.ret); try simp -implicitDefEqProofs)
    | ((with_reducible apply AWp.skip); try simp -implicitDefEqProofs)
    | ((with_reducible apply AWp.exit); try simp -implicitDefEqProofs))
  intro id h_id
  repeat (first
    | (with_reducible apply AWp.seq)
    | (with_reducible apply AWp.block)
    | ((with_reducible apply AWp.fork); simp -implicitDefEqProofs)
    | ((with_reducible apply AWp.region); simp -implicitDefEqProofs)
    | (with_reducible refine And.intro (by first | omega | assumption | decide) ?_)
    | ((with_reducible apply AWp.ret); try simp -implicitDefEqProofs)
    | ((with_reducible apply AWp.skip); try simp -implicitDefEqProofs)
    | ((with_reducible apply AWp.exit); try simp -implicitDefEqProofs))
  intro id2 n_id2_id h_id2
  have n_id_id2 : ¬ id = id2 := fun e => n_id2_id e.symm
  repeat (first
    | (with_reducible apply AWp.seq)
    | (with_reducible apply AWp.block)
    | ((with_reducible apply AWp.fork); simp -implicitDefEqProofs [n_id2_id, n_id_id2])
    | ((with_reducible apply AWp.region); simp -implicitDefEqProofs [n_id2_id, n_id_id2])
    | (with_reducible refine And.intro (by first | omega | assumption | decide) ?_)
    | ((with_reducible show condK _ _ _); simp -implicitDefEqProofs [n_id2_id, n_id_id2])
    | ((with_reducible show guardK _ _ _ _ _ _ _ _ _); simp -implicitDefEqProofs [n_id2_id, n_id_id2])
    | ((with_reducible apply aCall.id); first
        | ((apply aCall.gives (hs id id2 n_id_id2)); simp -implicitDefEqProofs [n_id2_id, n_id_id2]))
    | ((with_reducible apply AWp.ret); try simp -implicitDefEqProofs [n_id2_id, n_id_id2])
    | ((with_reducible apply AWp.skip); try simp -implicitDefEqProofs [n_id2_id, n_id_id2])
    | ((with_reducible apply AWp.exit); try simp -implicitDefEqProofs [n_id2_id, n_id_id2]))
  all_goals (repeat' (with_reducible apply And.intro))
  all_goals first
    | exact AS.le_refl _
    | ((repeat (first | exact AS.le_refl _ | assumption | refine le_new (by simp [*]) ?_)); done)
    | (refine wk_eq ?_; simp_all [skipV]; done)
    | (refine wk_b ?_; rw [Bool.eq_iff_iff]; simp [*]; omega)
    | (refine wk_eq ?_; simp [*]; omega)
    | (refine wk_eq ?_; split <;> simp_all [skipV]; done)
    | (exfalso; omega)

/-! chains are compared -/

def rgs (l : List Pt) : List (Int × Int) := l.map fun x => (x.k, x.p)
theorem eqr_ok (σ : AS) (a b : Pt) : ACalls Try.prog 82 [ptV a, ptV b] σ (Gives (.sc (.bool (decide (a.k = b.k) && decide (a.p = b.p)))) σ) No := by
  refine ACalls.of_body Try.func82 rfl rfl (by simp [Try.ntmps82]) ?_
  simp only [ptV]
  repeat (first
    | (with_reducible apply AWp.seq)
    | (with_reducible apply AWp.block)
    | ((with_reducible apply AWp.fork); simp -implicitDefEqProofs)
    | ((with_reducible apply AWp.region); simp -implicitDefEqProofs)
    | (with_reducible refine And.intro (by first | omega | assumption | decide) ?_)
    | ((with_reducible apply AWp.ret); try simp -implicitDefEqProofs)
    | ((with_reducible apply AWp.skip); try simp -implicitDefEqProofs)
    | ((with_reducible apply AWp.exit); try simp -implicitDefEqProofs))
  intro id h_id
  repeat (first
    | (with_reducible apply AWp.seq)
    | (with_reducible apply AWp.block)
    | ((with_reducible apply AWp.fork); simp -implicitDefEqProofs)
    | ((with_reducible apply AWp.region); simp -implicitDefEqProofs)
    | (with_reducible refine And.intro (by first | omega | assumption | decide) ?_)
    | ((with_reducible apply AWp.ret); try simp -implicitDefEqProofs)
    | ((with_reducible apply AWp.skip); try simp -implicitDefEqProofs)
    | ((with_reducible apply AWp.exit); try simp -implicitDefEqProofs))
  intro id2 n_id2_id h_id2
  have n_id_id2 : ¬ id = id2 := fun e => n_id2_id e.symm
  repeat (first
    | (with_reducible apply AWp.seq)
    | (with_reducible apply AWp.block)
    | ((with_reducible apply AWp.fork); simp -implicitDefEqProofs [n_id2_id, n_id_id2])
    | ((with_reducible apply AWp.region); simp -implicitDefEqProofs [n_id2_id, n_id_id2])
    | (with_reducible refine And.intro (by first | omega | assumption | decide) ?_)
    | ((with_reducible show condK _ _ _); simp -implicitDefEqProofs [n_id2_id, n_id_id2])
    | ((with_reducible show guardK _ _ _ _ _ _ _ _ _); simp -implicitDefEqProofs [n_id2_id, n_id_id2])
    | ((with_reducible apply AWp.ret); try simp -implicitDefEqProofs [n_id2_id, n_id_id2])
    | ((with_reducible apply AWp.skip); try simp -implicitDefEqProofs [n_id2_id, n_id_id2])
    | ((with_reducible apply AWp.exit); try simp -implicitDefEqProofs [n_id2_id, n_id_id2]))
  all_goals (repeat' (with_reducible apply And.intro))
  all_goals first
    | exact AS.le_refl _
    | ((repeat (first | exact AS.le_refl _ | assumption | refine le_new (by simp [*]) ?_)); done)
    | (refine wk_eq ?_; simp_all [skipV]; done)
    | (refine wk_b ?_; rw [Bool.eq_iff_iff]; simp [*]; omega)
    | (refine wk_eq ?_; simp [*]; omega)
    | (refine wk_eq ?_; split <;> simp_all [skipV]; done)
    | (exfalso; omega)

theorem sameP_ok (a b : List Pt) (o1 o2 : Own) (n1 n2 : Bool) (ha : a.length ≤ 1000) (hb : b.length ≤ 1000) (σ : AS) :
    ACalls Try.prog 54 [.lst 64 (a.map ptV) o1 n1, .lst 64 (b.map ptV) o2 n2] σ (Gives (.sc (.bool (decide (rgs a = rgs b)))) σ) No := by
  have heq := fun σ x y => eqr_ok σ x y
  suffices hE : ACalls Try.prog 81 [.lst 64 (a.map ptV) o1 n1, .lst 64 (b.map ptV) o2 n2, fnV 82] σ (Gives (.sc (.bool (decide (rgs a = rgs b)))) σ) No by
    simp only [fnV] at hE
    refine ACalls.of_body Try.func54 rfl rfl (by simp [Try.ntmps54]) ?_
    repeat (first
      | (with_reducible apply AWp.seq)
      | (with_reducible apply AWp.block)
      | ((with_reducible apply AWp.fork); simp -implicitDefEqProofs)
      | ((with_reducible apply AWp.region); simp -implicitDefEqProofs)
      | (with_reducible refine And.intro (by first | omega | assumption | decide) ?_)
      | ((with_reducible apply aCall.id); first
          | ((apply aCall.gives (hE)); simp -implicitDefEqProofs))
      | ((with_reducible apply AWp.ret); try simp -implicitDefEqProofs)
      | ((with_reducible apply AWp.skip); try simp -implicitDefEqProofs)
      | ((with_reducible apply AWp.exit); try simp -implicitDefEqProofs))
  simp only [fnV, ptV] at heq ⊢
  refine ACalls.of_body Try.func81 rfl rfl (by simp [Try.ntmps81]) ?_
  by_cases hlen : a.length = b.length
  · repeat (first
      | (with_reducible apply AWp.seq)
      | (with_reducible apply AWp.block)
      | ((with_reducible apply AWp.fork); simp -implicitDefEqProofs [hlen, ci_lt, ci_le])
      | ((with_reducible apply AWp.region); simp -implicitDefEqProofs [hlen, ci_lt, ci_le])
      | (with_reducible refine And.intro (by first | omega | assumption | decide) ?_)
      | ((with_reducible show condK _ _ _); simp -implicitDefEqProofs [hlen, ci_lt, ci_le])
      | ((with_reducible show guardK _ _ _ _ _ _ _ _ _); simp -implicitDefEqProofs [hlen, ci_lt, ci_le])
      | ((with_reducible apply AWp.ret); try simp -implicitDefEqProofs [hlen, ci_lt, ci_le])
      | ((with_reducible apply AWp.skip); try simp -implicitDefEqProofs [hlen, ci_lt, ci_le])
      | ((with_reducible apply AWp.exit); try simp -implicitDefEqProofs [hlen, ci_lt, ci_le]))
    refine AWp.loopA (α := (Nat)) (0) (fun i => a.length - i) (fun i => i ≤ a.length ∧ (rgs a = rgs b ↔ rgs (a.drop i) = rgs (b.drop i))) [(1, ?_), (2, ?_), (15, ?_), (16, ?_)] (fun i => [(17, .sc (.int .i64 i))]) (fun i => σ) ?_ ?_ ?_ ?_
    rotate_left 4
    · (try dsimp only); (simp only [List.cons_append, List.nil_append]; repeat (first | exact FrWk.nil | refine FrWk.cons (by first | (simp -implicitDefEqProofs [ci_lt, ci_le]; done) | exact Wk.of (by (try simp -implicitDefEqProofs [ci_lt, ci_le]) <;> rfl)) ?_))
    · (try dsimp only); (first | exact AS.le_refl _ | assumption | (repeat (first | exact AS.le_refl _ | assumption | refine le_new (by simp [*]) ?_)))
    · (try dsimp only) <;> first | exact trivial | exact ⟨by omega, rfl⟩ | omega | (simp; done) | exact ⟨by omega, by simp⟩ | exact ⟨by omega, by simp, rfl⟩
    intro i hx_
    try dsimp only at hx_ ⊢
    obtain ⟨hi, hX⟩ := hx_
    simp only [List.cons_append, List.nil_append]
    by_cases hlt : i < a.length
    · have wi_i : IntKind.i64.wrap ((i : Int) + 1) = ((i + 1 : Nat) : Int) := ci_wi (by omega)
      have hlt2 : i < b.length := by omega
      rw [List.drop_eq_getElem_cons hlt, List.drop_eq_getElem_cons hlt2] at hX
      generalize hx : a[i] = x at *
      generalize hy : b[i] = y at *
      have hq := fun σ => heq σ x y
      have hcons : ∀ (x : Pt) (l : List Pt), rgs (x :: l) = (x.k, x.p) :: rgs l := fun _ _ => rfl
      rw [hcons, hcons, List.cons.injEq, Prod.mk.injEq] at hX
      have hlt3 : i < b.length := by omega
      by_cases hc : x.k = y.k ∧ x.p = y.p
      · simp [hc] at hq
        repeat (first
          | (with_reducible apply AWp.seq)
          | (with_reducible apply AWp.block)
          | ((with_reducible apply AWp.fork); simp -implicitDefEqProofs [← hlen, hlt, hlt2, hx, hy, ptV, hc, ci_lt, ci_le, wi_i])
          | ((with_reducible apply AWp.region); simp -implicitDefEqProofs [← hlen, hlt, hlt2, hx, hy, ptV, hc, ci_lt, ci_le, wi_i])
          | (with_reducible refine And.intro (by first | omega | assumption | decide) ?_)
          | ((with_reducible show condK _ _ _); simp -implicitDefEqProofs [← hlen, hlt, hlt2, hx, hy, ptV, hc, ci_lt, ci_le, wi_i])
          | ((with_reducible show guardK _ _ _ _ _ _ _ _ _); simp -implicitDefEqProofs [← hlen, hlt, hlt2, hx, hy, ptV, hc, ci_lt, ci_le, wi_i])
          | ((with_reducible apply AWp.ret); try simp -implicitDefEqProofs [← hlen, hlt, hlt2, hx, hy, ptV, hc, ci_lt, ci_le, wi_i])
          | ((with_reducible apply AWp.skip); try simp -implicitDefEqProofs [← hlen, hlt, hlt2, hx, hy, ptV, hc, ci_lt, ci_le, wi_i])
          | ((with_reducible apply AWp.exit); try simp -implicitDefEqProofs [← hlen, hlt, hlt2, hx, hy, ptV, hc, ci_lt, ci_le, wi_i]))
        intro id h_id
        repeat (first
          | (with_reducible apply AWp.seq)
          | (with_reducible apply AWp.block)
          | ((with_reducible apply AWp.fork); simp -implicitDefEqProofs [← hlen, hlt, hlt2, hx, hy, ptV, hc, ci_lt, ci_le, wi_i])
          | ((with_reducible apply AWp.region); simp -implicitDefEqProofs [← hlen, hlt, hlt2, hx, hy, ptV, hc, ci_lt, ci_le, wi_i])
          | (with_reducible refine And.intro (by first | omega | assumption | decide) ?_)
          | ((with_reducible show condK _ _ _); simp -implicitDefEqProofs [← hlen, hlt, hlt2, hx, hy, ptV, hc, ci_lt, ci_le, wi_i])
          | ((with_reducible show guardK _ _ _ _ _ _ _ _ _); simp -implicitDefEqProofs [← hlen, hlt, hlt2, hx, hy, ptV, hc, ci_lt, ci_le, wi_i])
          | ((with_reducible apply AWp.ret); try simp -implicitDefEqProofs [← hlen, hlt, hlt2, hx, hy, ptV, hc, ci_lt, ci_le, wi_i])
          | ((with_reducible apply AWp.skip); try simp -implicitDefEqProofs [← hlen, hlt, hlt2, hx, hy, ptV, hc, ci_lt, ci_le, wi_i])
          | ((with_reducible apply AWp.exit); try simp -implicitDefEqProofs [← hlen, hlt, hlt2, hx, hy, ptV, hc, ci_lt, ci_le, wi_i]))
        intro id2 n_id2_id h_id2
        have n_id_id2 : ¬ id = id2 := fun e => n_id2_id e.symm
        repeat (first
          | (with_reducible apply AWp.seq)
          | (with_reducible apply AWp.block)
          | ((with_reducible apply AWp.fork); simp -implicitDefEqProofs [hc, ci_lt, ci_le, wi_i, n_id2_id, n_id_id2])
          | ((with_reducible apply AWp.region); simp -implicitDefEqProofs [hc, ci_lt, ci_le, wi_i, n_id2_id, n_id_id2])
          | (with_reducible refine And.intro (by first | omega | assumption | decide) ?_)
          | ((with_reducible show condK _ _ _); simp -implicitDefEqProofs [hc, ci_lt, ci_le, wi_i, n_id2_id, n_id_id2])
          | ((with_reducible show guardK _ _ _ _ _ _ _ _ _); simp -implicitDefEqProofs [hc, ci_lt, ci_le, wi_i, n_id2_id, n_id_id2])
          | ((with_reducible apply aCall.id); first
              | ((apply aCall.gives (hq _)); simp -implicitDefEqProofs [hc, ci_lt, ci_le, wi_i, n_id2_id, n_id_id2]))
          | ((with_reducible apply AWp.ret); try simp -implicitDefEqProofs [hc, ci_lt, ci_le, wi_i, n_id2_id, n_id_id2])
          | ((with_reducible apply AWp.skip); try simp -implicitDefEqProofs [hc, ci_lt, ci_le, wi_i, n_id2_id, n_id_id2])
          | ((with_reducible apply AWp.exit); try simp -implicitDefEqProofs [hc, ci_lt, ci_le, wi_i, n_id2_id, n_id_id2]))
        refine stepA.mk (i + 1) (by (try dsimp only); omega) (by (try dsimp only); (simp only [List.cons_append, List.nil_append]; repeat (first | exact FrWk.nil | refine FrWk.cons (by first | (simp -implicitDefEqProofs [ci_lt, ci_le, wi_i, n_id2_id, n_id_id2]; done) | exact Wk.of (by (try simp -implicitDefEqProofs [ci_lt, ci_le, wi_i, n_id2_id, n_id_id2]) <;> rfl)) ?_))) (by (try dsimp only); (refine le_new ?_ (le_new h_id (AS.le_refl _)); simp [h_id2, n_id2_id])) ?_
        try dsimp only
        exact ⟨by omega, hX.trans ⟨fun h => h.2, fun h => ⟨hc, h⟩⟩⟩
      · have hcf : (decide (x.k = y.k) && decide (x.p = y.p)) = false := by simp; intro h1 h2; exact hc ⟨h1, h2⟩
        rw [hcf] at hq
        have hR : decide (rgs a = rgs b) = false := by
          simp only [decide_eq_false_iff_not]
          intro h; exact hc (hX.1 h).1
        rw [hR]
        repeat (first
          | (with_reducible apply AWp.seq)
          | (with_reducible apply AWp.block)
          | ((with_reducible apply AWp.fork); simp -implicitDefEqProofs [← hlen, hlt, hlt2, hx, hy, ptV, ci_lt, ci_le, wi_i])
          | ((with_reducible apply AWp.region); simp -implicitDefEqProofs [← hlen, hlt, hlt2, hx, hy, ptV, ci_lt, ci_le, wi_i])
          | (with_reducible refine And.intro (by first | omega | assumption | decide) ?_)
          | ((with_reducible show condK _ _ _); simp -implicitDefEqProofs [← hlen, hlt, hlt2, hx, hy, ptV, ci_lt, ci_le, wi_i])
          | ((with_reducible show guardK _ _ _ _ _ _ _ _ _); simp -implicitDefEqProofs [← hlen, hlt, hlt2, hx, hy, ptV, ci_lt, ci_le, wi_i])
          | ((with_reducible apply AWp.ret); try simp -implicitDefEqProofs [← hlen, hlt, hlt2, hx, hy, ptV, ci_lt, ci_le, wi_i])
          | ((with_reducible apply AWp.skip); try simp -implicitDefEqProofs [← hlen, hlt, hlt2, hx, hy, ptV, ci_lt, ci_le, wi_i])
          | ((with_reducible apply AWp.exit); try simp -implicitDefEqProofs [← hlen, hlt, hlt2, hx, hy, ptV, ci_lt, ci_le, wi_i]))
        intro id h_id
        repeat (first
          | (with_reducible apply AWp.seq)
          | (with_reducible apply AWp.block)
          | ((with_reducible apply AWp.fork); simp -implicitDefEqProofs [← hlen, hlt, hlt2, hx, hy, ptV, ci_lt, ci_le, wi_i])
          | ((with_reducible apply AWp.region); simp -implicitDefEqProofs [← hlen, hlt, hlt2, hx, hy, ptV, ci_lt, ci_le, wi_i])
          | (with_reducible refine And.intro (by first | omega | assumption | decide) ?_)
          | ((with_reducible show condK _ _ _); simp -implicitDefEqProofs [← hlen, hlt, hlt2, hx, hy, ptV, ci_lt, ci_le, wi_i])
          | ((with_reducible show guardK _ _ _ _ _ _ _ _ _); simp -implicitDefEqProofs [← hlen, hlt, hlt2, hx, hy, ptV, ci_lt, ci_le, wi_i])
          | ((with_reducible apply AWp.ret); try simp -implicitDefEqProofs [← hlen, hlt, hlt2, hx, hy, ptV, ci_lt, ci_le, wi_i])
          | ((with_reducible apply AWp.skip); try simp -implicitDefEqProofs [← hlen, hlt, hlt2, hx, hy, ptV, ci_lt, ci_le, wi_i])
          | ((with_reducible apply AWp.exit); try simp -implicitDefEqProofs [← hlen, hlt, hlt2, hx, hy, ptV, ci_lt, ci_le, wi_i]))
        intro id2 n_id2_id h_id2
        have n_id_id2 : ¬ id = id2 := fun e => n_id2_id e.symm
        repeat (first
          | (with_reducible apply AWp.seq)
          | (with_reducible apply AWp.block)
          | ((with_reducible apply AWp.fork); simp -implicitDefEqProofs [ci_lt, ci_le, wi_i, n_id2_id, n_id_id2])
          | ((with_reducible apply AWp.region); simp -implicitDefEqProofs [ci_lt, ci_le, wi_i, n_id2_id, n_id_id2])
          | (with_reducible refine And.intro (by first | omega | assumption | decide) ?_)
          | ((with_reducible show condK _ _ _); simp -implicitDefEqProofs [ci_lt, ci_le, wi_i, n_id2_id, n_id_id2])
          | ((with_reducible show guardK _ _ _ _ _ _ _ _ _); simp -implicitDefEqProofs [ci_lt, ci_le, wi_i, n_id2_id, n_id_id2])
          | ((with_reducible apply aCall.id); first
              | ((apply aCall.gives (hq _)); simp -implicitDefEqProofs [ci_lt, ci_le, wi_i, n_id2_id, n_id_id2]))
          | ((with_reducible apply AWp.ret); try simp -implicitDefEqProofs [ci_lt, ci_le, wi_i, n_id2_id, n_id_id2])
          | ((with_reducible apply AWp.skip); try simp -implicitDefEqProofs [ci_lt, ci_le, wi_i, n_id2_id, n_id_id2])
          | ((with_reducible apply AWp.exit); try simp -implicitDefEqProofs [ci_lt, ci_le, wi_i, n_id2_id, n_id_id2]))
        all_goals (repeat' (with_reducible apply And.intro))
        all_goals first
          | exact AS.le_refl _
          | ((repeat (first | exact AS.le_refl _ | assumption | refine le_new (by simp [*]) ?_)); done)
          | (refine wk_eq ?_; simp_all [skipV]; done)
          | (refine wk_b ?_; rw [Bool.eq_iff_iff]; simp [*]; omega)
          | (refine wk_eq ?_; simp [*]; omega)
          | (refine wk_eq ?_; split <;> simp_all [skipV]; done)
          | (exfalso; omega)
    · rw [List.drop_eq_nil_of_le (by omega), List.drop_eq_nil_of_le (by omega)] at hX
      have hR : decide (rgs a = rgs b) = true := by simp only [decide_eq_true_eq]; exact hX.2 rfl
      rw [hR]
      repeat (first
        | (with_reducible apply AWp.seq)
        | (with_reducible apply AWp.block)
        | ((with_reducible apply AWp.fork); simp -implicitDefEqProofs [← hlen, hlt, ci_lt, ci_le])
        | ((with_reducible apply AWp.region); simp -implicitDefEqProofs [← hlen, hlt, ci_lt, ci_le])
        | (with_reducible refine And.intro (by first | omega | assumption | decide) ?_)
        | ((with_reducible show condK _ _ _); simp -implicitDefEqProofs [← hlen, hlt, ci_lt, ci_le])
        | ((with_reducible show guardK _ _ _ _ _ _ _ _ _); simp -implicitDefEqProofs [← hlen, hlt, ci_lt, ci_le])
        | ((with_reducible apply AWp.ret); try simp -implicitDefEqProofs [← hlen, hlt, ci_lt, ci_le])
        | ((with_reducible apply AWp.skip); try simp -implicitDefEqProofs [← hlen, hlt, ci_lt, ci_le])
        | ((with_reducible apply AWp.exit); try simp -implicitDefEqProofs [← hlen, hlt, ci_lt, ci_le]))
  · have hR : decide (rgs a = rgs b) = false := by
      simp; intro h; apply hlen; have := congrArg List.length h; simpa [rgs] using this
    rw [hR]
    repeat (first
      | (with_reducible apply AWp.seq)
      | (with_reducible apply AWp.block)
      | ((with_reducible apply AWp.fork); simp -implicitDefEqProofs [hlen, ci_lt, ci_le])
      | ((with_reducible apply AWp.region); simp -implicitDefEqProofs [hlen, ci_lt, ci_le])
      | (with_reducible refine And.intro (by first | omega | assumption | decide) ?_)
      | ((with_reducible show condK _ _ _); simp -implicitDefEqProofs [hlen, ci_lt, ci_le])
      | ((with_reducible show guardK _ _ _ _ _ _ _ _ _); simp -implicitDefEqProofs [hlen, ci_lt, ci_le])
      | ((with_reducible apply AWp.ret); try simp -implicitDefEqProofs [hlen, ci_lt, ci_le])
      | ((with_reducible apply AWp.skip); try simp -implicitDefEqProofs [hlen, ci_lt, ci_le])
      | ((with_reducible apply AWp.exit); try simp -implicitDefEqProofs [hlen, ci_lt, ci_le]))

def entS (x : Int) : List Pt → Nat
  | [] => 0
  | y :: r => if y.p = 1 ∧ y.s.f = x then entS x r + 1 else 0
theorem entS_le (x : Int) : ∀ l : List Pt, entS x l ≤ l.length := by
  intro l
  induction l with
  | nil => simp [entS]
  | cons y r ih => rw [entS]; split <;> simp <;> omega

theorem entered_ok (l : List Pt) (o : Own) (nl : Bool) (x : Int) (hl : l.length ≤ 1000) (σ : AS) :
    ACalls Try.prog 53 [.lst 64 (l.map ptV) o nl, .sc (.int .i64 x)] σ (Gives (.sc (.int .i64 (entS x l))) σ) No := by
  refine ACalls.of_body Try.func53 rfl rfl (by simp [Try.ntmps53]) ?_
  repeat (first
    | (with_reducible apply AWp.seq)
    | (with_reducible apply AWp.block)
    | ((with_reducible apply AWp.fork); simp -implicitDefEqProofs [ci_lt, ci_le])
    | ((with_reducible apply AWp.region); simp -implicitDefEqProofs [ci_lt, ci_le])
    | (with_reducible refine And.intro (by first | omega | assumption | decide) ?_)
    | ((with_reducible show condK _ _ _); simp -implicitDefEqProofs [ci_lt, ci_le])
    | ((with_reducible show guardK _ _ _ _ _ _ _ _ _); simp -implicitDefEqProofs [ci_lt, ci_le])
    | ((with_reducible apply AWp.ret); try simp -implicitDefEqProofs [ci_lt, ci_le])
    | ((with_reducible apply AWp.skip); try simp -implicitDefEqProofs [ci_lt, ci_le])
    | ((with_reducible apply AWp.exit); try simp -implicitDefEqProofs [ci_lt, ci_le]))
  refine AWp.loopA (α := (Nat)) (0) (fun i => l.length - i) (fun i => i ≤ l.length ∧ entS x l = i + entS x (l.drop i)) [(0, ?_), (1, ?_), (4, ?_)] (fun i => [(5, .sc (.int .i64 i))]) (fun i => σ) ?_ ?_ ?_ ?_
  rotate_left 3
  · (try dsimp only); (simp only [List.cons_append, List.nil_append]; repeat (first | exact FrWk.nil | refine FrWk.cons (by first | (simp -implicitDefEqProofs [ci_lt, ci_le]; done) | exact Wk.of (by (try simp -implicitDefEqProofs [ci_lt, ci_le]) <;> rfl)) ?_))
  · (try dsimp only); (first | exact AS.le_refl _ | assumption | (repeat (first | exact AS.le_refl _ | assumption | refine le_new (by simp [*]) ?_)))
  · exact ⟨by omega, by simp⟩
  intro i hx_
  try dsimp only at hx_ ⊢
  obtain ⟨hi, hX⟩ := hx_
  simp only [List.cons_append, List.nil_append]
  by_cases hlt : i < l.length
  · have wi_i : IntKind.i64.wrap ((i : Int) + 1) = ((i + 1 : Nat) : Int) := ci_wi (by omega)
    rw [List.drop_eq_getElem_cons hlt] at hX
    generalize hx : l[i] = y at *
    simp only [entS] at hX
    by_cases h1 : y.p = 1
    · by_cases h2 : y.s.f = x
      · rw [if_pos ⟨h1, h2⟩] at hX
        repeat (first
          | (with_reducible apply AWp.seq)
          | (with_reducible apply AWp.block)
          | ((with_reducible apply AWp.fork); simp -implicitDefEqProofs [hlt, hx, ptV, h1, h2, ci_lt, ci_le, wi_i])
          | ((with_reducible apply AWp.region); simp -implicitDefEqProofs [hlt, hx, ptV, h1, h2, ci_lt, ci_le, wi_i])
          | (with_reducible refine And.intro (by first | omega | assumption | decide) ?_)
          | ((with_reducible show condK _ _ _); simp -implicitDefEqProofs [hlt, hx, ptV, h1, h2, ci_lt, ci_le, wi_i])
          | ((with_reducible show guardK _ _ _ _ _ _ _ _ _); simp -implicitDefEqProofs [hlt, hx, ptV, h1, h2, ci_lt, ci_le, wi_i])
          | ((with_reducible apply AWp.ret); try simp -implicitDefEqProofs [hlt, hx, ptV, h1, h2, ci_lt, ci_le, wi_i])
          | ((with_reducible apply AWp.skip); try simp -implicitDefEqProofs [hlt, hx, ptV, h1, h2, ci_lt, ci_le, wi_i])
          | ((with_reducible apply AWp.exit); try simp -implicitDefEqProofs [hlt, hx, ptV, h1, h2, ci_lt, ci_le, wi_i]))
        refine stepA.mk (i + 1) (by (try dsimp only); omega) (by (try dsimp only); (simp only [List.cons_append, List.nil_append]; repeat (first | exact FrWk.nil | refine FrWk.cons (by first | (simp -implicitDefEqProofs [ci_lt, ci_le, wi_i]; done) | exact Wk.of (by (try simp -implicitDefEqProofs [ci_lt, ci_le, wi_i]) <;> rfl)) ?_))) (by (try dsimp only); (first | exact AS.le_refl _ | assumption | (repeat (first | exact AS.le_refl _ | assumption | refine le_new (by simp [*]) ?_)))) ?_
        try dsimp only
        exact ⟨by omega, by omega⟩
      · rw [if_neg (fun h => h2 h.2)] at hX
        rw [hX]
        repeat (first
          | (with_reducible apply AWp.seq)
          | (with_reducible apply AWp.block)
          | ((with_reducible apply AWp.fork); simp -implicitDefEqProofs [hlt, hx, ptV, h1, h2, ci_lt, ci_le, wi_i])
          | ((with_reducible apply AWp.region); simp -implicitDefEqProofs [hlt, hx, ptV, h1, h2, ci_lt, ci_le, wi_i])
          | (with_reducible refine And.intro (by first | omega | assumption | decide) ?_)
          | ((with_reducible show condK _ _ _); simp -implicitDefEqProofs [hlt, hx, ptV, h1, h2, ci_lt, ci_le, wi_i])
          | ((with_reducible show guardK _ _ _ _ _ _ _ _ _); simp -implicitDefEqProofs [hlt, hx, ptV, h1, h2, ci_lt, ci_le, wi_i])
          | ((with_reducible apply AWp.ret); try simp -implicitDefEqProofs [hlt, hx, ptV, h1, h2, ci_lt, ci_le, wi_i])
          | ((with_reducible apply AWp.skip); try simp -implicitDefEqProofs [hlt, hx, ptV, h1, h2, ci_lt, ci_le, wi_i])
          | ((with_reducible apply AWp.exit); try simp -implicitDefEqProofs [hlt, hx, ptV, h1, h2, ci_lt, ci_le, wi_i]))
    · rw [if_neg (fun h => h1 h.1)] at hX
      rw [hX]
      repeat (first
        | (with_reducible apply AWp.seq)
        | (with_reducible apply AWp.block)
        | ((with_reducible apply AWp.fork); simp -implicitDefEqProofs [hlt, hx, ptV, h1, ci_lt, ci_le, wi_i])
        | ((with_reducible apply AWp.region); simp -implicitDefEqProofs [hlt, hx, ptV, h1, ci_lt, ci_le, wi_i])
        | (with_reducible refine And.intro (by first | omega | assumption | decide) ?_)
        | ((with_reducible show condK _ _ _); simp -implicitDefEqProofs [hlt, hx, ptV, h1, ci_lt, ci_le, wi_i])
        | ((with_reducible show guardK _ _ _ _ _ _ _ _ _); simp -implicitDefEqProofs [hlt, hx, ptV, h1, ci_lt, ci_le, wi_i])
        | ((with_reducible apply AWp.ret); try simp -implicitDefEqProofs [hlt, hx, ptV, h1, ci_lt, ci_le, wi_i])
        | ((with_reducible apply AWp.skip); try simp -implicitDefEqProofs [hlt, hx, ptV, h1, ci_lt, ci_le, wi_i])
        | ((with_reducible apply AWp.exit); try simp -implicitDefEqProofs [hlt, hx, ptV, h1, ci_lt, ci_le, wi_i]))
  · rw [List.drop_eq_nil_of_le (by omega)] at hX
    simp only [entS, Nat.add_zero] at hX
    rw [hX]
    repeat (first
      | (with_reducible apply AWp.seq)
      | (with_reducible apply AWp.block)
      | ((with_reducible apply AWp.fork); simp -implicitDefEqProofs [hlt, ci_lt, ci_le])
      | ((with_reducible apply AWp.region); simp -implicitDefEqProofs [hlt, ci_lt, ci_le])
      | (with_reducible refine And.intro (by first | omega | assumption | decide) ?_)
      | ((with_reducible show condK _ _ _); simp -implicitDefEqProofs [hlt, ci_lt, ci_le])
      | ((with_reducible show guardK _ _ _ _ _ _ _ _ _); simp -implicitDefEqProofs [hlt, ci_lt, ci_le])
      | ((with_reducible apply AWp.ret); try simp -implicitDefEqProofs [hlt, ci_lt, ci_le])
      | ((with_reducible apply AWp.skip); try simp -implicitDefEqProofs [hlt, ci_lt, ci_le])
      | ((with_reducible apply AWp.exit); try simp -implicitDefEqProofs [hlt, ci_lt, ci_le]))

/-- Is a chain, behind some of what is entered, another one? -/
def hitB (b : List Pt) (x : Int) (a : List Pt) : Bool := (List.range (entS x b + 1)).any fun k => decide (rgs (b.drop k) = rgs a)
theorem hitB_yes {b a : List Pt} {x : Int} {k : Nat} (hk : k ≤ entS x b) (h : rgs (b.drop k) = rgs a) : hitB b x a = true := by
  rw [hitB, List.any_eq_true]; exact ⟨k, by simp; omega, by simpa using h⟩
theorem hitB_no {b a : List Pt} {x : Int} (h : ∀ k, k ≤ entS x b → ¬ rgs (b.drop k) = rgs a) : hitB b x a = false := by
  rw [hitB, List.any_eq_false]; intro k hk; simp at hk; simpa using h k (by omega)

theorem passW_ok (l : List Cl) (o : Own) (nl : Bool) (x y : Int) (hl : l.length ≤ 6) (σ : AS) :
    ACalls Try.prog 25 [clsV l o nl, .sc (.int .i64 x), .sc (.int .i64 y)] σ (Gives (.sc (.bool (hitB (chainS l y) y (chainS l x)))) σ) No := by
  have hc := fun σ => chain_ok l o nl x hl σ
  have hc2 := fun σ => chain_ok l o nl y hl σ
  have hla := chainS_len l x
  have hlb := chainS_len l y
  generalize chainS l x = a at *
  generalize chainS l y = b at *
  have he := fun o nl σ => entered_ok b o nl y (by omega) σ
  have hle := entS_le y b
  simp only [clsV] at hc hc2 ⊢
  refine ACalls.of_body Try.func25 rfl rfl (by simp [Try.ntmps25]) ?_
  repeat (first
    | (with_reducible apply AWp.seq)
    | (with_reducible apply AWp.block)
    | ((with_reducible apply AWp.fork); simp -implicitDefEqProofs [ci_lt, ci_le])
    | ((with_reducible apply AWp.region); simp -implicitDefEqProofs [ci_lt, ci_le])
    | (with_reducible refine And.intro (by first | omega | assumption | decide) ?_)
    | ((with_reducible show condK _ _ _); simp -implicitDefEqProofs [ci_lt, ci_le])
    | ((with_reducible show guardK _ _ _ _ _ _ _ _ _); simp -implicitDefEqProofs [ci_lt, ci_le])
    | ((with_reducible apply AWp.ret); try simp -implicitDefEqProofs [ci_lt, ci_le])
    | ((with_reducible apply AWp.skip); try simp -implicitDefEqProofs [ci_lt, ci_le])
    | ((with_reducible apply AWp.exit); try simp -implicitDefEqProofs [ci_lt, ci_le]))
  refine aCall.of (hc _) ?_ (fun _ _ h => h.elim)
  rintro r σ' ⟨n1, hn1, rfl, rfl⟩
  simp -implicitDefEqProofs [ci_lt, ci_le]
  refine aCall.of (hc2 _) ?_ (fun _ _ h => h.elim)
  rintro r σ2 ⟨n2, hn2, rfl, rfl⟩
  simp -implicitDefEqProofs [ci_lt, ci_le]
  repeat (first
    | (with_reducible apply AWp.seq)
    | (with_reducible apply AWp.block)
    | ((with_reducible apply AWp.fork); simp -implicitDefEqProofs [ci_lt, ci_le])
    | ((with_reducible apply AWp.region); simp -implicitDefEqProofs [ci_lt, ci_le])
    | (with_reducible refine And.intro (by first | omega | assumption | decide) ?_)
    | ((with_reducible show condK _ _ _); simp -implicitDefEqProofs [ci_lt, ci_le])
    | ((with_reducible show guardK _ _ _ _ _ _ _ _ _); simp -implicitDefEqProofs [ci_lt, ci_le])
    | ((with_reducible apply AWp.ret); try simp -implicitDefEqProofs [ci_lt, ci_le])
    | ((with_reducible apply AWp.skip); try simp -implicitDefEqProofs [ci_lt, ci_le])
    | ((with_reducible apply AWp.exit); try simp -implicitDefEqProofs [ci_lt, ci_le]))
  refine AWp.loopA (α := (Nat)) (0) (fun k => entS y b + 1 - k) (fun k => k ≤ entS y b + 1 ∧ ∀ j, j < k → ¬ rgs (b.drop j) = rgs a) [(2, ?_), (7, ?_), (8, ?_)] (fun k => [(9, .sc (.int .i64 k))]) (fun k => σ2) ?_ ?_ ?_ ?_
  rotate_left 3
  · (try dsimp only); (simp only [List.cons_append, List.nil_append]; repeat (first | exact FrWk.nil | refine FrWk.cons (by first | (simp -implicitDefEqProofs [ci_lt, ci_le]; done) | exact Wk.of (by (try simp -implicitDefEqProofs [ci_lt, ci_le]) <;> rfl)) ?_))
  · (try dsimp only); (first | exact AS.le_refl _ | assumption | (repeat (first | exact AS.le_refl _ | assumption | refine le_new (by simp [*]) ?_)))
  · exact ⟨by omega, fun j hj => by omega⟩
  intro k hx_
  try dsimp only at hx_ ⊢
  obtain ⟨hk, hX⟩ := hx_
  simp only [List.cons_append, List.nil_append]
  by_cases hlt : k ≤ entS y b
  · have wi_k : IntKind.i64.wrap ((k : Int) + 1) = ((k + 1 : Nat) : Int) := ci_wi (by omega)
    have hs := fun o1 o2 n1 n2 σ => sameP_ok (b.drop k) a o1 o2 n1 n2 (by simp; omega) (by omega) σ
    have hkb : k ≤ b.length := by omega
    simp only [List.map_drop] at hs
    have htk : (b.map ptV).take b.length = b.map ptV := List.take_of_length_le (by simp)
    by_cases hq : rgs (b.drop k) = rgs a
    · rw [hitB_yes hlt hq]
      simp only [hq, decide_true] at hs
      repeat (first
        | (with_reducible apply AWp.seq)
        | (with_reducible apply AWp.block)
        | ((with_reducible apply AWp.fork); simp -implicitDefEqProofs [hlt, hkb, ci_lt, ci_le, wi_k, htk])
        | ((with_reducible apply AWp.region); simp -implicitDefEqProofs [hlt, hkb, ci_lt, ci_le, wi_k, htk])
        | (with_reducible refine And.intro (by first | omega | assumption | decide) ?_)
        | ((with_reducible show condK _ _ _); simp -implicitDefEqProofs [hlt, hkb, ci_lt, ci_le, wi_k, htk])
        | ((with_reducible show guardK _ _ _ _ _ _ _ _ _); simp -implicitDefEqProofs [hlt, hkb, ci_lt, ci_le, wi_k, htk])
        | ((with_reducible apply aCall.id); first
            | ((apply aCall.gives (he _ _ _)); simp -implicitDefEqProofs [hlt, hkb, ci_lt, ci_le, wi_k, htk])
            | ((apply aCall.gives (hs _ _ _ _ _)); simp -implicitDefEqProofs [hlt, hkb, ci_lt, ci_le, wi_k, htk]))
        | ((with_reducible apply AWp.ret); try simp -implicitDefEqProofs [hlt, hkb, ci_lt, ci_le, wi_k, htk])
        | ((with_reducible apply AWp.skip); try simp -implicitDefEqProofs [hlt, hkb, ci_lt, ci_le, wi_k, htk])
        | ((with_reducible apply AWp.exit); try simp -implicitDefEqProofs [hlt, hkb, ci_lt, ci_le, wi_k, htk]))
    · simp only [hq, decide_false] at hs
      repeat (first
        | (with_reducible apply AWp.seq)
        | (with_reducible apply AWp.block)
        | ((with_reducible apply AWp.fork); simp -implicitDefEqProofs [hlt, hkb, ci_lt, ci_le, wi_k, htk])
        | ((with_reducible apply AWp.region); simp -implicitDefEqProofs [hlt, hkb, ci_lt, ci_le, wi_k, htk])
        | (with_reducible refine And.intro (by first | omega | assumption | decide) ?_)
        | ((with_reducible show condK _ _ _); simp -implicitDefEqProofs [hlt, hkb, ci_lt, ci_le, wi_k, htk])
        | ((with_reducible show guardK _ _ _ _ _ _ _ _ _); simp -implicitDefEqProofs [hlt, hkb, ci_lt, ci_le, wi_k, htk])
        | ((with_reducible apply aCall.id); first
            | ((apply aCall.gives (he _ _ _)); simp -implicitDefEqProofs [hlt, hkb, ci_lt, ci_le, wi_k, htk])
            | ((apply aCall.gives (hs _ _ _ _ _)); simp -implicitDefEqProofs [hlt, hkb, ci_lt, ci_le, wi_k, htk]))
        | ((with_reducible apply AWp.ret); try simp -implicitDefEqProofs [hlt, hkb, ci_lt, ci_le, wi_k, htk])
        | ((with_reducible apply AWp.skip); try simp -implicitDefEqProofs [hlt, hkb, ci_lt, ci_le, wi_k, htk])
        | ((with_reducible apply AWp.exit); try simp -implicitDefEqProofs [hlt, hkb, ci_lt, ci_le, wi_k, htk]))
      refine stepA.mk (k + 1) (by (try dsimp only); omega) (by (try dsimp only); (simp only [List.cons_append, List.nil_append]; repeat (first | exact FrWk.nil | refine FrWk.cons (by first | (simp -implicitDefEqProofs [ci_lt, ci_le, wi_k, htk]; done) | exact Wk.of (by (try simp -implicitDefEqProofs [ci_lt, ci_le, wi_k, htk]) <;> rfl)) ?_))) (by (try dsimp only); (first | exact AS.le_refl _ | assumption | (repeat (first | exact AS.le_refl _ | assumption | refine le_new (by simp [*]) ?_)))) ?_
      try dsimp only
      refine ⟨by omega, fun j hj => ?_⟩
      by_cases e : j = k
      · rw [e]; exact hq
      · exact hX j (by omega)
  · rw [hitB_no (fun j hj => hX j (by omega))]
    repeat (first
      | (with_reducible apply AWp.seq)
      | (with_reducible apply AWp.block)
      | ((with_reducible apply AWp.fork); simp -implicitDefEqProofs [hlt, ci_lt, ci_le])
      | ((with_reducible apply AWp.region); simp -implicitDefEqProofs [hlt, ci_lt, ci_le])
      | (with_reducible refine And.intro (by first | omega | assumption | decide) ?_)
      | ((with_reducible show condK _ _ _); simp -implicitDefEqProofs [hlt, ci_lt, ci_le])
      | ((with_reducible show guardK _ _ _ _ _ _ _ _ _); simp -implicitDefEqProofs [hlt, ci_lt, ci_le])
      | ((with_reducible apply aCall.id); first
          | ((apply aCall.gives (he _ _ _)); simp -implicitDefEqProofs [hlt, ci_lt, ci_le]))
      | ((with_reducible apply AWp.ret); try simp -implicitDefEqProofs [hlt, ci_lt, ci_le])
      | ((with_reducible apply AWp.skip); try simp -implicitDefEqProofs [hlt, ci_lt, ci_le])
      | ((with_reducible apply AWp.exit); try simp -implicitDefEqProofs [hlt, ci_lt, ci_le]))

def stopB (l : List Cl) (y : Pt) : Bool := decide (y.p = 3) || (decide (y.p = 2) && (!decide ((l.map (·.k)).getD y.k.toNat 0 = 1) && !decide ((l.map (·.k)).getD y.k.toNat 0 = 2)))
def leaveS (l : List Cl) (b : List Pt) (x : Int) : List Pt → Bool
  | [] => hitB b x []
  | y :: r => hitB b x (y :: r) || (!stopB l y && leaveS l b x r)

/-- What stands in a chain is a clause's. -/
theorem mem_ptsAt {x : Int} {p : Pt} : ∀ {l : List Cl} {k : Nat}, p ∈ ptsAt x k l → ∃ (i : Nat) (c : Cl), l[i]? = some c ∧ p ∈ partsS ((k + i : Nat) : Int) c ∧ hasS p.s x = true := by
  intro l
  induction l with
  | nil => intro k h; simp [ptsAt] at h
  | cons c l ih =>
    intro k h
    simp only [ptsAt, List.mem_append, List.mem_filter] at h
    rcases h with ⟨h1, h2⟩ | h
    · exact ⟨0, c, rfl, by simpa using h1, h2⟩
    · obtain ⟨i, c', h1, h2, h3⟩ := ih h
      exact ⟨i + 1, c', by simpa using h1, by rw [show k + (i + 1) = k + 1 + i by omega]; exact h2, h3⟩
theorem mem_ins {cmp : Pt → Pt → Int} {x p : Pt} : ∀ {l : List Pt}, p ∈ insRev cmp x l ↔ p = x ∨ p ∈ l := by
  intro l
  induction l with
  | nil => simp [insRev]
  | cons y r ih =>
    rw [insRev]
    split
    · simp only [List.mem_cons, ih]
      constructor
      · rintro (h | h | h)
        · exact .inr (.inl h)
        · exact .inl h
        · exact .inr (.inr h)
      · rintro (h | h | h)
        · exact .inr (.inl h)
        · exact .inl h
        · exact .inr (.inr h)
    · simp
theorem mem_sort {cmp : Pt → Pt → Int} {p : Pt} {l : List Pt} : p ∈ sortS cmp l ↔ p ∈ l := by
  suffices h : ∀ (l acc : List Pt), p ∈ l.foldl (fun acc x => insRev cmp x acc) acc ↔ p ∈ acc ∨ p ∈ l by
    have := h l []
    simp only [sortS, sortRev, List.mem_reverse]
    simpa using this
  intro l
  induction l with
  | nil => intro acc; simp
  | cons x l ih => intro acc; rw [List.foldl_cons, ih, mem_ins]; simp [or_assoc, or_comm, or_left_comm]
theorem compT_sub (eq : Pt → Pt → Bool) : ∀ (r : List Pt) (q : Pt), (compT eq q r).Sublist r := by
  intro r
  induction r with
  | nil => intro q; simp [compT]
  | cons y r ih =>
    intro q
    rw [compT]
    split
    · exact (ih y).cons _
    · exact (ih y).cons_cons _
theorem compS_sub (eq : Pt → Pt → Bool) (l : List Pt) : (compS eq l).Sublist l := by
  cases l with
  | nil => simp [compS]
  | cons x r => exact (compT_sub eq r x).cons_cons _
theorem mem_chain {l : List Cl} {x : Int} {p : Pt} (h : p ∈ chainS l x) : ∃ (i : Nat) (c : Cl), l[i]? = some c ∧ p ∈ partsS (i : Int) c ∧ hasS p.s x = true := by
  have h1 := (compS_sub _ _).subset h
  rw [mem_sort] at h1
  obtain ⟨i, c, q1, q2, q3⟩ := mem_ptsAt h1
  exact ⟨i, c, q1, by simpa using q2, q3⟩
theorem parts_k {k : Int} {c : Cl} {p : Pt} (h : p ∈ partsS k c) : p.k = k ∧ (p.p = 1 ∨ p.p = 2 ∨ p.p = 3) := by
  unfold partsS at h
  split at h <;> simp at h
  · rcases h with rfl | rfl | rfl <;> simp
  · rcases h with rfl | rfl <;> simp

theorem leaveW_ok (l : List Cl) (o : Own) (nl : Bool) (x y : Int) (hl : l.length ≤ 6) (σ : AS) :
    ACalls Try.prog 27 [clsV l o nl, .sc (.int .i64 x), .sc (.int .i64 y)] σ (Gives (.sc (.bool (leaveS l (chainS l y) y (chainS l x)))) σ) No := by
  have hc := fun σ => chain_ok l o nl x hl σ
  have hc2 := fun σ => chain_ok l o nl y hl σ
  have hla := chainS_len l x
  have hlb := chainS_len l y
  have hkk : ∀ p ∈ chainS l x, ∃ i : Nat, p.k = i ∧ i < l.length := fun p hp => by
    obtain ⟨i, c, h1, h2, _⟩ := mem_chain hp
    exact ⟨i, (parts_k h2).1, (List.getElem?_eq_some_iff.1 h1).1⟩
  generalize chainS l x = a at *
  generalize chainS l y = b at *
  have he := fun o nl σ => entered_ok b o nl y (by omega) σ
  have hle := entS_le y b
  simp only [clsV] at hc hc2 ⊢
  refine ACalls.of_body Try.func27 rfl rfl (by simp [Try.ntmps27]) ?_
  repeat (first
    | (with_reducible apply AWp.seq)
    | (with_reducible apply AWp.block)
    | ((with_reducible apply AWp.fork); simp -implicitDefEqProofs [ci_lt, ci_le])
    | ((with_reducible apply AWp.region); simp -implicitDefEqProofs [ci_lt, ci_le])
    | (with_reducible refine And.intro (by first | omega | assumption | decide) ?_)
    | ((with_reducible show condK _ _ _); simp -implicitDefEqProofs [ci_lt, ci_le])
    | ((with_reducible show guardK _ _ _ _ _ _ _ _ _); simp -implicitDefEqProofs [ci_lt, ci_le])
    | (((with_reducible apply AWp.drawS (id := 8) (t := (Sch.step 0 (Sch.step 1 (Sch.step 2 (Sch.step 3 (Sch.step 4 (Sch.step 5 (Sch.alt 6 Sch.done Sch.none))))))))); (exact mixed); kernel_rfl; kernel_rfl; (repeat (with_reducible first | apply PanQ.then | apply PanQ.block | apply PanQ.body | apply PanQ.no))); simp -implicitDefEqProofs [ci_lt, ci_le])
    | ((with_reducible apply AWp.ret); try simp -implicitDefEqProofs [ci_lt, ci_le])
    | ((with_reducible apply AWp.skip); try simp -implicitDefEqProofs [ci_lt, ci_le])
    | ((with_reducible apply AWp.exit); try simp -implicitDefEqProofs [ci_lt, ci_le]))
  refine aCall.of (hc _) ?_ (fun _ _ h => h.elim)
  rintro r σ' ⟨n1, hn1, rfl, rfl⟩
  simp -implicitDefEqProofs [ci_lt, ci_le]
  refine aCall.of (hc2 _) ?_ (fun _ _ h => h.elim)
  rintro r σ2 ⟨n2, hn2, rfl, rfl⟩
  simp -implicitDefEqProofs [ci_lt, ci_le]
  repeat (first
    | (with_reducible apply AWp.seq)
    | (with_reducible apply AWp.block)
    | ((with_reducible apply AWp.fork); simp -implicitDefEqProofs [ci_lt, ci_le])
    | ((with_reducible apply AWp.region); simp -implicitDefEqProofs [ci_lt, ci_le])
    | (with_reducible refine And.intro (by first | omega | assumption | decide) ?_)
    | ((with_reducible show condK _ _ _); simp -implicitDefEqProofs [ci_lt, ci_le])
    | ((with_reducible show guardK _ _ _ _ _ _ _ _ _); simp -implicitDefEqProofs [ci_lt, ci_le])
    | (((with_reducible apply AWp.drawS (id := 8) (t := (Sch.step 0 (Sch.step 1 (Sch.step 2 (Sch.step 3 (Sch.step 4 (Sch.step 5 (Sch.alt 6 Sch.done Sch.none))))))))); (exact mixed); kernel_rfl; kernel_rfl; (repeat (with_reducible first | apply PanQ.then | apply PanQ.block | apply PanQ.body | apply PanQ.no))); simp -implicitDefEqProofs [ci_lt, ci_le])
    | ((with_reducible apply AWp.ret); try simp -implicitDefEqProofs [ci_lt, ci_le])
    | ((with_reducible apply AWp.skip); try simp -implicitDefEqProofs [ci_lt, ci_le])
    | ((with_reducible apply AWp.exit); try simp -implicitDefEqProofs [ci_lt, ci_le]))
  have htb : (b.map ptV).take b.length = b.map ptV := List.take_of_length_le (by simp)
  have hta : (a.map ptV).take a.length = a.map ptV := List.take_of_length_le (by simp)
  refine AWp.loopA (α := (Nat)) (0) (fun i => a.length + 1 - i) (fun i => i ≤ a.length ∧ leaveS l b y a = leaveS l b y (a.drop i)) [(0, ?_), (2, ?_), (7, ?_), (8, ?_)] (fun i => [(9, .sc (.int .i64 i))]) (fun i => σ2) ?_ ?_ ?_ ?_
  rotate_left 4
  · (try dsimp only); (simp only [List.cons_append, List.nil_append]; repeat (first | exact FrWk.nil | refine FrWk.cons (by first | (simp -implicitDefEqProofs [ci_lt, ci_le, htb, hta]; done) | exact Wk.of (by (try simp -implicitDefEqProofs [ci_lt, ci_le, htb, hta]) <;> rfl)) ?_))
  · (try dsimp only); (first | exact AS.le_refl _ | assumption | (repeat (first | exact AS.le_refl _ | assumption | refine le_new (by simp [*]) ?_)))
  · exact ⟨by omega, by simp⟩
  intro i hx_
  try dsimp only at hx_ ⊢
  obtain ⟨hi, hL⟩ := hx_
  simp only [List.cons_append, List.nil_append]
  have wi_i : IntKind.i64.wrap ((i : Int) + 1) = ((i + 1 : Nat) : Int) := ci_wi (by omega)
  have hi' : ((i : Int) ≤ a.length) = True := by simp; omega
  repeat (first
    | (with_reducible apply AWp.seq)
    | (with_reducible apply AWp.block)
    | ((with_reducible apply AWp.fork); simp -implicitDefEqProofs [hi', ci_lt, ci_le, htb, hta, wi_i])
    | ((with_reducible apply AWp.region); simp -implicitDefEqProofs [hi', ci_lt, ci_le, htb, hta, wi_i])
    | (with_reducible refine And.intro (by first | omega | assumption | decide) ?_)
    | ((with_reducible show condK _ _ _); simp -implicitDefEqProofs [hi', ci_lt, ci_le, htb, hta, wi_i])
    | ((with_reducible show guardK _ _ _ _ _ _ _ _ _); simp -implicitDefEqProofs [hi', ci_lt, ci_le, htb, hta, wi_i])
    | (((with_reducible apply AWp.drawS (id := 8) (t := (Sch.step 0 (Sch.step 1 (Sch.step 2 (Sch.step 3 (Sch.step 4 (Sch.step 5 (Sch.alt 6 Sch.done Sch.none))))))))); (exact mixed); kernel_rfl; kernel_rfl; (repeat (with_reducible first | apply PanQ.then | apply PanQ.block | apply PanQ.body | apply PanQ.no))); simp -implicitDefEqProofs [hi', ci_lt, ci_le, htb, hta, wi_i])
    | ((with_reducible apply AWp.ret); try simp -implicitDefEqProofs [hi', ci_lt, ci_le, htb, hta, wi_i])
    | ((with_reducible apply AWp.skip); try simp -implicitDefEqProofs [hi', ci_lt, ci_le, htb, hta, wi_i])
    | ((with_reducible apply AWp.exit); try simp -implicitDefEqProofs [hi', ci_lt, ci_le, htb, hta, wi_i]))
  refine AWp.loopA (α := (Nat)) (0) (fun k => entS y b + 1 - k) (fun k => k ≤ entS y b + 1 ∧ ∀ j, j < k → ¬ rgs (b.drop j) = rgs (a.drop i)) [(0, ?_), (2, ?_), (7, ?_), (8, ?_), (9, ?_), (19, ?_), (20, ?_), (21, ?_), (22, ?_)] (fun k => [(10, .sc (.int .i64 k))]) (fun k => σ2) ?_ ?_ ?_ ?_
  rotate_left 9
  · (try dsimp only); (simp only [List.cons_append, List.nil_append]; repeat (first | exact FrWk.nil | refine FrWk.cons (by first | (simp -implicitDefEqProofs [ci_lt, ci_le, htb, hta, wi_i]; done) | exact Wk.of (by (try simp -implicitDefEqProofs [ci_lt, ci_le, htb, hta, wi_i]) <;> rfl)) ?_))
  · (try dsimp only); (first | exact AS.le_refl _ | assumption | (repeat (first | exact AS.le_refl _ | assumption | refine le_new (by simp [*]) ?_)))
  · exact ⟨by omega, fun j hj => by omega⟩
  intro k hx_
  try dsimp only at hx_ ⊢
  obtain ⟨hk, hX⟩ := hx_
  simp only [List.cons_append, List.nil_append]
  by_cases hlt : k ≤ entS y b
  · have wi_k : IntKind.i64.wrap ((k : Int) + 1) = ((k + 1 : Nat) : Int) := ci_wi (by omega)
    have hs := fun o1 o2 n1 n2 σ => sameP_ok (b.drop k) (a.drop i) o1 o2 n1 n2 (by simp; omega) (by simp; omega) σ
    have hkb : k ≤ b.length := by omega
    simp only [List.map_drop] at hs
    by_cases hq : rgs (b.drop k) = rgs (a.drop i)
    · have hh := hitB_yes (b := b) (a := a.drop i) hlt hq
      have hT : leaveS l b y a = true := by
        rw [hL]
        cases hd : a.drop i with
        | nil => rw [hd] at hh; simp [leaveS, hh]
        | cons z r => rw [hd] at hh; simp [leaveS, hh]
      rw [hT]
      simp only [hq, decide_true] at hs
      repeat (first
        | (with_reducible apply AWp.seq)
        | (with_reducible apply AWp.block)
        | ((with_reducible apply AWp.fork); simp -implicitDefEqProofs [hlt, hkb, hi, ci_lt, ci_le, htb, hta, wi_i, wi_k])
        | ((with_reducible apply AWp.region); simp -implicitDefEqProofs [hlt, hkb, hi, ci_lt, ci_le, htb, hta, wi_i, wi_k])
        | (with_reducible refine And.intro (by first | omega | assumption | decide) ?_)
        | ((with_reducible show condK _ _ _); simp -implicitDefEqProofs [hlt, hkb, hi, ci_lt, ci_le, htb, hta, wi_i, wi_k])
        | ((with_reducible show guardK _ _ _ _ _ _ _ _ _); simp -implicitDefEqProofs [hlt, hkb, hi, ci_lt, ci_le, htb, hta, wi_i, wi_k])
        | (((with_reducible apply AWp.drawS (id := 8) (t := (Sch.step 0 (Sch.step 1 (Sch.step 2 (Sch.step 3 (Sch.step 4 (Sch.step 5 (Sch.alt 6 Sch.done Sch.none))))))))); (exact mixed); kernel_rfl; kernel_rfl; (repeat (with_reducible first | apply PanQ.then | apply PanQ.block | apply PanQ.body | apply PanQ.no))); simp -implicitDefEqProofs [hlt, hkb, hi, ci_lt, ci_le, htb, hta, wi_i, wi_k])
        | ((with_reducible apply aCall.id); first
            | ((apply aCall.gives (he _ _ _)); simp -implicitDefEqProofs [hlt, hkb, hi, ci_lt, ci_le, htb, hta, wi_i, wi_k])
            | ((apply aCall.gives (hs _ _ _ _ _)); simp -implicitDefEqProofs [hlt, hkb, hi, ci_lt, ci_le, htb, hta, wi_i, wi_k]))
        | ((with_reducible apply AWp.ret); try simp -implicitDefEqProofs [hlt, hkb, hi, ci_lt, ci_le, htb, hta, wi_i, wi_k])
        | ((with_reducible apply AWp.skip); try simp -implicitDefEqProofs [hlt, hkb, hi, ci_lt, ci_le, htb, hta, wi_i, wi_k])
        | ((with_reducible apply AWp.exit); try simp -implicitDefEqProofs [hlt, hkb, hi, ci_lt, ci_le, htb, hta, wi_i, wi_k]))
    · simp only [hq, decide_false] at hs
      repeat (first
        | (with_reducible apply AWp.seq)
        | (with_reducible apply AWp.block)
        | ((with_reducible apply AWp.fork); simp -implicitDefEqProofs [hlt, hkb, hi, ci_lt, ci_le, htb, hta, wi_i, wi_k])
        | ((with_reducible apply AWp.region); simp -implicitDefEqProofs [hlt, hkb, hi, ci_lt, ci_le, htb, hta, wi_i, wi_k])
        | (with_reducible refine And.intro (by first | omega | assumption | decide) ?_)
        | ((with_reducible show condK _ _ _); simp -implicitDefEqProofs [hlt, hkb, hi, ci_lt, ci_le, htb, hta, wi_i, wi_k])
        | ((with_reducible show guardK _ _ _ _ _ _ _ _ _); simp -implicitDefEqProofs [hlt, hkb, hi, ci_lt, ci_le, htb, hta, wi_i, wi_k])
        | (((with_reducible apply AWp.drawS (id := 8) (t := (Sch.step 0 (Sch.step 1 (Sch.step 2 (Sch.step 3 (Sch.step 4 (Sch.step 5 (Sch.alt 6 Sch.done Sch.none))))))))); (exact mixed); kernel_rfl; kernel_rfl; (repeat (with_reducible first | apply PanQ.then | apply PanQ.block | apply PanQ.body | apply PanQ.no))); simp -implicitDefEqProofs [hlt, hkb, hi, ci_lt, ci_le, htb, hta, wi_i, wi_k])
        | ((with_reducible apply aCall.id); first
            | ((apply aCall.gives (he _ _ _)); simp -implicitDefEqProofs [hlt, hkb, hi, ci_lt, ci_le, htb, hta, wi_i, wi_k])
            | ((apply aCall.gives (hs _ _ _ _ _)); simp -implicitDefEqProofs [hlt, hkb, hi, ci_lt, ci_le, htb, hta, wi_i, wi_k]))
        | ((with_reducible apply AWp.ret); try simp -implicitDefEqProofs [hlt, hkb, hi, ci_lt, ci_le, htb, hta, wi_i, wi_k])
        | ((with_reducible apply AWp.skip); try simp -implicitDefEqProofs [hlt, hkb, hi, ci_lt, ci_le, htb, hta, wi_i, wi_k])
        | ((with_reducible apply AWp.exit); try simp -implicitDefEqProofs [hlt, hkb, hi, ci_lt, ci_le, htb, hta, wi_i, wi_k]))
      refine stepA.mk (k + 1) (by (try dsimp only); omega) (by (try dsimp only); (simp only [List.cons_append, List.nil_append]; repeat (first | exact FrWk.nil | refine FrWk.cons (by first | (simp -implicitDefEqProofs [ci_lt, ci_le, htb, hta, wi_i, wi_k]; done) | exact Wk.of (by (try simp -implicitDefEqProofs [ci_lt, ci_le, htb, hta, wi_i, wi_k]) <;> rfl)) ?_))) (by (try dsimp only); (first | exact AS.le_refl _ | assumption | (repeat (first | exact AS.le_refl _ | assumption | refine le_new (by simp [*]) ?_)))) ?_
      try dsimp only
      refine ⟨by omega, fun j hj => ?_⟩
      by_cases e : j = k
      · rw [e]; exact hq
      · exact hX j (by omega)
  · have hno := hitB_no (b := b) (a := a.drop i) (x := y) (fun j hj => hX j (by omega))
    by_cases hin : i = a.length
    · have hT : leaveS l b y a = false := by
        rw [hL, List.drop_eq_nil_of_le (by omega)]
        rw [List.drop_eq_nil_of_le (by omega)] at hno
        simp [leaveS, hno]
      rw [hT]
      repeat (first
        | (with_reducible apply AWp.seq)
        | (with_reducible apply AWp.block)
        | ((with_reducible apply AWp.fork); simp -implicitDefEqProofs [hlt, hin, ci_lt, ci_le, htb, hta, wi_i])
        | ((with_reducible apply AWp.region); simp -implicitDefEqProofs [hlt, hin, ci_lt, ci_le, htb, hta, wi_i])
        | (with_reducible refine And.intro (by first | omega | assumption | decide) ?_)
        | ((with_reducible show condK _ _ _); simp -implicitDefEqProofs [hlt, hin, ci_lt, ci_le, htb, hta, wi_i])
        | ((with_reducible show guardK _ _ _ _ _ _ _ _ _); simp -implicitDefEqProofs [hlt, hin, ci_lt, ci_le, htb, hta, wi_i])
        | (((with_reducible apply AWp.drawS (id := 8) (t := (Sch.step 0 (Sch.step 1 (Sch.step 2 (Sch.step 3 (Sch.step 4 (Sch.step 5 (Sch.alt 6 Sch.done Sch.none))))))))); (exact mixed); kernel_rfl; kernel_rfl; (repeat (with_reducible first | apply PanQ.then | apply PanQ.block | apply PanQ.body | apply PanQ.no))); simp -implicitDefEqProofs [hlt, hin, ci_lt, ci_le, htb, hta, wi_i])
        | ((with_reducible apply aCall.id); first
            | ((apply aCall.gives (he _ _ _)); simp -implicitDefEqProofs [hlt, hin, ci_lt, ci_le, htb, hta, wi_i]))
        | ((with_reducible apply AWp.ret); try simp -implicitDefEqProofs [hlt, hin, ci_lt, ci_le, htb, hta, wi_i])
        | ((with_reducible apply AWp.skip); try simp -implicitDefEqProofs [hlt, hin, ci_lt, ci_le, htb, hta, wi_i])
        | ((with_reducible apply AWp.exit); try simp -implicitDefEqProofs [hlt, hin, ci_lt, ci_le, htb, hta, wi_i]))
    · have hil : i < a.length := by omega
      have hin' : ((i : Int) = a.length) = False := by simp; omega
      obtain ⟨q, hq1, hq2⟩ := hkk a[i] (List.getElem_mem hil)
      rw [List.drop_eq_getElem_cons hil] at hL hno
      simp only [leaveS, hno, Bool.false_or] at hL
      generalize hz : a[i] = z at *
      have hkd : (l.map (·.k)).getD z.k.toNat 0 = (l[q]).k := by
        rw [hq1]; simp [List.getD_eq_getElem?_getD, hq2]
      have hst : stopB l z = (decide (z.p = 3) || (decide (z.p = 2) && (!decide ((l[q]).k = 1) && !decide ((l[q]).k = 2)))) := by rw [stopB, hkd]
      generalize hcq : l[q] = c at *
      cases hS : stopB l z with
      | true =>
        rw [hS] at hst hL
        have hst' := hst.symm
        simp at hL hst'
        rw [hL]
        repeat (first
          | (with_reducible apply AWp.seq)
          | (with_reducible apply AWp.block)
          | ((with_reducible apply AWp.fork); simp -implicitDefEqProofs [hlt, hin', hil, hz, ptV, hq1, hq2, hcq, clV_def, ci_lt, ci_le, htb, hta, wi_i])
          | ((with_reducible apply AWp.region); simp -implicitDefEqProofs [hlt, hin', hil, hz, ptV, hq1, hq2, hcq, clV_def, ci_lt, ci_le, htb, hta, wi_i])
          | (with_reducible refine And.intro (by first | omega | assumption | decide) ?_)
          | ((with_reducible show condK _ _ _); simp -implicitDefEqProofs [hlt, hin', hil, hz, ptV, hq1, hq2, hcq, clV_def, ci_lt, ci_le, htb, hta, wi_i])
          | ((with_reducible show guardK _ _ _ _ _ _ _ _ _); simp -implicitDefEqProofs [hlt, hin', hil, hz, ptV, hq1, hq2, hcq, clV_def, ci_lt, ci_le, htb, hta, wi_i])
          | (((with_reducible apply AWp.drawS (id := 8) (t := (Sch.step 0 (Sch.step 1 (Sch.step 2 (Sch.step 3 (Sch.step 4 (Sch.step 5 (Sch.alt 6 Sch.done Sch.none))))))))); (exact mixed); kernel_rfl; kernel_rfl; (repeat (with_reducible first | apply PanQ.then | apply PanQ.block | apply PanQ.body | apply PanQ.no))); simp -implicitDefEqProofs [hlt, hin', hil, hz, ptV, hq1, hq2, hcq, clV_def, ci_lt, ci_le, htb, hta, wi_i])
          | ((with_reducible apply aCall.id); first
              | ((apply aCall.gives (he _ _ _)); simp -implicitDefEqProofs [hlt, hin', hil, hz, ptV, hq1, hq2, hcq, clV_def, ci_lt, ci_le, htb, hta, wi_i]))
          | ((with_reducible apply AWp.ret); try simp -implicitDefEqProofs [hlt, hin', hil, hz, ptV, hq1, hq2, hcq, clV_def, ci_lt, ci_le, htb, hta, wi_i])
          | ((with_reducible apply AWp.skip); try simp -implicitDefEqProofs [hlt, hin', hil, hz, ptV, hq1, hq2, hcq, clV_def, ci_lt, ci_le, htb, hta, wi_i])
          | ((with_reducible apply AWp.exit); try simp -implicitDefEqProofs [hlt, hin', hil, hz, ptV, hq1, hq2, hcq, clV_def, ci_lt, ci_le, htb, hta, wi_i]))
        intro id h_id
        repeat' (first
          | (with_reducible apply AWp.seq)
          | (with_reducible apply AWp.block)
          | ((with_reducible apply AWp.fork); simp -implicitDefEqProofs [hq1, hq2, hcq, clV_def, ci_lt, ci_le, htb, hta, wi_i])
          | ((with_reducible apply AWp.region); simp -implicitDefEqProofs [hq1, hq2, hcq, clV_def, ci_lt, ci_le, htb, hta, wi_i])
          | (with_reducible refine And.intro (by first | omega | assumption | decide) ?_)
          | ((with_reducible show condK _ _ _); simp -implicitDefEqProofs [hq1, hq2, hcq, clV_def, ci_lt, ci_le, htb, hta, wi_i])
          | ((with_reducible show guardK _ _ _ _ _ _ _ _ _); simp -implicitDefEqProofs [hq1, hq2, hcq, clV_def, ci_lt, ci_le, htb, hta, wi_i])
          | trivial
          | (with_reducible apply And.intro)
          | (((with_reducible apply AWp.drawS (id := 8) (t := (Sch.step 0 (Sch.step 1 (Sch.step 2 (Sch.step 3 (Sch.step 4 (Sch.step 5 (Sch.alt 6 Sch.done Sch.none))))))))); (exact mixed); kernel_rfl; kernel_rfl; (repeat (with_reducible first | apply PanQ.then | apply PanQ.block | apply PanQ.body | apply PanQ.no))); simp -implicitDefEqProofs [hq1, hq2, hcq, clV_def, ci_lt, ci_le, htb, hta, wi_i])
          | ((with_reducible apply AWp.ret); try simp -implicitDefEqProofs [hq1, hq2, hcq, clV_def, ci_lt, ci_le, htb, hta, wi_i])
          | ((with_reducible apply AWp.skip); try simp -implicitDefEqProofs [hq1, hq2, hcq, clV_def, ci_lt, ci_le, htb, hta, wi_i])
          | ((with_reducible apply AWp.exit); try simp -implicitDefEqProofs [hq1, hq2, hcq, clV_def, ci_lt, ci_le, htb, hta, wi_i])
          | ((with_reducible apply condK.split) <;> (intro hc; (try simp -implicitDefEqProofs only [hc]); (try simp at hc)) <;> try simp -implicitDefEqProofs [hq1, hq2, hcq, clV_def, ci_lt, ci_le, htb, hta, wi_i])
          | ((with_reducible apply guardK.split) <;> (intro hc; (try simp -implicitDefEqProofs only [hc]); (try simp at hc)) <;> try simp -implicitDefEqProofs [hq1, hq2, hcq, clV_def, ci_lt, ci_le, htb, hta, wi_i])
          | ((with_reducible apply pureG.split) <;> (intro hc; (try simp -implicitDefEqProofs only [hc]); (try simp at hc)) <;> try simp -implicitDefEqProofs [hq1, hq2, hcq, clV_def, ci_lt, ci_le, htb, hta, wi_i]))
        all_goals first | exact le_new h_id (AS.le_refl _) | (exfalso; omega) | skip
      | false =>
        rw [hS] at hst hL
        have hst' := hst.symm
        simp at hL hst'
        repeat (first
          | (with_reducible apply AWp.seq)
          | (with_reducible apply AWp.block)
          | ((with_reducible apply AWp.fork); simp -implicitDefEqProofs [hlt, hin', hil, hz, ptV, hq1, hq2, hcq, clV_def, ci_lt, ci_le, htb, hta, wi_i])
          | ((with_reducible apply AWp.region); simp -implicitDefEqProofs [hlt, hin', hil, hz, ptV, hq1, hq2, hcq, clV_def, ci_lt, ci_le, htb, hta, wi_i])
          | (with_reducible refine And.intro (by first | omega | assumption | decide) ?_)
          | ((with_reducible show condK _ _ _); simp -implicitDefEqProofs [hlt, hin', hil, hz, ptV, hq1, hq2, hcq, clV_def, ci_lt, ci_le, htb, hta, wi_i])
          | ((with_reducible show guardK _ _ _ _ _ _ _ _ _); simp -implicitDefEqProofs [hlt, hin', hil, hz, ptV, hq1, hq2, hcq, clV_def, ci_lt, ci_le, htb, hta, wi_i])
          | (((with_reducible apply AWp.drawS (id := 8) (t := (Sch.step 0 (Sch.step 1 (Sch.step 2 (Sch.step 3 (Sch.step 4 (Sch.step 5 (Sch.alt 6 Sch.done Sch.none))))))))); (exact mixed); kernel_rfl; kernel_rfl; (repeat (with_reducible first | apply PanQ.then | apply PanQ.block | apply PanQ.body | apply PanQ.no))); simp -implicitDefEqProofs [hlt, hin', hil, hz, ptV, hq1, hq2, hcq, clV_def, ci_lt, ci_le, htb, hta, wi_i])
          | ((with_reducible apply aCall.id); first
              | ((apply aCall.gives (he _ _ _)); simp -implicitDefEqProofs [hlt, hin', hil, hz, ptV, hq1, hq2, hcq, clV_def, ci_lt, ci_le, htb, hta, wi_i]))
          | ((with_reducible apply AWp.ret); try simp -implicitDefEqProofs [hlt, hin', hil, hz, ptV, hq1, hq2, hcq, clV_def, ci_lt, ci_le, htb, hta, wi_i])
          | ((with_reducible apply AWp.skip); try simp -implicitDefEqProofs [hlt, hin', hil, hz, ptV, hq1, hq2, hcq, clV_def, ci_lt, ci_le, htb, hta, wi_i])
          | ((with_reducible apply AWp.exit); try simp -implicitDefEqProofs [hlt, hin', hil, hz, ptV, hq1, hq2, hcq, clV_def, ci_lt, ci_le, htb, hta, wi_i]))
        intro id h_id
        repeat' (first
          | (with_reducible apply AWp.seq)
          | (with_reducible apply AWp.block)
          | ((with_reducible apply AWp.fork); simp -implicitDefEqProofs [hq1, hq2, hcq, clV_def, ci_lt, ci_le, htb, hta, wi_i])
          | ((with_reducible apply AWp.region); simp -implicitDefEqProofs [hq1, hq2, hcq, clV_def, ci_lt, ci_le, htb, hta, wi_i])
          | (with_reducible refine And.intro (by first | omega | assumption | decide) ?_)
          | ((with_reducible show condK _ _ _); simp -implicitDefEqProofs [hq1, hq2, hcq, clV_def, ci_lt, ci_le, htb, hta, wi_i])
          | ((with_reducible show guardK _ _ _ _ _ _ _ _ _); simp -implicitDefEqProofs [hq1, hq2, hcq, clV_def, ci_lt, ci_le, htb, hta, wi_i])
          | trivial
          | (with_reducible apply And.intro)
          | (((with_reducible apply AWp.drawS (id := 8) (t := (Sch.step 0 (Sch.step 1 (Sch.step 2 (Sch.step 3 (Sch.step 4 (Sch.step 5 (Sch.alt 6 Sch.done Sch.none))))))))); (exact mixed); kernel_rfl; kernel_rfl; (repeat (with_reducible first | apply PanQ.then | apply PanQ.block | apply PanQ.body | apply PanQ.no))); simp -implicitDefEqProofs [hq1, hq2, hcq, clV_def, ci_lt, ci_le, htb, hta, wi_i])
          | ((with_reducible apply AWp.ret); try simp -implicitDefEqProofs [hq1, hq2, hcq, clV_def, ci_lt, ci_le, htb, hta, wi_i])
          | ((with_reducible apply AWp.skip); try simp -implicitDefEqProofs [hq1, hq2, hcq, clV_def, ci_lt, ci_le, htb, hta, wi_i])
          | ((with_reducible apply AWp.exit); try simp -implicitDefEqProofs [hq1, hq2, hcq, clV_def, ci_lt, ci_le, htb, hta, wi_i])
          | ((with_reducible apply condK.split) <;> (intro hc; (try simp -implicitDefEqProofs only [hc]); (try simp at hc)) <;> try simp -implicitDefEqProofs [hq1, hq2, hcq, clV_def, ci_lt, ci_le, htb, hta, wi_i])
          | ((with_reducible apply guardK.split) <;> (intro hc; (try simp -implicitDefEqProofs only [hc]); (try simp at hc)) <;> try simp -implicitDefEqProofs [hq1, hq2, hcq, clV_def, ci_lt, ci_le, htb, hta, wi_i])
          | ((with_reducible apply pureG.split) <;> (intro hc; (try simp -implicitDefEqProofs only [hc]); (try simp at hc)) <;> try simp -implicitDefEqProofs [hq1, hq2, hcq, clV_def, ci_lt, ci_le, htb, hta, wi_i]))
        all_goals first | (exfalso; omega) | skip
        all_goals
          refine stepA.mk (i + 1) (by (try dsimp only); omega) (by (try dsimp only); (simp only [List.cons_append, List.nil_append]; repeat (first | exact FrWk.nil | refine FrWk.cons (by first | (simp -implicitDefEqProofs [ci_lt, ci_le, htb, hta, wi_i]; done) | exact Wk.of (by (try simp -implicitDefEqProofs [ci_lt, ci_le, htb, hta, wi_i]) <;> rfl)) ?_))) (by (try dsimp only); exact le_new h_id (AS.le_refl _)) ?_
          try dsimp only
          exact ⟨by omega, hL⟩

end Go.Proofs.Ythbmjmdmamapiaa
