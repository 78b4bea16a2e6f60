/- Package ops: fits, Fits; the reference's Most. -/
import Derived.Test.YtplphldpkliakaaOps2
import Derived.Test.YtplphldpkliakaaTy
set_option linter.unusedSimpArgs false
set_option linter.unusedVariables false
set_option maxRecDepth 100000
set_option maxHeartbeats 3200000
namespace Go.Proofs.Ytplphldpkliakaa
open Go Go.AW

theorem below_ok (x b : Int) (σ : AS) : ACalls Try.prog 81 [.sc (.int .i64 x), .sc (.int .i64 b)] σ (Gives (.sc (.bool (decide (0 ≤ x) && decide (x < b)))) σ) No := by
  refine ACalls.of_body Try.func81 rfl rfl (by simp [Try.ntmps81]) ?_
  by_cases h : 0 ≤ x
  all_goals
    repeat (first
      | (with_reducible apply AWp.seq)
      | (with_reducible apply AWp.block)
      | ((with_reducible apply AWp.fork); simp -implicitDefEqProofs [h])
      | ((with_reducible apply AWp.region); simp -implicitDefEqProofs [h])
      | (with_reducible refine And.intro (by first | omega | assumption | decide) ?_)
      | ((with_reducible apply AWp.ret); try simp -implicitDefEqProofs [h])
      | ((with_reducible apply AWp.skip); try simp -implicitDefEqProofs [h])
      | ((with_reducible apply AWp.exit); try simp -implicitDefEqProofs [h]))
    try simp [h]

structure Ins where
  op : Int
  arg : Int
  t : Ty
deriving DecidableEq

def insV (x : Ins) : AV := .agg [.sc (.int .i64 x.op), .sc (.int .i64 x.arg), .sc (.int .i64 x.t.kind), .sc (.int .i64 x.t.index), .sc (.int .i64 x.t.dims), .sc (.bool x.t.ref)]
def noT (t : Ty) : Bool := decide (t.kind = 0) && (decide (t.index = 0) && (decide (t.dims = 0) && !t.ref))

def fitsO (x : Ins) (o : Int) : Bool :=
  if o = 0 then noT x.t && decide (x.arg = 0) else
  if o = 1 then noT x.t && (decide (-2147483648 ≤ x.arg) && decide (x.arg < 2147483648)) else
  if o = 2 then noT x.t else
  if o = 3 then noT x.t && (decide (0 ≤ x.arg) && decide (x.arg < 12)) else
  if o = 4 then noT x.t && (decide (0 ≤ x.arg) && decide (x.arg < 7)) else
  if o = 5 then noT x.t && (decide (0 ≤ x.arg) && decide (x.arg < 160)) else
  if o = 6 ∨ o = 7 then noT x.t && (decide (0 ≤ x.arg) && decide (x.arg < 64)) else
  decide (x.arg = 0) && fieldT' x.t

theorem o_cases (o : Int) : o = 0 ∨ o = 1 ∨ o = 2 ∨ o = 3 ∨ o = 4 ∨ o = 5 ∨ o = 6 ∨ o = 7 ∨ (¬ o = 0 ∧ ¬ o = 1 ∧ ¬ o = 2 ∧ ¬ o = 3 ∧ ¬ o = 4 ∧ ¬ o = 5 ∧ ¬ o = 6 ∧ ¬ o = 7) := by omega

theorem fits_ok (x : Ins) (o : Int) (σ : AS) : ACalls Try.prog 64 [insV x, .sc (.int .i64 o)] σ (Gives (.sc (.bool (fitsO x o))) σ) No := by
  refine ACalls.of_body Try.func64 rfl rfl (by simp [Try.ntmps64]) ?_
  have hk := fun σ => Plain_ok x.t σ
  obtain ⟨op, arg, k, ix, d, r⟩ := x
  simp only [tyV] at hk
  simp only [insV]
  have hq : eqAV Try.prog 8 24 (.agg [.sc (.int .i64 k), .sc (.int .i64 ix), .sc (.int .i64 d), .sc (.bool r)]) (.agg [.sc (.int .i64 0), .sc (.int .i64 0), .sc (.int .i64 0), .sc (.bool false)]) = some (noT ⟨k, ix, d, r⟩) := by simp [noT]
  repeat (first
    | (with_reducible apply AWp.seq)
    | (with_reducible apply AWp.block)
    | ((with_reducible apply AWp.fork); simp -implicitDefEqProofs)
    | ((with_reducible apply AWp.region); simp -implicitDefEqProofs)
    | (with_reducible refine And.intro (by first | omega | assumption | decide) ?_)
    | ((with_reducible apply AWp.ret); try simp -implicitDefEqProofs)
    | ((with_reducible apply AWp.skip); try simp -implicitDefEqProofs)
    | ((with_reducible apply AWp.exit); try simp -implicitDefEqProofs))
  intro id hid
  cases hn : noT ⟨k, ix, d, r⟩
  all_goals
    rw [hn] at hq
    repeat' (first
      | (with_reducible apply AWp.seq)
      | (with_reducible apply AWp.block)
      | ((with_reducible apply AWp.fork); simp -implicitDefEqProofs [-eq_t, hq])
      | ((with_reducible apply AWp.region); simp -implicitDefEqProofs [-eq_t, hq])
      | (with_reducible refine And.intro (by first | omega | assumption | decide) ?_)
      | trivial
      | (with_reducible apply And.intro)
      | ((with_reducible apply aCall.id); first
          | ((apply aCall.gives (below_ok _ _ _)); simp -implicitDefEqProofs [-eq_t, hq])
          | ((apply aCall.gives (hk _)); simp -implicitDefEqProofs [-eq_t, hq]))
      | ((with_reducible apply AWp.ret); try simp -implicitDefEqProofs [-eq_t, hq])
      | ((with_reducible apply AWp.skip); try simp -implicitDefEqProofs [-eq_t, hq])
      | ((with_reducible apply AWp.exit); try simp -implicitDefEqProofs [-eq_t, hq])
      | ((with_reducible apply condK.split) <;> (intro hc; (try simp -implicitDefEqProofs only [hc]); (try simp at hc)) <;> try simp -implicitDefEqProofs [-eq_t, hq])
      | ((with_reducible apply guardK.split) <;> (intro hc; (try simp -implicitDefEqProofs only [hc]); (try simp at hc)) <;> try simp -implicitDefEqProofs [-eq_t, hq])
      | ((with_reducible apply pureG.split) <;> (intro hc; (try simp -implicitDefEqProofs only [hc]); (try simp at hc)) <;> try simp -implicitDefEqProofs [-eq_t, hq]))
    all_goals clear hk hq
    all_goals first
      | exact le_new hid (AS.le_refl _)
      | (refine wk_b ?_; simp_all [fitsO, fieldT', localT]; done)
      | (refine wk_b ?_; rw [Bool.eq_iff_iff]; simp [fitsO, fieldT', localT, *]; omega)

end Go.Proofs.Ytplphldpkliakaa
