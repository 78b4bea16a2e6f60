/- Package ops: fits, Fits; the reference's Most. -/
import Derived.Test.YtknalmoackcpbaaGreatAwGo
import Derived.Test.YtknalmoackcpbaaGreatOps2
import Derived.Test.YtknalmoackcpbaaGreatTy
set_option linter.unusedSimpArgs false
set_option linter.unusedVariables false
set_option maxRecDepth 100000
set_option maxHeartbeats 3200000
namespace Go.Proofs.YtknalmoackcpbaaGreat
open Go Go.AW
theorem D0_XOps3 (S : List Nat) : Plans Tryz.prog [] S := mixed
theorem below_ok (x b : Int) (σ : AS) : ACalls Tryz.prog 255 [.sc (.int .i64 x), .sc (.int .i64 b)] σ (Gives (.sc (.bool (decide (0 ≤ x) && decide (x < b)))) σ) No := by
  refine ACalls.of_body Tryz.func255 rfl rfl (by simp [Tryz.ntmps255]) ?_
  by_cases h : 0 ≤ x
  all_goals
    exact gE (D0_XOps3 []) @h True.intro
    try simp [h]
structure Ins where
  op : Int
  arg : Int
  t : Ty
def insV (x : Ins) : AV := .agg [.sc (.int .i64 x.op), .sc (.int .i64 x.arg), .sc (.int .i64 x.t.kind), .sc (.int .i64 x.t.index), .sc (.int .i64 x.t.dims), .sc (.bool x.t.ref)]
def noT (t : Ty) : Bool := decide (t.kind = 0) && (decide (t.index = 0) && (decide (t.dims = 0) && !t.ref))
def fitsO (x : Ins) (o : Int) : Bool :=
  if o = 0 then noT x.t && decide (x.arg = 0) else
  if o = 1 then noT x.t && (decide (-2147483648 ≤ x.arg) && decide (x.arg < 2147483648)) else
  if o = 2 then noT x.t else
  if o = 3 then noT x.t && (decide (0 ≤ x.arg) && decide (x.arg < 12)) else
  if o = 4 then noT x.t && (decide (0 ≤ x.arg) && decide (x.arg < 7)) else
  if o = 5 then noT x.t && (decide (0 ≤ x.arg) && decide (x.arg < 160)) else
  if o = 6 ∨ o = 7 then noT x.t && (decide (0 ≤ x.arg) && decide (x.arg < 64)) else
  decide (x.arg = 0) && fieldT' x.t
theorem fits_ok (x : Ins) (o : Int) (σ : AS) : ACalls Tryz.prog 217 [insV x, .sc (.int .i64 o)] σ (Gives (.sc (.bool (fitsO x o))) σ) No := by
  refine ACalls.of_body Tryz.func217 rfl rfl (by simp [Tryz.ntmps217]) ?_
  have hk := fun σ => Plain_ok x.t σ
  obtain ⟨op, arg, k, ix, d, r⟩ := x
  simp only [tyV] at hk
  simp only [insV]
  have hq : eqAV Tryz.prog 8 49 (.agg [.sc (.int .i64 k), .sc (.int .i64 ix), .sc (.int .i64 d), .sc (.bool r)]) (.agg [.sc (.int .i64 0), .sc (.int .i64 0), .sc (.int .i64 0), .sc (.bool false)]) = some (noT ⟨k, ix, d, r⟩) := by simp [noT]
  refine gO (D0_XOps3 []) True.intro True.intro (k := ?_)
  intro id hid
  cases hn : noT ⟨k, ix, d, r⟩
  all_goals
    rw [hn] at hq
    repeat' (first
      | (with_reducible first | apply AWp.seq | apply AWp.block | refine And.intro (by first | omega | assumption | decide) ?_)
      | ((first | (with_reducible first | apply AWp.fork | apply AWp.region | show condK _ _ _ | show guardK _ _ _ _ _ _ _ _ _) | ((with_reducible apply aCall.id); first | apply aCall.gives (below_ok _ _ _) | apply aCall.gives (hk _))); simp -implicitDefEqProofs [-eq_t, hq])
      | trivial
      | (with_reducible apply And.intro)
      | ((with_reducible first | apply AWp.ret | apply AWp.skip | apply AWp.exit); try simp -implicitDefEqProofs [-eq_t, hq])
      | ((with_reducible first | apply condK.split | apply guardK.split | apply pureG.split) <;> (intro hc; (try simp -implicitDefEqProofs only [hc]); (try simp at hc)) <;> try simp -implicitDefEqProofs [-eq_t, hq]))
    all_goals clear hk hq
    all_goals first
      | exact le_new hid (AS.le_refl _)
      | (refine wk_b ?_; simp_all [fitsO, fieldT', localT]; done)
      | (refine wk_b ?_; rw [Bool.eq_iff_iff]; simp [fitsO, fieldT', localT, *]; omega)
end Go.Proofs.YtknalmoackcpbaaGreat
