/- Chapter 10: images; what ContainsFunc is over their lists. -/
import Derived.Test.YtknalmoackcpbaaGreatAwGo
import Derived.Test.YtknalmoackcpbaaGreatSigA
import Derived.Test.YtknalmoackcpbaaGreatOps5
import Derived.Test.YtknalmoackcpbaaGreatPool1
import Derived.Test.YtknalmoackcpbaaGreatReg7
set_option linter.unusedSimpArgs false
set_option linter.unusedVariables false
set_option maxRecDepth 100000
set_option maxHeartbeats 3200000
namespace Go.Proofs.YtknalmoackcpbaaGreat
namespace Im
open Go Go.AW
theorem D0_XIm1 (S : List Nat) : Plans Tryz.prog [] S := mixed
open Sg (idxS idxS_at idxS_no idxS_any take_all tyV_def)
open Rg (Cl clV clV_def)
def iV (n : Int) : AV := .sc (.int .i64 n)
theorem iV_def (n : Int) : iV n = .sc (.int .i64 n) := rfl
theorem insV_def (x : Ins) : insV x = .agg [.sc (.int .i64 x.op), .sc (.int .i64 x.arg), .sc (.int .i64 x.t.kind), .sc (.int .i64 x.t.index), .sc (.int .i64 x.t.dims), .sc (.bool x.t.ref)] := rfl
structure TD where
  name : List UInt8
  flags : Int
  ext : Int
  faces : List Int
  fn : Bool
def tdV (t : TD) : AV := .agg [.sc (.string ⟨t.name.toArray⟩), .sc (.int .i64 t.flags), .sc (.int .i64 t.ext), .lst 3 (t.faces.map iV) .unk t.fn]
theorem tdV_def (t : TD) : tdV t = .agg [.sc (.string ⟨t.name.toArray⟩), .sc (.int .i64 t.flags), .sc (.int .i64 t.ext), .lst 3 (t.faces.map iV) .unk t.fn] := rfl
structure Fd where
  name : List UInt8
  owner : Int
  ty : Ty
  stat : Bool
def fdV (f : Fd) : AV := .agg [.sc (.string ⟨f.name.toArray⟩), .sc (.int .i64 f.owner), .sc (.int .i64 f.ty.kind), .sc (.int .i64 f.ty.index), .sc (.int .i64 f.ty.dims), .sc (.bool f.ty.ref), .sc (.bool f.stat)]
theorem fdV_def (f : Fd) : fdV f = .agg [.sc (.string ⟨f.name.toArray⟩), .sc (.int .i64 f.owner), .sc (.int .i64 f.ty.kind), .sc (.int .i64 f.ty.index), .sc (.int .i64 f.ty.dims), .sc (.bool f.ty.ref), .sc (.bool f.stat)] := rfl
structure Mt where
  name : List UInt8
  owner : Int
  flags : Int
  ps : List Ty
  pn : Bool
  ret : Ty
  ls : List Ty
  ln : Bool
  max : Int
  code : List Ins
  cn : Bool
  cls : List Cl
  xn : Bool
def mtV (m : Mt) : AV := .agg [.sc (.string ⟨m.name.toArray⟩), .sc (.int .i64 m.owner), .sc (.int .i64 m.flags), .lst 49 (m.ps.map tyV) .unk m.pn, .sc (.int .i64 m.ret.kind), .sc (.int .i64 m.ret.index), .sc (.int .i64 m.ret.dims), .sc (.bool m.ret.ref), .lst 49 (m.ls.map tyV) .unk m.ln, .sc (.int .i64 m.max), .lst 110 (m.code.map insV) .unk m.cn, .lst 158 (m.cls.map clV) .unk m.xn]
theorem mtV_def (m : Mt) : mtV m = .agg [.sc (.string ⟨m.name.toArray⟩), .sc (.int .i64 m.owner), .sc (.int .i64 m.flags), .lst 49 (m.ps.map tyV) .unk m.pn, .sc (.int .i64 m.ret.kind), .sc (.int .i64 m.ret.index), .sc (.int .i64 m.ret.dims), .sc (.bool m.ret.ref), .lst 49 (m.ls.map tyV) .unk m.ln, .sc (.int .i64 m.max), .lst 110 (m.code.map insV) .unk m.cn, .lst 158 (m.cls.map clV) .unk m.xn] := rfl
structure Img where
  ts : List TD
  tn : Bool
  fs : List Fd
  fn : Bool
  ms : List Mt
  mn : Bool
  entry : Int
def imV (g : Img) : AV := .agg [.lst 46 (g.ts.map tdV) .unk g.tn, .lst 56 (g.fs.map fdV) .unk g.fn, .lst 53 (g.ms.map mtV) .unk g.mn, .sc (.int .i64 g.entry)]
theorem imV_def (g : Img) : imV g = .agg [.lst 46 (g.ts.map tdV) .unk g.tn, .lst 56 (g.fs.map fdV) .unk g.fn, .lst 53 (g.ms.map mtV) .unk g.mn, .sc (.int .i64 g.entry)] := rfl
theorem tdIdx_ok (l : List TD) (o : Own) (nl : Bool) (fv : AV) (g : TD → Bool) (σ : AS) (hl : l.length ≤ 140737488355328) (hf : ∀ x ∈ l, FnG Tryz.prog σ fv [tdV x] (.sc (.bool (g x)))) :
    ACalls Tryz.prog 112 [.lst 46 (l.map tdV) o nl, fv] σ (Gives (.sc (.int .i64 (idxS g l))) σ) No := by
  refine ACalls.of_body Tryz.func112 rfl rfl (by simp [Tryz.ntmps112]) ?_
  refine gO (D0_XIm1 []) (j2 @ci_lt @ci_le) True.intro (k := ?_)
  refine AWp.loopA (α := (Nat)) (0) (fun i => l.length - i) (fun i => i ≤ l.length ∧ ∀ x ∈ l.take i, g x = false) [(0, ?_), (1, ?_), (7, ?_)] (fun i => [(8, .sc (.int .i64 i))]) (fun i => σ) ?_ ?_ ?_ ?_
  rotate_left 3
  · (try dsimp only); (simp only [List.cons_append, List.nil_append]; repeat (first | exact FrWk.nil | refine FrWk.cons (by first | (simp -implicitDefEqProofs [ci_lt, ci_le]; done) | exact Wk.of (by (try simp -implicitDefEqProofs [ci_lt, ci_le]) <;> rfl)) ?_))
  · (try dsimp only); (first | exact AS.le_refl _ | assumption | (repeat (first | exact AS.le_refl _ | assumption | refine le_new (by simp [*]) ?_)))
  · (try dsimp only) <;> first | exact trivial | exact ⟨by omega, rfl⟩ | omega | (simp; done) | exact ⟨by omega, by simp⟩ | exact ⟨by omega, by simp, rfl⟩
  intro i hx_
  try dsimp only at hx_ ⊢
  obtain ⟨hi, hX⟩ := hx_
  simp only [List.cons_append, List.nil_append]
  by_cases hlt : i < l.length
  · have wi_i : IntKind.i64.wrap ((i : Int) + 1) = ((i + 1 : Nat) : Int) := ci_wi (by omega)
    have hu := (hf l[i] (List.getElem_mem hlt))
    simp only [tdV_def] at hu
    cases hg : g l[i] with
    | true =>
      rw [hg] at hu
      rw [idxS_at hlt hX hg]
      repeat (first
        | (with_reducible first | apply AWp.seq | apply AWp.block | refine And.intro (by first | omega | assumption | decide) ?_)
        | ((first | (with_reducible first | apply AWp.fork | apply AWp.region | show condK _ _ _ | show guardK _ _ _ _ _ _ _ _ _) | ((with_reducible apply aCall.id); first | apply (hu.use))); simp -implicitDefEqProofs [hlt, tdV_def, ci_lt, ci_le, wi_i])
        | ((with_reducible first | apply AWp.ret | apply AWp.skip | apply AWp.exit); try simp -implicitDefEqProofs [hlt, tdV_def, ci_lt, ci_le, wi_i]))
    | false =>
      rw [hg] at hu
      repeat (first
        | (with_reducible first | apply AWp.seq | apply AWp.block | refine And.intro (by first | omega | assumption | decide) ?_)
        | ((first | (with_reducible first | apply AWp.fork | apply AWp.region | show condK _ _ _ | show guardK _ _ _ _ _ _ _ _ _) | ((with_reducible apply aCall.id); first | apply (hu.use))); simp -implicitDefEqProofs [hlt, tdV_def, ci_lt, ci_le, wi_i])
        | ((with_reducible first | apply AWp.ret | apply AWp.skip | apply AWp.exit); try simp -implicitDefEqProofs [hlt, tdV_def, ci_lt, ci_le, wi_i]))
      refine stepA.mk (i + 1) (by (try dsimp only); omega) (by (try dsimp only); (simp only [List.cons_append, List.nil_append]; repeat (first | exact FrWk.nil | refine FrWk.cons (by first | (simp -implicitDefEqProofs [ci_lt, ci_le, wi_i]; done) | exact Wk.of (by (try simp -implicitDefEqProofs [ci_lt, ci_le, wi_i]) <;> rfl)) ?_))) (by (try dsimp only); (first | exact AS.le_refl _ | assumption | (repeat (first | exact AS.le_refl _ | assumption | refine le_new (by simp [*]) ?_)))) ?_
      try dsimp only
      exact ⟨hlt, take_all hlt hX hg⟩
  · rw [idxS_no (by rwa [List.take_of_length_le (by omega)] at hX)]
    exact gE (D0_XIm1 []) (j3 @hlt @ci_lt @ci_le) True.intro
theorem tdHas_ok (l : List TD) (o : Own) (nl : Bool) (fv : AV) (g : TD → Bool) (σ : AS) (hl : l.length ≤ 140737488355328) (hf : ∀ x ∈ l, FnG Tryz.prog σ fv [tdV x] (.sc (.bool (g x)))) :
    ACalls Tryz.prog 48 [.lst 46 (l.map tdV) o nl, fv] σ (Gives (.sc (.bool (l.any g))) σ) No := by
  have hi := tdIdx_ok l o nl fv g σ hl hf
  rw [← idxS_any]
  refine ACalls.of_body Tryz.func48 rfl rfl (by simp [Tryz.ntmps48]) ?_
  exact gE (D0_XIm1 []) True.intro @hi
theorem inIdx_ok (l : List Int) (o : Own) (nl : Bool) (fv : AV) (g : Int → Bool) (σ : AS) (hl : l.length ≤ 140737488355328) (hf : ∀ x ∈ l, FnG Tryz.prog σ fv [iV x] (.sc (.bool (g x)))) :
    ACalls Tryz.prog 113 [.lst 3 (l.map iV) o nl, fv] σ (Gives (.sc (.int .i64 (idxS g l))) σ) No := by
  refine ACalls.of_body Tryz.func113 rfl rfl (by simp [Tryz.ntmps113]) ?_
  refine gO (D0_XIm1 []) (j2 @ci_lt @ci_le) True.intro (k := ?_)
  refine AWp.loopA (α := (Nat)) (0) (fun i => l.length - i) (fun i => i ≤ l.length ∧ ∀ x ∈ l.take i, g x = false) [(0, ?_), (1, ?_), (7, ?_)] (fun i => [(8, .sc (.int .i64 i))]) (fun i => σ) ?_ ?_ ?_ ?_
  rotate_left 3
  · (try dsimp only); (simp only [List.cons_append, List.nil_append]; repeat (first | exact FrWk.nil | refine FrWk.cons (by first | (simp -implicitDefEqProofs [ci_lt, ci_le]; done) | exact Wk.of (by (try simp -implicitDefEqProofs [ci_lt, ci_le]) <;> rfl)) ?_))
  · (try dsimp only); (first | exact AS.le_refl _ | assumption | (repeat (first | exact AS.le_refl _ | assumption | refine le_new (by simp [*]) ?_)))
  · (try dsimp only) <;> first | exact trivial | exact ⟨by omega, rfl⟩ | omega | (simp; done) | exact ⟨by omega, by simp⟩ | exact ⟨by omega, by simp, rfl⟩
  intro i hx_
  try dsimp only at hx_ ⊢
  obtain ⟨hi, hX⟩ := hx_
  simp only [List.cons_append, List.nil_append]
  by_cases hlt : i < l.length
  · have wi_i : IntKind.i64.wrap ((i : Int) + 1) = ((i + 1 : Nat) : Int) := ci_wi (by omega)
    have hu := (hf l[i] (List.getElem_mem hlt))
    simp only [iV_def] at hu
    cases hg : g l[i] with
    | true =>
      rw [hg] at hu
      rw [idxS_at hlt hX hg]
      repeat (first
        | (with_reducible first | apply AWp.seq | apply AWp.block | refine And.intro (by first | omega | assumption | decide) ?_)
        | ((first | (with_reducible first | apply AWp.fork | apply AWp.region | show condK _ _ _ | show guardK _ _ _ _ _ _ _ _ _) | ((with_reducible apply aCall.id); first | apply (hu.use))); simp -implicitDefEqProofs [hlt, iV_def, ci_lt, ci_le, wi_i])
        | ((with_reducible first | apply AWp.ret | apply AWp.skip | apply AWp.exit); try simp -implicitDefEqProofs [hlt, iV_def, ci_lt, ci_le, wi_i]))
    | false =>
      rw [hg] at hu
      repeat (first
        | (with_reducible first | apply AWp.seq | apply AWp.block | refine And.intro (by first | omega | assumption | decide) ?_)
        | ((first | (with_reducible first | apply AWp.fork | apply AWp.region | show condK _ _ _ | show guardK _ _ _ _ _ _ _ _ _) | ((with_reducible apply aCall.id); first | apply (hu.use))); simp -implicitDefEqProofs [hlt, iV_def, ci_lt, ci_le, wi_i])
        | ((with_reducible first | apply AWp.ret | apply AWp.skip | apply AWp.exit); try simp -implicitDefEqProofs [hlt, iV_def, ci_lt, ci_le, wi_i]))
      refine stepA.mk (i + 1) (by (try dsimp only); omega) (by (try dsimp only); (simp only [List.cons_append, List.nil_append]; repeat (first | exact FrWk.nil | refine FrWk.cons (by first | (simp -implicitDefEqProofs [ci_lt, ci_le, wi_i]; done) | exact Wk.of (by (try simp -implicitDefEqProofs [ci_lt, ci_le, wi_i]) <;> rfl)) ?_))) (by (try dsimp only); (first | exact AS.le_refl _ | assumption | (repeat (first | exact AS.le_refl _ | assumption | refine le_new (by simp [*]) ?_)))) ?_
      try dsimp only
      exact ⟨hlt, take_all hlt hX hg⟩
  · rw [idxS_no (by rwa [List.take_of_length_le (by omega)] at hX)]
    exact gE (D0_XIm1 []) (j3 @hlt @ci_lt @ci_le) True.intro
theorem inHas_ok (l : List Int) (o : Own) (nl : Bool) (fv : AV) (g : Int → Bool) (σ : AS) (hl : l.length ≤ 140737488355328) (hf : ∀ x ∈ l, FnG Tryz.prog σ fv [iV x] (.sc (.bool (g x)))) :
    ACalls Tryz.prog 50 [.lst 3 (l.map iV) o nl, fv] σ (Gives (.sc (.bool (l.any g))) σ) No := by
  have hi := inIdx_ok l o nl fv g σ hl hf
  rw [← idxS_any]
  refine ACalls.of_body Tryz.func50 rfl rfl (by simp [Tryz.ntmps50]) ?_
  exact gE (D0_XIm1 []) True.intro @hi
theorem isIdx_ok (l : List Ins) (o : Own) (nl : Bool) (fv : AV) (g : Ins → Bool) (σ : AS) (hl : l.length ≤ 140737488355328) (hf : ∀ x ∈ l, FnG Tryz.prog σ fv [insV x] (.sc (.bool (g x)))) :
    ACalls Tryz.prog 174 [.lst 110 (l.map insV) o nl, fv] σ (Gives (.sc (.int .i64 (idxS g l))) σ) No := by
  refine ACalls.of_body Tryz.func174 rfl rfl (by simp [Tryz.ntmps174]) ?_
  refine gO (D0_XIm1 []) (j2 @ci_lt @ci_le) True.intro (k := ?_)
  refine AWp.loopA (α := (Nat)) (0) (fun i => l.length - i) (fun i => i ≤ l.length ∧ ∀ x ∈ l.take i, g x = false) [(0, ?_), (1, ?_), (7, ?_)] (fun i => [(8, .sc (.int .i64 i))]) (fun i => σ) ?_ ?_ ?_ ?_
  rotate_left 3
  · (try dsimp only); (simp only [List.cons_append, List.nil_append]; repeat (first | exact FrWk.nil | refine FrWk.cons (by first | (simp -implicitDefEqProofs [ci_lt, ci_le]; done) | exact Wk.of (by (try simp -implicitDefEqProofs [ci_lt, ci_le]) <;> rfl)) ?_))
  · (try dsimp only); (first | exact AS.le_refl _ | assumption | (repeat (first | exact AS.le_refl _ | assumption | refine le_new (by simp [*]) ?_)))
  · (try dsimp only) <;> first | exact trivial | exact ⟨by omega, rfl⟩ | omega | (simp; done) | exact ⟨by omega, by simp⟩ | exact ⟨by omega, by simp, rfl⟩
  intro i hx_
  try dsimp only at hx_ ⊢
  obtain ⟨hi, hX⟩ := hx_
  simp only [List.cons_append, List.nil_append]
  by_cases hlt : i < l.length
  · have wi_i : IntKind.i64.wrap ((i : Int) + 1) = ((i + 1 : Nat) : Int) := ci_wi (by omega)
    have hu := (hf l[i] (List.getElem_mem hlt))
    simp only [insV_def] at hu
    cases hg : g l[i] with
    | true =>
      rw [hg] at hu
      rw [idxS_at hlt hX hg]
      repeat (first
        | (with_reducible first | apply AWp.seq | apply AWp.block | refine And.intro (by first | omega | assumption | decide) ?_)
        | ((first | (with_reducible first | apply AWp.fork | apply AWp.region | show condK _ _ _ | show guardK _ _ _ _ _ _ _ _ _) | ((with_reducible apply aCall.id); first | apply (hu.use))); simp -implicitDefEqProofs [hlt, insV_def, ci_lt, ci_le, wi_i])
        | ((with_reducible first | apply AWp.ret | apply AWp.skip | apply AWp.exit); try simp -implicitDefEqProofs [hlt, insV_def, ci_lt, ci_le, wi_i]))
    | false =>
      rw [hg] at hu
      repeat (first
        | (with_reducible first | apply AWp.seq | apply AWp.block | refine And.intro (by first | omega | assumption | decide) ?_)
        | ((first | (with_reducible first | apply AWp.fork | apply AWp.region | show condK _ _ _ | show guardK _ _ _ _ _ _ _ _ _) | ((with_reducible apply aCall.id); first | apply (hu.use))); simp -implicitDefEqProofs [hlt, insV_def, ci_lt, ci_le, wi_i])
        | ((with_reducible first | apply AWp.ret | apply AWp.skip | apply AWp.exit); try simp -implicitDefEqProofs [hlt, insV_def, ci_lt, ci_le, wi_i]))
      refine stepA.mk (i + 1) (by (try dsimp only); omega) (by (try dsimp only); (simp only [List.cons_append, List.nil_append]; repeat (first | exact FrWk.nil | refine FrWk.cons (by first | (simp -implicitDefEqProofs [ci_lt, ci_le, wi_i]; done) | exact Wk.of (by (try simp -implicitDefEqProofs [ci_lt, ci_le, wi_i]) <;> rfl)) ?_))) (by (try dsimp only); (first | exact AS.le_refl _ | assumption | (repeat (first | exact AS.le_refl _ | assumption | refine le_new (by simp [*]) ?_)))) ?_
      try dsimp only
      exact ⟨hlt, take_all hlt hX hg⟩
  · rw [idxS_no (by rwa [List.take_of_length_le (by omega)] at hX)]
    exact gE (D0_XIm1 []) (j3 @hlt @ci_lt @ci_le) True.intro
theorem isHas_ok (l : List Ins) (o : Own) (nl : Bool) (fv : AV) (g : Ins → Bool) (σ : AS) (hl : l.length ≤ 140737488355328) (hf : ∀ x ∈ l, FnG Tryz.prog σ fv [insV x] (.sc (.bool (g x)))) :
    ACalls Tryz.prog 119 [.lst 110 (l.map insV) o nl, fv] σ (Gives (.sc (.bool (l.any g))) σ) No := by
  have hi := isIdx_ok l o nl fv g σ hl hf
  rw [← idxS_any]
  refine ACalls.of_body Tryz.func119 rfl rfl (by simp [Tryz.ntmps119]) ?_
  exact gE (D0_XIm1 []) True.intro @hi
theorem clIdx_ok (l : List Cl) (o : Own) (nl : Bool) (fv : AV) (g : Cl → Bool) (σ : AS) (hl : l.length ≤ 140737488355328) (hf : ∀ x ∈ l, FnG Tryz.prog σ fv [clV x] (.sc (.bool (g x)))) :
    ACalls Tryz.prog 177 [.lst 158 (l.map clV) o nl, fv] σ (Gives (.sc (.int .i64 (idxS g l))) σ) No := by
  refine ACalls.of_body Tryz.func177 rfl rfl (by simp [Tryz.ntmps177]) ?_
  refine gO (D0_XIm1 []) (j2 @ci_lt @ci_le) True.intro (k := ?_)
  refine AWp.loopA (α := (Nat)) (0) (fun i => l.length - i) (fun i => i ≤ l.length ∧ ∀ x ∈ l.take i, g x = false) [(0, ?_), (1, ?_), (7, ?_)] (fun i => [(8, .sc (.int .i64 i))]) (fun i => σ) ?_ ?_ ?_ ?_
  rotate_left 3
  · (try dsimp only); (simp only [List.cons_append, List.nil_append]; repeat (first | exact FrWk.nil | refine FrWk.cons (by first | (simp -implicitDefEqProofs [ci_lt, ci_le]; done) | exact Wk.of (by (try simp -implicitDefEqProofs [ci_lt, ci_le]) <;> rfl)) ?_))
  · (try dsimp only); (first | exact AS.le_refl _ | assumption | (repeat (first | exact AS.le_refl _ | assumption | refine le_new (by simp [*]) ?_)))
  · (try dsimp only) <;> first | exact trivial | exact ⟨by omega, rfl⟩ | omega | (simp; done) | exact ⟨by omega, by simp⟩ | exact ⟨by omega, by simp, rfl⟩
  intro i hx_
  try dsimp only at hx_ ⊢
  obtain ⟨hi, hX⟩ := hx_
  simp only [List.cons_append, List.nil_append]
  by_cases hlt : i < l.length
  · have wi_i : IntKind.i64.wrap ((i : Int) + 1) = ((i + 1 : Nat) : Int) := ci_wi (by omega)
    have hu := (hf l[i] (List.getElem_mem hlt))
    simp only [clV_def] at hu
    cases hg : g l[i] with
    | true =>
      rw [hg] at hu
      rw [idxS_at hlt hX hg]
      repeat (first
        | (with_reducible first | apply AWp.seq | apply AWp.block | refine And.intro (by first | omega | assumption | decide) ?_)
        | ((first | (with_reducible first | apply AWp.fork | apply AWp.region | show condK _ _ _ | show guardK _ _ _ _ _ _ _ _ _) | ((with_reducible apply aCall.id); first | apply (hu.use))); simp -implicitDefEqProofs [hlt, clV_def, ci_lt, ci_le, wi_i])
        | ((with_reducible first | apply AWp.ret | apply AWp.skip | apply AWp.exit); try simp -implicitDefEqProofs [hlt, clV_def, ci_lt, ci_le, wi_i]))
    | false =>
      rw [hg] at hu
      repeat (first
        | (with_reducible first | apply AWp.seq | apply AWp.block | refine And.intro (by first | omega | assumption | decide) ?_)
        | ((first | (with_reducible first | apply AWp.fork | apply AWp.region | show condK _ _ _ | show guardK _ _ _ _ _ _ _ _ _) | ((with_reducible apply aCall.id); first | apply (hu.use))); simp -implicitDefEqProofs [hlt, clV_def, ci_lt, ci_le, wi_i])
        | ((with_reducible first | apply AWp.ret | apply AWp.skip | apply AWp.exit); try simp -implicitDefEqProofs [hlt, clV_def, ci_lt, ci_le, wi_i]))
      refine stepA.mk (i + 1) (by (try dsimp only); omega) (by (try dsimp only); (simp only [List.cons_append, List.nil_append]; repeat (first | exact FrWk.nil | refine FrWk.cons (by first | (simp -implicitDefEqProofs [ci_lt, ci_le, wi_i]; done) | exact Wk.of (by (try simp -implicitDefEqProofs [ci_lt, ci_le, wi_i]) <;> rfl)) ?_))) (by (try dsimp only); (first | exact AS.le_refl _ | assumption | (repeat (first | exact AS.le_refl _ | assumption | refine le_new (by simp [*]) ?_)))) ?_
      try dsimp only
      exact ⟨hlt, take_all hlt hX hg⟩
  · rw [idxS_no (by rwa [List.take_of_length_le (by omega)] at hX)]
    exact gE (D0_XIm1 []) (j3 @hlt @ci_lt @ci_le) True.intro
theorem clHas_ok (l : List Cl) (o : Own) (nl : Bool) (fv : AV) (g : Cl → Bool) (σ : AS) (hl : l.length ≤ 140737488355328) (hf : ∀ x ∈ l, FnG Tryz.prog σ fv [clV x] (.sc (.bool (g x)))) :
    ACalls Tryz.prog 122 [.lst 158 (l.map clV) o nl, fv] σ (Gives (.sc (.bool (l.any g))) σ) No := by
  have hi := clIdx_ok l o nl fv g σ hl hf
  rw [← idxS_any]
  refine ACalls.of_body Tryz.func122 rfl rfl (by simp [Tryz.ntmps122]) ?_
  exact gE (D0_XIm1 []) True.intro @hi
end Im
end Go.Proofs.YtknalmoackcpbaaGreat
