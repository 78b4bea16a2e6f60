/- Package regions: spans, parts of clauses. -/
import Derived.Test.YtknalmoackcpbaaGreatAwGo
import Derived.Test.YtknalmoackcpbaaGreatOct1
import Derived.Test.YtknalmoackcpbaaGreatAwMut
set_option linter.unusedSimpArgs false
set_option linter.unusedVariables false
set_option maxRecDepth 100000
set_option maxHeartbeats 3200000
namespace Go.Proofs.YtknalmoackcpbaaGreat
namespace Rg
open Go Go.AW
theorem D0_XReg1 (S : List Nat) : Plans Tryz.prog [] S := mixed
structure Cl where
  k : Int
  tf : Int
  tt : Int
  hf : Int
  ht : Int
  fl : Int
  a : Int
  b : Int
  c : Int
  r : Bool
def clV (c : Cl) : AV := .agg [i64v c.k, i64v c.tf, i64v c.tt, i64v c.hf, i64v c.ht, i64v c.fl, i64v c.a, i64v c.b, i64v c.c, .sc (.bool c.r)]
structure Sn where
  f : Int
  t : Int
deriving DecidableEq
def snV (s : Sn) : AV := .agg [.sc (.int .i64 s.f), .sc (.int .i64 s.t)]
structure Pt where
  k : Int
  p : Int
  s : Sn
def ptV (x : Pt) : AV := .agg [.sc (.int .i64 x.k), .sc (.int .i64 x.p), .sc (.int .i64 x.s.f), .sc (.int .i64 x.s.t)]
def meetsS (s t : Sn) : Bool := decide (s.f < t.t) && decide (t.f < s.t)
def withinS (s t : Sn) : Bool := !decide (s = t) && (decide (t.f ≤ s.f) && decide (s.t ≤ t.t))
def insideS (s : Sn) (n : Int) : Bool := decide (0 ≤ s.f) && (decide (s.f < s.t) && decide (s.t ≤ n))
theorem meets_ok (s t : Sn) (σ : AS) : ACalls Tryz.prog 259 [snV s, snV t] σ (Gives (.sc (.bool (meetsS s t))) σ) No := by
  refine ACalls.of_body Tryz.func259 rfl rfl (by simp [Tryz.ntmps259]) ?_
  simp only [snV, meetsS]
  refine gO (D0_XReg1 []) True.intro True.intro (k := ?_)
  intro id h_id
  refine gO (D0_XReg1 []) True.intro True.intro (k := ?_)
  intro id2 n_id2_id h_id2
  have n_id_id2 : ¬ id = id2 := fun e => n_id2_id e.symm
  repeat' (first
    | (with_reducible first | apply AWp.seq | apply AWp.block | refine And.intro (by first | omega | assumption | decide) ?_)
    | ((first | (with_reducible first | apply AWp.fork | apply AWp.region | show condK _ _ _ | show guardK _ _ _ _ _ _ _ _ _)); simp -implicitDefEqProofs [n_id2_id, n_id_id2])
    | trivial
    | (with_reducible apply And.intro)
    | ((with_reducible first | apply AWp.ret | apply AWp.skip | apply AWp.exit); try simp -implicitDefEqProofs [n_id2_id, n_id_id2])
    | ((with_reducible first | apply condK.split | apply guardK.split | apply pureG.split) <;> (intro hc; (try simp -implicitDefEqProofs only [hc]); (try simp at hc)) <;> try simp -implicitDefEqProofs [n_id2_id, n_id_id2]))
  all_goals (repeat' (with_reducible apply And.intro))
  all_goals first
    | exact AS.le_refl _
    | ((repeat (first | exact AS.le_refl _ | assumption | refine le_new (by simp [*]) ?_)); done)
    | (refine wk_eq ?_; simp_all [skipV]; done)
    | (refine wk_b ?_; rw [Bool.eq_iff_iff]; simp [*]; omega)
    | (refine wk_eq ?_; simp [*]; omega)
    | (refine wk_eq ?_; split <;> simp_all [skipV]; done)
    | (exfalso; omega)
theorem sh_sn : Program.stoodInHeld Tryz.prog 295 = false := by kernel_rfl
@[simp] theorem eg_sn : Program.eqGuardType Tryz.prog Tryz.prog.depth 295 = false := by kernel_rfl
@[simp] theorem eq_sn (a b a' b' : Int) : eqAV Tryz.prog 8 295 (.agg [.sc (.int .i64 a), .sc (.int .i64 b)]) (.agg [.sc (.int .i64 a'), .sc (.int .i64 b')]) = some (decide (a = a') && decide (b = b')) := by
  simp [eqAV, eqFs, sh_sn, Tryz.underlying295, Tryz.underlying3]
theorem sh_rg : Program.stoodInHeld Tryz.prog 300 = false := by kernel_rfl
@[simp] theorem eg_rg : Program.eqGuardType Tryz.prog Tryz.prog.depth 300 = false := by kernel_rfl
@[simp] theorem eq_rg (a b a' b' : Int) : eqAV Tryz.prog 8 300 (.agg [.sc (.int .i64 a), .sc (.int .i64 b)]) (.agg [.sc (.int .i64 a'), .sc (.int .i64 b')]) = some (decide (a = a') && decide (b = b')) := by
  simp [eqAV, eqFs, sh_rg, Tryz.underlying300, Tryz.underlying3]
theorem within_ok (s t : Sn) (σ : AS) : ACalls Tryz.prog 225 [snV s, snV t] σ (Gives (.sc (.bool (withinS s t))) σ) No := by
  obtain ⟨a, b⟩ := s
  obtain ⟨c, d⟩ := t
  refine ACalls.of_body Tryz.func225 rfl rfl (by simp [Tryz.ntmps225]) ?_
  simp only [snV, withinS]
  refine gO (D0_XReg1 []) True.intro True.intro (k := ?_)
  intro id h_id
  refine gO (D0_XReg1 []) True.intro True.intro (k := ?_)
  intro id2 n_id2_id h_id2
  have n_id_id2 : ¬ id = id2 := fun e => n_id2_id e.symm
  repeat' (first
    | (with_reducible first | apply AWp.seq | apply AWp.block | refine And.intro (by first | omega | assumption | decide) ?_)
    | ((first | (with_reducible first | apply AWp.fork | apply AWp.region | show condK _ _ _ | show guardK _ _ _ _ _ _ _ _ _)); simp -implicitDefEqProofs [n_id2_id, n_id_id2])
    | trivial
    | (with_reducible apply And.intro)
    | ((with_reducible first | apply AWp.ret | apply AWp.skip | apply AWp.exit); try simp -implicitDefEqProofs [n_id2_id, n_id_id2])
    | ((with_reducible first | apply condK.split | apply guardK.split | apply pureG.split) <;> (intro hc; (try simp -implicitDefEqProofs only [hc]); (try simp at hc)) <;> try simp -implicitDefEqProofs [n_id2_id, n_id_id2]))
  all_goals (repeat' (with_reducible apply And.intro))
  all_goals first
    | exact AS.le_refl _
    | ((repeat (first | exact AS.le_refl _ | assumption | refine le_new (by simp [*]) ?_)); done)
    | (refine wk_eq ?_; simp_all [skipV]; done)
    | (refine wk_b ?_; rw [Bool.eq_iff_iff]; simp [*]; omega)
    | (refine wk_eq ?_; simp [*]; omega)
    | (refine wk_eq ?_; split <;> simp_all [skipV]; done)
    | (exfalso; omega)
theorem inside_ok (s : Sn) (n : Int) (σ : AS) : ACalls Tryz.prog 219 [snV s, .sc (.int .i64 n)] σ (Gives (.sc (.bool (insideS s n))) σ) No := by
  refine ACalls.of_body Tryz.func219 rfl rfl (by simp [Tryz.ntmps219]) ?_
  simp only [snV, insideS]
  refine gO (D0_XReg1 []) True.intro True.intro (k := ?_)
  intro id h_id
  repeat' (first
    | (with_reducible first | apply AWp.seq | apply AWp.block | refine And.intro (by first | omega | assumption | decide) ?_)
    | ((first | (with_reducible first | apply AWp.fork | apply AWp.region)); simp -implicitDefEqProofs)
    | trivial
    | (with_reducible apply And.intro)
    | ((with_reducible first | apply AWp.ret | apply AWp.skip | apply AWp.exit); try simp -implicitDefEqProofs)
    | ((with_reducible first | apply condK.split | apply guardK.split | apply pureG.split) <;> (intro hc; (try simp -implicitDefEqProofs only [hc]); (try simp at hc)) <;> try simp -implicitDefEqProofs))
  all_goals (repeat' (with_reducible apply And.intro))
  all_goals first
    | exact AS.le_refl _
    | ((repeat (first | exact AS.le_refl _ | assumption | refine le_new (by simp [*]) ?_)); done)
    | (refine wk_eq ?_; simp_all [skipV]; done)
    | (refine wk_b ?_; rw [Bool.eq_iff_iff]; simp [*]; omega)
    | (refine wk_eq ?_; simp [*]; omega)
    | (refine wk_eq ?_; split <;> simp_all [skipV]; done)
    | (exfalso; omega)
def partsS (k : Int) (c : Cl) : List Pt := [⟨k, 1, ⟨c.tf, c.tt⟩⟩, ⟨k, 2, ⟨c.hf, c.ht⟩⟩] ++ (if c.k = 2 then [⟨k, 3, ⟨c.fl, c.hf⟩⟩] else [])
def ptsV (l : List Pt) : AV := .lst 302 (l.map ptV) .unk false
theorem parts_ok (k : Int) (c : Cl) (σ : AS) : ACalls Tryz.prog 221 [.sc (.int .i64 k), clV c] σ (Gives (ptsV (partsS k c)) σ) No := by
  refine ACalls.of_body Tryz.func221 rfl rfl (by simp [Tryz.ntmps221]) ?_
  simp only [clV, ptsV, partsS, i64v_def]
  refine gO (D0_XReg1 []) True.intro True.intro (k := ?_)
  intro id h_id
  by_cases h : c.k = 2
  · refine gO (D0_XReg1 []) @h True.intro (k := ?_)
    intro tk n_tk_id h_tk
    have n_id_tk : ¬ id = tk := fun e => n_tk_id e.symm
    refine gO (D0_XReg1 []) (j2 @n_tk_id @n_id_tk) True.intro (k := ?_)
    simp [ptV]
    all_goals (repeat' (with_reducible apply And.intro))
    all_goals first
      | exact AS.le_refl _
      | ((repeat (first | exact AS.le_refl _ | assumption | refine le_new (by simp [*]) ?_)); done)
      | (refine wk_eq ?_; simp_all [skipV]; done)
      | (refine wk_b ?_; rw [Bool.eq_iff_iff]; simp [*]; omega)
      | (refine wk_eq ?_; simp [*]; omega)
      | (refine wk_eq ?_; split <;> simp_all [skipV]; done)
      | (exfalso; omega)
  · refine gO (D0_XReg1 []) @h True.intro (k := ?_)
    simp [ptV]
    all_goals (repeat' (with_reducible apply And.intro))
    all_goals first
      | exact AS.le_refl _
      | ((repeat (first | exact AS.le_refl _ | assumption | refine le_new (by simp [*]) ?_)); done)
      | (refine wk_eq ?_; simp_all [skipV]; done)
      | (refine wk_b ?_; rw [Bool.eq_iff_iff]; simp [*]; omega)
      | (refine wk_eq ?_; simp [*]; omega)
      | (refine wk_eq ?_; split <;> simp_all [skipV]; done)
      | (exfalso; omega)
end Rg
end Go.Proofs.YtknalmoackcpbaaGreat

/- Package slices: IndexFunc, ContainsFunc over parts. -/

set_option linter.unusedSimpArgs false
set_option linter.unusedVariables false
set_option maxRecDepth 100000
set_option maxHeartbeats 3200000
namespace Go.Proofs.YtknalmoackcpbaaGreat
namespace Rg
open Go Go.AW
theorem D0_XReg2 (S : List Nat) : Plans Tryz.prog [] S := mixed
def idxS {α : Type} (g : α → Bool) (l : List α) : Int := match l.findIdx? g with | some i => (i : Int) | none => -1
theorem idxS_at {α : Type} {g : α → Bool} {l : List α} {i : Nat} (h : i < l.length) (h1 : ∀ x ∈ l.take i, g x = false) (h2 : g l[i] = true) : idxS g l = i := by
  have : l.findIdx? g = some i := by
    rw [List.findIdx?_eq_some_iff_getElem]
    refine ⟨h, h2, fun j hj => ?_⟩
    rw [h1 _ (by rw [List.mem_take_iff_getElem]; exact ⟨j, by omega, rfl⟩)]; simp
  simp [idxS, this]
theorem idxS_no {α : Type} {g : α → Bool} {l : List α} (h1 : ∀ x ∈ l, g x = false) : idxS g l = -1 := by
  have : l.findIdx? g = none := by rw [List.findIdx?_eq_none_iff]; exact h1
  simp [idxS, this]
theorem idxS_any {α : Type} (g : α → Bool) (l : List α) : decide (0 ≤ idxS g l) = l.any g := by
  unfold idxS
  cases h : l.findIdx? g with
  | none =>
    rw [List.findIdx?_eq_none_iff] at h
    simp
    exact h
  | some i =>
    rw [List.findIdx?_eq_some_iff_getElem] at h
    obtain ⟨h1, h2, _⟩ := h
    simp
    exact ⟨_, List.getElem_mem h1, h2⟩
theorem take_all {α : Type} {g : α → Bool} {l : List α} {i : Nat} (h : i < l.length) (h1 : ∀ x ∈ l.take i, g x = false) (h2 : g l[i] = false) : ∀ x ∈ l.take (i + 1), g x = false := by
  intro x hx
  rw [List.take_succ_eq_append_getElem h] at hx
  rcases List.mem_append.1 hx with hx | hx
  · exact h1 x hx
  · simp at hx; rw [hx]; exact h2
theorem index_ok (l : List Pt) (o : Own) (nl : Bool) (fv : AV) (g : Pt → Bool) (σ : AS) (hl : l.length ≤ 140737488355328) (hf : ∀ x ∈ l, FnG Tryz.prog σ fv [ptV x] (.sc (.bool (g x)))) :
    ACalls Tryz.prog 260 [.lst 302 (l.map ptV) o nl, fv] σ (Gives (.sc (.int .i64 (idxS g l))) σ) No := by
  refine ACalls.of_body Tryz.func260 rfl rfl (by simp [Tryz.ntmps260]) ?_
  refine gO (D0_XReg2 []) (j2 @ci_lt @ci_le) True.intro (k := ?_)
  refine AWp.loopA (α := (Nat)) (0) (fun i => l.length - i) (fun i => i ≤ l.length ∧ ∀ x ∈ l.take i, g x = false) [(0, ?_), (1, ?_), (7, ?_)] (fun i => [(8, .sc (.int .i64 i))]) (fun i => σ) ?_ ?_ ?_ ?_
  rotate_left 3
  · (try dsimp only); (simp only [List.cons_append, List.nil_append]; repeat (first | exact FrWk.nil | refine FrWk.cons (by first | (simp -implicitDefEqProofs [ci_lt, ci_le]; done) | exact Wk.of (by (try simp -implicitDefEqProofs [ci_lt, ci_le]) <;> rfl)) ?_))
  · (try dsimp only); (first | exact AS.le_refl _ | assumption | (repeat (first | exact AS.le_refl _ | assumption | refine le_new (by simp [*]) ?_)))
  · (try dsimp only) <;> first | exact trivial | exact ⟨by omega, rfl⟩ | omega | (simp; done) | exact ⟨by omega, by simp⟩ | exact ⟨by omega, by simp, rfl⟩
  intro i hx_
  try dsimp only at hx_ ⊢
  obtain ⟨hi, hX⟩ := hx_
  simp only [List.cons_append, List.nil_append]
  by_cases hlt : i < l.length
  · have wi_i : IntKind.i64.wrap ((i : Int) + 1) = ((i + 1 : Nat) : Int) := ci_wi (by omega)
    have hu := (hf l[i] (List.getElem_mem hlt))
    simp only [ptV] at hu
    cases hg : g l[i] with
    | true =>
      rw [hg] at hu
      rw [idxS_at hlt hX hg]
      repeat (first
        | (with_reducible first | apply AWp.seq | apply AWp.block | refine And.intro (by first | omega | assumption | decide) ?_)
        | ((first | (with_reducible first | apply AWp.fork | apply AWp.region | show condK _ _ _ | show guardK _ _ _ _ _ _ _ _ _) | ((with_reducible apply aCall.id); first | apply (hu.use))); simp -implicitDefEqProofs [hlt, ptV, ci_lt, ci_le, wi_i])
        | ((with_reducible first | apply AWp.ret | apply AWp.skip | apply AWp.exit); try simp -implicitDefEqProofs [hlt, ptV, ci_lt, ci_le, wi_i]))
    | false =>
      rw [hg] at hu
      repeat (first
        | (with_reducible first | apply AWp.seq | apply AWp.block | refine And.intro (by first | omega | assumption | decide) ?_)
        | ((first | (with_reducible first | apply AWp.fork | apply AWp.region | show condK _ _ _ | show guardK _ _ _ _ _ _ _ _ _) | ((with_reducible apply aCall.id); first | apply (hu.use))); simp -implicitDefEqProofs [hlt, ptV, ci_lt, ci_le, wi_i])
        | ((with_reducible first | apply AWp.ret | apply AWp.skip | apply AWp.exit); try simp -implicitDefEqProofs [hlt, ptV, ci_lt, ci_le, wi_i]))
      refine stepA.mk (i + 1) (by (try dsimp only); omega) (by (try dsimp only); (simp only [List.cons_append, List.nil_append]; repeat (first | exact FrWk.nil | refine FrWk.cons (by first | (simp -implicitDefEqProofs [ci_lt, ci_le, wi_i]; done) | exact Wk.of (by (try simp -implicitDefEqProofs [ci_lt, ci_le, wi_i]) <;> rfl)) ?_))) (by (try dsimp only); (first | exact AS.le_refl _ | assumption | (repeat (first | exact AS.le_refl _ | assumption | refine le_new (by simp [*]) ?_)))) ?_
      try dsimp only
      exact ⟨hlt, take_all hlt hX hg⟩
  · rw [idxS_no (by rwa [List.take_of_length_le (by omega)] at hX)]
    exact gE (D0_XReg2 []) (j3 @hlt @ci_lt @ci_le) True.intro
theorem contains_ok (l : List Pt) (o : Own) (nl : Bool) (fv : AV) (g : Pt → Bool) (σ : AS) (hl : l.length ≤ 140737488355328) (hf : ∀ x ∈ l, FnG Tryz.prog σ fv [ptV x] (.sc (.bool (g x)))) :
    ACalls Tryz.prog 223 [.lst 302 (l.map ptV) o nl, fv] σ (Gives (.sc (.bool (l.any g))) σ) No := by
  have hi := index_ok l o nl fv g σ hl hf
  rw [← idxS_any]
  refine ACalls.of_body Tryz.func223 rfl rfl (by simp [Tryz.ntmps223]) ?_
  exact gE (D0_XReg2 []) True.intro @hi
end Rg
end Go.Proofs.YtknalmoackcpbaaGreat
