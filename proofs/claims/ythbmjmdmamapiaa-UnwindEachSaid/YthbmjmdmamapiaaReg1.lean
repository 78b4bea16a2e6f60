/- Package regions: spans, parts of clauses. -/
import Derived.Test.YthbmjmdmamapiaaOct1
import Derived.Test.YthbmjmdmamapiaaAwLoop
set_option linter.unusedSimpArgs false
set_option linter.unusedVariables false
set_option maxRecDepth 100000
set_option maxHeartbeats 3200000
namespace Go.Proofs.Ythbmjmdmamapiaa
open Go Go.AW

/-- A clause. -/
structure Cl where
  k : Int
  tf : Int
  tt : Int
  hf : Int
  ht : Int
  fl : Int
  a : Int
  b : Int
  c : Int
  r : Bool
deriving DecidableEq
def clV (c : Cl) : AV := .agg [i64v c.k, i64v c.tf, i64v c.tt, i64v c.hf, i64v c.ht, i64v c.fl, i64v c.a, i64v c.b, i64v c.c, .sc (.bool c.r)]
/-- A span. -/
structure Sn where
  f : Int
  t : Int
deriving DecidableEq
def snV (s : Sn) : AV := .agg [.sc (.int .i64 s.f), .sc (.int .i64 s.t)]
/-- A region: a clause's part; with its span. -/
structure Pt where
  k : Int
  p : Int
  s : Sn
deriving DecidableEq
def ptV (x : Pt) : AV := .agg [.sc (.int .i64 x.k), .sc (.int .i64 x.p), .sc (.int .i64 x.s.f), .sc (.int .i64 x.s.t)]
def rgV (x : Pt) : AV := .agg [.sc (.int .i64 x.k), .sc (.int .i64 x.p)]

def hasS (s : Sn) (at' : Int) : Bool := decide (s.f ≤ at') && decide (at' < s.t)
def meetsS (s t : Sn) : Bool := decide (s.f < t.t) && decide (t.f < s.t)
def withinS (s t : Sn) : Bool := !decide (s = t) && (decide (t.f ≤ s.f) && decide (s.t ≤ t.t))
def insideS (s : Sn) (n : Int) : Bool := decide (0 ≤ s.f) && (decide (s.f < s.t) && decide (s.t ≤ n))

theorem has_ok (s : Sn) (x : Int) (σ : AS) : ACalls Try.prog 76 [snV s, .sc (.int .i64 x)] σ (Gives (.sc (.bool (hasS s x))) σ) No := by
  refine ACalls.of_body Try.func76 rfl rfl (by simp [Try.ntmps76]) ?_
  simp only [snV, hasS]
  repeat (first
    | (with_reducible apply AWp.seq)
    | (with_reducible apply AWp.block)
    | ((with_reducible apply AWp.fork); simp -implicitDefEqProofs)
    | ((with_reducible apply AWp.region); simp -implicitDefEqProofs)
    | (with_reducible refine And.intro (by first | omega | assumption | decide) ?_)
    | ((with_reducible apply AWp.ret); try simp -implicitDefEqProofs)
    | ((with_reducible apply AWp.skip); try simp -implicitDefEqProofs)
    | ((with_reducible apply AWp.exit); try simp -implicitDefEqProofs))
  intro id h_id
  repeat' (first
    | (with_reducible apply AWp.seq)
    | (with_reducible apply AWp.block)
    | ((with_reducible apply AWp.fork); simp -implicitDefEqProofs)
    | ((with_reducible apply AWp.region); simp -implicitDefEqProofs)
    | (with_reducible refine And.intro (by first | omega | assumption | decide) ?_)
    | trivial
    | (with_reducible apply And.intro)
    | ((with_reducible apply AWp.ret); try simp -implicitDefEqProofs)
    | ((with_reducible apply AWp.skip); try simp -implicitDefEqProofs)
    | ((with_reducible apply AWp.exit); try simp -implicitDefEqProofs)
    | ((with_reducible apply condK.split) <;> (intro hc; (try simp -implicitDefEqProofs only [hc]); (try simp at hc)) <;> try simp -implicitDefEqProofs)
    | ((with_reducible apply guardK.split) <;> (intro hc; (try simp -implicitDefEqProofs only [hc]); (try simp at hc)) <;> try simp -implicitDefEqProofs)
    | ((with_reducible apply pureG.split) <;> (intro hc; (try simp -implicitDefEqProofs only [hc]); (try simp at hc)) <;> try simp -implicitDefEqProofs))
  all_goals (repeat' (with_reducible apply And.intro))
  all_goals first
    | exact AS.le_refl _
    | ((repeat (first | exact AS.le_refl _ | assumption | refine le_new (by simp [*]) ?_)); done)
    | (refine wk_eq ?_; simp_all [skipV]; done)
    | (refine wk_b ?_; rw [Bool.eq_iff_iff]; simp [*]; omega)
    | (refine wk_eq ?_; simp [*]; omega)
    | (refine wk_eq ?_; split <;> simp_all [skipV]; done)
    | (exfalso; omega)

theorem meets_ok (s t : Sn) (σ : AS) : ACalls Try.prog 86 [snV s, snV t] σ (Gives (.sc (.bool (meetsS s t))) σ) No := by
  refine ACalls.of_body Try.func86 rfl rfl (by simp [Try.ntmps86]) ?_
  simp only [snV, meetsS]
  repeat (first
    | (with_reducible apply AWp.seq)
    | (with_reducible apply AWp.block)
    | ((with_reducible apply AWp.fork); simp -implicitDefEqProofs)
    | ((with_reducible apply AWp.region); simp -implicitDefEqProofs)
    | (with_reducible refine And.intro (by first | omega | assumption | decide) ?_)
    | ((with_reducible apply AWp.ret); try simp -implicitDefEqProofs)
    | ((with_reducible apply AWp.skip); try simp -implicitDefEqProofs)
    | ((with_reducible apply AWp.exit); try simp -implicitDefEqProofs))
  intro id h_id
  repeat (first
    | (with_reducible apply AWp.seq)
    | (with_reducible apply AWp.block)
    | ((with_reducible apply AWp.fork); simp -implicitDefEqProofs)
    | ((with_reducible apply AWp.region); simp -implicitDefEqProofs)
    | (with_reducible refine And.intro (by first | omega | assumption | decide) ?_)
    | ((with_reducible apply AWp.ret); try simp -implicitDefEqProofs)
    | ((with_reducible apply AWp.skip); try simp -implicitDefEqProofs)
    | ((with_reducible apply AWp.exit); try simp -implicitDefEqProofs))
  intro id2 n_id2_id h_id2
  have n_id_id2 : ¬ id = id2 := fun e => n_id2_id e.symm
  repeat' (first
    | (with_reducible apply AWp.seq)
    | (with_reducible apply AWp.block)
    | ((with_reducible apply AWp.fork); simp -implicitDefEqProofs [n_id2_id, n_id_id2])
    | ((with_reducible apply AWp.region); simp -implicitDefEqProofs [n_id2_id, n_id_id2])
    | (with_reducible refine And.intro (by first | omega | assumption | decide) ?_)
    | ((with_reducible show condK _ _ _); simp -implicitDefEqProofs [n_id2_id, n_id_id2])
    | ((with_reducible show guardK _ _ _ _ _ _ _ _ _); simp -implicitDefEqProofs [n_id2_id, n_id_id2])
    | trivial
    | (with_reducible apply And.intro)
    | ((with_reducible apply AWp.ret); try simp -implicitDefEqProofs [n_id2_id, n_id_id2])
    | ((with_reducible apply AWp.skip); try simp -implicitDefEqProofs [n_id2_id, n_id_id2])
    | ((with_reducible apply AWp.exit); try simp -implicitDefEqProofs [n_id2_id, n_id_id2])
    | ((with_reducible apply condK.split) <;> (intro hc; (try simp -implicitDefEqProofs only [hc]); (try simp at hc)) <;> try simp -implicitDefEqProofs [n_id2_id, n_id_id2])
    | ((with_reducible apply guardK.split) <;> (intro hc; (try simp -implicitDefEqProofs only [hc]); (try simp at hc)) <;> try simp -implicitDefEqProofs [n_id2_id, n_id_id2])
    | ((with_reducible apply pureG.split) <;> (intro hc; (try simp -implicitDefEqProofs only [hc]); (try simp at hc)) <;> try simp -implicitDefEqProofs [n_id2_id, n_id_id2]))
  all_goals (repeat' (with_reducible apply And.intro))
  all_goals first
    | exact AS.le_refl _
    | ((repeat (first | exact AS.le_refl _ | assumption | refine le_new (by simp [*]) ?_)); done)
    | (refine wk_eq ?_; simp_all [skipV]; done)
    | (refine wk_b ?_; rw [Bool.eq_iff_iff]; simp [*]; omega)
    | (refine wk_eq ?_; simp [*]; omega)
    | (refine wk_eq ?_; split <;> simp_all [skipV]; done)
    | (exfalso; omega)

theorem sh_sn : Program.stoodInHeld Try.prog 62 = false := by kernel_rfl
@[simp] theorem eg_sn : Program.eqGuardType Try.prog Try.prog.depth 62 = false := by kernel_rfl
@[simp] theorem eq_sn (a b a' b' : Int) : eqAV Try.prog 8 62 (.agg [.sc (.int .i64 a), .sc (.int .i64 b)]) (.agg [.sc (.int .i64 a'), .sc (.int .i64 b')]) = some (decide (a = a') && decide (b = b')) := by
  simp [eqAV, eqFs, sh_sn, Try.underlying62, Try.underlying3]
theorem sh_rg : Program.stoodInHeld Try.prog 47 = false := by kernel_rfl
@[simp] theorem eg_rg : Program.eqGuardType Try.prog Try.prog.depth 47 = false := by kernel_rfl
@[simp] theorem eq_rg (a b a' b' : Int) : eqAV Try.prog 8 47 (.agg [.sc (.int .i64 a), .sc (.int .i64 b)]) (.agg [.sc (.int .i64 a'), .sc (.int .i64 b')]) = some (decide (a = a') && decide (b = b')) := by
  simp [eqAV, eqFs, sh_rg, Try.underlying47, Try.underlying3]

theorem within_ok (s t : Sn) (σ : AS) : ACalls Try.prog 70 [snV s, snV t] σ (Gives (.sc (.bool (withinS s t))) σ) No := by
  obtain ⟨a, b⟩ := s
  obtain ⟨c, d⟩ := t
  refine ACalls.of_body Try.func70 rfl rfl (by simp [Try.ntmps70]) ?_
  simp only [snV, withinS]
  repeat (first
    | (with_reducible apply AWp.seq)
    | (with_reducible apply AWp.block)
    | ((with_reducible apply AWp.fork); simp -implicitDefEqProofs)
    | ((with_reducible apply AWp.region); simp -implicitDefEqProofs)
    | (with_reducible refine And.intro (by first | omega | assumption | decide) ?_)
    | ((with_reducible apply AWp.ret); try simp -implicitDefEqProofs)
    | ((with_reducible apply AWp.skip); try simp -implicitDefEqProofs)
    | ((with_reducible apply AWp.exit); try simp -implicitDefEqProofs))
  intro id h_id
  repeat (first
    | (with_reducible apply AWp.seq)
    | (with_reducible apply AWp.block)
    | ((with_reducible apply AWp.fork); simp -implicitDefEqProofs)
    | ((with_reducible apply AWp.region); simp -implicitDefEqProofs)
    | (with_reducible refine And.intro (by first | omega | assumption | decide) ?_)
    | ((with_reducible apply AWp.ret); try simp -implicitDefEqProofs)
    | ((with_reducible apply AWp.skip); try simp -implicitDefEqProofs)
    | ((with_reducible apply AWp.exit); try simp -implicitDefEqProofs))
  intro id2 n_id2_id h_id2
  have n_id_id2 : ¬ id = id2 := fun e => n_id2_id e.symm
  repeat' (first
    | (with_reducible apply AWp.seq)
    | (with_reducible apply AWp.block)
    | ((with_reducible apply AWp.fork); simp -implicitDefEqProofs [n_id2_id, n_id_id2])
    | ((with_reducible apply AWp.region); simp -implicitDefEqProofs [n_id2_id, n_id_id2])
    | (with_reducible refine And.intro (by first | omega | assumption | decide) ?_)
    | ((with_reducible show condK _ _ _); simp -implicitDefEqProofs [n_id2_id, n_id_id2])
    | ((with_reducible show guardK _ _ _ _ _ _ _ _ _); simp -implicitDefEqProofs [n_id2_id, n_id_id2])
    | trivial
    | (with_reducible apply And.intro)
    | ((with_reducible apply AWp.ret); try simp -implicitDefEqProofs [n_id2_id, n_id_id2])
    | ((with_reducible apply AWp.skip); try simp -implicitDefEqProofs [n_id2_id, n_id_id2])
    | ((with_reducible apply AWp.exit); try simp -implicitDefEqProofs [n_id2_id, n_id_id2])
    | ((with_reducible apply condK.split) <;> (intro hc; (try simp -implicitDefEqProofs only [hc]); (try simp at hc)) <;> try simp -implicitDefEqProofs [n_id2_id, n_id_id2])
    | ((with_reducible apply guardK.split) <;> (intro hc; (try simp -implicitDefEqProofs only [hc]); (try simp at hc)) <;> try simp -implicitDefEqProofs [n_id2_id, n_id_id2])
    | ((with_reducible apply pureG.split) <;> (intro hc; (try simp -implicitDefEqProofs only [hc]); (try simp at hc)) <;> try simp -implicitDefEqProofs [n_id2_id, n_id_id2]))
  all_goals (repeat' (with_reducible apply And.intro))
  all_goals first
    | exact AS.le_refl _
    | ((repeat (first | exact AS.le_refl _ | assumption | refine le_new (by simp [*]) ?_)); done)
    | (refine wk_eq ?_; simp_all [skipV]; done)
    | (refine wk_b ?_; rw [Bool.eq_iff_iff]; simp [*]; omega)
    | (refine wk_eq ?_; simp [*]; omega)
    | (refine wk_eq ?_; split <;> simp_all [skipV]; done)
    | (exfalso; omega)

theorem inside_ok (s : Sn) (n : Int) (σ : AS) : ACalls Try.prog 64 [snV s, .sc (.int .i64 n)] σ (Gives (.sc (.bool (insideS s n))) σ) No := by
  refine ACalls.of_body Try.func64 rfl rfl (by simp [Try.ntmps64]) ?_
  simp only [snV, insideS]
  repeat (first
    | (with_reducible apply AWp.seq)
    | (with_reducible apply AWp.block)
    | ((with_reducible apply AWp.fork); simp -implicitDefEqProofs)
    | ((with_reducible apply AWp.region); simp -implicitDefEqProofs)
    | (with_reducible refine And.intro (by first | omega | assumption | decide) ?_)
    | ((with_reducible apply AWp.ret); try simp -implicitDefEqProofs)
    | ((with_reducible apply AWp.skip); try simp -implicitDefEqProofs)
    | ((with_reducible apply AWp.exit); try simp -implicitDefEqProofs))
  intro id h_id
  repeat' (first
    | (with_reducible apply AWp.seq)
    | (with_reducible apply AWp.block)
    | ((with_reducible apply AWp.fork); simp -implicitDefEqProofs)
    | ((with_reducible apply AWp.region); simp -implicitDefEqProofs)
    | (with_reducible refine And.intro (by first | omega | assumption | decide) ?_)
    | trivial
    | (with_reducible apply And.intro)
    | ((with_reducible apply AWp.ret); try simp -implicitDefEqProofs)
    | ((with_reducible apply AWp.skip); try simp -implicitDefEqProofs)
    | ((with_reducible apply AWp.exit); try simp -implicitDefEqProofs)
    | ((with_reducible apply condK.split) <;> (intro hc; (try simp -implicitDefEqProofs only [hc]); (try simp at hc)) <;> try simp -implicitDefEqProofs)
    | ((with_reducible apply guardK.split) <;> (intro hc; (try simp -implicitDefEqProofs only [hc]); (try simp at hc)) <;> try simp -implicitDefEqProofs)
    | ((with_reducible apply pureG.split) <;> (intro hc; (try simp -implicitDefEqProofs only [hc]); (try simp at hc)) <;> try simp -implicitDefEqProofs))
  all_goals (repeat' (with_reducible apply And.intro))
  all_goals first
    | exact AS.le_refl _
    | ((repeat (first | exact AS.le_refl _ | assumption | refine le_new (by simp [*]) ?_)); done)
    | (refine wk_eq ?_; simp_all [skipV]; done)
    | (refine wk_b ?_; rw [Bool.eq_iff_iff]; simp [*]; omega)
    | (refine wk_eq ?_; simp [*]; omega)
    | (refine wk_eq ?_; split <;> simp_all [skipV]; done)
    | (exfalso; omega)

def partsS (k : Int) (c : Cl) : List Pt := [⟨k, 1, ⟨c.tf, c.tt⟩⟩, ⟨k, 2, ⟨c.hf, c.ht⟩⟩] ++ (if c.k = 2 then [⟨k, 3, ⟨c.fl, c.hf⟩⟩] else [])
def ptsV (l : List Pt) : AV := .lst 64 (l.map ptV) .unk false

theorem parts_ok (k : Int) (c : Cl) (σ : AS) : ACalls Try.prog 66 [.sc (.int .i64 k), clV c] σ (Gives (ptsV (partsS k c)) σ) No := by
  refine ACalls.of_body Try.func66 rfl rfl (by simp [Try.ntmps66]) ?_
  simp only [clV, ptsV, partsS, i64v_def]
  repeat (first
    | (with_reducible apply AWp.seq)
    | (with_reducible apply AWp.block)
    | ((with_reducible apply AWp.fork); simp -implicitDefEqProofs)
    | ((with_reducible apply AWp.region); simp -implicitDefEqProofs)
    | (with_reducible refine And.intro (by first | omega | assumption | decide) ?_)
    | ((with_reducible apply AWp.ret); try simp -implicitDefEqProofs)
    | ((with_reducible apply AWp.skip); try simp -implicitDefEqProofs)
    | ((with_reducible apply AWp.exit); try simp -implicitDefEqProofs))
  intro id h_id
  by_cases h : c.k = 2
  · repeat (first
      | (with_reducible apply AWp.seq)
      | (with_reducible apply AWp.block)
      | ((with_reducible apply AWp.fork); simp -implicitDefEqProofs [h])
      | ((with_reducible apply AWp.region); simp -implicitDefEqProofs [h])
      | (with_reducible refine And.intro (by first | omega | assumption | decide) ?_)
      | ((with_reducible show condK _ _ _); simp -implicitDefEqProofs [h])
      | ((with_reducible show guardK _ _ _ _ _ _ _ _ _); simp -implicitDefEqProofs [h])
      | ((with_reducible apply AWp.ret); try simp -implicitDefEqProofs [h])
      | ((with_reducible apply AWp.skip); try simp -implicitDefEqProofs [h])
      | ((with_reducible apply AWp.exit); try simp -implicitDefEqProofs [h]))
    intro tk n_tk_id h_tk
    have n_id_tk : ¬ id = tk := fun e => n_tk_id e.symm
    repeat (first
      | (with_reducible apply AWp.seq)
      | (with_reducible apply AWp.block)
      | ((with_reducible apply AWp.fork); simp -implicitDefEqProofs [n_tk_id, n_id_tk])
      | ((with_reducible apply AWp.region); simp -implicitDefEqProofs [n_tk_id, n_id_tk])
      | (with_reducible refine And.intro (by first | omega | assumption | decide) ?_)
      | ((with_reducible show condK _ _ _); simp -implicitDefEqProofs [n_tk_id, n_id_tk])
      | ((with_reducible show guardK _ _ _ _ _ _ _ _ _); simp -implicitDefEqProofs [n_tk_id, n_id_tk])
      | ((with_reducible apply AWp.ret); try simp -implicitDefEqProofs [n_tk_id, n_id_tk])
      | ((with_reducible apply AWp.skip); try simp -implicitDefEqProofs [n_tk_id, n_id_tk])
      | ((with_reducible apply AWp.exit); try simp -implicitDefEqProofs [n_tk_id, n_id_tk]))
    simp [ptV]
    all_goals (repeat' (with_reducible apply And.intro))
    all_goals first
      | exact AS.le_refl _
      | ((repeat (first | exact AS.le_refl _ | assumption | refine le_new (by simp [*]) ?_)); done)
      | (refine wk_eq ?_; simp_all [skipV]; done)
      | (refine wk_b ?_; rw [Bool.eq_iff_iff]; simp [*]; omega)
      | (refine wk_eq ?_; simp [*]; omega)
      | (refine wk_eq ?_; split <;> simp_all [skipV]; done)
      | (exfalso; omega)
  · repeat (first
      | (with_reducible apply AWp.seq)
      | (with_reducible apply AWp.block)
      | ((with_reducible apply AWp.fork); simp -implicitDefEqProofs [h])
      | ((with_reducible apply AWp.region); simp -implicitDefEqProofs [h])
      | (with_reducible refine And.intro (by first | omega | assumption | decide) ?_)
      | ((with_reducible show condK _ _ _); simp -implicitDefEqProofs [h])
      | ((with_reducible show guardK _ _ _ _ _ _ _ _ _); simp -implicitDefEqProofs [h])
      | ((with_reducible apply AWp.ret); try simp -implicitDefEqProofs [h])
      | ((with_reducible apply AWp.skip); try simp -implicitDefEqProofs [h])
      | ((with_reducible apply AWp.exit); try simp -implicitDefEqProofs [h]))
    simp [ptV]
    all_goals (repeat' (with_reducible apply And.intro))
    all_goals first
      | exact AS.le_refl _
      | ((repeat (first | exact AS.le_refl _ | assumption | refine le_new (by simp [*]) ?_)); done)
      | (refine wk_eq ?_; simp_all [skipV]; done)
      | (refine wk_b ?_; rw [Bool.eq_iff_iff]; simp [*]; omega)
      | (refine wk_eq ?_; simp [*]; omega)
      | (refine wk_eq ?_; split <;> simp_all [skipV]; done)
      | (exfalso; omega)

end Go.Proofs.Ythbmjmdmamapiaa
