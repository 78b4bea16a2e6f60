/- Chapter 22: Next, Finals, Handler, Keeps, Leaves, of the program and the document. -/
import Derived.Test.YthbmjmdmamapiaaUnwA
set_option linter.unusedSimpArgs false
set_option linter.unusedVariables false
set_option maxRecDepth 100000
set_option maxHeartbeats 3200000
namespace Go.Proofs.Ythbmjmdmamapiaa
open Go Go.AW

def mayC (l : List Cl) (x f : Int) (c : Cl) : Bool := (decide (c.k = 1) || decide (c.k = 2)) && askS l x f c
def finC (l : List Cl) (x f : Int) (c : Cl) : Bool := (decide (c.k = 3) || decide (c.k = 4)) && askS l x f c
def hdS : List Int → Int
  | [] => -1
  | x :: _ => x
def nextS (l : List Cl) (x f a : Int) : Int := hdS (someI (fun k c => decide (a < k) && mayC l x f c) 0 l)
def finsS (l : List Cl) (x f u : Int) : List Int := someI (fun k c => (decide (u < 0) || decide ((k : Int) < u)) && finC l x f c) 0 l

theorem next1_ok (l : List Cl) (o : Own) (nl : Bool) (x f : Int) (c : Cl) (id id2 id3 : Nat) (hl : l.length ≤ 1000) (σ : AS) (h1 : σ id = some (.cells 22 [clsV l o nl])) (h2 : σ id2 = some (.cells 3 [.sc (.int .i64 x)])) (h3 : σ id3 = some (.cells 3 [.sc (.int .i64 f)])) :
    ACalls Try.prog 58 [clV c, .ptr id 0, .ptr id2 0, .ptr id3 0] σ (Gives (.sc (.bool (mayC l x f c))) σ) No := by
  have ha := fun σ => asked_ok l o nl c x f (by omega) σ
  unfold mayC
  simp only [clsV, clV_def] at ha h1 ⊢
  generalize askS l x f c = b at *
  refine ACalls.of_body Try.func58 rfl rfl (by simp [Try.ntmps58]) ?_
  repeat (first
    | (with_reducible apply AWp.seq)
    | (with_reducible apply AWp.block)
    | ((with_reducible apply AWp.fork); simp -implicitDefEqProofs)
    | ((with_reducible apply AWp.region); simp -implicitDefEqProofs)
    | (with_reducible refine And.intro (by first | omega | assumption | decide) ?_)
    | ((with_reducible apply AWp.ret); try simp -implicitDefEqProofs)
    | ((with_reducible apply AWp.skip); try simp -implicitDefEqProofs)
    | ((with_reducible apply AWp.exit); try simp -implicitDefEqProofs))
  intro id4 h_id4
  have n_id_id4 : ¬ id = id4 := by rintro rfl; rw [h1] at h_id4; cases h_id4
  have n_id4_id : ¬ id4 = id := fun e => n_id_id4 e.symm
  have n_id2_id4 : ¬ id2 = id4 := by rintro rfl; rw [h2] at h_id4; cases h_id4
  have n_id4_id2 : ¬ id4 = id2 := fun e => n_id2_id4 e.symm
  have n_id3_id4 : ¬ id3 = id4 := by rintro rfl; rw [h3] at h_id4; cases h_id4
  have n_id4_id3 : ¬ id4 = id3 := fun e => n_id3_id4 e.symm
  by_cases k1 : c.k = 1
  · replace k1 := eq_true k1
    repeat (first
      | (with_reducible apply AWp.seq)
      | (with_reducible apply AWp.block)
      | ((with_reducible apply AWp.fork); simp -implicitDefEqProofs [k1, n_id4_id, n_id_id4, h1, n_id4_id2, n_id2_id4, h2, n_id4_id3, n_id3_id4, h3])
      | ((with_reducible apply AWp.region); simp -implicitDefEqProofs [k1, n_id4_id, n_id_id4, h1, n_id4_id2, n_id2_id4, h2, n_id4_id3, n_id3_id4, h3])
      | (with_reducible refine And.intro (by first | omega | assumption | decide) ?_)
      | ((with_reducible show condK _ _ _); simp -implicitDefEqProofs [k1, n_id4_id, n_id_id4, h1, n_id4_id2, n_id2_id4, h2, n_id4_id3, n_id3_id4, h3])
      | ((with_reducible show guardK _ _ _ _ _ _ _ _ _); simp -implicitDefEqProofs [k1, n_id4_id, n_id_id4, h1, n_id4_id2, n_id2_id4, h2, n_id4_id3, n_id3_id4, h3])
      | ((with_reducible apply aCall.id); first
          | ((apply aCall.gives (ha _)); simp -implicitDefEqProofs [k1, n_id4_id, n_id_id4, h1, n_id4_id2, n_id2_id4, h2, n_id4_id3, n_id3_id4, h3]))
      | ((with_reducible apply AWp.ret); try simp -implicitDefEqProofs [k1, n_id4_id, n_id_id4, h1, n_id4_id2, n_id2_id4, h2, n_id4_id3, n_id3_id4, h3])
      | ((with_reducible apply AWp.skip); try simp -implicitDefEqProofs [k1, n_id4_id, n_id_id4, h1, n_id4_id2, n_id2_id4, h2, n_id4_id3, n_id3_id4, h3])
      | ((with_reducible apply AWp.exit); try simp -implicitDefEqProofs [k1, n_id4_id, n_id_id4, h1, n_id4_id2, n_id2_id4, h2, n_id4_id3, n_id3_id4, h3]))
    all_goals (repeat' (with_reducible apply And.intro))
    all_goals first
      | exact AS.le_refl _
      | ((repeat (first | exact AS.le_refl _ | assumption | refine le_new (by simp [*]) ?_)); done)
      | (refine wk_eq ?_; simp_all [skipV]; done)
      | (refine wk_b ?_; rw [Bool.eq_iff_iff]; simp [*]; omega)
      | (refine wk_eq ?_; simp [*]; omega)
      | (refine wk_eq ?_; split <;> simp_all [skipV]; done)
      | (exfalso; omega)
  · replace k1 := eq_false k1
    by_cases k2 : c.k = 2
    · replace k2 := eq_true k2
      repeat (first
        | (with_reducible apply AWp.seq)
        | (with_reducible apply AWp.block)
        | ((with_reducible apply AWp.fork); simp -implicitDefEqProofs [k1, k2, n_id4_id, n_id_id4, h1, n_id4_id2, n_id2_id4, h2, n_id4_id3, n_id3_id4, h3])
        | ((with_reducible apply AWp.region); simp -implicitDefEqProofs [k1, k2, n_id4_id, n_id_id4, h1, n_id4_id2, n_id2_id4, h2, n_id4_id3, n_id3_id4, h3])
        | (with_reducible refine And.intro (by first | omega | assumption | decide) ?_)
        | ((with_reducible show condK _ _ _); simp -implicitDefEqProofs [k1, k2, n_id4_id, n_id_id4, h1, n_id4_id2, n_id2_id4, h2, n_id4_id3, n_id3_id4, h3])
        | ((with_reducible show guardK _ _ _ _ _ _ _ _ _); simp -implicitDefEqProofs [k1, k2, n_id4_id, n_id_id4, h1, n_id4_id2, n_id2_id4, h2, n_id4_id3, n_id3_id4, h3])
        | ((with_reducible apply aCall.id); first
            | ((apply aCall.gives (ha _)); simp -implicitDefEqProofs [k1, k2, n_id4_id, n_id_id4, h1, n_id4_id2, n_id2_id4, h2, n_id4_id3, n_id3_id4, h3]))
        | ((with_reducible apply AWp.ret); try simp -implicitDefEqProofs [k1, k2, n_id4_id, n_id_id4, h1, n_id4_id2, n_id2_id4, h2, n_id4_id3, n_id3_id4, h3])
        | ((with_reducible apply AWp.skip); try simp -implicitDefEqProofs [k1, k2, n_id4_id, n_id_id4, h1, n_id4_id2, n_id2_id4, h2, n_id4_id3, n_id3_id4, h3])
        | ((with_reducible apply AWp.exit); try simp -implicitDefEqProofs [k1, k2, n_id4_id, n_id_id4, h1, n_id4_id2, n_id2_id4, h2, n_id4_id3, n_id3_id4, h3]))
      all_goals (repeat' (with_reducible apply And.intro))
      all_goals first
        | exact AS.le_refl _
        | ((repeat (first | exact AS.le_refl _ | assumption | refine le_new (by simp [*]) ?_)); done)
        | (refine wk_eq ?_; simp_all [skipV]; done)
        | (refine wk_b ?_; rw [Bool.eq_iff_iff]; simp [*]; omega)
        | (refine wk_eq ?_; simp [*]; omega)
        | (refine wk_eq ?_; split <;> simp_all [skipV]; done)
        | (exfalso; omega)
    · replace k2 := eq_false k2
      repeat (first
        | (with_reducible apply AWp.seq)
        | (with_reducible apply AWp.block)
        | ((with_reducible apply AWp.fork); simp -implicitDefEqProofs [k1, k2, n_id4_id, n_id_id4, h1, n_id4_id2, n_id2_id4, h2, n_id4_id3, n_id3_id4, h3])
        | ((with_reducible apply AWp.region); simp -implicitDefEqProofs [k1, k2, n_id4_id, n_id_id4, h1, n_id4_id2, n_id2_id4, h2, n_id4_id3, n_id3_id4, h3])
        | (with_reducible refine And.intro (by first | omega | assumption | decide) ?_)
        | ((with_reducible show condK _ _ _); simp -implicitDefEqProofs [k1, k2, n_id4_id, n_id_id4, h1, n_id4_id2, n_id2_id4, h2, n_id4_id3, n_id3_id4, h3])
        | ((with_reducible show guardK _ _ _ _ _ _ _ _ _); simp -implicitDefEqProofs [k1, k2, n_id4_id, n_id_id4, h1, n_id4_id2, n_id2_id4, h2, n_id4_id3, n_id3_id4, h3])
        | ((with_reducible apply aCall.id); first
            | ((apply aCall.gives (ha _)); simp -implicitDefEqProofs [k1, k2, n_id4_id, n_id_id4, h1, n_id4_id2, n_id2_id4, h2, n_id4_id3, n_id3_id4, h3]))
        | ((with_reducible apply AWp.ret); try simp -implicitDefEqProofs [k1, k2, n_id4_id, n_id_id4, h1, n_id4_id2, n_id2_id4, h2, n_id4_id3, n_id3_id4, h3])
        | ((with_reducible apply AWp.skip); try simp -implicitDefEqProofs [k1, k2, n_id4_id, n_id_id4, h1, n_id4_id2, n_id2_id4, h2, n_id4_id3, n_id3_id4, h3])
        | ((with_reducible apply AWp.exit); try simp -implicitDefEqProofs [k1, k2, n_id4_id, n_id_id4, h1, n_id4_id2, n_id2_id4, h2, n_id4_id3, n_id3_id4, h3]))
      all_goals (repeat' (with_reducible apply And.intro))
      all_goals first
        | exact AS.le_refl _
        | ((repeat (first | exact AS.le_refl _ | assumption | refine le_new (by simp [*]) ?_)); done)
        | (refine wk_eq ?_; simp_all [skipV]; done)
        | (refine wk_b ?_; rw [Bool.eq_iff_iff]; simp [*]; omega)
        | (refine wk_eq ?_; simp [*]; omega)
        | (refine wk_eq ?_; split <;> simp_all [skipV]; done)
        | (exfalso; omega)
theorem fins1_ok (l : List Cl) (o : Own) (nl : Bool) (x f : Int) (c : Cl) (id id2 id3 : Nat) (hl : l.length ≤ 1000) (σ : AS) (h1 : σ id = some (.cells 22 [clsV l o nl])) (h2 : σ id2 = some (.cells 3 [.sc (.int .i64 x)])) (h3 : σ id3 = some (.cells 3 [.sc (.int .i64 f)])) :
    ACalls Try.prog 60 [clV c, .ptr id 0, .ptr id2 0, .ptr id3 0] σ (Gives (.sc (.bool (finC l x f c))) σ) No := by
  have ha := fun σ => asked_ok l o nl c x f (by omega) σ
  unfold finC
  simp only [clsV, clV_def] at ha h1 ⊢
  generalize askS l x f c = b at *
  refine ACalls.of_body Try.func60 rfl rfl (by simp [Try.ntmps60]) ?_
  repeat (first
    | (with_reducible apply AWp.seq)
    | (with_reducible apply AWp.block)
    | ((with_reducible apply AWp.fork); simp -implicitDefEqProofs)
    | ((with_reducible apply AWp.region); simp -implicitDefEqProofs)
    | (with_reducible refine And.intro (by first | omega | assumption | decide) ?_)
    | ((with_reducible apply AWp.ret); try simp -implicitDefEqProofs)
    | ((with_reducible apply AWp.skip); try simp -implicitDefEqProofs)
    | ((with_reducible apply AWp.exit); try simp -implicitDefEqProofs))
  intro id4 h_id4
  have n_id_id4 : ¬ id = id4 := by rintro rfl; rw [h1] at h_id4; cases h_id4
  have n_id4_id : ¬ id4 = id := fun e => n_id_id4 e.symm
  have n_id2_id4 : ¬ id2 = id4 := by rintro rfl; rw [h2] at h_id4; cases h_id4
  have n_id4_id2 : ¬ id4 = id2 := fun e => n_id2_id4 e.symm
  have n_id3_id4 : ¬ id3 = id4 := by rintro rfl; rw [h3] at h_id4; cases h_id4
  have n_id4_id3 : ¬ id4 = id3 := fun e => n_id3_id4 e.symm
  by_cases k1 : c.k = 3
  · replace k1 := eq_true k1
    repeat (first
      | (with_reducible apply AWp.seq)
      | (with_reducible apply AWp.block)
      | ((with_reducible apply AWp.fork); simp -implicitDefEqProofs [k1, n_id4_id, n_id_id4, h1, n_id4_id2, n_id2_id4, h2, n_id4_id3, n_id3_id4, h3])
      | ((with_reducible apply AWp.region); simp -implicitDefEqProofs [k1, n_id4_id, n_id_id4, h1, n_id4_id2, n_id2_id4, h2, n_id4_id3, n_id3_id4, h3])
      | (with_reducible refine And.intro (by first | omega | assumption | decide) ?_)
      | ((with_reducible show condK _ _ _); simp -implicitDefEqProofs [k1, n_id4_id, n_id_id4, h1, n_id4_id2, n_id2_id4, h2, n_id4_id3, n_id3_id4, h3])
      | ((with_reducible show guardK _ _ _ _ _ _ _ _ _); simp -implicitDefEqProofs [k1, n_id4_id, n_id_id4, h1, n_id4_id2, n_id2_id4, h2, n_id4_id3, n_id3_id4, h3])
      | ((with_reducible apply aCall.id); first
          | ((apply aCall.gives (ha _)); simp -implicitDefEqProofs [k1, n_id4_id, n_id_id4, h1, n_id4_id2, n_id2_id4, h2, n_id4_id3, n_id3_id4, h3]))
      | ((with_reducible apply AWp.ret); try simp -implicitDefEqProofs [k1, n_id4_id, n_id_id4, h1, n_id4_id2, n_id2_id4, h2, n_id4_id3, n_id3_id4, h3])
      | ((with_reducible apply AWp.skip); try simp -implicitDefEqProofs [k1, n_id4_id, n_id_id4, h1, n_id4_id2, n_id2_id4, h2, n_id4_id3, n_id3_id4, h3])
      | ((with_reducible apply AWp.exit); try simp -implicitDefEqProofs [k1, n_id4_id, n_id_id4, h1, n_id4_id2, n_id2_id4, h2, n_id4_id3, n_id3_id4, h3]))
    all_goals (repeat' (with_reducible apply And.intro))
    all_goals first
      | exact AS.le_refl _
      | ((repeat (first | exact AS.le_refl _ | assumption | refine le_new (by simp [*]) ?_)); done)
      | (refine wk_eq ?_; simp_all [skipV]; done)
      | (refine wk_b ?_; rw [Bool.eq_iff_iff]; simp [*]; omega)
      | (refine wk_eq ?_; simp [*]; omega)
      | (refine wk_eq ?_; split <;> simp_all [skipV]; done)
      | (exfalso; omega)
  · replace k1 := eq_false k1
    by_cases k2 : c.k = 4
    · replace k2 := eq_true k2
      repeat (first
        | (with_reducible apply AWp.seq)
        | (with_reducible apply AWp.block)
        | ((with_reducible apply AWp.fork); simp -implicitDefEqProofs [k1, k2, n_id4_id, n_id_id4, h1, n_id4_id2, n_id2_id4, h2, n_id4_id3, n_id3_id4, h3])
        | ((with_reducible apply AWp.region); simp -implicitDefEqProofs [k1, k2, n_id4_id, n_id_id4, h1, n_id4_id2, n_id2_id4, h2, n_id4_id3, n_id3_id4, h3])
        | (with_reducible refine And.intro (by first | omega | assumption | decide) ?_)
        | ((with_reducible show condK _ _ _); simp -implicitDefEqProofs [k1, k2, n_id4_id, n_id_id4, h1, n_id4_id2, n_id2_id4, h2, n_id4_id3, n_id3_id4, h3])
        | ((with_reducible show guardK _ _ _ _ _ _ _ _ _); simp -implicitDefEqProofs [k1, k2, n_id4_id, n_id_id4, h1, n_id4_id2, n_id2_id4, h2, n_id4_id3, n_id3_id4, h3])
        | ((with_reducible apply aCall.id); first
            | ((apply aCall.gives (ha _)); simp -implicitDefEqProofs [k1, k2, n_id4_id, n_id_id4, h1, n_id4_id2, n_id2_id4, h2, n_id4_id3, n_id3_id4, h3]))
        | ((with_reducible apply AWp.ret); try simp -implicitDefEqProofs [k1, k2, n_id4_id, n_id_id4, h1, n_id4_id2, n_id2_id4, h2, n_id4_id3, n_id3_id4, h3])
        | ((with_reducible apply AWp.skip); try simp -implicitDefEqProofs [k1, k2, n_id4_id, n_id_id4, h1, n_id4_id2, n_id2_id4, h2, n_id4_id3, n_id3_id4, h3])
        | ((with_reducible apply AWp.exit); try simp -implicitDefEqProofs [k1, k2, n_id4_id, n_id_id4, h1, n_id4_id2, n_id2_id4, h2, n_id4_id3, n_id3_id4, h3]))
      all_goals (repeat' (with_reducible apply And.intro))
      all_goals first
        | exact AS.le_refl _
        | ((repeat (first | exact AS.le_refl _ | assumption | refine le_new (by simp [*]) ?_)); done)
        | (refine wk_eq ?_; simp_all [skipV]; done)
        | (refine wk_b ?_; rw [Bool.eq_iff_iff]; simp [*]; omega)
        | (refine wk_eq ?_; simp [*]; omega)
        | (refine wk_eq ?_; split <;> simp_all [skipV]; done)
        | (exfalso; omega)
    · replace k2 := eq_false k2
      repeat (first
        | (with_reducible apply AWp.seq)
        | (with_reducible apply AWp.block)
        | ((with_reducible apply AWp.fork); simp -implicitDefEqProofs [k1, k2, n_id4_id, n_id_id4, h1, n_id4_id2, n_id2_id4, h2, n_id4_id3, n_id3_id4, h3])
        | ((with_reducible apply AWp.region); simp -implicitDefEqProofs [k1, k2, n_id4_id, n_id_id4, h1, n_id4_id2, n_id2_id4, h2, n_id4_id3, n_id3_id4, h3])
        | (with_reducible refine And.intro (by first | omega | assumption | decide) ?_)
        | ((with_reducible show condK _ _ _); simp -implicitDefEqProofs [k1, k2, n_id4_id, n_id_id4, h1, n_id4_id2, n_id2_id4, h2, n_id4_id3, n_id3_id4, h3])
        | ((with_reducible show guardK _ _ _ _ _ _ _ _ _); simp -implicitDefEqProofs [k1, k2, n_id4_id, n_id_id4, h1, n_id4_id2, n_id2_id4, h2, n_id4_id3, n_id3_id4, h3])
        | ((with_reducible apply aCall.id); first
            | ((apply aCall.gives (ha _)); simp -implicitDefEqProofs [k1, k2, n_id4_id, n_id_id4, h1, n_id4_id2, n_id2_id4, h2, n_id4_id3, n_id3_id4, h3]))
        | ((with_reducible apply AWp.ret); try simp -implicitDefEqProofs [k1, k2, n_id4_id, n_id_id4, h1, n_id4_id2, n_id2_id4, h2, n_id4_id3, n_id3_id4, h3])
        | ((with_reducible apply AWp.skip); try simp -implicitDefEqProofs [k1, k2, n_id4_id, n_id_id4, h1, n_id4_id2, n_id2_id4, h2, n_id4_id3, n_id3_id4, h3])
        | ((with_reducible apply AWp.exit); try simp -implicitDefEqProofs [k1, k2, n_id4_id, n_id_id4, h1, n_id4_id2, n_id2_id4, h2, n_id4_id3, n_id3_id4, h3]))
      all_goals (repeat' (with_reducible apply And.intro))
      all_goals first
        | exact AS.le_refl _
        | ((repeat (first | exact AS.le_refl _ | assumption | refine le_new (by simp [*]) ?_)); done)
        | (refine wk_eq ?_; simp_all [skipV]; done)
        | (refine wk_b ?_; rw [Bool.eq_iff_iff]; simp [*]; omega)
        | (refine wk_eq ?_; simp [*]; omega)
        | (refine wk_eq ?_; split <;> simp_all [skipV]; done)
        | (exfalso; omega)

theorem head_map {L : List Int} {h : 0 < L.length} : L[0] = hdS L := by
  cases L with
  | nil => simp at h
  | cons x r => rfl

theorem next_ok (l : List Cl) (o : Own) (nl : Bool) (x f a : Int) (hl : l.length ≤ 1000) (ha : -9223372036854775808 ≤ a) (σ : AS) :
    ACalls Try.prog 32 [clsV l o nl, .sc (.int .i64 x), .sc (.int .i64 f), .sc (.int .i64 a)] σ (Gives (.sc (.int .i64 (nextS l x f a))) σ) No := by
  unfold nextS
  by_cases hge : (l.length : Int) ≤ a
  · have hn : someI (fun k c => decide (a < k) && mayC l x f c) 0 l = [] := by
      rw [someI_congr (q := fun _ _ => false) (fun j c _ hj => by simp; intro h; omega), someI_none (fun _ _ _ => rfl)]
    rw [hn, hdS]
    simp only [clsV]
    refine ACalls.of_body Try.func32 rfl rfl (by simp [Try.ntmps32]) ?_
    repeat (first
      | (with_reducible apply AWp.seq)
      | (with_reducible apply AWp.block)
      | ((with_reducible apply AWp.fork); simp -implicitDefEqProofs [ci_lt, ci_le])
      | ((with_reducible apply AWp.region); simp -implicitDefEqProofs [ci_lt, ci_le])
      | (with_reducible refine And.intro (by first | omega | assumption | decide) ?_)
      | ((with_reducible show condK _ _ _); simp -implicitDefEqProofs [ci_lt, ci_le])
      | ((with_reducible show guardK _ _ _ _ _ _ _ _ _); simp -implicitDefEqProofs [ci_lt, ci_le])
      | ((with_reducible apply AWp.ret); try simp -implicitDefEqProofs [ci_lt, ci_le])
      | ((with_reducible apply AWp.skip); try simp -implicitDefEqProofs [ci_lt, ci_le])
      | ((with_reducible apply AWp.exit); try simp -implicitDefEqProofs [ci_lt, ci_le]))
    intro id h_id
    repeat (first
      | (with_reducible apply AWp.seq)
      | (with_reducible apply AWp.block)
      | ((with_reducible apply AWp.fork); simp -implicitDefEqProofs [ci_lt, ci_le])
      | ((with_reducible apply AWp.region); simp -implicitDefEqProofs [ci_lt, ci_le])
      | (with_reducible refine And.intro (by first | omega | assumption | decide) ?_)
      | ((with_reducible show condK _ _ _); simp -implicitDefEqProofs [ci_lt, ci_le])
      | ((with_reducible show guardK _ _ _ _ _ _ _ _ _); simp -implicitDefEqProofs [ci_lt, ci_le])
      | ((with_reducible apply AWp.ret); try simp -implicitDefEqProofs [ci_lt, ci_le])
      | ((with_reducible apply AWp.skip); try simp -implicitDefEqProofs [ci_lt, ci_le])
      | ((with_reducible apply AWp.exit); try simp -implicitDefEqProofs [ci_lt, ci_le]))
    intro id2 n_id2_id h_id2
    have n_id_id2 : ¬ id = id2 := fun e => n_id2_id e.symm
    repeat (first
      | (with_reducible apply AWp.seq)
      | (with_reducible apply AWp.block)
      | ((with_reducible apply AWp.fork); simp -implicitDefEqProofs [ci_lt, ci_le, n_id2_id, n_id_id2])
      | ((with_reducible apply AWp.region); simp -implicitDefEqProofs [ci_lt, ci_le, n_id2_id, n_id_id2])
      | (with_reducible refine And.intro (by first | omega | assumption | decide) ?_)
      | ((with_reducible show condK _ _ _); simp -implicitDefEqProofs [ci_lt, ci_le, n_id2_id, n_id_id2])
      | ((with_reducible show guardK _ _ _ _ _ _ _ _ _); simp -implicitDefEqProofs [ci_lt, ci_le, n_id2_id, n_id_id2])
      | ((with_reducible apply AWp.ret); try simp -implicitDefEqProofs [ci_lt, ci_le, n_id2_id, n_id_id2])
      | ((with_reducible apply AWp.skip); try simp -implicitDefEqProofs [ci_lt, ci_le, n_id2_id, n_id_id2])
      | ((with_reducible apply AWp.exit); try simp -implicitDefEqProofs [ci_lt, ci_le, n_id2_id, n_id_id2]))
    intro id3 n_id3_id2 n_id3_id h_id3
    have n_id2_id3 : ¬ id2 = id3 := fun e => n_id3_id2 e.symm
    have n_id_id3 : ¬ id = id3 := fun e => n_id3_id e.symm
    repeat (first
      | (with_reducible apply AWp.seq)
      | (with_reducible apply AWp.block)
      | ((with_reducible apply AWp.fork); simp -implicitDefEqProofs [hge, ci_lt, ci_le, n_id2_id, n_id_id2, n_id3_id2, n_id2_id3, n_id3_id, n_id_id3])
      | ((with_reducible apply AWp.region); simp -implicitDefEqProofs [hge, ci_lt, ci_le, n_id2_id, n_id_id2, n_id3_id2, n_id2_id3, n_id3_id, n_id_id3])
      | (with_reducible refine And.intro (by first | omega | assumption | decide) ?_)
      | ((with_reducible show condK _ _ _); simp -implicitDefEqProofs [hge, ci_lt, ci_le, n_id2_id, n_id_id2, n_id3_id2, n_id2_id3, n_id3_id, n_id_id3])
      | ((with_reducible show guardK _ _ _ _ _ _ _ _ _); simp -implicitDefEqProofs [hge, ci_lt, ci_le, n_id2_id, n_id_id2, n_id3_id2, n_id2_id3, n_id3_id, n_id_id3])
      | ((with_reducible apply AWp.ret); try simp -implicitDefEqProofs [hge, ci_lt, ci_le, n_id2_id, n_id_id2, n_id3_id2, n_id2_id3, n_id3_id, n_id_id3])
      | ((with_reducible apply AWp.skip); try simp -implicitDefEqProofs [hge, ci_lt, ci_le, n_id2_id, n_id_id2, n_id3_id2, n_id2_id3, n_id3_id, n_id_id3])
      | ((with_reducible apply AWp.exit); try simp -implicitDefEqProofs [hge, ci_lt, ci_le, n_id2_id, n_id_id2, n_id3_id2, n_id2_id3, n_id3_id, n_id_id3]))
    all_goals (repeat' (with_reducible apply And.intro))
    all_goals first
      | exact AS.le_refl _
      | ((repeat (first | exact AS.le_refl _ | assumption | refine le_new (by simp [*]) ?_)); done)
      | (refine wk_eq ?_; simp_all [skipV]; done)
      | (refine wk_b ?_; rw [Bool.eq_iff_iff]; simp [*]; omega)
      | (refine wk_eq ?_; simp [*]; omega)
      | (refine wk_eq ?_; split <;> simp_all [skipV]; done)
      | (exfalso; omega)
  · have hw : IntKind.i64.wrap (a + 1) = a + 1 := in_i64 (by omega) (by omega)
    have hs := fun id id2 id3 (n1 : ¬ id = id2) (n2 : ¬ id = id3) (n3 : ¬ id2 = id3) => usome_ok l o nl (.fn (.func 58) [] [.ptr id 0, .ptr id2 0, .ptr id3 0]) (mayC l x f) (a + 1) l.length hl (((σ.set id (.cells 22 [clsV l o nl])).set id2 (.cells 3 [.sc (.int .i64 x)])).set id3 (.cells 3 [.sc (.int .i64 f)]))
      (fun σ' hle c _ => FnG.fn (first := []) (args := [clV c]) (cap := [.ptr id 0, .ptr id2 0, .ptr id3 0]) (next1_ok l o nl x f c id id2 id3 hl σ' (hle id _ (by simp [n1, n2])) (hle id2 _ (by simp [n3])) (hle id3 _ (by simp))))
    rw [someI_congr (q := fun k c => decide (a < k) && mayC l x f c) (fun j c _ hj => by
      have e1 : decide ((j : Int) < l.length) = true := by simp; omega
      have e2 : decide (a + 1 ≤ (j : Int)) = decide (a < j) := by simp only [decide_eq_decide]; omega
      simp only [inB, e1, e2, Bool.true_and])] at hs
    have hh := fun h => head_map (L := someI (fun k c => decide (a < k) && mayC l x f c) 0 l) (h := h)
    have hll := someI_len (p := fun k c => decide (a < k) && mayC l x f c) (l := l) (k := 0)
    generalize someI (fun k c => decide (a < k) && mayC l x f c) 0 l = L at *
    simp only [clsV, intsV] at hs ⊢
    refine ACalls.of_body Try.func32 rfl rfl (by simp [Try.ntmps32]) ?_
    repeat (first
      | (with_reducible apply AWp.seq)
      | (with_reducible apply AWp.block)
      | ((with_reducible apply AWp.fork); simp -implicitDefEqProofs [ci_lt, ci_le])
      | ((with_reducible apply AWp.region); simp -implicitDefEqProofs [ci_lt, ci_le])
      | (with_reducible refine And.intro (by first | omega | assumption | decide) ?_)
      | ((with_reducible show condK _ _ _); simp -implicitDefEqProofs [ci_lt, ci_le])
      | ((with_reducible show guardK _ _ _ _ _ _ _ _ _); simp -implicitDefEqProofs [ci_lt, ci_le])
      | ((with_reducible apply AWp.ret); try simp -implicitDefEqProofs [ci_lt, ci_le])
      | ((with_reducible apply AWp.skip); try simp -implicitDefEqProofs [ci_lt, ci_le])
      | ((with_reducible apply AWp.exit); try simp -implicitDefEqProofs [ci_lt, ci_le]))
    intro id h_id
    repeat (first
      | (with_reducible apply AWp.seq)
      | (with_reducible apply AWp.block)
      | ((with_reducible apply AWp.fork); simp -implicitDefEqProofs [ci_lt, ci_le])
      | ((with_reducible apply AWp.region); simp -implicitDefEqProofs [ci_lt, ci_le])
      | (with_reducible refine And.intro (by first | omega | assumption | decide) ?_)
      | ((with_reducible show condK _ _ _); simp -implicitDefEqProofs [ci_lt, ci_le])
      | ((with_reducible show guardK _ _ _ _ _ _ _ _ _); simp -implicitDefEqProofs [ci_lt, ci_le])
      | ((with_reducible apply AWp.ret); try simp -implicitDefEqProofs [ci_lt, ci_le])
      | ((with_reducible apply AWp.skip); try simp -implicitDefEqProofs [ci_lt, ci_le])
      | ((with_reducible apply AWp.exit); try simp -implicitDefEqProofs [ci_lt, ci_le]))
    intro id2 n_id2_id h_id2
    have n_id_id2 : ¬ id = id2 := fun e => n_id2_id e.symm
    repeat (first
      | (with_reducible apply AWp.seq)
      | (with_reducible apply AWp.block)
      | ((with_reducible apply AWp.fork); simp -implicitDefEqProofs [ci_lt, ci_le, n_id2_id, n_id_id2])
      | ((with_reducible apply AWp.region); simp -implicitDefEqProofs [ci_lt, ci_le, n_id2_id, n_id_id2])
      | (with_reducible refine And.intro (by first | omega | assumption | decide) ?_)
      | ((with_reducible show condK _ _ _); simp -implicitDefEqProofs [ci_lt, ci_le, n_id2_id, n_id_id2])
      | ((with_reducible show guardK _ _ _ _ _ _ _ _ _); simp -implicitDefEqProofs [ci_lt, ci_le, n_id2_id, n_id_id2])
      | ((with_reducible apply AWp.ret); try simp -implicitDefEqProofs [ci_lt, ci_le, n_id2_id, n_id_id2])
      | ((with_reducible apply AWp.skip); try simp -implicitDefEqProofs [ci_lt, ci_le, n_id2_id, n_id_id2])
      | ((with_reducible apply AWp.exit); try simp -implicitDefEqProofs [ci_lt, ci_le, n_id2_id, n_id_id2]))
    intro id3 n_id3_id2 n_id3_id h_id3
    have n_id2_id3 : ¬ id2 = id3 := fun e => n_id3_id2 e.symm
    have n_id_id3 : ¬ id = id3 := fun e => n_id3_id e.symm
    repeat (first
      | (with_reducible apply AWp.seq)
      | (with_reducible apply AWp.block)
      | ((with_reducible apply AWp.fork); simp -implicitDefEqProofs [hge, hw, ci_lt, ci_le, n_id2_id, n_id_id2, n_id3_id2, n_id2_id3, n_id3_id, n_id_id3])
      | ((with_reducible apply AWp.region); simp -implicitDefEqProofs [hge, hw, ci_lt, ci_le, n_id2_id, n_id_id2, n_id3_id2, n_id2_id3, n_id3_id, n_id_id3])
      | (with_reducible refine And.intro (by first | omega | assumption | decide) ?_)
      | ((with_reducible show condK _ _ _); simp -implicitDefEqProofs [hge, hw, ci_lt, ci_le, n_id2_id, n_id_id2, n_id3_id2, n_id2_id3, n_id3_id, n_id_id3])
      | ((with_reducible show guardK _ _ _ _ _ _ _ _ _); simp -implicitDefEqProofs [hge, hw, ci_lt, ci_le, n_id2_id, n_id_id2, n_id3_id2, n_id2_id3, n_id3_id, n_id_id3])
      | ((with_reducible apply aCall.id); first
          | ((apply aCall.gives (hs id id2 id3 n_id_id2 n_id_id3 n_id2_id3)); simp -implicitDefEqProofs [hge, hw, ci_lt, ci_le, n_id2_id, n_id_id2, n_id3_id2, n_id2_id3, n_id3_id, n_id_id3]))
      | ((with_reducible apply AWp.ret); try simp -implicitDefEqProofs [hge, hw, ci_lt, ci_le, n_id2_id, n_id_id2, n_id3_id2, n_id2_id3, n_id3_id, n_id_id3])
      | ((with_reducible apply AWp.skip); try simp -implicitDefEqProofs [hge, hw, ci_lt, ci_le, n_id2_id, n_id_id2, n_id3_id2, n_id2_id3, n_id3_id, n_id_id3])
      | ((with_reducible apply AWp.exit); try simp -implicitDefEqProofs [hge, hw, ci_lt, ci_le, n_id2_id, n_id_id2, n_id3_id2, n_id2_id3, n_id3_id, n_id_id3]))
    cases L with
    | nil =>
      simp only [hdS]
      repeat (first
        | (with_reducible apply AWp.seq)
        | (with_reducible apply AWp.block)
        | ((with_reducible apply AWp.fork); simp -implicitDefEqProofs [ci_lt, ci_le, n_id2_id, n_id_id2, n_id3_id2, n_id2_id3, n_id3_id, n_id_id3])
        | ((with_reducible apply AWp.region); simp -implicitDefEqProofs [ci_lt, ci_le, n_id2_id, n_id_id2, n_id3_id2, n_id2_id3, n_id3_id, n_id_id3])
        | (with_reducible refine And.intro (by first | omega | assumption | decide) ?_)
        | ((with_reducible show condK _ _ _); simp -implicitDefEqProofs [ci_lt, ci_le, n_id2_id, n_id_id2, n_id3_id2, n_id2_id3, n_id3_id, n_id_id3])
        | ((with_reducible show guardK _ _ _ _ _ _ _ _ _); simp -implicitDefEqProofs [ci_lt, ci_le, n_id2_id, n_id_id2, n_id3_id2, n_id2_id3, n_id3_id, n_id_id3])
        | ((with_reducible apply AWp.ret); try simp -implicitDefEqProofs [ci_lt, ci_le, n_id2_id, n_id_id2, n_id3_id2, n_id2_id3, n_id3_id, n_id_id3])
        | ((with_reducible apply AWp.skip); try simp -implicitDefEqProofs [ci_lt, ci_le, n_id2_id, n_id_id2, n_id3_id2, n_id2_id3, n_id3_id, n_id_id3])
        | ((with_reducible apply AWp.exit); try simp -implicitDefEqProofs [ci_lt, ci_le, n_id2_id, n_id_id2, n_id3_id2, n_id2_id3, n_id3_id, n_id_id3]))
      all_goals (repeat' (with_reducible apply And.intro))
      all_goals first
        | exact AS.le_refl _
        | ((repeat (first | exact AS.le_refl _ | assumption | refine le_new (by simp [*]) ?_)); done)
        | (refine wk_eq ?_; simp_all [skipV]; done)
        | (refine wk_b ?_; rw [Bool.eq_iff_iff]; simp [*]; omega)
        | (refine wk_eq ?_; simp [*]; omega)
        | (refine wk_eq ?_; split <;> simp_all [skipV]; done)
        | (exfalso; omega)
    | cons y r =>
      simp only [hdS]
      have hy : ¬ ((r.length : Int) + 1 = 0) := by omega
      repeat (first
        | (with_reducible apply AWp.seq)
        | (with_reducible apply AWp.block)
        | ((with_reducible apply AWp.fork); simp -implicitDefEqProofs [hy, i64v_def, ci_lt, ci_le, n_id2_id, n_id_id2, n_id3_id2, n_id2_id3, n_id3_id, n_id_id3])
        | ((with_reducible apply AWp.region); simp -implicitDefEqProofs [hy, i64v_def, ci_lt, ci_le, n_id2_id, n_id_id2, n_id3_id2, n_id2_id3, n_id3_id, n_id_id3])
        | (with_reducible refine And.intro (by first | omega | assumption | decide) ?_)
        | ((with_reducible show condK _ _ _); simp -implicitDefEqProofs [hy, i64v_def, ci_lt, ci_le, n_id2_id, n_id_id2, n_id3_id2, n_id2_id3, n_id3_id, n_id_id3])
        | ((with_reducible show guardK _ _ _ _ _ _ _ _ _); simp -implicitDefEqProofs [hy, i64v_def, ci_lt, ci_le, n_id2_id, n_id_id2, n_id3_id2, n_id2_id3, n_id3_id, n_id_id3])
        | ((with_reducible apply AWp.ret); try simp -implicitDefEqProofs [hy, i64v_def, ci_lt, ci_le, n_id2_id, n_id_id2, n_id3_id2, n_id2_id3, n_id3_id, n_id_id3])
        | ((with_reducible apply AWp.skip); try simp -implicitDefEqProofs [hy, i64v_def, ci_lt, ci_le, n_id2_id, n_id_id2, n_id3_id2, n_id2_id3, n_id3_id, n_id_id3])
        | ((with_reducible apply AWp.exit); try simp -implicitDefEqProofs [hy, i64v_def, ci_lt, ci_le, n_id2_id, n_id_id2, n_id3_id2, n_id2_id3, n_id3_id, n_id_id3]))
      all_goals (repeat' (with_reducible apply And.intro))
      all_goals first
        | exact AS.le_refl _
        | ((repeat (first | exact AS.le_refl _ | assumption | refine le_new (by simp [*]) ?_)); done)
        | (refine wk_eq ?_; simp_all [skipV]; done)
        | (refine wk_b ?_; rw [Bool.eq_iff_iff]; simp [*]; omega)
        | (refine wk_eq ?_; simp [*]; omega)
        | (refine wk_eq ?_; split <;> simp_all [skipV]; done)
        | (exfalso; omega)

theorem fins_ok (l : List Cl) (o : Own) (nl : Bool) (x f u : Int) (hl : l.length ≤ 1000) (σ : AS) :
    ACalls Try.prog 33 [clsV l o nl, .sc (.int .i64 x), .sc (.int .i64 f), .sc (.int .i64 u)] σ (Gives (intsV (finsS l x f u)) σ) No := by
  have hs := fun u id id2 id3 (n1 : ¬ id = id2) (n2 : ¬ id = id3) (n3 : ¬ id2 = id3) => usome_ok l o nl (.fn (.func 60) [] [.ptr id 0, .ptr id2 0, .ptr id3 0]) (finC l x f) 0 u hl (((σ.set id (.cells 22 [clsV l o nl])).set id2 (.cells 3 [.sc (.int .i64 x)])).set id3 (.cells 3 [.sc (.int .i64 f)]))
      (fun σ' hle c _ => FnG.fn (first := []) (args := [clV c]) (cap := [.ptr id 0, .ptr id2 0, .ptr id3 0]) (fins1_ok l o nl x f c id id2 id3 hl σ' (hle id _ (by simp [n1, n2])) (hle id2 _ (by simp [n3])) (hle id3 _ (by simp))))
  unfold finsS
  by_cases hu : u < 0
  · have hs' := hs l.length
    rw [someI_congr (q := fun k c => (decide (u < 0) || decide ((k : Int) < u)) && finC l x f c) (fun j c _ hj => by
      have e1 : decide ((j : Int) < l.length) = true := by simp; omega
      have e2 : decide ((0 : Int) ≤ (j : Int)) = true := by simp
      simp only [inB, e1, e2, Bool.true_and, hu, decide_true, Bool.true_or])] at hs'
    clear hs
    generalize someI (fun k c => (decide (u < 0) || decide ((k : Int) < u)) && finC l x f c) 0 l = L at *
    simp only [clsV, intsV] at hs' ⊢
    refine ACalls.of_body Try.func33 rfl rfl (by simp [Try.ntmps33]) ?_
    repeat (first
      | (with_reducible apply AWp.seq)
      | (with_reducible apply AWp.block)
      | ((with_reducible apply AWp.fork); simp -implicitDefEqProofs)
      | ((with_reducible apply AWp.region); simp -implicitDefEqProofs)
      | (with_reducible refine And.intro (by first | omega | assumption | decide) ?_)
      | ((with_reducible apply AWp.ret); try simp -implicitDefEqProofs)
      | ((with_reducible apply AWp.skip); try simp -implicitDefEqProofs)
      | ((with_reducible apply AWp.exit); try simp -implicitDefEqProofs))
    intro id h_id
    repeat (first
      | (with_reducible apply AWp.seq)
      | (with_reducible apply AWp.block)
      | ((with_reducible apply AWp.fork); simp -implicitDefEqProofs)
      | ((with_reducible apply AWp.region); simp -implicitDefEqProofs)
      | (with_reducible refine And.intro (by first | omega | assumption | decide) ?_)
      | ((with_reducible apply AWp.ret); try simp -implicitDefEqProofs)
      | ((with_reducible apply AWp.skip); try simp -implicitDefEqProofs)
      | ((with_reducible apply AWp.exit); try simp -implicitDefEqProofs))
    intro id2 n_id2_id h_id2
    have n_id_id2 : ¬ id = id2 := fun e => n_id2_id e.symm
    repeat (first
      | (with_reducible apply AWp.seq)
      | (with_reducible apply AWp.block)
      | ((with_reducible apply AWp.fork); simp -implicitDefEqProofs [n_id2_id, n_id_id2])
      | ((with_reducible apply AWp.region); simp -implicitDefEqProofs [n_id2_id, n_id_id2])
      | (with_reducible refine And.intro (by first | omega | assumption | decide) ?_)
      | ((with_reducible show condK _ _ _); simp -implicitDefEqProofs [n_id2_id, n_id_id2])
      | ((with_reducible show guardK _ _ _ _ _ _ _ _ _); simp -implicitDefEqProofs [n_id2_id, n_id_id2])
      | ((with_reducible apply AWp.ret); try simp -implicitDefEqProofs [n_id2_id, n_id_id2])
      | ((with_reducible apply AWp.skip); try simp -implicitDefEqProofs [n_id2_id, n_id_id2])
      | ((with_reducible apply AWp.exit); try simp -implicitDefEqProofs [n_id2_id, n_id_id2]))
    intro id3 n_id3_id2 n_id3_id h_id3
    have n_id2_id3 : ¬ id2 = id3 := fun e => n_id3_id2 e.symm
    have n_id_id3 : ¬ id = id3 := fun e => n_id3_id e.symm
    repeat (first
      | (with_reducible apply AWp.seq)
      | (with_reducible apply AWp.block)
      | ((with_reducible apply AWp.fork); simp -implicitDefEqProofs [hu, n_id2_id, n_id_id2, n_id3_id2, n_id2_id3, n_id3_id, n_id_id3])
      | ((with_reducible apply AWp.region); simp -implicitDefEqProofs [hu, n_id2_id, n_id_id2, n_id3_id2, n_id2_id3, n_id3_id, n_id_id3])
      | (with_reducible refine And.intro (by first | omega | assumption | decide) ?_)
      | ((with_reducible show condK _ _ _); simp -implicitDefEqProofs [hu, n_id2_id, n_id_id2, n_id3_id2, n_id2_id3, n_id3_id, n_id_id3])
      | ((with_reducible show guardK _ _ _ _ _ _ _ _ _); simp -implicitDefEqProofs [hu, n_id2_id, n_id_id2, n_id3_id2, n_id2_id3, n_id3_id, n_id_id3])
      | ((with_reducible apply aCall.id); first
          | ((apply aCall.gives (hs' id id2 id3 n_id_id2 n_id_id3 n_id2_id3)); simp -implicitDefEqProofs [hu, n_id2_id, n_id_id2, n_id3_id2, n_id2_id3, n_id3_id, n_id_id3]))
      | ((with_reducible apply AWp.ret); try simp -implicitDefEqProofs [hu, n_id2_id, n_id_id2, n_id3_id2, n_id2_id3, n_id3_id, n_id_id3])
      | ((with_reducible apply AWp.skip); try simp -implicitDefEqProofs [hu, n_id2_id, n_id_id2, n_id3_id2, n_id2_id3, n_id3_id, n_id_id3])
      | ((with_reducible apply AWp.exit); try simp -implicitDefEqProofs [hu, n_id2_id, n_id_id2, n_id3_id2, n_id2_id3, n_id3_id, n_id_id3]))
    all_goals (repeat' (with_reducible apply And.intro))
    all_goals first
      | exact AS.le_refl _
      | ((repeat (first | exact AS.le_refl _ | assumption | refine le_new (by simp [*]) ?_)); done)
      | (refine wk_eq ?_; simp_all [skipV]; done)
      | (refine wk_b ?_; rw [Bool.eq_iff_iff]; simp [*]; omega)
      | (refine wk_eq ?_; simp [*]; omega)
      | (refine wk_eq ?_; split <;> simp_all [skipV]; done)
      | (exfalso; omega)
  · have hs' := hs u
    rw [someI_congr (q := fun k c => (decide (u < 0) || decide ((k : Int) < u)) && finC l x f c) (fun j c _ hj => by
      have e2 : decide ((0 : Int) ≤ (j : Int)) = true := by simp
      simp only [inB, e2, Bool.true_and, hu, decide_false, Bool.false_or])] at hs'
    clear hs
    generalize someI (fun k c => (decide (u < 0) || decide ((k : Int) < u)) && finC l x f c) 0 l = L at *
    simp only [clsV, intsV] at hs' ⊢
    refine ACalls.of_body Try.func33 rfl rfl (by simp [Try.ntmps33]) ?_
    repeat (first
      | (with_reducible apply AWp.seq)
      | (with_reducible apply AWp.block)
      | ((with_reducible apply AWp.fork); simp -implicitDefEqProofs)
      | ((with_reducible apply AWp.region); simp -implicitDefEqProofs)
      | (with_reducible refine And.intro (by first | omega | assumption | decide) ?_)
      | ((with_reducible apply AWp.ret); try simp -implicitDefEqProofs)
      | ((with_reducible apply AWp.skip); try simp -implicitDefEqProofs)
      | ((with_reducible apply AWp.exit); try simp -implicitDefEqProofs))
    intro id h_id
    repeat (first
      | (with_reducible apply AWp.seq)
      | (with_reducible apply AWp.block)
      | ((with_reducible apply AWp.fork); simp -implicitDefEqProofs)
      | ((with_reducible apply AWp.region); simp -implicitDefEqProofs)
      | (with_reducible refine And.intro (by first | omega | assumption | decide) ?_)
      | ((with_reducible apply AWp.ret); try simp -implicitDefEqProofs)
      | ((with_reducible apply AWp.skip); try simp -implicitDefEqProofs)
      | ((with_reducible apply AWp.exit); try simp -implicitDefEqProofs))
    intro id2 n_id2_id h_id2
    have n_id_id2 : ¬ id = id2 := fun e => n_id2_id e.symm
    repeat (first
      | (with_reducible apply AWp.seq)
      | (with_reducible apply AWp.block)
      | ((with_reducible apply AWp.fork); simp -implicitDefEqProofs [n_id2_id, n_id_id2])
      | ((with_reducible apply AWp.region); simp -implicitDefEqProofs [n_id2_id, n_id_id2])
      | (with_reducible refine And.intro (by first | omega | assumption | decide) ?_)
      | ((with_reducible show condK _ _ _); simp -implicitDefEqProofs [n_id2_id, n_id_id2])
      | ((with_reducible show guardK _ _ _ _ _ _ _ _ _); simp -implicitDefEqProofs [n_id2_id, n_id_id2])
      | ((with_reducible apply AWp.ret); try simp -implicitDefEqProofs [n_id2_id, n_id_id2])
      | ((with_reducible apply AWp.skip); try simp -implicitDefEqProofs [n_id2_id, n_id_id2])
      | ((with_reducible apply AWp.exit); try simp -implicitDefEqProofs [n_id2_id, n_id_id2]))
    intro id3 n_id3_id2 n_id3_id h_id3
    have n_id2_id3 : ¬ id2 = id3 := fun e => n_id3_id2 e.symm
    have n_id_id3 : ¬ id = id3 := fun e => n_id3_id e.symm
    repeat (first
      | (with_reducible apply AWp.seq)
      | (with_reducible apply AWp.block)
      | ((with_reducible apply AWp.fork); simp -implicitDefEqProofs [hu, n_id2_id, n_id_id2, n_id3_id2, n_id2_id3, n_id3_id, n_id_id3])
      | ((with_reducible apply AWp.region); simp -implicitDefEqProofs [hu, n_id2_id, n_id_id2, n_id3_id2, n_id2_id3, n_id3_id, n_id_id3])
      | (with_reducible refine And.intro (by first | omega | assumption | decide) ?_)
      | ((with_reducible show condK _ _ _); simp -implicitDefEqProofs [hu, n_id2_id, n_id_id2, n_id3_id2, n_id2_id3, n_id3_id, n_id_id3])
      | ((with_reducible show guardK _ _ _ _ _ _ _ _ _); simp -implicitDefEqProofs [hu, n_id2_id, n_id_id2, n_id3_id2, n_id2_id3, n_id3_id, n_id_id3])
      | ((with_reducible apply aCall.id); first
          | ((apply aCall.gives (hs' id id2 id3 n_id_id2 n_id_id3 n_id2_id3)); simp -implicitDefEqProofs [hu, n_id2_id, n_id_id2, n_id3_id2, n_id2_id3, n_id3_id, n_id_id3]))
      | ((with_reducible apply AWp.ret); try simp -implicitDefEqProofs [hu, n_id2_id, n_id_id2, n_id3_id2, n_id2_id3, n_id3_id, n_id_id3])
      | ((with_reducible apply AWp.skip); try simp -implicitDefEqProofs [hu, n_id2_id, n_id_id2, n_id3_id2, n_id2_id3, n_id3_id, n_id_id3])
      | ((with_reducible apply AWp.exit); try simp -implicitDefEqProofs [hu, n_id2_id, n_id_id2, n_id3_id2, n_id2_id3, n_id3_id, n_id_id3]))
    all_goals (repeat' (with_reducible apply And.intro))
    all_goals first
      | exact AS.le_refl _
      | ((repeat (first | exact AS.le_refl _ | assumption | refine le_new (by simp [*]) ?_)); done)
      | (refine wk_eq ?_; simp_all [skipV]; done)
      | (refine wk_b ?_; rw [Bool.eq_iff_iff]; simp [*]; omega)
      | (refine wk_eq ?_; simp [*]; omega)
      | (refine wk_eq ?_; split <;> simp_all [skipV]; done)
      | (exfalso; omega)

theorem leaves_ok (l : List Cl) (o : Own) (nl : Bool) (x y : Int) (hl : l.length ≤ 1000) (σ : AS) :
    ACalls Try.prog 41 [clsV l o nl, .sc (.int .i64 x), .sc (.int .i64 y)] σ (Gives (intsV (someS (fun c => finalS c x y) 0 l)) σ) No := by
  have hf := fun σ => finalsW_ok l o nl x y hl σ
  simp only [clsV, intsV] at hf ⊢
  refine ACalls.of_body Try.func41 rfl rfl (by simp [Try.ntmps41]) ?_
  repeat (first
    | (with_reducible apply AWp.seq)
    | (with_reducible apply AWp.block)
    | ((with_reducible apply AWp.fork); simp -implicitDefEqProofs)
    | ((with_reducible apply AWp.region); simp -implicitDefEqProofs)
    | (with_reducible refine And.intro (by first | omega | assumption | decide) ?_)
    | ((with_reducible apply aCall.id); first
        | ((apply aCall.gives (hf _)); simp -implicitDefEqProofs))
    | ((with_reducible apply AWp.ret); try simp -implicitDefEqProofs)
    | ((with_reducible apply AWp.skip); try simp -implicitDefEqProofs)
    | ((with_reducible apply AWp.exit); try simp -implicitDefEqProofs))

theorem same11_ok (l m : List Int) (o1 o2 : Own) (n1 n2 : Bool) (hl : l.length ≤ 140737488355328) (hm : m.length ≤ 140737488355328) (σ : AS) :
    ACalls Try.prog 34 [.lst 3 (l.map i64v) o1 n1, .lst 3 (m.map i64v) o2 n2] σ (Gives (.sc (.bool (decide (l = m)))) σ) No := by
  have hs := sints_ok l m o1 o2 n1 n2 hl hm σ
  refine ACalls.of_body Try.func34 rfl rfl (by simp [Try.ntmps34]) ?_
  repeat (first
    | (with_reducible apply AWp.seq)
    | (with_reducible apply AWp.block)
    | ((with_reducible apply AWp.fork); simp -implicitDefEqProofs)
    | ((with_reducible apply AWp.region); simp -implicitDefEqProofs)
    | (with_reducible refine And.intro (by first | omega | assumption | decide) ?_)
    | ((with_reducible apply aCall.id); first
        | ((apply aCall.gives (hs)); simp -implicitDefEqProofs))
    | ((with_reducible apply AWp.ret); try simp -implicitDefEqProofs)
    | ((with_reducible apply AWp.skip); try simp -implicitDefEqProofs)
    | ((with_reducible apply AWp.exit); try simp -implicitDefEqProofs))

/-! keeps -/

def keepS (l : List Cl) (k x : Int) : Bool := if 0 ≤ k then (match l[k.toNat]? with | some c => hasS (bnd c 2) x | none => false) else false
theorem keep_cases (l : List Cl) (k x : Int) : (k < 0 ∧ keepS l k x = false) ∨ (¬ k < 0 ∧ (l.length : Int) ≤ k ∧ keepS l k x = false) ∨ ∃ (n : Nat) (c : Cl), k = n ∧ ∃ hn : n < l.length, l[n] = c ∧ keepS l k x = hasS (bnd c 2) x := by
  unfold keepS
  by_cases h2 : 0 ≤ k
  · rw [if_pos h2]
    right
    by_cases h3 : k.toNat < l.length
    · right
      have e : l[k.toNat]? = some l[k.toNat] := by simp [h3]
      rw [e]
      exact ⟨k.toNat, _, by omega, h3, rfl, rfl⟩
    · left
      rw [List.getElem?_eq_none (by omega)]
      exact ⟨by omega, by omega, rfl⟩
  · rw [if_neg h2]
    exact .inl ⟨by omega, rfl⟩

theorem keeps_ok (l : List Cl) (o : Own) (nl : Bool) (k x : Int) (hl : l.length ≤ 1000) (σ : AS) :
    ACalls Try.prog 39 [clsV l o nl, .sc (.int .i64 k), .sc (.int .i64 x)] σ (Gives (.sc (.bool (keepS l k x))) σ) No := by
  rcases keep_cases l k x with ⟨h1, h2⟩ | ⟨h1, h2, h3⟩ | ⟨n, c, rfl, hn, hc, h2⟩
  · rw [h2]
    have h1' : ¬ 0 ≤ k := by omega
    simp only [clsV]
    refine ACalls.of_body Try.func39 rfl rfl (by simp [Try.ntmps39]) ?_
    repeat (first
      | (with_reducible apply AWp.seq)
      | (with_reducible apply AWp.block)
      | ((with_reducible apply AWp.fork); simp -implicitDefEqProofs [h1, h1', ci_lt, ci_le])
      | ((with_reducible apply AWp.region); simp -implicitDefEqProofs [h1, h1', ci_lt, ci_le])
      | (with_reducible refine And.intro (by first | omega | assumption | decide) ?_)
      | ((with_reducible show condK _ _ _); simp -implicitDefEqProofs [h1, h1', ci_lt, ci_le])
      | ((with_reducible show guardK _ _ _ _ _ _ _ _ _); simp -implicitDefEqProofs [h1, h1', ci_lt, ci_le])
      | ((with_reducible apply AWp.ret); try simp -implicitDefEqProofs [h1, h1', ci_lt, ci_le])
      | ((with_reducible apply AWp.skip); try simp -implicitDefEqProofs [h1, h1', ci_lt, ci_le])
      | ((with_reducible apply AWp.exit); try simp -implicitDefEqProofs [h1, h1', ci_lt, ci_le]))
  · rw [h3]
    have h1' : 0 ≤ k := by omega
    have h2' : ¬ k < l.length := by omega
    simp only [clsV]
    refine ACalls.of_body Try.func39 rfl rfl (by simp [Try.ntmps39]) ?_
    repeat (first
      | (with_reducible apply AWp.seq)
      | (with_reducible apply AWp.block)
      | ((with_reducible apply AWp.fork); simp -implicitDefEqProofs [h1, h1', h2, h2', ci_lt, ci_le])
      | ((with_reducible apply AWp.region); simp -implicitDefEqProofs [h1, h1', h2, h2', ci_lt, ci_le])
      | (with_reducible refine And.intro (by first | omega | assumption | decide) ?_)
      | ((with_reducible show condK _ _ _); simp -implicitDefEqProofs [h1, h1', h2, h2', ci_lt, ci_le])
      | ((with_reducible show guardK _ _ _ _ _ _ _ _ _); simp -implicitDefEqProofs [h1, h1', h2, h2', ci_lt, ci_le])
      | ((with_reducible apply AWp.ret); try simp -implicitDefEqProofs [h1, h1', h2, h2', ci_lt, ci_le])
      | ((with_reducible apply AWp.skip); try simp -implicitDefEqProofs [h1, h1', h2, h2', ci_lt, ci_le])
      | ((with_reducible apply AWp.exit); try simp -implicitDefEqProofs [h1, h1', h2, h2', ci_lt, ci_le]))
  · rw [h2]
    have h1' : (0 : Int) ≤ n := by omega
    have hb : hasS (bnd c 2) x = (decide (c.hf ≤ x) && decide (x < c.ht)) := rfl
    rw [hb]
    simp only [clsV]
    refine ACalls.of_body Try.func39 rfl rfl (by simp [Try.ntmps39]) ?_
    by_cases h3 : c.hf ≤ x
    · repeat (first
        | (with_reducible apply AWp.seq)
        | (with_reducible apply AWp.block)
        | ((with_reducible apply AWp.fork); simp -implicitDefEqProofs [h1', hn, hc, clV_def, h3, ci_lt, ci_le])
        | ((with_reducible apply AWp.region); simp -implicitDefEqProofs [h1', hn, hc, clV_def, h3, ci_lt, ci_le])
        | (with_reducible refine And.intro (by first | omega | assumption | decide) ?_)
        | ((with_reducible show condK _ _ _); simp -implicitDefEqProofs [h1', hn, hc, clV_def, h3, ci_lt, ci_le])
        | ((with_reducible show guardK _ _ _ _ _ _ _ _ _); simp -implicitDefEqProofs [h1', hn, hc, clV_def, h3, ci_lt, ci_le])
        | ((with_reducible apply AWp.ret); try simp -implicitDefEqProofs [h1', hn, hc, clV_def, h3, ci_lt, ci_le])
        | ((with_reducible apply AWp.skip); try simp -implicitDefEqProofs [h1', hn, hc, clV_def, h3, ci_lt, ci_le])
        | ((with_reducible apply AWp.exit); try simp -implicitDefEqProofs [h1', hn, hc, clV_def, h3, ci_lt, ci_le]))
    · repeat (first
        | (with_reducible apply AWp.seq)
        | (with_reducible apply AWp.block)
        | ((with_reducible apply AWp.fork); simp -implicitDefEqProofs [h1', hn, hc, clV_def, h3, ci_lt, ci_le])
        | ((with_reducible apply AWp.region); simp -implicitDefEqProofs [h1', hn, hc, clV_def, h3, ci_lt, ci_le])
        | (with_reducible refine And.intro (by first | omega | assumption | decide) ?_)
        | ((with_reducible show condK _ _ _); simp -implicitDefEqProofs [h1', hn, hc, clV_def, h3, ci_lt, ci_le])
        | ((with_reducible show guardK _ _ _ _ _ _ _ _ _); simp -implicitDefEqProofs [h1', hn, hc, clV_def, h3, ci_lt, ci_le])
        | ((with_reducible apply AWp.ret); try simp -implicitDefEqProofs [h1', hn, hc, clV_def, h3, ci_lt, ci_le])
        | ((with_reducible apply AWp.skip); try simp -implicitDefEqProofs [h1', hn, hc, clV_def, h3, ci_lt, ci_le])
        | ((with_reducible apply AWp.exit); try simp -implicitDefEqProofs [h1', hn, hc, clV_def, h3, ci_lt, ci_le]))

theorem rkeeps_ok (l : List Cl) (o : Own) (nl : Bool) (k x : Int) (hl : l.length ≤ 1000) (σ : AS) :
    ACalls Try.prog 40 [clsV l o nl, .sc (.int .i64 k), .sc (.int .i64 x)] σ (Gives (.sc (.bool (keepS l k x))) σ) No := by
  rcases keep_cases l k x with ⟨h1, h2⟩ | ⟨h1, h2, h3⟩ | ⟨n, c, rfl, hn, hc, h2⟩
  · rw [h2]
    have h1' : ¬ 0 ≤ k := by omega
    simp only [clsV]
    refine ACalls.of_body Try.func40 rfl rfl (by simp [Try.ntmps40]) ?_
    repeat (first
      | (with_reducible apply AWp.seq)
      | (with_reducible apply AWp.block)
      | ((with_reducible apply AWp.fork); simp -implicitDefEqProofs [h1, h1', ci_lt, ci_le])
      | ((with_reducible apply AWp.region); simp -implicitDefEqProofs [h1, h1', ci_lt, ci_le])
      | (with_reducible refine And.intro (by first | omega | assumption | decide) ?_)
      | ((with_reducible show condK _ _ _); simp -implicitDefEqProofs [h1, h1', ci_lt, ci_le])
      | ((with_reducible show guardK _ _ _ _ _ _ _ _ _); simp -implicitDefEqProofs [h1, h1', ci_lt, ci_le])
      | ((with_reducible apply AWp.ret); try simp -implicitDefEqProofs [h1, h1', ci_lt, ci_le])
      | ((with_reducible apply AWp.skip); try simp -implicitDefEqProofs [h1, h1', ci_lt, ci_le])
      | ((with_reducible apply AWp.exit); try simp -implicitDefEqProofs [h1, h1', ci_lt, ci_le]))
  · rw [h3]
    have h1' : 0 ≤ k := by omega
    have h2' : ¬ k < l.length := by omega
    simp only [clsV]
    refine ACalls.of_body Try.func40 rfl rfl (by simp [Try.ntmps40]) ?_
    repeat (first
      | (with_reducible apply AWp.seq)
      | (with_reducible apply AWp.block)
      | ((with_reducible apply AWp.fork); simp -implicitDefEqProofs [h1, h1', h2, h2', ci_lt, ci_le])
      | ((with_reducible apply AWp.region); simp -implicitDefEqProofs [h1, h1', h2, h2', ci_lt, ci_le])
      | (with_reducible refine And.intro (by first | omega | assumption | decide) ?_)
      | ((with_reducible show condK _ _ _); simp -implicitDefEqProofs [h1, h1', h2, h2', ci_lt, ci_le])
      | ((with_reducible show guardK _ _ _ _ _ _ _ _ _); simp -implicitDefEqProofs [h1, h1', h2, h2', ci_lt, ci_le])
      | ((with_reducible apply AWp.ret); try simp -implicitDefEqProofs [h1, h1', h2, h2', ci_lt, ci_le])
      | ((with_reducible apply AWp.skip); try simp -implicitDefEqProofs [h1, h1', h2, h2', ci_lt, ci_le])
      | ((with_reducible apply AWp.exit); try simp -implicitDefEqProofs [h1, h1', h2, h2', ci_lt, ci_le]))
  · rw [h2]
    have h1' : (0 : Int) ≤ n := by omega
    have hin := fun σ => in_ok c 2 x σ
    simp only [clsV, clV_def] at hin ⊢
    generalize hasS (bnd c 2) x = b at *
    refine ACalls.of_body Try.func40 rfl rfl (by simp [Try.ntmps40]) ?_
    repeat (first
      | (with_reducible apply AWp.seq)
      | (with_reducible apply AWp.block)
      | ((with_reducible apply AWp.fork); simp -implicitDefEqProofs [h1', hn, hc, clV_def, ci_lt, ci_le])
      | ((with_reducible apply AWp.region); simp -implicitDefEqProofs [h1', hn, hc, clV_def, ci_lt, ci_le])
      | (with_reducible refine And.intro (by first | omega | assumption | decide) ?_)
      | ((with_reducible show condK _ _ _); simp -implicitDefEqProofs [h1', hn, hc, clV_def, ci_lt, ci_le])
      | ((with_reducible show guardK _ _ _ _ _ _ _ _ _); simp -implicitDefEqProofs [h1', hn, hc, clV_def, ci_lt, ci_le])
      | ((with_reducible apply aCall.id); first
          | ((apply aCall.gives (hin _)); simp -implicitDefEqProofs [h1', hn, hc, clV_def, ci_lt, ci_le]))
      | ((with_reducible apply AWp.ret); try simp -implicitDefEqProofs [h1', hn, hc, clV_def, ci_lt, ci_le])
      | ((with_reducible apply AWp.skip); try simp -implicitDefEqProofs [h1', hn, hc, clV_def, ci_lt, ci_le])
      | ((with_reducible apply AWp.exit); try simp -implicitDefEqProofs [h1', hn, hc, clV_def, ci_lt, ci_le]))

end Go.Proofs.Ythbmjmdmamapiaa
