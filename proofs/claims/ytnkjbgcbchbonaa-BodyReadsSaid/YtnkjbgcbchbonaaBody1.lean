/- Package body: numbers, right, small. -/
import Derived.Test.YtnkjbgcbchbonaaRef1
set_option linter.unusedSimpArgs false
set_option linter.unusedVariables false
set_option maxRecDepth 100000
set_option maxHeartbeats 3200000
namespace Go.Proofs.Ytnkjbgcbchbonaa
open Go Go.AW

structure R6 where
  kd : Int
  ta : Int
  tl : Int
  ha : Int
  hl : Int
  ex : Int
deriving DecidableEq

def nums (r : R6) : List Int := [r.kd, r.ta, r.tl, r.ha, r.hl, r.ex]
theorem nums_len (r : R6) : (nums r).length = 6 := rfl
def rawV (r : R6) : AV := .agg [.sc (.int .i64 r.kd), .sc (.int .i64 r.ta), .sc (.int .i64 r.tl), .sc (.int .i64 r.ha), .sc (.int .i64 r.hl), .sc (.int .i64 r.ex)]
def okN (n : Int) : Bool := decide (0 ≤ n) && decide (n ≤ 65535)
def okR (r : R6) : Bool := (nums r).all okN
def rightB (code : List UInt8) (cls : List R6) : Bool := decide (1 ≤ code.length) && (decide (code.length ≤ 65535) && (decide (cls.length ≤ 6) && cls.all okR))

theorem numbers_ok (r : R6) (σ : AS) : ACalls Try.prog 47 [rawV r] σ (Gives (.agg ((nums r).map i64v)) σ) No := by
  obtain ⟨a, b, c, d, e, f⟩ := r
  refine ACalls.of_body Try.func47 rfl rfl (by simp [Try.ntmps47]) ?_
  simp only [rawV]
  repeat (first
    | (with_reducible apply AWp.seq)
    | (with_reducible apply AWp.block)
    | ((with_reducible apply AWp.fork); simp -implicitDefEqProofs)
    | ((with_reducible apply AWp.region); simp -implicitDefEqProofs)
    | (with_reducible refine And.intro (by first | omega | assumption | decide) ?_)
    | ((with_reducible apply AWp.ret); try simp -implicitDefEqProofs)
    | ((with_reducible apply AWp.skip); try simp -implicitDefEqProofs)
    | ((with_reducible apply AWp.exit); try simp -implicitDefEqProofs))
  intro id h_id
  repeat (first
    | (with_reducible apply AWp.seq)
    | (with_reducible apply AWp.block)
    | ((with_reducible apply AWp.fork); simp -implicitDefEqProofs)
    | ((with_reducible apply AWp.region); simp -implicitDefEqProofs)
    | (with_reducible refine And.intro (by first | omega | assumption | decide) ?_)
    | ((with_reducible apply AWp.ret); try simp -implicitDefEqProofs)
    | ((with_reducible apply AWp.skip); try simp -implicitDefEqProofs)
    | ((with_reducible apply AWp.exit); try simp -implicitDefEqProofs))
  intro id2 n_id2_id h_id2
  have n_id_id2 : ¬ id = id2 := fun e => n_id2_id e.symm
  repeat (first
    | (with_reducible apply AWp.seq)
    | (with_reducible apply AWp.block)
    | ((with_reducible apply AWp.fork); simp -implicitDefEqProofs [n_id2_id, n_id_id2])
    | ((with_reducible apply AWp.region); simp -implicitDefEqProofs [n_id2_id, n_id_id2])
    | (with_reducible refine And.intro (by first | omega | assumption | decide) ?_)
    | ((with_reducible show condK _ _ _); simp -implicitDefEqProofs [n_id2_id, n_id_id2])
    | ((with_reducible show guardK _ _ _ _ _ _ _ _ _); simp -implicitDefEqProofs [n_id2_id, n_id_id2])
    | ((with_reducible apply AWp.ret); try simp -implicitDefEqProofs [n_id2_id, n_id_id2])
    | ((with_reducible apply AWp.skip); try simp -implicitDefEqProofs [n_id2_id, n_id_id2])
    | ((with_reducible apply AWp.exit); try simp -implicitDefEqProofs [n_id2_id, n_id_id2]))
  simp [nums, i64v]
  all_goals (repeat (first | exact AS.le_refl _ | refine le_new (by simp [h_id, h_id2, n_id_id2, n_id2_id]) ?_))

theorem small_ok (a b : Int) (σ : AS) : ACalls Try.prog 45 [.sc (.int .i64 a), .sc (.int .i64 b)] σ (Gives (.sc (.bool (decide (a < 64) && decide (b = 0)))) σ) No := by
  refine ACalls.of_body Try.func45 rfl rfl (by simp [Try.ntmps45]) ?_
  repeat' (first
    | (with_reducible apply AWp.seq)
    | (with_reducible apply AWp.block)
    | ((with_reducible apply AWp.fork); simp -implicitDefEqProofs)
    | ((with_reducible apply AWp.region); simp -implicitDefEqProofs)
    | (with_reducible refine And.intro (by first | omega | assumption | decide) ?_)
    | trivial
    | (with_reducible apply And.intro)
    | ((with_reducible apply AWp.ret); try simp -implicitDefEqProofs)
    | ((with_reducible apply AWp.skip); try simp -implicitDefEqProofs)
    | ((with_reducible apply AWp.exit); try simp -implicitDefEqProofs)
    | ((with_reducible apply condK.split) <;> (intro hc; (try simp -implicitDefEqProofs only [hc]); (try simp at hc)) <;> try simp -implicitDefEqProofs)
    | ((with_reducible apply guardK.split) <;> (intro hc; (try simp -implicitDefEqProofs only [hc]); (try simp at hc)) <;> try simp -implicitDefEqProofs)
    | ((with_reducible apply pureG.split) <;> (intro hc; (try simp -implicitDefEqProofs only [hc]); (try simp at hc)) <;> try simp -implicitDefEqProofs))
  all_goals first
    | exact AS.le_refl _
    | ((repeat (first | exact AS.le_refl _ | refine le_new (by simp [*]) ?_)); done)
    | (refine wk_eq ?_; simp_all [skipV]; done)
    | (refine wk_b ?_; rw [Bool.eq_iff_iff]; simp [*]; omega)
    | (refine wk_eq ?_; simp [*]; omega)
    | (exfalso; omega)

def rtO (cls : List R6) (nl : Bool) (o : Own) (σ : AS) (m : Nat) (fr : Fr) (σ' : AS) : Prop :=
  ∃ i : Nat, m = cls.length - i ∧ i ≤ cls.length ∧ cls.all okR = (cls.drop i).all okR ∧ σ' = σ ∧
    fr = mkF [(24, .lst 91 (cls.map rawV) o nl), (25, .sc (.int .i64 cls.length)), (26, .sc (.int .i64 i))]
def rtI (cls : List R6) (nl : Bool) (o : Own) (σ : AS) (i : Nat) (l : List Int) (m : Nat) (fr : Fr) (σ' : AS) : Prop :=
  ∃ k : Nat, m = 6 - k ∧ k ≤ 6 ∧ l.all okN = (l.drop k).all okN ∧ σ' = σ ∧
    fr = mkF [(24, .lst 91 (cls.map rawV) o nl), (25, .sc (.int .i64 cls.length)), (26, .sc (.int .i64 i)), (31, .agg (l.map i64v)), (32, .sc (.int .i64 k))]

theorem right_ok (code : List UInt8) (cls : List R6) (o1 o2 : Own) (n1 n2 : Bool) (hc : code.length ≤ 140737488355328) (hk : cls.length ≤ 140737488355328) (σ : AS) :
    ACalls Try.prog 44 [.agg [.lst 5 (code.map u8) o1 n1, .lst 91 (cls.map rawV) o2 n2]] σ (Gives (.sc (.bool (rightB code cls))) σ) No := by
  refine ACalls.of_body Try.func44 rfl rfl (by simp [Try.ntmps44]) ?_
  repeat (first
    | (with_reducible apply AWp.seq)
    | (with_reducible apply AWp.block)
    | ((with_reducible apply AWp.fork); simp -implicitDefEqProofs)
    | ((with_reducible apply AWp.region); simp -implicitDefEqProofs)
    | (with_reducible refine And.intro (by first | omega | assumption | decide) ?_)
    | ((with_reducible apply AWp.ret); try simp -implicitDefEqProofs)
    | ((with_reducible apply AWp.skip); try simp -implicitDefEqProofs)
    | ((with_reducible apply AWp.exit); try simp -implicitDefEqProofs))
  intro id h_id
  by_cases c1 : 1 ≤ code.length
  · by_cases c2 : code.length ≤ 65535
    · by_cases c3 : cls.length ≤ 6
      · have e1 : ((code.length : Int) < 1) = False := by simp; omega
        have e2 : (65535 < (code.length : Int)) = False := by simp; omega
        have e3 : (6 < (cls.length : Int)) = False := by simp; omega
        have hR : rightB code cls = cls.all okR := by simp [rightB, c1, c2, c3]
        rw [hR]
        repeat (first
          | (with_reducible apply AWp.seq)
          | (with_reducible apply AWp.block)
          | ((with_reducible apply AWp.fork); simp -implicitDefEqProofs [e1, e2, e3])
          | ((with_reducible apply AWp.region); simp -implicitDefEqProofs [e1, e2, e3])
          | (with_reducible refine And.intro (by first | omega | assumption | decide) ?_)
          | ((with_reducible show condK _ _ _); simp -implicitDefEqProofs [e1, e2, e3])
          | ((with_reducible show guardK _ _ _ _ _ _ _ _ _); simp -implicitDefEqProofs [e1, e2, e3])
          | ((with_reducible apply AWp.ret); try simp -implicitDefEqProofs [e1, e2, e3])
          | ((with_reducible apply AWp.skip); try simp -implicitDefEqProofs [e1, e2, e3])
          | ((with_reducible apply AWp.exit); try simp -implicitDefEqProofs [e1, e2, e3]))
        refine AWp.loopI (rtO cls n2 o2 (σ.set id (.cells 48 [.lst 5 (code.map u8) o1 n1, .lst 91 (cls.map rawV) o2 n2]))) (k0 := cls.length) ⟨0, by omega, by omega, rfl, rfl, rfl⟩ (FrWk.mk (by simp)) (AS.le_refl _) ?_
        rintro m fr σ' ⟨i, hm, hi, hA, rfl, rfl⟩
        by_cases hlt : i < cls.length
        · obtain ⟨r, hg, hd, hmem, _⟩ := at_lt cls hlt
          have hI : ((i : Int) < cls.length) = True := by simp; omega
          rw [hd] at hA
          have hrv : rawV r = .agg [.sc (.int .i64 r.kd), .sc (.int .i64 r.ta), .sc (.int .i64 r.tl), .sc (.int .i64 r.ha), .sc (.int .i64 r.hl), .sc (.int .i64 r.ex)] := rfl
          have hn := fun σ => numbers_ok r σ
          have hl6 := nums_len r
          have hA2 : okR r = (nums r).all okN := rfl
          rw [List.all_cons, hA2] at hA
          simp only [hrv] at hn
          generalize nums r = l at hn hl6 hA
          repeat (first
            | (with_reducible apply AWp.seq)
            | (with_reducible apply AWp.block)
            | ((with_reducible apply AWp.fork); simp -implicitDefEqProofs [hI, hg, hrv])
            | ((with_reducible apply AWp.region); simp -implicitDefEqProofs [hI, hg, hrv])
            | (with_reducible refine And.intro (by first | omega | assumption | decide) ?_)
            | ((with_reducible show condK _ _ _); simp -implicitDefEqProofs [hI, hg, hrv])
            | ((with_reducible show guardK _ _ _ _ _ _ _ _ _); simp -implicitDefEqProofs [hI, hg, hrv])
            | ((with_reducible apply AWp.ret); try simp -implicitDefEqProofs [hI, hg, hrv])
            | ((with_reducible apply AWp.skip); try simp -implicitDefEqProofs [hI, hg, hrv])
            | ((with_reducible apply AWp.exit); try simp -implicitDefEqProofs [hI, hg, hrv]))
          intro id2 n_id2_id h_id2
          have n_id_id2 : ¬ id = id2 := fun e => n_id2_id e.symm
          repeat (first
            | (with_reducible apply AWp.seq)
            | (with_reducible apply AWp.block)
            | ((with_reducible apply AWp.fork); simp -implicitDefEqProofs [hI, hg, hrv, n_id2_id, n_id_id2])
            | ((with_reducible apply AWp.region); simp -implicitDefEqProofs [hI, hg, hrv, n_id2_id, n_id_id2])
            | (with_reducible refine And.intro (by first | omega | assumption | decide) ?_)
            | ((with_reducible show condK _ _ _); simp -implicitDefEqProofs [hI, hg, hrv, n_id2_id, n_id_id2])
            | ((with_reducible show guardK _ _ _ _ _ _ _ _ _); simp -implicitDefEqProofs [hI, hg, hrv, n_id2_id, n_id_id2])
            | ((with_reducible apply aCall.id); first
                | ((apply aCall.gives (hn _)); simp -implicitDefEqProofs [hI, hg, hrv, n_id2_id, n_id_id2]))
            | ((with_reducible apply AWp.ret); try simp -implicitDefEqProofs [hI, hg, hrv, n_id2_id, n_id_id2])
            | ((with_reducible apply AWp.skip); try simp -implicitDefEqProofs [hI, hg, hrv, n_id2_id, n_id_id2])
            | ((with_reducible apply AWp.exit); try simp -implicitDefEqProofs [hI, hg, hrv, n_id2_id, n_id_id2]))
          refine AWp.loopI (rtI cls n2 o2 (σ.set id (.cells 48 [.lst 5 (code.map u8) o1 n1, .lst 91 (cls.map rawV) o2 n2])) i l) (k0 := 6) ⟨0, by omega, by omega, rfl, rfl, rfl⟩ (FrWk.mk (by simp)) (le_new (by simp [*]) (AS.le_refl _)) ?_
          rintro m2 fr σ'' ⟨k, hm2, hk6, hB, rfl, rfl⟩
          by_cases hk2 : k < 6
          · obtain ⟨x, hgx, hdx, _, _⟩ := at_lt l (i := k) (by omega)
            have hK : ((k : Int) < 6) = True := by simp; omega
            rw [hdx] at hB
            rw [List.all_cons] at hB
            by_cases x1 : x < 0
            · have hx : okN x = false := by simp [okN]; omega
              repeat (first
                | (with_reducible apply AWp.seq)
                | (with_reducible apply AWp.block)
                | ((with_reducible apply AWp.fork); simp -implicitDefEqProofs [hK, hgx, x1, i64v_def, n_id2_id, n_id_id2])
                | ((with_reducible apply AWp.region); simp -implicitDefEqProofs [hK, hgx, x1, i64v_def, n_id2_id, n_id_id2])
                | (with_reducible refine And.intro (by first | omega | assumption | decide) ?_)
                | ((with_reducible show condK _ _ _); simp -implicitDefEqProofs [hK, hgx, x1, i64v_def, n_id2_id, n_id_id2])
                | ((with_reducible show guardK _ _ _ _ _ _ _ _ _); simp -implicitDefEqProofs [hK, hgx, x1, i64v_def, n_id2_id, n_id_id2])
                | ((with_reducible apply AWp.ret); try simp -implicitDefEqProofs [hK, hgx, x1, i64v_def, n_id2_id, n_id_id2])
                | ((with_reducible apply AWp.skip); try simp -implicitDefEqProofs [hK, hgx, x1, i64v_def, n_id2_id, n_id_id2])
                | ((with_reducible apply AWp.exit); try simp -implicitDefEqProofs [hK, hgx, x1, i64v_def, n_id2_id, n_id_id2]))
              simp [hA, hB, hx]
              all_goals (repeat (first | exact AS.le_refl _ | refine le_new (by simp [*]) ?_))
            · by_cases x2 : 65535 < x
              · have hx : okN x = false := by simp [okN]; omega
                repeat (first
                  | (with_reducible apply AWp.seq)
                  | (with_reducible apply AWp.block)
                  | ((with_reducible apply AWp.fork); simp -implicitDefEqProofs [hK, hgx, x1, x2, i64v_def, n_id2_id, n_id_id2])
                  | ((with_reducible apply AWp.region); simp -implicitDefEqProofs [hK, hgx, x1, x2, i64v_def, n_id2_id, n_id_id2])
                  | (with_reducible refine And.intro (by first | omega | assumption | decide) ?_)
                  | ((with_reducible show condK _ _ _); simp -implicitDefEqProofs [hK, hgx, x1, x2, i64v_def, n_id2_id, n_id_id2])
                  | ((with_reducible show guardK _ _ _ _ _ _ _ _ _); simp -implicitDefEqProofs [hK, hgx, x1, x2, i64v_def, n_id2_id, n_id_id2])
                  | ((with_reducible apply AWp.ret); try simp -implicitDefEqProofs [hK, hgx, x1, x2, i64v_def, n_id2_id, n_id_id2])
                  | ((with_reducible apply AWp.skip); try simp -implicitDefEqProofs [hK, hgx, x1, x2, i64v_def, n_id2_id, n_id_id2])
                  | ((with_reducible apply AWp.exit); try simp -implicitDefEqProofs [hK, hgx, x1, x2, i64v_def, n_id2_id, n_id_id2]))
                simp [hA, hB, hx]
                all_goals (repeat (first | exact AS.le_refl _ | refine le_new (by simp [*]) ?_))
              · have hx : okN x = true := by simp [okN]; omega
                repeat (first
                  | (with_reducible apply AWp.seq)
                  | (with_reducible apply AWp.block)
                  | ((with_reducible apply AWp.fork); simp -implicitDefEqProofs [hK, hgx, x1, x2, i64v_def, n_id2_id, n_id_id2])
                  | ((with_reducible apply AWp.region); simp -implicitDefEqProofs [hK, hgx, x1, x2, i64v_def, n_id2_id, n_id_id2])
                  | (with_reducible refine And.intro (by first | omega | assumption | decide) ?_)
                  | ((with_reducible show condK _ _ _); simp -implicitDefEqProofs [hK, hgx, x1, x2, i64v_def, n_id2_id, n_id_id2])
                  | ((with_reducible show guardK _ _ _ _ _ _ _ _ _); simp -implicitDefEqProofs [hK, hgx, x1, x2, i64v_def, n_id2_id, n_id_id2])
                  | ((with_reducible apply AWp.ret); try simp -implicitDefEqProofs [hK, hgx, x1, x2, i64v_def, n_id2_id, n_id_id2])
                  | ((with_reducible apply AWp.skip); try simp -implicitDefEqProofs [hK, hgx, x1, x2, i64v_def, n_id2_id, n_id_id2])
                  | ((with_reducible apply AWp.exit); try simp -implicitDefEqProofs [hK, hgx, x1, x2, i64v_def, n_id2_id, n_id_id2]))
                refine ⟨m2 - 1, _, _, by omega, FrWk.mk ?_, AS.le_refl _, k + 1, by omega, by omega, by rw [hB, hx, Bool.true_and], rfl, rfl⟩
                simp [wInc (show k < 4000000000000000000 by omega)]
          · have hK : ((k : Int) < 6) = False := by simp; omega
            have : l.drop k = [] := List.drop_eq_nil_of_le (by omega)
            rw [this] at hB
            repeat (first
              | (with_reducible apply AWp.seq)
              | (with_reducible apply AWp.block)
              | ((with_reducible apply AWp.fork); simp -implicitDefEqProofs [hK, n_id2_id, n_id_id2])
              | ((with_reducible apply AWp.region); simp -implicitDefEqProofs [hK, n_id2_id, n_id_id2])
              | (with_reducible refine And.intro (by first | omega | assumption | decide) ?_)
              | ((with_reducible show condK _ _ _); simp -implicitDefEqProofs [hK, n_id2_id, n_id_id2])
              | ((with_reducible show guardK _ _ _ _ _ _ _ _ _); simp -implicitDefEqProofs [hK, n_id2_id, n_id_id2])
              | ((with_reducible apply AWp.ret); try simp -implicitDefEqProofs [hK, n_id2_id, n_id_id2])
              | ((with_reducible apply AWp.skip); try simp -implicitDefEqProofs [hK, n_id2_id, n_id_id2])
              | ((with_reducible apply AWp.exit); try simp -implicitDefEqProofs [hK, n_id2_id, n_id_id2]))
            refine ⟨m - 1, _, _, by omega, FrWk.mk ?_, AS.le_refl _, i + 1, by omega, by omega, by rw [hA, hB]; simp, rfl, rfl⟩
            simp [wInc (show i < 4000000000000000000 by omega)]
        · have hI : ((i : Int) < cls.length) = False := by simp; omega
          have : cls.drop i = [] := List.drop_eq_nil_of_le (by omega)
          rw [this] at hA
          repeat (first
            | (with_reducible apply AWp.seq)
            | (with_reducible apply AWp.block)
            | ((with_reducible apply AWp.fork); simp -implicitDefEqProofs [hI])
            | ((with_reducible apply AWp.region); simp -implicitDefEqProofs [hI])
            | (with_reducible refine And.intro (by first | omega | assumption | decide) ?_)
            | ((with_reducible show condK _ _ _); simp -implicitDefEqProofs [hI])
            | ((with_reducible show guardK _ _ _ _ _ _ _ _ _); simp -implicitDefEqProofs [hI])
            | ((with_reducible apply AWp.ret); try simp -implicitDefEqProofs [hI])
            | ((with_reducible apply AWp.skip); try simp -implicitDefEqProofs [hI])
            | ((with_reducible apply AWp.exit); try simp -implicitDefEqProofs [hI]))
          simp [hA]
          all_goals (repeat (first | exact AS.le_refl _ | refine le_new (by simp [*]) ?_))
      · have e1 : ((code.length : Int) < 1) = False := by simp; omega
        have e2 : (65535 < (code.length : Int)) = False := by simp; omega
        have e3 : (6 < (cls.length : Int)) = True := by simp; omega
        have hR : rightB code cls = false := by simp [rightB, c3]
        rw [hR]
        repeat (first
          | (with_reducible apply AWp.seq)
          | (with_reducible apply AWp.block)
          | ((with_reducible apply AWp.fork); simp -implicitDefEqProofs [e1, e2, e3])
          | ((with_reducible apply AWp.region); simp -implicitDefEqProofs [e1, e2, e3])
          | (with_reducible refine And.intro (by first | omega | assumption | decide) ?_)
          | ((with_reducible show condK _ _ _); simp -implicitDefEqProofs [e1, e2, e3])
          | ((with_reducible show guardK _ _ _ _ _ _ _ _ _); simp -implicitDefEqProofs [e1, e2, e3])
          | ((with_reducible apply AWp.ret); try simp -implicitDefEqProofs [e1, e2, e3])
          | ((with_reducible apply AWp.skip); try simp -implicitDefEqProofs [e1, e2, e3])
          | ((with_reducible apply AWp.exit); try simp -implicitDefEqProofs [e1, e2, e3]))
        all_goals (repeat (first | exact AS.le_refl _ | refine le_new (by simp [*]) ?_))
    · have e1 : ((code.length : Int) < 1) = False := by simp; omega
      have e2 : (65535 < (code.length : Int)) = True := by simp; omega
      have hR : rightB code cls = false := by simp [rightB, c2]
      rw [hR]
      repeat (first
        | (with_reducible apply AWp.seq)
        | (with_reducible apply AWp.block)
        | ((with_reducible apply AWp.fork); simp -implicitDefEqProofs [e1, e2])
        | ((with_reducible apply AWp.region); simp -implicitDefEqProofs [e1, e2])
        | (with_reducible refine And.intro (by first | omega | assumption | decide) ?_)
        | ((with_reducible show condK _ _ _); simp -implicitDefEqProofs [e1, e2])
        | ((with_reducible show guardK _ _ _ _ _ _ _ _ _); simp -implicitDefEqProofs [e1, e2])
        | ((with_reducible apply AWp.ret); try simp -implicitDefEqProofs [e1, e2])
        | ((with_reducible apply AWp.skip); try simp -implicitDefEqProofs [e1, e2])
        | ((with_reducible apply AWp.exit); try simp -implicitDefEqProofs [e1, e2]))
      all_goals (repeat (first | exact AS.le_refl _ | refine le_new (by simp [*]) ?_))
  · have e1 : ((code.length : Int) < 1) = True := by simp; omega
    have hR : rightB code cls = false := by simp [rightB, c1]
    rw [hR]
    repeat (first
      | (with_reducible apply AWp.seq)
      | (with_reducible apply AWp.block)
      | ((with_reducible apply AWp.fork); simp -implicitDefEqProofs [e1])
      | ((with_reducible apply AWp.region); simp -implicitDefEqProofs [e1])
      | (with_reducible refine And.intro (by first | omega | assumption | decide) ?_)
      | ((with_reducible show condK _ _ _); simp -implicitDefEqProofs [e1])
      | ((with_reducible show guardK _ _ _ _ _ _ _ _ _); simp -implicitDefEqProofs [e1])
      | ((with_reducible apply AWp.ret); try simp -implicitDefEqProofs [e1])
      | ((with_reducible apply AWp.skip); try simp -implicitDefEqProofs [e1])
      | ((with_reducible apply AWp.exit); try simp -implicitDefEqProofs [e1]))
    all_goals (repeat (first | exact AS.le_refl _ | refine le_new (by simp [*]) ?_))

end Go.Proofs.Ytnkjbgcbchbonaa
