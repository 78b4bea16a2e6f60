/- The reference of chapter 08: Numbers, Right, Write. -/
import Derived.Test.YtnkjbgcbchbonaaBody2
set_option linter.unusedSimpArgs false
set_option linter.unusedVariables false
set_option maxRecDepth 100000
set_option maxHeartbeats 3200000
namespace Go.Proofs.Ytnkjbgcbchbonaa
open Go Go.AW

theorem rnumbers_ok (r : R6) (σ : AS) : ACalls Try.prog 50 [rawV r] σ (Owns (fun tk => .lst 3 ((nums r).map i64v) (.tok tk) false) 6 σ) No := by
  obtain ⟨a, b, c, d, e, f⟩ := r
  refine ACalls.of_body Try.func50 rfl rfl (by simp [Try.ntmps50]) ?_
  simp only [rawV]
  repeat (first
    | (with_reducible apply AWp.seq)
    | (with_reducible apply AWp.block)
    | ((with_reducible apply AWp.fork); simp -implicitDefEqProofs)
    | ((with_reducible apply AWp.region); simp -implicitDefEqProofs)
    | (with_reducible refine And.intro (by first | omega | assumption | decide) ?_)
    | ((with_reducible apply AWp.ret); try simp -implicitDefEqProofs)
    | ((with_reducible apply AWp.skip); try simp -implicitDefEqProofs)
    | ((with_reducible apply AWp.exit); try simp -implicitDefEqProofs))
  intro id h_id
  repeat (first
    | (with_reducible apply AWp.seq)
    | (with_reducible apply AWp.block)
    | ((with_reducible apply AWp.fork); simp -implicitDefEqProofs)
    | ((with_reducible apply AWp.region); simp -implicitDefEqProofs)
    | (with_reducible refine And.intro (by first | omega | assumption | decide) ?_)
    | ((with_reducible apply AWp.ret); try simp -implicitDefEqProofs)
    | ((with_reducible apply AWp.skip); try simp -implicitDefEqProofs)
    | ((with_reducible apply AWp.exit); try simp -implicitDefEqProofs))
  intro tk n_tk_id h_tk
  have n_id_tk : ¬ id = tk := fun e => n_tk_id e.symm
  repeat (first
    | (with_reducible apply AWp.seq)
    | (with_reducible apply AWp.block)
    | ((with_reducible apply AWp.fork); simp -implicitDefEqProofs [n_tk_id, n_id_tk])
    | ((with_reducible apply AWp.region); simp -implicitDefEqProofs [n_tk_id, n_id_tk])
    | (with_reducible refine And.intro (by first | omega | assumption | decide) ?_)
    | ((with_reducible show condK _ _ _); simp -implicitDefEqProofs [n_tk_id, n_id_tk])
    | ((with_reducible show guardK _ _ _ _ _ _ _ _ _); simp -implicitDefEqProofs [n_tk_id, n_id_tk])
    | ((with_reducible apply AWp.ret); try simp -implicitDefEqProofs [n_tk_id, n_id_tk])
    | ((with_reducible apply AWp.skip); try simp -implicitDefEqProofs [n_tk_id, n_id_tk])
    | ((with_reducible apply AWp.exit); try simp -implicitDefEqProofs [n_tk_id, n_id_tk]))
  refine owns_end tk h_tk (wk_eq (by simp [nums, i64v])) ?_
  exact le_tok (le_new h_id (AS.le_refl _)) rfl

def rrO (cls : List R6) (id : Nat) (B : AS) (m : Nat) (fr : Fr) (σ' : AS) : Prop :=
  ∃ i : Nat, m = cls.length - i ∧ i ≤ cls.length ∧ cls.all okR = (cls.drop i).all okR ∧ σ' = B ∧
    fr = mkF [(1, .ptr id 0), (3, .sc (.int .i64 i))]
def rrI (cls : List R6) (id : Nat) (B : AS) (i : Nat) (l : List Int) (m : Nat) (fr : Fr) (σ' : AS) : Prop :=
  ∃ k : Nat, m = 6 - k ∧ k ≤ 6 ∧ l.all okN = (l.drop k).all okN ∧ σ' = B ∧
    fr = mkF [(1, .ptr id 0), (3, .sc (.int .i64 i)), (4, .lst 3 (l.map i64v) .unk false), (5, .sc (.int .i64 k))]

theorem rright_ok (code : List UInt8) (cls : List R6) (o1 o2 : Own) (n1 n2 : Bool) (hc : code.length ≤ 140737488355328) (hk : cls.length ≤ 140737488355328) (σ : AS) :
    ACalls Try.prog 48 [.agg [.lst 5 (code.map u8) o1 n1, .lst 91 (cls.map rawV) o2 n2]] σ (Gives (.sc (.bool (rightB code cls))) σ) No := by
  refine ACalls.of_body Try.func48 rfl rfl (by simp [Try.ntmps48]) ?_
  repeat (first
    | (with_reducible apply AWp.seq)
    | (with_reducible apply AWp.block)
    | ((with_reducible apply AWp.fork); simp -implicitDefEqProofs)
    | ((with_reducible apply AWp.region); simp -implicitDefEqProofs)
    | (with_reducible refine And.intro (by first | omega | assumption | decide) ?_)
    | ((with_reducible apply AWp.ret); try simp -implicitDefEqProofs)
    | ((with_reducible apply AWp.skip); try simp -implicitDefEqProofs)
    | ((with_reducible apply AWp.exit); try simp -implicitDefEqProofs))
  intro id h_id
  by_cases c1 : 1 ≤ code.length
  · by_cases c2 : code.length ≤ 65535
    · by_cases c3 : cls.length ≤ 6
      · have e1 : ((code.length : Int) < 1) = False := by simp; omega
        have e2 : (65535 < (code.length : Int)) = False := by simp; omega
        have e3 : (6 < (cls.length : Int)) = False := by simp; omega
        have hR : rightB code cls = cls.all okR := by simp [rightB, c1, c2, c3]
        rw [hR]
        repeat (first
          | (with_reducible apply AWp.seq)
          | (with_reducible apply AWp.block)
          | ((with_reducible apply AWp.fork); simp -implicitDefEqProofs [e1, e2, e3])
          | ((with_reducible apply AWp.region); simp -implicitDefEqProofs [e1, e2, e3])
          | (with_reducible refine And.intro (by first | omega | assumption | decide) ?_)
          | ((with_reducible show condK _ _ _); simp -implicitDefEqProofs [e1, e2, e3])
          | ((with_reducible show guardK _ _ _ _ _ _ _ _ _); simp -implicitDefEqProofs [e1, e2, e3])
          | ((with_reducible apply AWp.ret); try simp -implicitDefEqProofs [e1, e2, e3])
          | ((with_reducible apply AWp.skip); try simp -implicitDefEqProofs [e1, e2, e3])
          | ((with_reducible apply AWp.exit); try simp -implicitDefEqProofs [e1, e2, e3]))
        have hBid : (σ.set id (.cells 48 [.lst 5 (code.map u8) o1 n1, .lst 91 (cls.map rawV) o2 n2])) id = some (.cells 48 [.lst 5 (code.map u8) o1 n1, .lst 91 (cls.map rawV) o2 n2]) := by simp
        have hBle : AS.le σ (σ.set id (.cells 48 [.lst 5 (code.map u8) o1 n1, .lst 91 (cls.map rawV) o2 n2])) := le_new h_id (AS.le_refl _)
        generalize (σ.set id (.cells 48 [.lst 5 (code.map u8) o1 n1, .lst 91 (cls.map rawV) o2 n2])) = B at *
        refine AWp.loopI (rrO cls id B) (k0 := cls.length) ⟨0, by omega, by omega, rfl, rfl, rfl⟩ (FrWk.mk (by simp)) (AS.le_refl _) ?_
        rintro m fr σ' ⟨i, hm, hi, hA, rfl, rfl⟩
        by_cases hlt : i < cls.length
        · obtain ⟨r, hg, hd, hmem, _⟩ := at_lt cls hlt
          have hI : ((i : Int) < cls.length) = True := by simp; omega
          rw [hd] at hA
          have hrv : rawV r = .agg [.sc (.int .i64 r.kd), .sc (.int .i64 r.ta), .sc (.int .i64 r.tl), .sc (.int .i64 r.ha), .sc (.int .i64 r.hl), .sc (.int .i64 r.ex)] := rfl
          have hn := fun σ => rnumbers_ok r σ
          have hl6 := nums_len r
          have hA2 : okR r = (nums r).all okN := rfl
          rw [List.all_cons, hA2] at hA
          simp only [hrv] at hn
          generalize nums r = l at hn hl6 hA
          repeat (first
            | (with_reducible apply AWp.seq)
            | (with_reducible apply AWp.block)
            | ((with_reducible apply AWp.fork); simp -implicitDefEqProofs [hI, hBid, hg, hrv])
            | ((with_reducible apply AWp.region); simp -implicitDefEqProofs [hI, hBid, hg, hrv])
            | (with_reducible refine And.intro (by first | omega | assumption | decide) ?_)
            | ((with_reducible show condK _ _ _); simp -implicitDefEqProofs [hI, hBid, hg, hrv])
            | ((with_reducible show guardK _ _ _ _ _ _ _ _ _); simp -implicitDefEqProofs [hI, hBid, hg, hrv])
            | ((with_reducible apply aCall.id); first
                | ((apply aCall.owns (hn _)); simp -implicitDefEqProofs [hI, hBid, hg, hrv]))
            | ((with_reducible apply AWp.ret); try simp -implicitDefEqProofs [hI, hBid, hg, hrv])
            | ((with_reducible apply AWp.skip); try simp -implicitDefEqProofs [hI, hBid, hg, hrv])
            | ((with_reducible apply AWp.exit); try simp -implicitDefEqProofs [hI, hBid, hg, hrv]))
          intro tk htk
          repeat (first
            | (with_reducible apply AWp.seq)
            | (with_reducible apply AWp.block)
            | ((with_reducible apply AWp.fork); simp -implicitDefEqProofs [hI, hBid, hg, hrv])
            | ((with_reducible apply AWp.region); simp -implicitDefEqProofs [hI, hBid, hg, hrv])
            | (with_reducible refine And.intro (by first | omega | assumption | decide) ?_)
            | ((with_reducible show condK _ _ _); simp -implicitDefEqProofs [hI, hBid, hg, hrv])
            | ((with_reducible show guardK _ _ _ _ _ _ _ _ _); simp -implicitDefEqProofs [hI, hBid, hg, hrv])
            | ((with_reducible apply AWp.ret); try simp -implicitDefEqProofs [hI, hBid, hg, hrv])
            | ((with_reducible apply AWp.skip); try simp -implicitDefEqProofs [hI, hBid, hg, hrv])
            | ((with_reducible apply AWp.exit); try simp -implicitDefEqProofs [hI, hBid, hg, hrv]))
          refine AWp.loopI (rrI cls id σ' i l) (k0 := 6) ⟨0, by omega, by omega, rfl, rfl, rfl⟩ (FrWk.mk (by simp)) (le_new htk (AS.le_refl _)) ?_
          rintro m2 fr σ'' ⟨k, hm2, hk6, hB, rfl, rfl⟩
          by_cases hk2 : k < 6
          · obtain ⟨x, hgx, hdx, _, _⟩ := at_lt l (i := k) (by omega)
            obtain ⟨_, hgx'⟩ := List.getElem?_eq_some_iff.1 hgx
            have hK : ((k : Int) < 6) = True := by simp; omega
            rw [hdx] at hB
            rw [List.all_cons] at hB
            by_cases x1 : x < 0
            · have hx : okN x = false := by simp [okN]; omega
              repeat (first
                | (with_reducible apply AWp.seq)
                | (with_reducible apply AWp.block)
                | ((with_reducible apply AWp.fork); simp -implicitDefEqProofs [hK, hk2, hl6, hgx, hgx', x1, i64v_def])
                | ((with_reducible apply AWp.region); simp -implicitDefEqProofs [hK, hk2, hl6, hgx, hgx', x1, i64v_def])
                | (with_reducible refine And.intro (by first | omega | assumption | decide) ?_)
                | ((with_reducible show condK _ _ _); simp -implicitDefEqProofs [hK, hk2, hl6, hgx, hgx', x1, i64v_def])
                | ((with_reducible show guardK _ _ _ _ _ _ _ _ _); simp -implicitDefEqProofs [hK, hk2, hl6, hgx, hgx', x1, i64v_def])
                | ((with_reducible apply AWp.ret); try simp -implicitDefEqProofs [hK, hk2, hl6, hgx, hgx', x1, i64v_def])
                | ((with_reducible apply AWp.skip); try simp -implicitDefEqProofs [hK, hk2, hl6, hgx, hgx', x1, i64v_def])
                | ((with_reducible apply AWp.exit); try simp -implicitDefEqProofs [hK, hk2, hl6, hgx, hgx', x1, i64v_def]))
              simp [hA, hB, hx]
              exact hBle
            · by_cases x2 : 65535 < x
              · have hx : okN x = false := by simp [okN]; omega
                repeat (first
                  | (with_reducible apply AWp.seq)
                  | (with_reducible apply AWp.block)
                  | ((with_reducible apply AWp.fork); simp -implicitDefEqProofs [hK, hk2, hl6, hgx, hgx', x1, x2, i64v_def])
                  | ((with_reducible apply AWp.region); simp -implicitDefEqProofs [hK, hk2, hl6, hgx, hgx', x1, x2, i64v_def])
                  | (with_reducible refine And.intro (by first | omega | assumption | decide) ?_)
                  | ((with_reducible show condK _ _ _); simp -implicitDefEqProofs [hK, hk2, hl6, hgx, hgx', x1, x2, i64v_def])
                  | ((with_reducible show guardK _ _ _ _ _ _ _ _ _); simp -implicitDefEqProofs [hK, hk2, hl6, hgx, hgx', x1, x2, i64v_def])
                  | ((with_reducible apply AWp.ret); try simp -implicitDefEqProofs [hK, hk2, hl6, hgx, hgx', x1, x2, i64v_def])
                  | ((with_reducible apply AWp.skip); try simp -implicitDefEqProofs [hK, hk2, hl6, hgx, hgx', x1, x2, i64v_def])
                  | ((with_reducible apply AWp.exit); try simp -implicitDefEqProofs [hK, hk2, hl6, hgx, hgx', x1, x2, i64v_def]))
                simp [hA, hB, hx]
                exact hBle
              · have hx : okN x = true := by simp [okN]; omega
                repeat (first
                  | (with_reducible apply AWp.seq)
                  | (with_reducible apply AWp.block)
                  | ((with_reducible apply AWp.fork); simp -implicitDefEqProofs [hK, hk2, hl6, hgx, hgx', x1, x2, i64v_def])
                  | ((with_reducible apply AWp.region); simp -implicitDefEqProofs [hK, hk2, hl6, hgx, hgx', x1, x2, i64v_def])
                  | (with_reducible refine And.intro (by first | omega | assumption | decide) ?_)
                  | ((with_reducible show condK _ _ _); simp -implicitDefEqProofs [hK, hk2, hl6, hgx, hgx', x1, x2, i64v_def])
                  | ((with_reducible show guardK _ _ _ _ _ _ _ _ _); simp -implicitDefEqProofs [hK, hk2, hl6, hgx, hgx', x1, x2, i64v_def])
                  | ((with_reducible apply AWp.ret); try simp -implicitDefEqProofs [hK, hk2, hl6, hgx, hgx', x1, x2, i64v_def])
                  | ((with_reducible apply AWp.skip); try simp -implicitDefEqProofs [hK, hk2, hl6, hgx, hgx', x1, x2, i64v_def])
                  | ((with_reducible apply AWp.exit); try simp -implicitDefEqProofs [hK, hk2, hl6, hgx, hgx', x1, x2, i64v_def]))
                refine ⟨m2 - 1, _, _, by omega, FrWk.mk ?_, AS.le_refl _, k + 1, by omega, by omega, by rw [hB, hx, Bool.true_and], rfl, rfl⟩
                simp [wInc (show k < 4000000000000000000 by omega)]
          · have hK : ((k : Int) < 6) = False := by simp; omega
            have : l.drop k = [] := List.drop_eq_nil_of_le (by omega)
            rw [this] at hB
            repeat (first
              | (with_reducible apply AWp.seq)
              | (with_reducible apply AWp.block)
              | ((with_reducible apply AWp.fork); simp -implicitDefEqProofs [hK])
              | ((with_reducible apply AWp.region); simp -implicitDefEqProofs [hK])
              | (with_reducible refine And.intro (by first | omega | assumption | decide) ?_)
              | ((with_reducible show condK _ _ _); simp -implicitDefEqProofs [hK])
              | ((with_reducible show guardK _ _ _ _ _ _ _ _ _); simp -implicitDefEqProofs [hK])
              | ((with_reducible apply AWp.ret); try simp -implicitDefEqProofs [hK])
              | ((with_reducible apply AWp.skip); try simp -implicitDefEqProofs [hK])
              | ((with_reducible apply AWp.exit); try simp -implicitDefEqProofs [hK]))
            refine ⟨m - 1, _, _, by omega, FrWk.mk ?_, AS.le_refl _, i + 1, by omega, by omega, by rw [hA, hB]; simp, rfl, rfl⟩
            simp [wInc (show i < 4000000000000000000 by omega)]
        · have hI : ((i : Int) < cls.length) = False := by simp; omega
          have : cls.drop i = [] := List.drop_eq_nil_of_le (by omega)
          rw [this] at hA
          repeat (first
            | (with_reducible apply AWp.seq)
            | (with_reducible apply AWp.block)
            | ((with_reducible apply AWp.fork); simp -implicitDefEqProofs [hI, hBid])
            | ((with_reducible apply AWp.region); simp -implicitDefEqProofs [hI, hBid])
            | (with_reducible refine And.intro (by first | omega | assumption | decide) ?_)
            | ((with_reducible show condK _ _ _); simp -implicitDefEqProofs [hI, hBid])
            | ((with_reducible show guardK _ _ _ _ _ _ _ _ _); simp -implicitDefEqProofs [hI, hBid])
            | ((with_reducible apply AWp.ret); try simp -implicitDefEqProofs [hI, hBid])
            | ((with_reducible apply AWp.skip); try simp -implicitDefEqProofs [hI, hBid])
            | ((with_reducible apply AWp.exit); try simp -implicitDefEqProofs [hI, hBid]))
          simp [hA]
          exact hBle
      · have e1 : ((code.length : Int) < 1) = False := by simp; omega
        have e2 : (65535 < (code.length : Int)) = False := by simp; omega
        have e3 : (6 < (cls.length : Int)) = True := by simp; omega
        have hR : rightB code cls = false := by simp [rightB, c3]
        rw [hR]
        repeat (first
          | (with_reducible apply AWp.seq)
          | (with_reducible apply AWp.block)
          | ((with_reducible apply AWp.fork); simp -implicitDefEqProofs [e1, e2, e3])
          | ((with_reducible apply AWp.region); simp -implicitDefEqProofs [e1, e2, e3])
          | (with_reducible refine And.intro (by first | omega | assumption | decide) ?_)
          | ((with_reducible show condK _ _ _); simp -implicitDefEqProofs [e1, e2, e3])
          | ((with_reducible show guardK _ _ _ _ _ _ _ _ _); simp -implicitDefEqProofs [e1, e2, e3])
          | ((with_reducible apply AWp.ret); try simp -implicitDefEqProofs [e1, e2, e3])
          | ((with_reducible apply AWp.skip); try simp -implicitDefEqProofs [e1, e2, e3])
          | ((with_reducible apply AWp.exit); try simp -implicitDefEqProofs [e1, e2, e3]))
        all_goals (repeat (first | exact AS.le_refl _ | refine le_new (by simp [*]) ?_))
    · have e1 : ((code.length : Int) < 1) = False := by simp; omega
      have e2 : (65535 < (code.length : Int)) = True := by simp; omega
      have hR : rightB code cls = false := by simp [rightB, c2]
      rw [hR]
      repeat (first
        | (with_reducible apply AWp.seq)
        | (with_reducible apply AWp.block)
        | ((with_reducible apply AWp.fork); simp -implicitDefEqProofs [e1, e2])
        | ((with_reducible apply AWp.region); simp -implicitDefEqProofs [e1, e2])
        | (with_reducible refine And.intro (by first | omega | assumption | decide) ?_)
        | ((with_reducible show condK _ _ _); simp -implicitDefEqProofs [e1, e2])
        | ((with_reducible show guardK _ _ _ _ _ _ _ _ _); simp -implicitDefEqProofs [e1, e2])
        | ((with_reducible apply AWp.ret); try simp -implicitDefEqProofs [e1, e2])
        | ((with_reducible apply AWp.skip); try simp -implicitDefEqProofs [e1, e2])
        | ((with_reducible apply AWp.exit); try simp -implicitDefEqProofs [e1, e2]))
      all_goals (repeat (first | exact AS.le_refl _ | refine le_new (by simp [*]) ?_))
  · have e1 : ((code.length : Int) < 1) = True := by simp; omega
    have hR : rightB code cls = false := by simp [rightB, c1]
    rw [hR]
    repeat (first
      | (with_reducible apply AWp.seq)
      | (with_reducible apply AWp.block)
      | ((with_reducible apply AWp.fork); simp -implicitDefEqProofs [e1])
      | ((with_reducible apply AWp.region); simp -implicitDefEqProofs [e1])
      | (with_reducible refine And.intro (by first | omega | assumption | decide) ?_)
      | ((with_reducible show condK _ _ _); simp -implicitDefEqProofs [e1])
      | ((with_reducible show guardK _ _ _ _ _ _ _ _ _); simp -implicitDefEqProofs [e1])
      | ((with_reducible apply AWp.ret); try simp -implicitDefEqProofs [e1])
      | ((with_reducible apply AWp.skip); try simp -implicitDefEqProofs [e1])
      | ((with_reducible apply AWp.exit); try simp -implicitDefEqProofs [e1]))
    all_goals (repeat (first | exact AS.le_refl _ | refine le_new (by simp [*]) ?_))

theorem rwrite_bad (code : List UInt8) (cls : List R6) (o1 o2 : Own) (n1 n2 : Bool) (hc : code.length ≤ 140737488355328) (hk : cls.length ≤ 140737488355328) (hr : rightB code cls = false) (σ : AS) :
    ACalls Try.prog 25 [.agg [.lst 5 (code.map u8) o1 n1, .lst 91 (cls.map rawV) o2 n2]] σ (Gives (.tup [.nilS, .sc (.int .i64 17)]) σ) No := by
  have h1 := fun σ => rright_ok code cls o1 o2 n1 n2 hc hk σ
  rw [hr] at h1
  refine ACalls.of_body Try.func25 rfl rfl (by simp [Try.ntmps25]) ?_
  repeat (first
    | (with_reducible apply AWp.seq)
    | (with_reducible apply AWp.block)
    | ((with_reducible apply AWp.fork); simp -implicitDefEqProofs)
    | ((with_reducible apply AWp.region); simp -implicitDefEqProofs)
    | (with_reducible refine And.intro (by first | omega | assumption | decide) ?_)
    | ((with_reducible apply AWp.ret); try simp -implicitDefEqProofs)
    | ((with_reducible apply AWp.skip); try simp -implicitDefEqProofs)
    | ((with_reducible apply AWp.exit); try simp -implicitDefEqProofs))
  intro id h_id
  repeat (first
    | (with_reducible apply AWp.seq)
    | (with_reducible apply AWp.block)
    | ((with_reducible apply AWp.fork); simp -implicitDefEqProofs)
    | ((with_reducible apply AWp.region); simp -implicitDefEqProofs)
    | (with_reducible refine And.intro (by first | omega | assumption | decide) ?_)
    | ((with_reducible apply aCall.id); first
        | ((apply aCall.gives (h1 _)); simp -implicitDefEqProofs))
    | ((with_reducible apply AWp.ret); try simp -implicitDefEqProofs)
    | ((with_reducible apply AWp.skip); try simp -implicitDefEqProofs)
    | ((with_reducible apply AWp.exit); try simp -implicitDefEqProofs))
  all_goals (repeat (first | exact AS.le_refl _ | refine le_new (by simp [*]) ?_))

theorem rwrite_small (code : List UInt8) (o1 o2 : Own) (n1 n2 : Bool) (hr : rightB code [] = true) (hs : code.length < 64) (σ : AS) :
    ACalls Try.prog 25 [.agg [.lst 5 (code.map u8) o1 n1, .lst 91 [] o2 n2]] σ
      (Owns (fun tk => .tup [.lst 5 ((writeB code []).map u8) (.tok tk) false, .sc (.int .i64 0)]) (writeB code []).length σ) No := by
  have h1 := fun σ => rright_ok code [] o1 o2 n1 n2 (by omega) (by simp) σ
  simp only [List.map_nil] at h1
  rw [hr] at h1
  have hS : ((code.length : Int) < 64) = True := by simp; omega
  have w1 : IntKind.i64.wrap (4 * (code.length : Int)) = 4 * code.length := in_i64 (by omega) (by omega)
  have w3 : IntKind.i64.wrap (4 * (code.length : Int) + 2) = 4 * code.length + 2 := in_i64 (by omega) (by omega)
  have w4 : IntKind.u8.wrap (4 * (code.length : Int) + 2) = ((UInt8.ofNat (4 * code.length + 2)).toNat : Int) := by rw [w_u8]; simp
  refine ACalls.of_body Try.func25 rfl rfl (by simp [Try.ntmps25]) ?_
  repeat (first
    | (with_reducible apply AWp.seq)
    | (with_reducible apply AWp.block)
    | ((with_reducible apply AWp.fork); simp -implicitDefEqProofs)
    | ((with_reducible apply AWp.region); simp -implicitDefEqProofs)
    | (with_reducible refine And.intro (by first | omega | assumption | decide) ?_)
    | ((with_reducible apply AWp.ret); try simp -implicitDefEqProofs)
    | ((with_reducible apply AWp.skip); try simp -implicitDefEqProofs)
    | ((with_reducible apply AWp.exit); try simp -implicitDefEqProofs))
  intro id h_id
  repeat (first
    | (with_reducible apply AWp.seq)
    | (with_reducible apply AWp.block)
    | ((with_reducible apply AWp.fork); simp -implicitDefEqProofs [hS, w1, w3, w4, Try.underlying3, Try.underlying5])
    | ((with_reducible apply AWp.region); simp -implicitDefEqProofs [hS, w1, w3, w4, Try.underlying3, Try.underlying5])
    | (with_reducible refine And.intro (by first | omega | assumption | decide) ?_)
    | ((with_reducible show condK _ _ _); simp -implicitDefEqProofs [hS, w1, w3, w4, Try.underlying3, Try.underlying5])
    | ((with_reducible show guardK _ _ _ _ _ _ _ _ _); simp -implicitDefEqProofs [hS, w1, w3, w4, Try.underlying3, Try.underlying5])
    | ((with_reducible apply aCall.id); first
        | ((apply aCall.gives (h1 _)); simp -implicitDefEqProofs [hS, w1, w3, w4, Try.underlying3, Try.underlying5]))
    | ((with_reducible apply AWp.ret); try simp -implicitDefEqProofs [hS, w1, w3, w4, Try.underlying3, Try.underlying5])
    | ((with_reducible apply AWp.skip); try simp -implicitDefEqProofs [hS, w1, w3, w4, Try.underlying3, Try.underlying5])
    | ((with_reducible apply AWp.exit); try simp -implicitDefEqProofs [hS, w1, w3, w4, Try.underlying3, Try.underlying5]))
  intro tk n_tk_id h_tk
  have n_id_tk : ¬ id = tk := fun e => n_tk_id e.symm
  repeat (first
    | (with_reducible apply AWp.seq)
    | (with_reducible apply AWp.block)
    | ((with_reducible apply AWp.fork); simp -implicitDefEqProofs [n_tk_id, n_id_tk])
    | ((with_reducible apply AWp.region); simp -implicitDefEqProofs [n_tk_id, n_id_tk])
    | (with_reducible refine And.intro (by first | omega | assumption | decide) ?_)
    | ((with_reducible show condK _ _ _); simp -implicitDefEqProofs [n_tk_id, n_id_tk])
    | ((with_reducible show guardK _ _ _ _ _ _ _ _ _); simp -implicitDefEqProofs [n_tk_id, n_id_tk])
    | ((with_reducible apply AWp.ret); try simp -implicitDefEqProofs [n_tk_id, n_id_tk])
    | ((with_reducible apply AWp.skip); try simp -implicitDefEqProofs [n_tk_id, n_id_tk])
    | ((with_reducible apply AWp.exit); try simp -implicitDefEqProofs [n_tk_id, n_id_tk]))
  refine owns_end tk h_tk (wk_eq (by simp [writeB, hs])) ?_
  simp [writeB, hs]
  exact le_tok (le_new h_id (AS.le_refl _)) (by omega)

theorem rwrite_big (code : List UInt8) (o1 o2 : Own) (n1 n2 : Bool) (hr : rightB code [] = true) (hs : ¬ code.length < 64) (hc : code.length ≤ 65535) (σ : AS) :
    ACalls Try.prog 25 [.agg [.lst 5 (code.map u8) o1 n1, .lst 91 [] o2 n2]] σ
      (Owns (fun tk => .tup [.lst 5 ((writeB code []).map u8) (.tok tk) false, .sc (.int .i64 0)]) (writeB code []).length σ) No := by
  have h1 := fun σ => rright_ok code [] o1 o2 n1 n2 (by omega) (by simp) σ
  simp only [List.map_nil] at h1
  rw [hr] at h1
  have hS : ((code.length : Int) < 64) = False := by simp; omega
  have w1 : IntKind.u64.wrap (code.length : Int) = code.length := in_u64 (by omega) (by omega)
  have hp := fun σ => rput_ok code.length 4 (by omega) (by omega) (by decide) (by decide) σ
  have hb := putB_length code.length 4
  have hW : writeB code [] = [3, 0, 0, 0] ++ putB code.length 4 ++ code := by simp [writeB, hs, headB]
  rw [hW]
  have h4 : Int.toNat 4 = 4 := rfl
  rw [h4] at hp
  refine ACalls.of_body Try.func25 rfl rfl (by simp [Try.ntmps25]) ?_
  repeat (first
    | (with_reducible apply AWp.seq)
    | (with_reducible apply AWp.block)
    | ((with_reducible apply AWp.fork); simp -implicitDefEqProofs)
    | ((with_reducible apply AWp.region); simp -implicitDefEqProofs)
    | (with_reducible refine And.intro (by first | omega | assumption | decide) ?_)
    | ((with_reducible apply AWp.ret); try simp -implicitDefEqProofs)
    | ((with_reducible apply AWp.skip); try simp -implicitDefEqProofs)
    | ((with_reducible apply AWp.exit); try simp -implicitDefEqProofs))
  intro id h_id
  repeat (first
    | (with_reducible apply AWp.seq)
    | (with_reducible apply AWp.block)
    | ((with_reducible apply AWp.fork); simp -implicitDefEqProofs [hS, w1, Try.underlying3, Try.underlying89])
    | ((with_reducible apply AWp.region); simp -implicitDefEqProofs [hS, w1, Try.underlying3, Try.underlying89])
    | (with_reducible refine And.intro (by first | omega | assumption | decide) ?_)
    | ((with_reducible show condK _ _ _); simp -implicitDefEqProofs [hS, w1, Try.underlying3, Try.underlying89])
    | ((with_reducible show guardK _ _ _ _ _ _ _ _ _); simp -implicitDefEqProofs [hS, w1, Try.underlying3, Try.underlying89])
    | ((with_reducible apply aCall.id); first
        | ((apply aCall.gives (h1 _)); simp -implicitDefEqProofs [hS, w1, Try.underlying3, Try.underlying89]))
    | ((with_reducible apply AWp.ret); try simp -implicitDefEqProofs [hS, w1, Try.underlying3, Try.underlying89])
    | ((with_reducible apply AWp.skip); try simp -implicitDefEqProofs [hS, w1, Try.underlying3, Try.underlying89])
    | ((with_reducible apply AWp.exit); try simp -implicitDefEqProofs [hS, w1, Try.underlying3, Try.underlying89]))
  intro tk n_tk_id h_tk
  have n_id_tk : ¬ id = tk := fun e => n_tk_id e.symm
  generalize putB code.length 4 = pb at hb hp ⊢
  repeat (first
    | (with_reducible apply AWp.seq)
    | (with_reducible apply AWp.block)
    | ((with_reducible apply AWp.fork); simp -implicitDefEqProofs [hS, w1, Try.underlying3, Try.underlying89, n_tk_id, n_id_tk])
    | ((with_reducible apply AWp.region); simp -implicitDefEqProofs [hS, w1, Try.underlying3, Try.underlying89, n_tk_id, n_id_tk])
    | (with_reducible refine And.intro (by first | omega | assumption | decide) ?_)
    | ((with_reducible show condK _ _ _); simp -implicitDefEqProofs [hS, w1, Try.underlying3, Try.underlying89, n_tk_id, n_id_tk])
    | ((with_reducible show guardK _ _ _ _ _ _ _ _ _); simp -implicitDefEqProofs [hS, w1, Try.underlying3, Try.underlying89, n_tk_id, n_id_tk])
    | ((with_reducible apply aCall.id); first
        | ((apply aCall.owns (hp _)); simp -implicitDefEqProofs [hS, w1, Try.underlying3, Try.underlying89, n_tk_id, n_id_tk]))
    | ((with_reducible apply AWp.ret); try simp -implicitDefEqProofs [hS, w1, Try.underlying3, Try.underlying89, n_tk_id, n_id_tk])
    | ((with_reducible apply AWp.skip); try simp -implicitDefEqProofs [hS, w1, Try.underlying3, Try.underlying89, n_tk_id, n_id_tk])
    | ((with_reducible apply AWp.exit); try simp -implicitDefEqProofs [hS, w1, Try.underlying3, Try.underlying89, n_tk_id, n_id_tk]))
  intro tk2 n_tk2_tk n_tk2_id h_tk2
  have n_tk_tk2 : ¬ tk = tk2 := fun e => n_tk2_tk e.symm
  have n_id_tk2 : ¬ id = tk2 := fun e => n_tk2_id e.symm
  repeat (first
    | (with_reducible apply AWp.seq)
    | (with_reducible apply AWp.block)
    | ((with_reducible apply AWp.fork); simp -implicitDefEqProofs [hb, n_tk_id, n_id_tk, n_tk2_tk, n_tk_tk2, n_tk2_id, n_id_tk2])
    | ((with_reducible apply AWp.region); simp -implicitDefEqProofs [hb, n_tk_id, n_id_tk, n_tk2_tk, n_tk_tk2, n_tk2_id, n_id_tk2])
    | (with_reducible refine And.intro (by first | omega | assumption | decide) ?_)
    | ((with_reducible show condK _ _ _); simp -implicitDefEqProofs [hb, n_tk_id, n_id_tk, n_tk2_tk, n_tk_tk2, n_tk2_id, n_id_tk2])
    | ((with_reducible show guardK _ _ _ _ _ _ _ _ _); simp -implicitDefEqProofs [hb, n_tk_id, n_id_tk, n_tk2_tk, n_tk_tk2, n_tk2_id, n_id_tk2])
    | ((with_reducible apply AWp.ret); try simp -implicitDefEqProofs [hb, n_tk_id, n_id_tk, n_tk2_tk, n_tk_tk2, n_tk2_id, n_id_tk2])
    | ((with_reducible apply AWp.skip); try simp -implicitDefEqProofs [hb, n_tk_id, n_id_tk, n_tk2_tk, n_tk_tk2, n_tk2_id, n_id_tk2])
    | ((with_reducible apply AWp.exit); try simp -implicitDefEqProofs [hb, n_tk_id, n_id_tk, n_tk2_tk, n_tk_tk2, n_tk2_id, n_id_tk2]))
  refine owns_end tk h_tk (wk_eq (by simp)) ?_
  exact le_new (by simp [*]) (le_tok (le_new h_id (AS.le_refl _)) (by omega))

def rwP (id : Nat) (L : List UInt8) (B : AS) (m : Nat) (fr : Fr) (σ' : AS) : Prop :=
  ∃ (l : List UInt8) (tk : Nat), padL l = L ∧ m = (4 - l.length % 4) % 4 ∧ l.length ≤ L.length ∧ B tk = none ∧ σ' = B.set tk (.tok l.length) ∧
    fr = mkF [(1, .ptr id 0), (4, .lst 5 (l.map u8) (.tok tk) false)]
def rwO (cls : List R6) (id : Nat) (L : List UInt8) (B : AS) (m : Nat) (fr : Fr) (σ' : AS) : Prop :=
  ∃ (i : Nat) (tk : Nat), m = cls.length - i ∧ i ≤ cls.length ∧ B tk = none ∧ σ' = B.set tk (.tok (L ++ (cls.take i).flatMap encR).length) ∧
    fr = mkF [(1, .ptr id 0), (4, .lst 5 ((L ++ (cls.take i).flatMap encR).map u8) (.tok tk) false), (5, .sc (.int .i64 i))]
def rwI (id : Nat) (L : List UInt8) (B : AS) (i : Nat) (l : List Int) (m : Nat) (fr : Fr) (σ' : AS) : Prop :=
  ∃ (k : Nat) (tk : Nat), m = 6 - k ∧ k ≤ 6 ∧ B tk = none ∧ σ' = B.set tk (.tok (L ++ (l.take k).flatMap (putB · 2)).length) ∧
    fr = mkF [(1, .ptr id 0), (4, .lst 5 ((L ++ (l.take k).flatMap (putB · 2)).map u8) (.tok tk) false), (5, .sc (.int .i64 i)), (6, .lst 3 (l.map i64v) .unk false), (7, .sc (.int .i64 k))]

theorem rwrite_cls (code : List UInt8) (cls : List R6) (o1 o2 : Own) (n1 n2 : Bool) (hr : rightB code cls = true) (hne : cls ≠ []) (σ : AS) :
    ACalls Try.prog 25 [.agg [.lst 5 (code.map u8) o1 n1, .lst 91 (cls.map rawV) o2 n2]] σ
      (Owns (fun tk => .tup [.lst 5 ((writeB code cls).map u8) (.tok tk) false, .sc (.int .i64 0)]) (writeB code cls).length σ) No := by
  obtain ⟨g1, g2, g3, g4⟩ : 1 ≤ code.length ∧ code.length ≤ 65535 ∧ cls.length ≤ 6 ∧ ∀ r ∈ cls, okR r = true := by simpa [rightB] using hr
  have h1 := fun σ => rright_ok code cls o1 o2 n1 n2 (by omega) (by omega) σ
  rw [hr] at h1
  have hS : ((cls.length : Int) = 0) = False := by simp [hne]
  have hS' : (cls = []) = False := by simp [hne]
  have hS2 : (0 < (cls.length : Int)) = True := by
    have := List.length_pos_iff.2 hne
    simp; omega
  have hS3 : (0 < cls.length) = True := by
    have := List.length_pos_iff.2 hne
    simp; omega
  have w1 : IntKind.u64.wrap (code.length : Int) = code.length := in_u64 (by omega) (by omega)
  have hp := fun σ => rput_ok code.length 4 (by omega) (by omega) (by decide) (by decide) σ
  have hb := putB_length code.length 4
  have h4 : Int.toNat 4 = 4 := rfl
  rw [h4] at hp
  have hW : writeB code cls = padL ([11, 0, 0, 0] ++ putB code.length 4 ++ code) ++ [1, UInt8.ofNat cls.length, 0, 0] ++ cls.flatMap encR := by simp [writeB, hne, headB]
  rw [hW]
  generalize hL0' : padL ([11, 0, 0, 0] ++ putB code.length 4 ++ code) = L
  generalize putB code.length 4 = pb at hb hp hL0'
  refine ACalls.of_body Try.func25 rfl rfl (by simp [Try.ntmps25]) ?_
  repeat (first
    | (with_reducible apply AWp.seq)
    | (with_reducible apply AWp.block)
    | ((with_reducible apply AWp.fork); simp -implicitDefEqProofs)
    | ((with_reducible apply AWp.region); simp -implicitDefEqProofs)
    | (with_reducible refine And.intro (by first | omega | assumption | decide) ?_)
    | ((with_reducible apply AWp.ret); try simp -implicitDefEqProofs)
    | ((with_reducible apply AWp.skip); try simp -implicitDefEqProofs)
    | ((with_reducible apply AWp.exit); try simp -implicitDefEqProofs))
  intro id h_id
  have h64 : ((code.length : Int) < 64) = True ∨ ((code.length : Int) < 64) = False := by
    by_cases h : (code.length : Int) < 64
    · exact .inl (eq_true h)
    · exact .inr (eq_false h)
  rcases h64 with h64 | h64
  all_goals
    repeat (first
      | (with_reducible apply AWp.seq)
      | (with_reducible apply AWp.block)
      | ((with_reducible apply AWp.fork); simp -implicitDefEqProofs [h64, hS, hS', hS2, hS3, w1, Try.underlying3, Try.underlying89])
      | ((with_reducible apply AWp.region); simp -implicitDefEqProofs [h64, hS, hS', hS2, hS3, w1, Try.underlying3, Try.underlying89])
      | (with_reducible refine And.intro (by first | omega | assumption | decide) ?_)
      | ((with_reducible show condK _ _ _); simp -implicitDefEqProofs [h64, hS, hS', hS2, hS3, w1, Try.underlying3, Try.underlying89])
      | ((with_reducible show guardK _ _ _ _ _ _ _ _ _); simp -implicitDefEqProofs [h64, hS, hS', hS2, hS3, w1, Try.underlying3, Try.underlying89])
      | ((with_reducible apply aCall.id); first
          | ((apply aCall.gives (h1 _)); simp -implicitDefEqProofs [h64, hS, hS', hS2, hS3, w1, Try.underlying3, Try.underlying89]))
      | ((with_reducible apply AWp.ret); try simp -implicitDefEqProofs [h64, hS, hS', hS2, hS3, w1, Try.underlying3, Try.underlying89])
      | ((with_reducible apply AWp.skip); try simp -implicitDefEqProofs [h64, hS, hS', hS2, hS3, w1, Try.underlying3, Try.underlying89])
      | ((with_reducible apply AWp.exit); try simp -implicitDefEqProofs [h64, hS, hS', hS2, hS3, w1, Try.underlying3, Try.underlying89]))
    intro tk0 n_tk0_id h_tk0
    have n_id_tk0 : ¬ id = tk0 := fun e => n_tk0_id e.symm
    repeat (first
      | (with_reducible apply AWp.seq)
      | (with_reducible apply AWp.block)
      | ((with_reducible apply AWp.fork); simp -implicitDefEqProofs [h64, hS, hS', hS2, hS3, w1, Try.underlying3, Try.underlying89, n_tk0_id, n_id_tk0])
      | ((with_reducible apply AWp.region); simp -implicitDefEqProofs [h64, hS, hS', hS2, hS3, w1, Try.underlying3, Try.underlying89, n_tk0_id, n_id_tk0])
      | (with_reducible refine And.intro (by first | omega | assumption | decide) ?_)
      | ((with_reducible show condK _ _ _); simp -implicitDefEqProofs [h64, hS, hS', hS2, hS3, w1, Try.underlying3, Try.underlying89, n_tk0_id, n_id_tk0])
      | ((with_reducible show guardK _ _ _ _ _ _ _ _ _); simp -implicitDefEqProofs [h64, hS, hS', hS2, hS3, w1, Try.underlying3, Try.underlying89, n_tk0_id, n_id_tk0])
      | ((with_reducible apply aCall.id); first
          | ((apply aCall.owns (hp _)); simp -implicitDefEqProofs [h64, hS, hS', hS2, hS3, w1, Try.underlying3, Try.underlying89, n_tk0_id, n_id_tk0]))
      | ((with_reducible apply AWp.ret); try simp -implicitDefEqProofs [h64, hS, hS', hS2, hS3, w1, Try.underlying3, Try.underlying89, n_tk0_id, n_id_tk0])
      | ((with_reducible apply AWp.skip); try simp -implicitDefEqProofs [h64, hS, hS', hS2, hS3, w1, Try.underlying3, Try.underlying89, n_tk0_id, n_id_tk0])
      | ((with_reducible apply AWp.exit); try simp -implicitDefEqProofs [h64, hS, hS', hS2, hS3, w1, Try.underlying3, Try.underlying89, n_tk0_id, n_id_tk0]))
    intro tk2 n_tk2_tk0 n_tk2_id h_tk2
    have n_tk0_tk2 : ¬ tk0 = tk2 := fun e => n_tk2_tk0 e.symm
    have n_id_tk2 : ¬ id = tk2 := fun e => n_tk2_id e.symm
    clear hp
    repeat (first
      | (with_reducible apply AWp.seq)
      | (with_reducible apply AWp.block)
      | ((with_reducible apply AWp.fork); simp -implicitDefEqProofs [hS, hS', hS2, hS3, hb, n_tk0_id, n_id_tk0, n_tk2_tk0, n_tk0_tk2, n_tk2_id, n_id_tk2])
      | ((with_reducible apply AWp.region); simp -implicitDefEqProofs [hS, hS', hS2, hS3, hb, n_tk0_id, n_id_tk0, n_tk2_tk0, n_tk0_tk2, n_tk2_id, n_id_tk2])
      | (with_reducible refine And.intro (by first | omega | assumption | decide) ?_)
      | ((with_reducible show condK _ _ _); simp -implicitDefEqProofs [hS, hS', hS2, hS3, hb, n_tk0_id, n_id_tk0, n_tk2_tk0, n_tk0_tk2, n_tk2_id, n_id_tk2])
      | ((with_reducible show guardK _ _ _ _ _ _ _ _ _); simp -implicitDefEqProofs [hS, hS', hS2, hS3, hb, n_tk0_id, n_id_tk0, n_tk2_tk0, n_tk0_tk2, n_tk2_id, n_id_tk2])
      | ((with_reducible apply AWp.ret); try simp -implicitDefEqProofs [hS, hS', hS2, hS3, hb, n_tk0_id, n_id_tk0, n_tk2_tk0, n_tk0_tk2, n_tk2_id, n_id_tk2])
      | ((with_reducible apply AWp.skip); try simp -implicitDefEqProofs [hS, hS', hS2, hS3, hb, n_tk0_id, n_id_tk0, n_tk2_tk0, n_tk0_tk2, n_tk2_id, n_id_tk2])
      | ((with_reducible apply AWp.exit); try simp -implicitDefEqProofs [hS, hS', hS2, hS3, hb, n_tk0_id, n_id_tk0, n_tk2_tk0, n_tk0_tk2, n_tk2_id, n_id_tk2]))
    have hB : ∀ tk, ¬ tk = id → σ tk = none → (σ.set id (.cells 48 [.lst 5 (code.map u8) o1 n1, .lst 91 (cls.map rawV) o2 n2])) tk = none := by intro tk h1 h2; simp [h1, h2]
    have hBid : (σ.set id (.cells 48 [.lst 5 (code.map u8) o1 n1, .lst 91 (cls.map rawV) o2 n2])) id = some (.cells 48 [.lst 5 (code.map u8) o1 n1, .lst 91 (cls.map rawV) o2 n2]) := by simp
    have hBle : AS.le σ (σ.set id (.cells 48 [.lst 5 (code.map u8) o1 n1, .lst 91 (cls.map rawV) o2 n2])) := le_new h_id (AS.le_refl _)
    have hBn : ∀ tk, (σ.set id (.cells 48 [.lst 5 (code.map u8) o1 n1, .lst 91 (cls.map rawV) o2 n2])) tk = none → ¬ tk = id ∧ ¬ id = tk ∧ σ tk = none := by intro tk h; simp at h; exact ⟨h.1, fun e => h.1 e.symm, h.2⟩
    have htk := hB tk0 n_tk0_id h_tk0
    have htk2 := hB tk2 n_tk2_id h_tk2
    generalize (σ.set id (.cells 48 [.lst 5 (code.map u8) o1 n1, .lst 91 (cls.map rawV) o2 n2])) = B at *
    have hL0 : (([11, 0, 0, 0] ++ pb ++ code : List UInt8)).length = 8 + code.length := by simp [hb]; omega
    refine AWp.loopI (rwP id L B) ⟨[11, 0, 0, 0] ++ pb ++ code, tk0, hL0', rfl, by rw [← hL0', padL_len]; omega, htk, rfl, rfl⟩ (FrWk.mk (by simp)) (le_new (by simp [*]) (le_tok (AS.le_refl _) (by simp [hb]; try omega))) ?_
    have hLL : L.length ≤ 65600 := by rw [← hL0', padL_len]; omega
    clear hL0 hb hL0' hW
    rintro m fr σ' ⟨l, tk, hpad, hm, hlen, htk, rfl, rfl⟩
    obtain ⟨hne1, hne2, _⟩ := hBn tk htk
    have e4 : ((l.length : Int)).tmod 4 = ((l.length % 4 : Nat) : Int) := by rw [Int.tmod_eq_emod_of_nonneg (by omega)]; rfl
    by_cases hz : l.length % 4 = 0
    · rw [padL_done l hz] at hpad
      subst hpad
      have hz0 : (0 < (l.length : Int) % 4) = False := by simp; omega
      have w5 : IntKind.u8.wrap (cls.length : Int) = ((UInt8.ofNat cls.length).toNat : Int) := by rw [w_u8]; simp
      repeat (first
        | (with_reducible apply AWp.seq)
        | (with_reducible apply AWp.block)
        | ((with_reducible apply AWp.fork); simp -implicitDefEqProofs [e4, hz, hz0, hBid, hne1, hne2, w5, Try.underlying3, Try.underlying5, n_tk0_id, n_id_tk0, n_tk2_tk0, n_tk0_tk2, n_tk2_id, n_id_tk2])
        | ((with_reducible apply AWp.region); simp -implicitDefEqProofs [e4, hz, hz0, hBid, hne1, hne2, w5, Try.underlying3, Try.underlying5, n_tk0_id, n_id_tk0, n_tk2_tk0, n_tk0_tk2, n_tk2_id, n_id_tk2])
        | (with_reducible refine And.intro (by first | omega | assumption | decide) ?_)
        | ((with_reducible show condK _ _ _); simp -implicitDefEqProofs [e4, hz, hz0, hBid, hne1, hne2, w5, Try.underlying3, Try.underlying5, n_tk0_id, n_id_tk0, n_tk2_tk0, n_tk0_tk2, n_tk2_id, n_id_tk2])
        | ((with_reducible show guardK _ _ _ _ _ _ _ _ _); simp -implicitDefEqProofs [e4, hz, hz0, hBid, hne1, hne2, w5, Try.underlying3, Try.underlying5, n_tk0_id, n_id_tk0, n_tk2_tk0, n_tk0_tk2, n_tk2_id, n_id_tk2])
        | ((with_reducible apply AWp.ret); try simp -implicitDefEqProofs [e4, hz, hz0, hBid, hne1, hne2, w5, Try.underlying3, Try.underlying5, n_tk0_id, n_id_tk0, n_tk2_tk0, n_tk0_tk2, n_tk2_id, n_id_tk2])
        | ((with_reducible apply AWp.skip); try simp -implicitDefEqProofs [e4, hz, hz0, hBid, hne1, hne2, w5, Try.underlying3, Try.underlying5, n_tk0_id, n_id_tk0, n_tk2_tk0, n_tk0_tk2, n_tk2_id, n_id_tk2])
        | ((with_reducible apply AWp.exit); try simp -implicitDefEqProofs [e4, hz, hz0, hBid, hne1, hne2, w5, Try.underlying3, Try.underlying5, n_tk0_id, n_id_tk0, n_tk2_tk0, n_tk0_tk2, n_tk2_id, n_id_tk2]))
      have hLL4 : (l ++ [1, UInt8.ofNat cls.length, 0, 0]).length ≤ 65604 := by simp; omega
      refine AWp.loopI (rwO cls id (l ++ [1, UInt8.ofNat cls.length, 0, 0]) B) (k0 := cls.length) ⟨0, tk, by omega, by omega, htk, rfl, rfl⟩ (FrWk.mk (by simp)) (le_tok (AS.le_refl _) (by simp)) ?_
      generalize hLd : l ++ [1, UInt8.ofNat cls.length, 0, 0] = L at hLL4 ⊢
      clear hm hz e4 hne1 hne2 hlen w5 hz0
      rintro m fr σ' ⟨i, tk, hm, hi, htk, rfl, rfl⟩
      obtain ⟨hne1, hne2, _⟩ := hBn tk htk
      by_cases hlt : i < cls.length
      · obtain ⟨r, hg, hd, hmem, htake⟩ := at_lt cls hlt
        have hI : ((i : Int) < cls.length) = True := by simp; omega
        have hrv : rawV r = .agg [.sc (.int .i64 r.kd), .sc (.int .i64 r.ta), .sc (.int .i64 r.tl), .sc (.int .i64 r.ha), .sc (.int .i64 r.hl), .sc (.int .i64 r.ex)] := rfl
        have hn := fun σ => rnumbers_ok r σ
        have hl6 := nums_len r
        have hok := okR_nums (g4 r hmem)
        have hE : encR r = (nums r).flatMap fun n => putB n 2 := rfl
        have hX : (L ++ (cls.take i).flatMap encR).length ≤ 65676 := by
          rw [List.length_append, encs_len, List.length_take]; omega
        have hX2 : L ++ (cls.take (i + 1)).flatMap encR = L ++ (cls.take i).flatMap encR ++ (nums r).flatMap fun n => putB n 2 := by
          rw [htake, List.flatMap_append, ← List.append_assoc]; simp [hE]
        simp only [hrv] at hn
        generalize nums r = ll at hn hl6 hok hX2
        generalize L ++ (cls.take i).flatMap encR = X at hX hX2 ⊢
        repeat (first
          | (with_reducible apply AWp.seq)
          | (with_reducible apply AWp.block)
          | ((with_reducible apply AWp.fork); simp -implicitDefEqProofs [hI, hg, hrv, hBid, hne1, hne2, n_tk0_id, n_id_tk0, n_tk2_tk0, n_tk0_tk2, n_tk2_id, n_id_tk2])
          | ((with_reducible apply AWp.region); simp -implicitDefEqProofs [hI, hg, hrv, hBid, hne1, hne2, n_tk0_id, n_id_tk0, n_tk2_tk0, n_tk0_tk2, n_tk2_id, n_id_tk2])
          | (with_reducible refine And.intro (by first | omega | assumption | decide) ?_)
          | ((with_reducible show condK _ _ _); simp -implicitDefEqProofs [hI, hg, hrv, hBid, hne1, hne2, n_tk0_id, n_id_tk0, n_tk2_tk0, n_tk0_tk2, n_tk2_id, n_id_tk2])
          | ((with_reducible show guardK _ _ _ _ _ _ _ _ _); simp -implicitDefEqProofs [hI, hg, hrv, hBid, hne1, hne2, n_tk0_id, n_id_tk0, n_tk2_tk0, n_tk0_tk2, n_tk2_id, n_id_tk2])
          | ((with_reducible apply aCall.id); first
              | ((apply aCall.owns (hn _)); simp -implicitDefEqProofs [hI, hg, hrv, hBid, hne1, hne2, n_tk0_id, n_id_tk0, n_tk2_tk0, n_tk0_tk2, n_tk2_id, n_id_tk2]))
          | ((with_reducible apply AWp.ret); try simp -implicitDefEqProofs [hI, hg, hrv, hBid, hne1, hne2, n_tk0_id, n_id_tk0, n_tk2_tk0, n_tk0_tk2, n_tk2_id, n_id_tk2])
          | ((with_reducible apply AWp.skip); try simp -implicitDefEqProofs [hI, hg, hrv, hBid, hne1, hne2, n_tk0_id, n_id_tk0, n_tk2_tk0, n_tk0_tk2, n_tk2_id, n_id_tk2])
          | ((with_reducible apply AWp.exit); try simp -implicitDefEqProofs [hI, hg, hrv, hBid, hne1, hne2, n_tk0_id, n_id_tk0, n_tk2_tk0, n_tk0_tk2, n_tk2_id, n_id_tk2]))
        intro tk3 n_tk3_tk h_tk3
        have n_tk_tk3 : ¬ tk = tk3 := fun e => n_tk3_tk e.symm
        repeat (first
          | (with_reducible apply AWp.seq)
          | (with_reducible apply AWp.block)
          | ((with_reducible apply AWp.fork); simp -implicitDefEqProofs [hI, hg, hrv, n_tk0_id, n_id_tk0, n_tk2_tk0, n_tk0_tk2, n_tk2_id, n_id_tk2, n_tk3_tk, n_tk_tk3])
          | ((with_reducible apply AWp.region); simp -implicitDefEqProofs [hI, hg, hrv, n_tk0_id, n_id_tk0, n_tk2_tk0, n_tk0_tk2, n_tk2_id, n_id_tk2, n_tk3_tk, n_tk_tk3])
          | (with_reducible refine And.intro (by first | omega | assumption | decide) ?_)
          | ((with_reducible show condK _ _ _); simp -implicitDefEqProofs [hI, hg, hrv, n_tk0_id, n_id_tk0, n_tk2_tk0, n_tk0_tk2, n_tk2_id, n_id_tk2, n_tk3_tk, n_tk_tk3])
          | ((with_reducible show guardK _ _ _ _ _ _ _ _ _); simp -implicitDefEqProofs [hI, hg, hrv, n_tk0_id, n_id_tk0, n_tk2_tk0, n_tk0_tk2, n_tk2_id, n_id_tk2, n_tk3_tk, n_tk_tk3])
          | ((with_reducible apply AWp.ret); try simp -implicitDefEqProofs [hI, hg, hrv, n_tk0_id, n_id_tk0, n_tk2_tk0, n_tk0_tk2, n_tk2_id, n_id_tk2, n_tk3_tk, n_tk_tk3])
          | ((with_reducible apply AWp.skip); try simp -implicitDefEqProofs [hI, hg, hrv, n_tk0_id, n_id_tk0, n_tk2_tk0, n_tk0_tk2, n_tk2_id, n_id_tk2, n_tk3_tk, n_tk_tk3])
          | ((with_reducible apply AWp.exit); try simp -implicitDefEqProofs [hI, hg, hrv, n_tk0_id, n_id_tk0, n_tk2_tk0, n_tk0_tk2, n_tk2_id, n_id_tk2, n_tk3_tk, n_tk_tk3]))
        refine AWp.loopI (rwI id X B i ll) (k0 := 6) ⟨0, tk, rfl, by omega, htk, rfl, rfl⟩ (FrWk.mk (by simp)) (le_new (by simp [*]) (le_tok (AS.le_refl _) (by simp))) ?_
        clear hne1 hne2
        rintro m2 fr σ'' ⟨k, tk, hm2, hk6, htk, rfl, rfl⟩
        have hXk : (X ++ (ll.take k).flatMap (putB · 2)).length ≤ 65700 := by
          have : ∀ l : List Int, (l.flatMap (putB · 2)).length = 2 * l.length := by
            intro l
            induction l with
            | nil => rfl
            | cons a t ih => simp [putB_length] at ih ⊢; omega
          rw [List.length_append, this, List.length_take]; omega
        by_cases hk2 : k < 6
        · obtain ⟨x, hgx, hdx, hmx, htx⟩ := at_lt ll (i := k) (by omega)
          obtain ⟨_, hgx'⟩ := List.getElem?_eq_some_iff.1 hgx
          have hK : ((k : Int) < 6) = True := by simp; omega
          obtain ⟨x1, x2⟩ := hok x hmx
          have wx : IntKind.u64.wrap x = x := in_u64 (by omega) (by omega)
          have hX3 : X ++ (ll.take (k + 1)).flatMap (putB · 2) = X ++ (ll.take k).flatMap (putB · 2) ++ putB x 2 := by
            rw [htx, List.flatMap_append, ← List.append_assoc]; simp
          have hp := fun σ => rput_ok x 2 (by omega) (by omega) (by decide) (by decide) σ
          have h2 : Int.toNat 2 = 2 := rfl
          rw [h2] at hp
          have hb2 := putB_length x 2
          generalize putB x 2 = px at hb2 hp hX3
          generalize X ++ (ll.take k).flatMap (putB · 2) = Y at *
          repeat (first
            | (with_reducible apply AWp.seq)
            | (with_reducible apply AWp.block)
            | ((with_reducible apply AWp.fork); simp -implicitDefEqProofs [hK, hk2, hl6, hgx, hgx', i64v_def, wx, Try.underlying3, Try.underlying89, n_tk0_id, n_id_tk0, n_tk2_tk0, n_tk0_tk2, n_tk2_id, n_id_tk2, n_tk3_tk, n_tk_tk3])
            | ((with_reducible apply AWp.region); simp -implicitDefEqProofs [hK, hk2, hl6, hgx, hgx', i64v_def, wx, Try.underlying3, Try.underlying89, n_tk0_id, n_id_tk0, n_tk2_tk0, n_tk0_tk2, n_tk2_id, n_id_tk2, n_tk3_tk, n_tk_tk3])
            | (with_reducible refine And.intro (by first | omega | assumption | decide) ?_)
            | ((with_reducible show condK _ _ _); simp -implicitDefEqProofs [hK, hk2, hl6, hgx, hgx', i64v_def, wx, Try.underlying3, Try.underlying89, n_tk0_id, n_id_tk0, n_tk2_tk0, n_tk0_tk2, n_tk2_id, n_id_tk2, n_tk3_tk, n_tk_tk3])
            | ((with_reducible show guardK _ _ _ _ _ _ _ _ _); simp -implicitDefEqProofs [hK, hk2, hl6, hgx, hgx', i64v_def, wx, Try.underlying3, Try.underlying89, n_tk0_id, n_id_tk0, n_tk2_tk0, n_tk0_tk2, n_tk2_id, n_id_tk2, n_tk3_tk, n_tk_tk3])
            | ((with_reducible apply aCall.id); first
                | ((apply aCall.owns (hp _)); simp -implicitDefEqProofs [hK, hk2, hl6, hgx, hgx', i64v_def, wx, Try.underlying3, Try.underlying89, n_tk0_id, n_id_tk0, n_tk2_tk0, n_tk0_tk2, n_tk2_id, n_id_tk2, n_tk3_tk, n_tk_tk3]))
            | ((with_reducible apply AWp.ret); try simp -implicitDefEqProofs [hK, hk2, hl6, hgx, hgx', i64v_def, wx, Try.underlying3, Try.underlying89, n_tk0_id, n_id_tk0, n_tk2_tk0, n_tk0_tk2, n_tk2_id, n_id_tk2, n_tk3_tk, n_tk_tk3])
            | ((with_reducible apply AWp.skip); try simp -implicitDefEqProofs [hK, hk2, hl6, hgx, hgx', i64v_def, wx, Try.underlying3, Try.underlying89, n_tk0_id, n_id_tk0, n_tk2_tk0, n_tk0_tk2, n_tk2_id, n_id_tk2, n_tk3_tk, n_tk_tk3])
            | ((with_reducible apply AWp.exit); try simp -implicitDefEqProofs [hK, hk2, hl6, hgx, hgx', i64v_def, wx, Try.underlying3, Try.underlying89, n_tk0_id, n_id_tk0, n_tk2_tk0, n_tk0_tk2, n_tk2_id, n_id_tk2, n_tk3_tk, n_tk_tk3]))
          intro tk3 n_tk3_tk h_tk3
          have n_tk_tk3 : ¬ tk = tk3 := fun e => n_tk3_tk e.symm
          repeat (first
            | (with_reducible apply AWp.seq)
            | (with_reducible apply AWp.block)
            | ((with_reducible apply AWp.fork); simp -implicitDefEqProofs [hb2, n_tk0_id, n_id_tk0, n_tk2_tk0, n_tk0_tk2, n_tk2_id, n_id_tk2, n_tk3_tk, n_tk_tk3, n_tk3_tk, n_tk_tk3])
            | ((with_reducible apply AWp.region); simp -implicitDefEqProofs [hb2, n_tk0_id, n_id_tk0, n_tk2_tk0, n_tk0_tk2, n_tk2_id, n_id_tk2, n_tk3_tk, n_tk_tk3, n_tk3_tk, n_tk_tk3])
            | (with_reducible refine And.intro (by first | omega | assumption | decide) ?_)
            | ((with_reducible show condK _ _ _); simp -implicitDefEqProofs [hb2, n_tk0_id, n_id_tk0, n_tk2_tk0, n_tk0_tk2, n_tk2_id, n_id_tk2, n_tk3_tk, n_tk_tk3, n_tk3_tk, n_tk_tk3])
            | ((with_reducible show guardK _ _ _ _ _ _ _ _ _); simp -implicitDefEqProofs [hb2, n_tk0_id, n_id_tk0, n_tk2_tk0, n_tk0_tk2, n_tk2_id, n_id_tk2, n_tk3_tk, n_tk_tk3, n_tk3_tk, n_tk_tk3])
            | ((with_reducible apply AWp.ret); try simp -implicitDefEqProofs [hb2, n_tk0_id, n_id_tk0, n_tk2_tk0, n_tk0_tk2, n_tk2_id, n_id_tk2, n_tk3_tk, n_tk_tk3, n_tk3_tk, n_tk_tk3])
            | ((with_reducible apply AWp.skip); try simp -implicitDefEqProofs [hb2, n_tk0_id, n_id_tk0, n_tk2_tk0, n_tk0_tk2, n_tk2_id, n_id_tk2, n_tk3_tk, n_tk_tk3, n_tk3_tk, n_tk_tk3])
            | ((with_reducible apply AWp.exit); try simp -implicitDefEqProofs [hb2, n_tk0_id, n_id_tk0, n_tk2_tk0, n_tk0_tk2, n_tk2_id, n_id_tk2, n_tk3_tk, n_tk_tk3, n_tk3_tk, n_tk_tk3]))
          refine ⟨m2 - 1, _, _, by omega, FrWk.mk ?_, ?_, k + 1, tk, by omega, by omega, htk, rfl, rfl⟩
          · rw [hX3]; simp [wInc (show k < 4000000000000000000 by omega)]
          · rw [hX3]; exact le_new (by simp [*]) (le_tok (AS.le_refl _) (by simp [hb2]))
        · have hK : ((k : Int) < 6) = False := by simp; omega
          have htk6 : ll.take k = ll := List.take_of_length_le (by omega)
          rw [htk6]
          rw [← hX2]
          repeat (first
            | (with_reducible apply AWp.seq)
            | (with_reducible apply AWp.block)
            | ((with_reducible apply AWp.fork); simp -implicitDefEqProofs [hK, n_tk0_id, n_id_tk0, n_tk2_tk0, n_tk0_tk2, n_tk2_id, n_id_tk2, n_tk3_tk, n_tk_tk3])
            | ((with_reducible apply AWp.region); simp -implicitDefEqProofs [hK, n_tk0_id, n_id_tk0, n_tk2_tk0, n_tk0_tk2, n_tk2_id, n_id_tk2, n_tk3_tk, n_tk_tk3])
            | (with_reducible refine And.intro (by first | omega | assumption | decide) ?_)
            | ((with_reducible show condK _ _ _); simp -implicitDefEqProofs [hK, n_tk0_id, n_id_tk0, n_tk2_tk0, n_tk0_tk2, n_tk2_id, n_id_tk2, n_tk3_tk, n_tk_tk3])
            | ((with_reducible show guardK _ _ _ _ _ _ _ _ _); simp -implicitDefEqProofs [hK, n_tk0_id, n_id_tk0, n_tk2_tk0, n_tk0_tk2, n_tk2_id, n_id_tk2, n_tk3_tk, n_tk_tk3])
            | ((with_reducible apply AWp.ret); try simp -implicitDefEqProofs [hK, n_tk0_id, n_id_tk0, n_tk2_tk0, n_tk0_tk2, n_tk2_id, n_id_tk2, n_tk3_tk, n_tk_tk3])
            | ((with_reducible apply AWp.skip); try simp -implicitDefEqProofs [hK, n_tk0_id, n_id_tk0, n_tk2_tk0, n_tk0_tk2, n_tk2_id, n_id_tk2, n_tk3_tk, n_tk_tk3])
            | ((with_reducible apply AWp.exit); try simp -implicitDefEqProofs [hK, n_tk0_id, n_id_tk0, n_tk2_tk0, n_tk0_tk2, n_tk2_id, n_id_tk2, n_tk3_tk, n_tk_tk3]))
          refine ⟨m - 1, _, _, by omega, FrWk.mk ?_, le_tok (AS.le_refl _) (by simp), i + 1, tk, by omega, by omega, htk, rfl, rfl⟩
          simp [wInc (show i < 4000000000000000000 by omega)]
      · have hI : ((i : Int) < cls.length) = False := by simp; omega
        have : cls.take i = cls := List.take_of_length_le (by omega)
        rw [this]
        obtain ⟨_, _, h_tk⟩ := hBn tk htk
        repeat (first
          | (with_reducible apply AWp.seq)
          | (with_reducible apply AWp.block)
          | ((with_reducible apply AWp.fork); simp -implicitDefEqProofs [hI, hBid, hne1, hne2, n_tk0_id, n_id_tk0, n_tk2_tk0, n_tk0_tk2, n_tk2_id, n_id_tk2])
          | ((with_reducible apply AWp.region); simp -implicitDefEqProofs [hI, hBid, hne1, hne2, n_tk0_id, n_id_tk0, n_tk2_tk0, n_tk0_tk2, n_tk2_id, n_id_tk2])
          | (with_reducible refine And.intro (by first | omega | assumption | decide) ?_)
          | ((with_reducible show condK _ _ _); simp -implicitDefEqProofs [hI, hBid, hne1, hne2, n_tk0_id, n_id_tk0, n_tk2_tk0, n_tk0_tk2, n_tk2_id, n_id_tk2])
          | ((with_reducible show guardK _ _ _ _ _ _ _ _ _); simp -implicitDefEqProofs [hI, hBid, hne1, hne2, n_tk0_id, n_id_tk0, n_tk2_tk0, n_tk0_tk2, n_tk2_id, n_id_tk2])
          | ((with_reducible apply AWp.ret); try simp -implicitDefEqProofs [hI, hBid, hne1, hne2, n_tk0_id, n_id_tk0, n_tk2_tk0, n_tk0_tk2, n_tk2_id, n_id_tk2])
          | ((with_reducible apply AWp.skip); try simp -implicitDefEqProofs [hI, hBid, hne1, hne2, n_tk0_id, n_id_tk0, n_tk2_tk0, n_tk0_tk2, n_tk2_id, n_id_tk2])
          | ((with_reducible apply AWp.exit); try simp -implicitDefEqProofs [hI, hBid, hne1, hne2, n_tk0_id, n_id_tk0, n_tk2_tk0, n_tk0_tk2, n_tk2_id, n_id_tk2]))
        refine owns_end tk h_tk (wk_eq (by simp [← hLd])) ?_
        exact le_tok hBle (by simp [← hLd]; omega)
    · have hz' : (0 < (l.length : Int) % 4) = True := by simp; omega
      repeat (first
        | (with_reducible apply AWp.seq)
        | (with_reducible apply AWp.block)
        | ((with_reducible apply AWp.fork); simp -implicitDefEqProofs [e4, hz, hz', n_tk0_id, n_id_tk0, n_tk2_tk0, n_tk0_tk2, n_tk2_id, n_id_tk2])
        | ((with_reducible apply AWp.region); simp -implicitDefEqProofs [e4, hz, hz', n_tk0_id, n_id_tk0, n_tk2_tk0, n_tk0_tk2, n_tk2_id, n_id_tk2])
        | (with_reducible refine And.intro (by first | omega | assumption | decide) ?_)
        | ((with_reducible show condK _ _ _); simp -implicitDefEqProofs [e4, hz, hz', n_tk0_id, n_id_tk0, n_tk2_tk0, n_tk0_tk2, n_tk2_id, n_id_tk2])
        | ((with_reducible show guardK _ _ _ _ _ _ _ _ _); simp -implicitDefEqProofs [e4, hz, hz', n_tk0_id, n_id_tk0, n_tk2_tk0, n_tk0_tk2, n_tk2_id, n_id_tk2])
        | ((with_reducible apply AWp.ret); try simp -implicitDefEqProofs [e4, hz, hz', n_tk0_id, n_id_tk0, n_tk2_tk0, n_tk0_tk2, n_tk2_id, n_id_tk2])
        | ((with_reducible apply AWp.skip); try simp -implicitDefEqProofs [e4, hz, hz', n_tk0_id, n_id_tk0, n_tk2_tk0, n_tk0_tk2, n_tk2_id, n_id_tk2])
        | ((with_reducible apply AWp.exit); try simp -implicitDefEqProofs [e4, hz, hz', n_tk0_id, n_id_tk0, n_tk2_tk0, n_tk0_tk2, n_tk2_id, n_id_tk2]))
      refine ⟨m - 1, _, _, by omega, FrWk.mk ?_, AS.le_refl _, l ++ [0], tk, by rw [padL_step l hz]; exact hpad, by simp; omega, by rw [← hpad, padL_len]; simp; omega, htk, by simp, rfl⟩
      simp

end Go.Proofs.Ytnkjbgcbchbonaa
