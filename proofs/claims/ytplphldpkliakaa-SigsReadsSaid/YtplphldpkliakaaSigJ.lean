/- The document: Sig. -/
import Derived.Test.YtplphldpkliakaaSigI
set_option linter.unusedSimpArgs false
set_option linter.unusedVariables false
set_option maxRecDepth 100000
set_option maxHeartbeats 3200000
namespace Go.Proofs.Ytplphldpkliakaa
namespace Sg
open Go Go.AW
abbrev sc_33_7_XSigJ : Sch := (Sch.step 0 (Sch.step 1 (Sch.alt 2 (Sch.alt 3 (Sch.step 4 Sch.done) Sch.none) (Sch.alt 3 (Sch.read 2 (Sch.step 4 Sch.done)) Sch.none))))
abbrev sc_33_12_XSigJ : Sch := (Sch.step 0 (Sch.step 1 (Sch.alt 2 (Sch.alt 3 (Sch.step 4 Sch.done) Sch.none) (Sch.alt 3 (Sch.read 2 (Sch.step 4 Sch.done)) Sch.none))))
abbrev sc_33_17_XSigJ : Sch := (Sch.step 0 (Sch.step 1 (Sch.alt 2 (Sch.alt 3 (Sch.step 4 Sch.done) Sch.none) (Sch.alt 3 (Sch.read 2 (Sch.step 4 Sch.done)) Sch.none))))
abbrev sc_33_20_XSigJ : Sch := (Sch.step 0 (Sch.step 1 (Sch.step 4 (Sch.step 6 (Sch.read 2 (Sch.step 3 (Sch.read 5 (Sch.read 7 (Sch.step 8 (Sch.alt 9 (Sch.step 10 Sch.done) Sch.none))))))))))

def z4 : List AV := [.sc (.int .i64 0), .sc (.int .i64 0), .sc (.int .i64 0), .sc (.bool false)]
theorem sgV_def (s : Sg) : sgV s = .agg [.sc (.bool s.this), tyL s.ps, .sc (.int .i64 s.ret.kind), .sc (.int .i64 s.ret.index), .sc (.int .i64 s.ret.dims), .sc (.bool s.ret.ref)] := rfl
theorem sg_wk0 (e : Int) : AV.Wk Try.prog (.tup [.agg [.sc (.bool false), .nilS, .sc (.int .i64 0), .sc (.int .i64 0), .sc (.int .i64 0), .sc (.bool false)], .sc (.int .i64 e)]) (.tup [sgV ⟨false, [], ⟨0, 0, 0, false⟩⟩, .sc (.int .i64 e)]) :=
  Wk_tup2 (Wk_agg6 (Wk.refl _) Wk_nilT (Wk.refl _) (Wk.refl _) (Wk.refl _) (Wk.refl _)) (Wk.refl _)
theorem eMay_ans (b : List UInt8) (a : Nat) : eMay answerT b a = match eTy b a with | .error e => .error e | .ok (t, a') => if answerT t = true then .ok (t, a') else .error 10 := rfl

theorem rsig_ok (b : List UInt8) (o : Own) (nl : Bool) (hl : b.length ≤ 100000) (σ : AS) :
    ACalls Try.prog 33 [.lst 5 (b.map u8) o nl] σ (Gives (.tup [sgV (resS (sigS b)), .sc (.int .i64 (resE (sigS b)))]) σ) No := by
  cases b with
  | nil =>
    rw [show sigS [] = .error 1 from rfl]
    simp only [resS, resE]
    refine ACalls.of_body Try.func33 rfl rfl (by simp [Try.ntmps33]) ?_
    repeat (first
      | (with_reducible first | apply AWp.seq | apply AWp.block | refine And.intro (by first | omega | assumption | decide) ?_)
      | ((first | (with_reducible first | apply AWp.fork | apply AWp.region) | ((with_reducible apply AWp.drawS (id := 7) (t := sc_33_7_XSigJ)); (exact mixed); kernel_rfl; kernel_rfl; (repeat (with_reducible first | apply PanQ.then | apply PanQ.block | apply PanQ.body | apply PanQ.no))) | ((with_reducible apply AWp.drawS (id := 12) (t := sc_33_12_XSigJ)); (exact mixed); kernel_rfl; kernel_rfl; (repeat (with_reducible first | apply PanQ.then | apply PanQ.block | apply PanQ.body | apply PanQ.no))) | ((with_reducible apply AWp.drawS (id := 17) (t := sc_33_17_XSigJ)); (exact mixed); kernel_rfl; kernel_rfl; (repeat (with_reducible first | apply PanQ.then | apply PanQ.block | apply PanQ.body | apply PanQ.no))) | ((with_reducible apply AWp.drawS (id := 20) (t := sc_33_20_XSigJ)); (exact mixed); kernel_rfl; kernel_rfl; (repeat (with_reducible first | apply PanQ.then | apply PanQ.block | apply PanQ.body | apply PanQ.no)))); simp -implicitDefEqProofs)
      | ((with_reducible first | apply AWp.ret | apply AWp.skip | apply AWp.exit); try simp -implicitDefEqProofs))
    intro id2 h_id2
    repeat (first
      | (with_reducible first | apply AWp.seq | apply AWp.block | refine And.intro (by first | omega | assumption | decide) ?_)
      | ((first | (with_reducible first | apply AWp.fork | apply AWp.region) | ((with_reducible apply AWp.drawS (id := 7) (t := sc_33_7_XSigJ)); (exact mixed); kernel_rfl; kernel_rfl; (repeat (with_reducible first | apply PanQ.then | apply PanQ.block | apply PanQ.body | apply PanQ.no))) | ((with_reducible apply AWp.drawS (id := 12) (t := sc_33_12_XSigJ)); (exact mixed); kernel_rfl; kernel_rfl; (repeat (with_reducible first | apply PanQ.then | apply PanQ.block | apply PanQ.body | apply PanQ.no))) | ((with_reducible apply AWp.drawS (id := 17) (t := sc_33_17_XSigJ)); (exact mixed); kernel_rfl; kernel_rfl; (repeat (with_reducible first | apply PanQ.then | apply PanQ.block | apply PanQ.body | apply PanQ.no))) | ((with_reducible apply AWp.drawS (id := 20) (t := sc_33_20_XSigJ)); (exact mixed); kernel_rfl; kernel_rfl; (repeat (with_reducible first | apply PanQ.then | apply PanQ.block | apply PanQ.body | apply PanQ.no)))); simp -implicitDefEqProofs)
      | ((with_reducible first | apply AWp.ret | apply AWp.skip | apply AWp.exit); try simp -implicitDefEqProofs))
    exact ⟨sg_wk0 _, AS.le_set (AS.le_refl _) h_id2⟩
  | cons c r =>
    have hz := u8_eq (c := c) (n := 0) (by omega)
    have hz2 := u8_eq (c := c) (n := 32) (by omega)
    simp only [UInt8.reduceOfNat] at hz hz2
    have hrl : ((r.length : Int) + 1 = 0) = False := eq_false (by omega)
    have hB : eB (c :: r) 0 = .ok (c, 1) := by simp [eB]
    by_cases h7 : c = 0 ∨ c = 32
    · have hz0 : ((c.toNat = 0) = True ∧ ((c.toNat : Int) = 32) = False) ∨ ((c.toNat = 0) = False ∧ ((c.toNat : Int) = 32) = True) := by
        rcases h7 with rfl | rfl
        · exact .inl ⟨by simp, by simp⟩
        · exact .inr ⟨by simp, by simp⟩
      obtain ⟨⟨x, n, e⟩, hu⟩ : ∃ t, upk ((c :: r).drop 1) = t := ⟨_, rfl⟩
      have hp := fun σ => runpack_ok (c :: r) o nl 1 (by omega) (by omega) (by omega) x n e (by simpa using hu) σ
      have hE := ePk_upk hu
      by_cases he : e = 0
      · subst he
        rw [if_pos rfl] at hE
        obtain ⟨h1, h2, h3, h4, h5, h6⟩ := upk_one _ _ _ hu
        obtain ⟨m, rfl⟩ : ∃ m : Nat, n = m := ⟨n.toNat, by omega⟩
        obtain ⟨xn, rfl⟩ : ∃ m : Nat, x = m := ⟨x.toNat, by omega⟩
        simp only [Int.toNat_natCast] at hE
        have h5' : m ≤ r.length := by simp at h5; omega
        have hw : IntKind.i64.wrap (1 + (m : Int)) = 1 + (m : Int) := in_i64 (by omega) (by simp at hl; omega)
        by_cases h12 : (xn : Int) ≤ 6
        · have h12' : ((6 : Int) < xn) = False := eq_false (by omega)
          have hL : sigS (c :: r) = eEnd (c :: r) (match eMay answerT (c :: r) (1 + m) with
              | .error e => .error e
              | .ok (t, a2) => match eList (c :: r) xn a2 with
                | .error e => .error e
                | .ok (l, a3) => .ok (⟨decide (c = 32), l, t⟩, a3)) := by
            unfold sigS eSig; rw [hB]; simp only [if_pos h7]; rw [hE]; simp only [if_pos h12, Int.toNat_natCast]
            cases eMay answerT (c :: r) (1 + m) with
            | error e => rfl
            | ok y =>
              obtain ⟨t, a2⟩ := y
              simp only
              cases eList (c :: r) xn a2 with
              | error e => rfl
              | ok z => obtain ⟨l, a3⟩ := z; rfl
          have hg := fun σ => rget_ok (c :: r) o nl (1 + m) hl (by simp; omega) σ
          simp only [Int.natCast_add, Int.natCast_one] at hg
          cases hX : eTy (c :: r) (1 + m) with
          | error e =>
            have he := eTy_err hX
            rw [hX, gotV_err] at hg
            have hS : sigS (c :: r) = .error e := by rw [hL, eMay_ans, hX]; rfl
            rw [hS]
            simp only [resS, resE]
            rcases hz0 with ⟨z, z2⟩ | ⟨z, z2⟩
            all_goals
              refine ACalls.of_body Try.func33 rfl rfl (by simp [Try.ntmps33]) ?_
              repeat (first
                | (with_reducible first | apply AWp.seq | apply AWp.block | refine And.intro (by first | omega | assumption | decide) ?_)
                | ((first | (with_reducible first | apply AWp.fork | apply AWp.region) | ((with_reducible apply AWp.drawS (id := 7) (t := sc_33_7_XSigJ)); (exact mixed); kernel_rfl; kernel_rfl; (repeat (with_reducible first | apply PanQ.then | apply PanQ.block | apply PanQ.body | apply PanQ.no))) | ((with_reducible apply AWp.drawS (id := 12) (t := sc_33_12_XSigJ)); (exact mixed); kernel_rfl; kernel_rfl; (repeat (with_reducible first | apply PanQ.then | apply PanQ.block | apply PanQ.body | apply PanQ.no))) | ((with_reducible apply AWp.drawS (id := 17) (t := sc_33_17_XSigJ)); (exact mixed); kernel_rfl; kernel_rfl; (repeat (with_reducible first | apply PanQ.then | apply PanQ.block | apply PanQ.body | apply PanQ.no))) | ((with_reducible apply AWp.drawS (id := 20) (t := sc_33_20_XSigJ)); (exact mixed); kernel_rfl; kernel_rfl; (repeat (with_reducible first | apply PanQ.then | apply PanQ.block | apply PanQ.body | apply PanQ.no)))); simp -implicitDefEqProofs)
                | ((with_reducible first | apply AWp.ret | apply AWp.skip | apply AWp.exit); try simp -implicitDefEqProofs))
              intro id2 h_id2
              repeat (first
                | (with_reducible first | apply AWp.seq | apply AWp.block | refine And.intro (by first | omega | assumption | decide) ?_)
                | ((first | (with_reducible first | apply AWp.fork | apply AWp.region | show condK _ _ _ | show guardK _ _ _ _ _ _ _ _ _) | ((with_reducible apply AWp.drawS (id := 7) (t := sc_33_7_XSigJ)); (exact mixed); kernel_rfl; kernel_rfl; (repeat (with_reducible first | apply PanQ.then | apply PanQ.block | apply PanQ.body | apply PanQ.no))) | ((with_reducible apply AWp.drawS (id := 12) (t := sc_33_12_XSigJ)); (exact mixed); kernel_rfl; kernel_rfl; (repeat (with_reducible first | apply PanQ.then | apply PanQ.block | apply PanQ.body | apply PanQ.no))) | ((with_reducible apply AWp.drawS (id := 17) (t := sc_33_17_XSigJ)); (exact mixed); kernel_rfl; kernel_rfl; (repeat (with_reducible first | apply PanQ.then | apply PanQ.block | apply PanQ.body | apply PanQ.no))) | ((with_reducible apply AWp.drawS (id := 20) (t := sc_33_20_XSigJ)); (exact mixed); kernel_rfl; kernel_rfl; (repeat (with_reducible first | apply PanQ.then | apply PanQ.block | apply PanQ.body | apply PanQ.no))) | ((with_reducible apply aCall.id); first | apply aCall.gives (hp _))); simp -implicitDefEqProofs [z, z2, hrl, hw, h12'])
                | ((with_reducible first | apply AWp.ret | apply AWp.skip | apply AWp.exit); try simp -implicitDefEqProofs [z, z2, hrl, hw, h12']))
              intro id4 n_id4_id2 h_id4
              have n_id2_id4 : ¬ id2 = id4 := fun e => n_id4_id2 e.symm
              repeat (first
                | (with_reducible first | apply AWp.seq | apply AWp.block | refine And.intro (by first | omega | assumption | decide) ?_)
                | ((first | (with_reducible first | apply AWp.fork | apply AWp.region | show condK _ _ _ | show guardK _ _ _ _ _ _ _ _ _) | ((with_reducible apply AWp.drawS (id := 7) (t := sc_33_7_XSigJ)); (exact mixed); kernel_rfl; kernel_rfl; (repeat (with_reducible first | apply PanQ.then | apply PanQ.block | apply PanQ.body | apply PanQ.no))) | ((with_reducible apply AWp.drawS (id := 12) (t := sc_33_12_XSigJ)); (exact mixed); kernel_rfl; kernel_rfl; (repeat (with_reducible first | apply PanQ.then | apply PanQ.block | apply PanQ.body | apply PanQ.no))) | ((with_reducible apply AWp.drawS (id := 17) (t := sc_33_17_XSigJ)); (exact mixed); kernel_rfl; kernel_rfl; (repeat (with_reducible first | apply PanQ.then | apply PanQ.block | apply PanQ.body | apply PanQ.no))) | ((with_reducible apply AWp.drawS (id := 20) (t := sc_33_20_XSigJ)); (exact mixed); kernel_rfl; kernel_rfl; (repeat (with_reducible first | apply PanQ.then | apply PanQ.block | apply PanQ.body | apply PanQ.no))) | ((with_reducible apply aCall.id); first | apply aCall.gives (hg _))); simp -implicitDefEqProofs [h12', hw, n_id4_id2, n_id2_id4])
                | ((with_reducible first | apply AWp.ret | apply AWp.skip | apply AWp.exit); try simp -implicitDefEqProofs [h12', hw, n_id4_id2, n_id2_id4]))
              intro id5 n_id5_id4 n_id5_id2 h_id5
              have n_id4_id5 : ¬ id4 = id5 := fun e => n_id5_id4 e.symm
              have n_id2_id5 : ¬ id2 = id5 := fun e => n_id5_id2 e.symm
              repeat (first
                | (with_reducible first | apply AWp.seq | apply AWp.block | refine And.intro (by first | omega | assumption | decide) ?_)
                | ((first | (with_reducible first | apply AWp.fork | apply AWp.region | show condK _ _ _ | show guardK _ _ _ _ _ _ _ _ _) | ((with_reducible apply AWp.drawS (id := 7) (t := sc_33_7_XSigJ)); (exact mixed); kernel_rfl; kernel_rfl; (repeat (with_reducible first | apply PanQ.then | apply PanQ.block | apply PanQ.body | apply PanQ.no))) | ((with_reducible apply AWp.drawS (id := 12) (t := sc_33_12_XSigJ)); (exact mixed); kernel_rfl; kernel_rfl; (repeat (with_reducible first | apply PanQ.then | apply PanQ.block | apply PanQ.body | apply PanQ.no))) | ((with_reducible apply AWp.drawS (id := 17) (t := sc_33_17_XSigJ)); (exact mixed); kernel_rfl; kernel_rfl; (repeat (with_reducible first | apply PanQ.then | apply PanQ.block | apply PanQ.body | apply PanQ.no))) | ((with_reducible apply AWp.drawS (id := 20) (t := sc_33_20_XSigJ)); (exact mixed); kernel_rfl; kernel_rfl; (repeat (with_reducible first | apply PanQ.then | apply PanQ.block | apply PanQ.body | apply PanQ.no)))); simp -implicitDefEqProofs [he, n_id4_id2, n_id2_id4, n_id5_id4, n_id4_id5, n_id5_id2, n_id2_id5])
                | ((with_reducible first | apply AWp.ret | apply AWp.skip | apply AWp.exit); try simp -implicitDefEqProofs [he, n_id4_id2, n_id2_id4, n_id5_id4, n_id4_id5, n_id5_id2, n_id2_id5]))
              exact ⟨sg_wk0 _, AS.le_set (AS.le_set (AS.le_set (AS.le_refl _) h_id2) (by simp [*])) (by simp [*])⟩
          | ok y =>
            obtain ⟨t, a⟩ := y
            have hale := eTy_le hX
            rw [hX, gotV_ok] at hg
            have hwh := fun σ => rwhere_ok t 3 σ
            have hwf : whereT t 3 = answerT t := by unfold whereT; simp
            rw [hwf] at hwh
            simp only [tyV_def] at hwh
            cases hA : answerT t with
            | false =>
              rw [hA] at hwh
              have hS : sigS (c :: r) = .error 10 := by rw [hL, eMay_ans, hX]; simp only [hA, Bool.false_eq_true, if_false]; rfl
              rw [hS]
              simp only [resS, resE]
              rcases hz0 with ⟨z, z2⟩ | ⟨z, z2⟩
              all_goals
                refine ACalls.of_body Try.func33 rfl rfl (by simp [Try.ntmps33]) ?_
                repeat (first
                  | (with_reducible first | apply AWp.seq | apply AWp.block | refine And.intro (by first | omega | assumption | decide) ?_)
                  | ((first | (with_reducible first | apply AWp.fork | apply AWp.region) | ((with_reducible apply AWp.drawS (id := 7) (t := sc_33_7_XSigJ)); (exact mixed); kernel_rfl; kernel_rfl; (repeat (with_reducible first | apply PanQ.then | apply PanQ.block | apply PanQ.body | apply PanQ.no))) | ((with_reducible apply AWp.drawS (id := 12) (t := sc_33_12_XSigJ)); (exact mixed); kernel_rfl; kernel_rfl; (repeat (with_reducible first | apply PanQ.then | apply PanQ.block | apply PanQ.body | apply PanQ.no))) | ((with_reducible apply AWp.drawS (id := 17) (t := sc_33_17_XSigJ)); (exact mixed); kernel_rfl; kernel_rfl; (repeat (with_reducible first | apply PanQ.then | apply PanQ.block | apply PanQ.body | apply PanQ.no))) | ((with_reducible apply AWp.drawS (id := 20) (t := sc_33_20_XSigJ)); (exact mixed); kernel_rfl; kernel_rfl; (repeat (with_reducible first | apply PanQ.then | apply PanQ.block | apply PanQ.body | apply PanQ.no)))); simp -implicitDefEqProofs)
                  | ((with_reducible first | apply AWp.ret | apply AWp.skip | apply AWp.exit); try simp -implicitDefEqProofs))
                intro id2 h_id2
                repeat (first
                  | (with_reducible first | apply AWp.seq | apply AWp.block | refine And.intro (by first | omega | assumption | decide) ?_)
                  | ((first | (with_reducible first | apply AWp.fork | apply AWp.region | show condK _ _ _ | show guardK _ _ _ _ _ _ _ _ _) | ((with_reducible apply AWp.drawS (id := 7) (t := sc_33_7_XSigJ)); (exact mixed); kernel_rfl; kernel_rfl; (repeat (with_reducible first | apply PanQ.then | apply PanQ.block | apply PanQ.body | apply PanQ.no))) | ((with_reducible apply AWp.drawS (id := 12) (t := sc_33_12_XSigJ)); (exact mixed); kernel_rfl; kernel_rfl; (repeat (with_reducible first | apply PanQ.then | apply PanQ.block | apply PanQ.body | apply PanQ.no))) | ((with_reducible apply AWp.drawS (id := 17) (t := sc_33_17_XSigJ)); (exact mixed); kernel_rfl; kernel_rfl; (repeat (with_reducible first | apply PanQ.then | apply PanQ.block | apply PanQ.body | apply PanQ.no))) | ((with_reducible apply AWp.drawS (id := 20) (t := sc_33_20_XSigJ)); (exact mixed); kernel_rfl; kernel_rfl; (repeat (with_reducible first | apply PanQ.then | apply PanQ.block | apply PanQ.body | apply PanQ.no))) | ((with_reducible apply aCall.id); first | apply aCall.gives (hp _))); simp -implicitDefEqProofs [z, z2, hrl, hw, h12'])
                  | ((with_reducible first | apply AWp.ret | apply AWp.skip | apply AWp.exit); try simp -implicitDefEqProofs [z, z2, hrl, hw, h12']))
                intro id4 n_id4_id2 h_id4
                have n_id2_id4 : ¬ id2 = id4 := fun e => n_id4_id2 e.symm
                repeat (first
                  | (with_reducible first | apply AWp.seq | apply AWp.block | refine And.intro (by first | omega | assumption | decide) ?_)
                  | ((first | (with_reducible first | apply AWp.fork | apply AWp.region | show condK _ _ _ | show guardK _ _ _ _ _ _ _ _ _) | ((with_reducible apply AWp.drawS (id := 7) (t := sc_33_7_XSigJ)); (exact mixed); kernel_rfl; kernel_rfl; (repeat (with_reducible first | apply PanQ.then | apply PanQ.block | apply PanQ.body | apply PanQ.no))) | ((with_reducible apply AWp.drawS (id := 12) (t := sc_33_12_XSigJ)); (exact mixed); kernel_rfl; kernel_rfl; (repeat (with_reducible first | apply PanQ.then | apply PanQ.block | apply PanQ.body | apply PanQ.no))) | ((with_reducible apply AWp.drawS (id := 17) (t := sc_33_17_XSigJ)); (exact mixed); kernel_rfl; kernel_rfl; (repeat (with_reducible first | apply PanQ.then | apply PanQ.block | apply PanQ.body | apply PanQ.no))) | ((with_reducible apply AWp.drawS (id := 20) (t := sc_33_20_XSigJ)); (exact mixed); kernel_rfl; kernel_rfl; (repeat (with_reducible first | apply PanQ.then | apply PanQ.block | apply PanQ.body | apply PanQ.no))) | ((with_reducible apply aCall.id); first | apply aCall.gives (hg _))); simp -implicitDefEqProofs [h12', hw, n_id4_id2, n_id2_id4])
                  | ((with_reducible first | apply AWp.ret | apply AWp.skip | apply AWp.exit); try simp -implicitDefEqProofs [h12', hw, n_id4_id2, n_id2_id4]))
                intro id5 n_id5_id4 n_id5_id2 h_id5
                have n_id4_id5 : ¬ id4 = id5 := fun e => n_id5_id4 e.symm
                have n_id2_id5 : ¬ id2 = id5 := fun e => n_id5_id2 e.symm
                repeat (first
                  | (with_reducible first | apply AWp.seq | apply AWp.block | refine And.intro (by first | omega | assumption | decide) ?_)
                  | ((first | (with_reducible first | apply AWp.fork | apply AWp.region | show condK _ _ _ | show guardK _ _ _ _ _ _ _ _ _) | ((with_reducible apply AWp.drawS (id := 7) (t := sc_33_7_XSigJ)); (exact mixed); kernel_rfl; kernel_rfl; (repeat (with_reducible first | apply PanQ.then | apply PanQ.block | apply PanQ.body | apply PanQ.no))) | ((with_reducible apply AWp.drawS (id := 12) (t := sc_33_12_XSigJ)); (exact mixed); kernel_rfl; kernel_rfl; (repeat (with_reducible first | apply PanQ.then | apply PanQ.block | apply PanQ.body | apply PanQ.no))) | ((with_reducible apply AWp.drawS (id := 17) (t := sc_33_17_XSigJ)); (exact mixed); kernel_rfl; kernel_rfl; (repeat (with_reducible first | apply PanQ.then | apply PanQ.block | apply PanQ.body | apply PanQ.no))) | ((with_reducible apply AWp.drawS (id := 20) (t := sc_33_20_XSigJ)); (exact mixed); kernel_rfl; kernel_rfl; (repeat (with_reducible first | apply PanQ.then | apply PanQ.block | apply PanQ.body | apply PanQ.no))) | ((with_reducible apply aCall.id); first | apply aCall.gives (hwh _))); simp -implicitDefEqProofs [n_id4_id2, n_id2_id4, n_id5_id4, n_id4_id5, n_id5_id2, n_id2_id5])
                  | ((with_reducible first | apply AWp.ret | apply AWp.skip | apply AWp.exit); try simp -implicitDefEqProofs [n_id4_id2, n_id2_id4, n_id5_id4, n_id4_id5, n_id5_id2, n_id2_id5]))
                exact ⟨sg_wk0 _, AS.le_set (AS.le_set (AS.le_set (AS.le_refl _) h_id2) (by simp [*])) (by simp [*])⟩
            | true =>
              rw [hA] at hwh
              have ht := fun σ => rtypes_ok xn (by omega) (c :: r) a o nl σ hale hl
              cases hY : eList (c :: r) xn a with
              | error e =>
                have he := eList_err _ _ hY
                rw [hY, lsV_err, tyL_def] at ht
                have hS : sigS (c :: r) = .error e := by rw [hL, eMay_ans, hX]; simp only [hA, if_true, hY]; rfl
                rw [hS]
                simp only [resS, resE]
                rcases hz0 with ⟨z, z2⟩ | ⟨z, z2⟩
                all_goals
                  refine ACalls.of_body Try.func33 rfl rfl (by simp [Try.ntmps33]) ?_
                  repeat (first
                    | (with_reducible first | apply AWp.seq | apply AWp.block | refine And.intro (by first | omega | assumption | decide) ?_)
                    | ((first | (with_reducible first | apply AWp.fork | apply AWp.region) | ((with_reducible apply AWp.drawS (id := 7) (t := sc_33_7_XSigJ)); (exact mixed); kernel_rfl; kernel_rfl; (repeat (with_reducible first | apply PanQ.then | apply PanQ.block | apply PanQ.body | apply PanQ.no))) | ((with_reducible apply AWp.drawS (id := 12) (t := sc_33_12_XSigJ)); (exact mixed); kernel_rfl; kernel_rfl; (repeat (with_reducible first | apply PanQ.then | apply PanQ.block | apply PanQ.body | apply PanQ.no))) | ((with_reducible apply AWp.drawS (id := 17) (t := sc_33_17_XSigJ)); (exact mixed); kernel_rfl; kernel_rfl; (repeat (with_reducible first | apply PanQ.then | apply PanQ.block | apply PanQ.body | apply PanQ.no))) | ((with_reducible apply AWp.drawS (id := 20) (t := sc_33_20_XSigJ)); (exact mixed); kernel_rfl; kernel_rfl; (repeat (with_reducible first | apply PanQ.then | apply PanQ.block | apply PanQ.body | apply PanQ.no)))); simp -implicitDefEqProofs)
                    | ((with_reducible first | apply AWp.ret | apply AWp.skip | apply AWp.exit); try simp -implicitDefEqProofs))
                  intro id2 h_id2
                  repeat (first
                    | (with_reducible first | apply AWp.seq | apply AWp.block | refine And.intro (by first | omega | assumption | decide) ?_)
                    | ((first | (with_reducible first | apply AWp.fork | apply AWp.region | show condK _ _ _ | show guardK _ _ _ _ _ _ _ _ _) | ((with_reducible apply AWp.drawS (id := 7) (t := sc_33_7_XSigJ)); (exact mixed); kernel_rfl; kernel_rfl; (repeat (with_reducible first | apply PanQ.then | apply PanQ.block | apply PanQ.body | apply PanQ.no))) | ((with_reducible apply AWp.drawS (id := 12) (t := sc_33_12_XSigJ)); (exact mixed); kernel_rfl; kernel_rfl; (repeat (with_reducible first | apply PanQ.then | apply PanQ.block | apply PanQ.body | apply PanQ.no))) | ((with_reducible apply AWp.drawS (id := 17) (t := sc_33_17_XSigJ)); (exact mixed); kernel_rfl; kernel_rfl; (repeat (with_reducible first | apply PanQ.then | apply PanQ.block | apply PanQ.body | apply PanQ.no))) | ((with_reducible apply AWp.drawS (id := 20) (t := sc_33_20_XSigJ)); (exact mixed); kernel_rfl; kernel_rfl; (repeat (with_reducible first | apply PanQ.then | apply PanQ.block | apply PanQ.body | apply PanQ.no))) | ((with_reducible apply aCall.id); first | apply aCall.gives (hp _))); simp -implicitDefEqProofs [z, z2, hrl, hw, h12'])
                    | ((with_reducible first | apply AWp.ret | apply AWp.skip | apply AWp.exit); try simp -implicitDefEqProofs [z, z2, hrl, hw, h12']))
                  intro id4 n_id4_id2 h_id4
                  have n_id2_id4 : ¬ id2 = id4 := fun e => n_id4_id2 e.symm
                  repeat (first
                    | (with_reducible first | apply AWp.seq | apply AWp.block | refine And.intro (by first | omega | assumption | decide) ?_)
                    | ((first | (with_reducible first | apply AWp.fork | apply AWp.region | show condK _ _ _ | show guardK _ _ _ _ _ _ _ _ _) | ((with_reducible apply AWp.drawS (id := 7) (t := sc_33_7_XSigJ)); (exact mixed); kernel_rfl; kernel_rfl; (repeat (with_reducible first | apply PanQ.then | apply PanQ.block | apply PanQ.body | apply PanQ.no))) | ((with_reducible apply AWp.drawS (id := 12) (t := sc_33_12_XSigJ)); (exact mixed); kernel_rfl; kernel_rfl; (repeat (with_reducible first | apply PanQ.then | apply PanQ.block | apply PanQ.body | apply PanQ.no))) | ((with_reducible apply AWp.drawS (id := 17) (t := sc_33_17_XSigJ)); (exact mixed); kernel_rfl; kernel_rfl; (repeat (with_reducible first | apply PanQ.then | apply PanQ.block | apply PanQ.body | apply PanQ.no))) | ((with_reducible apply AWp.drawS (id := 20) (t := sc_33_20_XSigJ)); (exact mixed); kernel_rfl; kernel_rfl; (repeat (with_reducible first | apply PanQ.then | apply PanQ.block | apply PanQ.body | apply PanQ.no))) | ((with_reducible apply aCall.id); first | apply aCall.gives (hg _))); simp -implicitDefEqProofs [h12', hw, n_id4_id2, n_id2_id4])
                    | ((with_reducible first | apply AWp.ret | apply AWp.skip | apply AWp.exit); try simp -implicitDefEqProofs [h12', hw, n_id4_id2, n_id2_id4]))
                  intro id5 n_id5_id4 n_id5_id2 h_id5
                  have n_id4_id5 : ¬ id4 = id5 := fun e => n_id5_id4 e.symm
                  have n_id2_id5 : ¬ id2 = id5 := fun e => n_id5_id2 e.symm
                  repeat (first
                    | (with_reducible first | apply AWp.seq | apply AWp.block | refine And.intro (by first | omega | assumption | decide) ?_)
                    | ((first | (with_reducible first | apply AWp.fork | apply AWp.region | show condK _ _ _ | show guardK _ _ _ _ _ _ _ _ _) | ((with_reducible apply AWp.drawS (id := 7) (t := sc_33_7_XSigJ)); (exact mixed); kernel_rfl; kernel_rfl; (repeat (with_reducible first | apply PanQ.then | apply PanQ.block | apply PanQ.body | apply PanQ.no))) | ((with_reducible apply AWp.drawS (id := 12) (t := sc_33_12_XSigJ)); (exact mixed); kernel_rfl; kernel_rfl; (repeat (with_reducible first | apply PanQ.then | apply PanQ.block | apply PanQ.body | apply PanQ.no))) | ((with_reducible apply AWp.drawS (id := 17) (t := sc_33_17_XSigJ)); (exact mixed); kernel_rfl; kernel_rfl; (repeat (with_reducible first | apply PanQ.then | apply PanQ.block | apply PanQ.body | apply PanQ.no))) | ((with_reducible apply AWp.drawS (id := 20) (t := sc_33_20_XSigJ)); (exact mixed); kernel_rfl; kernel_rfl; (repeat (with_reducible first | apply PanQ.then | apply PanQ.block | apply PanQ.body | apply PanQ.no))) | ((with_reducible apply aCall.id); first | apply aCall.gives (hwh _) | apply aCall.gives (ht _))); simp -implicitDefEqProofs [n_id4_id2, n_id2_id4, n_id5_id4, n_id4_id5, n_id5_id2, n_id2_id5])
                    | ((with_reducible first | apply AWp.ret | apply AWp.skip | apply AWp.exit); try simp -implicitDefEqProofs [n_id4_id2, n_id2_id4, n_id5_id4, n_id4_id5, n_id5_id2, n_id2_id5]))
                  intro id6 n_id6_id5 n_id6_id4 n_id6_id2 h_id6
                  have n_id5_id6 : ¬ id5 = id6 := fun e => n_id6_id5 e.symm
                  have n_id4_id6 : ¬ id4 = id6 := fun e => n_id6_id4 e.symm
                  have n_id2_id6 : ¬ id2 = id6 := fun e => n_id6_id2 e.symm
                  repeat (first
                    | (with_reducible first | apply AWp.seq | apply AWp.block | refine And.intro (by first | omega | assumption | decide) ?_)
                    | ((first | (with_reducible first | apply AWp.fork | apply AWp.region | show condK _ _ _ | show guardK _ _ _ _ _ _ _ _ _) | ((with_reducible apply AWp.drawS (id := 7) (t := sc_33_7_XSigJ)); (exact mixed); kernel_rfl; kernel_rfl; (repeat (with_reducible first | apply PanQ.then | apply PanQ.block | apply PanQ.body | apply PanQ.no))) | ((with_reducible apply AWp.drawS (id := 12) (t := sc_33_12_XSigJ)); (exact mixed); kernel_rfl; kernel_rfl; (repeat (with_reducible first | apply PanQ.then | apply PanQ.block | apply PanQ.body | apply PanQ.no))) | ((with_reducible apply AWp.drawS (id := 17) (t := sc_33_17_XSigJ)); (exact mixed); kernel_rfl; kernel_rfl; (repeat (with_reducible first | apply PanQ.then | apply PanQ.block | apply PanQ.body | apply PanQ.no))) | ((with_reducible apply AWp.drawS (id := 20) (t := sc_33_20_XSigJ)); (exact mixed); kernel_rfl; kernel_rfl; (repeat (with_reducible first | apply PanQ.then | apply PanQ.block | apply PanQ.body | apply PanQ.no)))); simp -implicitDefEqProofs [he, n_id4_id2, n_id2_id4, n_id5_id4, n_id4_id5, n_id5_id2, n_id2_id5, n_id6_id5, n_id5_id6, n_id6_id4, n_id4_id6, n_id6_id2, n_id2_id6])
                    | ((with_reducible first | apply AWp.ret | apply AWp.skip | apply AWp.exit); try simp -implicitDefEqProofs [he, n_id4_id2, n_id2_id4, n_id5_id4, n_id4_id5, n_id5_id2, n_id2_id5, n_id6_id5, n_id5_id6, n_id6_id4, n_id4_id6, n_id6_id2, n_id2_id6]))
                  exact ⟨sg_wk0 _, AS.le_set (AS.le_set (AS.le_set (AS.le_set (AS.le_refl _) h_id2) (by simp [*])) (by simp [*])) (by simp [*])⟩
              | ok y =>
                obtain ⟨l, a3⟩ := y
                rw [hY, lsV_ok, tyL_def] at ht
                have hS : sigS (c :: r) = if a3 < (c :: r).length then .error 2 else .ok ⟨decide (c = 32), l, t⟩ := by rw [hL, eMay_ans, hX]; simp only [hA, if_true, hY]; rfl
                rw [hS]
                by_cases hlt : a3 < (c :: r).length
                · rw [if_pos hlt]
                  simp only [resS, resE]
                  have hlt' : ((a3 : Int) < r.length + 1) = True := eq_true (by simp at hlt; omega)
                  rcases hz0 with ⟨z, z2⟩ | ⟨z, z2⟩
                  all_goals
                    refine ACalls.of_body Try.func33 rfl rfl (by simp [Try.ntmps33]) ?_
                    repeat (first
                      | (with_reducible first | apply AWp.seq | apply AWp.block | refine And.intro (by first | omega | assumption | decide) ?_)
                      | ((first | (with_reducible first | apply AWp.fork | apply AWp.region) | ((with_reducible apply AWp.drawS (id := 7) (t := sc_33_7_XSigJ)); (exact mixed); kernel_rfl; kernel_rfl; (repeat (with_reducible first | apply PanQ.then | apply PanQ.block | apply PanQ.body | apply PanQ.no))) | ((with_reducible apply AWp.drawS (id := 12) (t := sc_33_12_XSigJ)); (exact mixed); kernel_rfl; kernel_rfl; (repeat (with_reducible first | apply PanQ.then | apply PanQ.block | apply PanQ.body | apply PanQ.no))) | ((with_reducible apply AWp.drawS (id := 17) (t := sc_33_17_XSigJ)); (exact mixed); kernel_rfl; kernel_rfl; (repeat (with_reducible first | apply PanQ.then | apply PanQ.block | apply PanQ.body | apply PanQ.no))) | ((with_reducible apply AWp.drawS (id := 20) (t := sc_33_20_XSigJ)); (exact mixed); kernel_rfl; kernel_rfl; (repeat (with_reducible first | apply PanQ.then | apply PanQ.block | apply PanQ.body | apply PanQ.no)))); simp -implicitDefEqProofs)
                      | ((with_reducible first | apply AWp.ret | apply AWp.skip | apply AWp.exit); try simp -implicitDefEqProofs))
                    intro id2 h_id2
                    repeat (first
                      | (with_reducible first | apply AWp.seq | apply AWp.block | refine And.intro (by first | omega | assumption | decide) ?_)
                      | ((first | (with_reducible first | apply AWp.fork | apply AWp.region | show condK _ _ _ | show guardK _ _ _ _ _ _ _ _ _) | ((with_reducible apply AWp.drawS (id := 7) (t := sc_33_7_XSigJ)); (exact mixed); kernel_rfl; kernel_rfl; (repeat (with_reducible first | apply PanQ.then | apply PanQ.block | apply PanQ.body | apply PanQ.no))) | ((with_reducible apply AWp.drawS (id := 12) (t := sc_33_12_XSigJ)); (exact mixed); kernel_rfl; kernel_rfl; (repeat (with_reducible first | apply PanQ.then | apply PanQ.block | apply PanQ.body | apply PanQ.no))) | ((with_reducible apply AWp.drawS (id := 17) (t := sc_33_17_XSigJ)); (exact mixed); kernel_rfl; kernel_rfl; (repeat (with_reducible first | apply PanQ.then | apply PanQ.block | apply PanQ.body | apply PanQ.no))) | ((with_reducible apply AWp.drawS (id := 20) (t := sc_33_20_XSigJ)); (exact mixed); kernel_rfl; kernel_rfl; (repeat (with_reducible first | apply PanQ.then | apply PanQ.block | apply PanQ.body | apply PanQ.no))) | ((with_reducible apply aCall.id); first | apply aCall.gives (hp _))); simp -implicitDefEqProofs [z, z2, hrl, hw, h12'])
                      | ((with_reducible first | apply AWp.ret | apply AWp.skip | apply AWp.exit); try simp -implicitDefEqProofs [z, z2, hrl, hw, h12']))
                    intro id4 n_id4_id2 h_id4
                    have n_id2_id4 : ¬ id2 = id4 := fun e => n_id4_id2 e.symm
                    repeat (first
                      | (with_reducible first | apply AWp.seq | apply AWp.block | refine And.intro (by first | omega | assumption | decide) ?_)
                      | ((first | (with_reducible first | apply AWp.fork | apply AWp.region | show condK _ _ _ | show guardK _ _ _ _ _ _ _ _ _) | ((with_reducible apply AWp.drawS (id := 7) (t := sc_33_7_XSigJ)); (exact mixed); kernel_rfl; kernel_rfl; (repeat (with_reducible first | apply PanQ.then | apply PanQ.block | apply PanQ.body | apply PanQ.no))) | ((with_reducible apply AWp.drawS (id := 12) (t := sc_33_12_XSigJ)); (exact mixed); kernel_rfl; kernel_rfl; (repeat (with_reducible first | apply PanQ.then | apply PanQ.block | apply PanQ.body | apply PanQ.no))) | ((with_reducible apply AWp.drawS (id := 17) (t := sc_33_17_XSigJ)); (exact mixed); kernel_rfl; kernel_rfl; (repeat (with_reducible first | apply PanQ.then | apply PanQ.block | apply PanQ.body | apply PanQ.no))) | ((with_reducible apply AWp.drawS (id := 20) (t := sc_33_20_XSigJ)); (exact mixed); kernel_rfl; kernel_rfl; (repeat (with_reducible first | apply PanQ.then | apply PanQ.block | apply PanQ.body | apply PanQ.no))) | ((with_reducible apply aCall.id); first | apply aCall.gives (hg _))); simp -implicitDefEqProofs [h12', hw, n_id4_id2, n_id2_id4])
                      | ((with_reducible first | apply AWp.ret | apply AWp.skip | apply AWp.exit); try simp -implicitDefEqProofs [h12', hw, n_id4_id2, n_id2_id4]))
                    intro id5 n_id5_id4 n_id5_id2 h_id5
                    have n_id4_id5 : ¬ id4 = id5 := fun e => n_id5_id4 e.symm
                    have n_id2_id5 : ¬ id2 = id5 := fun e => n_id5_id2 e.symm
                    repeat (first
                      | (with_reducible first | apply AWp.seq | apply AWp.block | refine And.intro (by first | omega | assumption | decide) ?_)
                      | ((first | (with_reducible first | apply AWp.fork | apply AWp.region | show condK _ _ _ | show guardK _ _ _ _ _ _ _ _ _) | ((with_reducible apply AWp.drawS (id := 7) (t := sc_33_7_XSigJ)); (exact mixed); kernel_rfl; kernel_rfl; (repeat (with_reducible first | apply PanQ.then | apply PanQ.block | apply PanQ.body | apply PanQ.no))) | ((with_reducible apply AWp.drawS (id := 12) (t := sc_33_12_XSigJ)); (exact mixed); kernel_rfl; kernel_rfl; (repeat (with_reducible first | apply PanQ.then | apply PanQ.block | apply PanQ.body | apply PanQ.no))) | ((with_reducible apply AWp.drawS (id := 17) (t := sc_33_17_XSigJ)); (exact mixed); kernel_rfl; kernel_rfl; (repeat (with_reducible first | apply PanQ.then | apply PanQ.block | apply PanQ.body | apply PanQ.no))) | ((with_reducible apply AWp.drawS (id := 20) (t := sc_33_20_XSigJ)); (exact mixed); kernel_rfl; kernel_rfl; (repeat (with_reducible first | apply PanQ.then | apply PanQ.block | apply PanQ.body | apply PanQ.no))) | ((with_reducible apply aCall.id); first | apply aCall.gives (hwh _) | apply aCall.gives (ht _))); simp -implicitDefEqProofs [n_id4_id2, n_id2_id4, n_id5_id4, n_id4_id5, n_id5_id2, n_id2_id5])
                      | ((with_reducible first | apply AWp.ret | apply AWp.skip | apply AWp.exit); try simp -implicitDefEqProofs [n_id4_id2, n_id2_id4, n_id5_id4, n_id4_id5, n_id5_id2, n_id2_id5]))
                    intro id6 n_id6_id5 n_id6_id4 n_id6_id2 h_id6
                    have n_id5_id6 : ¬ id5 = id6 := fun e => n_id6_id5 e.symm
                    have n_id4_id6 : ¬ id4 = id6 := fun e => n_id6_id4 e.symm
                    have n_id2_id6 : ¬ id2 = id6 := fun e => n_id6_id2 e.symm
                    repeat (first
                      | (with_reducible first | apply AWp.seq | apply AWp.block | refine And.intro (by first | omega | assumption | decide) ?_)
                      | ((first | (with_reducible first | apply AWp.fork | apply AWp.region | show condK _ _ _ | show guardK _ _ _ _ _ _ _ _ _) | ((with_reducible apply AWp.drawS (id := 7) (t := sc_33_7_XSigJ)); (exact mixed); kernel_rfl; kernel_rfl; (repeat (with_reducible first | apply PanQ.then | apply PanQ.block | apply PanQ.body | apply PanQ.no))) | ((with_reducible apply AWp.drawS (id := 12) (t := sc_33_12_XSigJ)); (exact mixed); kernel_rfl; kernel_rfl; (repeat (with_reducible first | apply PanQ.then | apply PanQ.block | apply PanQ.body | apply PanQ.no))) | ((with_reducible apply AWp.drawS (id := 17) (t := sc_33_17_XSigJ)); (exact mixed); kernel_rfl; kernel_rfl; (repeat (with_reducible first | apply PanQ.then | apply PanQ.block | apply PanQ.body | apply PanQ.no))) | ((with_reducible apply AWp.drawS (id := 20) (t := sc_33_20_XSigJ)); (exact mixed); kernel_rfl; kernel_rfl; (repeat (with_reducible first | apply PanQ.then | apply PanQ.block | apply PanQ.body | apply PanQ.no)))); simp -implicitDefEqProofs [hlt', n_id4_id2, n_id2_id4, n_id5_id4, n_id4_id5, n_id5_id2, n_id2_id5, n_id6_id5, n_id5_id6, n_id6_id4, n_id4_id6, n_id6_id2, n_id2_id6])
                      | ((with_reducible first | apply AWp.ret | apply AWp.skip | apply AWp.exit); try simp -implicitDefEqProofs [hlt', n_id4_id2, n_id2_id4, n_id5_id4, n_id4_id5, n_id5_id2, n_id2_id5, n_id6_id5, n_id5_id6, n_id6_id4, n_id4_id6, n_id6_id2, n_id2_id6]))
                    exact ⟨sg_wk0 _, AS.le_set (AS.le_set (AS.le_set (AS.le_set (AS.le_refl _) h_id2) (by simp [*])) (by simp [*])) (by simp [*])⟩
                · rw [if_neg hlt]
                  simp only [resS, resE]
                  have hlt' : ((a3 : Int) < r.length + 1) = False := eq_false (by simp at hlt; omega)
                  have hc32 : decide (c = 32) = decide ((c.toNat : Int) = 32) := by rw [decide_eq_decide]; exact Eq.to_iff hz2.symm
                  rcases hz0 with ⟨z, z2⟩ | ⟨z, z2⟩
                  all_goals
                    rw [hc32]
                    simp only [z2]
                    refine ACalls.of_body Try.func33 rfl rfl (by simp [Try.ntmps33]) ?_
                    repeat (first
                      | (with_reducible first | apply AWp.seq | apply AWp.block | refine And.intro (by first | omega | assumption | decide) ?_)
                      | ((first | (with_reducible first | apply AWp.fork | apply AWp.region) | ((with_reducible apply AWp.drawS (id := 7) (t := sc_33_7_XSigJ)); (exact mixed); kernel_rfl; kernel_rfl; (repeat (with_reducible first | apply PanQ.then | apply PanQ.block | apply PanQ.body | apply PanQ.no))) | ((with_reducible apply AWp.drawS (id := 12) (t := sc_33_12_XSigJ)); (exact mixed); kernel_rfl; kernel_rfl; (repeat (with_reducible first | apply PanQ.then | apply PanQ.block | apply PanQ.body | apply PanQ.no))) | ((with_reducible apply AWp.drawS (id := 17) (t := sc_33_17_XSigJ)); (exact mixed); kernel_rfl; kernel_rfl; (repeat (with_reducible first | apply PanQ.then | apply PanQ.block | apply PanQ.body | apply PanQ.no))) | ((with_reducible apply AWp.drawS (id := 20) (t := sc_33_20_XSigJ)); (exact mixed); kernel_rfl; kernel_rfl; (repeat (with_reducible first | apply PanQ.then | apply PanQ.block | apply PanQ.body | apply PanQ.no)))); simp -implicitDefEqProofs)
                      | ((with_reducible first | apply AWp.ret | apply AWp.skip | apply AWp.exit); try simp -implicitDefEqProofs))
                    intro id2 h_id2
                    repeat (first
                      | (with_reducible first | apply AWp.seq | apply AWp.block | refine And.intro (by first | omega | assumption | decide) ?_)
                      | ((first | (with_reducible first | apply AWp.fork | apply AWp.region | show condK _ _ _ | show guardK _ _ _ _ _ _ _ _ _) | ((with_reducible apply AWp.drawS (id := 7) (t := sc_33_7_XSigJ)); (exact mixed); kernel_rfl; kernel_rfl; (repeat (with_reducible first | apply PanQ.then | apply PanQ.block | apply PanQ.body | apply PanQ.no))) | ((with_reducible apply AWp.drawS (id := 12) (t := sc_33_12_XSigJ)); (exact mixed); kernel_rfl; kernel_rfl; (repeat (with_reducible first | apply PanQ.then | apply PanQ.block | apply PanQ.body | apply PanQ.no))) | ((with_reducible apply AWp.drawS (id := 17) (t := sc_33_17_XSigJ)); (exact mixed); kernel_rfl; kernel_rfl; (repeat (with_reducible first | apply PanQ.then | apply PanQ.block | apply PanQ.body | apply PanQ.no))) | ((with_reducible apply AWp.drawS (id := 20) (t := sc_33_20_XSigJ)); (exact mixed); kernel_rfl; kernel_rfl; (repeat (with_reducible first | apply PanQ.then | apply PanQ.block | apply PanQ.body | apply PanQ.no))) | ((with_reducible apply aCall.id); first | apply aCall.gives (hp _))); simp -implicitDefEqProofs [z, z2, hrl, hw, h12'])
                      | ((with_reducible first | apply AWp.ret | apply AWp.skip | apply AWp.exit); try simp -implicitDefEqProofs [z, z2, hrl, hw, h12']))
                    intro id4 n_id4_id2 h_id4
                    have n_id2_id4 : ¬ id2 = id4 := fun e => n_id4_id2 e.symm
                    repeat (first
                      | (with_reducible first | apply AWp.seq | apply AWp.block | refine And.intro (by first | omega | assumption | decide) ?_)
                      | ((first | (with_reducible first | apply AWp.fork | apply AWp.region | show condK _ _ _ | show guardK _ _ _ _ _ _ _ _ _) | ((with_reducible apply AWp.drawS (id := 7) (t := sc_33_7_XSigJ)); (exact mixed); kernel_rfl; kernel_rfl; (repeat (with_reducible first | apply PanQ.then | apply PanQ.block | apply PanQ.body | apply PanQ.no))) | ((with_reducible apply AWp.drawS (id := 12) (t := sc_33_12_XSigJ)); (exact mixed); kernel_rfl; kernel_rfl; (repeat (with_reducible first | apply PanQ.then | apply PanQ.block | apply PanQ.body | apply PanQ.no))) | ((with_reducible apply AWp.drawS (id := 17) (t := sc_33_17_XSigJ)); (exact mixed); kernel_rfl; kernel_rfl; (repeat (with_reducible first | apply PanQ.then | apply PanQ.block | apply PanQ.body | apply PanQ.no))) | ((with_reducible apply AWp.drawS (id := 20) (t := sc_33_20_XSigJ)); (exact mixed); kernel_rfl; kernel_rfl; (repeat (with_reducible first | apply PanQ.then | apply PanQ.block | apply PanQ.body | apply PanQ.no))) | ((with_reducible apply aCall.id); first | apply aCall.gives (hg _))); simp -implicitDefEqProofs [h12', hw, n_id4_id2, n_id2_id4])
                      | ((with_reducible first | apply AWp.ret | apply AWp.skip | apply AWp.exit); try simp -implicitDefEqProofs [h12', hw, n_id4_id2, n_id2_id4]))
                    intro id5 n_id5_id4 n_id5_id2 h_id5
                    have n_id4_id5 : ¬ id4 = id5 := fun e => n_id5_id4 e.symm
                    have n_id2_id5 : ¬ id2 = id5 := fun e => n_id5_id2 e.symm
                    repeat (first
                      | (with_reducible first | apply AWp.seq | apply AWp.block | refine And.intro (by first | omega | assumption | decide) ?_)
                      | ((first | (with_reducible first | apply AWp.fork | apply AWp.region | show condK _ _ _ | show guardK _ _ _ _ _ _ _ _ _) | ((with_reducible apply AWp.drawS (id := 7) (t := sc_33_7_XSigJ)); (exact mixed); kernel_rfl; kernel_rfl; (repeat (with_reducible first | apply PanQ.then | apply PanQ.block | apply PanQ.body | apply PanQ.no))) | ((with_reducible apply AWp.drawS (id := 12) (t := sc_33_12_XSigJ)); (exact mixed); kernel_rfl; kernel_rfl; (repeat (with_reducible first | apply PanQ.then | apply PanQ.block | apply PanQ.body | apply PanQ.no))) | ((with_reducible apply AWp.drawS (id := 17) (t := sc_33_17_XSigJ)); (exact mixed); kernel_rfl; kernel_rfl; (repeat (with_reducible first | apply PanQ.then | apply PanQ.block | apply PanQ.body | apply PanQ.no))) | ((with_reducible apply AWp.drawS (id := 20) (t := sc_33_20_XSigJ)); (exact mixed); kernel_rfl; kernel_rfl; (repeat (with_reducible first | apply PanQ.then | apply PanQ.block | apply PanQ.body | apply PanQ.no))) | ((with_reducible apply aCall.id); first | apply aCall.gives (hwh _) | apply aCall.gives (ht _))); simp -implicitDefEqProofs [n_id4_id2, n_id2_id4, n_id5_id4, n_id4_id5, n_id5_id2, n_id2_id5])
                      | ((with_reducible first | apply AWp.ret | apply AWp.skip | apply AWp.exit); try simp -implicitDefEqProofs [n_id4_id2, n_id2_id4, n_id5_id4, n_id4_id5, n_id5_id2, n_id2_id5]))
                    intro id6 n_id6_id5 n_id6_id4 n_id6_id2 h_id6
                    have n_id5_id6 : ¬ id5 = id6 := fun e => n_id6_id5 e.symm
                    have n_id4_id6 : ¬ id4 = id6 := fun e => n_id6_id4 e.symm
                    have n_id2_id6 : ¬ id2 = id6 := fun e => n_id6_id2 e.symm
                    repeat (first
                      | (with_reducible first | apply AWp.seq | apply AWp.block | refine And.intro (by first | omega | assumption | decide) ?_)
                      | ((first | (with_reducible first | apply AWp.fork | apply AWp.region | show condK _ _ _ | show guardK _ _ _ _ _ _ _ _ _) | ((with_reducible apply AWp.drawS (id := 7) (t := sc_33_7_XSigJ)); (exact mixed); kernel_rfl; kernel_rfl; (repeat (with_reducible first | apply PanQ.then | apply PanQ.block | apply PanQ.body | apply PanQ.no))) | ((with_reducible apply AWp.drawS (id := 12) (t := sc_33_12_XSigJ)); (exact mixed); kernel_rfl; kernel_rfl; (repeat (with_reducible first | apply PanQ.then | apply PanQ.block | apply PanQ.body | apply PanQ.no))) | ((with_reducible apply AWp.drawS (id := 17) (t := sc_33_17_XSigJ)); (exact mixed); kernel_rfl; kernel_rfl; (repeat (with_reducible first | apply PanQ.then | apply PanQ.block | apply PanQ.body | apply PanQ.no))) | ((with_reducible apply AWp.drawS (id := 20) (t := sc_33_20_XSigJ)); (exact mixed); kernel_rfl; kernel_rfl; (repeat (with_reducible first | apply PanQ.then | apply PanQ.block | apply PanQ.body | apply PanQ.no)))); simp -implicitDefEqProofs [hlt', z2, n_id4_id2, n_id2_id4, n_id5_id4, n_id4_id5, n_id5_id2, n_id2_id5, n_id6_id5, n_id5_id6, n_id6_id4, n_id4_id6, n_id6_id2, n_id2_id6])
                      | ((with_reducible first | apply AWp.ret | apply AWp.skip | apply AWp.exit); try simp -implicitDefEqProofs [hlt', z2, n_id4_id2, n_id2_id4, n_id5_id4, n_id4_id5, n_id5_id2, n_id2_id5, n_id6_id5, n_id5_id6, n_id6_id4, n_id4_id6, n_id6_id2, n_id2_id6]))
                    exact ⟨Wk.refl _, AS.le_set (AS.le_set (AS.le_set (AS.le_set (AS.le_refl _) h_id2) (by simp [*])) (by simp [*])) (by simp [*])⟩
        · have h12' : ((6 : Int) < xn) = True := eq_true (by omega)
          have hL : sigS (c :: r) = .error 4 := by
            unfold sigS eSig; rw [hB]; simp only [if_pos h7]; rw [hE]; simp only [if_neg h12]; rfl
          rw [hL]
          simp only [resS, resE]
          rcases hz0 with ⟨z, z2⟩ | ⟨z, z2⟩
          all_goals
            refine ACalls.of_body Try.func33 rfl rfl (by simp [Try.ntmps33]) ?_
            repeat (first
              | (with_reducible first | apply AWp.seq | apply AWp.block | refine And.intro (by first | omega | assumption | decide) ?_)
              | ((first | (with_reducible first | apply AWp.fork | apply AWp.region) | ((with_reducible apply AWp.drawS (id := 7) (t := sc_33_7_XSigJ)); (exact mixed); kernel_rfl; kernel_rfl; (repeat (with_reducible first | apply PanQ.then | apply PanQ.block | apply PanQ.body | apply PanQ.no))) | ((with_reducible apply AWp.drawS (id := 12) (t := sc_33_12_XSigJ)); (exact mixed); kernel_rfl; kernel_rfl; (repeat (with_reducible first | apply PanQ.then | apply PanQ.block | apply PanQ.body | apply PanQ.no))) | ((with_reducible apply AWp.drawS (id := 17) (t := sc_33_17_XSigJ)); (exact mixed); kernel_rfl; kernel_rfl; (repeat (with_reducible first | apply PanQ.then | apply PanQ.block | apply PanQ.body | apply PanQ.no))) | ((with_reducible apply AWp.drawS (id := 20) (t := sc_33_20_XSigJ)); (exact mixed); kernel_rfl; kernel_rfl; (repeat (with_reducible first | apply PanQ.then | apply PanQ.block | apply PanQ.body | apply PanQ.no)))); simp -implicitDefEqProofs)
              | ((with_reducible first | apply AWp.ret | apply AWp.skip | apply AWp.exit); try simp -implicitDefEqProofs))
            intro id2 h_id2
            repeat (first
              | (with_reducible first | apply AWp.seq | apply AWp.block | refine And.intro (by first | omega | assumption | decide) ?_)
              | ((first | (with_reducible first | apply AWp.fork | apply AWp.region | show condK _ _ _ | show guardK _ _ _ _ _ _ _ _ _) | ((with_reducible apply AWp.drawS (id := 7) (t := sc_33_7_XSigJ)); (exact mixed); kernel_rfl; kernel_rfl; (repeat (with_reducible first | apply PanQ.then | apply PanQ.block | apply PanQ.body | apply PanQ.no))) | ((with_reducible apply AWp.drawS (id := 12) (t := sc_33_12_XSigJ)); (exact mixed); kernel_rfl; kernel_rfl; (repeat (with_reducible first | apply PanQ.then | apply PanQ.block | apply PanQ.body | apply PanQ.no))) | ((with_reducible apply AWp.drawS (id := 17) (t := sc_33_17_XSigJ)); (exact mixed); kernel_rfl; kernel_rfl; (repeat (with_reducible first | apply PanQ.then | apply PanQ.block | apply PanQ.body | apply PanQ.no))) | ((with_reducible apply AWp.drawS (id := 20) (t := sc_33_20_XSigJ)); (exact mixed); kernel_rfl; kernel_rfl; (repeat (with_reducible first | apply PanQ.then | apply PanQ.block | apply PanQ.body | apply PanQ.no))) | ((with_reducible apply aCall.id); first | apply aCall.gives (hp _))); simp -implicitDefEqProofs [z, z2, hrl])
              | ((with_reducible first | apply AWp.ret | apply AWp.skip | apply AWp.exit); try simp -implicitDefEqProofs [z, z2, hrl]))
            intro id4 n_id4_id2 h_id4
            have n_id2_id4 : ¬ id2 = id4 := fun e => n_id4_id2 e.symm
            repeat (first
              | (with_reducible first | apply AWp.seq | apply AWp.block | refine And.intro (by first | omega | assumption | decide) ?_)
              | ((first | (with_reducible first | apply AWp.fork | apply AWp.region | show condK _ _ _ | show guardK _ _ _ _ _ _ _ _ _) | ((with_reducible apply AWp.drawS (id := 7) (t := sc_33_7_XSigJ)); (exact mixed); kernel_rfl; kernel_rfl; (repeat (with_reducible first | apply PanQ.then | apply PanQ.block | apply PanQ.body | apply PanQ.no))) | ((with_reducible apply AWp.drawS (id := 12) (t := sc_33_12_XSigJ)); (exact mixed); kernel_rfl; kernel_rfl; (repeat (with_reducible first | apply PanQ.then | apply PanQ.block | apply PanQ.body | apply PanQ.no))) | ((with_reducible apply AWp.drawS (id := 17) (t := sc_33_17_XSigJ)); (exact mixed); kernel_rfl; kernel_rfl; (repeat (with_reducible first | apply PanQ.then | apply PanQ.block | apply PanQ.body | apply PanQ.no))) | ((with_reducible apply AWp.drawS (id := 20) (t := sc_33_20_XSigJ)); (exact mixed); kernel_rfl; kernel_rfl; (repeat (with_reducible first | apply PanQ.then | apply PanQ.block | apply PanQ.body | apply PanQ.no)))); simp -implicitDefEqProofs [h12', n_id4_id2, n_id2_id4])
              | ((with_reducible first | apply AWp.ret | apply AWp.skip | apply AWp.exit); try simp -implicitDefEqProofs [h12', n_id4_id2, n_id2_id4]))
            exact ⟨sg_wk0 _, AS.le_set (AS.le_set (AS.le_refl _) h_id2) (by simp [*])⟩
      · rw [if_neg he] at hE
        have hL : sigS (c :: r) = .error e := by
          unfold sigS eSig; rw [hB]; simp only [if_pos h7]; rw [hE]; rfl
        rw [hL]
        simp only [resS, resE]
        rcases hz0 with ⟨z, z2⟩ | ⟨z, z2⟩
        all_goals
          refine ACalls.of_body Try.func33 rfl rfl (by simp [Try.ntmps33]) ?_
          repeat (first
            | (with_reducible first | apply AWp.seq | apply AWp.block | refine And.intro (by first | omega | assumption | decide) ?_)
            | ((first | (with_reducible first | apply AWp.fork | apply AWp.region) | ((with_reducible apply AWp.drawS (id := 7) (t := sc_33_7_XSigJ)); (exact mixed); kernel_rfl; kernel_rfl; (repeat (with_reducible first | apply PanQ.then | apply PanQ.block | apply PanQ.body | apply PanQ.no))) | ((with_reducible apply AWp.drawS (id := 12) (t := sc_33_12_XSigJ)); (exact mixed); kernel_rfl; kernel_rfl; (repeat (with_reducible first | apply PanQ.then | apply PanQ.block | apply PanQ.body | apply PanQ.no))) | ((with_reducible apply AWp.drawS (id := 17) (t := sc_33_17_XSigJ)); (exact mixed); kernel_rfl; kernel_rfl; (repeat (with_reducible first | apply PanQ.then | apply PanQ.block | apply PanQ.body | apply PanQ.no))) | ((with_reducible apply AWp.drawS (id := 20) (t := sc_33_20_XSigJ)); (exact mixed); kernel_rfl; kernel_rfl; (repeat (with_reducible first | apply PanQ.then | apply PanQ.block | apply PanQ.body | apply PanQ.no)))); simp -implicitDefEqProofs)
            | ((with_reducible first | apply AWp.ret | apply AWp.skip | apply AWp.exit); try simp -implicitDefEqProofs))
          intro id2 h_id2
          repeat (first
            | (with_reducible first | apply AWp.seq | apply AWp.block | refine And.intro (by first | omega | assumption | decide) ?_)
            | ((first | (with_reducible first | apply AWp.fork | apply AWp.region | show condK _ _ _ | show guardK _ _ _ _ _ _ _ _ _) | ((with_reducible apply AWp.drawS (id := 7) (t := sc_33_7_XSigJ)); (exact mixed); kernel_rfl; kernel_rfl; (repeat (with_reducible first | apply PanQ.then | apply PanQ.block | apply PanQ.body | apply PanQ.no))) | ((with_reducible apply AWp.drawS (id := 12) (t := sc_33_12_XSigJ)); (exact mixed); kernel_rfl; kernel_rfl; (repeat (with_reducible first | apply PanQ.then | apply PanQ.block | apply PanQ.body | apply PanQ.no))) | ((with_reducible apply AWp.drawS (id := 17) (t := sc_33_17_XSigJ)); (exact mixed); kernel_rfl; kernel_rfl; (repeat (with_reducible first | apply PanQ.then | apply PanQ.block | apply PanQ.body | apply PanQ.no))) | ((with_reducible apply AWp.drawS (id := 20) (t := sc_33_20_XSigJ)); (exact mixed); kernel_rfl; kernel_rfl; (repeat (with_reducible first | apply PanQ.then | apply PanQ.block | apply PanQ.body | apply PanQ.no))) | ((with_reducible apply aCall.id); first | apply aCall.gives (hp _))); simp -implicitDefEqProofs [z, z2, hrl])
            | ((with_reducible first | apply AWp.ret | apply AWp.skip | apply AWp.exit); try simp -implicitDefEqProofs [z, z2, hrl]))
          intro id4 n_id4_id2 h_id4
          have n_id2_id4 : ¬ id2 = id4 := fun e => n_id4_id2 e.symm
          repeat (first
            | (with_reducible first | apply AWp.seq | apply AWp.block | refine And.intro (by first | omega | assumption | decide) ?_)
            | ((first | (with_reducible first | apply AWp.fork | apply AWp.region | show condK _ _ _ | show guardK _ _ _ _ _ _ _ _ _) | ((with_reducible apply AWp.drawS (id := 7) (t := sc_33_7_XSigJ)); (exact mixed); kernel_rfl; kernel_rfl; (repeat (with_reducible first | apply PanQ.then | apply PanQ.block | apply PanQ.body | apply PanQ.no))) | ((with_reducible apply AWp.drawS (id := 12) (t := sc_33_12_XSigJ)); (exact mixed); kernel_rfl; kernel_rfl; (repeat (with_reducible first | apply PanQ.then | apply PanQ.block | apply PanQ.body | apply PanQ.no))) | ((with_reducible apply AWp.drawS (id := 17) (t := sc_33_17_XSigJ)); (exact mixed); kernel_rfl; kernel_rfl; (repeat (with_reducible first | apply PanQ.then | apply PanQ.block | apply PanQ.body | apply PanQ.no))) | ((with_reducible apply AWp.drawS (id := 20) (t := sc_33_20_XSigJ)); (exact mixed); kernel_rfl; kernel_rfl; (repeat (with_reducible first | apply PanQ.then | apply PanQ.block | apply PanQ.body | apply PanQ.no)))); simp -implicitDefEqProofs [he, n_id4_id2, n_id2_id4])
            | ((with_reducible first | apply AWp.ret | apply AWp.skip | apply AWp.exit); try simp -implicitDefEqProofs [he, n_id4_id2, n_id2_id4]))
          exact ⟨sg_wk0 _, AS.le_set (AS.le_set (AS.le_refl _) h_id2) (by simp [*])⟩
    · have z : (c.toNat = 0) = False := eq_false fun e => h7 (.inl (by apply UInt8.toNat_inj.1; simpa using e))
      have z2 : ((c.toNat : Int) = 32) = False := hz2.trans (eq_false fun e => h7 (.inr e))
      have hL : sigS (c :: r) = .error 2 := by
        unfold sigS eSig; rw [hB]; simp only [if_neg h7]; rfl
      rw [hL]
      simp only [resS, resE]
      refine ACalls.of_body Try.func33 rfl rfl (by simp [Try.ntmps33]) ?_
      repeat (first
        | (with_reducible first | apply AWp.seq | apply AWp.block | refine And.intro (by first | omega | assumption | decide) ?_)
        | ((first | (with_reducible first | apply AWp.fork | apply AWp.region) | ((with_reducible apply AWp.drawS (id := 7) (t := sc_33_7_XSigJ)); (exact mixed); kernel_rfl; kernel_rfl; (repeat (with_reducible first | apply PanQ.then | apply PanQ.block | apply PanQ.body | apply PanQ.no))) | ((with_reducible apply AWp.drawS (id := 12) (t := sc_33_12_XSigJ)); (exact mixed); kernel_rfl; kernel_rfl; (repeat (with_reducible first | apply PanQ.then | apply PanQ.block | apply PanQ.body | apply PanQ.no))) | ((with_reducible apply AWp.drawS (id := 17) (t := sc_33_17_XSigJ)); (exact mixed); kernel_rfl; kernel_rfl; (repeat (with_reducible first | apply PanQ.then | apply PanQ.block | apply PanQ.body | apply PanQ.no))) | ((with_reducible apply AWp.drawS (id := 20) (t := sc_33_20_XSigJ)); (exact mixed); kernel_rfl; kernel_rfl; (repeat (with_reducible first | apply PanQ.then | apply PanQ.block | apply PanQ.body | apply PanQ.no)))); simp -implicitDefEqProofs)
        | ((with_reducible first | apply AWp.ret | apply AWp.skip | apply AWp.exit); try simp -implicitDefEqProofs))
      intro id2 h_id2
      repeat (first
        | (with_reducible first | apply AWp.seq | apply AWp.block | refine And.intro (by first | omega | assumption | decide) ?_)
        | ((first | (with_reducible first | apply AWp.fork | apply AWp.region | show condK _ _ _ | show guardK _ _ _ _ _ _ _ _ _) | ((with_reducible apply AWp.drawS (id := 7) (t := sc_33_7_XSigJ)); (exact mixed); kernel_rfl; kernel_rfl; (repeat (with_reducible first | apply PanQ.then | apply PanQ.block | apply PanQ.body | apply PanQ.no))) | ((with_reducible apply AWp.drawS (id := 12) (t := sc_33_12_XSigJ)); (exact mixed); kernel_rfl; kernel_rfl; (repeat (with_reducible first | apply PanQ.then | apply PanQ.block | apply PanQ.body | apply PanQ.no))) | ((with_reducible apply AWp.drawS (id := 17) (t := sc_33_17_XSigJ)); (exact mixed); kernel_rfl; kernel_rfl; (repeat (with_reducible first | apply PanQ.then | apply PanQ.block | apply PanQ.body | apply PanQ.no))) | ((with_reducible apply AWp.drawS (id := 20) (t := sc_33_20_XSigJ)); (exact mixed); kernel_rfl; kernel_rfl; (repeat (with_reducible first | apply PanQ.then | apply PanQ.block | apply PanQ.body | apply PanQ.no)))); simp -implicitDefEqProofs [z, z2, hrl])
        | ((with_reducible first | apply AWp.ret | apply AWp.skip | apply AWp.exit); try simp -implicitDefEqProofs [z, z2, hrl]))
      exact ⟨sg_wk0 _, AS.le_set (AS.le_refl _) h_id2⟩

end Sg
end Go.Proofs.Ytplphldpkliakaa
