/- Package sigs: GetSig. -/
import Derived.Test.YtplphldpkliakaaSig6
set_option linter.unusedSimpArgs false
set_option linter.unusedVariables false
set_option maxRecDepth 100000
set_option maxHeartbeats 3200000
namespace Go.Proofs.Ytplphldpkliakaa
namespace Sg
open Go Go.AW

theorem getSig_ok (b : List UInt8) (o : Own) (nl : Bool) (hnl : nl = true → b = []) (hl : b.length ≤ 100000) (σ : AS) :
    ACalls Try.prog 17 [.lst 5 (b.map u8) o nl] σ (Gives (.tup [sgV (resS (sigS b)), .sc (.int .i64 (resE (sigS b)))]) σ) No := by
  refine ACalls.of_bodyD Try.func17 rfl rfl (by simp [Try.ntmps17]) (fun G1 => ?_)
  apply AWpD.seq
  have hnt : Try.f17.ntmps = 38 := rfl
  simp -implicitDefEqProofs only [hnt]
  repeat (first
    | (with_reducible first | apply AWp.seq | apply AWp.block | refine And.intro (by first | omega | assumption | decide) ?_)
    | ((first | (with_reducible first | apply AWp.fork | apply AWp.region)); simp -implicitDefEqProofs)
    | ((with_reducible first | apply AWp.ret | apply AWp.skip | apply AWp.exit); try simp -implicitDefEqProofs))
  intro id2 h_id2
  repeat (first
    | (with_reducible first | apply AWp.seq | apply AWp.block | refine And.intro (by first | omega | assumption | decide) ?_)
    | ((first | (with_reducible first | apply AWp.fork | apply AWp.region)); simp -implicitDefEqProofs)
    | ((with_reducible first | apply AWp.ret | apply AWp.skip | apply AWp.exit); try simp -implicitDefEqProofs))
  intro id3 n_id3_id2 h_id3
  have n_id2_id3 : ¬ id2 = id3 := fun e => n_id3_id2 e.symm
  apply AWpD.defer (by simp [hnt]) (by decide +kernel)
  intro D
  simp -implicitDefEqProofs only [hnt]
  repeat (first
    | (with_reducible first | apply AWp.seq | apply AWp.block | refine And.intro (by first | omega | assumption | decide) ?_)
    | ((first | (with_reducible first | apply AWp.fork | apply AWp.region | show condK _ _ _ | show guardK _ _ _ _ _ _ _ _ _)); simp -implicitDefEqProofs [n_id3_id2, n_id2_id3])
    | ((with_reducible first | apply AWp.ret | apply AWp.skip | apply AWp.exit); try simp -implicitDefEqProofs [n_id3_id2, n_id2_id3]))
  refine aCall.of (new_ok b o nl hnl (by omega) _) ?_ (fun _ _ h => h.elim)
  rintro r σ1 ⟨id, hid, rfl, rfl⟩
  simp at hid
  obtain ⟨n_id_id3, n_id_id2, h_id⟩ := hid
  have n_id3_id : ¬ id3 = id := fun e => n_id_id3 e.symm
  have n_id2_id : ¬ id2 = id := fun e => n_id_id2 e.symm
  simp -implicitDefEqProofs [n_id3_id2, n_id2_id3, n_id_id3, n_id_id2, n_id3_id, n_id2_id]
  repeat (first
    | (with_reducible first | apply AWp.seq | apply AWp.block | refine And.intro (by first | omega | assumption | decide) ?_)
    | ((first | (with_reducible first | apply AWp.fork | apply AWp.region | show condK _ _ _ | show guardK _ _ _ _ _ _ _ _ _)); simp -implicitDefEqProofs [n_id3_id2, n_id2_id3, n_id_id3, n_id_id2, n_id3_id, n_id2_id])
    | ((with_reducible first | apply AWp.ret | apply AWp.skip | apply AWp.exit); try simp -implicitDefEqProofs [n_id3_id2, n_id2_id3, n_id_id3, n_id_id2, n_id3_id, n_id2_id]))
  intro id5 n_id5_id n_id5_id3 n_id5_id2 h_id5
  have n_id_id5 : ¬ id = id5 := fun e => n_id5_id e.symm
  have n_id3_id5 : ¬ id3 = id5 := fun e => n_id5_id3 e.symm
  have n_id2_id5 : ¬ id2 = id5 := fun e => n_id5_id2 e.symm
  have hbad := fun e σ => need_bad e σ
  have hneed := fun e σ => need_ok e σ
  have ho := fun σ h => one_ok id b 0 nl σ h (by omega) hl
  have hp := fun x hx σ h => packed_ok' id b x nl σ h hx hnl hl
  have hm := fun x hx σ h => may_ok answerT (.sc (.func (.func 43) #[] #[])) (fun σ t => FnG.func (kanswer_ok t σ)) id b x nl σ h hx hnl hl
  have hli := fun n hn x hx σ h => list_ok n hn id b x nl σ h hx hnl hl
  simp only [rdV] at ho hp hli hm
  cases hO : eB b 0 with
  | error e =>
    have hE : sigS b = .error e := by unfold sigS eSig; rw [hO]; rfl
    have ho1 := fun σ h => RD.bad (ho σ h) hO
    repeat (first
      | (with_reducible first | apply AWp.seq | apply AWp.block | refine And.intro (by first | omega | assumption | decide) ?_)
      | ((first | (with_reducible first | apply AWp.fork | apply AWp.region | show condK _ _ _ | show guardK _ _ _ _ _ _ _ _ _) | ((with_reducible apply aCall.id); first | apply (thr_ (ho1 _ (by simp [n_id_id5]))))); simp -implicitDefEqProofs [n_id3_id2, n_id2_id3, n_id_id3, n_id_id2, n_id3_id, n_id2_id, n_id5_id, n_id_id5, n_id5_id3, n_id3_id5, n_id5_id2, n_id2_id5])
      | ((with_reducible first | apply AWp.ret | apply AWp.skip | apply AWp.exit); try simp -implicitDefEqProofs [n_id3_id2, n_id2_id3, n_id_id3, n_id_id2, n_id3_id, n_id2_id, n_id5_id, n_id_id5, n_id5_id3, n_id3_id5, n_id5_id2, n_id2_id5]))
    intro x
    refine getsig1_some id2 id3 e (.sc (.bool false)) (.nilS) (.sc (.int .i64 0)) (.sc (.int .i64 0)) (.sc (.int .i64 0)) (.sc (.bool false)) (.sc (.int .i64 0)) _ _ (by simp [n_id2_id, n_id3_id, n_id2_id5, n_id3_id5, n_id_id5, n_id5_id, n_id2_id3, n_id3_id2, n_id_id2, n_id_id3]) (by simp [n_id2_id, n_id3_id, n_id2_id5, n_id3_id5, n_id_id5, n_id5_id, n_id2_id3, n_id3_id2, n_id_id2, n_id_id3]) n_id2_id3 ?_
    simp -implicitDefEqProofs [n_id2_id, n_id3_id, n_id2_id5, n_id3_id5, n_id_id5, n_id5_id, n_id2_id3, n_id3_id2, n_id_id2, n_id_id3, errC, hE, resS, resE, sgV]
    refine ⟨Wk_tup2 (Wk_agg6 (Wk.refl _) Wk_nilT (Wk.refl _) (Wk.refl _) (Wk.refl _) (Wk.refl _)) (Wk.refl _), ?_⟩
    repeat (first | exact AS.le_refl _ | refine AS.le_set ?_ (by assumption))
  | ok y =>
    obtain ⟨c, a1⟩ := y
    have ho1 := fun σ h => RD.ok (ho σ h) hO
    have ha1 := eB_le hO
    simp only [byV] at ho1
    have z0 := u8_eq (c := c) (n := 0) (by omega)
    have z32 := u8_eq (c := c) (n := 32) (by omega)
    by_cases hc : c = 0 ∨ c = 32
    rotate_left
    · have y0i : ((c.toNat : Int) = 0) = False := z0.trans (eq_false fun e => hc (.inl e))
      have y0 : (c.toNat = 0) = False := by simp only [eq_iff_iff, iff_false]; intro h; rw [h] at y0i; simp at y0i
      have y32 : ((c.toNat : Int) = 32) = False := z32.trans (eq_false fun e => hc (.inr e))
      have hE : sigS b = .error 2 := by unfold sigS eSig; rw [hO]; simp only [hc, if_false]; rfl
      repeat (first
        | (with_reducible first | apply AWp.seq | apply AWp.block | refine And.intro (by first | omega | assumption | decide) ?_)
        | ((first | (with_reducible first | apply AWp.fork | apply AWp.region | show condK _ _ _ | show guardK _ _ _ _ _ _ _ _ _) | ((with_reducible apply aCall.id); first | apply aCall.gives (ho1 _ (by simp [n_id_id5])) | apply (gp_ (hbad _ _)))); simp -implicitDefEqProofs [y0, y32, n_id3_id2, n_id2_id3, n_id_id3, n_id_id2, n_id3_id, n_id2_id, n_id5_id, n_id_id5, n_id5_id3, n_id3_id5, n_id5_id2, n_id2_id5])
        | ((with_reducible first | apply AWp.ret | apply AWp.skip | apply AWp.exit); try simp -implicitDefEqProofs [y0, y32, n_id3_id2, n_id2_id3, n_id_id3, n_id_id2, n_id3_id, n_id2_id, n_id5_id, n_id_id5, n_id5_id3, n_id3_id5, n_id5_id2, n_id2_id5]))
      refine getsig1_some id2 id3 2 (.sc (.bool false)) (.nilS) (.sc (.int .i64 0)) (.sc (.int .i64 0)) (.sc (.int .i64 0)) (.sc (.bool false)) (.sc (.int .i64 0)) _ _ (by simp [n_id2_id, n_id3_id, n_id2_id5, n_id3_id5, n_id_id5, n_id5_id, n_id2_id3, n_id3_id2, n_id_id2, n_id_id3]) (by simp [n_id2_id, n_id3_id, n_id2_id5, n_id3_id5, n_id_id5, n_id5_id, n_id2_id3, n_id3_id2, n_id_id2, n_id_id3]) n_id2_id3 ?_
      simp -implicitDefEqProofs [n_id2_id, n_id3_id, n_id2_id5, n_id3_id5, n_id_id5, n_id5_id, n_id2_id3, n_id3_id2, n_id_id2, n_id_id3, errC, hE, resS, resE, sgV]
      refine ⟨Wk_tup2 (Wk_agg6 (Wk.refl _) Wk_nilT (Wk.refl _) (Wk.refl _) (Wk.refl _) (Wk.refl _)) (Wk.refl _), ?_⟩
      repeat (first | exact AS.le_refl _ | refine AS.le_set ?_ (by assumption))
    have hcc : ∃ (p q th : Bool), (c.toNat = 0) = (p = true) ∧ ((c.toNat : Int) = 32) = (q = true) ∧ (p || q) = true ∧ decide (c = 32) = th ∧ th = !p := by
      rcases hc with rfl | rfl
      · exact ⟨true, false, false, by simp, by simp, rfl, by decide, rfl⟩
      · exact ⟨false, true, true, by simp, by simp, rfl, by decide, rfl⟩
    obtain ⟨p, q, th, y0, y32, hpq, hth, rfl⟩ := hcc
    obtain ⟨tv, htv⟩ : ∃ tv : Bool, tv = !p := ⟨_, rfl⟩
    cases hP : ePk b a1 with
    | error e =>
      have hE : sigS b = .error e := by unfold sigS eSig; rw [hO]; simp only [hc, if_true]; rw [hP]; rfl
      have hp1 := fun σ h => RD.bad (hp a1 ha1 σ h) hP
      cases p <;> cases q <;> first | (cases hpq; done) | skip
      all_goals
        repeat (first
          | (with_reducible first | apply AWp.seq | apply AWp.block | refine And.intro (by first | omega | assumption | decide) ?_)
          | ((first | (with_reducible first | apply AWp.fork | apply AWp.region | show condK _ _ _ | show guardK _ _ _ _ _ _ _ _ _) | ((with_reducible apply aCall.id); first | apply aCall.gives (ho1 _ (by simp [n_id_id5])) | apply aCall.gives (hneed _ _) | apply (thr_ (hp1 _ (by simp [n_id_id5]))))); simp -implicitDefEqProofs [y0, y32, n_id3_id2, n_id2_id3, n_id_id3, n_id_id2, n_id3_id, n_id2_id, n_id5_id, n_id_id5, n_id5_id3, n_id3_id5, n_id5_id2, n_id2_id5])
          | ((with_reducible first | apply AWp.ret | apply AWp.skip | apply AWp.exit); try simp -implicitDefEqProofs [y0, y32, n_id3_id2, n_id2_id3, n_id_id3, n_id_id2, n_id3_id, n_id2_id, n_id5_id, n_id_id5, n_id5_id3, n_id3_id5, n_id5_id2, n_id2_id5]))
        intro x
        refine getsig1_some id2 id3 e (.sc (.bool false)) (.nilS) (.sc (.int .i64 0)) (.sc (.int .i64 0)) (.sc (.int .i64 0)) (.sc (.bool false)) (.sc (.int .i64 0)) _ _ (by simp [n_id2_id, n_id3_id, n_id2_id5, n_id3_id5, n_id_id5, n_id5_id, n_id2_id3, n_id3_id2, n_id_id2, n_id_id3]) (by simp [n_id2_id, n_id3_id, n_id2_id5, n_id3_id5, n_id_id5, n_id5_id, n_id2_id3, n_id3_id2, n_id_id2, n_id_id3]) n_id2_id3 ?_
        simp -implicitDefEqProofs [n_id2_id, n_id3_id, n_id2_id5, n_id3_id5, n_id_id5, n_id5_id, n_id2_id3, n_id3_id2, n_id_id2, n_id_id3, errC, hE, resS, resE, sgV]
        refine ⟨Wk_tup2 (Wk_agg6 (Wk.refl _) Wk_nilT (Wk.refl _) (Wk.refl _) (Wk.refl _) (Wk.refl _)) (Wk.refl _), ?_⟩
        repeat (first | exact AS.le_refl _ | refine AS.le_set ?_ (by assumption))
    | ok y =>
      obtain ⟨n, a2⟩ := y
      have hp1 := fun σ h => RD.ok (hp a1 ha1 σ h) hP
      have ha2 := ePk_le hP
      have hn0 := (at_ePk hP).1
      simp only [ivV] at hp1
      by_cases h6 : n ≤ 6
      rotate_left
      · have hE : sigS b = .error 4 := by unfold sigS eSig; rw [hO]; simp only [hc, if_true]; rw [hP]; simp only [h6, if_false]; rfl
        cases p <;> cases q <;> first | (cases hpq; done) | skip
        all_goals
          repeat (first
            | (with_reducible first | apply AWp.seq | apply AWp.block | refine And.intro (by first | omega | assumption | decide) ?_)
            | ((first | (with_reducible first | apply AWp.fork | apply AWp.region | show condK _ _ _ | show guardK _ _ _ _ _ _ _ _ _) | ((with_reducible apply aCall.id); first | apply aCall.gives (ho1 _ (by simp [n_id_id5])) | apply aCall.gives (hneed _ _) | apply aCall.gives (hp1 _ (by simp [n_id_id5])) | apply (gp_ (hbad _ _)))); simp -implicitDefEqProofs [y0, y32, h6, n_id3_id2, n_id2_id3, n_id_id3, n_id_id2, n_id3_id, n_id2_id, n_id5_id, n_id_id5, n_id5_id3, n_id3_id5, n_id5_id2, n_id2_id5])
            | ((with_reducible first | apply AWp.ret | apply AWp.skip | apply AWp.exit); try simp -implicitDefEqProofs [y0, y32, h6, n_id3_id2, n_id2_id3, n_id_id3, n_id_id2, n_id3_id, n_id2_id, n_id5_id, n_id_id5, n_id5_id3, n_id3_id5, n_id5_id2, n_id2_id5]))
          refine getsig1_some id2 id3 4 (.sc (.bool false)) (.nilS) (.sc (.int .i64 0)) (.sc (.int .i64 0)) (.sc (.int .i64 0)) (.sc (.bool false)) (.sc (.int .i64 0)) _ _ (by simp [n_id2_id, n_id3_id, n_id2_id5, n_id3_id5, n_id_id5, n_id5_id, n_id2_id3, n_id3_id2, n_id_id2, n_id_id3]) (by simp [n_id2_id, n_id3_id, n_id2_id5, n_id3_id5, n_id_id5, n_id5_id, n_id2_id3, n_id3_id2, n_id_id2, n_id_id3]) n_id2_id3 ?_
          simp -implicitDefEqProofs [n_id2_id, n_id3_id, n_id2_id5, n_id3_id5, n_id_id5, n_id5_id, n_id2_id3, n_id3_id2, n_id_id2, n_id_id3, errC, hE, resS, resE, sgV]
          refine ⟨Wk_tup2 (Wk_agg6 (Wk.refl _) Wk_nilT (Wk.refl _) (Wk.refl _) (Wk.refl _) (Wk.refl _)) (Wk.refl _), ?_⟩
          repeat (first | exact AS.le_refl _ | refine AS.le_set ?_ (by assumption))
      obtain ⟨m, rfl⟩ : ∃ m : Nat, n = m := ⟨n.toNat, by omega⟩
      cases hM : eMay answerT b a2 with
      | error e =>
        have hE : sigS b = .error e := by unfold sigS eSig; rw [hO]; simp only [hc, if_true]; rw [hP]; simp only [h6, if_true]; rw [hM]; rfl
        have hm1 := fun σ h => RD.bad (hm a2 ha2 σ h) hM
        cases p <;> cases q <;> first | (cases hpq; done) | skip
        all_goals
          repeat (first
            | (with_reducible first | apply AWp.seq | apply AWp.block | refine And.intro (by first | omega | assumption | decide) ?_)
            | ((first | (with_reducible first | apply AWp.fork | apply AWp.region | show condK _ _ _ | show guardK _ _ _ _ _ _ _ _ _) | ((with_reducible apply aCall.id); first | apply aCall.gives (ho1 _ (by simp [n_id_id5])) | apply aCall.gives (hneed _ _) | apply aCall.gives (hp1 _ (by simp [n_id_id5])) | apply (thr_ (hm1 _ (by simp [n_id_id5]))))); simp -implicitDefEqProofs [y0, y32, h6, n_id3_id2, n_id2_id3, n_id_id3, n_id_id2, n_id3_id, n_id2_id, n_id5_id, n_id_id5, n_id5_id3, n_id3_id5, n_id5_id2, n_id2_id5])
            | ((with_reducible first | apply AWp.ret | apply AWp.skip | apply AWp.exit); try simp -implicitDefEqProofs [y0, y32, h6, n_id3_id2, n_id2_id3, n_id_id3, n_id_id2, n_id3_id, n_id2_id, n_id5_id, n_id_id5, n_id5_id3, n_id3_id5, n_id5_id2, n_id2_id5]))
          intro x
          refine getsig1_some id2 id3 e (.sc (.bool tv)) .nilS (.sc (.int .i64 0)) (.sc (.int .i64 0)) (.sc (.int .i64 0)) (.sc (.bool false)) (.sc (.int .i64 0)) _ _ (by simp [htv, n_id2_id, n_id3_id, n_id2_id5, n_id3_id5, n_id_id5, n_id5_id, n_id2_id3, n_id3_id2, n_id_id2, n_id_id3]) (by simp [n_id2_id, n_id3_id, n_id2_id5, n_id3_id5, n_id_id5, n_id5_id, n_id2_id3, n_id3_id2, n_id_id2, n_id_id3]) n_id2_id3 ?_
          simp -implicitDefEqProofs [n_id2_id, n_id3_id, n_id2_id5, n_id3_id5, n_id_id5, n_id5_id, n_id2_id3, n_id3_id2, n_id_id2, n_id_id3, errC, hE, resS, resE, sgV]
          refine ⟨Wk_tup2 (Wk_agg6 (Wk.refl _) Wk_nilT (Wk.refl _) (Wk.refl _) (Wk.refl _) (Wk.refl _)) (Wk.refl _), ?_⟩
          repeat (first | exact AS.le_refl _ | refine AS.le_set ?_ (by assumption))
      | ok y =>
        obtain ⟨t, a3⟩ := y
        have ha3 := eMay_le hM
        have hm1 := fun σ h => RD.ok (hm a2 ha2 σ h) hM
        simp only [tyV_def] at hm1
        cases hL : eList b m a3 with
        | error e =>
          have hE : sigS b = .error e := by unfold sigS eSig; rw [hO]; simp only [hc, if_true]; rw [hP]; simp only [h6, if_true]; rw [hM]; simp only [Int.toNat_natCast]; rw [hL]; rfl
          have hl1 := fun σ h => RD.bad (hli m (by omega) a3 ha3 σ h) hL
          cases p <;> cases q <;> first | (cases hpq; done) | skip
          all_goals
            repeat (first
              | (with_reducible first | apply AWp.seq | apply AWp.block | refine And.intro (by first | omega | assumption | decide) ?_)
              | ((first | (with_reducible first | apply AWp.fork | apply AWp.region | show condK _ _ _ | show guardK _ _ _ _ _ _ _ _ _) | ((with_reducible apply aCall.id); first | apply aCall.gives (ho1 _ (by simp [n_id_id5])) | apply aCall.gives (hneed _ _) | apply aCall.gives (hp1 _ (by simp [n_id_id5])) | apply aCall.gives (hm1 _ (by simp [n_id_id5])) | apply (thr_ (hl1 _ (by simp [n_id_id5]))))); simp -implicitDefEqProofs [y0, y32, h6, n_id3_id2, n_id2_id3, n_id_id3, n_id_id2, n_id3_id, n_id2_id, n_id5_id, n_id_id5, n_id5_id3, n_id3_id5, n_id5_id2, n_id2_id5])
              | ((with_reducible first | apply AWp.ret | apply AWp.skip | apply AWp.exit); try simp -implicitDefEqProofs [y0, y32, h6, n_id3_id2, n_id2_id3, n_id_id3, n_id_id2, n_id3_id, n_id2_id, n_id5_id, n_id_id5, n_id5_id3, n_id3_id5, n_id5_id2, n_id2_id5]))
            intro x
            refine getsig1_some id2 id3 e (.sc (.bool tv)) .nilS (.sc (.int .i64 t.kind)) (.sc (.int .i64 t.index)) (.sc (.int .i64 t.dims)) (.sc (.bool t.ref)) (.sc (.int .i64 0)) _ _ (by simp [htv, n_id2_id, n_id3_id, n_id2_id5, n_id3_id5, n_id_id5, n_id5_id, n_id2_id3, n_id3_id2, n_id_id2, n_id_id3]) (by simp [n_id2_id, n_id3_id, n_id2_id5, n_id3_id5, n_id_id5, n_id5_id, n_id2_id3, n_id3_id2, n_id_id2, n_id_id3]) n_id2_id3 ?_
            simp -implicitDefEqProofs [n_id2_id, n_id3_id, n_id2_id5, n_id3_id5, n_id_id5, n_id5_id, n_id2_id3, n_id3_id2, n_id_id2, n_id_id3, errC, hE, resS, resE, sgV]
            refine ⟨Wk_tup2 (Wk_agg6 (Wk.refl _) Wk_nilT (Wk.refl _) (Wk.refl _) (Wk.refl _) (Wk.refl _)) (Wk.refl _), ?_⟩
            repeat (first | exact AS.le_refl _ | refine AS.le_set ?_ (by assumption))
        | ok y =>
          obtain ⟨l, a4⟩ := y
          have ha4 := eList_le ha3 hL
          have hl1 := fun σ h => RD.ok (hli m (by omega) a3 ha3 σ h) hL
          simp only [tyL] at hl1
          have hsig : eSig b = .ok (⟨!p, l, t⟩, a4) := by unfold eSig; rw [hO]; simp only [hc, if_true]; rw [hP]; simp only [h6, if_true]; rw [hM]; simp only [Int.toNat_natCast]; rw [hL]; simp only [hth]
          by_cases hlt : a4 < b.length
          · have hE : sigS b = .error 2 := by unfold sigS; rw [hsig]; simp [eEnd, hlt]
            have he := fun σ h => end_bad id b a4 nl σ h hl hlt
            simp only [rdV] at he
            cases p <;> cases q <;> first | (cases hpq; done) | skip
            all_goals
              repeat (first
                | (with_reducible first | apply AWp.seq | apply AWp.block | refine And.intro (by first | omega | assumption | decide) ?_)
                | ((first | (with_reducible first | apply AWp.fork | apply AWp.region | show condK _ _ _ | show guardK _ _ _ _ _ _ _ _ _) | ((with_reducible apply aCall.id); first | apply aCall.gives (ho1 _ (by simp [n_id_id5])) | apply aCall.gives (hneed _ _) | apply aCall.gives (hp1 _ (by simp [n_id_id5])) | apply aCall.gives (hm1 _ (by simp [n_id_id5])) | apply aCall.gives (hl1 _ (by simp [n_id_id5])) | apply (thr_ (he _ (by simp [n_id_id5]))))); simp -implicitDefEqProofs [y0, y32, h6, n_id3_id2, n_id2_id3, n_id_id3, n_id_id2, n_id3_id, n_id2_id, n_id5_id, n_id_id5, n_id5_id3, n_id3_id5, n_id5_id2, n_id2_id5])
                | ((with_reducible first | apply AWp.ret | apply AWp.skip | apply AWp.exit); try simp -implicitDefEqProofs [y0, y32, h6, n_id3_id2, n_id2_id3, n_id_id3, n_id_id2, n_id3_id, n_id2_id, n_id5_id, n_id_id5, n_id5_id3, n_id3_id5, n_id5_id2, n_id2_id5]))
              intro x
              refine getsig1_some id2 id3 2 (.sc (.bool tv)) (.lst 24 (l.map tyV) .unk (decide (l = []))) (.sc (.int .i64 t.kind)) (.sc (.int .i64 t.index)) (.sc (.int .i64 t.dims)) (.sc (.bool t.ref)) (.sc (.int .i64 0)) _ _ (by simp [htv, n_id2_id, n_id3_id, n_id2_id5, n_id3_id5, n_id_id5, n_id5_id, n_id2_id3, n_id3_id2, n_id_id2, n_id_id3]) (by simp [n_id2_id, n_id3_id, n_id2_id5, n_id3_id5, n_id_id5, n_id5_id, n_id2_id3, n_id3_id2, n_id_id2, n_id_id3]) n_id2_id3 ?_
              simp -implicitDefEqProofs [n_id2_id, n_id3_id, n_id2_id5, n_id3_id5, n_id_id5, n_id5_id, n_id2_id3, n_id3_id2, n_id_id2, n_id_id3, errC, hE, resS, resE, sgV]
              refine ⟨Wk_tup2 (Wk_agg6 (Wk.refl _) Wk_nilT (Wk.refl _) (Wk.refl _) (Wk.refl _) (Wk.refl _)) (Wk.refl _), ?_⟩
              repeat (first | exact AS.le_refl _ | refine AS.le_set ?_ (by assumption))
          · have hE : sigS b = .ok ⟨!p, l, t⟩ := by unfold sigS; rw [hsig]; simp [eEnd, hlt]
            have he := fun σ h => end_ok id b a4 nl σ h ha4 hl (by omega)
            simp only [rdV] at he
            cases p <;> cases q <;> first | (cases hpq; done) | skip
            all_goals
              repeat (first
                | (with_reducible first | apply AWp.seq | apply AWp.block | refine And.intro (by first | omega | assumption | decide) ?_)
                | ((first | (with_reducible first | apply AWp.fork | apply AWp.region | show condK _ _ _ | show guardK _ _ _ _ _ _ _ _ _) | ((with_reducible apply aCall.id); first | apply aCall.gives (ho1 _ (by simp [n_id_id5])) | apply aCall.gives (hneed _ _) | apply aCall.gives (hp1 _ (by simp [n_id_id5])) | apply aCall.gives (hm1 _ (by simp [n_id_id5])) | apply aCall.gives (hl1 _ (by simp [n_id_id5])) | apply aCall.gives (he _ (by simp [n_id_id5])))); simp -implicitDefEqProofs [y0, y32, h6, n_id3_id2, n_id2_id3, n_id_id3, n_id_id2, n_id3_id, n_id2_id, n_id5_id, n_id_id5, n_id5_id3, n_id3_id5, n_id5_id2, n_id2_id5])
                | ((with_reducible first | apply AWp.ret | apply AWp.skip | apply AWp.exit); try simp -implicitDefEqProofs [y0, y32, h6, n_id3_id2, n_id2_id3, n_id_id3, n_id_id2, n_id3_id, n_id2_id, n_id5_id, n_id_id5, n_id5_id3, n_id3_id5, n_id5_id2, n_id2_id5]))
              refine getsig1_none id2 id3 _ _ ?_
              simp -implicitDefEqProofs [n_id2_id, n_id3_id, n_id2_id5, n_id3_id5, n_id_id5, n_id5_id, n_id2_id3, n_id3_id2, n_id_id2, n_id_id3, errC, hE, resS, resE, sgV, tyL]
              repeat (first | exact AS.le_refl _ | refine AS.le_set ?_ (by assumption))

end Sg
end Go.Proofs.Ytplphldpkliakaa
