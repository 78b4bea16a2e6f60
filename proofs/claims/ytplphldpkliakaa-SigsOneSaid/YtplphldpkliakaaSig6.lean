/- Package sigs: GetSig, GetLocals. -/
import Derived.Test.YtplphldpkliakaaSig5
set_option linter.unusedSimpArgs false
set_option linter.unusedVariables false
set_option maxRecDepth 100000
set_option maxHeartbeats 3200000
namespace Go.Proofs.Ytplphldpkliakaa
namespace Sg
open Go Go.AW

theorem Wk_agg6 {P : Program} {a b c d e f a' b' c' d' e' f' : AV} (h1 : AV.Wk P a a') (h2 : AV.Wk P b b') (h3 : AV.Wk P c c') (h4 : AV.Wk P d d') (h5 : AV.Wk P e e') (h6 : AV.Wk P f f') : AV.Wk P (.agg [a, b, c, d, e, f]) (.agg [a', b', c', d', e', f']) := by
  intro G v h
  cases h with
  | agg vs l h =>
    refine .agg vs l fun i hi => ?_
    match i, hi with
    | 0, _ => exact h1 G _ (h 0 (by simp))
    | 1, _ => exact h2 G _ (h 1 (by simp))
    | 2, _ => exact h3 G _ (h 2 (by simp))
    | 3, _ => exact h4 G _ (h 3 (by simp))
    | 4, _ => exact h5 G _ (h 4 (by simp))
    | 5, _ => exact h6 G _ (h 5 (by simp))
def sgV (s : Sg) : AV := .agg [.sc (.bool s.this), tyL s.ps, .sc (.int .i64 s.ret.kind), .sc (.int .i64 s.ret.index), .sc (.int .i64 s.ret.dims), .sc (.bool s.ret.ref)]
def resS : Except Int Sg → Sg
  | .ok s => s
  | .error _ => ⟨false, [], ⟨0, 0, 0, false⟩⟩
def resL : Except Int (List Ty) → List Ty
  | .ok l => l
  | .error _ => []
theorem Wk_nilT : AV.Wk Try.prog .nilS (tyL []) := by simp [tyL]

theorem getsig1_none (c2 c3 : Nat) (σ : AS) (K : AS → Prop) (hK : K σ) : DCalls Try.prog 46 [.ptr c2 0, .ptr c3 0] σ none K := by
  refine DCalls.of Try.func46 rfl rfl (by simp [Try.ntmps46]) (by simp [Try.ntmps46]) ?_
  refine sOps.sp rfl (SOp.assertN (by simp [Try.ntmps46]) Try.underlying79 trivial (by kernel_rfl) rfl ?_)
  refine sOps.rest ?_
  have hz : zeroAV Try.prog 79 = .sc (.int .i64 0) := by kernel_rfl
  simp -implicitDefEqProofs [hz, Try.ntmps46]
  repeat (first
    | (with_reducible first | apply AWp.seq | apply AWp.block | refine And.intro (by first | omega | assumption | decide) ?_)
    | ((first | (with_reducible first | apply AWp.fork | apply AWp.region)); simp -implicitDefEqProofs)
    | ((with_reducible first | apply AWp.ret | apply AWp.skip | apply AWp.exit); try simp -implicitDefEqProofs))
  exact hK

theorem getsig1_some (c2 c3 : Nat) (e : Int) (x1 x2 x3 x4 x5 x6 z : AV) (σ : AS) (K : AS → Prop) (h2 : σ c2 = some (.cells 26 [x1, x2, x3, x4, x5, x6])) (h3 : σ c3 = some (.cells 29 [z])) (n23 : ¬ c2 = c3)
    (hK : K ((σ.set c2 (.cells 26 [.sc (.bool false), .nilS, .sc (.int .i64 0), .sc (.int .i64 0), .sc (.int .i64 0), .sc (.bool false)])).set c3 (errC e))) : DCalls Try.prog 46 [.ptr c2 0, .ptr c3 0] σ (some (flt e)) K := by
  have n32 : ¬ c3 = c2 := fun e => n23 e.symm
  refine DCalls.of Try.func46 rfl rfl (by simp [Try.ntmps46]) (by simp [Try.ntmps46]) ?_
  refine sOps.sp rfl (SOp.assertY (by simp [Try.ntmps46]) Try.underlying79 trivial rfl ?_)
  refine sOps.rest ?_
  simp -implicitDefEqProofs [Try.ntmps46, flt, recV]
  repeat (first
    | (with_reducible first | apply AWp.seq | apply AWp.block | refine And.intro (by first | omega | assumption | decide) ?_)
    | ((first | (with_reducible first | apply AWp.fork | apply AWp.region | show condK _ _ _ | show guardK _ _ _ _ _ _ _ _ _)); simp -implicitDefEqProofs [h2, h3, n23, n32])
    | ((with_reducible first | apply AWp.ret | apply AWp.skip | apply AWp.exit); try simp -implicitDefEqProofs [h2, h3, n23, n32]))
  exact hK

theorem getloc1_none (c2 c3 : Nat) (σ : AS) (K : AS → Prop) (hK : K σ) : DCalls Try.prog 59 [.ptr c2 0, .ptr c3 0] σ none K := by
  refine DCalls.of Try.func59 rfl rfl (by simp [Try.ntmps59]) (by simp [Try.ntmps59]) ?_
  refine sOps.sp rfl (SOp.assertN (by simp [Try.ntmps59]) Try.underlying79 trivial (by kernel_rfl) rfl ?_)
  refine sOps.rest ?_
  have hz : zeroAV Try.prog 79 = .sc (.int .i64 0) := by kernel_rfl
  simp -implicitDefEqProofs [hz, Try.ntmps59]
  repeat (first
    | (with_reducible first | apply AWp.seq | apply AWp.block | refine And.intro (by first | omega | assumption | decide) ?_)
    | ((first | (with_reducible first | apply AWp.fork | apply AWp.region)); simp -implicitDefEqProofs)
    | ((with_reducible first | apply AWp.ret | apply AWp.skip | apply AWp.exit); try simp -implicitDefEqProofs))
  exact hK

theorem getloc1_some (c2 c3 : Nat) (e : Int) (x1 z : AV) (σ : AS) (K : AS → Prop) (h2 : σ c2 = some (.cells 22 [x1])) (h3 : σ c3 = some (.cells 29 [z])) (n23 : ¬ c2 = c3)
    (hK : K ((σ.set c2 (.cells 22 [.nilS])).set c3 (errC e))) : DCalls Try.prog 59 [.ptr c2 0, .ptr c3 0] σ (some (flt e)) K := by
  have n32 : ¬ c3 = c2 := fun e => n23 e.symm
  refine DCalls.of Try.func59 rfl rfl (by simp [Try.ntmps59]) (by simp [Try.ntmps59]) ?_
  refine sOps.sp rfl (SOp.assertY (by simp [Try.ntmps59]) Try.underlying79 trivial rfl ?_)
  refine sOps.rest ?_
  simp -implicitDefEqProofs [Try.ntmps59, flt, recV]
  repeat (first
    | (with_reducible first | apply AWp.seq | apply AWp.block | refine And.intro (by first | omega | assumption | decide) ?_)
    | ((first | (with_reducible first | apply AWp.fork | apply AWp.region | show condK _ _ _ | show guardK _ _ _ _ _ _ _ _ _)); simp -implicitDefEqProofs [h2, h3, n23, n32])
    | ((with_reducible first | apply AWp.ret | apply AWp.skip | apply AWp.exit); try simp -implicitDefEqProofs [h2, h3, n23, n32]))
  exact hK

theorem getLocals_ok (b : List UInt8) (o : Own) (nl : Bool) (hnl : nl = true → b = []) (hl : b.length ≤ 100000) (σ : AS) :
    ACalls Try.prog 29 [.lst 5 (b.map u8) o nl] σ (Gives (.tup [tyL (resL (locS b)), .sc (.int .i64 (resE (locS b)))]) σ) No := by
  refine ACalls.of_bodyD Try.func29 rfl rfl (by simp [Try.ntmps29]) (fun G1 => ?_)
  apply AWpD.seq
  have hnt : Try.f29.ntmps = 25 := rfl
  simp -implicitDefEqProofs only [hnt]
  repeat (first
    | (with_reducible first | apply AWp.seq | apply AWp.block | refine And.intro (by first | omega | assumption | decide) ?_)
    | ((first | (with_reducible first | apply AWp.fork | apply AWp.region)); simp -implicitDefEqProofs)
    | ((with_reducible first | apply AWp.ret | apply AWp.skip | apply AWp.exit); try simp -implicitDefEqProofs))
  intro id2 h_id2
  repeat (first
    | (with_reducible first | apply AWp.seq | apply AWp.block | refine And.intro (by first | omega | assumption | decide) ?_)
    | ((first | (with_reducible first | apply AWp.fork | apply AWp.region)); simp -implicitDefEqProofs)
    | ((with_reducible first | apply AWp.ret | apply AWp.skip | apply AWp.exit); try simp -implicitDefEqProofs))
  intro id3 n_id3_id2 h_id3
  have n_id2_id3 : ¬ id2 = id3 := fun e => n_id3_id2 e.symm
  apply AWpD.defer (by simp [hnt]) (by decide +kernel)
  intro D
  simp -implicitDefEqProofs only [hnt]
  repeat (first
    | (with_reducible first | apply AWp.seq | apply AWp.block | refine And.intro (by first | omega | assumption | decide) ?_)
    | ((first | (with_reducible first | apply AWp.fork | apply AWp.region | show condK _ _ _ | show guardK _ _ _ _ _ _ _ _ _)); simp -implicitDefEqProofs [n_id3_id2, n_id2_id3])
    | ((with_reducible first | apply AWp.ret | apply AWp.skip | apply AWp.exit); try simp -implicitDefEqProofs [n_id3_id2, n_id2_id3]))
  refine aCall.of (new_ok b o nl hnl (by omega) _) ?_ (fun _ _ h => h.elim)
  rintro r σ1 ⟨id, hid, rfl, rfl⟩
  simp at hid
  obtain ⟨n_id_id3, n_id_id2, h_id⟩ := hid
  have n_id3_id : ¬ id3 = id := fun e => n_id_id3 e.symm
  have n_id2_id : ¬ id2 = id := fun e => n_id_id2 e.symm
  simp -implicitDefEqProofs [n_id3_id2, n_id2_id3, n_id_id3, n_id_id2, n_id3_id, n_id2_id]
  repeat (first
    | (with_reducible first | apply AWp.seq | apply AWp.block | refine And.intro (by first | omega | assumption | decide) ?_)
    | ((first | (with_reducible first | apply AWp.fork | apply AWp.region | show condK _ _ _ | show guardK _ _ _ _ _ _ _ _ _)); simp -implicitDefEqProofs [n_id3_id2, n_id2_id3, n_id_id3, n_id_id2, n_id3_id, n_id2_id])
    | ((with_reducible first | apply AWp.ret | apply AWp.skip | apply AWp.exit); try simp -implicitDefEqProofs [n_id3_id2, n_id2_id3, n_id_id3, n_id_id2, n_id3_id, n_id2_id]))
  intro id5 n_id5_id n_id5_id3 n_id5_id2 h_id5
  have n_id_id5 : ¬ id = id5 := fun e => n_id5_id e.symm
  have n_id3_id5 : ¬ id3 = id5 := fun e => n_id5_id3 e.symm
  have n_id2_id5 : ¬ id2 = id5 := fun e => n_id5_id2 e.symm
  have hbad := fun e σ => need_bad e σ
  have hneed := fun e σ => need_ok e σ
  have ho := fun σ h => one_ok id b 0 nl σ h (by omega) hl
  have hp := fun x hx σ h => packed_ok' id b x nl σ h hx hnl hl
  have hli := fun n hn x hx σ h => list_ok n hn id b x nl σ h hx hnl hl
  simp only [rdV] at ho hp hli
  cases hO : eB b 0 with
  | error e =>
    have hE : locS b = .error e := by unfold locS eLoc; rw [hO]; rfl
    have ho1 := fun σ h => RD.bad (ho σ h) hO
    repeat (first
      | (with_reducible first | apply AWp.seq | apply AWp.block | refine And.intro (by first | omega | assumption | decide) ?_)
      | ((first | (with_reducible first | apply AWp.fork | apply AWp.region | show condK _ _ _ | show guardK _ _ _ _ _ _ _ _ _) | ((with_reducible apply aCall.id); first | apply (thr_ (ho1 _ (by simp [n_id_id5]))))); simp -implicitDefEqProofs [n_id3_id2, n_id2_id3, n_id_id3, n_id_id2, n_id3_id, n_id2_id, n_id5_id, n_id_id5, n_id5_id3, n_id3_id5, n_id5_id2, n_id2_id5])
      | ((with_reducible first | apply AWp.ret | apply AWp.skip | apply AWp.exit); try simp -implicitDefEqProofs [n_id3_id2, n_id2_id3, n_id_id3, n_id_id2, n_id3_id, n_id2_id, n_id5_id, n_id_id5, n_id5_id3, n_id3_id5, n_id5_id2, n_id2_id5]))
    intro x
    refine getloc1_some id2 id3 e (.nilS) (.sc (.int .i64 0)) _ _ (by simp [n_id2_id, n_id3_id, n_id2_id5, n_id3_id5, n_id_id5, n_id5_id, n_id2_id3, n_id3_id2, n_id_id2, n_id_id3]) (by simp [n_id2_id, n_id3_id, n_id2_id5, n_id3_id5, n_id_id5, n_id5_id, n_id2_id3, n_id3_id2, n_id_id2, n_id_id3]) n_id2_id3 ?_
    simp -implicitDefEqProofs [n_id2_id, n_id3_id, n_id2_id5, n_id3_id5, n_id_id5, n_id5_id, n_id2_id3, n_id3_id2, n_id_id2, n_id_id3, errC, hE, resL, resE]
    refine ⟨Wk_tup2 Wk_nilT (Wk.refl _), ?_⟩
    repeat (first | exact AS.le_refl _ | refine AS.le_set ?_ (by assumption))
  | ok y =>
    obtain ⟨c, a1⟩ := y
    have ho1 := fun σ h => RD.ok (ho σ h) hO
    have ha1 := eB_le hO
    simp only [byV] at ho1
    have z7 := u8_eq (c := c) (n := 7) (by omega)
    by_cases h7 : c = 7
    rotate_left
    · have z : ((c.toNat : Int) = 7) = False := z7.trans (eq_false h7)
      have hE : locS b = .error 2 := by unfold locS eLoc; rw [hO]; simp only [h7, if_false]; rfl
      repeat (first
        | (with_reducible first | apply AWp.seq | apply AWp.block | refine And.intro (by first | omega | assumption | decide) ?_)
        | ((first | (with_reducible first | apply AWp.fork | apply AWp.region | show condK _ _ _ | show guardK _ _ _ _ _ _ _ _ _) | ((with_reducible apply aCall.id); first | apply aCall.gives (ho1 _ (by simp [n_id_id5])) | apply (gp_ (hbad _ _)))); simp -implicitDefEqProofs [z, n_id3_id2, n_id2_id3, n_id_id3, n_id_id2, n_id3_id, n_id2_id, n_id5_id, n_id_id5, n_id5_id3, n_id3_id5, n_id5_id2, n_id2_id5])
        | ((with_reducible first | apply AWp.ret | apply AWp.skip | apply AWp.exit); try simp -implicitDefEqProofs [z, n_id3_id2, n_id2_id3, n_id_id3, n_id_id2, n_id3_id, n_id2_id, n_id5_id, n_id_id5, n_id5_id3, n_id3_id5, n_id5_id2, n_id2_id5]))
      refine getloc1_some id2 id3 2 (.nilS) (.sc (.int .i64 0)) _ _ (by simp [n_id2_id, n_id3_id, n_id2_id5, n_id3_id5, n_id_id5, n_id5_id, n_id2_id3, n_id3_id2, n_id_id2, n_id_id3]) (by simp [n_id2_id, n_id3_id, n_id2_id5, n_id3_id5, n_id_id5, n_id5_id, n_id2_id3, n_id3_id2, n_id_id2, n_id_id3]) n_id2_id3 ?_
      simp -implicitDefEqProofs [n_id2_id, n_id3_id, n_id2_id5, n_id3_id5, n_id_id5, n_id5_id, n_id2_id3, n_id3_id2, n_id_id2, n_id_id3, errC, hE, resL, resE]
      refine ⟨Wk_tup2 Wk_nilT (Wk.refl _), ?_⟩
      repeat (first | exact AS.le_refl _ | refine AS.le_set ?_ (by assumption))
    have z : ((c.toNat : Int) = 7) = True := z7.trans (eq_true h7)
    cases hP : ePk b a1 with
    | error e =>
      have hE : locS b = .error e := by unfold locS eLoc; rw [hO]; simp only [h7, if_true]; rw [hP]; rfl
      have hp1 := fun σ h => RD.bad (hp a1 ha1 σ h) hP
      repeat (first
        | (with_reducible first | apply AWp.seq | apply AWp.block | refine And.intro (by first | omega | assumption | decide) ?_)
        | ((first | (with_reducible first | apply AWp.fork | apply AWp.region | show condK _ _ _ | show guardK _ _ _ _ _ _ _ _ _) | ((with_reducible apply aCall.id); first | apply aCall.gives (ho1 _ (by simp [n_id_id5])) | apply aCall.gives (hneed _ _) | apply (thr_ (hp1 _ (by simp [n_id_id5]))))); simp -implicitDefEqProofs [z, n_id3_id2, n_id2_id3, n_id_id3, n_id_id2, n_id3_id, n_id2_id, n_id5_id, n_id_id5, n_id5_id3, n_id3_id5, n_id5_id2, n_id2_id5])
        | ((with_reducible first | apply AWp.ret | apply AWp.skip | apply AWp.exit); try simp -implicitDefEqProofs [z, n_id3_id2, n_id2_id3, n_id_id3, n_id_id2, n_id3_id, n_id2_id, n_id5_id, n_id_id5, n_id5_id3, n_id3_id5, n_id5_id2, n_id2_id5]))
      intro x
      refine getloc1_some id2 id3 e (.nilS) (.sc (.int .i64 0)) _ _ (by simp [n_id2_id, n_id3_id, n_id2_id5, n_id3_id5, n_id_id5, n_id5_id, n_id2_id3, n_id3_id2, n_id_id2, n_id_id3]) (by simp [n_id2_id, n_id3_id, n_id2_id5, n_id3_id5, n_id_id5, n_id5_id, n_id2_id3, n_id3_id2, n_id_id2, n_id_id3]) n_id2_id3 ?_
      simp -implicitDefEqProofs [n_id2_id, n_id3_id, n_id2_id5, n_id3_id5, n_id_id5, n_id5_id, n_id2_id3, n_id3_id2, n_id_id2, n_id_id3, errC, hE, resL, resE]
      refine ⟨Wk_tup2 Wk_nilT (Wk.refl _), ?_⟩
      repeat (first | exact AS.le_refl _ | refine AS.le_set ?_ (by assumption))
    | ok y =>
      obtain ⟨n, a2⟩ := y
      have hp1 := fun σ h => RD.ok (hp a1 ha1 σ h) hP
      have ha2 := ePk_le hP
      have hn0 := (at_ePk hP).1
      simp only [ivV] at hp1
      by_cases h12 : n ≤ 12
      rotate_left
      · have hE : locS b = .error 4 := by unfold locS eLoc; rw [hO]; simp only [h7, if_true]; rw [hP]; simp only [h12, if_false]; rfl
        repeat (first
          | (with_reducible first | apply AWp.seq | apply AWp.block | refine And.intro (by first | omega | assumption | decide) ?_)
          | ((first | (with_reducible first | apply AWp.fork | apply AWp.region | show condK _ _ _ | show guardK _ _ _ _ _ _ _ _ _) | ((with_reducible apply aCall.id); first | apply aCall.gives (ho1 _ (by simp [n_id_id5])) | apply aCall.gives (hneed _ _) | apply aCall.gives (hp1 _ (by simp [n_id_id5])) | apply (gp_ (hbad _ _)))); simp -implicitDefEqProofs [z, h12, n_id3_id2, n_id2_id3, n_id_id3, n_id_id2, n_id3_id, n_id2_id, n_id5_id, n_id_id5, n_id5_id3, n_id3_id5, n_id5_id2, n_id2_id5])
          | ((with_reducible first | apply AWp.ret | apply AWp.skip | apply AWp.exit); try simp -implicitDefEqProofs [z, h12, n_id3_id2, n_id2_id3, n_id_id3, n_id_id2, n_id3_id, n_id2_id, n_id5_id, n_id_id5, n_id5_id3, n_id3_id5, n_id5_id2, n_id2_id5]))
        refine getloc1_some id2 id3 4 (.nilS) (.sc (.int .i64 0)) _ _ (by simp [n_id2_id, n_id3_id, n_id2_id5, n_id3_id5, n_id_id5, n_id5_id, n_id2_id3, n_id3_id2, n_id_id2, n_id_id3]) (by simp [n_id2_id, n_id3_id, n_id2_id5, n_id3_id5, n_id_id5, n_id5_id, n_id2_id3, n_id3_id2, n_id_id2, n_id_id3]) n_id2_id3 ?_
        simp -implicitDefEqProofs [n_id2_id, n_id3_id, n_id2_id5, n_id3_id5, n_id_id5, n_id5_id, n_id2_id3, n_id3_id2, n_id_id2, n_id_id3, errC, hE, resL, resE]
        refine ⟨Wk_tup2 Wk_nilT (Wk.refl _), ?_⟩
        repeat (first | exact AS.le_refl _ | refine AS.le_set ?_ (by assumption))
      obtain ⟨m, rfl⟩ : ∃ m : Nat, n = m := ⟨n.toNat, by omega⟩
      cases hL : eList b m a2 with
      | error e =>
        have hE : locS b = .error e := by unfold locS eLoc; rw [hO]; simp only [h7, if_true]; rw [hP]; simp only [h12, if_true, Int.toNat_natCast]; rw [hL]; rfl
        have hl1 := fun σ h => RD.bad (hli m (by omega) a2 ha2 σ h) hL
        repeat (first
          | (with_reducible first | apply AWp.seq | apply AWp.block | refine And.intro (by first | omega | assumption | decide) ?_)
          | ((first | (with_reducible first | apply AWp.fork | apply AWp.region | show condK _ _ _ | show guardK _ _ _ _ _ _ _ _ _) | ((with_reducible apply aCall.id); first | apply aCall.gives (ho1 _ (by simp [n_id_id5])) | apply aCall.gives (hneed _ _) | apply aCall.gives (hp1 _ (by simp [n_id_id5])) | apply (thr_ (hl1 _ (by simp [n_id_id5]))))); simp -implicitDefEqProofs [z, h12, n_id3_id2, n_id2_id3, n_id_id3, n_id_id2, n_id3_id, n_id2_id, n_id5_id, n_id_id5, n_id5_id3, n_id3_id5, n_id5_id2, n_id2_id5])
          | ((with_reducible first | apply AWp.ret | apply AWp.skip | apply AWp.exit); try simp -implicitDefEqProofs [z, h12, n_id3_id2, n_id2_id3, n_id_id3, n_id_id2, n_id3_id, n_id2_id, n_id5_id, n_id_id5, n_id5_id3, n_id3_id5, n_id5_id2, n_id2_id5]))
        intro x
        refine getloc1_some id2 id3 e (.nilS) (.sc (.int .i64 0)) _ _ (by simp [n_id2_id, n_id3_id, n_id2_id5, n_id3_id5, n_id_id5, n_id5_id, n_id2_id3, n_id3_id2, n_id_id2, n_id_id3]) (by simp [n_id2_id, n_id3_id, n_id2_id5, n_id3_id5, n_id_id5, n_id5_id, n_id2_id3, n_id3_id2, n_id_id2, n_id_id3]) n_id2_id3 ?_
        simp -implicitDefEqProofs [n_id2_id, n_id3_id, n_id2_id5, n_id3_id5, n_id_id5, n_id5_id, n_id2_id3, n_id3_id2, n_id_id2, n_id_id3, errC, hE, resL, resE]
        refine ⟨Wk_tup2 Wk_nilT (Wk.refl _), ?_⟩
        repeat (first | exact AS.le_refl _ | refine AS.le_set ?_ (by assumption))
      | ok y =>
        obtain ⟨l, a3⟩ := y
        have ha3 := eList_le ha2 hL
        have hl1 := fun σ h => RD.ok (hli m (by omega) a2 ha2 σ h) hL
        simp only [tyL] at hl1
        have hloc : eLoc b = .ok (l, a3) := by unfold eLoc; rw [hO]; simp only [h7, if_true]; rw [hP]; simp only [h12, if_true, Int.toNat_natCast]; rw [hL]
        by_cases hlt : a3 < b.length
        · have hE : locS b = .error 2 := by unfold locS; rw [hloc]; simp [eEnd, hlt]
          have he := fun σ h => end_bad id b a3 nl σ h hl hlt
          simp only [rdV] at he
          repeat (first
            | (with_reducible first | apply AWp.seq | apply AWp.block | refine And.intro (by first | omega | assumption | decide) ?_)
            | ((first | (with_reducible first | apply AWp.fork | apply AWp.region | show condK _ _ _ | show guardK _ _ _ _ _ _ _ _ _) | ((with_reducible apply aCall.id); first | apply aCall.gives (ho1 _ (by simp [n_id_id5])) | apply aCall.gives (hneed _ _) | apply aCall.gives (hp1 _ (by simp [n_id_id5])) | apply aCall.gives (hl1 _ (by simp [n_id_id5])) | apply (thr_ (he _ (by simp [n_id_id5]))))); simp -implicitDefEqProofs [z, h12, n_id3_id2, n_id2_id3, n_id_id3, n_id_id2, n_id3_id, n_id2_id, n_id5_id, n_id_id5, n_id5_id3, n_id3_id5, n_id5_id2, n_id2_id5])
            | ((with_reducible first | apply AWp.ret | apply AWp.skip | apply AWp.exit); try simp -implicitDefEqProofs [z, h12, n_id3_id2, n_id2_id3, n_id_id3, n_id_id2, n_id3_id, n_id2_id, n_id5_id, n_id_id5, n_id5_id3, n_id3_id5, n_id5_id2, n_id2_id5]))
          intro x
          refine getloc1_some id2 id3 2 (.lst 24 (l.map tyV) .unk (decide (l = []))) (.sc (.int .i64 0)) _ _ (by simp [n_id2_id, n_id3_id, n_id2_id5, n_id3_id5, n_id_id5, n_id5_id, n_id2_id3, n_id3_id2, n_id_id2, n_id_id3]) (by simp [n_id2_id, n_id3_id, n_id2_id5, n_id3_id5, n_id_id5, n_id5_id, n_id2_id3, n_id3_id2, n_id_id2, n_id_id3]) n_id2_id3 ?_
          simp -implicitDefEqProofs [n_id2_id, n_id3_id, n_id2_id5, n_id3_id5, n_id_id5, n_id5_id, n_id2_id3, n_id3_id2, n_id_id2, n_id_id3, errC, hE, resL, resE]
          refine ⟨Wk_tup2 Wk_nilT (Wk.refl _), ?_⟩
          repeat (first | exact AS.le_refl _ | refine AS.le_set ?_ (by assumption))
        · have hE : locS b = .ok l := by unfold locS; rw [hloc]; simp [eEnd, hlt]
          have he := fun σ h => end_ok id b a3 nl σ h ha3 hl (by omega)
          simp only [rdV] at he
          repeat (first
            | (with_reducible first | apply AWp.seq | apply AWp.block | refine And.intro (by first | omega | assumption | decide) ?_)
            | ((first | (with_reducible first | apply AWp.fork | apply AWp.region | show condK _ _ _ | show guardK _ _ _ _ _ _ _ _ _) | ((with_reducible apply aCall.id); first | apply aCall.gives (ho1 _ (by simp [n_id_id5])) | apply aCall.gives (hneed _ _) | apply aCall.gives (hp1 _ (by simp [n_id_id5])) | apply aCall.gives (hl1 _ (by simp [n_id_id5])) | apply aCall.gives (he _ (by simp [n_id_id5])))); simp -implicitDefEqProofs [z, h12, n_id3_id2, n_id2_id3, n_id_id3, n_id_id2, n_id3_id, n_id2_id, n_id5_id, n_id_id5, n_id5_id3, n_id3_id5, n_id5_id2, n_id2_id5])
            | ((with_reducible first | apply AWp.ret | apply AWp.skip | apply AWp.exit); try simp -implicitDefEqProofs [z, h12, n_id3_id2, n_id2_id3, n_id_id3, n_id_id2, n_id3_id, n_id2_id, n_id5_id, n_id_id5, n_id5_id3, n_id3_id5, n_id5_id2, n_id2_id5]))
          refine getloc1_none id2 id3 _ _ ?_
          simp -implicitDefEqProofs [n_id2_id, n_id3_id, n_id2_id5, n_id3_id5, n_id_id5, n_id5_id, n_id2_id3, n_id3_id2, n_id_id2, n_id_id3, errC, hE, resL, resE, tyL]
          repeat (first | exact AS.le_refl _ | refine AS.le_set ?_ (by assumption))

end Sg
end Go.Proofs.Ytplphldpkliakaa
