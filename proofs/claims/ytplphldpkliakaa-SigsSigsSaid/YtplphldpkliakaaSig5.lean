/- Package sigs: Get, GetField. -/
import Derived.Test.YtplphldpkliakaaSig4
set_option linter.unusedSimpArgs false
set_option linter.unusedVariables false
set_option maxRecDepth 100000
set_option maxHeartbeats 3200000
namespace Go.Proofs.Ytplphldpkliakaa
namespace Sg
open Go Go.AW

/-! an error is one -/
theorem eB_err {b : List UInt8} {a : Nat} {e : Int} (h : eB b a = .error e) : e ≠ 0 := by
  unfold eB at h; split at h <;> cases h; omega
theorem ePk_err {b : List UInt8} {a : Nat} {e : Int} (h : ePk b a = .error e) : e ≠ 0 := by
  unfold ePk at h; split at h <;> cases h; assumption
theorem eIx_err {b : List UInt8} {a : Nat} {e : Int} (h : eIx b a = .error e) : e ≠ 0 := by
  unfold eIx at h
  split at h
  · cases h; exact ePk_err (by assumption)
  · split at h <;> cases h; omega
theorem eFt_err {b : List UInt8} {a : Nat} {e : Int} (h : eFt b a = .error e) : e ≠ 0 := by
  unfold eFt at h
  split at h
  · cases h; exact ePk_err (by assumption)
  · split at h <;> cases h; omega
theorem mkT_err {k : Int} {rf : Bool} {d : Nat} {x : Except Int (Int × Nat)} {e : Int} (h : mkT k rf d x = .error e) : x = .error e := by
  unfold mkT at h
  split at h
  · cases h; rfl
  · cases h
theorem eKd_err {b : List UInt8} {rf : Bool} {d : Nat} {c : UInt8} {a : Nat} {e : Int} (h : eKd b rf d c a = .error e) : e ≠ 0 := by
  unfold eKd at h
  split at h
  · split at h <;> cases h; omega
  split at h
  · cases h
  split at h
  · cases h
  split at h
  · cases h
  split at h
  · exact eIx_err (mkT_err h)
  split at h
  · exact eIx_err (mkT_err h)
  split at h
  · exact eFt_err (mkT_err h)
  · cases h; omega
theorem eDm_err {b : List UInt8} {rf : Bool} {e : Int} : ∀ (f d : Nat) (c : UInt8) (a : Nat), eDm b rf f d c a = .error e → e ≠ 0 := by
  intro f
  induction f with
  | zero =>
    intro d c a h
    simp only [eDm] at h
    split at h
    · cases h; omega
    · exact eKd_err h
  | succ f ih =>
    intro d c a h
    simp only [eDm] at h
    split at h
    · split at h
      · cases h; exact eB_err (by assumption)
      · exact ih _ _ _ h
    · exact eKd_err h
theorem eTy_err {b : List UInt8} {a : Nat} {e : Int} (h : eTy b a = .error e) : e ≠ 0 := by
  unfold eTy at h
  split at h
  · cases h; exact eB_err (by assumption)
  · split at h
    · split at h
      · cases h; exact eB_err (by assumption)
      · exact eDm_err _ _ _ _ h
    · exact eDm_err _ _ _ _ h
theorem eMay_err {ok : Ty → Bool} {b : List UInt8} {a : Nat} {e : Int} (h : eMay ok b a = .error e) : e ≠ 0 := by
  unfold eMay at h
  split at h
  · cases h; exact eTy_err (by assumption)
  · split at h <;> cases h; omega
theorem eList_err {b : List UInt8} {e : Int} : ∀ (k a : Nat), eList b k a = .error e → e ≠ 0 := by
  intro k
  induction k with
  | zero => intro a h; cases h
  | succ k ih =>
    intro a h
    simp only [eList] at h
    split at h
    · cases h; exact eMay_err (by assumption)
    · split at h
      · cases h; exact ih _ (by assumption)
      · cases h
theorem end_err {α : Type} {b : List UInt8} {x : Except Int (α × Nat)} {e : Int} (hx : ∀ e, x = .error e → e ≠ 0) (h : eEnd b x = .error e) : e ≠ 0 := by
  unfold eEnd at h
  split at h
  · cases h; exact hx _ rfl
  · split at h <;> cases h; omega
theorem getS_err {b : List UInt8} {e : Int} (h : getS b = .error e) : e ≠ 0 := end_err (fun _ => eTy_err) h
theorem eSig_err {b : List UInt8} {e : Int} (h : eSig b = .error e) : e ≠ 0 := by
  unfold eSig at h
  split at h
  · cases h; exact eB_err (by assumption)
  split at h
  · split at h
    · cases h; exact ePk_err (by assumption)
    split at h
    · split at h
      · cases h; exact eMay_err (by assumption)
      split at h
      · cases h; exact eList_err _ _ (by assumption)
      · cases h
    · cases h; omega
  · cases h; omega
theorem sigS_err {b : List UInt8} {e : Int} (h : sigS b = .error e) : e ≠ 0 := end_err (fun _ => eSig_err) h
theorem eLoc_err {b : List UInt8} {e : Int} (h : eLoc b = .error e) : e ≠ 0 := by
  unfold eLoc at h
  split at h
  · cases h; exact eB_err (by assumption)
  split at h
  · split at h
    · cases h; exact ePk_err (by assumption)
    split at h
    · exact eList_err _ _ h
    · cases h; omega
  · cases h; omega
theorem locS_err {b : List UInt8} {e : Int} (h : locS b = .error e) : e ≠ 0 := end_err (fun _ => eLoc_err) h

def resT : Except Int Ty → Ty
  | .ok t => t
  | .error _ => ⟨0, 0, 0, false⟩
def resE {α : Type} : Except Int α → Int
  | .ok _ => 0
  | .error e => e
def errC (e : Int) : ABlk := .cells 29 [.sc (.int .i64 e)]

theorem get1_none (c2 c3 : Nat) (σ : AS) (K : AS → Prop) (hK : K σ) : DCalls Try.prog 57 [.ptr c2 0, .ptr c3 0] σ none K := by
  refine DCalls.of Try.func57 rfl rfl (by simp [Try.ntmps57]) (by simp [Try.ntmps57]) ?_
  refine sOps.sp rfl (SOp.assertN (by simp [Try.ntmps57]) Try.underlying79 trivial (by kernel_rfl) rfl ?_)
  refine sOps.rest ?_
  have hz : zeroAV Try.prog 79 = .sc (.int .i64 0) := by kernel_rfl
  simp -implicitDefEqProofs [hz, Try.ntmps57]
  repeat (first
    | (with_reducible first | apply AWp.seq | apply AWp.block | refine And.intro (by first | omega | assumption | decide) ?_)
    | ((first | (with_reducible first | apply AWp.fork | apply AWp.region)); simp -implicitDefEqProofs)
    | ((with_reducible first | apply AWp.ret | apply AWp.skip | apply AWp.exit); try simp -implicitDefEqProofs))
  exact hK

theorem get1_some (c2 c3 : Nat) (e : Int) (x1 x2 x3 x4 z : AV) (σ : AS) (K : AS → Prop) (h2 : σ c2 = some (.cells 24 [x1, x2, x3, x4])) (h3 : σ c3 = some (.cells 29 [z])) (n23 : ¬ c2 = c3)
    (hK : K ((σ.set c2 (.cells 24 [.sc (.int .i64 0), .sc (.int .i64 0), .sc (.int .i64 0), .sc (.bool false)])).set c3 (errC e))) : DCalls Try.prog 57 [.ptr c2 0, .ptr c3 0] σ (some (flt e)) K := by
  have n32 : ¬ c3 = c2 := fun e => n23 e.symm
  refine DCalls.of Try.func57 rfl rfl (by simp [Try.ntmps57]) (by simp [Try.ntmps57]) ?_
  refine sOps.sp rfl (SOp.assertY (by simp [Try.ntmps57]) Try.underlying79 trivial rfl ?_)
  refine sOps.rest ?_
  simp -implicitDefEqProofs [Try.ntmps57, flt, recV]
  repeat (first
    | (with_reducible first | apply AWp.seq | apply AWp.block | refine And.intro (by first | omega | assumption | decide) ?_)
    | ((first | (with_reducible first | apply AWp.fork | apply AWp.region | show condK _ _ _ | show guardK _ _ _ _ _ _ _ _ _)); simp -implicitDefEqProofs [h2, h3, n23, n32])
    | ((with_reducible first | apply AWp.ret | apply AWp.skip | apply AWp.exit); try simp -implicitDefEqProofs [h2, h3, n23, n32]))
  exact hK

theorem get_ok (b : List UInt8) (o : Own) (nl : Bool) (hnl : nl = true → b = []) (hl : b.length ≤ 100000) (σ : AS) :
    ACalls Try.prog 24 [.lst 5 (b.map u8) o nl] σ (Gives (.tup [tyV (resT (getS b)), .sc (.int .i64 (resE (getS b)))]) σ) No := by
  refine ACalls.of_bodyD Try.func24 rfl rfl (by simp [Try.ntmps24]) (fun G1 => ?_)
  apply AWpD.seq
  have hnt : Try.f24.ntmps = 14 := rfl
  simp -implicitDefEqProofs only [hnt]
  repeat (first
    | (with_reducible first | apply AWp.seq | apply AWp.block | refine And.intro (by first | omega | assumption | decide) ?_)
    | ((first | (with_reducible first | apply AWp.fork | apply AWp.region)); simp -implicitDefEqProofs)
    | ((with_reducible first | apply AWp.ret | apply AWp.skip | apply AWp.exit); try simp -implicitDefEqProofs))
  intro id2 h_id2
  repeat (first
    | (with_reducible first | apply AWp.seq | apply AWp.block | refine And.intro (by first | omega | assumption | decide) ?_)
    | ((first | (with_reducible first | apply AWp.fork | apply AWp.region)); simp -implicitDefEqProofs)
    | ((with_reducible first | apply AWp.ret | apply AWp.skip | apply AWp.exit); try simp -implicitDefEqProofs))
  intro id3 n_id3_id2 h_id3
  have n_id2_id3 : ¬ id2 = id3 := fun e => n_id3_id2 e.symm
  apply AWpD.defer (by simp [hnt]) (by decide +kernel)
  intro D
  simp -implicitDefEqProofs only [hnt]
  repeat (first
    | (with_reducible first | apply AWp.seq | apply AWp.block | refine And.intro (by first | omega | assumption | decide) ?_)
    | ((first | (with_reducible first | apply AWp.fork | apply AWp.region | show condK _ _ _ | show guardK _ _ _ _ _ _ _ _ _)); simp -implicitDefEqProofs [n_id3_id2, n_id2_id3])
    | ((with_reducible first | apply AWp.ret | apply AWp.skip | apply AWp.exit); try simp -implicitDefEqProofs [n_id3_id2, n_id2_id3]))
  refine aCall.of (new_ok b o nl hnl (by omega) _) ?_ (fun _ _ h => h.elim)
  rintro r σ1 ⟨id, hid, rfl, rfl⟩
  simp at hid
  obtain ⟨n_id_id3, n_id_id2, h_id⟩ := hid
  have n_id3_id : ¬ id3 = id := fun e => n_id_id3 e.symm
  have n_id2_id : ¬ id2 = id := fun e => n_id_id2 e.symm
  simp -implicitDefEqProofs [n_id3_id2, n_id2_id3, n_id_id3, n_id_id2, n_id3_id, n_id2_id]
  repeat (first
    | (with_reducible first | apply AWp.seq | apply AWp.block | refine And.intro (by first | omega | assumption | decide) ?_)
    | ((first | (with_reducible first | apply AWp.fork | apply AWp.region | show condK _ _ _ | show guardK _ _ _ _ _ _ _ _ _)); simp -implicitDefEqProofs [n_id3_id2, n_id2_id3, n_id_id3, n_id_id2, n_id3_id, n_id2_id])
    | ((with_reducible first | apply AWp.ret | apply AWp.skip | apply AWp.exit); try simp -implicitDefEqProofs [n_id3_id2, n_id2_id3, n_id_id3, n_id_id2, n_id3_id, n_id2_id]))
  intro id5 n_id5_id n_id5_id3 n_id5_id2 h_id5
  have n_id_id5 : ¬ id = id5 := fun e => n_id5_id e.symm
  have n_id3_id5 : ¬ id3 = id5 := fun e => n_id5_id3 e.symm
  have n_id2_id5 : ¬ id2 = id5 := fun e => n_id5_id2 e.symm
  have ht := fun σ h => typ_ok id b 0 nl σ h (by omega) hnl hl
  have hend : ∀ (s2 s3 s5 : ABlk) (z : ABlk), AS.le σ ((((σ.set id2 s2).set id3 s3).set id z).set id5 s5) := fun s2 s3 s5 z =>
    AS.le_set (AS.le_set (AS.le_set (AS.le_set (AS.le_refl _) h_id2) h_id3) h_id) h_id5
  simp only [rdV] at ht
  unfold getS
  cases hT : eTy b 0 with
  | error e =>
    have ht1 := fun σ h => RD.bad (ht σ h) hT
    repeat (first
      | (with_reducible first | apply AWp.seq | apply AWp.block | refine And.intro (by first | omega | assumption | decide) ?_)
      | ((first | (with_reducible first | apply AWp.fork | apply AWp.region | show condK _ _ _ | show guardK _ _ _ _ _ _ _ _ _) | ((with_reducible apply aCall.id); first | apply (thr_ (ht1 _ (by simp [n_id_id5]))))); simp -implicitDefEqProofs [n_id3_id2, n_id2_id3, n_id_id3, n_id_id2, n_id3_id, n_id2_id, n_id5_id, n_id_id5, n_id5_id3, n_id3_id5, n_id5_id2, n_id2_id5])
      | ((with_reducible first | apply AWp.ret | apply AWp.skip | apply AWp.exit); try simp -implicitDefEqProofs [n_id3_id2, n_id2_id3, n_id_id3, n_id_id2, n_id3_id, n_id2_id, n_id5_id, n_id_id5, n_id5_id3, n_id3_id5, n_id5_id2, n_id2_id5]))
    intro x
    refine get1_some id2 id3 e (.sc (.int .i64 0)) (.sc (.int .i64 0)) (.sc (.int .i64 0)) (.sc (.bool false)) (.sc (.int .i64 0)) _ _ (by simp [n_id2_id5, n_id2_id, n_id2_id3]) (by simp [n_id3_id5, n_id3_id, n_id3_id2]) n_id2_id3 ?_
    simp -implicitDefEqProofs [n_id2_id, n_id3_id, n_id2_id5, n_id3_id5, n_id_id5, n_id5_id, n_id2_id3, n_id3_id2, errC, eEnd, resT, resE, tyV_def]
    repeat (first | exact AS.le_refl _ | refine AS.le_set ?_ (by assumption))
  | ok y =>
    obtain ⟨t, a⟩ := y
    have ha := eTy_le hT
    have ht1 := fun σ h => RD.ok (ht σ h) hT
    simp only [tyV_def] at ht1
    by_cases hlt : a < b.length
    · have he := fun σ h => end_bad id b a nl σ h hl hlt
      simp only [rdV] at he
      repeat (first
        | (with_reducible first | apply AWp.seq | apply AWp.block | refine And.intro (by first | omega | assumption | decide) ?_)
        | ((first | (with_reducible first | apply AWp.fork | apply AWp.region | show condK _ _ _ | show guardK _ _ _ _ _ _ _ _ _) | ((with_reducible apply aCall.id); first | apply aCall.gives (ht1 _ (by simp [n_id_id5])) | apply (thr_ (he _ (by simp [n_id_id5]))))); simp -implicitDefEqProofs [n_id3_id2, n_id2_id3, n_id_id3, n_id_id2, n_id3_id, n_id2_id, n_id5_id, n_id_id5, n_id5_id3, n_id3_id5, n_id5_id2, n_id2_id5])
        | ((with_reducible first | apply AWp.ret | apply AWp.skip | apply AWp.exit); try simp -implicitDefEqProofs [n_id3_id2, n_id2_id3, n_id_id3, n_id_id2, n_id3_id, n_id2_id, n_id5_id, n_id_id5, n_id5_id3, n_id3_id5, n_id5_id2, n_id2_id5]))
      intro x
      refine get1_some id2 id3 2 (.sc (.int .i64 t.kind)) (.sc (.int .i64 t.index)) (.sc (.int .i64 t.dims)) (.sc (.bool t.ref)) (.sc (.int .i64 0)) _ _ (by simp [n_id2_id5, n_id2_id, n_id2_id3]) (by simp [n_id3_id5, n_id3_id, n_id3_id2]) n_id2_id3 ?_
      simp -implicitDefEqProofs [n_id2_id, n_id3_id, n_id2_id5, n_id3_id5, n_id_id5, n_id5_id, n_id2_id3, n_id3_id2, errC, eEnd, hlt, resT, resE, tyV_def]
      repeat (first | exact AS.le_refl _ | refine AS.le_set ?_ (by assumption))
    · have he := fun σ h => end_ok id b a nl σ h ha hl (by omega)
      simp only [rdV] at he
      repeat (first
        | (with_reducible first | apply AWp.seq | apply AWp.block | refine And.intro (by first | omega | assumption | decide) ?_)
        | ((first | (with_reducible first | apply AWp.fork | apply AWp.region | show condK _ _ _ | show guardK _ _ _ _ _ _ _ _ _) | ((with_reducible apply aCall.id); first | apply aCall.gives (ht1 _ (by simp [n_id_id5])) | apply aCall.gives (he _ (by simp [n_id_id5])))); simp -implicitDefEqProofs [n_id3_id2, n_id2_id3, n_id_id3, n_id_id2, n_id3_id, n_id2_id, n_id5_id, n_id_id5, n_id5_id3, n_id3_id5, n_id5_id2, n_id2_id5])
        | ((with_reducible first | apply AWp.ret | apply AWp.skip | apply AWp.exit); try simp -implicitDefEqProofs [n_id3_id2, n_id2_id3, n_id_id3, n_id_id2, n_id3_id, n_id2_id, n_id5_id, n_id_id5, n_id5_id3, n_id3_id5, n_id5_id2, n_id2_id5]))
      refine get1_none id2 id3 _ _ ?_
      simp -implicitDefEqProofs [n_id2_id, n_id3_id, n_id2_id5, n_id3_id5, n_id_id5, n_id5_id, n_id2_id3, n_id3_id2, n_id2_id5, n_id3_id5, errC, eEnd, hlt, resT, resE, tyV_def]
      repeat (first | exact AS.le_refl _ | refine AS.le_set ?_ (by assumption))

theorem fldS_nil : fldS [] = .error 1 := rfl
theorem getField_ok (b : List UInt8) (o : Own) (nl : Bool) (hnl : nl = true → b = []) (hl : b.length ≤ 100000) (σ : AS) :
    ACalls Try.prog 26 [.lst 5 (b.map u8) o nl] σ (Gives (.tup [tyV (resT (fldS b)), .sc (.int .i64 (resE (fldS b)))]) σ) No := by
  refine ACalls.of_body Try.func26 rfl rfl (by simp [Try.ntmps26]) ?_
  cases b with
  | nil =>
    repeat (first
      | (with_reducible first | apply AWp.seq | apply AWp.block | refine And.intro (by first | omega | assumption | decide) ?_)
      | ((first | (with_reducible first | apply AWp.fork | apply AWp.region)); simp -implicitDefEqProofs)
      | ((with_reducible first | apply AWp.ret | apply AWp.skip | apply AWp.exit); try simp -implicitDefEqProofs))
    intro id h_id
    repeat (first
      | (with_reducible first | apply AWp.seq | apply AWp.block | refine And.intro (by first | omega | assumption | decide) ?_)
      | ((first | (with_reducible first | apply AWp.fork | apply AWp.region)); simp -implicitDefEqProofs)
      | ((with_reducible first | apply AWp.ret | apply AWp.skip | apply AWp.exit); try simp -implicitDefEqProofs))
    simp [fldS, resT, resE, tyV_def]
    exact le_new h_id (AS.le_refl _)
  | cons c r =>
    have hz := u8_eq (c := c) (n := 6) (by omega)
    have hrl : ((r.length : Int) + 1 = 0) = False := eq_false (by omega)
    by_cases h6 : c = 6
    · have z : ((c.toNat : Int) = 6) = True := hz.trans (eq_true h6)
      have hg := fun o nl hn σ => get_ok r o nl hn (by simp at hl; omega) σ
      have hF : fldS (c :: r) = match getS r with | .error e => .error e | .ok t => if fieldT' t = true then .ok t else .error 10 := by subst h6; simp only [fldS, if_true]; cases getS r <;> rfl
      rw [hF]
      have hge := @getS_err r
      have htk : List.take r.length (List.map u8 r) = List.map u8 r := List.take_of_length_le (by simp)
      generalize getS r = g at *
      have hn0 : nl = false := by cases nl with | false => rfl | true => have := hnl rfl; cases this
      subst hn0
      cases g with
      | error e =>
        have he0 : ¬ e = 0 := hge rfl
        simp only [resT, resE, tyV_def] at hg ⊢
        repeat (first
          | (with_reducible first | apply AWp.seq | apply AWp.block | refine And.intro (by first | omega | assumption | decide) ?_)
          | ((first | (with_reducible first | apply AWp.fork | apply AWp.region | show condK _ _ _ | show guardK _ _ _ _ _ _ _ _ _)); simp -implicitDefEqProofs [z, hrl])
          | ((with_reducible first | apply AWp.ret | apply AWp.skip | apply AWp.exit); try simp -implicitDefEqProofs [z, hrl]))
        intro id h_id
        repeat (first
          | (with_reducible first | apply AWp.seq | apply AWp.block | refine And.intro (by first | omega | assumption | decide) ?_)
          | ((first | (with_reducible first | apply AWp.fork | apply AWp.region | show condK _ _ _ | show guardK _ _ _ _ _ _ _ _ _) | ((with_reducible apply aCall.id); first | apply aCall.gives (hg _ _ (by simp) _))); simp -implicitDefEqProofs [z, hrl, htk])
          | ((with_reducible first | apply AWp.ret | apply AWp.skip | apply AWp.exit); try simp -implicitDefEqProofs [z, hrl, htk]))
        intro id4 n_id4_id h_id4
        have n_id_id4 : ¬ id = id4 := fun e => n_id4_id e.symm
        repeat (first
          | (with_reducible first | apply AWp.seq | apply AWp.block | refine And.intro (by first | omega | assumption | decide) ?_)
          | ((first | (with_reducible first | apply AWp.fork | apply AWp.region | show condK _ _ _ | show guardK _ _ _ _ _ _ _ _ _)); simp -implicitDefEqProofs [he0, n_id4_id, n_id_id4])
          | ((with_reducible first | apply AWp.ret | apply AWp.skip | apply AWp.exit); try simp -implicitDefEqProofs [he0, n_id4_id, n_id_id4]))
        intro j_ y_ hy_
        by_cases e_id : j_ = id
        · subst e_id; simp [AS.set, h_id, h_id4, n_id4_id, n_id_id4] at hy_ ⊢; try first | exact hy_ | (cases hy_; done)
        by_cases e_id4 : j_ = id4
        · subst e_id4; simp [AS.set, h_id, h_id4, n_id4_id, n_id_id4] at hy_ ⊢; try first | exact hy_ | (cases hy_; done)
        simp [AS.set, h_id, h_id4, n_id4_id, n_id_id4, e_id, e_id4] at hy_ ⊢; try exact hy_
      | ok t =>
        have hk := fun σ => kfield_ok t σ
        simp only [resT, resE, tyV_def] at hg hk ⊢
        cases hf : fieldT' t
        all_goals
          rw [hf] at hk
          repeat (first
            | (with_reducible first | apply AWp.seq | apply AWp.block | refine And.intro (by first | omega | assumption | decide) ?_)
            | ((first | (with_reducible first | apply AWp.fork | apply AWp.region | show condK _ _ _ | show guardK _ _ _ _ _ _ _ _ _)); simp -implicitDefEqProofs [z, hrl])
            | ((with_reducible first | apply AWp.ret | apply AWp.skip | apply AWp.exit); try simp -implicitDefEqProofs [z, hrl]))
          intro id h_id
          repeat (first
            | (with_reducible first | apply AWp.seq | apply AWp.block | refine And.intro (by first | omega | assumption | decide) ?_)
            | ((first | (with_reducible first | apply AWp.fork | apply AWp.region | show condK _ _ _ | show guardK _ _ _ _ _ _ _ _ _) | ((with_reducible apply aCall.id); first | apply aCall.gives (hg _ _ (by simp) _))); simp -implicitDefEqProofs [z, hrl, htk])
            | ((with_reducible first | apply AWp.ret | apply AWp.skip | apply AWp.exit); try simp -implicitDefEqProofs [z, hrl, htk]))
          intro id4 n_id4_id h_id4
          have n_id_id4 : ¬ id = id4 := fun e => n_id4_id e.symm
          repeat (first
            | (with_reducible first | apply AWp.seq | apply AWp.block | refine And.intro (by first | omega | assumption | decide) ?_)
            | ((first | (with_reducible first | apply AWp.fork | apply AWp.region | show condK _ _ _ | show guardK _ _ _ _ _ _ _ _ _) | ((with_reducible apply aCall.id); first | apply aCall.gives (hk _))); simp -implicitDefEqProofs [n_id4_id, n_id_id4])
            | ((with_reducible first | apply AWp.ret | apply AWp.skip | apply AWp.exit); try simp -implicitDefEqProofs [n_id4_id, n_id_id4]))
          intro j_ y_ hy_
          by_cases e_id : j_ = id
          · subst e_id; simp [AS.set, h_id, h_id4, n_id4_id, n_id_id4] at hy_ ⊢; try first | exact hy_ | (cases hy_; done)
          by_cases e_id4 : j_ = id4
          · subst e_id4; simp [AS.set, h_id, h_id4, n_id4_id, n_id_id4] at hy_ ⊢; try first | exact hy_ | (cases hy_; done)
          simp [AS.set, h_id, h_id4, n_id4_id, n_id_id4, e_id, e_id4] at hy_ ⊢; try exact hy_
    · have z : ((c.toNat : Int) = 6) = False := hz.trans (eq_false h6)
      have hF : fldS (c :: r) = .error 2 := by simp only [fldS, h6, if_false]
      rw [hF]
      repeat (first
        | (with_reducible first | apply AWp.seq | apply AWp.block | refine And.intro (by first | omega | assumption | decide) ?_)
        | ((first | (with_reducible first | apply AWp.fork | apply AWp.region | show condK _ _ _ | show guardK _ _ _ _ _ _ _ _ _)); simp -implicitDefEqProofs [z, hrl])
        | ((with_reducible first | apply AWp.ret | apply AWp.skip | apply AWp.exit); try simp -implicitDefEqProofs [z, hrl]))
      intro id h_id
      repeat (first
        | (with_reducible first | apply AWp.seq | apply AWp.block | refine And.intro (by first | omega | assumption | decide) ?_)
        | ((first | (with_reducible first | apply AWp.fork | apply AWp.region | show condK _ _ _ | show guardK _ _ _ _ _ _ _ _ _)); simp -implicitDefEqProofs [z, hrl])
        | ((with_reducible first | apply AWp.ret | apply AWp.skip | apply AWp.exit); try simp -implicitDefEqProofs [z, hrl]))
      simp [resT, resE, tyV_def]
      exact le_new h_id (AS.le_refl _)

end Sg
end Go.Proofs.Ytplphldpkliakaa
