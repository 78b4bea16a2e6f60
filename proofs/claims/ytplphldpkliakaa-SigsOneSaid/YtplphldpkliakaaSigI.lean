/- The document: Sig, Locals. -/
import Derived.Test.YtplphldpkliakaaSigH
set_option linter.unusedSimpArgs false
set_option linter.unusedVariables false
set_option maxRecDepth 100000
set_option maxHeartbeats 3200000
namespace Go.Proofs.Ytplphldpkliakaa
namespace Sg
open Go Go.AW
abbrev sc_34_13_XSigI : Sch := (Sch.step 0 (Sch.step 2 (Sch.read 1 (Sch.step 4 (Sch.read 3 (Sch.step 5 Sch.done))))))

theorem tyL_def (l : List Ty) : tyL l = .lst 24 (l.map tyV) .unk (decide (l = [])) := rfl
theorem eEnd_ok {α : Type} (b : List UInt8) (v : α) (a : Nat) : eEnd b (.ok (v, a)) = if a < b.length then .error 2 else .ok v := rfl
theorem eEnd_err {α : Type} (b : List UInt8) (e : Int) : eEnd (α := α) b (.error e) = .error e := rfl

theorem rlocals_ok (b : List UInt8) (o : Own) (nl : Bool) (hl : b.length ≤ 100000) (σ : AS) :
    ACalls Try.prog 34 [.lst 5 (b.map u8) o nl] σ (Gives (.tup [tyL (resL (locS b)), .sc (.int .i64 (resE (locS b)))]) σ) No := by
  cases b with
  | nil =>
    rw [show locS [] = .error 1 from rfl]
    simp only [resL, resE]
    refine ACalls.of_body Try.func34 rfl rfl (by simp [Try.ntmps34]) ?_
    repeat (first
      | (with_reducible first | apply AWp.seq | apply AWp.block | refine And.intro (by first | omega | assumption | decide) ?_)
      | ((first | (with_reducible first | apply AWp.fork | apply AWp.region) | ((with_reducible apply AWp.drawS (id := 7) (t := (Sch.step 0 (Sch.step 2 (Sch.read 1 (Sch.step 3 Sch.done)))))); (exact mixed); kernel_rfl; kernel_rfl; (repeat (with_reducible first | apply PanQ.then | apply PanQ.block | apply PanQ.body | apply PanQ.no))) | ((with_reducible apply AWp.drawS (id := 13) (t := sc_34_13_XSigI)); (exact mixed); kernel_rfl; kernel_rfl; (repeat (with_reducible first | apply PanQ.then | apply PanQ.block | apply PanQ.body | apply PanQ.no)))); simp -implicitDefEqProofs)
      | ((with_reducible first | apply AWp.ret | apply AWp.skip | apply AWp.exit); try simp -implicitDefEqProofs))
    exact Wk_tup2 Wk_nilT (Wk.refl _)
  | cons c r =>
    have hz := u8_eq (c := c) (n := 7) (by omega)
    have hrl : ((r.length : Int) + 1 = 0) = False := eq_false (by omega)
    have hB : eB (c :: r) 0 = .ok (c, 1) := by simp [eB]
    by_cases h7 : c = 7
    · have z : ((c.toNat : Int) = 7) = True := hz.trans (eq_true h7)
      obtain ⟨⟨x, n, e⟩, hu⟩ : ∃ t, upk ((c :: r).drop 1) = t := ⟨_, rfl⟩
      have hp := fun σ => runpack_ok (c :: r) o nl 1 (by omega) (by omega) (by omega) x n e (by simpa using hu) σ
      have hE := ePk_upk hu
      by_cases he : e = 0
      · subst he
        rw [if_pos rfl] at hE
        obtain ⟨h1, h2, h3, h4, h5, h6⟩ := upk_one _ _ _ hu
        obtain ⟨m, rfl⟩ : ∃ m : Nat, n = m := ⟨n.toNat, by omega⟩
        obtain ⟨xn, rfl⟩ : ∃ m : Nat, x = m := ⟨x.toNat, by omega⟩
        simp only [Int.toNat_natCast] at hE
        have h5' : m ≤ r.length := by simp at h5; omega
        have hw : IntKind.i64.wrap (1 + (m : Int)) = 1 + (m : Int) := in_i64 (by omega) (by simp at hl; omega)
        by_cases h12 : (xn : Int) ≤ 12
        · have h12' : ((12 : Int) < xn) = False := eq_false (by omega)
          have hL : eLoc (c :: r) = eList (c :: r) xn (1 + m) := by
            unfold eLoc; rw [hB]; simp only [h7, if_true]; rw [← h7, hE]; simp only [h12, if_true, Int.toNat_natCast]
          have ht := fun σ => rtypes_ok xn (by omega) (c :: r) (1 + m) o nl σ (by simp; omega) hl
          simp only [Int.natCast_add, Int.natCast_one] at ht
          unfold locS
          rw [hL]
          cases hX : eList (c :: r) xn (1 + m) with
          | error e =>
            have he := eList_err _ _ hX
            rw [hX, lsV_err] at ht
            rw [eEnd_err]
            simp only [resL, resE]
            refine ACalls.of_body Try.func34 rfl rfl (by simp [Try.ntmps34]) ?_
            repeat (first
              | (with_reducible first | apply AWp.seq | apply AWp.block | refine And.intro (by first | omega | assumption | decide) ?_)
              | ((first | (with_reducible first | apply AWp.fork | apply AWp.region | show condK _ _ _ | show guardK _ _ _ _ _ _ _ _ _) | ((with_reducible apply AWp.drawS (id := 7) (t := (Sch.step 0 (Sch.step 2 (Sch.read 1 (Sch.step 3 Sch.done)))))); (exact mixed); kernel_rfl; kernel_rfl; (repeat (with_reducible first | apply PanQ.then | apply PanQ.block | apply PanQ.body | apply PanQ.no))) | ((with_reducible apply AWp.drawS (id := 13) (t := sc_34_13_XSigI)); (exact mixed); kernel_rfl; kernel_rfl; (repeat (with_reducible first | apply PanQ.then | apply PanQ.block | apply PanQ.body | apply PanQ.no))) | ((with_reducible apply aCall.id); first | apply aCall.gives (hp _) | apply aCall.gives (ht _))); simp -implicitDefEqProofs [z, hrl, hw, h12'])
              | ((with_reducible first | apply AWp.ret | apply AWp.skip | apply AWp.exit); try simp -implicitDefEqProofs [z, hrl, hw, h12']))
            intro id4 h_id4
            repeat (first
              | (with_reducible first | apply AWp.seq | apply AWp.block | refine And.intro (by first | omega | assumption | decide) ?_)
              | ((first | (with_reducible first | apply AWp.fork | apply AWp.region | show condK _ _ _ | show guardK _ _ _ _ _ _ _ _ _) | ((with_reducible apply AWp.drawS (id := 7) (t := (Sch.step 0 (Sch.step 2 (Sch.read 1 (Sch.step 3 Sch.done)))))); (exact mixed); kernel_rfl; kernel_rfl; (repeat (with_reducible first | apply PanQ.then | apply PanQ.block | apply PanQ.body | apply PanQ.no))) | ((with_reducible apply AWp.drawS (id := 13) (t := sc_34_13_XSigI)); (exact mixed); kernel_rfl; kernel_rfl; (repeat (with_reducible first | apply PanQ.then | apply PanQ.block | apply PanQ.body | apply PanQ.no))) | ((with_reducible apply aCall.id); first | apply aCall.gives (hp _) | apply aCall.gives (ht _))); simp -implicitDefEqProofs [z, hrl, hw, h12'])
              | ((with_reducible first | apply AWp.ret | apply AWp.skip | apply AWp.exit); try simp -implicitDefEqProofs [z, hrl, hw, h12']))
            intro id5 n_id5_id4 h_id5
            have n_id4_id5 : ¬ id4 = id5 := fun e => n_id5_id4 e.symm
            repeat (first
              | (with_reducible first | apply AWp.seq | apply AWp.block | refine And.intro (by first | omega | assumption | decide) ?_)
              | ((first | (with_reducible first | apply AWp.fork | apply AWp.region | show condK _ _ _ | show guardK _ _ _ _ _ _ _ _ _) | ((with_reducible apply AWp.drawS (id := 7) (t := (Sch.step 0 (Sch.step 2 (Sch.read 1 (Sch.step 3 Sch.done)))))); (exact mixed); kernel_rfl; kernel_rfl; (repeat (with_reducible first | apply PanQ.then | apply PanQ.block | apply PanQ.body | apply PanQ.no))) | ((with_reducible apply AWp.drawS (id := 13) (t := sc_34_13_XSigI)); (exact mixed); kernel_rfl; kernel_rfl; (repeat (with_reducible first | apply PanQ.then | apply PanQ.block | apply PanQ.body | apply PanQ.no)))); simp -implicitDefEqProofs [he, n_id5_id4, n_id4_id5])
              | ((with_reducible first | apply AWp.ret | apply AWp.skip | apply AWp.exit); try simp -implicitDefEqProofs [he, n_id5_id4, n_id4_id5]))
            exact AS.le_set (AS.le_set (AS.le_refl _) h_id4) (by simp [*])
          | ok y =>
            obtain ⟨l, a⟩ := y
            rw [hX, lsV_ok, tyL_def] at ht
            rw [eEnd_ok]
            by_cases hlt : a < (c :: r).length
            · rw [if_pos hlt]
              simp only [resL, resE]
              have hlt' : ((a : Int) < r.length + 1) = True := eq_true (by simp at hlt; omega)
              refine ACalls.of_body Try.func34 rfl rfl (by simp [Try.ntmps34]) ?_
              repeat (first
                | (with_reducible first | apply AWp.seq | apply AWp.block | refine And.intro (by first | omega | assumption | decide) ?_)
                | ((first | (with_reducible first | apply AWp.fork | apply AWp.region | show condK _ _ _ | show guardK _ _ _ _ _ _ _ _ _) | ((with_reducible apply AWp.drawS (id := 7) (t := (Sch.step 0 (Sch.step 2 (Sch.read 1 (Sch.step 3 Sch.done)))))); (exact mixed); kernel_rfl; kernel_rfl; (repeat (with_reducible first | apply PanQ.then | apply PanQ.block | apply PanQ.body | apply PanQ.no))) | ((with_reducible apply AWp.drawS (id := 13) (t := sc_34_13_XSigI)); (exact mixed); kernel_rfl; kernel_rfl; (repeat (with_reducible first | apply PanQ.then | apply PanQ.block | apply PanQ.body | apply PanQ.no))) | ((with_reducible apply aCall.id); first | apply aCall.gives (hp _) | apply aCall.gives (ht _))); simp -implicitDefEqProofs [z, hrl, hw, h12'])
                | ((with_reducible first | apply AWp.ret | apply AWp.skip | apply AWp.exit); try simp -implicitDefEqProofs [z, hrl, hw, h12']))
              intro id4 h_id4
              repeat (first
                | (with_reducible first | apply AWp.seq | apply AWp.block | refine And.intro (by first | omega | assumption | decide) ?_)
                | ((first | (with_reducible first | apply AWp.fork | apply AWp.region | show condK _ _ _ | show guardK _ _ _ _ _ _ _ _ _) | ((with_reducible apply AWp.drawS (id := 7) (t := (Sch.step 0 (Sch.step 2 (Sch.read 1 (Sch.step 3 Sch.done)))))); (exact mixed); kernel_rfl; kernel_rfl; (repeat (with_reducible first | apply PanQ.then | apply PanQ.block | apply PanQ.body | apply PanQ.no))) | ((with_reducible apply AWp.drawS (id := 13) (t := sc_34_13_XSigI)); (exact mixed); kernel_rfl; kernel_rfl; (repeat (with_reducible first | apply PanQ.then | apply PanQ.block | apply PanQ.body | apply PanQ.no))) | ((with_reducible apply aCall.id); first | apply aCall.gives (hp _) | apply aCall.gives (ht _))); simp -implicitDefEqProofs [z, hrl, hw, h12'])
                | ((with_reducible first | apply AWp.ret | apply AWp.skip | apply AWp.exit); try simp -implicitDefEqProofs [z, hrl, hw, h12']))
              intro id5 n_id5_id4 h_id5
              have n_id4_id5 : ¬ id4 = id5 := fun e => n_id5_id4 e.symm
              repeat (first
                | (with_reducible first | apply AWp.seq | apply AWp.block | refine And.intro (by first | omega | assumption | decide) ?_)
                | ((first | (with_reducible first | apply AWp.fork | apply AWp.region | show condK _ _ _ | show guardK _ _ _ _ _ _ _ _ _) | ((with_reducible apply AWp.drawS (id := 7) (t := (Sch.step 0 (Sch.step 2 (Sch.read 1 (Sch.step 3 Sch.done)))))); (exact mixed); kernel_rfl; kernel_rfl; (repeat (with_reducible first | apply PanQ.then | apply PanQ.block | apply PanQ.body | apply PanQ.no))) | ((with_reducible apply AWp.drawS (id := 13) (t := sc_34_13_XSigI)); (exact mixed); kernel_rfl; kernel_rfl; (repeat (with_reducible first | apply PanQ.then | apply PanQ.block | apply PanQ.body | apply PanQ.no)))); simp -implicitDefEqProofs [hlt', n_id5_id4, n_id4_id5])
                | ((with_reducible first | apply AWp.ret | apply AWp.skip | apply AWp.exit); try simp -implicitDefEqProofs [hlt', n_id5_id4, n_id4_id5]))
              exact ⟨Wk_tup2 Wk_nilT (Wk.refl _), AS.le_set (AS.le_set (AS.le_refl _) h_id4) (by simp [*])⟩
            · rw [if_neg hlt]
              simp only [resL, resE]
              have hlt' : ((a : Int) < r.length + 1) = False := eq_false (by simp at hlt; omega)
              refine ACalls.of_body Try.func34 rfl rfl (by simp [Try.ntmps34]) ?_
              repeat (first
                | (with_reducible first | apply AWp.seq | apply AWp.block | refine And.intro (by first | omega | assumption | decide) ?_)
                | ((first | (with_reducible first | apply AWp.fork | apply AWp.region | show condK _ _ _ | show guardK _ _ _ _ _ _ _ _ _) | ((with_reducible apply AWp.drawS (id := 7) (t := (Sch.step 0 (Sch.step 2 (Sch.read 1 (Sch.step 3 Sch.done)))))); (exact mixed); kernel_rfl; kernel_rfl; (repeat (with_reducible first | apply PanQ.then | apply PanQ.block | apply PanQ.body | apply PanQ.no))) | ((with_reducible apply AWp.drawS (id := 13) (t := sc_34_13_XSigI)); (exact mixed); kernel_rfl; kernel_rfl; (repeat (with_reducible first | apply PanQ.then | apply PanQ.block | apply PanQ.body | apply PanQ.no))) | ((with_reducible apply aCall.id); first | apply aCall.gives (hp _) | apply aCall.gives (ht _))); simp -implicitDefEqProofs [z, hrl, hw, h12'])
                | ((with_reducible first | apply AWp.ret | apply AWp.skip | apply AWp.exit); try simp -implicitDefEqProofs [z, hrl, hw, h12']))
              intro id4 h_id4
              repeat (first
                | (with_reducible first | apply AWp.seq | apply AWp.block | refine And.intro (by first | omega | assumption | decide) ?_)
                | ((first | (with_reducible first | apply AWp.fork | apply AWp.region | show condK _ _ _ | show guardK _ _ _ _ _ _ _ _ _) | ((with_reducible apply AWp.drawS (id := 7) (t := (Sch.step 0 (Sch.step 2 (Sch.read 1 (Sch.step 3 Sch.done)))))); (exact mixed); kernel_rfl; kernel_rfl; (repeat (with_reducible first | apply PanQ.then | apply PanQ.block | apply PanQ.body | apply PanQ.no))) | ((with_reducible apply AWp.drawS (id := 13) (t := sc_34_13_XSigI)); (exact mixed); kernel_rfl; kernel_rfl; (repeat (with_reducible first | apply PanQ.then | apply PanQ.block | apply PanQ.body | apply PanQ.no))) | ((with_reducible apply aCall.id); first | apply aCall.gives (hp _) | apply aCall.gives (ht _))); simp -implicitDefEqProofs [z, hrl, hw, h12'])
                | ((with_reducible first | apply AWp.ret | apply AWp.skip | apply AWp.exit); try simp -implicitDefEqProofs [z, hrl, hw, h12']))
              intro id5 n_id5_id4 h_id5
              have n_id4_id5 : ¬ id4 = id5 := fun e => n_id5_id4 e.symm
              repeat (first
                | (with_reducible first | apply AWp.seq | apply AWp.block | refine And.intro (by first | omega | assumption | decide) ?_)
                | ((first | (with_reducible first | apply AWp.fork | apply AWp.region | show condK _ _ _ | show guardK _ _ _ _ _ _ _ _ _) | ((with_reducible apply AWp.drawS (id := 7) (t := (Sch.step 0 (Sch.step 2 (Sch.read 1 (Sch.step 3 Sch.done)))))); (exact mixed); kernel_rfl; kernel_rfl; (repeat (with_reducible first | apply PanQ.then | apply PanQ.block | apply PanQ.body | apply PanQ.no))) | ((with_reducible apply AWp.drawS (id := 13) (t := sc_34_13_XSigI)); (exact mixed); kernel_rfl; kernel_rfl; (repeat (with_reducible first | apply PanQ.then | apply PanQ.block | apply PanQ.body | apply PanQ.no)))); simp -implicitDefEqProofs [hlt', n_id5_id4, n_id4_id5])
                | ((with_reducible first | apply AWp.ret | apply AWp.skip | apply AWp.exit); try simp -implicitDefEqProofs [hlt', n_id5_id4, n_id4_id5]))
              exact ⟨Wk.refl _, AS.le_set (AS.le_set (AS.le_refl _) h_id4) (by simp [*])⟩
        · have h12' : ((12 : Int) < xn) = True := eq_true (by omega)
          have hL : locS (c :: r) = .error 4 := by
            unfold locS eLoc; rw [hB]; simp only [h7, if_true]; rw [← h7, hE]; simp only [h12, if_false]; rfl
          rw [hL]
          simp only [resL, resE]
          refine ACalls.of_body Try.func34 rfl rfl (by simp [Try.ntmps34]) ?_
          repeat (first
            | (with_reducible first | apply AWp.seq | apply AWp.block | refine And.intro (by first | omega | assumption | decide) ?_)
            | ((first | (with_reducible first | apply AWp.fork | apply AWp.region | show condK _ _ _ | show guardK _ _ _ _ _ _ _ _ _) | ((with_reducible apply AWp.drawS (id := 7) (t := (Sch.step 0 (Sch.step 2 (Sch.read 1 (Sch.step 3 Sch.done)))))); (exact mixed); kernel_rfl; kernel_rfl; (repeat (with_reducible first | apply PanQ.then | apply PanQ.block | apply PanQ.body | apply PanQ.no))) | ((with_reducible apply AWp.drawS (id := 13) (t := sc_34_13_XSigI)); (exact mixed); kernel_rfl; kernel_rfl; (repeat (with_reducible first | apply PanQ.then | apply PanQ.block | apply PanQ.body | apply PanQ.no))) | ((with_reducible apply aCall.id); first | apply aCall.gives (hp _))); simp -implicitDefEqProofs [z, hrl, hw, h12'])
            | ((with_reducible first | apply AWp.ret | apply AWp.skip | apply AWp.exit); try simp -implicitDefEqProofs [z, hrl, hw, h12']))
          intro id4 h_id4
          repeat (first
            | (with_reducible first | apply AWp.seq | apply AWp.block | refine And.intro (by first | omega | assumption | decide) ?_)
            | ((first | (with_reducible first | apply AWp.fork | apply AWp.region | show condK _ _ _ | show guardK _ _ _ _ _ _ _ _ _) | ((with_reducible apply AWp.drawS (id := 7) (t := (Sch.step 0 (Sch.step 2 (Sch.read 1 (Sch.step 3 Sch.done)))))); (exact mixed); kernel_rfl; kernel_rfl; (repeat (with_reducible first | apply PanQ.then | apply PanQ.block | apply PanQ.body | apply PanQ.no))) | ((with_reducible apply AWp.drawS (id := 13) (t := sc_34_13_XSigI)); (exact mixed); kernel_rfl; kernel_rfl; (repeat (with_reducible first | apply PanQ.then | apply PanQ.block | apply PanQ.body | apply PanQ.no))) | ((with_reducible apply aCall.id); first | apply aCall.gives (hp _))); simp -implicitDefEqProofs [z, hrl, hw, h12'])
            | ((with_reducible first | apply AWp.ret | apply AWp.skip | apply AWp.exit); try simp -implicitDefEqProofs [z, hrl, hw, h12']))
          exact ⟨Wk_tup2 Wk_nilT (Wk.refl _), AS.le_set (AS.le_refl _) h_id4⟩
      · rw [if_neg he] at hE
        have hL : locS (c :: r) = .error e := by
          unfold locS eLoc; rw [hB]; simp only [h7, if_true]; rw [← h7, hE]; rfl
        rw [hL]
        simp only [resL, resE]
        refine ACalls.of_body Try.func34 rfl rfl (by simp [Try.ntmps34]) ?_
        repeat (first
          | (with_reducible first | apply AWp.seq | apply AWp.block | refine And.intro (by first | omega | assumption | decide) ?_)
          | ((first | (with_reducible first | apply AWp.fork | apply AWp.region | show condK _ _ _ | show guardK _ _ _ _ _ _ _ _ _) | ((with_reducible apply AWp.drawS (id := 7) (t := (Sch.step 0 (Sch.step 2 (Sch.read 1 (Sch.step 3 Sch.done)))))); (exact mixed); kernel_rfl; kernel_rfl; (repeat (with_reducible first | apply PanQ.then | apply PanQ.block | apply PanQ.body | apply PanQ.no))) | ((with_reducible apply AWp.drawS (id := 13) (t := sc_34_13_XSigI)); (exact mixed); kernel_rfl; kernel_rfl; (repeat (with_reducible first | apply PanQ.then | apply PanQ.block | apply PanQ.body | apply PanQ.no))) | ((with_reducible apply aCall.id); first | apply aCall.gives (hp _))); simp -implicitDefEqProofs [z, hrl])
          | ((with_reducible first | apply AWp.ret | apply AWp.skip | apply AWp.exit); try simp -implicitDefEqProofs [z, hrl]))
        intro id4 h_id4
        repeat (first
          | (with_reducible first | apply AWp.seq | apply AWp.block | refine And.intro (by first | omega | assumption | decide) ?_)
          | ((first | (with_reducible first | apply AWp.fork | apply AWp.region | show condK _ _ _ | show guardK _ _ _ _ _ _ _ _ _) | ((with_reducible apply AWp.drawS (id := 7) (t := (Sch.step 0 (Sch.step 2 (Sch.read 1 (Sch.step 3 Sch.done)))))); (exact mixed); kernel_rfl; kernel_rfl; (repeat (with_reducible first | apply PanQ.then | apply PanQ.block | apply PanQ.body | apply PanQ.no))) | ((with_reducible apply AWp.drawS (id := 13) (t := sc_34_13_XSigI)); (exact mixed); kernel_rfl; kernel_rfl; (repeat (with_reducible first | apply PanQ.then | apply PanQ.block | apply PanQ.body | apply PanQ.no))) | ((with_reducible apply aCall.id); first | apply aCall.gives (hp _))); simp -implicitDefEqProofs [z, hrl, he])
          | ((with_reducible first | apply AWp.ret | apply AWp.skip | apply AWp.exit); try simp -implicitDefEqProofs [z, hrl, he]))
        exact ⟨Wk_tup2 Wk_nilT (Wk.refl _), AS.le_set (AS.le_refl _) h_id4⟩
    · have z : ((c.toNat : Int) = 7) = False := hz.trans (eq_false h7)
      have hL : locS (c :: r) = .error 2 := by
        unfold locS eLoc; rw [hB]; simp only [h7, if_false]; rfl
      rw [hL]
      simp only [resL, resE]
      refine ACalls.of_body Try.func34 rfl rfl (by simp [Try.ntmps34]) ?_
      repeat (first
        | (with_reducible first | apply AWp.seq | apply AWp.block | refine And.intro (by first | omega | assumption | decide) ?_)
        | ((first | (with_reducible first | apply AWp.fork | apply AWp.region | show condK _ _ _ | show guardK _ _ _ _ _ _ _ _ _) | ((with_reducible apply AWp.drawS (id := 7) (t := (Sch.step 0 (Sch.step 2 (Sch.read 1 (Sch.step 3 Sch.done)))))); (exact mixed); kernel_rfl; kernel_rfl; (repeat (with_reducible first | apply PanQ.then | apply PanQ.block | apply PanQ.body | apply PanQ.no))) | ((with_reducible apply AWp.drawS (id := 13) (t := sc_34_13_XSigI)); (exact mixed); kernel_rfl; kernel_rfl; (repeat (with_reducible first | apply PanQ.then | apply PanQ.block | apply PanQ.body | apply PanQ.no)))); simp -implicitDefEqProofs [z, hrl])
        | ((with_reducible first | apply AWp.ret | apply AWp.skip | apply AWp.exit); try simp -implicitDefEqProofs [z, hrl]))
      exact Wk_tup2 Wk_nilT (Wk.refl _)

end Sg
end Go.Proofs.Ytplphldpkliakaa
