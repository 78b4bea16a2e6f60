/- Chapter 08: Write of any right body; wakes; BodyWrites, BodyLength as walks. -/
import Derived.Test.YtnkjbgcbchbonaaBody4
set_option linter.unusedSimpArgs false
set_option linter.unusedVariables false
set_option maxRecDepth 100000
set_option maxHeartbeats 3200000
namespace Go.Proofs.Ytnkjbgcbchbonaa
open Go Go.AW

theorem write_ok (code : List UInt8) (cls : List R6) (o1 o2 : Own) (n1 n2 : Bool) (hr : rightB code cls = true) (σ : AS) :
    ACalls Try.prog 24 [bodyV code cls o1 o2 n1 n2] σ
      (Owns (fun tk => .tup [.lst 5 ((writeB code cls).map u8) (.tok tk) false, .sc (.int .i64 0)]) (writeB code cls).length σ) No := by
  by_cases hc : cls = []
  · subst hc
    by_cases hs : code.length < 64
    · exact write_small code o1 o2 n1 n2 hr hs σ
    · refine write_big code o1 o2 n1 n2 hr hs ?_ σ
      simp [rightB] at hr; omega
  · exact write_cls code cls o1 o2 n1 n2 hr hc σ

theorem rwrite_ok (code : List UInt8) (cls : List R6) (o1 o2 : Own) (n1 n2 : Bool) (hr : rightB code cls = true) (σ : AS) :
    ACalls Try.prog 25 [bodyV code cls o1 o2 n1 n2] σ
      (Owns (fun tk => .tup [.lst 5 ((writeB code cls).map u8) (.tok tk) false, .sc (.int .i64 0)]) (writeB code cls).length σ) No := by
  by_cases hc : cls = []
  · subst hc
    by_cases hs : code.length < 64
    · exact rwrite_small code o1 o2 n1 n2 hr hs σ
    · refine rwrite_big code o1 o2 n1 n2 hr hs ?_ σ
      simp [rightB] at hr; omega
  · exact rwrite_cls code cls o1 o2 n1 n2 hr hc σ

theorem writeB_len (code : List UInt8) (cls : List R6) : (writeB code cls).length =
    if cls = [] then (if code.length < 64 then code.length + 1 else code.length + 8) else (code.length + 11) / 4 * 4 + 4 + 12 * cls.length := by
  unfold writeB
  by_cases h : cls = []
  · simp only [h, if_true]
    by_cases h2 : code.length < 64
    · simp [h2]
    · simp [h2, headB, putB_length]; omega
  · simp only [h, if_false]
    have : (headB 11 code).length = code.length + 8 := by simp [headB, putB_length]; omega
    simp only [List.length_append, padL_len, encs_len, this]
    simp

theorem own : ownKnob Try.prog.godebug = none := by kernel_rfl
theorem laidOut : laidOutB Try.prog = true := by kernel_rfl

theorem bwakes_ok (σ : AS) : ACalls Try.prog 21 [] σ (Gives (.sc (.bool true)) σ) No := by
  have hw : ∀ σ, ACalls Try.prog 24 [.agg [.lst 5 [.sc (.int .u8 1)] .full false, .nilS]] σ
      (Owns (fun tk => .tup [.lst 5 [.sc (.int .u8 6), .sc (.int .u8 1)] (.tok tk) false, .sc (.int .i64 0)]) 2 σ) No :=
    fun σ => (write_ok [1] [] .full .unk false true (by decide) σ).wk _ rfl (fun i hi => by
      match i, hi with
      | 0, _ => exact Wk_agg2 (by simp) (by simp))
  refine ACalls.of_body Try.func21 rfl rfl (by simp [Try.ntmps21]) ?_
  repeat (first
    | (with_reducible apply AWp.seq)
    | (with_reducible apply AWp.block)
    | ((with_reducible apply AWp.fork); simp -implicitDefEqProofs)
    | ((with_reducible apply AWp.region); simp -implicitDefEqProofs)
    | (with_reducible refine And.intro (by first | omega | assumption | decide) ?_)
    | ((with_reducible apply aCall.id); first
        | ((apply aCall.owns (hw _)); simp -implicitDefEqProofs))
    | ((with_reducible apply AWp.ret); try simp -implicitDefEqProofs)
    | ((with_reducible apply AWp.skip); try simp -implicitDefEqProofs)
    | ((with_reducible apply AWp.exit); try simp -implicitDefEqProofs))
  intro tk h_tk
  have h61 : allU8 [.sc (.int .u8 6), .sc (.int .u8 1)] = some [6, 1] := by decide +kernel
  have hss : ((⟨[6, 1].toArray⟩ : ByteArray) == ⟨#[6, 1]⟩) = true := by decide +kernel
  repeat (first
    | (with_reducible apply AWp.seq)
    | (with_reducible apply AWp.block)
    | ((with_reducible apply AWp.fork); simp -implicitDefEqProofs [h61, hss])
    | ((with_reducible apply AWp.region); simp -implicitDefEqProofs [h61, hss])
    | (with_reducible refine And.intro (by first | omega | assumption | decide) ?_)
    | ((with_reducible show condK _ _ _); simp -implicitDefEqProofs [h61, hss])
    | ((with_reducible show guardK _ _ _ _ _ _ _ _ _); simp -implicitDefEqProofs [h61, hss])
    | ((with_reducible apply AWp.ret); try simp -implicitDefEqProofs [h61, hss])
    | ((with_reducible apply AWp.skip); try simp -implicitDefEqProofs [h61, hss])
    | ((with_reducible apply AWp.exit); try simp -implicitDefEqProofs [h61, hss]))
  all_goals first
    | exact AS.le_refl _
    | ((repeat (first | exact AS.le_refl _ | refine le_new (by simp [*]) ?_)); done)
    | (refine wk_eq ?_; simp_all [skipV]; done)
    | (refine wk_b ?_; rw [Bool.eq_iff_iff]; simp [*]; omega)
    | (refine wk_eq ?_; simp [*]; omega)
    | (exfalso; omega)

theorem bodyWrites_ok (code : List UInt8) (cls : List R6) (n1 n2 : Bool) (hn1 : n1 = true → code = []) (hn2 : n2 = true → cls = []) (hc : code.length ≤ 140737488355328) (hk : cls.length ≤ 140737488355328) :
    ACalls Try.prog 7 [bodyV code cls .unk .unk n1 n2] noAS IsTrue No := by
  have hl := fun σ => long_ok code cls .unk .unk n1 n2 hc hk σ
  refine ACalls.of_body Try.func7 rfl rfl (by simp [Try.ntmps7]) ?_
  simp only [bodyV] at hl ⊢
  by_cases hL : (decide (1000 < code.length) || decide (100 < cls.length)) = true
  · rw [hL] at hl
    repeat (first
      | (with_reducible apply AWp.seq)
      | (with_reducible apply AWp.block)
      | ((with_reducible apply AWp.fork); simp -implicitDefEqProofs)
      | ((with_reducible apply AWp.region); simp -implicitDefEqProofs)
      | (with_reducible refine And.intro (by first | omega | assumption | decide) ?_)
      | ((with_reducible apply AWp.ret); try simp -implicitDefEqProofs)
      | ((with_reducible apply AWp.skip); try simp -implicitDefEqProofs)
      | ((with_reducible apply AWp.exit); try simp -implicitDefEqProofs))
    intro id h_id
    repeat (first
      | (with_reducible apply AWp.seq)
      | (with_reducible apply AWp.block)
      | ((with_reducible apply AWp.fork); simp -implicitDefEqProofs)
      | ((with_reducible apply AWp.region); simp -implicitDefEqProofs)
      | (with_reducible refine And.intro (by first | omega | assumption | decide) ?_)
      | ((with_reducible apply aCall.id); first
          | ((apply aCall.gives (bwakes_ok _)); simp -implicitDefEqProofs)
          | ((apply aCall.gives (hl _)); simp -implicitDefEqProofs))
      | ((with_reducible apply AWp.ret); try simp -implicitDefEqProofs)
      | ((with_reducible apply AWp.skip); try simp -implicitDefEqProofs)
      | ((with_reducible apply AWp.exit); try simp -implicitDefEqProofs))
  · have hL2 : (decide (1000 < code.length) || decide (100 < cls.length)) = false := by simpa using hL
    rw [hL2] at hl
    have hb : code.length ≤ 1000 ∧ cls.length ≤ 100 := by simpa using hL
    have hco := fun σ => copied_ok code cls n1 n2 hn1 hn2 hb.1 hb.2 σ
    have hbs := fun σ => bsame_ok code code cls cls .unk .unk .unk .unk false false n1 n2 (by omega) (by omega) (by omega) (by omega) σ
    simp only [bodyV] at hco hbs
    cases hR : rightB code cls
    · have hw := fun σ => write_bad code cls .unk .unk false false (by omega) (by omega) hR σ
      have hr := fun σ => rwrite_bad code cls .unk .unk n1 n2 (by omega) (by omega) hR σ
      have hs : ∀ σ, ACalls Try.prog 18 [.nilS, .nilS] σ (Gives (.sc (.bool true)) σ) No := fun σ => (same_ok [] [] .unk .unk true true (by simp) σ).wk _ rfl (fun i hi => by
        match i, hi with
        | 0, _ => simp
        | 1, _ => simp)
      repeat (first
        | (with_reducible apply AWp.seq)
        | (with_reducible apply AWp.block)
        | ((with_reducible apply AWp.fork); simp -implicitDefEqProofs)
        | ((with_reducible apply AWp.region); simp -implicitDefEqProofs)
        | (with_reducible refine And.intro (by first | omega | assumption | decide) ?_)
        | ((with_reducible apply AWp.ret); try simp -implicitDefEqProofs)
        | ((with_reducible apply AWp.skip); try simp -implicitDefEqProofs)
        | ((with_reducible apply AWp.exit); try simp -implicitDefEqProofs))
      intro id h_id
      repeat (first
        | (with_reducible apply AWp.seq)
        | (with_reducible apply AWp.block)
        | ((with_reducible apply AWp.fork); simp -implicitDefEqProofs)
        | ((with_reducible apply AWp.region); simp -implicitDefEqProofs)
        | (with_reducible refine And.intro (by first | omega | assumption | decide) ?_)
        | ((with_reducible apply aCall.id); first
            | ((apply aCall.gives (bwakes_ok _)); simp -implicitDefEqProofs)
            | ((apply aCall.gives (hl _)); simp -implicitDefEqProofs)
            | ((apply aCall.gives (hco _)); simp -implicitDefEqProofs))
        | ((with_reducible apply AWp.ret); try simp -implicitDefEqProofs)
        | ((with_reducible apply AWp.skip); try simp -implicitDefEqProofs)
        | ((with_reducible apply AWp.exit); try simp -implicitDefEqProofs))
      intro id2 n_id2_id h_id2
      have n_id_id2 : ¬ id = id2 := fun e => n_id2_id e.symm
      repeat (first
        | (with_reducible apply AWp.seq)
        | (with_reducible apply AWp.block)
        | ((with_reducible apply AWp.fork); simp -implicitDefEqProofs [n_id2_id, n_id_id2])
        | ((with_reducible apply AWp.region); simp -implicitDefEqProofs [n_id2_id, n_id_id2])
        | (with_reducible refine And.intro (by first | omega | assumption | decide) ?_)
        | ((with_reducible show condK _ _ _); simp -implicitDefEqProofs [n_id2_id, n_id_id2])
        | ((with_reducible show guardK _ _ _ _ _ _ _ _ _); simp -implicitDefEqProofs [n_id2_id, n_id_id2])
        | ((with_reducible apply aCall.id); first
            | ((apply aCall.gives (hw _)); simp -implicitDefEqProofs [n_id2_id, n_id_id2])
            | ((apply aCall.gives (hr _)); simp -implicitDefEqProofs [n_id2_id, n_id_id2])
            | ((apply aCall.gives (hs _)); simp -implicitDefEqProofs [n_id2_id, n_id_id2])
            | ((apply aCall.gives (hbs _)); simp -implicitDefEqProofs [n_id2_id, n_id_id2]))
        | ((with_reducible apply AWp.ret); try simp -implicitDefEqProofs [n_id2_id, n_id_id2])
        | ((with_reducible apply AWp.skip); try simp -implicitDefEqProofs [n_id2_id, n_id_id2])
        | ((with_reducible apply AWp.exit); try simp -implicitDefEqProofs [n_id2_id, n_id_id2]))
    · have hw := fun σ => write_ok code cls .unk .unk false false hR σ
      have hr := fun σ => rwrite_ok code cls .unk .unk n1 n2 hR σ
      simp only [bodyV] at hw hr
      have hlen : (writeB code cls).length ≤ 140737488355328 := by
        rw [writeB_len]; split <;> (try split) <;> omega
      have hs := fun o o' σ => same_ok (writeB code cls) (writeB code cls) o o' false false hlen σ
      generalize writeB code cls = W at *
      repeat (first
        | (with_reducible apply AWp.seq)
        | (with_reducible apply AWp.block)
        | ((with_reducible apply AWp.fork); simp -implicitDefEqProofs)
        | ((with_reducible apply AWp.region); simp -implicitDefEqProofs)
        | (with_reducible refine And.intro (by first | omega | assumption | decide) ?_)
        | ((with_reducible apply AWp.ret); try simp -implicitDefEqProofs)
        | ((with_reducible apply AWp.skip); try simp -implicitDefEqProofs)
        | ((with_reducible apply AWp.exit); try simp -implicitDefEqProofs))
      intro id h_id
      repeat (first
        | (with_reducible apply AWp.seq)
        | (with_reducible apply AWp.block)
        | ((with_reducible apply AWp.fork); simp -implicitDefEqProofs)
        | ((with_reducible apply AWp.region); simp -implicitDefEqProofs)
        | (with_reducible refine And.intro (by first | omega | assumption | decide) ?_)
        | ((with_reducible apply aCall.id); first
            | ((apply aCall.gives (bwakes_ok _)); simp -implicitDefEqProofs)
            | ((apply aCall.gives (hl _)); simp -implicitDefEqProofs)
            | ((apply aCall.gives (hco _)); simp -implicitDefEqProofs))
        | ((with_reducible apply AWp.ret); try simp -implicitDefEqProofs)
        | ((with_reducible apply AWp.skip); try simp -implicitDefEqProofs)
        | ((with_reducible apply AWp.exit); try simp -implicitDefEqProofs))
      intro id2 n_id2_id h_id2
      have n_id_id2 : ¬ id = id2 := fun e => n_id2_id e.symm
      repeat (first
        | (with_reducible apply AWp.seq)
        | (with_reducible apply AWp.block)
        | ((with_reducible apply AWp.fork); simp -implicitDefEqProofs [n_id2_id, n_id_id2])
        | ((with_reducible apply AWp.region); simp -implicitDefEqProofs [n_id2_id, n_id_id2])
        | (with_reducible refine And.intro (by first | omega | assumption | decide) ?_)
        | ((with_reducible show condK _ _ _); simp -implicitDefEqProofs [n_id2_id, n_id_id2])
        | ((with_reducible show guardK _ _ _ _ _ _ _ _ _); simp -implicitDefEqProofs [n_id2_id, n_id_id2])
        | ((with_reducible apply aCall.id); first
            | ((apply aCall.owns (hw _)); simp -implicitDefEqProofs [n_id2_id, n_id_id2]))
        | ((with_reducible apply AWp.ret); try simp -implicitDefEqProofs [n_id2_id, n_id_id2])
        | ((with_reducible apply AWp.skip); try simp -implicitDefEqProofs [n_id2_id, n_id_id2])
        | ((with_reducible apply AWp.exit); try simp -implicitDefEqProofs [n_id2_id, n_id_id2]))
      intro tk n_tk_id2 n_tk_id h_tk
      have n_id2_tk : ¬ id2 = tk := fun e => n_tk_id2 e.symm
      have n_id_tk : ¬ id = tk := fun e => n_tk_id e.symm
      repeat (first
        | (with_reducible apply AWp.seq)
        | (with_reducible apply AWp.block)
        | ((with_reducible apply AWp.fork); simp -implicitDefEqProofs [n_id2_id, n_id_id2, n_tk_id2, n_id2_tk, n_tk_id, n_id_tk])
        | ((with_reducible apply AWp.region); simp -implicitDefEqProofs [n_id2_id, n_id_id2, n_tk_id2, n_id2_tk, n_tk_id, n_id_tk])
        | (with_reducible refine And.intro (by first | omega | assumption | decide) ?_)
        | ((with_reducible show condK _ _ _); simp -implicitDefEqProofs [n_id2_id, n_id_id2, n_tk_id2, n_id2_tk, n_tk_id, n_id_tk])
        | ((with_reducible show guardK _ _ _ _ _ _ _ _ _); simp -implicitDefEqProofs [n_id2_id, n_id_id2, n_tk_id2, n_id2_tk, n_tk_id, n_id_tk])
        | ((with_reducible apply aCall.id); first
            | ((apply aCall.owns (hr _)); simp -implicitDefEqProofs [n_id2_id, n_id_id2, n_tk_id2, n_id2_tk, n_tk_id, n_id_tk]))
        | ((with_reducible apply AWp.ret); try simp -implicitDefEqProofs [n_id2_id, n_id_id2, n_tk_id2, n_id2_tk, n_tk_id, n_id_tk])
        | ((with_reducible apply AWp.skip); try simp -implicitDefEqProofs [n_id2_id, n_id_id2, n_tk_id2, n_id2_tk, n_tk_id, n_id_tk])
        | ((with_reducible apply AWp.exit); try simp -implicitDefEqProofs [n_id2_id, n_id_id2, n_tk_id2, n_id2_tk, n_tk_id, n_id_tk]))
      intro tk2 n_tk2_tk n_tk2_id2 n_tk2_id h_tk2
      have n_tk_tk2 : ¬ tk = tk2 := fun e => n_tk2_tk e.symm
      have n_id2_tk2 : ¬ id2 = tk2 := fun e => n_tk2_id2 e.symm
      have n_id_tk2 : ¬ id = tk2 := fun e => n_tk2_id e.symm
      repeat (first
        | (with_reducible apply AWp.seq)
        | (with_reducible apply AWp.block)
        | ((with_reducible apply AWp.fork); simp -implicitDefEqProofs [n_id2_id, n_id_id2, n_tk_id2, n_id2_tk, n_tk_id, n_id_tk, n_tk2_tk, n_tk_tk2, n_tk2_id2, n_id2_tk2, n_tk2_id, n_id_tk2])
        | ((with_reducible apply AWp.region); simp -implicitDefEqProofs [n_id2_id, n_id_id2, n_tk_id2, n_id2_tk, n_tk_id, n_id_tk, n_tk2_tk, n_tk_tk2, n_tk2_id2, n_id2_tk2, n_tk2_id, n_id_tk2])
        | (with_reducible refine And.intro (by first | omega | assumption | decide) ?_)
        | ((with_reducible show condK _ _ _); simp -implicitDefEqProofs [n_id2_id, n_id_id2, n_tk_id2, n_id2_tk, n_tk_id, n_id_tk, n_tk2_tk, n_tk_tk2, n_tk2_id2, n_id2_tk2, n_tk2_id, n_id_tk2])
        | ((with_reducible show guardK _ _ _ _ _ _ _ _ _); simp -implicitDefEqProofs [n_id2_id, n_id_id2, n_tk_id2, n_id2_tk, n_tk_id, n_id_tk, n_tk2_tk, n_tk_tk2, n_tk2_id2, n_id2_tk2, n_tk2_id, n_id_tk2])
        | ((with_reducible apply aCall.id); first
            | ((apply aCall.gives (hs _ _ _)); simp -implicitDefEqProofs [n_id2_id, n_id_id2, n_tk_id2, n_id2_tk, n_tk_id, n_id_tk, n_tk2_tk, n_tk_tk2, n_tk2_id2, n_id2_tk2, n_tk2_id, n_id_tk2])
            | ((apply aCall.gives (hbs _)); simp -implicitDefEqProofs [n_id2_id, n_id_id2, n_tk_id2, n_id2_tk, n_tk_id, n_id_tk, n_tk2_tk, n_tk_tk2, n_tk2_id2, n_id2_tk2, n_tk2_id, n_id_tk2]))
        | ((with_reducible apply AWp.ret); try simp -implicitDefEqProofs [n_id2_id, n_id_id2, n_tk_id2, n_id2_tk, n_tk_id, n_id_tk, n_tk2_tk, n_tk_tk2, n_tk2_id2, n_id2_tk2, n_tk2_id, n_id_tk2])
        | ((with_reducible apply AWp.skip); try simp -implicitDefEqProofs [n_id2_id, n_id_id2, n_tk_id2, n_id2_tk, n_tk_id, n_id_tk, n_tk2_tk, n_tk_tk2, n_tk2_id2, n_id2_tk2, n_tk2_id, n_id_tk2])
        | ((with_reducible apply AWp.exit); try simp -implicitDefEqProofs [n_id2_id, n_id_id2, n_tk_id2, n_id2_tk, n_tk_id, n_id_tk, n_tk2_tk, n_tk_tk2, n_tk2_id2, n_id2_tk2, n_tk2_id, n_id_tk2]))

theorem bodyLength_ok (code : List UInt8) (cls : List R6) (n1 n2 : Bool) (hc : code.length ≤ 140737488355328) (hk : cls.length ≤ 140737488355328) :
    ACalls Try.prog 8 [bodyV code cls .unk .unk n1 n2] noAS IsTrue No := by
  have hl := fun σ => long_ok code cls .unk .unk n1 n2 hc hk σ
  refine ACalls.of_body Try.func8 rfl rfl (by simp [Try.ntmps8]) ?_
  simp only [bodyV] at hl ⊢
  by_cases hL : (decide (1000 < code.length) || decide (100 < cls.length)) = true
  · rw [hL] at hl
    repeat (first
      | (with_reducible apply AWp.seq)
      | (with_reducible apply AWp.block)
      | ((with_reducible apply AWp.fork); simp -implicitDefEqProofs)
      | ((with_reducible apply AWp.region); simp -implicitDefEqProofs)
      | (with_reducible refine And.intro (by first | omega | assumption | decide) ?_)
      | ((with_reducible apply AWp.ret); try simp -implicitDefEqProofs)
      | ((with_reducible apply AWp.skip); try simp -implicitDefEqProofs)
      | ((with_reducible apply AWp.exit); try simp -implicitDefEqProofs))
    intro id h_id
    repeat (first
      | (with_reducible apply AWp.seq)
      | (with_reducible apply AWp.block)
      | ((with_reducible apply AWp.fork); simp -implicitDefEqProofs)
      | ((with_reducible apply AWp.region); simp -implicitDefEqProofs)
      | (with_reducible refine And.intro (by first | omega | assumption | decide) ?_)
      | ((with_reducible apply aCall.id); first
          | ((apply aCall.gives (bwakes_ok _)); simp -implicitDefEqProofs)
          | ((apply aCall.gives (hl _)); simp -implicitDefEqProofs))
      | ((with_reducible apply AWp.ret); try simp -implicitDefEqProofs)
      | ((with_reducible apply AWp.skip); try simp -implicitDefEqProofs)
      | ((with_reducible apply AWp.exit); try simp -implicitDefEqProofs))
  · have hL2 : (decide (1000 < code.length) || decide (100 < cls.length)) = false := by simpa using hL
    rw [hL2] at hl
    have hb : code.length ≤ 1000 ∧ cls.length ≤ 100 := by simpa using hL
    cases hR : rightB code cls
    · have hw := fun σ => write_bad code cls .unk .unk n1 n2 (by omega) (by omega) hR σ
      repeat (first
        | (with_reducible apply AWp.seq)
        | (with_reducible apply AWp.block)
        | ((with_reducible apply AWp.fork); simp -implicitDefEqProofs)
        | ((with_reducible apply AWp.region); simp -implicitDefEqProofs)
        | (with_reducible refine And.intro (by first | omega | assumption | decide) ?_)
        | ((with_reducible apply AWp.ret); try simp -implicitDefEqProofs)
        | ((with_reducible apply AWp.skip); try simp -implicitDefEqProofs)
        | ((with_reducible apply AWp.exit); try simp -implicitDefEqProofs))
      intro id h_id
      repeat (first
        | (with_reducible apply AWp.seq)
        | (with_reducible apply AWp.block)
        | ((with_reducible apply AWp.fork); simp -implicitDefEqProofs)
        | ((with_reducible apply AWp.region); simp -implicitDefEqProofs)
        | (with_reducible refine And.intro (by first | omega | assumption | decide) ?_)
        | ((with_reducible apply aCall.id); first
            | ((apply aCall.gives (bwakes_ok _)); simp -implicitDefEqProofs)
            | ((apply aCall.gives (hl _)); simp -implicitDefEqProofs)
            | ((apply aCall.gives (hw _)); simp -implicitDefEqProofs))
        | ((with_reducible apply AWp.ret); try simp -implicitDefEqProofs)
        | ((with_reducible apply AWp.skip); try simp -implicitDefEqProofs)
        | ((with_reducible apply AWp.exit); try simp -implicitDefEqProofs))
    · have hw := fun σ => write_ok code cls .unk .unk n1 n2 hR σ
      simp only [bodyV] at hw
      have hlen := writeB_len code cls
      generalize writeB code cls = W at *
      have w1 : IntKind.i64.wrap ((code.length : Int) + 1) = code.length + 1 := in_i64 (by omega) (by omega)
      have w8 : IntKind.i64.wrap ((code.length : Int) + 8) = code.length + 8 := in_i64 (by omega) (by omega)
      have w11 : IntKind.i64.wrap ((code.length : Int) + 11) = code.length + 11 := in_i64 (by omega) (by omega)
      have t4 : ((code.length : Int) + 11).tdiv 4 = (code.length + 11) / 4 := Int.tdiv_eq_ediv_of_nonneg (by omega)
      have wt : IntKind.i64.wrap (((code.length : Int) + 11) / 4) = (code.length + 11) / 4 := in_i64 (by omega) (by omega)
      have wt4 : IntKind.i64.wrap (((code.length : Int) + 11) / 4 * 4) = (code.length + 11) / 4 * 4 := in_i64 (by omega) (by omega)
      have wt5 : IntKind.i64.wrap (((code.length : Int) + 11) / 4 * 4 + 4) = (code.length + 11) / 4 * 4 + 4 := in_i64 (by omega) (by omega)
      have w12 : IntKind.i64.wrap (12 * (cls.length : Int)) = 12 * cls.length := in_i64 (by omega) (by omega)
      have wf : IntKind.i64.wrap (((code.length : Int) + 11) / 4 * 4 + 4 + 12 * cls.length) = (code.length + 11) / 4 * 4 + 4 + 12 * cls.length := in_i64 (by omega) (by omega)
      repeat (first
        | (with_reducible apply AWp.seq)
        | (with_reducible apply AWp.block)
        | ((with_reducible apply AWp.fork); simp -implicitDefEqProofs)
        | ((with_reducible apply AWp.region); simp -implicitDefEqProofs)
        | (with_reducible refine And.intro (by first | omega | assumption | decide) ?_)
        | ((with_reducible apply AWp.ret); try simp -implicitDefEqProofs)
        | ((with_reducible apply AWp.skip); try simp -implicitDefEqProofs)
        | ((with_reducible apply AWp.exit); try simp -implicitDefEqProofs))
      intro id h_id
      repeat (first
        | (with_reducible apply AWp.seq)
        | (with_reducible apply AWp.block)
        | ((with_reducible apply AWp.fork); simp -implicitDefEqProofs)
        | ((with_reducible apply AWp.region); simp -implicitDefEqProofs)
        | (with_reducible refine And.intro (by first | omega | assumption | decide) ?_)
        | ((with_reducible apply aCall.id); first
            | ((apply aCall.gives (bwakes_ok _)); simp -implicitDefEqProofs)
            | ((apply aCall.gives (hl _)); simp -implicitDefEqProofs)
            | ((apply aCall.owns (hw _)); simp -implicitDefEqProofs))
        | ((with_reducible apply AWp.ret); try simp -implicitDefEqProofs)
        | ((with_reducible apply AWp.skip); try simp -implicitDefEqProofs)
        | ((with_reducible apply AWp.exit); try simp -implicitDefEqProofs))
      intro tk n_tk_id h_tk
      have n_id_tk : ¬ id = tk := fun e => n_tk_id e.symm
      by_cases h64 : (code.length : Int) < 64 <;> by_cases h0 : cls = []
      all_goals
        repeat (first
          | (with_reducible apply AWp.seq)
          | (with_reducible apply AWp.block)
          | ((with_reducible apply AWp.fork); simp -implicitDefEqProofs [h64, h0, w1, w8, w11, t4, wt, wt4, wt5, w12, wf, n_tk_id, n_id_tk])
          | ((with_reducible apply AWp.region); simp -implicitDefEqProofs [h64, h0, w1, w8, w11, t4, wt, wt4, wt5, w12, wf, n_tk_id, n_id_tk])
          | (with_reducible refine And.intro (by first | omega | assumption | decide) ?_)
          | ((with_reducible show condK _ _ _); simp -implicitDefEqProofs [h64, h0, w1, w8, w11, t4, wt, wt4, wt5, w12, wf, n_tk_id, n_id_tk])
          | ((with_reducible show guardK _ _ _ _ _ _ _ _ _); simp -implicitDefEqProofs [h64, h0, w1, w8, w11, t4, wt, wt4, wt5, w12, wf, n_tk_id, n_id_tk])
          | ((with_reducible apply AWp.ret); try simp -implicitDefEqProofs [h64, h0, w1, w8, w11, t4, wt, wt4, wt5, w12, wf, n_tk_id, n_id_tk])
          | ((with_reducible apply AWp.skip); try simp -implicitDefEqProofs [h64, h0, w1, w8, w11, t4, wt, wt4, wt5, w12, wf, n_tk_id, n_id_tk])
          | ((with_reducible apply AWp.exit); try simp -implicitDefEqProofs [h64, h0, w1, w8, w11, t4, wt, wt4, wt5, w12, wf, n_tk_id, n_id_tk]))
        simp [h0] at hlen
        try simp
        first | omega | (split at hlen <;> omega)

end Go.Proofs.Ytnkjbgcbchbonaa
