/- Chapter 05: the laws' own functions. -/
import Derived.Test.YtplphldpkliakaaSigL
set_option linter.unusedSimpArgs false
set_option linter.unusedVariables false
set_option maxRecDepth 100000
set_option maxHeartbeats 3200000
namespace Go.Proofs.Ytplphldpkliakaa
namespace Sg
open Go Go.AW
abbrev sc_4_1_XSigM : Sch := (Sch.alt 0 (Sch.step 1 (Sch.step 2 (Sch.read 3 (Sch.pure 4 (Sch.read 5 (Sch.pure 6 (Sch.step 7 (Sch.step 8 Sch.done)))))))) Sch.none)

theorem lcB_len (l : List Ty) (hl : l.length ≤ 12) (h : ∀ t ∈ l, localT t = true) : (lcB l).length ≤ 200 := by
  rw [← preB_lc l hl]
  have := preB_len2 7 l hl l.length (by omega) (by rw [List.take_length]; exact h)
  omega
theorem sgB_len (th : Bool) (l : List Ty) (r : Ty) (hl : l.length ≤ 6) (h : ∀ t ∈ l, localT t = true) (hr : answerT r = true) : (sgB ⟨th, l, r⟩).length ≤ 200 := by
  rw [← preS_sg th l r (by omega)]
  have := preS_len2 (if th = true then 32 else 0) l r (by omega) (answer_plain hr) l.length (by omega) (by rw [List.take_length]; exact h)
  omega
/-- What is put and is well: its bytes, and what is read of them. -/
theorem putLoc_cases (l : List Ty) : (∃ e, putLoc l = .error e ∧ e ≠ 0) ∨ (putLoc l = .ok (lcB l) ∧ locS (lcB l) = .ok l ∧ (lcB l).length ≤ 200) := by
  unfold putLoc
  by_cases h : 12 < l.length
  · rw [if_pos h]; exact .inl ⟨4, rfl, by decide⟩
  · rw [if_neg h]
    by_cases h2 : l.all localT = true
    · rw [if_pos h2]
      have h3 : ∀ t ∈ l, localT t = true := List.all_eq_true.1 h2
      exact .inr ⟨rfl, loc_at (by omega) h3, lcB_len l (by omega) h3⟩
    · rw [if_neg h2]; exact .inl ⟨17, rfl, by decide⟩
theorem putSig_cases (s : Sg) : (∃ e, putSig s = .error e ∧ e ≠ 0) ∨ (putSig s = .ok (sgB s) ∧ sigS (sgB s) = .ok s ∧ (sgB s).length ≤ 200) := by
  obtain ⟨th, l, r⟩ := s
  unfold putSig
  by_cases h : 6 < l.length
  · rw [if_pos h]; exact .inl ⟨4, rfl, by decide⟩
  · rw [if_neg h]
    by_cases h2 : (l.all localT && answerT r) = true
    · rw [if_pos h2]
      obtain ⟨h4, h5⟩ := Bool.and_eq_true_iff.1 h2
      have h3 : ∀ t ∈ l, localT t = true := List.all_eq_true.1 h4
      exact .inr ⟨rfl, sig_at (by simp; omega) h3 h5, sgB_len th l r (by omega) h3 h5⟩
    · rw [if_neg h2]; exact .inl ⟨17, rfl, by decide⟩

theorem sigsLocals_ok (l : List Ty) (nl : Bool) (hl : l.length ≤ 140737488355328) :
    ACalls Try.prog 5 [.lst 24 (l.map tyV) .unk nl] noAS IsTrue No := by
  refine ACalls.of_body Try.func5 rfl rfl (by simp [Try.ntmps5]) ?_
  by_cases hL : 100 < l.length
  · have hL' : (100 < (l.length : Int)) = True := eq_true (by omega)
    repeat (first
      | (with_reducible first | apply AWp.seq | apply AWp.block | refine And.intro (by first | omega | assumption | decide) ?_)
      | ((first | (with_reducible first | apply AWp.fork | apply AWp.region | show condK _ _ _ | show guardK _ _ _ _ _ _ _ _ _) | ((with_reducible apply aCall.id); first | apply aCall.gives (wakes_ok _))); simp -implicitDefEqProofs [hL', ci_lt, ci_le])
      | ((with_reducible first | apply AWp.ret | apply AWp.skip | apply AWp.exit); try simp -implicitDefEqProofs [hL', ci_lt, ci_le]))
  have hL' : (100 < (l.length : Int)) = False := eq_false (by omega)
  have h1 := fun o nl σ => PutLocals_g l o nl (by omega) σ
  have h2 := fun o nl σ => rputLocals_ok l o nl (by omega) σ
  rcases putLoc_cases l with ⟨e, hE, he⟩ | ⟨hE, hB, hlen⟩
  · rw [hE] at h1 h2
    simp only [resB, resE, bL_def] at h1 h2
    have hs := fun o n m σ => same_ok [] [] o o n m (by simp) σ
    simp [-Bool.forall_bool] at h1 h2 hs
    repeat (first
      | (with_reducible first | apply AWp.seq | apply AWp.block | refine And.intro (by first | omega | assumption | decide) ?_)
      | ((first | (with_reducible first | apply AWp.fork | apply AWp.region | show condK _ _ _ | show guardK _ _ _ _ _ _ _ _ _) | ((with_reducible apply aCall.id); first | apply aCall.gives (wakes_ok _))); simp -implicitDefEqProofs [hL', ci_lt, ci_le])
      | ((with_reducible first | apply AWp.ret | apply AWp.skip | apply AWp.exit); try simp -implicitDefEqProofs [hL', ci_lt, ci_le]))
    intro tk htk
    repeat (first
      | (with_reducible first | apply AWp.seq | apply AWp.block | refine And.intro (by first | omega | assumption | decide) ?_)
      | ((first | (with_reducible first | apply AWp.fork | apply AWp.region | show condK _ _ _ | show guardK _ _ _ _ _ _ _ _ _) | ((with_reducible apply aCall.id); first | apply aCall.gives (h1 _ _ _) | apply aCall.gives (h2 _ _ _) | apply aCall.gives (hs _ _ _ _))); simp -implicitDefEqProofs [he, ci_lt, ci_le])
      | ((with_reducible first | apply AWp.ret | apply AWp.skip | apply AWp.exit); try simp -implicitDefEqProofs [he, ci_lt, ci_le]))
  · rw [hE] at h1 h2
    simp only [resB, resE, bL_def] at h1 h2
    have hs := fun o n m σ => same_ok (lcB l) (lcB l) o o n m (by omega) σ
    have hg := fun o σ => getLocals_ok (lcB l) o (decide (lcB l = [])) (by simp) (by omega) σ
    have hst := fun o1 o2 n1 n2 σ => same_types l l o1 o2 n1 n2 (by omega) (by omega) σ
    rw [hB] at hg
    simp only [resL, resE, tyL_def] at hg
    simp [-Bool.forall_bool] at hs hst
    repeat (first
      | (with_reducible first | apply AWp.seq | apply AWp.block | refine And.intro (by first | omega | assumption | decide) ?_)
      | ((first | (with_reducible first | apply AWp.fork | apply AWp.region | show condK _ _ _ | show guardK _ _ _ _ _ _ _ _ _) | ((with_reducible apply aCall.id); first | apply aCall.gives (wakes_ok _))); simp -implicitDefEqProofs [hL', ci_lt, ci_le])
      | ((with_reducible first | apply AWp.ret | apply AWp.skip | apply AWp.exit); try simp -implicitDefEqProofs [hL', ci_lt, ci_le]))
    intro tk htk
    repeat (first
      | (with_reducible first | apply AWp.seq | apply AWp.block | refine And.intro (by first | omega | assumption | decide) ?_)
      | ((first | (with_reducible first | apply AWp.fork | apply AWp.region | show condK _ _ _ | show guardK _ _ _ _ _ _ _ _ _) | ((with_reducible apply aCall.id); first | apply aCall.gives (h1 _ _ _) | apply aCall.gives (h2 _ _ _) | apply aCall.gives (hs _ _ _ _) | apply aCall.gives (hg _ _) | apply aCall.gives (hst _ _ _ _ _))); simp -implicitDefEqProofs [ci_lt, ci_le])
      | ((with_reducible first | apply AWp.ret | apply AWp.skip | apply AWp.exit); try simp -implicitDefEqProofs [ci_lt, ci_le]))

theorem sigsSigs_ok (s : Sg) (nl : Bool) (hl : s.ps.length ≤ 140737488355328) :
    ACalls Try.prog 3 [.agg [.sc (.bool s.this), .lst 24 (s.ps.map tyV) .unk nl, .sc (.int .i64 s.ret.kind), .sc (.int .i64 s.ret.index), .sc (.int .i64 s.ret.dims), .sc (.bool s.ret.ref)]] noAS IsTrue No := by
  obtain ⟨th, l, r⟩ := s
  simp only at hl ⊢
  refine ACalls.of_body Try.func3 rfl rfl (by simp [Try.ntmps3]) ?_
  by_cases hL : 100 < l.length
  · have hL' : (100 < (l.length : Int)) = True := eq_true (by omega)
    repeat (first
      | (with_reducible first | apply AWp.seq | apply AWp.block | refine And.intro (by first | omega | assumption | decide) ?_)
      | ((first | (with_reducible first | apply AWp.fork | apply AWp.region | show condK _ _ _ | show guardK _ _ _ _ _ _ _ _ _)); simp -implicitDefEqProofs [ci_lt, ci_le])
      | ((with_reducible first | apply AWp.ret | apply AWp.skip | apply AWp.exit); try simp -implicitDefEqProofs [ci_lt, ci_le]))
    intro id1 h_id1
    repeat (first
      | (with_reducible first | apply AWp.seq | apply AWp.block | refine And.intro (by first | omega | assumption | decide) ?_)
      | ((first | (with_reducible first | apply AWp.fork | apply AWp.region | show condK _ _ _ | show guardK _ _ _ _ _ _ _ _ _) | ((with_reducible apply aCall.id); first | apply aCall.gives (wakes_ok _))); simp -implicitDefEqProofs [hL', ci_lt, ci_le])
      | ((with_reducible first | apply AWp.ret | apply AWp.skip | apply AWp.exit); try simp -implicitDefEqProofs [hL', ci_lt, ci_le]))
  have hL' : (100 < (l.length : Int)) = False := eq_false (by omega)
  have h1 := fun o nl σ => PutSig_g th l r o nl (by omega) σ
  have h2 := fun o nl σ => rputSig_ok th l r o nl (by omega) σ
  rcases putSig_cases ⟨th, l, r⟩ with ⟨e, hE, he⟩ | ⟨hE, hB, hlen⟩
  · rw [hE] at h1 h2
    simp only [resB, resE, bL_def] at h1 h2
    have hs := fun o n m σ => same_ok [] [] o o n m (by simp) σ
    simp [-Bool.forall_bool] at h1 h2 hs
    repeat (first
      | (with_reducible first | apply AWp.seq | apply AWp.block | refine And.intro (by first | omega | assumption | decide) ?_)
      | ((first | (with_reducible first | apply AWp.fork | apply AWp.region | show condK _ _ _ | show guardK _ _ _ _ _ _ _ _ _)); simp -implicitDefEqProofs [ci_lt, ci_le])
      | ((with_reducible first | apply AWp.ret | apply AWp.skip | apply AWp.exit); try simp -implicitDefEqProofs [ci_lt, ci_le]))
    intro id1 h_id1
    repeat (first
      | (with_reducible first | apply AWp.seq | apply AWp.block | refine And.intro (by first | omega | assumption | decide) ?_)
      | ((first | (with_reducible first | apply AWp.fork | apply AWp.region | show condK _ _ _ | show guardK _ _ _ _ _ _ _ _ _) | ((with_reducible apply aCall.id); first | apply aCall.gives (wakes_ok _))); simp -implicitDefEqProofs [hL', ci_lt, ci_le])
      | ((with_reducible first | apply AWp.ret | apply AWp.skip | apply AWp.exit); try simp -implicitDefEqProofs [hL', ci_lt, ci_le]))
    intro id3 n_id3_id1 h_id3
    have n_id1_id3 : ¬ id1 = id3 := fun e => n_id3_id1 e.symm
    repeat (first
      | (with_reducible first | apply AWp.seq | apply AWp.block | refine And.intro (by first | omega | assumption | decide) ?_)
      | ((first | (with_reducible first | apply AWp.fork | apply AWp.region | show condK _ _ _ | show guardK _ _ _ _ _ _ _ _ _)); simp -implicitDefEqProofs [ci_lt, ci_le, n_id3_id1, n_id1_id3])
      | ((with_reducible first | apply AWp.ret | apply AWp.skip | apply AWp.exit); try simp -implicitDefEqProofs [ci_lt, ci_le, n_id3_id1, n_id1_id3]))
    intro tk n3 n1 htk
    have n1' : ¬ id1 = tk := fun e => n1 e.symm
    have n3' : ¬ id3 = tk := fun e => n3 e.symm
    simp -implicitDefEqProofs [n3, n3', n1, n1']
    repeat (first
      | (with_reducible first | apply AWp.seq | apply AWp.block | refine And.intro (by first | omega | assumption | decide) ?_)
      | ((first | (with_reducible first | apply AWp.fork | apply AWp.region | show condK _ _ _ | show guardK _ _ _ _ _ _ _ _ _) | ((with_reducible apply aCall.id); first | apply aCall.gives (h1 _ _ _) | apply aCall.gives (h2 _ _ _) | apply aCall.gives (hs _ _ _ _))); simp -implicitDefEqProofs [he, n1, n1', n3, n3', ci_lt, ci_le, n_id3_id1, n_id1_id3])
      | ((with_reducible first | apply AWp.ret | apply AWp.skip | apply AWp.exit); try simp -implicitDefEqProofs [he, n1, n1', n3, n3', ci_lt, ci_le, n_id3_id1, n_id1_id3]))
  · rw [hE] at h1 h2
    simp only [resB, resE, bL_def] at h1 h2
    have hs := fun o n m σ => same_ok (sgB ⟨th, l, r⟩) (sgB ⟨th, l, r⟩) o o n m (by omega) σ
    have hg := fun o σ => getSig_ok (sgB ⟨th, l, r⟩) o (decide (sgB ⟨th, l, r⟩ = [])) (by simp) (by omega) σ
    have hst := fun o1 o2 n1 n2 σ => same_sig th th l l r r o1 o2 n1 n2 (by omega) (by omega) σ
    rw [hB] at hg
    simp only [resS, resE, sgV_def, tyL_def] at hg
    simp [-Bool.forall_bool] at hs hst
    repeat (first
      | (with_reducible first | apply AWp.seq | apply AWp.block | refine And.intro (by first | omega | assumption | decide) ?_)
      | ((first | (with_reducible first | apply AWp.fork | apply AWp.region | show condK _ _ _ | show guardK _ _ _ _ _ _ _ _ _)); simp -implicitDefEqProofs [ci_lt, ci_le])
      | ((with_reducible first | apply AWp.ret | apply AWp.skip | apply AWp.exit); try simp -implicitDefEqProofs [ci_lt, ci_le]))
    intro id1 h_id1
    repeat (first
      | (with_reducible first | apply AWp.seq | apply AWp.block | refine And.intro (by first | omega | assumption | decide) ?_)
      | ((first | (with_reducible first | apply AWp.fork | apply AWp.region | show condK _ _ _ | show guardK _ _ _ _ _ _ _ _ _) | ((with_reducible apply aCall.id); first | apply aCall.gives (wakes_ok _))); simp -implicitDefEqProofs [hL', ci_lt, ci_le])
      | ((with_reducible first | apply AWp.ret | apply AWp.skip | apply AWp.exit); try simp -implicitDefEqProofs [hL', ci_lt, ci_le]))
    intro id3 n_id3_id1 h_id3
    have n_id1_id3 : ¬ id1 = id3 := fun e => n_id3_id1 e.symm
    repeat (first
      | (with_reducible first | apply AWp.seq | apply AWp.block | refine And.intro (by first | omega | assumption | decide) ?_)
      | ((first | (with_reducible first | apply AWp.fork | apply AWp.region | show condK _ _ _ | show guardK _ _ _ _ _ _ _ _ _)); simp -implicitDefEqProofs [ci_lt, ci_le, n_id3_id1, n_id1_id3])
      | ((with_reducible first | apply AWp.ret | apply AWp.skip | apply AWp.exit); try simp -implicitDefEqProofs [ci_lt, ci_le, n_id3_id1, n_id1_id3]))
    intro tk n3 n1 htk
    have n1' : ¬ id1 = tk := fun e => n1 e.symm
    have n3' : ¬ id3 = tk := fun e => n3 e.symm
    simp -implicitDefEqProofs [n3, n3', n1, n1']
    repeat (first
      | (with_reducible first | apply AWp.seq | apply AWp.block | refine And.intro (by first | omega | assumption | decide) ?_)
      | ((first | (with_reducible first | apply AWp.fork | apply AWp.region | show condK _ _ _ | show guardK _ _ _ _ _ _ _ _ _) | ((with_reducible apply aCall.id); first | apply aCall.gives (h1 _ _ _) | apply aCall.gives (h2 _ _ _) | apply aCall.gives (hs _ _ _ _) | apply aCall.gives (hg _ _))); simp -implicitDefEqProofs [n1, n1', n3, n3', ci_lt, ci_le, n_id3_id1, n_id1_id3])
      | ((with_reducible first | apply AWp.ret | apply AWp.skip | apply AWp.exit); try simp -implicitDefEqProofs [n1, n1', n3, n3', ci_lt, ci_le, n_id3_id1, n_id1_id3]))
    intro id8 n_id8_tk n_id8_id3 n_id8_id1 h_id8
    have n_tk_id8 : ¬ tk = id8 := fun e => n_id8_tk e.symm
    have n_id3_id8 : ¬ id3 = id8 := fun e => n_id8_id3 e.symm
    have n_id1_id8 : ¬ id1 = id8 := fun e => n_id8_id1 e.symm
    repeat (first
      | (with_reducible first | apply AWp.seq | apply AWp.block | refine And.intro (by first | omega | assumption | decide) ?_)
      | ((first | (with_reducible first | apply AWp.fork | apply AWp.region | show condK _ _ _ | show guardK _ _ _ _ _ _ _ _ _) | ((with_reducible apply aCall.id); first | apply aCall.gives (hst _ _ _ _ _))); simp -implicitDefEqProofs [n1, n1', n3, n3', ci_lt, ci_le, n_id3_id1, n_id1_id3, n_id8_tk, n_tk_id8, n_id8_id3, n_id3_id8, n_id8_id1, n_id1_id8])
      | ((with_reducible first | apply AWp.ret | apply AWp.skip | apply AWp.exit); try simp -implicitDefEqProofs [n1, n1', n3, n3', ci_lt, ci_le, n_id3_id1, n_id1_id3, n_id8_tk, n_tk_id8, n_id8_id3, n_id3_id8, n_id8_id1, n_id1_id8]))

theorem resT_cases (b : List UInt8) : (∃ e, getS b = .error e ∧ e ≠ 0) ∨ ∃ t, getS b = .ok t ∧ putT t = .ok b := by
  cases h : getS b with
  | error e => exact .inl ⟨e, rfl, getS_err h⟩
  | ok t => obtain ⟨h1, h2⟩ := put_get h; exact .inr ⟨t, rfl, by unfold putT; rw [if_pos h1, h2]⟩
theorem resS_cases (b : List UInt8) : (∃ e, sigS b = .error e ∧ e ≠ 0) ∨ ∃ s, sigS b = .ok s ∧ putSig s = .ok b ∧ s.ps.length ≤ 6 := by
  cases h : sigS b with
  | error e => exact .inl ⟨e, rfl, sigS_err h⟩
  | ok s =>
    obtain ⟨h1, h2, h3, h4⟩ := at_sig h
    refine .inr ⟨s, rfl, ?_, h1⟩
    unfold putSig
    rw [if_neg (by omega), h4, h3, List.all_eq_true.2 h2]; rfl
theorem resL_cases (b : List UInt8) : (∃ e, locS b = .error e ∧ e ≠ 0) ∨ ∃ l, locS b = .ok l ∧ putLoc l = .ok b ∧ l.length ≤ 12 := by
  cases h : locS b with
  | error e => exact .inl ⟨e, rfl, locS_err h⟩
  | ok l =>
    obtain ⟨h1, h2, h3⟩ := at_loc h
    refine .inr ⟨l, rfl, ?_, h1⟩
    unfold putLoc
    rw [if_neg (by omega), h3, List.all_eq_true.2 h2]; rfl

theorem sigsOne_ok (b : List UInt8) (nl : Bool) (hnl : nl = true → b = []) (hl : b.length ≤ 140737488355328) :
    ACalls Try.prog 6 [.lst 5 (b.map u8) .unk nl] noAS IsTrue No := by
  refine ACalls.of_body Try.func6 rfl rfl (by simp [Try.ntmps6]) ?_
  by_cases hL : 1000 < b.length
  · have hL' : (1000 < (b.length : Int)) = True := eq_true (by omega)
    repeat (first
      | (with_reducible first | apply AWp.seq | apply AWp.block | refine And.intro (by first | omega | assumption | decide) ?_)
      | ((first | (with_reducible first | apply AWp.fork | apply AWp.region | show condK _ _ _ | show guardK _ _ _ _ _ _ _ _ _) | ((with_reducible apply aCall.id); first | apply aCall.gives (wakes_ok _))); simp -implicitDefEqProofs [hL', ci_lt, ci_le])
      | ((with_reducible first | apply AWp.ret | apply AWp.skip | apply AWp.exit); try simp -implicitDefEqProofs [hL', ci_lt, ci_le]))
  have hL' : (1000 < (b.length : Int)) = False := eq_false (by omega)
  have h1 := fun σ => get_ok b .unk nl hnl (by omega) σ
  have h2 := fun σ => getSig_ok b .unk nl hnl (by omega) σ
  have h3 := fun σ => getLocals_ok b .unk nl hnl (by omega) σ
  have hs := fun n m σ => same_ok b b .unk .unk n m (by omega) σ
  obtain ⟨t1, e1, q1, q1', k1⟩ : ∃ t e, resT (getS b) = t ∧ resE (getS b) = e ∧ (e = 0 → putT t = .ok b) := by
    rcases resT_cases b with ⟨e, h, he⟩ | ⟨t, h, h'⟩
    · exact ⟨_, e, rfl, by rw [h]; rfl, fun h => absurd h he⟩
    · exact ⟨_, 0, rfl, by rw [h]; rfl, fun _ => by rw [h]; exact h'⟩
  obtain ⟨⟨th, l2, r2⟩, e2, q2, q2', k2, hl2⟩ : ∃ s e, resS (sigS b) = s ∧ resE (sigS b) = e ∧ (e = 0 → putSig s = .ok b) ∧ s.ps.length ≤ 6 := by
    rcases resS_cases b with ⟨e, h, he⟩ | ⟨t, h, h', hl⟩
    · exact ⟨_, e, rfl, by rw [h]; rfl, fun h => absurd h he, by rw [h]; simp [resS]⟩
    · exact ⟨_, 0, rfl, by rw [h]; rfl, fun _ => by rw [h]; exact h', by rw [h]; exact hl⟩
  obtain ⟨l3, e3, q3, q3', k3, hl3⟩ : ∃ s e, resL (locS b) = s ∧ resE (locS b) = e ∧ (e = 0 → putLoc s = .ok b) ∧ s.length ≤ 12 := by
    rcases resL_cases b with ⟨e, h, he⟩ | ⟨t, h, h', hl⟩
    · exact ⟨_, e, rfl, by rw [h]; rfl, fun h => absurd h he, by rw [h]; simp [resL]⟩
    · exact ⟨_, 0, rfl, by rw [h]; rfl, fun _ => by rw [h]; exact h', by rw [h]; exact hl⟩
  rw [q1, q1'] at h1
  rw [q2, q2'] at h2
  rw [q3, q3'] at h3
  simp only at hl2
  have p1 := fun σ => Put_g t1 σ
  have p2 := fun o n σ => PutSig_g th l2 r2 o n (by omega) σ
  have p3 := fun o n σ => PutLocals_g l3 o n (by omega) σ
  simp only [sgV_def, tyL_def, tyV_def] at h1 h2 h3 p1
  simp [-Bool.forall_bool] at hs
  repeat (first
    | (with_reducible first | apply AWp.seq | apply AWp.block | refine And.intro (by first | omega | assumption | decide) ?_)
    | ((first | (with_reducible first | apply AWp.fork | apply AWp.region | show condK _ _ _ | show guardK _ _ _ _ _ _ _ _ _) | ((with_reducible apply aCall.id); first | apply aCall.gives (wakes_ok _) | apply aCall.gives (h1 _))); simp -implicitDefEqProofs [hL', ci_lt, ci_le])
    | ((with_reducible first | apply AWp.ret | apply AWp.skip | apply AWp.exit); try simp -implicitDefEqProofs [hL', ci_lt, ci_le]))
  intro id3 h_id3
  repeat (first
    | (with_reducible first | apply AWp.seq | apply AWp.block | refine And.intro (by first | omega | assumption | decide) ?_)
    | ((first | (with_reducible first | apply AWp.fork | apply AWp.region | show condK _ _ _ | show guardK _ _ _ _ _ _ _ _ _) | ((with_reducible apply aCall.id); first | apply aCall.gives (h2 _))); simp -implicitDefEqProofs [ci_lt, ci_le])
    | ((with_reducible first | apply AWp.ret | apply AWp.skip | apply AWp.exit); try simp -implicitDefEqProofs [ci_lt, ci_le]))
  intro id5 n_id5_id3 h_id5
  have n_id3_id5 : ¬ id3 = id5 := fun e => n_id5_id3 e.symm
  by_cases z1 : e1 = 0 <;> by_cases z2 : e2 = 0 <;> by_cases z3 : e3 = 0
  all_goals
    (try (rw [k1 z1] at p1; simp only [resB, resE, bL_def] at p1))
    (try (rw [k2 z2] at p2; simp only [resB, resE, bL_def] at p2))
    (try (rw [k3 z3] at p3; simp only [resB, resE, bL_def] at p3))
    repeat (first
      | (with_reducible first | apply AWp.seq | apply AWp.block | refine And.intro (by first | omega | assumption | decide) ?_)
      | ((first | (with_reducible first | apply AWp.fork | apply AWp.region | show condK _ _ _ | show guardK _ _ _ _ _ _ _ _ _) | ((with_reducible apply aCall.id); first | apply aCall.gives (h3 _) | apply aCall.gives (p1 _) | apply aCall.gives (p2 _ _ _) | apply aCall.gives (p3 _ _ _) | apply aCall.gives (hs _ _ _))); simp -implicitDefEqProofs [z1, z2, z3, ci_lt, ci_le, n_id5_id3, n_id3_id5])
      | ((with_reducible first | apply AWp.ret | apply AWp.skip | apply AWp.exit); try simp -implicitDefEqProofs [z1, z2, z3, ci_lt, ci_le, n_id5_id3, n_id3_id5]))

theorem sigsReads_ok (b : List UInt8) (nl : Bool) (hnl : nl = true → b = []) (hl : b.length ≤ 140737488355328) :
    ACalls Try.prog 7 [.lst 5 (b.map u8) .unk nl] noAS IsTrue No := by
  refine ACalls.of_body Try.func7 rfl rfl (by simp [Try.ntmps7]) ?_
  by_cases hL : 1000 < b.length
  · have hL' : (1000 < (b.length : Int)) = True := eq_true (by omega)
    repeat (first
      | (with_reducible first | apply AWp.seq | apply AWp.block | refine And.intro (by first | omega | assumption | decide) ?_)
      | ((first | (with_reducible first | apply AWp.fork | apply AWp.region | show condK _ _ _ | show guardK _ _ _ _ _ _ _ _ _) | ((with_reducible apply aCall.id); first | apply aCall.gives (wakes_ok _))); simp -implicitDefEqProofs [hL', ci_lt, ci_le])
      | ((with_reducible first | apply AWp.ret | apply AWp.skip | apply AWp.exit); try simp -implicitDefEqProofs [hL', ci_lt, ci_le]))
  have hL' : (1000 < (b.length : Int)) = False := eq_false (by omega)
  have h1 := fun o n hn σ => get_ok b o n hn (by omega) σ
  have g1 := fun σ => rwhole_ok b .unk nl (by omega) σ
  have h2 := fun o n hn σ => getField_ok b o n hn (by omega) σ
  have g2 := fun σ => rfield_ok b .unk nl (by omega) σ
  have h3 := fun o n hn σ => getSig_ok b o n hn (by omega) σ
  have g3 := fun σ => rsig_ok b .unk nl (by omega) σ
  have h4 := fun o n hn σ => getLocals_ok b o n hn (by omega) σ
  have g4 := fun σ => rlocals_ok b .unk nl (by omega) σ
  have hl3 : (resS (sigS b)).ps.length ≤ 6 := by
    rcases resS_cases b with ⟨e, h, _⟩ | ⟨s, h, _, h6⟩
    · rw [h]; simp [resS]
    · rw [h]; exact h6
  have hl4 : (resL (locS b)).length ≤ 12 := by
    rcases resL_cases b with ⟨e, h, _⟩ | ⟨s, h, _, h6⟩
    · rw [h]; simp [resL]
    · rw [h]; exact h6
  generalize getS b = x1 at *
  generalize fldS b = x2 at *
  generalize sigS b = x3 at *
  generalize locS b = x4 at *
  obtain ⟨t1, ht1⟩ : ∃ t, resT x1 = t := ⟨_, rfl⟩
  obtain ⟨t2, ht2⟩ : ∃ t, resT x2 = t := ⟨_, rfl⟩
  obtain ⟨⟨th, l3, r3⟩, ht3⟩ : ∃ t, resS x3 = t := ⟨_, rfl⟩
  obtain ⟨l4, ht4⟩ : ∃ t, resL x4 = t := ⟨_, rfl⟩
  rw [ht3] at hl3
  rw [ht4] at hl4
  simp only at hl3
  have hst := fun n1 n2 σ => same_types l4 l4 .unk .unk n1 n2 (by omega) (by omega) σ
  have hsg := fun n1 n2 σ => same_sig th th l3 l3 r3 r3 .unk .unk n1 n2 (by omega) (by omega) σ
  simp only [ht1, ht2, ht3, ht4, sgV_def, tyL_def, tyV_def] at h1 g1 h2 g2 h3 g3 h4 g4
  simp [-Bool.forall_bool] at hst hsg
  repeat (first
    | (with_reducible first | apply AWp.seq | apply AWp.block | refine And.intro (by first | omega | assumption | decide) ?_)
    | ((first | (with_reducible first | apply AWp.fork | apply AWp.region | show condK _ _ _ | show guardK _ _ _ _ _ _ _ _ _) | ((with_reducible apply aCall.id); first | apply aCall.gives (wakes_ok _))); simp -implicitDefEqProofs [hL', ci_lt, ci_le])
    | ((with_reducible first | apply AWp.ret | apply AWp.skip | apply AWp.exit); try simp -implicitDefEqProofs [hL', ci_lt, ci_le]))
  intro tk htk
  repeat (first
    | (with_reducible first | apply AWp.seq | apply AWp.block | refine And.intro (by first | omega | assumption | decide) ?_)
    | ((first | (with_reducible first | apply AWp.fork | apply AWp.region | show condK _ _ _ | show guardK _ _ _ _ _ _ _ _ _) | ((with_reducible apply aCall.id); first | apply aCall.gives (h1 _ _ (by simp) _) | apply aCall.gives (g1 _))); simp -implicitDefEqProofs [ci_lt, ci_le])
    | ((with_reducible first | apply AWp.ret | apply AWp.skip | apply AWp.exit); try simp -implicitDefEqProofs [ci_lt, ci_le]))
  intro id4 n_id4_tk h_id4
  have n_tk_id4 : ¬ tk = id4 := fun e => n_id4_tk e.symm
  repeat (first
    | (with_reducible first | apply AWp.seq | apply AWp.block | refine And.intro (by first | omega | assumption | decide) ?_)
    | ((first | (with_reducible first | apply AWp.fork | apply AWp.region | show condK _ _ _ | show guardK _ _ _ _ _ _ _ _ _) | ((with_reducible apply aCall.id); first | apply aCall.gives (h1 _ _ (by simp) _) | apply aCall.gives (g1 _))); simp -implicitDefEqProofs [ci_lt, ci_le, n_id4_tk, n_tk_id4])
    | ((with_reducible first | apply AWp.ret | apply AWp.skip | apply AWp.exit); try simp -implicitDefEqProofs [ci_lt, ci_le, n_id4_tk, n_tk_id4]))
  intro id6 n_id6_id4 n_id6_tk h_id6
  have n_id4_id6 : ¬ id4 = id6 := fun e => n_id6_id4 e.symm
  have n_tk_id6 : ¬ tk = id6 := fun e => n_id6_tk e.symm
  repeat (first
    | (with_reducible first | apply AWp.seq | apply AWp.block | refine And.intro (by first | omega | assumption | decide) ?_)
    | ((first | (with_reducible first | apply AWp.fork | apply AWp.region | show condK _ _ _ | show guardK _ _ _ _ _ _ _ _ _) | ((with_reducible apply aCall.id); first | apply aCall.gives (h2 _ _ (by simp) _) | apply aCall.gives (g2 _) | apply aCall.gives (h3 _ _ (by simp) _) | apply aCall.gives (g3 _))); simp -implicitDefEqProofs [ci_lt, ci_le, n_id4_tk, n_tk_id4, n_id6_id4, n_id4_id6, n_id6_tk, n_tk_id6])
    | ((with_reducible first | apply AWp.ret | apply AWp.skip | apply AWp.exit); try simp -implicitDefEqProofs [ci_lt, ci_le, n_id4_tk, n_tk_id4, n_id6_id4, n_id4_id6, n_id6_tk, n_tk_id6]))
  intro id8 n_id8_id6 n_id8_id4 n_id8_tk h_id8
  have n_id6_id8 : ¬ id6 = id8 := fun e => n_id8_id6 e.symm
  have n_id4_id8 : ¬ id4 = id8 := fun e => n_id8_id4 e.symm
  have n_tk_id8 : ¬ tk = id8 := fun e => n_id8_tk e.symm
  repeat (first
    | (with_reducible first | apply AWp.seq | apply AWp.block | refine And.intro (by first | omega | assumption | decide) ?_)
    | ((first | (with_reducible first | apply AWp.fork | apply AWp.region | show condK _ _ _ | show guardK _ _ _ _ _ _ _ _ _) | ((with_reducible apply aCall.id); first | apply aCall.gives (h2 _ _ (by simp) _) | apply aCall.gives (g2 _) | apply aCall.gives (h3 _ _ (by simp) _) | apply aCall.gives (g3 _))); simp -implicitDefEqProofs [ci_lt, ci_le, n_id4_tk, n_tk_id4, n_id6_id4, n_id4_id6, n_id6_tk, n_tk_id6, n_id8_id6, n_id6_id8, n_id8_id4, n_id4_id8, n_id8_tk, n_tk_id8])
    | ((with_reducible first | apply AWp.ret | apply AWp.skip | apply AWp.exit); try simp -implicitDefEqProofs [ci_lt, ci_le, n_id4_tk, n_tk_id4, n_id6_id4, n_id4_id6, n_id6_tk, n_tk_id6, n_id8_id6, n_id6_id8, n_id8_id4, n_id4_id8, n_id8_tk, n_tk_id8]))
  intro id9 n_id9_id8 n_id9_id6 n_id9_id4 n_id9_tk h_id9
  have n_id8_id9 : ¬ id8 = id9 := fun e => n_id9_id8 e.symm
  have n_id6_id9 : ¬ id6 = id9 := fun e => n_id9_id6 e.symm
  have n_id4_id9 : ¬ id4 = id9 := fun e => n_id9_id4 e.symm
  have n_tk_id9 : ¬ tk = id9 := fun e => n_id9_tk e.symm
  repeat (first
    | (with_reducible first | apply AWp.seq | apply AWp.block | refine And.intro (by first | omega | assumption | decide) ?_)
    | ((first | (with_reducible first | apply AWp.fork | apply AWp.region | show condK _ _ _ | show guardK _ _ _ _ _ _ _ _ _) | ((with_reducible apply aCall.id); first | apply aCall.gives (hsg _ _ _) | apply aCall.gives (h4 _ _ (by simp) _) | apply aCall.gives (g4 _) | apply aCall.gives (hst _ _ _))); simp -implicitDefEqProofs [ci_lt, ci_le, n_id4_tk, n_tk_id4, n_id6_id4, n_id4_id6, n_id6_tk, n_tk_id6, n_id8_id6, n_id6_id8, n_id8_id4, n_id4_id8, n_id8_tk, n_tk_id8, n_id9_id8, n_id8_id9, n_id9_id6, n_id6_id9, n_id9_id4, n_id4_id9, n_id9_tk, n_tk_id9])
    | ((with_reducible first | apply AWp.ret | apply AWp.skip | apply AWp.exit); try simp -implicitDefEqProofs [ci_lt, ci_le, n_id4_tk, n_tk_id4, n_id6_id4, n_id4_id6, n_id6_tk, n_tk_id6, n_id8_id6, n_id6_id8, n_id8_id4, n_id4_id8, n_id8_tk, n_tk_id8, n_id9_id8, n_id8_id9, n_id9_id6, n_id6_id9, n_id9_id4, n_id4_id9, n_id9_tk, n_tk_id9]))

theorem fld_put {t : Ty} (h : fieldT' t = true) : fldS (6 :: tyB t) = .ok t := by
  have hp : plainT t = true := by unfold fieldT' localT at h; simp at h; exact h.1.1
  unfold fldS
  simp only [if_true, get_put hp, h]

theorem sigsTypes_ok (t : Ty) : ACalls Try.prog 4 [tyV t] noAS IsTrue No := by
  have h1 := fun σ => Plain_ok t σ
  have h2 := fun σ => rplain_ok t σ
  have p1 := fun σ => Put_g t σ
  have p2 := fun σ => PutField_g t σ
  have hw := fun σ => rwhere_ok t 1 σ
  have hwf : whereT t 1 = fieldT' t := by unfold whereT; simp
  rw [hwf] at hw
  by_cases hp : plainT t = true
  · have p3 := fun σ => rput_g t hp σ
    have hg := fun o n hn σ => get_ok (tyB t) o n hn (by have := tyB_len hp; omega) σ
    rw [get_put hp] at hg
    have hs := fun o m n σ => same_ok (tyB t) (tyB t) o o m n (by have := tyB_len hp; omega) σ
    have hlen := tyB_len hp
    by_cases hf : fieldT' t = true
    · have hgf := fun o n hn σ => getField_ok (6 :: tyB t) o n hn (by have := tyB_len hp; simp; omega) σ
      rw [fld_put hf] at hgf
      rw [show putT t = .ok (tyB t) by unfold putT; rw [if_pos hp]] at p1
      rw [show putF t = .ok (6 :: tyB t) by unfold putF; rw [if_pos hf]] at p2
      rw [hp] at h1 h2
      rw [hf] at hw
      simp only [tyV_def, resB, resE, resT, bL_def] at h1 h2 p1 p2 p3 hw hg hgf ⊢
      simp [-Bool.forall_bool] at hs
      refine ACalls.of_body Try.func4 rfl rfl (by simp [Try.ntmps4]) ?_
      repeat (first
        | (with_reducible first | apply AWp.seq | apply AWp.block | refine And.intro (by first | omega | assumption | decide) ?_)
        | ((first | (with_reducible first | apply AWp.fork | apply AWp.region | show condK _ _ _ | show guardK _ _ _ _ _ _ _ _ _) | ((with_reducible apply AWp.drawS (id := 1) (t := sc_4_1_XSigM)); (exact mixed); kernel_rfl; kernel_rfl; (repeat (with_reducible first | apply PanQ.then | apply PanQ.block | apply PanQ.body | apply PanQ.no)))); simp -implicitDefEqProofs [ci_lt, ci_le])
        | ((with_reducible first | apply AWp.ret | apply AWp.skip | apply AWp.exit); try simp -implicitDefEqProofs [ci_lt, ci_le]))
      intro id1 h_id1
      repeat (first
        | (with_reducible first | apply AWp.seq | apply AWp.block | refine And.intro (by first | omega | assumption | decide) ?_)
        | ((first | (with_reducible first | apply AWp.fork | apply AWp.region | show condK _ _ _ | show guardK _ _ _ _ _ _ _ _ _) | ((with_reducible apply AWp.drawS (id := 1) (t := sc_4_1_XSigM)); (exact mixed); kernel_rfl; kernel_rfl; (repeat (with_reducible first | apply PanQ.then | apply PanQ.block | apply PanQ.body | apply PanQ.no))) | ((with_reducible apply aCall.id); first | apply aCall.gives (wakes_ok _) | apply aCall.gives (h1 _) | apply aCall.gives (h2 _) | apply aCall.gives (p1 _) | apply aCall.gives (p2 _) | apply aCall.gives (p3 _) | apply aCall.gives (hs _ _ _ _) | apply aCall.gives (hg _ _ (by simp) _)) | ((with_reducible apply pureCall.id); first | apply pureCall.gives (fun _ => wakes_ok _) | apply pureCall.gives (fun _ => h1 _) | apply pureCall.gives (fun _ => h2 _) | apply pureCall.gives (fun _ => p1 _) | apply pureCall.gives (fun _ => p2 _) | apply pureCall.gives (fun _ => p3 _) | apply pureCall.gives (fun _ => hs _ _ _ _) | apply pureCall.gives (fun _ => hg _ _ (by simp) _))); simp -implicitDefEqProofs [ci_lt, ci_le])
        | ((with_reducible first | apply AWp.ret | apply AWp.skip | apply AWp.exit); try simp -implicitDefEqProofs [ci_lt, ci_le]))
      intro id7 n_id7_id1 h_id7
      have n_id1_id7 : ¬ id1 = id7 := fun e => n_id7_id1 e.symm
      have hlw : IntKind.i64.wrap ((tyB t).length + 1) = (tyB t).length + 1 := in_i64 (by omega) (by omega)
      repeat (first
        | (with_reducible first | apply AWp.seq | apply AWp.block | refine And.intro (by first | omega | assumption | decide) ?_)
        | ((first | (with_reducible first | apply AWp.fork | apply AWp.region | show condK _ _ _ | show guardK _ _ _ _ _ _ _ _ _) | ((with_reducible apply AWp.drawS (id := 1) (t := sc_4_1_XSigM)); (exact mixed); kernel_rfl; kernel_rfl; (repeat (with_reducible first | apply PanQ.then | apply PanQ.block | apply PanQ.body | apply PanQ.no))) | ((with_reducible apply aCall.id); first | apply aCall.gives (hw _) | apply aCall.gives (hgf _ _ (by simp) _)) | ((with_reducible apply pureCall.id); first | apply pureCall.gives (fun _ => hw _) | apply pureCall.gives (fun _ => hgf _ _ (by simp) _))); simp -implicitDefEqProofs [hlw, ci_lt, ci_le, n_id7_id1, n_id1_id7])
        | ((with_reducible first | apply AWp.ret | apply AWp.skip | apply AWp.exit); try simp -implicitDefEqProofs [hlw, ci_lt, ci_le, n_id7_id1, n_id1_id7]))
      intro id9 n_id9_id7 n_id9_id1 h_id9
      have n_id7_id9 : ¬ id7 = id9 := fun e => n_id9_id7 e.symm
      have n_id1_id9 : ¬ id1 = id9 := fun e => n_id9_id1 e.symm
      repeat (first
        | (with_reducible first | apply AWp.seq | apply AWp.block | refine And.intro (by first | omega | assumption | decide) ?_)
        | ((first | (with_reducible first | apply AWp.fork | apply AWp.region | show condK _ _ _ | show guardK _ _ _ _ _ _ _ _ _) | ((with_reducible apply AWp.drawS (id := 1) (t := sc_4_1_XSigM)); (exact mixed); kernel_rfl; kernel_rfl; (repeat (with_reducible first | apply PanQ.then | apply PanQ.block | apply PanQ.body | apply PanQ.no)))); simp -implicitDefEqProofs [hlw, ci_lt, ci_le, n_id7_id1, n_id1_id7, n_id9_id7, n_id7_id9, n_id9_id1, n_id1_id9])
        | ((with_reducible first | apply AWp.ret | apply AWp.skip | apply AWp.exit); try simp -implicitDefEqProofs [hlw, ci_lt, ci_le, n_id7_id1, n_id1_id7, n_id9_id7, n_id7_id9, n_id9_id1, n_id1_id9]))
    · rw [show putT t = .ok (tyB t) by unfold putT; rw [if_pos hp]] at p1
      rw [show putF t = .error 17 by unfold putF; rw [if_neg hf]] at p2
      rw [hp] at h1 h2
      have hf' : fieldT' t = false := by simpa using hf
      rw [hf'] at hw
      simp only [tyV_def, resB, resE, resT, bL_def] at h1 h2 p1 p2 p3 hw hg ⊢
      simp [-Bool.forall_bool] at hs
      refine ACalls.of_body Try.func4 rfl rfl (by simp [Try.ntmps4]) ?_
      repeat (first
        | (with_reducible first | apply AWp.seq | apply AWp.block | refine And.intro (by first | omega | assumption | decide) ?_)
        | ((first | (with_reducible first | apply AWp.fork | apply AWp.region | show condK _ _ _ | show guardK _ _ _ _ _ _ _ _ _) | ((with_reducible apply AWp.drawS (id := 1) (t := sc_4_1_XSigM)); (exact mixed); kernel_rfl; kernel_rfl; (repeat (with_reducible first | apply PanQ.then | apply PanQ.block | apply PanQ.body | apply PanQ.no)))); simp -implicitDefEqProofs [ci_lt, ci_le])
        | ((with_reducible first | apply AWp.ret | apply AWp.skip | apply AWp.exit); try simp -implicitDefEqProofs [ci_lt, ci_le]))
      intro id1 h_id1
      repeat (first
        | (with_reducible first | apply AWp.seq | apply AWp.block | refine And.intro (by first | omega | assumption | decide) ?_)
        | ((first | (with_reducible first | apply AWp.fork | apply AWp.region | show condK _ _ _ | show guardK _ _ _ _ _ _ _ _ _) | ((with_reducible apply AWp.drawS (id := 1) (t := sc_4_1_XSigM)); (exact mixed); kernel_rfl; kernel_rfl; (repeat (with_reducible first | apply PanQ.then | apply PanQ.block | apply PanQ.body | apply PanQ.no))) | ((with_reducible apply aCall.id); first | apply aCall.gives (wakes_ok _) | apply aCall.gives (h1 _) | apply aCall.gives (h2 _) | apply aCall.gives (p1 _) | apply aCall.gives (p2 _) | apply aCall.gives (p3 _) | apply aCall.gives (hs _ _ _ _) | apply aCall.gives (hg _ _ (by simp) _)) | ((with_reducible apply pureCall.id); first | apply pureCall.gives (fun _ => wakes_ok _) | apply pureCall.gives (fun _ => h1 _) | apply pureCall.gives (fun _ => h2 _) | apply pureCall.gives (fun _ => p1 _) | apply pureCall.gives (fun _ => p2 _) | apply pureCall.gives (fun _ => p3 _) | apply pureCall.gives (fun _ => hs _ _ _ _) | apply pureCall.gives (fun _ => hg _ _ (by simp) _))); simp -implicitDefEqProofs [ci_lt, ci_le])
        | ((with_reducible first | apply AWp.ret | apply AWp.skip | apply AWp.exit); try simp -implicitDefEqProofs [ci_lt, ci_le]))
      intro id7 n_id7_id1 h_id7
      have n_id1_id7 : ¬ id1 = id7 := fun e => n_id7_id1 e.symm
      repeat (first
        | (with_reducible first | apply AWp.seq | apply AWp.block | refine And.intro (by first | omega | assumption | decide) ?_)
        | ((first | (with_reducible first | apply AWp.fork | apply AWp.region | show condK _ _ _ | show guardK _ _ _ _ _ _ _ _ _) | ((with_reducible apply AWp.drawS (id := 1) (t := sc_4_1_XSigM)); (exact mixed); kernel_rfl; kernel_rfl; (repeat (with_reducible first | apply PanQ.then | apply PanQ.block | apply PanQ.body | apply PanQ.no))) | ((with_reducible apply aCall.id); first | apply aCall.gives (hw _)) | ((with_reducible apply pureCall.id); first | apply pureCall.gives (fun _ => hw _))); simp -implicitDefEqProofs [ci_lt, ci_le, n_id7_id1, n_id1_id7])
        | ((with_reducible first | apply AWp.ret | apply AWp.skip | apply AWp.exit); try simp -implicitDefEqProofs [ci_lt, ci_le, n_id7_id1, n_id1_id7]))
  · rw [show putT t = .error 17 by unfold putT; rw [if_neg hp]] at p1
    have hf : ¬ fieldT' t = true := fun h => hp (by unfold fieldT' localT at h; simp at h; exact h.1.1)
    rw [show putF t = .error 17 by unfold putF; rw [if_neg hf]] at p2
    have hp' : plainT t = false := by simpa using hp
    rw [hp'] at h1 h2
    simp only [tyV_def, resB, resE, resT, bL_def] at h1 h2 p1 p2 ⊢
    refine ACalls.of_body Try.func4 rfl rfl (by simp [Try.ntmps4]) ?_
    repeat (first
      | (with_reducible first | apply AWp.seq | apply AWp.block | refine And.intro (by first | omega | assumption | decide) ?_)
      | ((first | (with_reducible first | apply AWp.fork | apply AWp.region | show condK _ _ _ | show guardK _ _ _ _ _ _ _ _ _) | ((with_reducible apply AWp.drawS (id := 1) (t := sc_4_1_XSigM)); (exact mixed); kernel_rfl; kernel_rfl; (repeat (with_reducible first | apply PanQ.then | apply PanQ.block | apply PanQ.body | apply PanQ.no)))); simp -implicitDefEqProofs [ci_lt, ci_le])
      | ((with_reducible first | apply AWp.ret | apply AWp.skip | apply AWp.exit); try simp -implicitDefEqProofs [ci_lt, ci_le]))
    intro id1 h_id1
    repeat (first
      | (with_reducible first | apply AWp.seq | apply AWp.block | refine And.intro (by first | omega | assumption | decide) ?_)
      | ((first | (with_reducible first | apply AWp.fork | apply AWp.region | show condK _ _ _ | show guardK _ _ _ _ _ _ _ _ _) | ((with_reducible apply AWp.drawS (id := 1) (t := sc_4_1_XSigM)); (exact mixed); kernel_rfl; kernel_rfl; (repeat (with_reducible first | apply PanQ.then | apply PanQ.block | apply PanQ.body | apply PanQ.no))) | ((with_reducible apply aCall.id); first | apply aCall.gives (wakes_ok _) | apply aCall.gives (h1 _) | apply aCall.gives (h2 _) | apply aCall.gives (p1 _) | apply aCall.gives (p2 _)) | ((with_reducible apply pureCall.id); first | apply pureCall.gives (fun _ => wakes_ok _) | apply pureCall.gives (fun _ => h1 _) | apply pureCall.gives (fun _ => h2 _) | apply pureCall.gives (fun _ => p1 _) | apply pureCall.gives (fun _ => p2 _))); simp -implicitDefEqProofs [ci_lt, ci_le])
      | ((with_reducible first | apply AWp.ret | apply AWp.skip | apply AWp.exit); try simp -implicitDefEqProofs [ci_lt, ci_le]))

end Sg
end Go.Proofs.Ytplphldpkliakaa
