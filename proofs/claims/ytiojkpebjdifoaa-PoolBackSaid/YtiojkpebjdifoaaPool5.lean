/- Chapter 02: SameInts, wakes, PoolName as a walk. -/
import Derived.Test.YtiojkpebjdifoaaPool4
set_option linter.unusedSimpArgs false
set_option linter.unusedVariables false
set_option maxRecDepth 100000
set_option maxHeartbeats 3200000
namespace Go.Proofs.Ytiojkpebjdifoaa
open Go Go.AW

theorem own : ownKnob Try.prog.godebug = none := by kernel_rfl
theorem laidOut : laidOutB Try.prog = true := by kernel_rfl

def siI (l m : List Int) (o1 o2 : Own) (n1 n2 : Bool) (σ : AS) (k : Nat) (fr : Fr) (σ' : AS) : Prop :=
  ∃ i : Nat, k = l.length - i ∧ i ≤ l.length ∧ decide (l = m) = decide (l.drop i = m.drop i) ∧ σ' = σ ∧
    fr = mkF [(0, .lst 3 (l.map i64v) o1 n1), (1, .lst 3 (m.map i64v) o2 n2), (5, .sc (.int .i64 i))]

theorem sints_ok (l m : List Int) (o1 o2 : Own) (n1 n2 : Bool) (hl : l.length ≤ 140737488355328) (hm : m.length ≤ 140737488355328) (σ : AS) :
    ACalls Try.prog 36 [.lst 3 (l.map i64v) o1 n1, .lst 3 (m.map i64v) o2 n2] σ (Gives (.sc (.bool (decide (l = m)))) σ) No := by
  refine ACalls.of_body Try.func36 rfl rfl (by simp [Try.ntmps36]) ?_
  by_cases hlen : l.length = m.length
  · have hlen' : (l.length : Int) = m.length := by omega
    repeat (first
      | (with_reducible apply AWp.seq)
      | (with_reducible apply AWp.block)
      | ((with_reducible apply AWp.fork); simp -implicitDefEqProofs [hlen, hlen'])
      | ((with_reducible apply AWp.region); simp -implicitDefEqProofs [hlen, hlen'])
      | (with_reducible refine And.intro (by first | omega | assumption | decide) ?_)
      | ((with_reducible show condK _ _ _); simp -implicitDefEqProofs [hlen, hlen'])
      | ((with_reducible show guardK _ _ _ _ _ _ _ _ _); simp -implicitDefEqProofs [hlen, hlen'])
      | (((with_reducible apply AWp.drawS (id := 6) (t := (Sch.step 0 (Sch.step 1 (Sch.step 2 (Sch.step 4 (Sch.step 5 (Sch.step 6 (Sch.read 3 (Sch.read 7 (Sch.step 8 Sch.done))))))))))); (exact mixed); kernel_rfl; kernel_rfl; (repeat (with_reducible first | apply PanQ.then | apply PanQ.block | apply PanQ.body))); simp -implicitDefEqProofs [hlen, hlen'])
      | ((with_reducible apply AWp.ret); try simp -implicitDefEqProofs [hlen, hlen'])
      | ((with_reducible apply AWp.skip); try simp -implicitDefEqProofs [hlen, hlen'])
      | ((with_reducible apply AWp.exit); try simp -implicitDefEqProofs [hlen, hlen']))
    refine AWp.loopI (siI l m o1 o2 n1 n2 σ) (k0 := l.length) ⟨0, by omega, by omega, rfl, rfl, rfl⟩ (FrWk.mk (by simp)) (AS.le_refl _) ?_
    rintro k fr σ' ⟨i, hk, hi, hD, rfl, rfl⟩
    by_cases hlt : i < l.length
    · obtain ⟨r, hg, hd1, _, _⟩ := at_lt l hlt
      obtain ⟨q, hq, hd2, _, _⟩ := at_lt m (i := i) (by omega)
      obtain ⟨_, hg'⟩ := List.getElem?_eq_some_iff.1 hg
      obtain ⟨hlt2, hq'⟩ := List.getElem?_eq_some_iff.1 hq
      have hI : ((i : Int) < l.length) = True := by simp; omega
      have hI2 : ((i : Int) < m.length) = True := by simp; omega
      rw [hd1, hd2] at hD
      by_cases he : r = q
      · subst he
        repeat (first
          | (with_reducible apply AWp.seq)
          | (with_reducible apply AWp.block)
          | ((with_reducible apply AWp.fork); simp -implicitDefEqProofs [hI, hI2, hlt, hlt2, hg, hq, hg', hq', i64v_def])
          | ((with_reducible apply AWp.region); simp -implicitDefEqProofs [hI, hI2, hlt, hlt2, hg, hq, hg', hq', i64v_def])
          | (with_reducible refine And.intro (by first | omega | assumption | decide) ?_)
          | ((with_reducible show condK _ _ _); simp -implicitDefEqProofs [hI, hI2, hlt, hlt2, hg, hq, hg', hq', i64v_def])
          | ((with_reducible show guardK _ _ _ _ _ _ _ _ _); simp -implicitDefEqProofs [hI, hI2, hlt, hlt2, hg, hq, hg', hq', i64v_def])
          | (((with_reducible apply AWp.drawS (id := 6) (t := (Sch.step 0 (Sch.step 1 (Sch.step 2 (Sch.step 4 (Sch.step 5 (Sch.step 6 (Sch.read 3 (Sch.read 7 (Sch.step 8 Sch.done))))))))))); (exact mixed); kernel_rfl; kernel_rfl; (repeat (with_reducible first | apply PanQ.then | apply PanQ.block | apply PanQ.body))); simp -implicitDefEqProofs [hI, hI2, hlt, hlt2, hg, hq, hg', hq', i64v_def])
          | ((with_reducible apply AWp.ret); try simp -implicitDefEqProofs [hI, hI2, hlt, hlt2, hg, hq, hg', hq', i64v_def])
          | ((with_reducible apply AWp.skip); try simp -implicitDefEqProofs [hI, hI2, hlt, hlt2, hg, hq, hg', hq', i64v_def])
          | ((with_reducible apply AWp.exit); try simp -implicitDefEqProofs [hI, hI2, hlt, hlt2, hg, hq, hg', hq', i64v_def]))
        refine ⟨k - 1, _, _, by omega, FrWk.mk ?_, AS.le_refl _, i + 1, by omega, by omega, by rw [hD]; simp, rfl, rfl⟩
        simp [wInc (show i < 4000000000000000000 by omega), i64v_def]
      · repeat (first
          | (with_reducible apply AWp.seq)
          | (with_reducible apply AWp.block)
          | ((with_reducible apply AWp.fork); simp -implicitDefEqProofs [hI, hI2, hlt, hlt2, hg, hq, hg', hq', i64v_def, he])
          | ((with_reducible apply AWp.region); simp -implicitDefEqProofs [hI, hI2, hlt, hlt2, hg, hq, hg', hq', i64v_def, he])
          | (with_reducible refine And.intro (by first | omega | assumption | decide) ?_)
          | ((with_reducible show condK _ _ _); simp -implicitDefEqProofs [hI, hI2, hlt, hlt2, hg, hq, hg', hq', i64v_def, he])
          | ((with_reducible show guardK _ _ _ _ _ _ _ _ _); simp -implicitDefEqProofs [hI, hI2, hlt, hlt2, hg, hq, hg', hq', i64v_def, he])
          | (((with_reducible apply AWp.drawS (id := 6) (t := (Sch.step 0 (Sch.step 1 (Sch.step 2 (Sch.step 4 (Sch.step 5 (Sch.step 6 (Sch.read 3 (Sch.read 7 (Sch.step 8 Sch.done))))))))))); (exact mixed); kernel_rfl; kernel_rfl; (repeat (with_reducible first | apply PanQ.then | apply PanQ.block | apply PanQ.body))); simp -implicitDefEqProofs [hI, hI2, hlt, hlt2, hg, hq, hg', hq', i64v_def, he])
          | ((with_reducible apply AWp.ret); try simp -implicitDefEqProofs [hI, hI2, hlt, hlt2, hg, hq, hg', hq', i64v_def, he])
          | ((with_reducible apply AWp.skip); try simp -implicitDefEqProofs [hI, hI2, hlt, hlt2, hg, hq, hg', hq', i64v_def, he])
          | ((with_reducible apply AWp.exit); try simp -implicitDefEqProofs [hI, hI2, hlt, hlt2, hg, hq, hg', hq', i64v_def, he]))
        simp [hD, he]
    · have hI : ((i : Int) < l.length) = False := by simp; omega
      have hI2 : ((i : Int) < m.length) = False := by simp; omega
      have e1 : l.drop i = [] := List.drop_eq_nil_of_le (by omega)
      have e2 : m.drop i = [] := List.drop_eq_nil_of_le (by omega)
      rw [e1, e2] at hD
      repeat (first
        | (with_reducible apply AWp.seq)
        | (with_reducible apply AWp.block)
        | ((with_reducible apply AWp.fork); simp -implicitDefEqProofs [hI, hI2])
        | ((with_reducible apply AWp.region); simp -implicitDefEqProofs [hI, hI2])
        | (with_reducible refine And.intro (by first | omega | assumption | decide) ?_)
        | ((with_reducible show condK _ _ _); simp -implicitDefEqProofs [hI, hI2])
        | ((with_reducible show guardK _ _ _ _ _ _ _ _ _); simp -implicitDefEqProofs [hI, hI2])
        | (((with_reducible apply AWp.drawS (id := 6) (t := (Sch.step 0 (Sch.step 1 (Sch.step 2 (Sch.step 4 (Sch.step 5 (Sch.step 6 (Sch.read 3 (Sch.read 7 (Sch.step 8 Sch.done))))))))))); (exact mixed); kernel_rfl; kernel_rfl; (repeat (with_reducible first | apply PanQ.then | apply PanQ.block | apply PanQ.body))); simp -implicitDefEqProofs [hI, hI2])
        | ((with_reducible apply AWp.ret); try simp -implicitDefEqProofs [hI, hI2])
        | ((with_reducible apply AWp.skip); try simp -implicitDefEqProofs [hI, hI2])
        | ((with_reducible apply AWp.exit); try simp -implicitDefEqProofs [hI, hI2]))
      simp [hD]
  · have hlen' : ¬ (l.length : Int) = m.length := by omega
    have hne : ¬ l = m := fun e => hlen (by rw [e])
    repeat (first
      | (with_reducible apply AWp.seq)
      | (with_reducible apply AWp.block)
      | ((with_reducible apply AWp.fork); simp -implicitDefEqProofs [hlen, hlen'])
      | ((with_reducible apply AWp.region); simp -implicitDefEqProofs [hlen, hlen'])
      | (with_reducible refine And.intro (by first | omega | assumption | decide) ?_)
      | ((with_reducible show condK _ _ _); simp -implicitDefEqProofs [hlen, hlen'])
      | ((with_reducible show guardK _ _ _ _ _ _ _ _ _); simp -implicitDefEqProofs [hlen, hlen'])
      | (((with_reducible apply AWp.drawS (id := 6) (t := (Sch.step 0 (Sch.step 1 (Sch.step 2 (Sch.step 4 (Sch.step 5 (Sch.step 6 (Sch.read 3 (Sch.read 7 (Sch.step 8 Sch.done))))))))))); (exact mixed); kernel_rfl; kernel_rfl; (repeat (with_reducible first | apply PanQ.then | apply PanQ.block | apply PanQ.body))); simp -implicitDefEqProofs [hlen, hlen'])
      | ((with_reducible apply AWp.ret); try simp -implicitDefEqProofs [hlen, hlen'])
      | ((with_reducible apply AWp.skip); try simp -implicitDefEqProofs [hlen, hlen'])
      | ((with_reducible apply AWp.exit); try simp -implicitDefEqProofs [hlen, hlen']))
    simp [hne]

theorem nmF_len : ∀ (l : List (List UInt8)) (p : List UInt8) (d : List (List UInt8 × Nat)), l.all fineB = true → (nmF l p d).1.length ≤ p.length + 25 * l.length := by
  intro l
  induction l with
  | nil => intro p d _; simp [nmF]
  | cons s r ih =>
    intro p d h
    simp only [List.all_cons, Bool.and_eq_true] at h
    have h24 : s.length ≤ 24 := by have := h.1; simp [fineB] at this; exact this.2.1
    simp only [nmF]
    split
    · rename_i a _
      have := ih p (d ++ [(s, a)]) h.2
      simp at this ⊢; omega
    · have := ih (p ++ s ++ [0]) (d ++ [(s, p.length)]) h.2
      simp at this ⊢; omega

theorem namesR_ok (l : List (List UInt8)) (hl : l.length ≤ 1000) (hf : l.all fineB = true) : namesR l = ((nmF l [0] []).1, (nmF l [0] []).2.map (fun p => (p.2 : Int)), 0) := by
  have := nmF_len l [0] [] hf
  unfold namesR
  rw [if_neg (by simp [hf]), if_neg (by simp at this ⊢; omega)]
theorem namesR_bad (l : List (List UInt8)) (hf : l.all fineB = false) : namesR l = ([], [], 18) := by
  unfold namesR
  rw [if_pos hf]

theorem names_all (l : List (List UInt8)) (nl : Bool) (o0 : Own) (hl : l.length ≤ 1000) (hs : ∀ s ∈ l, s.length ≤ 140737488355328) (σ : AS) :
    ACalls Try.prog 34 [.lst 9 (l.map sV) o0 nl] σ (Gives (.tup [.lst 5 ((namesR l).1.map u8) .unk (!l.all fineB), .lst 3 ((namesR l).2.1.map i64v) .unk (!l.all fineB || decide (l = [])), .sc (.int .i64 (namesR l).2.2)]) σ) No := by
  cases hf : l.all fineB with
  | true =>
    rw [namesR_ok l hl hf]
    have := nmF_len l [0] [] hf
    have h := names_ok l nl o0 hl hs hf (by simp at this; omega) σ
    have e : (nmF l [0] []).2.map (fun p => (AV.sc (.int .i64 (p.2 : Int)))) = ((nmF l [0] []).2.map (fun p => (p.2 : Int))).map i64v := by simp [i64v_def]
    rw [e] at h
    simpa using h
  | false =>
    rw [namesR_bad l hf]
    exact (names_full l nl o0 hl hs hf σ).told (Wk_tup3 (by simp) (by simp) (by simp))

theorem pwakes_ok (σ : AS) : ACalls Try.prog 31 [] σ (Gives (.sc (.bool true)) σ) No := by
  have hn : ∀ σ, ACalls Try.prog 34 [.lst 9 [.sc (.string ⟨#[97]⟩), .sc (.string ⟨#[98]⟩), .sc (.string ⟨#[97]⟩)] .full false] σ (Gives (.tup [.lst 5 (([0, 97, 0, 98, 0] : List UInt8).map u8) .unk false, .lst 3 (([1, 3, 1] : List Int).map i64v) .unk false, .sc (.int .i64 0)]) σ) No :=
    fun σ => names_all [[97], [98], [97]] false .full (by decide) (by decide) σ
  have hi := fun o σ => sints_ok [1, 3, 1] [1, 3, 1] .unk o false false (by decide) (by decide) σ
  have h5 : allU8 [.sc (.int .u8 0), .sc (.int .u8 97), .sc (.int .u8 0), .sc (.int .u8 98), .sc (.int .u8 0)] = some [0, 97, 0, 98, 0] := by decide +kernel
  simp [i64v_def] at hn hi
  refine ACalls.of_body Try.func31 rfl rfl (by simp [Try.ntmps31]) ?_
  repeat (first
    | (with_reducible apply AWp.seq)
    | (with_reducible apply AWp.block)
    | ((with_reducible apply AWp.fork); simp -implicitDefEqProofs [h5])
    | ((with_reducible apply AWp.region); simp -implicitDefEqProofs [h5])
    | (with_reducible refine And.intro (by first | omega | assumption | decide) ?_)
    | ((with_reducible show condK _ _ _); simp -implicitDefEqProofs [h5])
    | ((with_reducible show guardK _ _ _ _ _ _ _ _ _); simp -implicitDefEqProofs [h5])
    | ((with_reducible apply aCall.id); first
        | ((apply aCall.gives (hn _)); simp -implicitDefEqProofs [h5])
        | ((apply aCall.gives (hi _ _)); simp -implicitDefEqProofs [h5]))
    | ((with_reducible apply AWp.ret); try simp -implicitDefEqProofs [h5])
    | ((with_reducible apply AWp.skip); try simp -implicitDefEqProofs [h5])
    | ((with_reducible apply AWp.exit); try simp -implicitDefEqProofs [h5]))

theorem poolName_ok (b s : List UInt8) (nl : Bool) (at' : Int) (hn : nl = true → b = []) (hl : b.length ≤ 140737488355328) (hs : s.length ≤ 140737488355328) (ha : -9223372036854775808 ≤ at') (hb : at' < 9223372036854775808) :
    ACalls Try.prog 9 [.lst 5 (b.map u8) .unk nl, .sc (.int .i64 at'), .sc (.string ⟨s.toArray⟩)] noAS IsTrue No := by
  have h1 := fun nl o σ => name_ok b nl o at' hl ha hb σ
  have h2 := fun nl o σ => rname_ok b nl o at' hl σ
  have h3 := fun σ => fine_ok s hs σ
  have h4 := fun σ => rfine_ok s hs σ
  generalize nameS b at' = r at h1 h2
  obtain ⟨r1, r2⟩ := r
  simp only at h1 h2
  refine ACalls.of_body Try.func9 rfl rfl (by simp [Try.ntmps9]) ?_
  by_cases c1 : b.length ≤ 2000
  · have c1' : (2000 < (b.length : Int)) = False := by simp; omega
    by_cases c2 : s.length ≤ 2000
    · have c2' : (2000 < (s.length : Int)) = False := by simp; omega
      repeat (first
        | (with_reducible apply AWp.seq)
        | (with_reducible apply AWp.block)
        | ((with_reducible apply AWp.fork); simp -implicitDefEqProofs [c1', c2'])
        | ((with_reducible apply AWp.region); simp -implicitDefEqProofs [c1', c2'])
        | (with_reducible refine And.intro (by first | omega | assumption | decide) ?_)
        | ((with_reducible show condK _ _ _); simp -implicitDefEqProofs [c1', c2'])
        | ((with_reducible show guardK _ _ _ _ _ _ _ _ _); simp -implicitDefEqProofs [c1', c2'])
        | ((with_reducible apply aCall.id); first
            | ((apply aCall.gives (pwakes_ok _)); simp -implicitDefEqProofs [c1', c2']))
        | ((with_reducible apply AWp.ret); try simp -implicitDefEqProofs [c1', c2'])
        | ((with_reducible apply AWp.skip); try simp -implicitDefEqProofs [c1', c2'])
        | ((with_reducible apply AWp.exit); try simp -implicitDefEqProofs [c1', c2']))
      intro tk h_tk
      repeat (first
        | (with_reducible apply AWp.seq)
        | (with_reducible apply AWp.block)
        | ((with_reducible apply AWp.fork); simp -implicitDefEqProofs [c1', c2'])
        | ((with_reducible apply AWp.region); simp -implicitDefEqProofs [c1', c2'])
        | (with_reducible refine And.intro (by first | omega | assumption | decide) ?_)
        | ((with_reducible show condK _ _ _); simp -implicitDefEqProofs [c1', c2'])
        | ((with_reducible show guardK _ _ _ _ _ _ _ _ _); simp -implicitDefEqProofs [c1', c2'])
        | ((with_reducible apply aCall.id); first
            | ((apply aCall.gives (h1 _ _ _)); simp -implicitDefEqProofs [c1', c2'])
            | ((apply aCall.gives (h2 _ _ _)); simp -implicitDefEqProofs [c1', c2'])
            | ((apply aCall.gives (h3 _)); simp -implicitDefEqProofs [c1', c2'])
            | ((apply aCall.gives (h4 _)); simp -implicitDefEqProofs [c1', c2']))
        | ((with_reducible apply AWp.ret); try simp -implicitDefEqProofs [c1', c2'])
        | ((with_reducible apply AWp.skip); try simp -implicitDefEqProofs [c1', c2'])
        | ((with_reducible apply AWp.exit); try simp -implicitDefEqProofs [c1', c2']))
    · have c2' : (2000 < (s.length : Int)) = True := by simp; omega
      repeat (first
        | (with_reducible apply AWp.seq)
        | (with_reducible apply AWp.block)
        | ((with_reducible apply AWp.fork); simp -implicitDefEqProofs [c1', c2'])
        | ((with_reducible apply AWp.region); simp -implicitDefEqProofs [c1', c2'])
        | (with_reducible refine And.intro (by first | omega | assumption | decide) ?_)
        | ((with_reducible show condK _ _ _); simp -implicitDefEqProofs [c1', c2'])
        | ((with_reducible show guardK _ _ _ _ _ _ _ _ _); simp -implicitDefEqProofs [c1', c2'])
        | ((with_reducible apply aCall.id); first
            | ((apply aCall.gives (pwakes_ok _)); simp -implicitDefEqProofs [c1', c2']))
        | ((with_reducible apply AWp.ret); try simp -implicitDefEqProofs [c1', c2'])
        | ((with_reducible apply AWp.skip); try simp -implicitDefEqProofs [c1', c2'])
        | ((with_reducible apply AWp.exit); try simp -implicitDefEqProofs [c1', c2']))
  · have c1' : (2000 < (b.length : Int)) = True := by simp; omega
    repeat (first
      | (with_reducible apply AWp.seq)
      | (with_reducible apply AWp.block)
      | ((with_reducible apply AWp.fork); simp -implicitDefEqProofs [c1'])
      | ((with_reducible apply AWp.region); simp -implicitDefEqProofs [c1'])
      | (with_reducible refine And.intro (by first | omega | assumption | decide) ?_)
      | ((with_reducible show condK _ _ _); simp -implicitDefEqProofs [c1'])
      | ((with_reducible show guardK _ _ _ _ _ _ _ _ _); simp -implicitDefEqProofs [c1'])
      | ((with_reducible apply aCall.id); first
          | ((apply aCall.gives (pwakes_ok _)); simp -implicitDefEqProofs [c1']))
      | ((with_reducible apply AWp.ret); try simp -implicitDefEqProofs [c1'])
      | ((with_reducible apply AWp.skip); try simp -implicitDefEqProofs [c1'])
      | ((with_reducible apply AWp.exit); try simp -implicitDefEqProofs [c1']))

end Go.Proofs.Ytiojkpebjdifoaa
