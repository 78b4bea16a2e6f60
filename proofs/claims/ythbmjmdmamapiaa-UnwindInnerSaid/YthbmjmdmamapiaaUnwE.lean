/- Chapter 22: UnwindFloor, UnwindEach, UnwindAsks as walks. -/
import Derived.Test.YthbmjmdmamapiaaUnwD
set_option linter.unusedSimpArgs false
set_option linter.unusedVariables false
set_option maxRecDepth 100000
set_option maxHeartbeats 3200000
namespace Go.Proofs.Ythbmjmdmamapiaa
open Go Go.AW

theorem finsS_len (l : List Cl) (x f u : Int) : (finsS l x f u).length ≤ l.length := someI_len

theorem unwindFloor_ok (l : List Cl) (nl : Bool) (x f k t : Int) (hl : l.length ≤ 140737488355328) :
    ACalls Try.prog 9 [clsV l .unk nl, askV x f k t] noAS IsTrue No := by
  have hw := fun σ => uwakes_ok σ
  have hr := fun σ => right_ok 200 l .unk nl hl σ
  have hR := right200 (l := l)
  generalize decide ((checkS (aloneR 200) fitsR l).2 = 0) = b at *
  cases b with
  | false =>
    simp only [clsV, askV] at hr ⊢
    refine ACalls.of_body Try.func9 rfl rfl (by simp [Try.ntmps9]) ?_
    repeat (first
      | (with_reducible apply AWp.seq)
      | (with_reducible apply AWp.block)
      | ((with_reducible apply AWp.fork); simp -implicitDefEqProofs)
      | ((with_reducible apply AWp.region); simp -implicitDefEqProofs)
      | (with_reducible refine And.intro (by first | omega | assumption | decide) ?_)
      | (((with_reducible apply AWp.drawS (id := 9) (t := (Sch.step 0 (Sch.step 1 (Sch.step 2 (Sch.step 3 (Sch.step 5 (Sch.read 4 (Sch.read 6 (Sch.step 7 (Sch.step 8 (Sch.step 9 (Sch.step 10 (Sch.step 11 (Sch.step 12 (Sch.step 14 (Sch.read 13 (Sch.read 15 (Sch.step 16 (Sch.step 17 (Sch.step 18 (Sch.step 19 (Sch.step 20 (Sch.step 22 (Sch.step 23 (Sch.step 25 (Sch.read 21 (Sch.pure 24 (Sch.step 26 (Sch.step 27 Sch.done)))))))))))))))))))))))))))))); (exact mixed); kernel_rfl; kernel_rfl; (repeat (with_reducible first | apply PanQ.then | apply PanQ.block | apply PanQ.body | apply PanQ.no))); simp -implicitDefEqProofs)
      | (((with_reducible apply AWp.drawS (id := 11) (t := (Sch.step 0 (Sch.step 1 (Sch.step 3 (Sch.step 7 (Sch.step 8 (Sch.read 2 (Sch.read 4 (Sch.pure 5 (Sch.read 9 (Sch.step 6 (Sch.pure 10 (Sch.read 11 (Sch.step 12 (Sch.step 13 Sch.done)))))))))))))))); (exact mixed); kernel_rfl; kernel_rfl; (repeat (with_reducible first | apply PanQ.then | apply PanQ.block | apply PanQ.body | apply PanQ.no))); simp -implicitDefEqProofs)
      | ((with_reducible apply AWp.ret); try simp -implicitDefEqProofs)
      | ((with_reducible apply AWp.skip); try simp -implicitDefEqProofs)
      | ((with_reducible apply AWp.exit); try simp -implicitDefEqProofs))
    intro id h_id
    repeat (first
      | (with_reducible apply AWp.seq)
      | (with_reducible apply AWp.block)
      | ((with_reducible apply AWp.fork); simp -implicitDefEqProofs)
      | ((with_reducible apply AWp.region); simp -implicitDefEqProofs)
      | (with_reducible refine And.intro (by first | omega | assumption | decide) ?_)
      | (((with_reducible apply AWp.drawS (id := 9) (t := (Sch.step 0 (Sch.step 1 (Sch.step 2 (Sch.step 3 (Sch.step 5 (Sch.read 4 (Sch.read 6 (Sch.step 7 (Sch.step 8 (Sch.step 9 (Sch.step 10 (Sch.step 11 (Sch.step 12 (Sch.step 14 (Sch.read 13 (Sch.read 15 (Sch.step 16 (Sch.step 17 (Sch.step 18 (Sch.step 19 (Sch.step 20 (Sch.step 22 (Sch.step 23 (Sch.step 25 (Sch.read 21 (Sch.pure 24 (Sch.step 26 (Sch.step 27 Sch.done)))))))))))))))))))))))))))))); (exact mixed); kernel_rfl; kernel_rfl; (repeat (with_reducible first | apply PanQ.then | apply PanQ.block | apply PanQ.body | apply PanQ.no))); simp -implicitDefEqProofs)
      | (((with_reducible apply AWp.drawS (id := 11) (t := (Sch.step 0 (Sch.step 1 (Sch.step 3 (Sch.step 7 (Sch.step 8 (Sch.read 2 (Sch.read 4 (Sch.pure 5 (Sch.read 9 (Sch.step 6 (Sch.pure 10 (Sch.read 11 (Sch.step 12 (Sch.step 13 Sch.done)))))))))))))))); (exact mixed); kernel_rfl; kernel_rfl; (repeat (with_reducible first | apply PanQ.then | apply PanQ.block | apply PanQ.body | apply PanQ.no))); simp -implicitDefEqProofs)
      | ((with_reducible apply aCall.id); first
          | ((apply aCall.gives (hw _)); simp -implicitDefEqProofs)
          | ((apply aCall.gives (hr _)); simp -implicitDefEqProofs))
      | ((with_reducible apply pureCall.id); first
          | ((apply pureCall.gives (fun _ => hw _)); simp -implicitDefEqProofs)
          | ((apply pureCall.gives (fun _ => hr _)); simp -implicitDefEqProofs))
      | ((with_reducible apply AWp.ret); try simp -implicitDefEqProofs)
      | ((with_reducible apply AWp.skip); try simp -implicitDefEqProofs)
      | ((with_reducible apply AWp.exit); try simp -implicitDefEqProofs))
  | true =>
    have hR := hR rfl
    have h6 := hR.1
    by_cases hf0 : f < 0
    · simp only [clsV, askV] at hr ⊢
      refine ACalls.of_body Try.func9 rfl rfl (by simp [Try.ntmps9]) ?_
      repeat (first
        | (with_reducible apply AWp.seq)
        | (with_reducible apply AWp.block)
        | ((with_reducible apply AWp.fork); simp -implicitDefEqProofs [ci_lt, ci_le])
        | ((with_reducible apply AWp.region); simp -implicitDefEqProofs [ci_lt, ci_le])
        | (with_reducible refine And.intro (by first | omega | assumption | decide) ?_)
        | ((with_reducible show condK _ _ _); simp -implicitDefEqProofs [ci_lt, ci_le])
        | ((with_reducible show guardK _ _ _ _ _ _ _ _ _); simp -implicitDefEqProofs [ci_lt, ci_le])
        | (((with_reducible apply AWp.drawS (id := 9) (t := (Sch.step 0 (Sch.step 1 (Sch.step 2 (Sch.step 3 (Sch.step 5 (Sch.read 4 (Sch.read 6 (Sch.step 7 (Sch.step 8 (Sch.step 9 (Sch.step 10 (Sch.step 11 (Sch.step 12 (Sch.step 14 (Sch.read 13 (Sch.read 15 (Sch.step 16 (Sch.step 17 (Sch.step 18 (Sch.step 19 (Sch.step 20 (Sch.step 22 (Sch.step 23 (Sch.step 25 (Sch.read 21 (Sch.pure 24 (Sch.step 26 (Sch.step 27 Sch.done)))))))))))))))))))))))))))))); (exact mixed); kernel_rfl; kernel_rfl; (repeat (with_reducible first | apply PanQ.then | apply PanQ.block | apply PanQ.body | apply PanQ.no))); simp -implicitDefEqProofs [ci_lt, ci_le])
        | (((with_reducible apply AWp.drawS (id := 11) (t := (Sch.step 0 (Sch.step 1 (Sch.step 3 (Sch.step 7 (Sch.step 8 (Sch.read 2 (Sch.read 4 (Sch.pure 5 (Sch.read 9 (Sch.step 6 (Sch.pure 10 (Sch.read 11 (Sch.step 12 (Sch.step 13 Sch.done)))))))))))))))); (exact mixed); kernel_rfl; kernel_rfl; (repeat (with_reducible first | apply PanQ.then | apply PanQ.block | apply PanQ.body | apply PanQ.no))); simp -implicitDefEqProofs [ci_lt, ci_le])
        | ((with_reducible apply AWp.ret); try simp -implicitDefEqProofs [ci_lt, ci_le])
        | ((with_reducible apply AWp.skip); try simp -implicitDefEqProofs [ci_lt, ci_le])
        | ((with_reducible apply AWp.exit); try simp -implicitDefEqProofs [ci_lt, ci_le]))
      intro id h_id
      repeat (first
        | (with_reducible apply AWp.seq)
        | (with_reducible apply AWp.block)
        | ((with_reducible apply AWp.fork); simp -implicitDefEqProofs [hf0, ci_lt, ci_le])
        | ((with_reducible apply AWp.region); simp -implicitDefEqProofs [hf0, ci_lt, ci_le])
        | (with_reducible refine And.intro (by first | omega | assumption | decide) ?_)
        | ((with_reducible show condK _ _ _); simp -implicitDefEqProofs [hf0, ci_lt, ci_le])
        | ((with_reducible show guardK _ _ _ _ _ _ _ _ _); simp -implicitDefEqProofs [hf0, ci_lt, ci_le])
        | (((with_reducible apply AWp.drawS (id := 9) (t := (Sch.step 0 (Sch.step 1 (Sch.step 2 (Sch.step 3 (Sch.step 5 (Sch.read 4 (Sch.read 6 (Sch.step 7 (Sch.step 8 (Sch.step 9 (Sch.step 10 (Sch.step 11 (Sch.step 12 (Sch.step 14 (Sch.read 13 (Sch.read 15 (Sch.step 16 (Sch.step 17 (Sch.step 18 (Sch.step 19 (Sch.step 20 (Sch.step 22 (Sch.step 23 (Sch.step 25 (Sch.read 21 (Sch.pure 24 (Sch.step 26 (Sch.step 27 Sch.done)))))))))))))))))))))))))))))); (exact mixed); kernel_rfl; kernel_rfl; (repeat (with_reducible first | apply PanQ.then | apply PanQ.block | apply PanQ.body | apply PanQ.no))); simp -implicitDefEqProofs [hf0, ci_lt, ci_le])
        | (((with_reducible apply AWp.drawS (id := 11) (t := (Sch.step 0 (Sch.step 1 (Sch.step 3 (Sch.step 7 (Sch.step 8 (Sch.read 2 (Sch.read 4 (Sch.pure 5 (Sch.read 9 (Sch.step 6 (Sch.pure 10 (Sch.read 11 (Sch.step 12 (Sch.step 13 Sch.done)))))))))))))))); (exact mixed); kernel_rfl; kernel_rfl; (repeat (with_reducible first | apply PanQ.then | apply PanQ.block | apply PanQ.body | apply PanQ.no))); simp -implicitDefEqProofs [hf0, ci_lt, ci_le])
        | ((with_reducible apply aCall.id); first
            | ((apply aCall.gives (hw _)); simp -implicitDefEqProofs [hf0, ci_lt, ci_le])
            | ((apply aCall.gives (hr _)); simp -implicitDefEqProofs [hf0, ci_lt, ci_le]))
        | ((with_reducible apply pureCall.id); first
            | ((apply pureCall.gives (fun _ => hw _)); simp -implicitDefEqProofs [hf0, ci_lt, ci_le])
            | ((apply pureCall.gives (fun _ => hr _)); simp -implicitDefEqProofs [hf0, ci_lt, ci_le]))
        | ((with_reducible apply AWp.ret); try simp -implicitDefEqProofs [hf0, ci_lt, ci_le])
        | ((with_reducible apply AWp.skip); try simp -implicitDefEqProofs [hf0, ci_lt, ci_le])
        | ((with_reducible apply AWp.exit); try simp -implicitDefEqProofs [hf0, ci_lt, ci_le]))
    by_cases hf1 : (l.length : Int) ≤ f
    · simp only [clsV, askV] at hr ⊢
      refine ACalls.of_body Try.func9 rfl rfl (by simp [Try.ntmps9]) ?_
      repeat (first
        | (with_reducible apply AWp.seq)
        | (with_reducible apply AWp.block)
        | ((with_reducible apply AWp.fork); simp -implicitDefEqProofs [ci_lt, ci_le])
        | ((with_reducible apply AWp.region); simp -implicitDefEqProofs [ci_lt, ci_le])
        | (with_reducible refine And.intro (by first | omega | assumption | decide) ?_)
        | ((with_reducible show condK _ _ _); simp -implicitDefEqProofs [ci_lt, ci_le])
        | ((with_reducible show guardK _ _ _ _ _ _ _ _ _); simp -implicitDefEqProofs [ci_lt, ci_le])
        | (((with_reducible apply AWp.drawS (id := 9) (t := (Sch.step 0 (Sch.step 1 (Sch.step 2 (Sch.step 3 (Sch.step 5 (Sch.read 4 (Sch.read 6 (Sch.step 7 (Sch.step 8 (Sch.step 9 (Sch.step 10 (Sch.step 11 (Sch.step 12 (Sch.step 14 (Sch.read 13 (Sch.read 15 (Sch.step 16 (Sch.step 17 (Sch.step 18 (Sch.step 19 (Sch.step 20 (Sch.step 22 (Sch.step 23 (Sch.step 25 (Sch.read 21 (Sch.pure 24 (Sch.step 26 (Sch.step 27 Sch.done)))))))))))))))))))))))))))))); (exact mixed); kernel_rfl; kernel_rfl; (repeat (with_reducible first | apply PanQ.then | apply PanQ.block | apply PanQ.body | apply PanQ.no))); simp -implicitDefEqProofs [ci_lt, ci_le])
        | (((with_reducible apply AWp.drawS (id := 11) (t := (Sch.step 0 (Sch.step 1 (Sch.step 3 (Sch.step 7 (Sch.step 8 (Sch.read 2 (Sch.read 4 (Sch.pure 5 (Sch.read 9 (Sch.step 6 (Sch.pure 10 (Sch.read 11 (Sch.step 12 (Sch.step 13 Sch.done)))))))))))))))); (exact mixed); kernel_rfl; kernel_rfl; (repeat (with_reducible first | apply PanQ.then | apply PanQ.block | apply PanQ.body | apply PanQ.no))); simp -implicitDefEqProofs [ci_lt, ci_le])
        | ((with_reducible apply AWp.ret); try simp -implicitDefEqProofs [ci_lt, ci_le])
        | ((with_reducible apply AWp.skip); try simp -implicitDefEqProofs [ci_lt, ci_le])
        | ((with_reducible apply AWp.exit); try simp -implicitDefEqProofs [ci_lt, ci_le]))
      intro id h_id
      repeat (first
        | (with_reducible apply AWp.seq)
        | (with_reducible apply AWp.block)
        | ((with_reducible apply AWp.fork); simp -implicitDefEqProofs [hf0, hf1, ci_lt, ci_le])
        | ((with_reducible apply AWp.region); simp -implicitDefEqProofs [hf0, hf1, ci_lt, ci_le])
        | (with_reducible refine And.intro (by first | omega | assumption | decide) ?_)
        | ((with_reducible show condK _ _ _); simp -implicitDefEqProofs [hf0, hf1, ci_lt, ci_le])
        | ((with_reducible show guardK _ _ _ _ _ _ _ _ _); simp -implicitDefEqProofs [hf0, hf1, ci_lt, ci_le])
        | (((with_reducible apply AWp.drawS (id := 9) (t := (Sch.step 0 (Sch.step 1 (Sch.step 2 (Sch.step 3 (Sch.step 5 (Sch.read 4 (Sch.read 6 (Sch.step 7 (Sch.step 8 (Sch.step 9 (Sch.step 10 (Sch.step 11 (Sch.step 12 (Sch.step 14 (Sch.read 13 (Sch.read 15 (Sch.step 16 (Sch.step 17 (Sch.step 18 (Sch.step 19 (Sch.step 20 (Sch.step 22 (Sch.step 23 (Sch.step 25 (Sch.read 21 (Sch.pure 24 (Sch.step 26 (Sch.step 27 Sch.done)))))))))))))))))))))))))))))); (exact mixed); kernel_rfl; kernel_rfl; (repeat (with_reducible first | apply PanQ.then | apply PanQ.block | apply PanQ.body | apply PanQ.no))); simp -implicitDefEqProofs [hf0, hf1, ci_lt, ci_le])
        | (((with_reducible apply AWp.drawS (id := 11) (t := (Sch.step 0 (Sch.step 1 (Sch.step 3 (Sch.step 7 (Sch.step 8 (Sch.read 2 (Sch.read 4 (Sch.pure 5 (Sch.read 9 (Sch.step 6 (Sch.pure 10 (Sch.read 11 (Sch.step 12 (Sch.step 13 Sch.done)))))))))))))))); (exact mixed); kernel_rfl; kernel_rfl; (repeat (with_reducible first | apply PanQ.then | apply PanQ.block | apply PanQ.body | apply PanQ.no))); simp -implicitDefEqProofs [hf0, hf1, ci_lt, ci_le])
        | ((with_reducible apply aCall.id); first
            | ((apply aCall.gives (hw _)); simp -implicitDefEqProofs [hf0, hf1, ci_lt, ci_le])
            | ((apply aCall.gives (hr _)); simp -implicitDefEqProofs [hf0, hf1, ci_lt, ci_le]))
        | ((with_reducible apply pureCall.id); first
            | ((apply pureCall.gives (fun _ => hw _)); simp -implicitDefEqProofs [hf0, hf1, ci_lt, ci_le])
            | ((apply pureCall.gives (fun _ => hr _)); simp -implicitDefEqProofs [hf0, hf1, ci_lt, ci_le]))
        | ((with_reducible apply AWp.ret); try simp -implicitDefEqProofs [hf0, hf1, ci_lt, ci_le])
        | ((with_reducible apply AWp.skip); try simp -implicitDefEqProofs [hf0, hf1, ci_lt, ci_le])
        | ((with_reducible apply AWp.exit); try simp -implicitDefEqProofs [hf0, hf1, ci_lt, ci_le]))
    obtain ⟨n, rfl⟩ : ∃ n : Nat, f = n := ⟨f.toNat, by omega⟩
    have hnl : n < l.length := by omega
    have hnl' : ¬ (l.length : Int) ≤ n := by omega
    have hn0 : ¬ (n : Int) < 0 := by omega
    obtain ⟨d, hd⟩ : ∃ d, l[n] = d := ⟨_, rfl⟩
    by_cases hk : d.k = 2
    · have hk' := eq_true hk
      have hn := fun f a (ha : -9223372036854775808 ≤ a) σ => next_ok l .unk nl x f a (by omega) ha σ
      have hnf := fun σ => hn n (-1) (by omega) σ
      have hfi := fun f u σ => fins_ok l .unk nl x f u (by omega) σ
      have hfl := finsS_len l x
      have hmono : (finsS l x n (-1)).length ≤ (finsS l x (-1) (-1)).length := someI_mono (fun j c h => by
        simp only [finC, askS, Bool.and_eq_true] at h ⊢
        exact ⟨h.1, h.2.1, h.2.2.1, by simp [flB]⟩)
      have hf1 := hfi n (-1)
      have hf2 := hfi (-1) (-1)
      have hl1 := hfl n (-1)
      have hl2 := hfl (-1) (-1)
      clear hfi hfl
      generalize finsS l x n (-1) = L1 at *
      generalize finsS l x (-1) (-1) = L2 at *
      simp only [clsV, askV, intsV] at hr hn hnf hf1 hf2 ⊢
      have hfin : ∀ (i : Nat) (c : Cl), l[i]? = some c → mayC l x n c = true → ¬ c.hf < d.fl ∧ ¬ d.hf < c.ht := by
        intro i c h1 h2
        obtain ⟨_, h3, h4⟩ := may_free h2
        have hdn : l[n]? = some d := by simp [hnl, hd]
        have hb : d.fl ≤ c.tf ∧ c.tt ≤ d.hf := by
          unfold flB at h4
          rw [if_neg (by omega), if_pos (by omega), show ((n : Int)).toNat = n by omega, hdn] at h4
          simpa [hk] using h4
        have := floor_in hR h1 hdn hk h3 hb.1 hb.2
        omega
      have hst : ∀ a : Int, nextS l x n a = -1 ∨ ∃ (j : Nat) (c : Cl), l[j]? = some c ∧ nextS l x n a = j ∧ mayC l x n c = true := by
        intro a
        by_cases h : 0 ≤ nextS l x n a
        · obtain ⟨i, c, i1, i2, i3, i4⟩ := next_some h
          exact .inr ⟨i, c, i1, i2, i4⟩
        · exact .inl (next_neg h)
      refine ACalls.of_body Try.func9 rfl rfl (by simp [Try.ntmps9]) ?_
      repeat (first
        | (with_reducible apply AWp.seq)
        | (with_reducible apply AWp.block)
        | ((with_reducible apply AWp.fork); simp -implicitDefEqProofs [ci_lt, ci_le])
        | ((with_reducible apply AWp.region); simp -implicitDefEqProofs [ci_lt, ci_le])
        | (with_reducible refine And.intro (by first | omega | assumption | decide) ?_)
        | ((with_reducible show condK _ _ _); simp -implicitDefEqProofs [ci_lt, ci_le])
        | ((with_reducible show guardK _ _ _ _ _ _ _ _ _); simp -implicitDefEqProofs [ci_lt, ci_le])
        | (((with_reducible apply AWp.drawS (id := 9) (t := (Sch.step 0 (Sch.step 1 (Sch.step 2 (Sch.step 3 (Sch.step 5 (Sch.read 4 (Sch.read 6 (Sch.step 7 (Sch.step 8 (Sch.step 9 (Sch.step 10 (Sch.step 11 (Sch.step 12 (Sch.step 14 (Sch.read 13 (Sch.read 15 (Sch.step 16 (Sch.step 17 (Sch.step 18 (Sch.step 19 (Sch.step 20 (Sch.step 22 (Sch.step 23 (Sch.step 25 (Sch.read 21 (Sch.pure 24 (Sch.step 26 (Sch.step 27 Sch.done)))))))))))))))))))))))))))))); (exact mixed); kernel_rfl; kernel_rfl; (repeat (with_reducible first | apply PanQ.then | apply PanQ.block | apply PanQ.body | apply PanQ.no))); simp -implicitDefEqProofs [ci_lt, ci_le])
        | (((with_reducible apply AWp.drawS (id := 11) (t := (Sch.step 0 (Sch.step 1 (Sch.step 3 (Sch.step 7 (Sch.step 8 (Sch.read 2 (Sch.read 4 (Sch.pure 5 (Sch.read 9 (Sch.step 6 (Sch.pure 10 (Sch.read 11 (Sch.step 12 (Sch.step 13 Sch.done)))))))))))))))); (exact mixed); kernel_rfl; kernel_rfl; (repeat (with_reducible first | apply PanQ.then | apply PanQ.block | apply PanQ.body | apply PanQ.no))); simp -implicitDefEqProofs [ci_lt, ci_le])
        | ((with_reducible apply AWp.ret); try simp -implicitDefEqProofs [ci_lt, ci_le])
        | ((with_reducible apply AWp.skip); try simp -implicitDefEqProofs [ci_lt, ci_le])
        | ((with_reducible apply AWp.exit); try simp -implicitDefEqProofs [ci_lt, ci_le]))
      intro id h_id
      repeat (first
        | (with_reducible apply AWp.seq)
        | (with_reducible apply AWp.block)
        | ((with_reducible apply AWp.fork); simp -implicitDefEqProofs [hnl, hnl', hn0, hd, clV_def, hk', ci_lt, ci_le])
        | ((with_reducible apply AWp.region); simp -implicitDefEqProofs [hnl, hnl', hn0, hd, clV_def, hk', ci_lt, ci_le])
        | (with_reducible refine And.intro (by first | omega | assumption | decide) ?_)
        | ((with_reducible show condK _ _ _); simp -implicitDefEqProofs [hnl, hnl', hn0, hd, clV_def, hk', ci_lt, ci_le])
        | ((with_reducible show guardK _ _ _ _ _ _ _ _ _); simp -implicitDefEqProofs [hnl, hnl', hn0, hd, clV_def, hk', ci_lt, ci_le])
        | (((with_reducible apply AWp.drawS (id := 9) (t := (Sch.step 0 (Sch.step 1 (Sch.step 2 (Sch.step 3 (Sch.step 5 (Sch.read 4 (Sch.read 6 (Sch.step 7 (Sch.step 8 (Sch.step 9 (Sch.step 10 (Sch.step 11 (Sch.step 12 (Sch.step 14 (Sch.read 13 (Sch.read 15 (Sch.step 16 (Sch.step 17 (Sch.step 18 (Sch.step 19 (Sch.step 20 (Sch.step 22 (Sch.step 23 (Sch.step 25 (Sch.read 21 (Sch.pure 24 (Sch.step 26 (Sch.step 27 Sch.done)))))))))))))))))))))))))))))); (exact mixed); kernel_rfl; kernel_rfl; (repeat (with_reducible first | apply PanQ.then | apply PanQ.block | apply PanQ.body | apply PanQ.no))); simp -implicitDefEqProofs [hnl, hnl', hn0, hd, clV_def, hk', ci_lt, ci_le])
        | (((with_reducible apply AWp.drawS (id := 11) (t := (Sch.step 0 (Sch.step 1 (Sch.step 3 (Sch.step 7 (Sch.step 8 (Sch.read 2 (Sch.read 4 (Sch.pure 5 (Sch.read 9 (Sch.step 6 (Sch.pure 10 (Sch.read 11 (Sch.step 12 (Sch.step 13 Sch.done)))))))))))))))); (exact mixed); kernel_rfl; kernel_rfl; (repeat (with_reducible first | apply PanQ.then | apply PanQ.block | apply PanQ.body | apply PanQ.no))); simp -implicitDefEqProofs [hnl, hnl', hn0, hd, clV_def, hk', ci_lt, ci_le])
        | ((with_reducible apply aCall.id); first
            | ((apply aCall.gives (hw _)); simp -implicitDefEqProofs [hnl, hnl', hn0, hd, clV_def, hk', ci_lt, ci_le])
            | ((apply aCall.gives (hr _)); simp -implicitDefEqProofs [hnl, hnl', hn0, hd, clV_def, hk', ci_lt, ci_le]))
        | ((with_reducible apply pureCall.id); first
            | ((apply pureCall.gives (fun _ => hw _)); simp -implicitDefEqProofs [hnl, hnl', hn0, hd, clV_def, hk', ci_lt, ci_le])
            | ((apply pureCall.gives (fun _ => hr _)); simp -implicitDefEqProofs [hnl, hnl', hn0, hd, clV_def, hk', ci_lt, ci_le]))
        | ((with_reducible apply AWp.ret); try simp -implicitDefEqProofs [hnl, hnl', hn0, hd, clV_def, hk', ci_lt, ci_le])
        | ((with_reducible apply AWp.skip); try simp -implicitDefEqProofs [hnl, hnl', hn0, hd, clV_def, hk', ci_lt, ci_le])
        | ((with_reducible apply AWp.exit); try simp -implicitDefEqProofs [hnl, hnl', hn0, hd, clV_def, hk', ci_lt, ci_le]))
      intro id2 n_id2_id h_id2
      have n_id_id2 : ¬ id = id2 := fun e => n_id2_id e.symm
      repeat (first
        | (with_reducible apply AWp.seq)
        | (with_reducible apply AWp.block)
        | ((with_reducible apply AWp.fork); simp -implicitDefEqProofs [hnl, hd, clV_def, ci_lt, ci_le, n_id2_id, n_id_id2])
        | ((with_reducible apply AWp.region); simp -implicitDefEqProofs [hnl, hd, clV_def, ci_lt, ci_le, n_id2_id, n_id_id2])
        | (with_reducible refine And.intro (by first | omega | assumption | decide) ?_)
        | ((with_reducible show condK _ _ _); simp -implicitDefEqProofs [hnl, hd, clV_def, ci_lt, ci_le, n_id2_id, n_id_id2])
        | ((with_reducible show guardK _ _ _ _ _ _ _ _ _); simp -implicitDefEqProofs [hnl, hd, clV_def, ci_lt, ci_le, n_id2_id, n_id_id2])
        | (((with_reducible apply AWp.drawS (id := 9) (t := (Sch.step 0 (Sch.step 1 (Sch.step 2 (Sch.step 3 (Sch.step 5 (Sch.read 4 (Sch.read 6 (Sch.step 7 (Sch.step 8 (Sch.step 9 (Sch.step 10 (Sch.step 11 (Sch.step 12 (Sch.step 14 (Sch.read 13 (Sch.read 15 (Sch.step 16 (Sch.step 17 (Sch.step 18 (Sch.step 19 (Sch.step 20 (Sch.step 22 (Sch.step 23 (Sch.step 25 (Sch.read 21 (Sch.pure 24 (Sch.step 26 (Sch.step 27 Sch.done)))))))))))))))))))))))))))))); (exact mixed); kernel_rfl; kernel_rfl; (repeat (with_reducible first | apply PanQ.then | apply PanQ.block | apply PanQ.body | apply PanQ.no))); simp -implicitDefEqProofs [hnl, hd, clV_def, ci_lt, ci_le, n_id2_id, n_id_id2])
        | (((with_reducible apply AWp.drawS (id := 11) (t := (Sch.step 0 (Sch.step 1 (Sch.step 3 (Sch.step 7 (Sch.step 8 (Sch.read 2 (Sch.read 4 (Sch.pure 5 (Sch.read 9 (Sch.step 6 (Sch.pure 10 (Sch.read 11 (Sch.step 12 (Sch.step 13 Sch.done)))))))))))))))); (exact mixed); kernel_rfl; kernel_rfl; (repeat (with_reducible first | apply PanQ.then | apply PanQ.block | apply PanQ.body | apply PanQ.no))); simp -implicitDefEqProofs [hnl, hd, clV_def, ci_lt, ci_le, n_id2_id, n_id_id2])
        | ((with_reducible apply aCall.id); first
            | ((apply aCall.gives (hnf _)); simp -implicitDefEqProofs [hnl, hd, clV_def, ci_lt, ci_le, n_id2_id, n_id_id2]))
        | ((with_reducible apply pureCall.id); first
            | ((apply pureCall.gives (fun _ => hnf _)); simp -implicitDefEqProofs [hnl, hd, clV_def, ci_lt, ci_le, n_id2_id, n_id_id2]))
        | ((with_reducible apply AWp.ret); try simp -implicitDefEqProofs [hnl, hd, clV_def, ci_lt, ci_le, n_id2_id, n_id_id2])
        | ((with_reducible apply AWp.skip); try simp -implicitDefEqProofs [hnl, hd, clV_def, ci_lt, ci_le, n_id2_id, n_id_id2])
        | ((with_reducible apply AWp.exit); try simp -implicitDefEqProofs [hnl, hd, clV_def, ci_lt, ci_le, n_id2_id, n_id_id2]))
      refine AWp.loopA (α := (Int)) (nextS l x n (-1)) (fun y => msr l.length y) (fun y => (y = -1 ∨ ∃ (j : Nat) (c : Cl), l[j]? = some c ∧ y = j ∧ mayC l x n c = true) ∧ True) [(0, ?_), (3, ?_), (5, ?_)] (fun y => [(6, .sc (.int .i64 y))]) (fun y => (AS.set noAS id (.cells 51 [.sc (.int .i64 x), .sc (.int .i64 n), .sc (.int .i64 k), .sc (.int .i64 t)])).set id2 (.cells 45 (clV d).cells)) ?_ ?_ ?_ ?_
      rotate_left 3
      · (try dsimp only); (simp only [List.cons_append, List.nil_append]; repeat (first | exact FrWk.nil | refine FrWk.cons (by first | (simp -implicitDefEqProofs [ci_lt, ci_le, n_id2_id, n_id_id2]; done) | exact Wk.of (by (try simp -implicitDefEqProofs [ci_lt, ci_le, n_id2_id, n_id_id2]) <;> rfl)) ?_))
      · (try dsimp only); (first | exact AS.le_refl _ | assumption | (repeat (first | exact AS.le_refl _ | assumption | refine le_new (by simp [*]) ?_)))
      · exact ⟨hst _, trivial⟩
      intro y hx_
      try dsimp only at hx_ ⊢
      obtain ⟨hy, _⟩ := hx_
      simp only [List.cons_append, List.nil_append]
      have w0 : IntKind.i64.wrap ((-1 : Int) - 1) = -2 := by decide
      rcases hy with rfl | ⟨i, c, i1, rfl, i2⟩
      · by_cases hlen : (L1.length : Int) ≤ L2.length
        · repeat (first
            | (with_reducible apply AWp.seq)
            | (with_reducible apply AWp.block)
            | ((with_reducible apply AWp.fork); simp -implicitDefEqProofs [hlen, ci_lt, ci_le, n_id2_id, n_id_id2])
            | ((with_reducible apply AWp.region); simp -implicitDefEqProofs [hlen, ci_lt, ci_le, n_id2_id, n_id_id2])
            | (with_reducible refine And.intro (by first | omega | assumption | decide) ?_)
            | ((with_reducible show condK _ _ _); simp -implicitDefEqProofs [hlen, ci_lt, ci_le, n_id2_id, n_id_id2])
            | ((with_reducible show guardK _ _ _ _ _ _ _ _ _); simp -implicitDefEqProofs [hlen, ci_lt, ci_le, n_id2_id, n_id_id2])
            | (((with_reducible apply AWp.drawS (id := 9) (t := (Sch.step 0 (Sch.step 1 (Sch.step 2 (Sch.step 3 (Sch.step 5 (Sch.read 4 (Sch.read 6 (Sch.step 7 (Sch.step 8 (Sch.step 9 (Sch.step 10 (Sch.step 11 (Sch.step 12 (Sch.step 14 (Sch.read 13 (Sch.read 15 (Sch.step 16 (Sch.step 17 (Sch.step 18 (Sch.step 19 (Sch.step 20 (Sch.step 22 (Sch.step 23 (Sch.step 25 (Sch.read 21 (Sch.pure 24 (Sch.step 26 (Sch.step 27 Sch.done)))))))))))))))))))))))))))))); (exact mixed); kernel_rfl; kernel_rfl; (repeat (with_reducible first | apply PanQ.then | apply PanQ.block | apply PanQ.body | apply PanQ.no))); simp -implicitDefEqProofs [hlen, ci_lt, ci_le, n_id2_id, n_id_id2])
            | (((with_reducible apply AWp.drawS (id := 11) (t := (Sch.step 0 (Sch.step 1 (Sch.step 3 (Sch.step 7 (Sch.step 8 (Sch.read 2 (Sch.read 4 (Sch.pure 5 (Sch.read 9 (Sch.step 6 (Sch.pure 10 (Sch.read 11 (Sch.step 12 (Sch.step 13 Sch.done)))))))))))))))); (exact mixed); kernel_rfl; kernel_rfl; (repeat (with_reducible first | apply PanQ.then | apply PanQ.block | apply PanQ.body | apply PanQ.no))); simp -implicitDefEqProofs [hlen, ci_lt, ci_le, n_id2_id, n_id_id2])
            | ((with_reducible apply aCall.id); first
                | ((apply aCall.gives (hf1 _)); simp -implicitDefEqProofs [hlen, ci_lt, ci_le, n_id2_id, n_id_id2])
                | ((apply aCall.gives (hf2 _)); simp -implicitDefEqProofs [hlen, ci_lt, ci_le, n_id2_id, n_id_id2]))
            | ((with_reducible apply pureCall.id); first
                | ((apply pureCall.gives (fun _ => hf1 _)); simp -implicitDefEqProofs [hlen, ci_lt, ci_le, n_id2_id, n_id_id2])
                | ((apply pureCall.gives (fun _ => hf2 _)); simp -implicitDefEqProofs [hlen, ci_lt, ci_le, n_id2_id, n_id_id2]))
            | ((with_reducible apply AWp.ret); try simp -implicitDefEqProofs [hlen, ci_lt, ci_le, n_id2_id, n_id_id2])
            | ((with_reducible apply AWp.skip); try simp -implicitDefEqProofs [hlen, ci_lt, ci_le, n_id2_id, n_id_id2])
            | ((with_reducible apply AWp.exit); try simp -implicitDefEqProofs [hlen, ci_lt, ci_le, n_id2_id, n_id_id2]))
        · exfalso; omega
      · obtain ⟨hi, hci⟩ := List.getElem?_eq_some_iff.1 i1
        obtain ⟨e1, e2⟩ := hfin i c i1 i2
        have hnp := fun σ => hn (-1) ((i : Int) - 1) (by omega) σ
        rw [next_pred i1 (may_free i2).1] at hnp
        have hni := fun σ => hn n i (by omega) σ
        have hms := msr_lt (l := l) (x := x) (f := n) hi
        have hsn := hst i
        have hy1 : (0 : Int) ≤ i := by omega
        have w1 : IntKind.i64.wrap ((i : Int) - 1) = (i : Int) - 1 := in_i64 (by omega) (by omega)
        repeat (first
          | (with_reducible apply AWp.seq)
          | (with_reducible apply AWp.block)
          | ((with_reducible apply AWp.fork); simp -implicitDefEqProofs [hy1, e1, e2, w1, hi, hci, clV_def, ci_lt, ci_le, n_id2_id, n_id_id2])
          | ((with_reducible apply AWp.region); simp -implicitDefEqProofs [hy1, e1, e2, w1, hi, hci, clV_def, ci_lt, ci_le, n_id2_id, n_id_id2])
          | (with_reducible refine And.intro (by first | omega | assumption | decide) ?_)
          | ((with_reducible show condK _ _ _); simp -implicitDefEqProofs [hy1, e1, e2, w1, hi, hci, clV_def, ci_lt, ci_le, n_id2_id, n_id_id2])
          | ((with_reducible show guardK _ _ _ _ _ _ _ _ _); simp -implicitDefEqProofs [hy1, e1, e2, w1, hi, hci, clV_def, ci_lt, ci_le, n_id2_id, n_id_id2])
          | (((with_reducible apply AWp.drawS (id := 9) (t := (Sch.step 0 (Sch.step 1 (Sch.step 2 (Sch.step 3 (Sch.step 5 (Sch.read 4 (Sch.read 6 (Sch.step 7 (Sch.step 8 (Sch.step 9 (Sch.step 10 (Sch.step 11 (Sch.step 12 (Sch.step 14 (Sch.read 13 (Sch.read 15 (Sch.step 16 (Sch.step 17 (Sch.step 18 (Sch.step 19 (Sch.step 20 (Sch.step 22 (Sch.step 23 (Sch.step 25 (Sch.read 21 (Sch.pure 24 (Sch.step 26 (Sch.step 27 Sch.done)))))))))))))))))))))))))))))); (exact mixed); kernel_rfl; kernel_rfl; (repeat (with_reducible first | apply PanQ.then | apply PanQ.block | apply PanQ.body | apply PanQ.no))); simp -implicitDefEqProofs [hy1, e1, e2, w1, hi, hci, clV_def, ci_lt, ci_le, n_id2_id, n_id_id2])
          | (((with_reducible apply AWp.drawS (id := 11) (t := (Sch.step 0 (Sch.step 1 (Sch.step 3 (Sch.step 7 (Sch.step 8 (Sch.read 2 (Sch.read 4 (Sch.pure 5 (Sch.read 9 (Sch.step 6 (Sch.pure 10 (Sch.read 11 (Sch.step 12 (Sch.step 13 Sch.done)))))))))))))))); (exact mixed); kernel_rfl; kernel_rfl; (repeat (with_reducible first | apply PanQ.then | apply PanQ.block | apply PanQ.body | apply PanQ.no))); simp -implicitDefEqProofs [hy1, e1, e2, w1, hi, hci, clV_def, ci_lt, ci_le, n_id2_id, n_id_id2])
          | ((with_reducible apply aCall.id); first
              | ((apply aCall.gives (hnp _)); simp -implicitDefEqProofs [hy1, e1, e2, w1, hi, hci, clV_def, ci_lt, ci_le, n_id2_id, n_id_id2])
              | ((apply aCall.gives (hni _)); simp -implicitDefEqProofs [hy1, e1, e2, w1, hi, hci, clV_def, ci_lt, ci_le, n_id2_id, n_id_id2]))
          | ((with_reducible apply pureCall.id); first
              | ((apply pureCall.gives (fun _ => hnp _)); simp -implicitDefEqProofs [hy1, e1, e2, w1, hi, hci, clV_def, ci_lt, ci_le, n_id2_id, n_id_id2])
              | ((apply pureCall.gives (fun _ => hni _)); simp -implicitDefEqProofs [hy1, e1, e2, w1, hi, hci, clV_def, ci_lt, ci_le, n_id2_id, n_id_id2]))
          | ((with_reducible apply AWp.ret); try simp -implicitDefEqProofs [hy1, e1, e2, w1, hi, hci, clV_def, ci_lt, ci_le, n_id2_id, n_id_id2])
          | ((with_reducible apply AWp.skip); try simp -implicitDefEqProofs [hy1, e1, e2, w1, hi, hci, clV_def, ci_lt, ci_le, n_id2_id, n_id_id2])
          | ((with_reducible apply AWp.exit); try simp -implicitDefEqProofs [hy1, e1, e2, w1, hi, hci, clV_def, ci_lt, ci_le, n_id2_id, n_id_id2]))
        refine stepA.mk (nextS l x n i) (by (try dsimp only); omega) (by (try dsimp only); (simp only [List.cons_append, List.nil_append]; repeat (first | exact FrWk.nil | refine FrWk.cons (by first | (simp -implicitDefEqProofs [ci_lt, ci_le, n_id2_id, n_id_id2]; done) | exact Wk.of (by (try simp -implicitDefEqProofs [ci_lt, ci_le, n_id2_id, n_id_id2]) <;> rfl)) ?_))) (by (try dsimp only); (first | exact AS.le_refl _ | assumption | (repeat (first | exact AS.le_refl _ | assumption | refine le_new (by simp [*]) ?_)))) ?_
        try dsimp only
        exact hsn
    · have hk' := eq_false hk
      simp only [clsV, askV] at hr ⊢
      refine ACalls.of_body Try.func9 rfl rfl (by simp [Try.ntmps9]) ?_
      repeat (first
        | (with_reducible apply AWp.seq)
        | (with_reducible apply AWp.block)
        | ((with_reducible apply AWp.fork); simp -implicitDefEqProofs [ci_lt, ci_le])
        | ((with_reducible apply AWp.region); simp -implicitDefEqProofs [ci_lt, ci_le])
        | (with_reducible refine And.intro (by first | omega | assumption | decide) ?_)
        | ((with_reducible show condK _ _ _); simp -implicitDefEqProofs [ci_lt, ci_le])
        | ((with_reducible show guardK _ _ _ _ _ _ _ _ _); simp -implicitDefEqProofs [ci_lt, ci_le])
        | (((with_reducible apply AWp.drawS (id := 9) (t := (Sch.step 0 (Sch.step 1 (Sch.step 2 (Sch.step 3 (Sch.step 5 (Sch.read 4 (Sch.read 6 (Sch.step 7 (Sch.step 8 (Sch.step 9 (Sch.step 10 (Sch.step 11 (Sch.step 12 (Sch.step 14 (Sch.read 13 (Sch.read 15 (Sch.step 16 (Sch.step 17 (Sch.step 18 (Sch.step 19 (Sch.step 20 (Sch.step 22 (Sch.step 23 (Sch.step 25 (Sch.read 21 (Sch.pure 24 (Sch.step 26 (Sch.step 27 Sch.done)))))))))))))))))))))))))))))); (exact mixed); kernel_rfl; kernel_rfl; (repeat (with_reducible first | apply PanQ.then | apply PanQ.block | apply PanQ.body | apply PanQ.no))); simp -implicitDefEqProofs [ci_lt, ci_le])
        | (((with_reducible apply AWp.drawS (id := 11) (t := (Sch.step 0 (Sch.step 1 (Sch.step 3 (Sch.step 7 (Sch.step 8 (Sch.read 2 (Sch.read 4 (Sch.pure 5 (Sch.read 9 (Sch.step 6 (Sch.pure 10 (Sch.read 11 (Sch.step 12 (Sch.step 13 Sch.done)))))))))))))))); (exact mixed); kernel_rfl; kernel_rfl; (repeat (with_reducible first | apply PanQ.then | apply PanQ.block | apply PanQ.body | apply PanQ.no))); simp -implicitDefEqProofs [ci_lt, ci_le])
        | ((with_reducible apply AWp.ret); try simp -implicitDefEqProofs [ci_lt, ci_le])
        | ((with_reducible apply AWp.skip); try simp -implicitDefEqProofs [ci_lt, ci_le])
        | ((with_reducible apply AWp.exit); try simp -implicitDefEqProofs [ci_lt, ci_le]))
      intro id h_id
      repeat (first
        | (with_reducible apply AWp.seq)
        | (with_reducible apply AWp.block)
        | ((with_reducible apply AWp.fork); simp -implicitDefEqProofs [hnl, hnl', hn0, hd, clV_def, hk', ci_lt, ci_le])
        | ((with_reducible apply AWp.region); simp -implicitDefEqProofs [hnl, hnl', hn0, hd, clV_def, hk', ci_lt, ci_le])
        | (with_reducible refine And.intro (by first | omega | assumption | decide) ?_)
        | ((with_reducible show condK _ _ _); simp -implicitDefEqProofs [hnl, hnl', hn0, hd, clV_def, hk', ci_lt, ci_le])
        | ((with_reducible show guardK _ _ _ _ _ _ _ _ _); simp -implicitDefEqProofs [hnl, hnl', hn0, hd, clV_def, hk', ci_lt, ci_le])
        | (((with_reducible apply AWp.drawS (id := 9) (t := (Sch.step 0 (Sch.step 1 (Sch.step 2 (Sch.step 3 (Sch.step 5 (Sch.read 4 (Sch.read 6 (Sch.step 7 (Sch.step 8 (Sch.step 9 (Sch.step 10 (Sch.step 11 (Sch.step 12 (Sch.step 14 (Sch.read 13 (Sch.read 15 (Sch.step 16 (Sch.step 17 (Sch.step 18 (Sch.step 19 (Sch.step 20 (Sch.step 22 (Sch.step 23 (Sch.step 25 (Sch.read 21 (Sch.pure 24 (Sch.step 26 (Sch.step 27 Sch.done)))))))))))))))))))))))))))))); (exact mixed); kernel_rfl; kernel_rfl; (repeat (with_reducible first | apply PanQ.then | apply PanQ.block | apply PanQ.body | apply PanQ.no))); simp -implicitDefEqProofs [hnl, hnl', hn0, hd, clV_def, hk', ci_lt, ci_le])
        | (((with_reducible apply AWp.drawS (id := 11) (t := (Sch.step 0 (Sch.step 1 (Sch.step 3 (Sch.step 7 (Sch.step 8 (Sch.read 2 (Sch.read 4 (Sch.pure 5 (Sch.read 9 (Sch.step 6 (Sch.pure 10 (Sch.read 11 (Sch.step 12 (Sch.step 13 Sch.done)))))))))))))))); (exact mixed); kernel_rfl; kernel_rfl; (repeat (with_reducible first | apply PanQ.then | apply PanQ.block | apply PanQ.body | apply PanQ.no))); simp -implicitDefEqProofs [hnl, hnl', hn0, hd, clV_def, hk', ci_lt, ci_le])
        | ((with_reducible apply aCall.id); first
            | ((apply aCall.gives (hw _)); simp -implicitDefEqProofs [hnl, hnl', hn0, hd, clV_def, hk', ci_lt, ci_le])
            | ((apply aCall.gives (hr _)); simp -implicitDefEqProofs [hnl, hnl', hn0, hd, clV_def, hk', ci_lt, ci_le]))
        | ((with_reducible apply pureCall.id); first
            | ((apply pureCall.gives (fun _ => hw _)); simp -implicitDefEqProofs [hnl, hnl', hn0, hd, clV_def, hk', ci_lt, ci_le])
            | ((apply pureCall.gives (fun _ => hr _)); simp -implicitDefEqProofs [hnl, hnl', hn0, hd, clV_def, hk', ci_lt, ci_le]))
        | ((with_reducible apply AWp.ret); try simp -implicitDefEqProofs [hnl, hnl', hn0, hd, clV_def, hk', ci_lt, ci_le])
        | ((with_reducible apply AWp.skip); try simp -implicitDefEqProofs [hnl, hnl', hn0, hd, clV_def, hk', ci_lt, ci_le])
        | ((with_reducible apply AWp.exit); try simp -implicitDefEqProofs [hnl, hnl', hn0, hd, clV_def, hk', ci_lt, ci_le]))

theorem unwindAsks_ok (l : List Cl) (nl : Bool) (x f k t : Int) (hk : -9223372036854775808 ≤ k) (hl : l.length ≤ 140737488355328) :
    ACalls Try.prog 11 [clsV l .unk nl, askV x f k t] noAS IsTrue No := by
  have hw := fun σ => uwakes_ok σ
  have hr := fun σ => right_ok 200 l .unk nl hl σ
  have hR := right200 (l := l)
  generalize decide ((checkS (aloneR 200) fitsR l).2 = 0) = b at *
  cases b with
  | false =>
    simp only [clsV, askV] at hr ⊢
    refine ACalls.of_body Try.func11 rfl rfl (by simp [Try.ntmps11]) ?_
    repeat (first
      | (with_reducible apply AWp.seq)
      | (with_reducible apply AWp.block)
      | ((with_reducible apply AWp.fork); simp -implicitDefEqProofs)
      | ((with_reducible apply AWp.region); simp -implicitDefEqProofs)
      | (with_reducible refine And.intro (by first | omega | assumption | decide) ?_)
      | (((with_reducible apply AWp.drawS (id := 6) (t := (Sch.step 0 (Sch.step 1 (Sch.step 3 (Sch.step 5 (Sch.step 8 (Sch.step 9 (Sch.step 11 (Sch.step 13 (Sch.read 2 (Sch.read 4 (Sch.read 6 (Sch.pure 7 (Sch.read 10 (Sch.read 12 (Sch.read 14 (Sch.pure 15 (Sch.step 16 (Sch.step 17 (Sch.step 18 (Sch.step 19 (Sch.step 21 (Sch.step 23 (Sch.step 26 (Sch.step 27 (Sch.step 29 (Sch.step 31 (Sch.read 20 (Sch.read 22 (Sch.read 24 (Sch.pure 25 (Sch.read 28 (Sch.read 30 (Sch.read 32 (Sch.pure 33 (Sch.pure 34 (Sch.step 35 (Sch.step 36 Sch.done))))))))))))))))))))))))))))))))))))))); (exact mixed); kernel_rfl; kernel_rfl; (repeat (with_reducible first | apply PanQ.then | apply PanQ.block | apply PanQ.body | apply PanQ.no))); simp -implicitDefEqProofs)
      | (((with_reducible apply AWp.drawS (id := 8) (t := (Sch.step 0 (Sch.step 1 (Sch.step 4 (Sch.step 5 (Sch.read 2 (Sch.pure 3 (Sch.read 6 (Sch.pure 7 (Sch.step 8 (Sch.step 9 (Sch.step 10 (Sch.step 11 (Sch.step 13 (Sch.step 16 (Sch.step 17 (Sch.step 19 (Sch.read 12 (Sch.read 14 (Sch.pure 15 (Sch.read 18 (Sch.read 20 (Sch.pure 21 (Sch.step 22 (Sch.step 23 (Sch.step 24 (Sch.step 25 (Sch.step 26 (Sch.step 28 (Sch.step 31 (Sch.step 32 (Sch.step 34 (Sch.read 27 (Sch.read 29 (Sch.pure 30 (Sch.read 33 (Sch.read 35 (Sch.pure 36 (Sch.pure 37 (Sch.step 38 (Sch.step 39 Sch.done)))))))))))))))))))))))))))))))))))))))))); (exact mixed); kernel_rfl; kernel_rfl; (repeat (with_reducible first | apply PanQ.then | apply PanQ.block | apply PanQ.body | apply PanQ.no))); simp -implicitDefEqProofs)
      | ((with_reducible apply AWp.ret); try simp -implicitDefEqProofs)
      | ((with_reducible apply AWp.skip); try simp -implicitDefEqProofs)
      | ((with_reducible apply AWp.exit); try simp -implicitDefEqProofs))
    intro id h_id
    repeat (first
      | (with_reducible apply AWp.seq)
      | (with_reducible apply AWp.block)
      | ((with_reducible apply AWp.fork); simp -implicitDefEqProofs)
      | ((with_reducible apply AWp.region); simp -implicitDefEqProofs)
      | (with_reducible refine And.intro (by first | omega | assumption | decide) ?_)
      | (((with_reducible apply AWp.drawS (id := 6) (t := (Sch.step 0 (Sch.step 1 (Sch.step 3 (Sch.step 5 (Sch.step 8 (Sch.step 9 (Sch.step 11 (Sch.step 13 (Sch.read 2 (Sch.read 4 (Sch.read 6 (Sch.pure 7 (Sch.read 10 (Sch.read 12 (Sch.read 14 (Sch.pure 15 (Sch.step 16 (Sch.step 17 (Sch.step 18 (Sch.step 19 (Sch.step 21 (Sch.step 23 (Sch.step 26 (Sch.step 27 (Sch.step 29 (Sch.step 31 (Sch.read 20 (Sch.read 22 (Sch.read 24 (Sch.pure 25 (Sch.read 28 (Sch.read 30 (Sch.read 32 (Sch.pure 33 (Sch.pure 34 (Sch.step 35 (Sch.step 36 Sch.done))))))))))))))))))))))))))))))))))))))); (exact mixed); kernel_rfl; kernel_rfl; (repeat (with_reducible first | apply PanQ.then | apply PanQ.block | apply PanQ.body | apply PanQ.no))); simp -implicitDefEqProofs)
      | (((with_reducible apply AWp.drawS (id := 8) (t := (Sch.step 0 (Sch.step 1 (Sch.step 4 (Sch.step 5 (Sch.read 2 (Sch.pure 3 (Sch.read 6 (Sch.pure 7 (Sch.step 8 (Sch.step 9 (Sch.step 10 (Sch.step 11 (Sch.step 13 (Sch.step 16 (Sch.step 17 (Sch.step 19 (Sch.read 12 (Sch.read 14 (Sch.pure 15 (Sch.read 18 (Sch.read 20 (Sch.pure 21 (Sch.step 22 (Sch.step 23 (Sch.step 24 (Sch.step 25 (Sch.step 26 (Sch.step 28 (Sch.step 31 (Sch.step 32 (Sch.step 34 (Sch.read 27 (Sch.read 29 (Sch.pure 30 (Sch.read 33 (Sch.read 35 (Sch.pure 36 (Sch.pure 37 (Sch.step 38 (Sch.step 39 Sch.done)))))))))))))))))))))))))))))))))))))))))); (exact mixed); kernel_rfl; kernel_rfl; (repeat (with_reducible first | apply PanQ.then | apply PanQ.block | apply PanQ.body | apply PanQ.no))); simp -implicitDefEqProofs)
      | ((with_reducible apply aCall.id); first
          | ((apply aCall.gives (hw _)); simp -implicitDefEqProofs)
          | ((apply aCall.gives (hr _)); simp -implicitDefEqProofs))
      | ((with_reducible apply pureCall.id); first
          | ((apply pureCall.gives (fun _ => hw _)); simp -implicitDefEqProofs)
          | ((apply pureCall.gives (fun _ => hr _)); simp -implicitDefEqProofs))
      | ((with_reducible apply AWp.ret); try simp -implicitDefEqProofs)
      | ((with_reducible apply AWp.skip); try simp -implicitDefEqProofs)
      | ((with_reducible apply AWp.exit); try simp -implicitDefEqProofs))
  | true =>
    have hR := hR rfl
    have h6 := hR.1
    have hla := chainS_len l x
    have hn1 := fun o nl σ => next_ok l o nl x f k (by omega) hk σ
    have hn2 := fun σ => rnext_ok l .unk nl x f k (by omega) σ
    have hf1 := fun o nl σ => fins_ok l o nl x f k (by omega) σ
    have hf2 := fun σ => rfins_ok l .unk nl x f k (by omega) σ
    have hh1 := fun o nl σ => handler_ok l o nl x (by omega) σ
    have hh2 := fun σ => rhandler_ok l .unk nl x (chainS l x) (chain_doc hR (by omega)) (by omega) (by omega) (fun p hp => by
      obtain ⟨i, c, _, h2, _⟩ := mem_chain hp
      exact (parts_k h2).2) σ
    have hk1 := fun o nl σ => keeps_ok l o nl k x (by omega) σ
    have hk2 := fun σ => rkeeps_ok l .unk nl k x (by omega) σ
    have hl1 := fun o nl σ => leaves_ok l o nl x t (by omega) σ
    have hl2 := fun σ => rfinals_ok l .unk nl x t (by omega) σ
    have hb1 := finsS_len l x f k
    have hb2 := some_len (f := fun c => finalS c x t) (l := l) (k := 0)
    generalize nextS l x f k = v1 at *
    generalize finsS l x f k = L1 at *
    generalize hanS (chainS l x) = v2 at *
    generalize keepS l k x = v3 at *
    generalize someS (fun c => finalS c x t) 0 l = L2 at *
    have hs1 := fun o1 o2 n1 n2 σ => same11_ok L1 L1 o1 o2 n1 n2 (by omega) (by omega) σ
    have hs2 := fun o1 o2 n1 n2 σ => same11_ok L2 L2 o1 o2 n1 n2 (by omega) (by omega) σ
    simp only [clsV, askV, intsV] at hr hn1 hn2 hf1 hf2 hh1 hh2 hk1 hk2 hl1 hl2 hs1 hs2 ⊢
    simp only [decide_true] at hs1 hs2
    refine ACalls.of_body Try.func11 rfl rfl (by simp [Try.ntmps11]) ?_
    repeat (first
      | (with_reducible apply AWp.seq)
      | (with_reducible apply AWp.block)
      | ((with_reducible apply AWp.fork); simp -implicitDefEqProofs)
      | ((with_reducible apply AWp.region); simp -implicitDefEqProofs)
      | (with_reducible refine And.intro (by first | omega | assumption | decide) ?_)
      | (((with_reducible apply AWp.drawS (id := 6) (t := (Sch.step 0 (Sch.step 1 (Sch.step 3 (Sch.step 5 (Sch.step 8 (Sch.step 9 (Sch.step 11 (Sch.step 13 (Sch.read 2 (Sch.read 4 (Sch.read 6 (Sch.pure 7 (Sch.read 10 (Sch.read 12 (Sch.read 14 (Sch.pure 15 (Sch.step 16 (Sch.step 17 (Sch.step 18 (Sch.step 19 (Sch.step 21 (Sch.step 23 (Sch.step 26 (Sch.step 27 (Sch.step 29 (Sch.step 31 (Sch.read 20 (Sch.read 22 (Sch.read 24 (Sch.pure 25 (Sch.read 28 (Sch.read 30 (Sch.read 32 (Sch.pure 33 (Sch.pure 34 (Sch.step 35 (Sch.step 36 Sch.done))))))))))))))))))))))))))))))))))))))); (exact mixed); kernel_rfl; kernel_rfl; (repeat (with_reducible first | apply PanQ.then | apply PanQ.block | apply PanQ.body | apply PanQ.no))); simp -implicitDefEqProofs)
      | (((with_reducible apply AWp.drawS (id := 8) (t := (Sch.step 0 (Sch.step 1 (Sch.step 4 (Sch.step 5 (Sch.read 2 (Sch.pure 3 (Sch.read 6 (Sch.pure 7 (Sch.step 8 (Sch.step 9 (Sch.step 10 (Sch.step 11 (Sch.step 13 (Sch.step 16 (Sch.step 17 (Sch.step 19 (Sch.read 12 (Sch.read 14 (Sch.pure 15 (Sch.read 18 (Sch.read 20 (Sch.pure 21 (Sch.step 22 (Sch.step 23 (Sch.step 24 (Sch.step 25 (Sch.step 26 (Sch.step 28 (Sch.step 31 (Sch.step 32 (Sch.step 34 (Sch.read 27 (Sch.read 29 (Sch.pure 30 (Sch.read 33 (Sch.read 35 (Sch.pure 36 (Sch.pure 37 (Sch.step 38 (Sch.step 39 Sch.done)))))))))))))))))))))))))))))))))))))))))); (exact mixed); kernel_rfl; kernel_rfl; (repeat (with_reducible first | apply PanQ.then | apply PanQ.block | apply PanQ.body | apply PanQ.no))); simp -implicitDefEqProofs)
      | ((with_reducible apply AWp.ret); try simp -implicitDefEqProofs)
      | ((with_reducible apply AWp.skip); try simp -implicitDefEqProofs)
      | ((with_reducible apply AWp.exit); try simp -implicitDefEqProofs))
    intro id h_id
    repeat (first
      | (with_reducible apply AWp.seq)
      | (with_reducible apply AWp.block)
      | ((with_reducible apply AWp.fork); simp -implicitDefEqProofs)
      | ((with_reducible apply AWp.region); simp -implicitDefEqProofs)
      | (with_reducible refine And.intro (by first | omega | assumption | decide) ?_)
      | (((with_reducible apply AWp.drawS (id := 6) (t := (Sch.step 0 (Sch.step 1 (Sch.step 3 (Sch.step 5 (Sch.step 8 (Sch.step 9 (Sch.step 11 (Sch.step 13 (Sch.read 2 (Sch.read 4 (Sch.read 6 (Sch.pure 7 (Sch.read 10 (Sch.read 12 (Sch.read 14 (Sch.pure 15 (Sch.step 16 (Sch.step 17 (Sch.step 18 (Sch.step 19 (Sch.step 21 (Sch.step 23 (Sch.step 26 (Sch.step 27 (Sch.step 29 (Sch.step 31 (Sch.read 20 (Sch.read 22 (Sch.read 24 (Sch.pure 25 (Sch.read 28 (Sch.read 30 (Sch.read 32 (Sch.pure 33 (Sch.pure 34 (Sch.step 35 (Sch.step 36 Sch.done))))))))))))))))))))))))))))))))))))))); (exact mixed); kernel_rfl; kernel_rfl; (repeat (with_reducible first | apply PanQ.then | apply PanQ.block | apply PanQ.body | apply PanQ.no))); simp -implicitDefEqProofs)
      | (((with_reducible apply AWp.drawS (id := 8) (t := (Sch.step 0 (Sch.step 1 (Sch.step 4 (Sch.step 5 (Sch.read 2 (Sch.pure 3 (Sch.read 6 (Sch.pure 7 (Sch.step 8 (Sch.step 9 (Sch.step 10 (Sch.step 11 (Sch.step 13 (Sch.step 16 (Sch.step 17 (Sch.step 19 (Sch.read 12 (Sch.read 14 (Sch.pure 15 (Sch.read 18 (Sch.read 20 (Sch.pure 21 (Sch.step 22 (Sch.step 23 (Sch.step 24 (Sch.step 25 (Sch.step 26 (Sch.step 28 (Sch.step 31 (Sch.step 32 (Sch.step 34 (Sch.read 27 (Sch.read 29 (Sch.pure 30 (Sch.read 33 (Sch.read 35 (Sch.pure 36 (Sch.pure 37 (Sch.step 38 (Sch.step 39 Sch.done)))))))))))))))))))))))))))))))))))))))))); (exact mixed); kernel_rfl; kernel_rfl; (repeat (with_reducible first | apply PanQ.then | apply PanQ.block | apply PanQ.body | apply PanQ.no))); simp -implicitDefEqProofs)
      | ((with_reducible apply aCall.id); first
          | ((apply aCall.gives (hw _)); simp -implicitDefEqProofs)
          | ((apply aCall.gives (hr _)); simp -implicitDefEqProofs))
      | ((with_reducible apply pureCall.id); first
          | ((apply pureCall.gives (fun _ => hw _)); simp -implicitDefEqProofs)
          | ((apply pureCall.gives (fun _ => hr _)); simp -implicitDefEqProofs))
      | ((with_reducible apply AWp.ret); try simp -implicitDefEqProofs)
      | ((with_reducible apply AWp.skip); try simp -implicitDefEqProofs)
      | ((with_reducible apply AWp.exit); try simp -implicitDefEqProofs))
    intro tk n_tk_id h_tk
    have n_id_tk : ¬ id = tk := fun e => n_tk_id e.symm
    repeat (first
      | (with_reducible apply AWp.seq)
      | (with_reducible apply AWp.block)
      | ((with_reducible apply AWp.fork); simp -implicitDefEqProofs [n_tk_id, n_id_tk])
      | ((with_reducible apply AWp.region); simp -implicitDefEqProofs [n_tk_id, n_id_tk])
      | (with_reducible refine And.intro (by first | omega | assumption | decide) ?_)
      | ((with_reducible show condK _ _ _); simp -implicitDefEqProofs [n_tk_id, n_id_tk])
      | ((with_reducible show guardK _ _ _ _ _ _ _ _ _); simp -implicitDefEqProofs [n_tk_id, n_id_tk])
      | (((with_reducible apply AWp.drawS (id := 6) (t := (Sch.step 0 (Sch.step 1 (Sch.step 3 (Sch.step 5 (Sch.step 8 (Sch.step 9 (Sch.step 11 (Sch.step 13 (Sch.read 2 (Sch.read 4 (Sch.read 6 (Sch.pure 7 (Sch.read 10 (Sch.read 12 (Sch.read 14 (Sch.pure 15 (Sch.step 16 (Sch.step 17 (Sch.step 18 (Sch.step 19 (Sch.step 21 (Sch.step 23 (Sch.step 26 (Sch.step 27 (Sch.step 29 (Sch.step 31 (Sch.read 20 (Sch.read 22 (Sch.read 24 (Sch.pure 25 (Sch.read 28 (Sch.read 30 (Sch.read 32 (Sch.pure 33 (Sch.pure 34 (Sch.step 35 (Sch.step 36 Sch.done))))))))))))))))))))))))))))))))))))))); (exact mixed); kernel_rfl; kernel_rfl; (repeat (with_reducible first | apply PanQ.then | apply PanQ.block | apply PanQ.body | apply PanQ.no))); simp -implicitDefEqProofs [n_tk_id, n_id_tk])
      | (((with_reducible apply AWp.drawS (id := 8) (t := (Sch.step 0 (Sch.step 1 (Sch.step 4 (Sch.step 5 (Sch.read 2 (Sch.pure 3 (Sch.read 6 (Sch.pure 7 (Sch.step 8 (Sch.step 9 (Sch.step 10 (Sch.step 11 (Sch.step 13 (Sch.step 16 (Sch.step 17 (Sch.step 19 (Sch.read 12 (Sch.read 14 (Sch.pure 15 (Sch.read 18 (Sch.read 20 (Sch.pure 21 (Sch.step 22 (Sch.step 23 (Sch.step 24 (Sch.step 25 (Sch.step 26 (Sch.step 28 (Sch.step 31 (Sch.step 32 (Sch.step 34 (Sch.read 27 (Sch.read 29 (Sch.pure 30 (Sch.read 33 (Sch.read 35 (Sch.pure 36 (Sch.pure 37 (Sch.step 38 (Sch.step 39 Sch.done)))))))))))))))))))))))))))))))))))))))))); (exact mixed); kernel_rfl; kernel_rfl; (repeat (with_reducible first | apply PanQ.then | apply PanQ.block | apply PanQ.body | apply PanQ.no))); simp -implicitDefEqProofs [n_tk_id, n_id_tk])
      | ((with_reducible apply aCall.id); first
          | ((apply aCall.gives (hn1 _ _ _)); simp -implicitDefEqProofs [n_tk_id, n_id_tk])
          | ((apply aCall.gives (hn2 _)); simp -implicitDefEqProofs [n_tk_id, n_id_tk])
          | ((apply aCall.gives (hf1 _ _ _)); simp -implicitDefEqProofs [n_tk_id, n_id_tk])
          | ((apply aCall.gives (hf2 _)); simp -implicitDefEqProofs [n_tk_id, n_id_tk])
          | ((apply aCall.gives (hs1 _ _ _ _ _)); simp -implicitDefEqProofs [n_tk_id, n_id_tk])
          | ((apply aCall.gives (hh1 _ _ _)); simp -implicitDefEqProofs [n_tk_id, n_id_tk])
          | ((apply aCall.gives (hh2 _)); simp -implicitDefEqProofs [n_tk_id, n_id_tk])
          | ((apply aCall.gives (hk1 _ _ _)); simp -implicitDefEqProofs [n_tk_id, n_id_tk])
          | ((apply aCall.gives (hk2 _)); simp -implicitDefEqProofs [n_tk_id, n_id_tk])
          | ((apply aCall.gives (hl1 _ _ _)); simp -implicitDefEqProofs [n_tk_id, n_id_tk])
          | ((apply aCall.gives (hl2 _)); simp -implicitDefEqProofs [n_tk_id, n_id_tk])
          | ((apply aCall.gives (hs2 _ _ _ _ _)); simp -implicitDefEqProofs [n_tk_id, n_id_tk]))
      | ((with_reducible apply pureCall.id); first
          | ((apply pureCall.gives (fun _ => hn1 _ _ _)); simp -implicitDefEqProofs [n_tk_id, n_id_tk])
          | ((apply pureCall.gives (fun _ => hn2 _)); simp -implicitDefEqProofs [n_tk_id, n_id_tk])
          | ((apply pureCall.gives (fun _ => hf1 _ _ _)); simp -implicitDefEqProofs [n_tk_id, n_id_tk])
          | ((apply pureCall.gives (fun _ => hf2 _)); simp -implicitDefEqProofs [n_tk_id, n_id_tk])
          | ((apply pureCall.gives (fun _ => hs1 _ _ _ _ _)); simp -implicitDefEqProofs [n_tk_id, n_id_tk])
          | ((apply pureCall.gives (fun _ => hh1 _ _ _)); simp -implicitDefEqProofs [n_tk_id, n_id_tk])
          | ((apply pureCall.gives (fun _ => hh2 _)); simp -implicitDefEqProofs [n_tk_id, n_id_tk])
          | ((apply pureCall.gives (fun _ => hk1 _ _ _)); simp -implicitDefEqProofs [n_tk_id, n_id_tk])
          | ((apply pureCall.gives (fun _ => hk2 _)); simp -implicitDefEqProofs [n_tk_id, n_id_tk])
          | ((apply pureCall.gives (fun _ => hl1 _ _ _)); simp -implicitDefEqProofs [n_tk_id, n_id_tk])
          | ((apply pureCall.gives (fun _ => hl2 _)); simp -implicitDefEqProofs [n_tk_id, n_id_tk])
          | ((apply pureCall.gives (fun _ => hs2 _ _ _ _ _)); simp -implicitDefEqProofs [n_tk_id, n_id_tk]))
      | ((with_reducible apply AWp.ret); try simp -implicitDefEqProofs [n_tk_id, n_id_tk])
      | ((with_reducible apply AWp.skip); try simp -implicitDefEqProofs [n_tk_id, n_id_tk])
      | ((with_reducible apply AWp.exit); try simp -implicitDefEqProofs [n_tk_id, n_id_tk]))

theorem unwindEach_ok (l : List Cl) (nl : Bool) (x f k t : Int) (hl : l.length ≤ 140737488355328) :
    ACalls Try.prog 10 [clsV l .unk nl, askV x f k t] noAS IsTrue No := by
  have hw := fun σ => uwakes_ok σ
  have hr := fun σ => right_ok 200 l .unk nl hl σ
  have hR := right200 (l := l)
  generalize decide ((checkS (aloneR 200) fitsR l).2 = 0) = b at *
  cases b with
  | false =>
    simp only [clsV, askV] at hr ⊢
    refine ACalls.of_body Try.func10 rfl rfl (by simp [Try.ntmps10]) ?_
    repeat (first
      | (with_reducible apply AWp.seq)
      | (with_reducible apply AWp.block)
      | ((with_reducible apply AWp.fork); simp -implicitDefEqProofs)
      | ((with_reducible apply AWp.region); simp -implicitDefEqProofs)
      | (with_reducible refine And.intro (by first | omega | assumption | decide) ?_)
      | ((with_reducible apply AWp.ret); try simp -implicitDefEqProofs)
      | ((with_reducible apply AWp.skip); try simp -implicitDefEqProofs)
      | ((with_reducible apply AWp.exit); try simp -implicitDefEqProofs))
    intro id h_id
    repeat (first
      | (with_reducible apply AWp.seq)
      | (with_reducible apply AWp.block)
      | ((with_reducible apply AWp.fork); simp -implicitDefEqProofs)
      | ((with_reducible apply AWp.region); simp -implicitDefEqProofs)
      | (with_reducible refine And.intro (by first | omega | assumption | decide) ?_)
      | ((with_reducible apply aCall.id); first
          | ((apply aCall.gives (hw _)); simp -implicitDefEqProofs)
          | ((apply aCall.gives (hr _)); simp -implicitDefEqProofs))
      | ((with_reducible apply AWp.ret); try simp -implicitDefEqProofs)
      | ((with_reducible apply AWp.skip); try simp -implicitDefEqProofs)
      | ((with_reducible apply AWp.exit); try simp -implicitDefEqProofs))
  | true =>
    have hR := hR rfl
    have h6 := hR.1
    have hn := fun a (ha : -9223372036854775808 ≤ a) σ => next_ok l .unk nl x (-1) a (by omega) ha σ
    have hn0 := hn (-1) (by omega)
    rw [want_first] at hn0
    have hfi := fun σ => fins_ok l .unk nl x (-1) (-1) (by omega) σ
    have hti := fun σ => rtries_ok l .unk nl x (by omega) σ
    have hwe := want_eq (x := x) hR
    have hre := rest_eq (x := x) hR
    have hwl : (wantS l x).length ≤ l.length := someI_len
    have htl := some_len (f := fun c => triedS c x) (l := l) (k := 0)
    have hfl := finsS_len l x (-1) (-1)
    have htm : ∀ y ∈ someS (fun c => triedS c x) 0 l, ∃ (i : Nat) (c : Cl), l[i]? = some c ∧ y = i := fun y hy => by
      rw [someS_I, someI_mem] at hy
      obtain ⟨i, c, h1, h2, _⟩ := hy
      exact ⟨i, c, h1, by simpa using h2⟩
    have hwn := fun y d r => want_next (l := l) (x := x) (y := y) (d := d) (r := r)
    have hwp := fun y => want_pos (l := l) (x := x) (y := y)
    rw [← hre] at hfi hfl
    rw [← hwe] at hn0 hwl hwn hwp
    clear hwe hre
    generalize someS (fun c => triedS c x) 0 l = T at *
    have hs1 := fun o1 o2 n1 n2 σ => same11_ok (T.filter (kindB l)) (T.filter (kindB l)) o1 o2 n1 n2 (by omega) (by omega) σ
    have hs2 := fun o1 o2 n1 n2 σ => same11_ok (T.filter (fun k => !kindB l k)) (T.filter (fun k => !kindB l k)) o1 o2 n1 n2 (by omega) (by omega) σ
    simp only [clsV, askV, intsV, decide_true] at hr hn hn0 hfi hti hs1 hs2 ⊢
    refine ACalls.of_body Try.func10 rfl rfl (by simp [Try.ntmps10]) ?_
    repeat (first
      | (with_reducible apply AWp.seq)
      | (with_reducible apply AWp.block)
      | ((with_reducible apply AWp.fork); simp -implicitDefEqProofs [ci_lt, ci_le])
      | ((fail_if_success (with_reducible apply AWp.region (id := 6))); (with_reducible apply AWp.region); simp -implicitDefEqProofs [ci_lt, ci_le])
      | (with_reducible refine And.intro (by first | omega | assumption | decide) ?_)
      | ((with_reducible show condK _ _ _); simp -implicitDefEqProofs [ci_lt, ci_le])
      | ((with_reducible show guardK _ _ _ _ _ _ _ _ _); simp -implicitDefEqProofs [ci_lt, ci_le])
      | ((with_reducible apply AWp.ret); try simp -implicitDefEqProofs [ci_lt, ci_le])
      | ((with_reducible apply AWp.skip); try simp -implicitDefEqProofs [ci_lt, ci_le])
      | ((with_reducible apply AWp.exit); try simp -implicitDefEqProofs [ci_lt, ci_le]))
    intro id h_id
    repeat (first
      | (with_reducible apply AWp.seq)
      | (with_reducible apply AWp.block)
      | ((with_reducible apply AWp.fork); simp -implicitDefEqProofs [ci_lt, ci_le])
      | ((fail_if_success (with_reducible apply AWp.region (id := 6))); (with_reducible apply AWp.region); simp -implicitDefEqProofs [ci_lt, ci_le])
      | (with_reducible refine And.intro (by first | omega | assumption | decide) ?_)
      | ((with_reducible show condK _ _ _); simp -implicitDefEqProofs [ci_lt, ci_le])
      | ((with_reducible show guardK _ _ _ _ _ _ _ _ _); simp -implicitDefEqProofs [ci_lt, ci_le])
      | ((with_reducible apply aCall.id); first
          | ((apply aCall.gives (hw _)); simp -implicitDefEqProofs [ci_lt, ci_le])
          | ((apply aCall.gives (hr _)); simp -implicitDefEqProofs [ci_lt, ci_le]))
      | ((with_reducible apply AWp.ret); try simp -implicitDefEqProofs [ci_lt, ci_le])
      | ((with_reducible apply AWp.skip); try simp -implicitDefEqProofs [ci_lt, ci_le])
      | ((with_reducible apply AWp.exit); try simp -implicitDefEqProofs [ci_lt, ci_le]))
    refine AWp.mint 5 3 [] true (by simp [Try.ntmps10]) (.inr ⟨by simp, rfl, rfl⟩) ?_
    simp -implicitDefEqProofs [ci_lt, ci_le]
    intro tk n_tk_id h_tk
    have n_id_tk : ¬ id = tk := fun e => n_tk_id e.symm
    repeat (first
      | (with_reducible apply AWp.seq)
      | (with_reducible apply AWp.block)
      | ((with_reducible apply AWp.fork); simp -implicitDefEqProofs [n_tk_id, n_id_tk, ci_lt, ci_le])
      | ((fail_if_success (with_reducible apply AWp.region (id := 13))); (with_reducible apply AWp.region); simp -implicitDefEqProofs [n_tk_id, n_id_tk, ci_lt, ci_le])
      | (with_reducible refine And.intro (by first | omega | assumption | decide) ?_)
      | ((with_reducible show condK _ _ _); simp -implicitDefEqProofs [n_tk_id, n_id_tk, ci_lt, ci_le])
      | ((with_reducible show guardK _ _ _ _ _ _ _ _ _); simp -implicitDefEqProofs [n_tk_id, n_id_tk, ci_lt, ci_le])
      | ((with_reducible apply aCall.id); first
          | ((apply aCall.gives (hn0 _)); simp -implicitDefEqProofs [n_tk_id, n_id_tk, ci_lt, ci_le]))
      | ((with_reducible apply AWp.ret); try simp -implicitDefEqProofs [n_tk_id, n_id_tk, ci_lt, ci_le])
      | ((with_reducible apply AWp.skip); try simp -implicitDefEqProofs [n_tk_id, n_id_tk, ci_lt, ci_le])
      | ((with_reducible apply AWp.exit); try simp -implicitDefEqProofs [n_tk_id, n_id_tk, ci_lt, ci_le]))
    refine AWp.loopA (α := (List Int) × (List Int)) (([], T.filter (kindB l))) (fun ⟨d, r⟩ => r.length) (fun ⟨d, r⟩ => d ++ r = T.filter (kindB l) ∧ d.length ≤ l.length) [(0, ?_), (3, ?_)] (fun ⟨d, r⟩ => [(6, .sc (.int .i64 (hdS r))), (5, .lst 3 (d.map i64v) (.tok tk) (decide (d = [])))]) (fun ⟨d, r⟩ => (AS.set noAS id (.cells 51 [.sc (.int .i64 x), .sc (.int .i64 f), .sc (.int .i64 k), .sc (.int .i64 t)])).set tk (.tok d.length)) ?_ ?_ ?_ ?_
    rotate_left 2
    · (try dsimp only); (simp only [List.cons_append, List.nil_append]; repeat (first | exact FrWk.nil | refine FrWk.cons (by first | (simp -implicitDefEqProofs [ci_lt, ci_le]; done) | exact Wk.of (by (try simp -implicitDefEqProofs [ci_lt, ci_le]) <;> rfl)) ?_))
    · (try dsimp only); (first | exact AS.le_refl _ | assumption | (repeat (first | exact AS.le_refl _ | assumption | refine le_new (by simp [*]) ?_)))
    · exact ⟨rfl, by simp⟩
    intro x_ hx_
    obtain ⟨d, r⟩ := x_
    try dsimp only at hx_ ⊢
    obtain ⟨hd, hdl⟩ := hx_
    simp only [List.cons_append, List.nil_append]
    cases r with
    | cons y r =>
      have hy := hwp y (by rw [← hd]; simp)
      have hni := hn y (by omega)
      rw [hwn y d r hd] at hni
      have hdl2 : d.length + 1 ≤ l.length := by rw [← hd] at hwl; simp at hwl; omega
      have hlt1 : ¬ (l.length : Int) < (d.length : Int) + 1 := by omega
      have hrl : (y :: r).length = r.length + 1 := rfl
      have hd1 : d.length ≤ 1000 := by omega
      repeat (first
        | (with_reducible apply AWp.seq)
        | (with_reducible apply AWp.block)
        | ((with_reducible apply AWp.fork); simp -implicitDefEqProofs [hdS, hy, hlt1, hd1, n_tk_id, n_id_tk, ci_lt, ci_le])
        | ((fail_if_success (with_reducible apply AWp.region (id := 13))); (with_reducible apply AWp.region); simp -implicitDefEqProofs [hdS, hy, hlt1, hd1, n_tk_id, n_id_tk, ci_lt, ci_le])
        | (with_reducible refine And.intro (by first | omega | assumption | decide) ?_)
        | ((with_reducible show condK _ _ _); simp -implicitDefEqProofs [hdS, hy, hlt1, hd1, n_tk_id, n_id_tk, ci_lt, ci_le])
        | ((with_reducible show guardK _ _ _ _ _ _ _ _ _); simp -implicitDefEqProofs [hdS, hy, hlt1, hd1, n_tk_id, n_id_tk, ci_lt, ci_le])
        | ((with_reducible apply aCall.id); first
            | ((apply aCall.gives (hni _)); simp -implicitDefEqProofs [hdS, hy, hlt1, hd1, n_tk_id, n_id_tk, ci_lt, ci_le]))
        | ((with_reducible apply AWp.ret); try simp -implicitDefEqProofs [hdS, hy, hlt1, hd1, n_tk_id, n_id_tk, ci_lt, ci_le])
        | ((with_reducible apply AWp.skip); try simp -implicitDefEqProofs [hdS, hy, hlt1, hd1, n_tk_id, n_id_tk, ci_lt, ci_le])
        | ((with_reducible apply AWp.exit); try simp -implicitDefEqProofs [hdS, hy, hlt1, hd1, n_tk_id, n_id_tk, ci_lt, ci_le]))
      refine stepA.mk ((d ++ [y], r)) (by (try dsimp only); omega) (by (try dsimp only); (simp only [List.cons_append, List.nil_append]; repeat (first | exact FrWk.nil | refine FrWk.cons (by first | (simp -implicitDefEqProofs [i64v_def, hdS, ci_lt, ci_le]; done) | exact Wk.of (by (try simp -implicitDefEqProofs [i64v_def, hdS, ci_lt, ci_le]) <;> rfl)) ?_))) (by (try dsimp only); simp) ?_
      try dsimp only
      exact ⟨by simpa using hd, by simp; omega⟩
    | nil =>
      rw [List.append_nil] at hd
      subst hd
      repeat (first
        | (with_reducible apply AWp.seq)
        | (with_reducible apply AWp.block)
        | ((with_reducible apply AWp.fork); simp -implicitDefEqProofs [hdS, ci_lt, ci_le])
        | ((fail_if_success (with_reducible apply AWp.region (id := 13))); (with_reducible apply AWp.region); simp -implicitDefEqProofs [hdS, ci_lt, ci_le])
        | (with_reducible refine And.intro (by first | omega | assumption | decide) ?_)
        | ((with_reducible show condK _ _ _); simp -implicitDefEqProofs [hdS, ci_lt, ci_le])
        | ((with_reducible show guardK _ _ _ _ _ _ _ _ _); simp -implicitDefEqProofs [hdS, ci_lt, ci_le])
        | ((with_reducible apply AWp.ret); try simp -implicitDefEqProofs [hdS, ci_lt, ci_le])
        | ((with_reducible apply AWp.skip); try simp -implicitDefEqProofs [hdS, ci_lt, ci_le])
        | ((with_reducible apply AWp.exit); try simp -implicitDefEqProofs [hdS, ci_lt, ci_le]))
      refine AWp.mint 7 3 [] true (by simp [Try.ntmps10]) (.inr ⟨by simp, rfl, rfl⟩) ?_
      simp -implicitDefEqProofs [ci_lt, ci_le]
      intro tk2 n_tk2_tk n_tk2_id h_tk2
      have n_id_tk2 : ¬ id = tk2 := fun e => n_tk2_id e.symm
      have n_tk_tk2 : ¬ tk = tk2 := fun e => n_tk2_tk e.symm
      refine AWp.mint 8 3 [] true (by simp [Try.ntmps10]) (.inr ⟨by simp, rfl, rfl⟩) ?_
      simp -implicitDefEqProofs [ci_lt, ci_le]
      intro tk3 n_tk3_tk2 n_tk3_tk n_tk3_id h_tk3
      have n_id_tk3 : ¬ id = tk3 := fun e => n_tk3_id e.symm
      have n_tk_tk3 : ¬ tk = tk3 := fun e => n_tk3_tk e.symm
      have n_tk2_tk3 : ¬ tk2 = tk3 := fun e => n_tk3_tk2 e.symm
      repeat (first
        | (with_reducible apply AWp.seq)
        | (with_reducible apply AWp.block)
        | ((with_reducible apply AWp.fork); simp -implicitDefEqProofs [ci_lt, ci_le, n_tk_id, n_id_tk, n_tk2_id, n_tk2_tk, n_id_tk2, n_tk_tk2, n_tk3_tk2, n_tk3_tk, n_tk3_id, n_id_tk3, n_tk_tk3, n_tk2_tk3])
        | ((with_reducible apply AWp.region); simp -implicitDefEqProofs [ci_lt, ci_le, n_tk_id, n_id_tk, n_tk2_id, n_tk2_tk, n_id_tk2, n_tk_tk2, n_tk3_tk2, n_tk3_tk, n_tk3_id, n_id_tk3, n_tk_tk3, n_tk2_tk3])
        | (with_reducible refine And.intro (by first | omega | assumption | decide) ?_)
        | ((with_reducible show condK _ _ _); simp -implicitDefEqProofs [ci_lt, ci_le, n_tk_id, n_id_tk, n_tk2_id, n_tk2_tk, n_id_tk2, n_tk_tk2, n_tk3_tk2, n_tk3_tk, n_tk3_id, n_id_tk3, n_tk_tk3, n_tk2_tk3])
        | ((with_reducible show guardK _ _ _ _ _ _ _ _ _); simp -implicitDefEqProofs [ci_lt, ci_le, n_tk_id, n_id_tk, n_tk2_id, n_tk2_tk, n_id_tk2, n_tk_tk2, n_tk3_tk2, n_tk3_tk, n_tk3_id, n_id_tk3, n_tk_tk3, n_tk2_tk3])
        | ((with_reducible apply aCall.id); first
            | ((apply aCall.gives (hti _)); simp -implicitDefEqProofs [ci_lt, ci_le, n_tk_id, n_id_tk, n_tk2_id, n_tk2_tk, n_id_tk2, n_tk_tk2, n_tk3_tk2, n_tk3_tk, n_tk3_id, n_id_tk3, n_tk_tk3, n_tk2_tk3]))
        | ((with_reducible apply AWp.ret); try simp -implicitDefEqProofs [ci_lt, ci_le, n_tk_id, n_id_tk, n_tk2_id, n_tk2_tk, n_id_tk2, n_tk_tk2, n_tk3_tk2, n_tk3_tk, n_tk3_id, n_id_tk3, n_tk_tk3, n_tk2_tk3])
        | ((with_reducible apply AWp.skip); try simp -implicitDefEqProofs [ci_lt, ci_le, n_tk_id, n_id_tk, n_tk2_id, n_tk2_tk, n_id_tk2, n_tk_tk2, n_tk3_tk2, n_tk3_tk, n_tk3_id, n_id_tk3, n_tk_tk3, n_tk2_tk3])
        | ((with_reducible apply AWp.exit); try simp -implicitDefEqProofs [ci_lt, ci_le, n_tk_id, n_id_tk, n_tk2_id, n_tk2_tk, n_id_tk2, n_tk_tk2, n_tk3_tk2, n_tk3_tk, n_tk3_id, n_id_tk3, n_tk_tk3, n_tk2_tk3]))
      generalize hWL : T.filter (kindB l) = W at *
      generalize hWR : T.filter (fun k => !kindB l k) = W' at *
      refine AWp.loopA (α := (Nat) × (List Int) × (List Int)) ((0, [], [])) (fun ⟨i, a, b⟩ => T.length - i) (fun ⟨i, a, b⟩ => i ≤ T.length ∧ a ++ (T.drop i).filter (kindB l) = W ∧ b ++ (T.drop i).filter (fun k => !kindB l k) = W' ∧ a.length ≤ i ∧ b.length ≤ i) [(0, ?_), (3, ?_), (4, ?_), (5, ?_), (39, ?_), (40, ?_)] (fun ⟨i, a, b⟩ => [(41, .sc (.int .i64 i)), (7, .lst 3 (a.map i64v) (.tok tk2) (decide (a = []))), (8, .lst 3 (b.map i64v) (.tok tk3) (decide (b = [])))]) (fun ⟨i, a, b⟩ => (((AS.set noAS id (.cells 51 [.sc (.int .i64 x), .sc (.int .i64 f), .sc (.int .i64 k), .sc (.int .i64 t)])).set tk (.tok W.length)).set tk2 (.tok a.length)).set tk3 (.tok b.length)) ?_ ?_ ?_ ?_
      rotate_left 6
      · (try dsimp only); (simp only [List.cons_append, List.nil_append]; repeat (first | exact FrWk.nil | refine FrWk.cons (by first | (simp -implicitDefEqProofs [ci_lt, ci_le, n_tk_id, n_id_tk, n_tk2_id, n_tk2_tk, n_id_tk2, n_tk_tk2, n_tk3_tk2, n_tk3_tk, n_tk3_id, n_id_tk3, n_tk_tk3, n_tk2_tk3]; done) | exact Wk.of (by (try simp -implicitDefEqProofs [ci_lt, ci_le, n_tk_id, n_id_tk, n_tk2_id, n_tk2_tk, n_id_tk2, n_tk_tk2, n_tk3_tk2, n_tk3_tk, n_tk3_id, n_id_tk3, n_tk_tk3, n_tk2_tk3]) <;> rfl)) ?_))
      · (try dsimp only); (first | exact AS.le_refl _ | assumption | (repeat (first | exact AS.le_refl _ | assumption | refine le_new (by simp [*]) ?_)))
      · exact ⟨by omega, by simpa using hWL, by simpa using hWR, by simp, by simp⟩
      intro x_ hx_
      obtain ⟨i, a, b⟩ := x_
      try dsimp only at hx_ ⊢
      obtain ⟨hi, hX, hY, ha, hb⟩ := hx_
      simp only [List.cons_append, List.nil_append]
      by_cases hlt : i < T.length
      · have wi_i : IntKind.i64.wrap ((i : Int) + 1) = ((i + 1 : Nat) : Int) := ci_wi (by omega)
        obtain ⟨j, c, j1, j2⟩ := htm T[i] (List.getElem_mem hlt)
        have hkb := kind_at j1
        rw [← j2] at hkb
        rw [List.drop_eq_getElem_cons hlt, List.filter_cons] at hX hY
        rw [hkb] at hX hY
        generalize hq : T[i] = q at *
        subst j2
        obtain ⟨hj, hcj⟩ := List.getElem?_eq_some_iff.1 j1
        have ha1 : a.length ≤ 1000 := by omega
        have hb1 : b.length ≤ 1000 := by omega
        by_cases hk2 : c.k ≤ 2
        · simp [hk2] at hX hY
          repeat (first
            | (with_reducible apply AWp.seq)
            | (with_reducible apply AWp.block)
            | ((with_reducible apply AWp.fork); simp -implicitDefEqProofs [hlt, hq, hj, hcj, clV_def, i64v_def, hk2, ha1, hb1, ci_lt, ci_le, n_tk_id, n_id_tk, n_tk2_id, n_tk2_tk, n_id_tk2, n_tk_tk2, n_tk3_tk2, n_tk3_tk, n_tk3_id, n_id_tk3, n_tk_tk3, n_tk2_tk3, wi_i])
            | ((with_reducible apply AWp.region); simp -implicitDefEqProofs [hlt, hq, hj, hcj, clV_def, i64v_def, hk2, ha1, hb1, ci_lt, ci_le, n_tk_id, n_id_tk, n_tk2_id, n_tk2_tk, n_id_tk2, n_tk_tk2, n_tk3_tk2, n_tk3_tk, n_tk3_id, n_id_tk3, n_tk_tk3, n_tk2_tk3, wi_i])
            | (with_reducible refine And.intro (by first | omega | assumption | decide) ?_)
            | ((with_reducible show condK _ _ _); simp -implicitDefEqProofs [hlt, hq, hj, hcj, clV_def, i64v_def, hk2, ha1, hb1, ci_lt, ci_le, n_tk_id, n_id_tk, n_tk2_id, n_tk2_tk, n_id_tk2, n_tk_tk2, n_tk3_tk2, n_tk3_tk, n_tk3_id, n_id_tk3, n_tk_tk3, n_tk2_tk3, wi_i])
            | ((with_reducible show guardK _ _ _ _ _ _ _ _ _); simp -implicitDefEqProofs [hlt, hq, hj, hcj, clV_def, i64v_def, hk2, ha1, hb1, ci_lt, ci_le, n_tk_id, n_id_tk, n_tk2_id, n_tk2_tk, n_id_tk2, n_tk_tk2, n_tk3_tk2, n_tk3_tk, n_tk3_id, n_id_tk3, n_tk_tk3, n_tk2_tk3, wi_i])
            | ((with_reducible apply AWp.ret); try simp -implicitDefEqProofs [hlt, hq, hj, hcj, clV_def, i64v_def, hk2, ha1, hb1, ci_lt, ci_le, n_tk_id, n_id_tk, n_tk2_id, n_tk2_tk, n_id_tk2, n_tk_tk2, n_tk3_tk2, n_tk3_tk, n_tk3_id, n_id_tk3, n_tk_tk3, n_tk2_tk3, wi_i])
            | ((with_reducible apply AWp.skip); try simp -implicitDefEqProofs [hlt, hq, hj, hcj, clV_def, i64v_def, hk2, ha1, hb1, ci_lt, ci_le, n_tk_id, n_id_tk, n_tk2_id, n_tk2_tk, n_id_tk2, n_tk_tk2, n_tk3_tk2, n_tk3_tk, n_tk3_id, n_id_tk3, n_tk_tk3, n_tk2_tk3, wi_i])
            | ((with_reducible apply AWp.exit); try simp -implicitDefEqProofs [hlt, hq, hj, hcj, clV_def, i64v_def, hk2, ha1, hb1, ci_lt, ci_le, n_tk_id, n_id_tk, n_tk2_id, n_tk2_tk, n_id_tk2, n_tk_tk2, n_tk3_tk2, n_tk3_tk, n_tk3_id, n_id_tk3, n_tk_tk3, n_tk2_tk3, wi_i]))
          refine stepA.mk ((i + 1, a ++ [(j : Int)], b)) (by (try dsimp only); omega) (by (try dsimp only); (simp only [List.cons_append, List.nil_append]; repeat (first | exact FrWk.nil | refine FrWk.cons (by first | (simp -implicitDefEqProofs [i64v_def, ci_lt, ci_le, n_tk_id, n_id_tk, n_tk2_id, n_tk2_tk, n_id_tk2, n_tk_tk2, n_tk3_tk2, n_tk3_tk, n_tk3_id, n_id_tk3, n_tk_tk3, n_tk2_tk3, wi_i]; done) | exact Wk.of (by (try simp -implicitDefEqProofs [i64v_def, ci_lt, ci_le, n_tk_id, n_id_tk, n_tk2_id, n_tk2_tk, n_id_tk2, n_tk_tk2, n_tk3_tk2, n_tk3_tk, n_tk3_id, n_id_tk3, n_tk_tk3, n_tk2_tk3, wi_i]) <;> rfl)) ?_))) (by (try dsimp only); simp) ?_
          try dsimp only
          exact ⟨by omega, by simpa using hX, by simpa using hY, by simp; omega, by omega⟩
        · simp [hk2] at hX hY
          repeat (first
            | (with_reducible apply AWp.seq)
            | (with_reducible apply AWp.block)
            | ((with_reducible apply AWp.fork); simp -implicitDefEqProofs [hlt, hq, hj, hcj, clV_def, i64v_def, hk2, ha1, hb1, ci_lt, ci_le, n_tk_id, n_id_tk, n_tk2_id, n_tk2_tk, n_id_tk2, n_tk_tk2, n_tk3_tk2, n_tk3_tk, n_tk3_id, n_id_tk3, n_tk_tk3, n_tk2_tk3, wi_i])
            | ((with_reducible apply AWp.region); simp -implicitDefEqProofs [hlt, hq, hj, hcj, clV_def, i64v_def, hk2, ha1, hb1, ci_lt, ci_le, n_tk_id, n_id_tk, n_tk2_id, n_tk2_tk, n_id_tk2, n_tk_tk2, n_tk3_tk2, n_tk3_tk, n_tk3_id, n_id_tk3, n_tk_tk3, n_tk2_tk3, wi_i])
            | (with_reducible refine And.intro (by first | omega | assumption | decide) ?_)
            | ((with_reducible show condK _ _ _); simp -implicitDefEqProofs [hlt, hq, hj, hcj, clV_def, i64v_def, hk2, ha1, hb1, ci_lt, ci_le, n_tk_id, n_id_tk, n_tk2_id, n_tk2_tk, n_id_tk2, n_tk_tk2, n_tk3_tk2, n_tk3_tk, n_tk3_id, n_id_tk3, n_tk_tk3, n_tk2_tk3, wi_i])
            | ((with_reducible show guardK _ _ _ _ _ _ _ _ _); simp -implicitDefEqProofs [hlt, hq, hj, hcj, clV_def, i64v_def, hk2, ha1, hb1, ci_lt, ci_le, n_tk_id, n_id_tk, n_tk2_id, n_tk2_tk, n_id_tk2, n_tk_tk2, n_tk3_tk2, n_tk3_tk, n_tk3_id, n_id_tk3, n_tk_tk3, n_tk2_tk3, wi_i])
            | ((with_reducible apply AWp.ret); try simp -implicitDefEqProofs [hlt, hq, hj, hcj, clV_def, i64v_def, hk2, ha1, hb1, ci_lt, ci_le, n_tk_id, n_id_tk, n_tk2_id, n_tk2_tk, n_id_tk2, n_tk_tk2, n_tk3_tk2, n_tk3_tk, n_tk3_id, n_id_tk3, n_tk_tk3, n_tk2_tk3, wi_i])
            | ((with_reducible apply AWp.skip); try simp -implicitDefEqProofs [hlt, hq, hj, hcj, clV_def, i64v_def, hk2, ha1, hb1, ci_lt, ci_le, n_tk_id, n_id_tk, n_tk2_id, n_tk2_tk, n_id_tk2, n_tk_tk2, n_tk3_tk2, n_tk3_tk, n_tk3_id, n_id_tk3, n_tk_tk3, n_tk2_tk3, wi_i])
            | ((with_reducible apply AWp.exit); try simp -implicitDefEqProofs [hlt, hq, hj, hcj, clV_def, i64v_def, hk2, ha1, hb1, ci_lt, ci_le, n_tk_id, n_id_tk, n_tk2_id, n_tk2_tk, n_id_tk2, n_tk_tk2, n_tk3_tk2, n_tk3_tk, n_tk3_id, n_id_tk3, n_tk_tk3, n_tk2_tk3, wi_i]))
          refine stepA.mk ((i + 1, a, b ++ [(j : Int)])) (by (try dsimp only); omega) (by (try dsimp only); (simp only [List.cons_append, List.nil_append]; repeat (first | exact FrWk.nil | refine FrWk.cons (by first | (simp -implicitDefEqProofs [i64v_def, ci_lt, ci_le, n_tk_id, n_id_tk, n_tk2_id, n_tk2_tk, n_id_tk2, n_tk_tk2, n_tk3_tk2, n_tk3_tk, n_tk3_id, n_id_tk3, n_tk_tk3, n_tk2_tk3, wi_i]; done) | exact Wk.of (by (try simp -implicitDefEqProofs [i64v_def, ci_lt, ci_le, n_tk_id, n_id_tk, n_tk2_id, n_tk2_tk, n_id_tk2, n_tk_tk2, n_tk3_tk2, n_tk3_tk, n_tk3_id, n_id_tk3, n_tk_tk3, n_tk2_tk3, wi_i]) <;> rfl)) ?_))) (by (try dsimp only); simp) ?_
          try dsimp only
          exact ⟨by omega, by simpa using hX, by simpa using hY, by omega, by simp; omega⟩
      · rw [List.drop_eq_nil_of_le (by omega)] at hX hY
        simp only [List.filter_nil, List.append_nil] at hX hY
        subst hX hY
        repeat (first
          | (with_reducible apply AWp.seq)
          | (with_reducible apply AWp.block)
          | ((with_reducible apply AWp.fork); simp -implicitDefEqProofs [hlt, ci_lt, ci_le, n_tk_id, n_id_tk, n_tk2_id, n_tk2_tk, n_id_tk2, n_tk_tk2, n_tk3_tk2, n_tk3_tk, n_tk3_id, n_id_tk3, n_tk_tk3, n_tk2_tk3])
          | ((with_reducible apply AWp.region); simp -implicitDefEqProofs [hlt, ci_lt, ci_le, n_tk_id, n_id_tk, n_tk2_id, n_tk2_tk, n_id_tk2, n_tk_tk2, n_tk3_tk2, n_tk3_tk, n_tk3_id, n_id_tk3, n_tk_tk3, n_tk2_tk3])
          | (with_reducible refine And.intro (by first | omega | assumption | decide) ?_)
          | ((with_reducible show condK _ _ _); simp -implicitDefEqProofs [hlt, ci_lt, ci_le, n_tk_id, n_id_tk, n_tk2_id, n_tk2_tk, n_id_tk2, n_tk_tk2, n_tk3_tk2, n_tk3_tk, n_tk3_id, n_id_tk3, n_tk_tk3, n_tk2_tk3])
          | ((with_reducible show guardK _ _ _ _ _ _ _ _ _); simp -implicitDefEqProofs [hlt, ci_lt, ci_le, n_tk_id, n_id_tk, n_tk2_id, n_tk2_tk, n_id_tk2, n_tk_tk2, n_tk3_tk2, n_tk3_tk, n_tk3_id, n_id_tk3, n_tk_tk3, n_tk2_tk3])
          | ((with_reducible apply aCall.id); first
              | ((apply aCall.gives (hs1 _ _ _ _ _)); simp -implicitDefEqProofs [hlt, ci_lt, ci_le, n_tk_id, n_id_tk, n_tk2_id, n_tk2_tk, n_id_tk2, n_tk_tk2, n_tk3_tk2, n_tk3_tk, n_tk3_id, n_id_tk3, n_tk_tk3, n_tk2_tk3])
              | ((apply aCall.gives (hfi _)); simp -implicitDefEqProofs [hlt, ci_lt, ci_le, n_tk_id, n_id_tk, n_tk2_id, n_tk2_tk, n_id_tk2, n_tk_tk2, n_tk3_tk2, n_tk3_tk, n_tk3_id, n_id_tk3, n_tk_tk3, n_tk2_tk3])
              | ((apply aCall.gives (hs2 _ _ _ _ _)); simp -implicitDefEqProofs [hlt, ci_lt, ci_le, n_tk_id, n_id_tk, n_tk2_id, n_tk2_tk, n_id_tk2, n_tk_tk2, n_tk3_tk2, n_tk3_tk, n_tk3_id, n_id_tk3, n_tk_tk3, n_tk2_tk3]))
          | ((with_reducible apply AWp.ret); try simp -implicitDefEqProofs [hlt, ci_lt, ci_le, n_tk_id, n_id_tk, n_tk2_id, n_tk2_tk, n_id_tk2, n_tk_tk2, n_tk3_tk2, n_tk3_tk, n_tk3_id, n_id_tk3, n_tk_tk3, n_tk2_tk3])
          | ((with_reducible apply AWp.skip); try simp -implicitDefEqProofs [hlt, ci_lt, ci_le, n_tk_id, n_id_tk, n_tk2_id, n_tk2_tk, n_id_tk2, n_tk_tk2, n_tk3_tk2, n_tk3_tk, n_tk3_id, n_id_tk3, n_tk_tk3, n_tk2_tk3])
          | ((with_reducible apply AWp.exit); try simp -implicitDefEqProofs [hlt, ci_lt, ci_le, n_tk_id, n_id_tk, n_tk2_id, n_tk2_tk, n_id_tk2, n_tk_tk2, n_tk3_tk2, n_tk3_tk, n_tk3_id, n_id_tk3, n_tk_tk3, n_tk2_tk3]))

end Go.Proofs.Ythbmjmdmamapiaa
