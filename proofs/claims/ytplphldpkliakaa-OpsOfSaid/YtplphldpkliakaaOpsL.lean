/- Chapter 06: the laws' walks. -/
import Derived.Test.YtplphldpkliakaaOps5
set_option linter.unusedSimpArgs false
set_option linter.unusedVariables false
set_option maxRecDepth 100000
set_option maxHeartbeats 3200000
namespace Go.Proofs.Ytplphldpkliakaa
open Go Go.AW

theorem own : ownKnob Try.prog.godebug = none := by kernel_rfl
theorem laidOut : laidOutB Try.prog = true := by kernel_rfl

theorem sh_i : Program.stoodInHeld Try.prog 64 = false := by kernel_rfl
@[simp] theorem eg_i : Program.eqGuardType Try.prog Try.prog.depth 64 = false := by kernel_rfl
theorem eq_i (a a' : ByteArray) (b c b' c' : Int) : eqAV Try.prog 8 64 (.agg [.sc (.string a), .sc (.int .i64 b), .sc (.int .i64 c)]) (.agg [.sc (.string a'), .sc (.int .i64 b'), .sc (.int .i64 c')]) =
    some (decide (a.data = a'.data) && (decide (b = b') && decide (c = c'))) := by
  simp [eqAV, eqFs, sh_i, Try.underlying64, Try.underlying3, Try.underlying9]
theorem eq_is (i : List UInt8 × Int × Int) : eqAV Try.prog 8 64 (.agg [.sc (.string ⟨i.1.toArray⟩), .sc (.int .i64 i.2.1), .sc (.int .i64 i.2.2)]) (.agg [.sc (.string ⟨i.1.toArray⟩), .sc (.int .i64 i.2.1), .sc (.int .i64 i.2.2)]) = some true := by
  simp [eq_i]

/-- An instruction without a type. -/
theorem fits_br : fitsE ⟨34, -1, ⟨0, 0, 0, false⟩⟩ = 17 := by decide +kernel
theorem of_br : ofT 34 = ([98, 114], 5, 1) := by decide +kernel
theorem ofE_br : ofE 34 = 0 := by decide

theorem wakes_ok (σ : AS) : ACalls Try.prog 35 [] σ (Gives (.sc (.bool true)) σ) No := by
  refine ACalls.of_body Try.func35 rfl rfl (by simp [Try.ntmps35]) ?_
  have h1 := fun σ => Of_ok 34 σ
  have h2 := fun σ => kFits_ok ⟨34, -1, ⟨0, 0, 0, false⟩⟩ σ
  simp only [of_br, ofE_br, fits_br, insV, infV] at h1 h2
  repeat (first
    | (with_reducible apply AWp.seq)
    | (with_reducible apply AWp.block)
    | ((with_reducible apply AWp.fork); simp -implicitDefEqProofs)
    | ((with_reducible apply AWp.region); simp -implicitDefEqProofs)
    | (with_reducible refine And.intro (by first | omega | assumption | decide) ?_)
    | ((with_reducible apply aCall.id); first
        | ((apply aCall.gives (h1 _)); simp -implicitDefEqProofs))
    | ((with_reducible apply AWp.ret); try simp -implicitDefEqProofs)
    | ((with_reducible apply AWp.skip); try simp -implicitDefEqProofs)
    | ((with_reducible apply AWp.exit); try simp -implicitDefEqProofs))
  intro id hid
  repeat (first
    | (with_reducible apply AWp.seq)
    | (with_reducible apply AWp.block)
    | ((with_reducible apply AWp.fork); simp -implicitDefEqProofs [eq_i])
    | ((with_reducible apply AWp.region); simp -implicitDefEqProofs [eq_i])
    | (with_reducible refine And.intro (by first | omega | assumption | decide) ?_)
    | ((with_reducible apply aCall.id); first
        | ((apply aCall.gives (h2 _)); simp -implicitDefEqProofs [eq_i])
        | ((apply aCall.gives (many_ok _)); simp -implicitDefEqProofs [eq_i]))
    | ((with_reducible apply AWp.ret); try simp -implicitDefEqProofs [eq_i])
    | ((with_reducible apply AWp.skip); try simp -implicitDefEqProofs [eq_i])
    | ((with_reducible apply AWp.exit); try simp -implicitDefEqProofs [eq_i]))
  all_goals (repeat (first | exact AS.le_refl _ | refine le_new (by simp [hid]) ?_))

theorem opsNamed_ok (s : ByteArray) : ACalls Try.prog 12 [.sc (.string s)] noAS IsTrue No := by
  refine ACalls.of_body Try.func12 rfl rfl (by simp [Try.ntmps12]) ?_
  repeat (first
    | (with_reducible apply AWp.seq)
    | (with_reducible apply AWp.block)
    | ((with_reducible apply AWp.fork); simp -implicitDefEqProofs)
    | ((with_reducible apply AWp.region); simp -implicitDefEqProofs)
    | (with_reducible refine And.intro (by first | omega | assumption | decide) ?_)
    | ((with_reducible apply aCall.id); first
        | ((apply aCall.gives (wakes_ok _)); simp -implicitDefEqProofs)
        | ((apply aCall.gives (Named_ok _ _)); simp -implicitDefEqProofs)
        | ((apply aCall.gives (rNamed_ok _ _)); simp -implicitDefEqProofs))
    | ((with_reducible apply AWp.ret); try simp -implicitDefEqProofs)
    | ((with_reducible apply AWp.skip); try simp -implicitDefEqProofs)
    | ((with_reducible apply AWp.exit); try simp -implicitDefEqProofs))

theorem opsFits_ok (x : Ins) (h1 : -9223372036854775808 ≤ x.arg) (h2 : x.arg < 9223372036854775808) : ACalls Try.prog 8 [insV x] noAS IsTrue No := by
  refine ACalls.of_body Try.func8 rfl rfl (by simp [Try.ntmps8]) ?_
  have hk := fun σ => kFits_ok x σ
  have hr := fun σ => rFits_ok x h1 h2 σ
  obtain ⟨op, arg, k, ix, d, r⟩ := x
  simp only [insV] at hk hr ⊢
  repeat (first
    | (with_reducible apply AWp.seq)
    | (with_reducible apply AWp.block)
    | ((with_reducible apply AWp.fork); simp -implicitDefEqProofs)
    | ((with_reducible apply AWp.region); simp -implicitDefEqProofs)
    | (with_reducible refine And.intro (by first | omega | assumption | decide) ?_)
    | (((with_reducible apply AWp.drawS (id := 1) (t := (Sch.pure 0 (Sch.step 1 (Sch.read 2 (Sch.pure 3 (Sch.read 4 (Sch.pure 5 (Sch.step 6 (Sch.step 7 (Sch.step 8 Sch.done))))))))))); (exact mixed); kernel_rfl; kernel_rfl; (repeat (with_reducible first | apply PanQ.then | apply PanQ.block | apply PanQ.body))); simp -implicitDefEqProofs)
    | ((with_reducible apply AWp.ret); try simp -implicitDefEqProofs)
    | ((with_reducible apply AWp.skip); try simp -implicitDefEqProofs)
    | ((with_reducible apply AWp.exit); try simp -implicitDefEqProofs))
  intro id hid
  repeat (first
    | (with_reducible apply AWp.seq)
    | (with_reducible apply AWp.block)
    | ((with_reducible apply AWp.fork); simp -implicitDefEqProofs)
    | ((with_reducible apply AWp.region); simp -implicitDefEqProofs)
    | (with_reducible refine And.intro (by first | omega | assumption | decide) ?_)
    | (((with_reducible apply AWp.drawS (id := 1) (t := (Sch.pure 0 (Sch.step 1 (Sch.read 2 (Sch.pure 3 (Sch.read 4 (Sch.pure 5 (Sch.step 6 (Sch.step 7 (Sch.step 8 Sch.done))))))))))); (exact mixed); kernel_rfl; kernel_rfl; (repeat (with_reducible first | apply PanQ.then | apply PanQ.block | apply PanQ.body))); simp -implicitDefEqProofs)
    | ((with_reducible apply aCall.id); first
        | ((apply aCall.gives (wakes_ok _)); simp -implicitDefEqProofs)
        | ((apply aCall.gives (hk _)); simp -implicitDefEqProofs)
        | ((apply aCall.gives (hr _)); simp -implicitDefEqProofs))
    | ((with_reducible apply pureCall.id); first
        | ((apply pureCall.gives (fun _ => wakes_ok _)); simp -implicitDefEqProofs)
        | ((apply pureCall.gives (fun _ => hk _)); simp -implicitDefEqProofs)
        | ((apply pureCall.gives (fun _ => hr _)); simp -implicitDefEqProofs))
    | ((with_reducible apply AWp.ret); try simp -implicitDefEqProofs)
    | ((with_reducible apply AWp.skip); try simp -implicitDefEqProofs)
    | ((with_reducible apply AWp.exit); try simp -implicitDefEqProofs))

theorem tab_place : ∀ k : Fin 75, (((ofT ((k.val : Int) + 1)).2.2 = 1 ∨ (ofT ((k.val : Int) + 1)).2.2 = 2 ∨ (ofT ((k.val : Int) + 1)).2.2 = 4) ↔ (ofT ((k.val : Int) + 1)).2.1 = 5) := by decide +kernel

theorem opsPlaces_ok (op : Int) : ACalls Try.prog 10 [.sc (.int .i64 op)] noAS IsTrue No := by
  refine ACalls.of_body Try.func10 rfl rfl (by simp [Try.ntmps10]) ?_
  by_cases h : op < 1 ∨ 75 < op
  · have e1 := tab_out op h
    have e2 : ofE op = 3 := by simp [ofE, h]
    repeat (first
      | (with_reducible apply AWp.seq)
      | (with_reducible apply AWp.block)
      | ((with_reducible apply AWp.fork); simp -implicitDefEqProofs [e1, e2])
      | ((with_reducible apply AWp.region); simp -implicitDefEqProofs [e1, e2])
      | (with_reducible refine And.intro (by first | omega | assumption | decide) ?_)
      | ((with_reducible apply aCall.id); first
          | ((apply aCall.gives (wakes_ok _)); simp -implicitDefEqProofs [e1, e2])
          | ((apply aCall.gives (Of_ok _ _)); simp -implicitDefEqProofs [e1, e2]))
      | ((with_reducible apply AWp.ret); try simp -implicitDefEqProofs [e1, e2])
      | ((with_reducible apply AWp.skip); try simp -implicitDefEqProofs [e1, e2])
      | ((with_reducible apply AWp.exit); try simp -implicitDefEqProofs [e1, e2]))
    intro id hid
    repeat (first
      | (with_reducible apply AWp.seq)
      | (with_reducible apply AWp.block)
      | ((with_reducible apply AWp.fork); simp -implicitDefEqProofs [e1, e2, infV])
      | ((with_reducible apply AWp.region); simp -implicitDefEqProofs [e1, e2, infV])
      | (with_reducible refine And.intro (by first | omega | assumption | decide) ?_)
      | ((with_reducible apply AWp.ret); try simp -implicitDefEqProofs [e1, e2, infV])
      | ((with_reducible apply AWp.skip); try simp -implicitDefEqProofs [e1, e2, infV])
      | ((with_reducible apply AWp.exit); try simp -implicitDefEqProofs [e1, e2, infV]))
  · have e2 : ofE op = 0 := by simp [ofE, h]
    have hp := tab_place ⟨(op - 1).toNat, by omega⟩
    have e : (((op - 1).toNat : Nat) : Int) + 1 = op := by omega
    simp only [e] at hp
    have ho := fun σ => Of_ok op σ
    rw [e2] at ho
    generalize ofT op = it at hp ho
    obtain ⟨i1, i2, i3⟩ := it
    simp only [infV] at hp ho
    repeat (first
      | (with_reducible apply AWp.seq)
      | (with_reducible apply AWp.block)
      | ((with_reducible apply AWp.fork); simp -implicitDefEqProofs)
      | ((with_reducible apply AWp.region); simp -implicitDefEqProofs)
      | (with_reducible refine And.intro (by first | omega | assumption | decide) ?_)
      | ((with_reducible apply aCall.id); first
          | ((apply aCall.gives (wakes_ok _)); simp -implicitDefEqProofs)
          | ((apply aCall.gives (ho _)); simp -implicitDefEqProofs))
      | ((with_reducible apply AWp.ret); try simp -implicitDefEqProofs)
      | ((with_reducible apply AWp.skip); try simp -implicitDefEqProofs)
      | ((with_reducible apply AWp.exit); try simp -implicitDefEqProofs))
    intro id hid
    by_cases c1 : i3 = 1 <;> by_cases c2 : i3 = 2 <;> by_cases c4 : i3 = 4 <;> by_cases c5 : i2 = 5
    all_goals
      first
      | (exfalso; simp [c1, c2, c4, c5] at hp; done)
      | (exfalso; omega)
      | skip
    all_goals
      repeat (first
        | (with_reducible apply AWp.seq)
        | (with_reducible apply AWp.block)
        | ((with_reducible apply AWp.fork); simp -implicitDefEqProofs [c1, c2, c4, c5])
        | ((with_reducible apply AWp.region); simp -implicitDefEqProofs [c1, c2, c4, c5])
        | (with_reducible refine And.intro (by first | omega | assumption | decide) ?_)
        | ((with_reducible apply AWp.ret); try simp -implicitDefEqProofs [c1, c2, c4, c5])
        | ((with_reducible apply AWp.skip); try simp -implicitDefEqProofs [c1, c2, c4, c5])
        | ((with_reducible apply AWp.exit); try simp -implicitDefEqProofs [c1, c2, c4, c5]))
  
theorem tab_named : ∀ k : Fin 75, namedR ⟨(ofT ((k.val : Int) + 1)).1.toArray⟩ = ((k.val : Int) + 1, 0) := by decide +kernel

theorem opsOf_ok (op : Int) : ACalls Try.prog 11 [.sc (.int .i64 op)] noAS IsTrue No := by
  refine ACalls.of_body Try.func11 rfl rfl (by simp [Try.ntmps11]) ?_
  have ho := fun σ => Of_ok op σ
  have hr := fun σ => rOf_ok op σ
  have hE : ofE op = 3 ∨ (ofE op = 0 ∧ namedR ⟨(ofT op).1.toArray⟩ = (op, 0)) := by
    by_cases h : op < 1 ∨ 75 < op
    · left; simp [ofE, h]
    · right
      refine ⟨by simp [ofE, h], ?_⟩
      have hp := tab_named ⟨(op - 1).toNat, by omega⟩
      have e : (((op - 1).toNat : Nat) : Int) + 1 = op := by omega
      simp only [e] at hp
      exact hp
  generalize ofT op = it at ho hr hE
  obtain ⟨i1, i2, i3⟩ := it
  simp only [infV] at ho hr hE
  have hn := fun σ => Named_ok ⟨i1.toArray⟩ σ
  rcases hE with hE | ⟨hE, hN⟩
  · rw [hE] at ho hr
    repeat (first
      | (with_reducible apply AWp.seq)
      | (with_reducible apply AWp.block)
      | ((with_reducible apply AWp.fork); simp -implicitDefEqProofs)
      | ((with_reducible apply AWp.region); simp -implicitDefEqProofs)
      | (with_reducible refine And.intro (by first | omega | assumption | decide) ?_)
      | ((with_reducible apply aCall.id); first
          | ((apply aCall.gives (wakes_ok _)); simp -implicitDefEqProofs)
          | ((apply aCall.gives (ho _)); simp -implicitDefEqProofs))
      | ((with_reducible apply AWp.ret); try simp -implicitDefEqProofs)
      | ((with_reducible apply AWp.skip); try simp -implicitDefEqProofs)
      | ((with_reducible apply AWp.exit); try simp -implicitDefEqProofs))
    intro id hid
    repeat (first
      | (with_reducible apply AWp.seq)
      | (with_reducible apply AWp.block)
      | ((with_reducible apply AWp.fork); simp -implicitDefEqProofs)
      | ((with_reducible apply AWp.region); simp -implicitDefEqProofs)
      | (with_reducible refine And.intro (by first | omega | assumption | decide) ?_)
      | ((with_reducible apply aCall.id); first
          | ((apply aCall.gives (hr _)); simp -implicitDefEqProofs))
      | ((with_reducible apply AWp.ret); try simp -implicitDefEqProofs)
      | ((with_reducible apply AWp.skip); try simp -implicitDefEqProofs)
      | ((with_reducible apply AWp.exit); try simp -implicitDefEqProofs))
    intro id2 ne hid2
    have ne' : ¬ id = id2 := fun e => ne e.symm
    repeat' (first
      | (with_reducible apply AWp.seq)
      | (with_reducible apply AWp.block)
      | ((with_reducible apply AWp.fork); simp -implicitDefEqProofs [ne, ne', eq_i])
      | ((with_reducible apply AWp.region); simp -implicitDefEqProofs [ne, ne', eq_i])
      | (with_reducible refine And.intro (by first | omega | assumption | decide) ?_)
      | trivial
      | (with_reducible apply And.intro)
      | ((with_reducible apply AWp.ret); try simp -implicitDefEqProofs [ne, ne', eq_i])
      | ((with_reducible apply AWp.skip); try simp -implicitDefEqProofs [ne, ne', eq_i])
      | ((with_reducible apply AWp.exit); try simp -implicitDefEqProofs [ne, ne', eq_i])
      | ((with_reducible apply condK.split) <;> (intro hc; (try simp -implicitDefEqProofs only [hc]); (try simp at hc)) <;> try simp -implicitDefEqProofs [ne, ne', eq_i])
      | ((with_reducible apply guardK.split) <;> (intro hc; (try simp -implicitDefEqProofs only [hc]); (try simp at hc)) <;> try simp -implicitDefEqProofs [ne, ne', eq_i])
      | ((with_reducible apply pureG.split) <;> (intro hc; (try simp -implicitDefEqProofs only [hc]); (try simp at hc)) <;> try simp -implicitDefEqProofs [ne, ne', eq_i]))
  · rw [hE] at ho hr
    rw [hN] at hn
    repeat (first
      | (with_reducible apply AWp.seq)
      | (with_reducible apply AWp.block)
      | ((with_reducible apply AWp.fork); simp -implicitDefEqProofs)
      | ((with_reducible apply AWp.region); simp -implicitDefEqProofs)
      | (with_reducible refine And.intro (by first | omega | assumption | decide) ?_)
      | ((with_reducible apply aCall.id); first
          | ((apply aCall.gives (wakes_ok _)); simp -implicitDefEqProofs)
          | ((apply aCall.gives (ho _)); simp -implicitDefEqProofs))
      | ((with_reducible apply AWp.ret); try simp -implicitDefEqProofs)
      | ((with_reducible apply AWp.skip); try simp -implicitDefEqProofs)
      | ((with_reducible apply AWp.exit); try simp -implicitDefEqProofs))
    intro id hid
    repeat (first
      | (with_reducible apply AWp.seq)
      | (with_reducible apply AWp.block)
      | ((with_reducible apply AWp.fork); simp -implicitDefEqProofs)
      | ((with_reducible apply AWp.region); simp -implicitDefEqProofs)
      | (with_reducible refine And.intro (by first | omega | assumption | decide) ?_)
      | ((with_reducible apply aCall.id); first
          | ((apply aCall.gives (hr _)); simp -implicitDefEqProofs))
      | ((with_reducible apply AWp.ret); try simp -implicitDefEqProofs)
      | ((with_reducible apply AWp.skip); try simp -implicitDefEqProofs)
      | ((with_reducible apply AWp.exit); try simp -implicitDefEqProofs))
    intro id2 ne hid2
    have ne' : ¬ id = id2 := fun e => ne e.symm
    repeat' (first
      | (with_reducible apply AWp.seq)
      | (with_reducible apply AWp.block)
      | ((with_reducible apply AWp.fork); simp -implicitDefEqProofs [ne, ne', eq_i])
      | ((with_reducible apply AWp.region); simp -implicitDefEqProofs [ne, ne', eq_i])
      | (with_reducible refine And.intro (by first | omega | assumption | decide) ?_)
      | trivial
      | (with_reducible apply And.intro)
      | ((with_reducible apply aCall.id); first
          | ((apply aCall.gives (hn _)); simp -implicitDefEqProofs [ne, ne', eq_i]))
      | ((with_reducible apply AWp.ret); try simp -implicitDefEqProofs [ne, ne', eq_i])
      | ((with_reducible apply AWp.skip); try simp -implicitDefEqProofs [ne, ne', eq_i])
      | ((with_reducible apply AWp.exit); try simp -implicitDefEqProofs [ne, ne', eq_i])
      | ((with_reducible apply condK.split) <;> (intro hc; (try simp -implicitDefEqProofs only [hc]); (try simp at hc)) <;> try simp -implicitDefEqProofs [ne, ne', eq_i])
      | ((with_reducible apply guardK.split) <;> (intro hc; (try simp -implicitDefEqProofs only [hc]); (try simp at hc)) <;> try simp -implicitDefEqProofs [ne, ne', eq_i])
      | ((with_reducible apply pureG.split) <;> (intro hc; (try simp -implicitDefEqProofs only [hc]); (try simp at hc)) <;> try simp -implicitDefEqProofs [ne, ne', eq_i]))

theorem opsZero_ok (x : Ins) (t : Ty) : ACalls Try.prog 9 [insV x, tyV t] noAS IsTrue No := by
  have hk := fun σ => kFits_ok x σ
  have ho := fun σ => Of_ok x.op σ
  have hk1 := fun σ => kFits_ok { x with arg := 1 } σ
  have hk2 := fun σ => kFits_ok { x with t := t } σ
  have hE : ¬ fitsE x = 0 ∨ noT t = true ∨ ((ofT x.op).2.1 = 8 ∧ fitsE { x with arg := 1 } = 17) ∨ (¬ (ofT x.op).2.1 = 8 ∧ fitsE { x with t := t } = 17) := by
    by_cases h : x.op < 1 ∨ 75 < x.op
    · left; simp [fitsE, h]
    · have hp := op_range ⟨(x.op - 1).toNat, by omega⟩
      have e : (((x.op - 1).toNat : Nat) : Int) + 1 = x.op := by omega
      simp only [e] at hp
      cases hn : noT t
      · by_cases h8 : (ofT x.op).2.1 = 8
        · exact .inr (.inr (.inl ⟨h8, by simp [fitsE, h, h8, fitsO]⟩))
        · refine .inr (.inr (.inr ⟨h8, ?_⟩))
          simp only [fitsE, h, if_false]
          rw [if_neg]
          generalize (ofT x.op).2.1 = o at hp h8
          obtain ⟨ho1, ho2⟩ := hp
          have : o = 0 ∨ o = 1 ∨ o = 2 ∨ o = 3 ∨ o = 4 ∨ o = 5 ∨ o = 6 ∨ o = 7 := by omega
          rcases this with rfl | rfl | rfl | rfl | rfl | rfl | rfl | rfl <;> simp [fitsO, hn]
      · exact .inr (.inl rfl)
  generalize fitsE x = f0 at hk hE
  generalize fitsE { x with arg := 1 } = f1 at hk1 hE
  generalize fitsE { x with t := t } = f2 at hk2 hE
  refine ACalls.of_body Try.func9 rfl rfl (by simp [Try.ntmps9]) ?_
  obtain ⟨op, arg, k, ix, d, r⟩ := x
  obtain ⟨k2, ix2, d2, r2⟩ := t
  simp only [insV, tyV, infV] at hk ho hk1 hk2 hE ⊢
  have hq : eqAV Try.prog 8 24 (.agg [.sc (.int .i64 k2), .sc (.int .i64 ix2), .sc (.int .i64 d2), .sc (.bool r2)]) (.agg [.sc (.int .i64 0), .sc (.int .i64 0), .sc (.int .i64 0), .sc (.bool false)]) = some (noT ⟨k2, ix2, d2, r2⟩) := by simp [noT]
  generalize noT ⟨k2, ix2, d2, r2⟩ = nt at hE hq
  generalize ofT op = it at hE ho
  obtain ⟨i1, i2, i3⟩ := it
  generalize ofE op = oe at ho
  simp only at hE ho
  repeat (first
    | (with_reducible apply AWp.seq)
    | (with_reducible apply AWp.block)
    | ((with_reducible apply AWp.fork); simp -implicitDefEqProofs)
    | ((with_reducible apply AWp.region); simp -implicitDefEqProofs)
    | (with_reducible refine And.intro (by first | omega | assumption | decide) ?_)
    | ((with_reducible apply AWp.ret); try simp -implicitDefEqProofs)
    | ((with_reducible apply AWp.skip); try simp -implicitDefEqProofs)
    | ((with_reducible apply AWp.exit); try simp -implicitDefEqProofs))
  intro id h_id
  repeat (first
    | (with_reducible apply AWp.seq)
    | (with_reducible apply AWp.block)
    | ((with_reducible apply AWp.fork); simp -implicitDefEqProofs)
    | ((with_reducible apply AWp.region); simp -implicitDefEqProofs)
    | (with_reducible refine And.intro (by first | omega | assumption | decide) ?_)
    | ((with_reducible apply AWp.ret); try simp -implicitDefEqProofs)
    | ((with_reducible apply AWp.skip); try simp -implicitDefEqProofs)
    | ((with_reducible apply AWp.exit); try simp -implicitDefEqProofs))
  intro id2 n_id2_id h_id2
  have n_id_id2 : ¬ id = id2 := fun e => n_id2_id e.symm
  repeat (first
    | (with_reducible apply AWp.seq)
    | (with_reducible apply AWp.block)
    | ((with_reducible apply AWp.fork); simp -implicitDefEqProofs [-eq_t, hq, n_id2_id, n_id_id2])
    | ((with_reducible apply AWp.region); simp -implicitDefEqProofs [-eq_t, hq, n_id2_id, n_id_id2])
    | (with_reducible refine And.intro (by first | omega | assumption | decide) ?_)
    | ((with_reducible apply aCall.id); first
        | ((apply aCall.gives (wakes_ok _)); simp -implicitDefEqProofs [-eq_t, hq, n_id2_id, n_id_id2]))
    | ((with_reducible apply AWp.ret); try simp -implicitDefEqProofs [-eq_t, hq, n_id2_id, n_id_id2])
    | ((with_reducible apply AWp.skip); try simp -implicitDefEqProofs [-eq_t, hq, n_id2_id, n_id_id2])
    | ((with_reducible apply AWp.exit); try simp -implicitDefEqProofs [-eq_t, hq, n_id2_id, n_id_id2]))
  intro id3 n_id3_id2 n_id3_id h_id3
  have n_id2_id3 : ¬ id2 = id3 := fun e => n_id3_id2 e.symm
  have n_id_id3 : ¬ id = id3 := fun e => n_id3_id e.symm
  by_cases hf : f0 = 0
  · cases nt
    · have hE' : (i2 = 8 ∧ f1 = 17) ∨ (¬ i2 = 8 ∧ f2 = 17) := by simpa [hf] using hE
      repeat (first
        | (with_reducible apply AWp.seq)
        | (with_reducible apply AWp.block)
        | ((with_reducible apply AWp.fork); simp -implicitDefEqProofs [-eq_t, hq, hf, n_id2_id, n_id_id2, n_id3_id2, n_id2_id3, n_id3_id, n_id_id3])
        | ((with_reducible apply AWp.region); simp -implicitDefEqProofs [-eq_t, hq, hf, n_id2_id, n_id_id2, n_id3_id2, n_id2_id3, n_id3_id, n_id_id3])
        | (with_reducible refine And.intro (by first | omega | assumption | decide) ?_)
        | ((with_reducible apply aCall.id); first
            | ((apply aCall.gives (hk _)); simp -implicitDefEqProofs [-eq_t, hq, hf, n_id2_id, n_id_id2, n_id3_id2, n_id2_id3, n_id3_id, n_id_id3])
            | ((apply aCall.gives (ho _)); simp -implicitDefEqProofs [-eq_t, hq, hf, n_id2_id, n_id_id2, n_id3_id2, n_id2_id3, n_id3_id, n_id_id3]))
        | ((with_reducible apply AWp.ret); try simp -implicitDefEqProofs [-eq_t, hq, hf, n_id2_id, n_id_id2, n_id3_id2, n_id2_id3, n_id3_id, n_id_id3])
        | ((with_reducible apply AWp.skip); try simp -implicitDefEqProofs [-eq_t, hq, hf, n_id2_id, n_id_id2, n_id3_id2, n_id2_id3, n_id3_id, n_id_id3])
        | ((with_reducible apply AWp.exit); try simp -implicitDefEqProofs [-eq_t, hq, hf, n_id2_id, n_id_id2, n_id3_id2, n_id2_id3, n_id3_id, n_id_id3]))
      intro id4 n_id4_id3 n_id4_id2 n_id4_id h_id4
      have n_id3_id4 : ¬ id3 = id4 := fun e => n_id4_id3 e.symm
      have n_id2_id4 : ¬ id2 = id4 := fun e => n_id4_id2 e.symm
      have n_id_id4 : ¬ id = id4 := fun e => n_id4_id e.symm
      rcases hE' with ⟨h8, h17⟩ | ⟨h8, h17⟩
      all_goals
        subst h17
        repeat (first
          | (with_reducible apply AWp.seq)
          | (with_reducible apply AWp.block)
          | ((with_reducible apply AWp.fork); simp -implicitDefEqProofs [h8, n_id2_id, n_id_id2, n_id3_id2, n_id2_id3, n_id3_id, n_id_id3, n_id4_id3, n_id3_id4, n_id4_id2, n_id2_id4, n_id4_id, n_id_id4])
          | ((with_reducible apply AWp.region); simp -implicitDefEqProofs [h8, n_id2_id, n_id_id2, n_id3_id2, n_id2_id3, n_id3_id, n_id_id3, n_id4_id3, n_id3_id4, n_id4_id2, n_id2_id4, n_id4_id, n_id_id4])
          | (with_reducible refine And.intro (by first | omega | assumption | decide) ?_)
          | ((with_reducible apply aCall.id); first
              | ((apply aCall.gives (hk1 _)); simp -implicitDefEqProofs [h8, n_id2_id, n_id_id2, n_id3_id2, n_id2_id3, n_id3_id, n_id_id3, n_id4_id3, n_id3_id4, n_id4_id2, n_id2_id4, n_id4_id, n_id_id4])
              | ((apply aCall.gives (hk2 _)); simp -implicitDefEqProofs [h8, n_id2_id, n_id_id2, n_id3_id2, n_id2_id3, n_id3_id, n_id_id3, n_id4_id3, n_id3_id4, n_id4_id2, n_id2_id4, n_id4_id, n_id_id4]))
          | ((with_reducible apply AWp.ret); try simp -implicitDefEqProofs [h8, n_id2_id, n_id_id2, n_id3_id2, n_id2_id3, n_id3_id, n_id_id3, n_id4_id3, n_id3_id4, n_id4_id2, n_id2_id4, n_id4_id, n_id_id4])
          | ((with_reducible apply AWp.skip); try simp -implicitDefEqProofs [h8, n_id2_id, n_id_id2, n_id3_id2, n_id2_id3, n_id3_id, n_id_id3, n_id4_id3, n_id3_id4, n_id4_id2, n_id2_id4, n_id4_id, n_id_id4])
          | ((with_reducible apply AWp.exit); try simp -implicitDefEqProofs [h8, n_id2_id, n_id_id2, n_id3_id2, n_id2_id3, n_id3_id, n_id_id3, n_id4_id3, n_id3_id4, n_id4_id2, n_id2_id4, n_id4_id, n_id_id4]))
    · repeat (first
        | (with_reducible apply AWp.seq)
        | (with_reducible apply AWp.block)
        | ((with_reducible apply AWp.fork); simp -implicitDefEqProofs [-eq_t, hq, hf, n_id2_id, n_id_id2, n_id3_id2, n_id2_id3, n_id3_id, n_id_id3])
        | ((with_reducible apply AWp.region); simp -implicitDefEqProofs [-eq_t, hq, hf, n_id2_id, n_id_id2, n_id3_id2, n_id2_id3, n_id3_id, n_id_id3])
        | (with_reducible refine And.intro (by first | omega | assumption | decide) ?_)
        | ((with_reducible apply aCall.id); first
            | ((apply aCall.gives (hk _)); simp -implicitDefEqProofs [-eq_t, hq, hf, n_id2_id, n_id_id2, n_id3_id2, n_id2_id3, n_id3_id, n_id_id3]))
        | ((with_reducible apply AWp.ret); try simp -implicitDefEqProofs [-eq_t, hq, hf, n_id2_id, n_id_id2, n_id3_id2, n_id2_id3, n_id3_id, n_id_id3])
        | ((with_reducible apply AWp.skip); try simp -implicitDefEqProofs [-eq_t, hq, hf, n_id2_id, n_id_id2, n_id3_id2, n_id2_id3, n_id3_id, n_id_id3])
        | ((with_reducible apply AWp.exit); try simp -implicitDefEqProofs [-eq_t, hq, hf, n_id2_id, n_id_id2, n_id3_id2, n_id2_id3, n_id3_id, n_id_id3]))
  · repeat (first
      | (with_reducible apply AWp.seq)
      | (with_reducible apply AWp.block)
      | ((with_reducible apply AWp.fork); simp -implicitDefEqProofs [-eq_t, hq, hf, n_id2_id, n_id_id2, n_id3_id2, n_id2_id3, n_id3_id, n_id_id3])
      | ((with_reducible apply AWp.region); simp -implicitDefEqProofs [-eq_t, hq, hf, n_id2_id, n_id_id2, n_id3_id2, n_id2_id3, n_id3_id, n_id_id3])
      | (with_reducible refine And.intro (by first | omega | assumption | decide) ?_)
      | ((with_reducible apply aCall.id); first
          | ((apply aCall.gives (hk _)); simp -implicitDefEqProofs [-eq_t, hq, hf, n_id2_id, n_id_id2, n_id3_id2, n_id2_id3, n_id3_id, n_id_id3]))
      | ((with_reducible apply AWp.ret); try simp -implicitDefEqProofs [-eq_t, hq, hf, n_id2_id, n_id_id2, n_id3_id2, n_id2_id3, n_id3_id, n_id_id3])
      | ((with_reducible apply AWp.skip); try simp -implicitDefEqProofs [-eq_t, hq, hf, n_id2_id, n_id_id2, n_id3_id2, n_id2_id3, n_id3_id, n_id_id3])
      | ((with_reducible apply AWp.exit); try simp -implicitDefEqProofs [-eq_t, hq, hf, n_id2_id, n_id_id2, n_id3_id2, n_id2_id3, n_id3_id, n_id_id3]))

end Go.Proofs.Ytplphldpkliakaa
