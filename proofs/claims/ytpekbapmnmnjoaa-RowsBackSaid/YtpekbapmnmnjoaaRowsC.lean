/- Package rows: Read, that takes back what was given up. -/
import Derived.Test.YtpekbapmnmnjoaaRowsB
import Derived.Test.YtpekbapmnmnjoaaAwDefer
set_option linter.unusedSimpArgs false
set_option linter.unusedVariables false
set_option maxRecDepth 100000
set_option maxHeartbeats 3200000
namespace Go.Proofs.Ytpekbapmnmnjoaa
open Go Go.AW

def readR (b : List UInt8) : Option (Int × List (List (List Int))) × Int × Int :=
  match rAll b with
  | .error e => (none, e.1, e.2)
  | .ok (v, a) => if a < b.length then (none, a, 2) else (some v, 0, 0)
def tabR : Option (Int × List (List (List Int))) → AV
  | none => .agg [.sc (.int .i64 0), .lst 69 [] .unk true]
  | some v => tvR v

/-- What is put off: nothing was thrown. -/
theorem rread1_none (c4 c5 c6 : Nat) (σ : AS) (K : AS → Prop) (hK : ∀ id, σ id = none → K (σ.set id (.cells 104 [.sc (.int .i64 0), .sc (.int .i64 0)]))) : DCalls Try.prog 59 [.ptr c4 0, .ptr c5 0, .ptr c6 0] σ none K := by
  refine DCalls.of Try.func59 rfl rfl (by simp [Try.ntmps59]) (by simp [Try.ntmps59]) ?_
  refine sOps.sp rfl (SOp.assertN (by simp [Try.ntmps59]) Try.underlying104 trivial (by kernel_rfl) rfl ?_)
  refine sOps.rest ?_
  have hz : zeroAV Try.prog 104 = .agg [.sc (.int .i64 0), .sc (.int .i64 0)] := by kernel_rfl
  simp -implicitDefEqProofs [hz, Try.ntmps59]
  intro id hid
  repeat (first
    | (with_reducible apply AWp.seq)
    | (with_reducible apply AWp.block)
    | ((with_reducible apply AWp.fork); simp -implicitDefEqProofs)
    | ((with_reducible apply AWp.region); simp -implicitDefEqProofs)
    | (with_reducible refine And.intro (by first | omega | assumption | decide) ?_)
    | ((with_reducible apply AWp.ret); try simp -implicitDefEqProofs)
    | ((with_reducible apply AWp.skip); try simp -implicitDefEqProofs)
    | ((with_reducible apply AWp.exit); try simp -implicitDefEqProofs))
  exact hK id hid

theorem PanQ.endR {K : AS → Prop} : PanQ (endQ K) := fun _ _ _ _ h => h.elim

theorem rread1_some (c4 c5 c6 : Nat) (a e : Int) (x1 x2 y1 z1 : AV) (σ : AS) (K : AS → Prop) (h4 : σ c4 = some (.cells 24 [x1, x2])) (h5 : σ c5 = some (.cells 3 [y1])) (h6 : σ c6 = some (.cells 29 [z1])) (n45 : c4 ≠ c5) (n46 : c4 ≠ c6) (n56 : c5 ≠ c6)
    (hK : ∀ id, σ id = none → K ((((σ.set id (.cells 104 [.sc (.int .i64 a), .sc (.int .i64 e)])).set c4 (.cells 24 [.sc (.int .i64 0), .nilS])).set c5 (.cells 3 [.sc (.int .i64 a)])).set c6 (.cells 29 [.sc (.int .i64 e)]))) :
    DCalls Try.prog 59 [.ptr c4 0, .ptr c5 0, .ptr c6 0] σ (some (fltR a e)) K := by
  refine DCalls.of Try.func59 rfl rfl (by simp [Try.ntmps59]) (by simp [Try.ntmps59]) ?_
  refine sOps.sp rfl (SOp.assertY (by simp [Try.ntmps59]) Try.underlying104 trivial rfl ?_)
  refine sOps.rest ?_
  simp -implicitDefEqProofs [Try.ntmps59, fltR, recV]
  intro id hid
  have m4 : ¬ c4 = id := by rintro rfl; rw [h4] at hid; cases hid
  have m5 : ¬ c5 = id := by rintro rfl; rw [h5] at hid; cases hid
  have m6 : ¬ c6 = id := by rintro rfl; rw [h6] at hid; cases hid
  have m4' : ¬ id = c4 := fun e => m4 e.symm
  have m5' : ¬ id = c5 := fun e => m5 e.symm
  have m6' : ¬ id = c6 := fun e => m6 e.symm
  repeat (first
    | (with_reducible apply AWp.seq)
    | (with_reducible apply AWp.block)
    | ((with_reducible apply AWp.fork); simp -implicitDefEqProofs [h4, h5, h6, n45, n46, n56, n45.symm, n46.symm, n56.symm, m4, m5, m6, m4', m5', m6'])
    | ((fail_if_success (with_reducible apply AWp.region (id := 2))); (with_reducible apply AWp.region); simp -implicitDefEqProofs [h4, h5, h6, n45, n46, n56, n45.symm, n46.symm, n56.symm, m4, m5, m6, m4', m5', m6'])
    | (with_reducible refine And.intro (by first | omega | assumption | decide) ?_)
    | ((with_reducible show condK _ _ _); simp -implicitDefEqProofs [h4, h5, h6, n45, n46, n56, n45.symm, n46.symm, n56.symm, m4, m5, m6, m4', m5', m6'])
    | ((with_reducible show guardK _ _ _ _ _ _ _ _ _); simp -implicitDefEqProofs [h4, h5, h6, n45, n46, n56, n45.symm, n46.symm, n56.symm, m4, m5, m6, m4', m5', m6'])
    | ((with_reducible apply AWp.ret); try simp -implicitDefEqProofs [h4, h5, h6, n45, n46, n56, n45.symm, n46.symm, n56.symm, m4, m5, m6, m4', m5', m6'])
    | ((with_reducible apply AWp.skip); try simp -implicitDefEqProofs [h4, h5, h6, n45, n46, n56, n45.symm, n46.symm, n56.symm, m4, m5, m6, m4', m5', m6'])
    | ((with_reducible apply AWp.exit); try simp -implicitDefEqProofs [h4, h5, h6, n45, n46, n56, n45.symm, n46.symm, n56.symm, m4, m5, m6, m4', m5', m6']))
  with_reducible apply AWp.drawS (id := 2) (t := (Sch.step 0 (Sch.step 1 (Sch.step 3 (Sch.alt 2 (Sch.alt 4 (Sch.alt 5 (Sch.alt 6 (Sch.alt 7 Sch.done Sch.none) Sch.none) Sch.none) (Sch.alt 5 (Sch.alt 4 (Sch.alt 6 (Sch.alt 7 Sch.done Sch.none) Sch.none) (Sch.alt 6 (Sch.read 4 (Sch.alt 7 Sch.done Sch.none)) Sch.none)) Sch.none)) (Sch.alt 4 (Sch.alt 2 (Sch.alt 5 (Sch.alt 6 (Sch.alt 7 Sch.done Sch.none) Sch.none) Sch.none) (Sch.alt 5 (Sch.read 2 (Sch.alt 6 (Sch.alt 7 Sch.done Sch.none) Sch.none)) Sch.none)) (Sch.alt 5 (Sch.read 2 (Sch.alt 4 (Sch.alt 6 (Sch.alt 7 Sch.done Sch.none) Sch.none) (Sch.alt 6 (Sch.read 4 (Sch.alt 7 Sch.done Sch.none)) Sch.none))) Sch.none)))))))
  · exact mixed
  · kernel_rfl
  · kernel_rfl
  · exact PanQ.endR
  simp -implicitDefEqProofs [h4, h5, h6, n45, n46, n56, n45.symm, n46.symm, n56.symm, m4, m5, m6, m4', m5', m6']
  all_goals exact hK id hid

theorem rRws_len {b : List UInt8} {mk : Nat} {ks : List UInt8} : ∀ {n a : Nat} {l : List (List Int)} {a' : Nat}, rRws b mk ks n a = .ok (l, a') → a ≤ b.length → a' ≤ b.length := by
  intro n
  induction n with
  | zero => intro a l a' h ha; cases h; exact ha
  | succ n ih =>
    intro a l a' h ha
    rw [rRws] at h
    cases hN : rRow b mk ks a with
    | error e => rw [hN] at h; cases h
    | ok z =>
      obtain ⟨v, a2⟩ := z
      rw [hN] at h
      simp only at h
      have h2 := rRow_len hN ha
      cases hR : rRws b mk ks n a2 with
      | error e => rw [hR] at h; cases h
      | ok z =>
        obtain ⟨l2, a3⟩ := z
        rw [hR] at h
        cases h
        exact ih hR h2
theorem rTbs_len {b : List UInt8} {mk : Nat} : ∀ {cs : List Int} {t a : Nat} {l : List (List (List Int))} {a' : Nat}, rTbs b mk cs t a = .ok (l, a') → a ≤ b.length → a' ≤ b.length := by
  intro cs
  induction cs with
  | nil => intro t a l a' h ha; cases h; exact ha
  | cons c cs ih =>
    intro t a l a' h ha
    rw [rTbs] at h
    cases hN : rRws b mk (kindsL (t : Int)) c.toNat a with
    | error e => rw [hN] at h; cases h
    | ok z =>
      obtain ⟨v, a2⟩ := z
      rw [hN] at h
      simp only at h
      have h2 := rRws_len hN ha
      cases hR : rTbs b mk cs (t + 1) a2 with
      | error e => rw [hR] at h; cases h
      | ok z =>
        obtain ⟨l2, a3⟩ := z
        rw [hR] at h
        cases h
        exact ih hR h2
theorem rAll_len {b : List UInt8} {v : Int × List (List (List Int))} {a : Nat} (h : rAll b = .ok (v, a)) : a ≤ b.length := by
  unfold rAll at h
  cases h1 : rLeast b 0 3 with
  | error e => rw [h1] at h; cases h
  | ok z =>
    obtain ⟨mk, a1⟩ := z
    rw [h1] at h
    simp only at h
    cases h2 : rLeast b a1 63 with
    | error e => rw [h2] at h; cases h
    | ok z =>
      obtain ⟨th, a2⟩ := z
      rw [h2] at h
      simp only at h
      have q2 := (rNum_ok (rLeast_ok h2).1).2.2
      have q1 := (rNum_ok (rLeast_ok h2).1).1
      cases h3 : rCnt b th.toNat 6 0 a2 with
      | error e => rw [h3] at h; cases h
      | ok z =>
        obtain ⟨cs, a3⟩ := z
        rw [h3] at h
        simp only at h
        cases h4 : rNum b a3 2 with
        | error e => rw [h4] at h; cases h
        | ok z =>
          obtain ⟨en, a4⟩ := z
          rw [h4] at h
          simp only at h
          obtain ⟨z1, z2, z3⟩ := rNum_ok h4
          cases h5 : rTbs b mk.toNat cs 0 a4 with
          | error e => rw [h5] at h; cases h
          | ok z =>
            obtain ⟨T, a5⟩ := z
            rw [h5] at h
            cases h
            exact rTbs_len h5 (by omega)
theorem readR_cases (b : List UInt8) : (∃ e, rAll b = .error e ∧ readR b = (none, e.1, e.2)) ∨ (∃ v a, rAll b = .ok (v, a) ∧ ((a < b.length ∧ readR b = (none, (a : Int), 2)) ∨ (¬ a < b.length ∧ readR b = (some v, 0, 0)))) := by
  unfold readR
  cases h : rAll b with
  | error e => exact .inl ⟨e, rfl, rfl⟩
  | ok x =>
    obtain ⟨v, a⟩ := x
    refine .inr ⟨v, a, rfl, ?_⟩
    simp only
    by_cases ha : a < b.length
    · exact .inl ⟨ha, by rw [if_pos ha]⟩
    · exact .inr ⟨ha, by rw [if_neg ha]⟩

theorem wread_ok (b : List UInt8) (o : Own) (nl : Bool) (hnl : nl = true → b = []) (hl : b.length ≤ 100000) (σ : AS) :
    ACalls Try.prog 35 [.lst 5 (b.map u8) o nl] σ (Gives (.tup [tabR (readR b).1, .sc (.int .i64 (readR b).2.1), .sc (.int .i64 (readR b).2.2)]) σ) No := by
  refine ACalls.of_bodyD Try.func35 rfl rfl (by simp [Try.ntmps35]) (fun G1 => ?_)
  apply AWpD.seq
  have hnt : Try.f35.ntmps = 29 := rfl
  simp -implicitDefEqProofs only [hnt]
  repeat (first
    | (with_reducible apply AWp.seq)
    | (with_reducible apply AWp.block)
    | ((with_reducible apply AWp.fork); simp -implicitDefEqProofs)
    | ((with_reducible apply AWp.region); simp -implicitDefEqProofs)
    | (with_reducible refine And.intro (by first | omega | assumption | decide) ?_)
    | ((with_reducible apply AWp.ret); try simp -implicitDefEqProofs)
    | ((with_reducible apply AWp.skip); try simp -implicitDefEqProofs)
    | ((with_reducible apply AWp.exit); try simp -implicitDefEqProofs))
  intro id2 h_id2
  repeat (first
    | (with_reducible apply AWp.seq)
    | (with_reducible apply AWp.block)
    | ((with_reducible apply AWp.fork); simp -implicitDefEqProofs)
    | ((with_reducible apply AWp.region); simp -implicitDefEqProofs)
    | (with_reducible refine And.intro (by first | omega | assumption | decide) ?_)
    | ((with_reducible apply AWp.ret); try simp -implicitDefEqProofs)
    | ((with_reducible apply AWp.skip); try simp -implicitDefEqProofs)
    | ((with_reducible apply AWp.exit); try simp -implicitDefEqProofs))
  intro id3 n_id3_id2 h_id3
  have n_id2_id3 : ¬ id2 = id3 := fun e => n_id3_id2 e.symm
  repeat (first
    | (with_reducible apply AWp.seq)
    | (with_reducible apply AWp.block)
    | ((with_reducible apply AWp.fork); simp -implicitDefEqProofs [n_id3_id2, n_id2_id3])
    | ((with_reducible apply AWp.region); simp -implicitDefEqProofs [n_id3_id2, n_id2_id3])
    | (with_reducible refine And.intro (by first | omega | assumption | decide) ?_)
    | ((with_reducible show condK _ _ _); simp -implicitDefEqProofs [n_id3_id2, n_id2_id3])
    | ((with_reducible show guardK _ _ _ _ _ _ _ _ _); simp -implicitDefEqProofs [n_id3_id2, n_id2_id3])
    | ((with_reducible apply AWp.ret); try simp -implicitDefEqProofs [n_id3_id2, n_id2_id3])
    | ((with_reducible apply AWp.skip); try simp -implicitDefEqProofs [n_id3_id2, n_id2_id3])
    | ((with_reducible apply AWp.exit); try simp -implicitDefEqProofs [n_id3_id2, n_id2_id3]))
  intro id4 n_id4_id3 n_id4_id2 h_id4
  have n_id3_id4 : ¬ id3 = id4 := fun e => n_id4_id3 e.symm
  have n_id2_id4 : ¬ id2 = id4 := fun e => n_id4_id2 e.symm
  apply AWpD.defer (by simp [hnt]) (by decide +kernel)
  intro D
  simp -implicitDefEqProofs only [hnt]
  repeat (first
    | (with_reducible apply AWp.seq)
    | (with_reducible apply AWp.block)
    | ((with_reducible apply AWp.fork); simp -implicitDefEqProofs [n_id3_id2, n_id2_id3, n_id4_id3, n_id3_id4, n_id4_id2, n_id2_id4])
    | ((with_reducible apply AWp.region); simp -implicitDefEqProofs [n_id3_id2, n_id2_id3, n_id4_id3, n_id3_id4, n_id4_id2, n_id2_id4])
    | (with_reducible refine And.intro (by first | omega | assumption | decide) ?_)
    | ((with_reducible show condK _ _ _); simp -implicitDefEqProofs [n_id3_id2, n_id2_id3, n_id4_id3, n_id3_id4, n_id4_id2, n_id2_id4])
    | ((with_reducible show guardK _ _ _ _ _ _ _ _ _); simp -implicitDefEqProofs [n_id3_id2, n_id2_id3, n_id4_id3, n_id3_id4, n_id4_id2, n_id2_id4])
    | ((with_reducible apply AWp.ret); try simp -implicitDefEqProofs [n_id3_id2, n_id2_id3, n_id4_id3, n_id3_id4, n_id4_id2, n_id2_id4])
    | ((with_reducible apply AWp.skip); try simp -implicitDefEqProofs [n_id3_id2, n_id2_id3, n_id4_id3, n_id3_id4, n_id4_id2, n_id2_id4])
    | ((with_reducible apply AWp.exit); try simp -implicitDefEqProofs [n_id3_id2, n_id2_id3, n_id4_id3, n_id3_id4, n_id4_id2, n_id2_id4]))
  obtain ⟨B, hBs, hB2, hB3, hB4, hle⟩ : ∃ B : AS, (((σ.set id2 (.cells 24 [.sc (.int .i64 0), .nilS])).set id3 (.cells 3 [.sc (.int .i64 0)])).set id4 (.cells 29 [.sc (.int .i64 0)])) = B ∧ B id2 = some (.cells 24 [.sc (.int .i64 0), .nilS]) ∧ B id3 = some (.cells 3 [.sc (.int .i64 0)]) ∧ B id4 = some (.cells 29 [.sc (.int .i64 0)]) ∧
      ∀ S : AS, (∀ j, j ≠ id2 → j ≠ id3 → j ≠ id4 → ∀ y, B j = some y → S j = some y) → AS.le σ S := by
    refine ⟨_, rfl, by simp [n_id2_id3, n_id2_id4], by simp [n_id3_id4], by simp, ?_⟩
    intro S h j x hj
    have e4 : j ≠ id2 := by rintro rfl; rw [h_id2] at hj; cases hj
    have e5 : j ≠ id3 := by rintro rfl; rw [h_id3] at hj; cases hj
    have e6 : j ≠ id4 := by rintro rfl; rw [h_id4] at hj; cases hj
    exact h j e4 e5 e6 x (by simp [AS.set, e4, e5, e6, hj])
  simp only [hBs]
  clear hBs
  refine aCall.of (new_ok b o nl hnl (by omega) _) ?_ (fun _ _ h => h.elim)
  rintro r σ1 ⟨id, hid, rfl, rfl⟩
  have m4 : ¬ id2 = id := by rintro rfl; rw [hB2] at hid; cases hid
  have m5 : ¬ id3 = id := by rintro rfl; rw [hB3] at hid; cases hid
  have m6 : ¬ id4 = id := by rintro rfl; rw [hB4] at hid; cases hid
  have m4' : ¬ id = id2 := fun e => m4 e.symm
  have m5' : ¬ id = id3 := fun e => m5 e.symm
  have m6' : ¬ id = id4 := fun e => m6 e.symm
  simp -implicitDefEqProofs [n_id3_id2, n_id2_id3, n_id4_id3, n_id3_id4, n_id4_id2, n_id2_id4]
  repeat (first
    | (with_reducible apply AWp.seq)
    | (with_reducible apply AWp.block)
    | ((with_reducible apply AWp.fork); simp -implicitDefEqProofs [n_id3_id2, n_id2_id3, n_id4_id3, n_id3_id4, n_id4_id2, n_id2_id4])
    | ((with_reducible apply AWp.region); simp -implicitDefEqProofs [n_id3_id2, n_id2_id3, n_id4_id3, n_id3_id4, n_id4_id2, n_id2_id4])
    | (with_reducible refine And.intro (by first | omega | assumption | decide) ?_)
    | ((with_reducible show condK _ _ _); simp -implicitDefEqProofs [n_id3_id2, n_id2_id3, n_id4_id3, n_id3_id4, n_id4_id2, n_id2_id4])
    | ((with_reducible show guardK _ _ _ _ _ _ _ _ _); simp -implicitDefEqProofs [n_id3_id2, n_id2_id3, n_id4_id3, n_id3_id4, n_id4_id2, n_id2_id4])
    | ((with_reducible apply AWp.ret); try simp -implicitDefEqProofs [n_id3_id2, n_id2_id3, n_id4_id3, n_id3_id4, n_id4_id2, n_id2_id4])
    | ((with_reducible apply AWp.skip); try simp -implicitDefEqProofs [n_id3_id2, n_id2_id3, n_id4_id3, n_id3_id4, n_id4_id2, n_id2_id4])
    | ((with_reducible apply AWp.exit); try simp -implicitDefEqProofs [n_id3_id2, n_id2_id3, n_id4_id3, n_id3_id4, n_id4_id2, n_id2_id4]))
  intro id5 n_id5_id h_id5
  have n_id_id5 : ¬ id = id5 := fun e => n_id5_id e.symm
  have q4 : ¬ id2 = id5 := by rintro rfl; rw [hB2] at h_id5; cases h_id5
  have q5 : ¬ id3 = id5 := by rintro rfl; rw [hB3] at h_id5; cases h_id5
  have q6 : ¬ id4 = id5 := by rintro rfl; rw [hB4] at h_id5; cases h_id5
  have q4' : ¬ id5 = id2 := fun e => q4 e.symm
  have q5' : ¬ id5 = id3 := fun e => q5 e.symm
  have q6' : ¬ id5 = id4 := fun e => q6 e.symm
  obtain ⟨C, hCs, hC2, hC3, hC4, hC5, hCid, hleC⟩ : ∃ C : AS, ((B.set id (rdC b 0 nl)).set id5 (.cells 108 [.ptr id 0, .sc (.int .i64 b.length), .sc (.int .i64 0)])) = C ∧ C id2 = some (.cells 24 [.sc (.int .i64 0), .nilS]) ∧ C id3 = some (.cells 3 [.sc (.int .i64 0)]) ∧ C id4 = some (.cells 29 [.sc (.int .i64 0)]) ∧ C id5 = some (rBox id b.length 0) ∧ C id = some (rdC b 0 nl) ∧
      ∀ S : AS, (∀ j, j ≠ id2 → j ≠ id3 → j ≠ id4 → j ≠ id → j ≠ id5 → ∀ y, C j = some y → S j = some y) → AS.le σ S := by
    refine ⟨_, rfl, by simp [m4, q4, hB2], by simp [m5, q5, hB3], by simp [m6, q6, hB4], by simp [rBox], by simp [n_id_id5], ?_⟩
    intro S h
    refine hle S fun j e4 e5 e6 y hj => ?_
    have e1 : j ≠ id := by rintro rfl; rw [hid] at hj; cases hj
    have e7 : j ≠ id5 := by rintro rfl; rw [h_id5] at hj; cases hj
    exact h j e4 e5 e6 e1 e7 y (by simp [AS.set, e1, e7, hj])
  simp only [hCs]
  clear hCs hle
  have htb := wtables_ok id5 id b nl hnl C hC5 hCid hl
  rcases readR_cases b with ⟨e, hE, hS⟩ | ⟨v, a, hE, hS⟩
  · rw [hS]
    repeat (first
      | (with_reducible apply AWp.seq)
      | (with_reducible apply AWp.block)
      | ((with_reducible apply AWp.fork); simp -implicitDefEqProofs [n_id3_id2, n_id2_id3, n_id4_id3, n_id3_id4, n_id4_id2, n_id2_id4, n_id5_id, n_id_id5])
      | ((with_reducible apply AWp.region); simp -implicitDefEqProofs [n_id3_id2, n_id2_id3, n_id4_id3, n_id3_id4, n_id4_id2, n_id2_id4, n_id5_id, n_id_id5])
      | (with_reducible refine And.intro (by first | omega | assumption | decide) ?_)
      | ((with_reducible show condK _ _ _); simp -implicitDefEqProofs [n_id3_id2, n_id2_id3, n_id4_id3, n_id3_id4, n_id4_id2, n_id2_id4, n_id5_id, n_id_id5])
      | ((with_reducible show guardK _ _ _ _ _ _ _ _ _); simp -implicitDefEqProofs [n_id3_id2, n_id2_id3, n_id4_id3, n_id3_id4, n_id4_id2, n_id2_id4, n_id5_id, n_id_id5])
      | ((with_reducible apply AWp.ret); try simp -implicitDefEqProofs [n_id3_id2, n_id2_id3, n_id4_id3, n_id3_id4, n_id4_id2, n_id2_id4, n_id5_id, n_id_id5])
      | ((with_reducible apply AWp.skip); try simp -implicitDefEqProofs [n_id3_id2, n_id2_id3, n_id4_id3, n_id3_id4, n_id4_id2, n_id2_id4, n_id5_id, n_id_id5])
      | ((with_reducible apply AWp.exit); try simp -implicitDefEqProofs [n_id3_id2, n_id2_id3, n_id4_id3, n_id3_id4, n_id4_id2, n_id2_id4, n_id5_id, n_id_id5]))
    refine aCall.of htb (fun r σ' hr => by obtain ⟨v, a, mk, h, _⟩ := hr; rw [hE] at h; cases h) ?_
    rintro p σ' ⟨e', he', rfl, x, mk, rfl⟩
    rw [hE] at he'
    cases he'
    simp -implicitDefEqProofs [n_id3_id2, n_id2_id3, n_id4_id3, n_id3_id4, n_id4_id2, n_id2_id4, n_id5_id, n_id_id5]
    refine rread1_some id2 id3 id4 e.1 e.2 (.sc (.int .i64 0)) .nilS (.sc (.int .i64 0)) (.sc (.int .i64 0)) _ _ (by simp [m4, q4, hC2]) (by simp [m5, q5, hC3]) (by simp [m6, q6, hC4]) n_id2_id3 n_id2_id4 n_id3_id4 ?_
    intro idf hidf
    have f1 : ¬ idf = id := by rintro rfl; simp at hidf
    have f2 : ¬ idf = id5 := by rintro rfl; simp [AS.set, f1] at hidf
    have f3 : C idf = none := by simpa [AS.set, f1, f2] using hidf
    simp -implicitDefEqProofs [n_id2_id3, n_id2_id4, n_id3_id4]
    refine ⟨Wk_tup3 (Wk_agg2 (by simp) (by simp)) (by simp) (by simp), hleC _ fun j e4 e5 e6 e1 e7 y hj => ?_⟩
    have e8 : j ≠ idf := by rintro rfl; rw [f3] at hj; cases hj
    simp [AS.set, e4, e5, e6, e1, e7, e8, hj]
  · have hgv : ∃ mk : Int, True := ⟨0, trivial⟩
    repeat (first
      | (with_reducible apply AWp.seq)
      | (with_reducible apply AWp.block)
      | ((with_reducible apply AWp.fork); simp -implicitDefEqProofs [n_id3_id2, n_id2_id3, n_id4_id3, n_id3_id4, n_id4_id2, n_id2_id4, n_id5_id, n_id_id5])
      | ((with_reducible apply AWp.region); simp -implicitDefEqProofs [n_id3_id2, n_id2_id3, n_id4_id3, n_id3_id4, n_id4_id2, n_id2_id4, n_id5_id, n_id_id5])
      | (with_reducible refine And.intro (by first | omega | assumption | decide) ?_)
      | ((with_reducible show condK _ _ _); simp -implicitDefEqProofs [n_id3_id2, n_id2_id3, n_id4_id3, n_id3_id4, n_id4_id2, n_id2_id4, n_id5_id, n_id_id5])
      | ((with_reducible show guardK _ _ _ _ _ _ _ _ _); simp -implicitDefEqProofs [n_id3_id2, n_id2_id3, n_id4_id3, n_id3_id4, n_id4_id2, n_id2_id4, n_id5_id, n_id_id5])
      | ((with_reducible apply AWp.ret); try simp -implicitDefEqProofs [n_id3_id2, n_id2_id3, n_id4_id3, n_id3_id4, n_id4_id2, n_id2_id4, n_id5_id, n_id_id5])
      | ((with_reducible apply AWp.skip); try simp -implicitDefEqProofs [n_id3_id2, n_id2_id3, n_id4_id3, n_id3_id4, n_id4_id2, n_id2_id4, n_id5_id, n_id_id5])
      | ((with_reducible apply AWp.exit); try simp -implicitDefEqProofs [n_id3_id2, n_id2_id3, n_id4_id3, n_id3_id4, n_id4_id2, n_id2_id4, n_id5_id, n_id_id5]))
    refine aCall.of htb ?_ (fun p σ' hp => by obtain ⟨e, h, _⟩ := hp; rw [hE] at h; cases h)
    rintro r σ' ⟨v', a', mk, h', rfl, rfl⟩
    rw [hE] at h'
    cases h'
    have t5 : ((C.set id5 (rBox id b.length mk)).set id (rdC b a nl)) id5 = some (.cells 108 [.ptr id 0, .sc (.int .i64 b.length), .sc (.int .i64 mk)]) := by simp [n_id5_id, rBox]
    have tI : ((C.set id5 (rBox id b.length mk)).set id (rdC b a nl)) id = some (rdC b a nl) := by simp
    have t2 : ((C.set id5 (rBox id b.length mk)).set id (rdC b a nl)) id2 = some (.cells 24 [.sc (.int .i64 0), .nilS]) := by simp [m4, q4, hC2]
    have t3 : ((C.set id5 (rBox id b.length mk)).set id (rdC b a nl)) id3 = some (.cells 3 [.sc (.int .i64 0)]) := by simp [m5, q5, hC3]
    have t4 : ((C.set id5 (rBox id b.length mk)).set id (rdC b a nl)) id4 = some (.cells 29 [.sc (.int .i64 0)]) := by simp [m6, q6, hC4]
    have hle2 : ∀ S : AS, (∀ j, j ≠ id2 → j ≠ id3 → j ≠ id4 → j ≠ id → j ≠ id5 → ∀ y, ((C.set id5 (rBox id b.length mk)).set id (rdC b a nl)) j = some y → S j = some y) → AS.le σ S := fun S hS => hleC S fun j e1 e2 e3 e4 e5 y hj => hS j e1 e2 e3 e4 e5 y (by simp [AS.set, e4, e5, hj])
    generalize (C.set id5 (rBox id b.length mk)).set id (rdC b a nl) = D0 at t5 tI t2 t3 t4 hle2 ⊢
    simp only [tvR]
    have hal := rAll_len hE
    have hlf := fun σ h => left_ok id b a nl σ h (by omega) (by omega) (by omega)
    rcases hS with ⟨ha, hS⟩ | ⟨ha, hS⟩
    · rw [hS]
      have hp : ((0 : Int) < (b.length : Int) - a) = True := by simp; omega
      have hat := fun σ h => at_ok id b a nl σ h
      simp -implicitDefEqProofs [t2, t3, t4, t5, tI, n_id3_id2, n_id2_id3, n_id4_id3, n_id3_id4, n_id4_id2, n_id2_id4, n_id5_id, n_id_id5]
      repeat (first
        | (with_reducible apply AWp.seq)
        | (with_reducible apply AWp.block)
        | ((with_reducible apply AWp.fork); simp -implicitDefEqProofs [m4, m5, m6, m4', m5', m6', q4, q5, q6, q4', q5', q6', n_id2_id3, n_id2_id4, n_id3_id4, n_id3_id2, n_id4_id2, n_id4_id3, t2, t3, t4, t5, tI, ha, n_id3_id2, n_id2_id3, n_id4_id3, n_id3_id4, n_id4_id2, n_id2_id4, n_id5_id, n_id_id5])
        | ((with_reducible apply AWp.region); simp -implicitDefEqProofs [m4, m5, m6, m4', m5', m6', q4, q5, q6, q4', q5', q6', n_id2_id3, n_id2_id4, n_id3_id4, n_id3_id2, n_id4_id2, n_id4_id3, t2, t3, t4, t5, tI, ha, n_id3_id2, n_id2_id3, n_id4_id3, n_id3_id4, n_id4_id2, n_id2_id4, n_id5_id, n_id_id5])
        | (with_reducible refine And.intro (by first | omega | assumption | decide) ?_)
        | ((with_reducible show condK _ _ _); simp -implicitDefEqProofs [m4, m5, m6, m4', m5', m6', q4, q5, q6, q4', q5', q6', n_id2_id3, n_id2_id4, n_id3_id4, n_id3_id2, n_id4_id2, n_id4_id3, t2, t3, t4, t5, tI, ha, n_id3_id2, n_id2_id3, n_id4_id3, n_id3_id4, n_id4_id2, n_id2_id4, n_id5_id, n_id_id5])
        | ((with_reducible show guardK _ _ _ _ _ _ _ _ _); simp -implicitDefEqProofs [m4, m5, m6, m4', m5', m6', q4, q5, q6, q4', q5', q6', n_id2_id3, n_id2_id4, n_id3_id4, n_id3_id2, n_id4_id2, n_id4_id3, t2, t3, t4, t5, tI, ha, n_id3_id2, n_id2_id3, n_id4_id3, n_id3_id4, n_id4_id2, n_id2_id4, n_id5_id, n_id_id5])
        | ((with_reducible apply aCall.id); first
            | ((apply aCall.gives (hlf _ (by simp [m4', tI]))); simp -implicitDefEqProofs [m4, m5, m6, m4', m5', m6', q4, q5, q6, q4', q5', q6', n_id2_id3, n_id2_id4, n_id3_id4, n_id3_id2, n_id4_id2, n_id4_id3, t2, t3, t4, t5, tI, ha, n_id3_id2, n_id2_id3, n_id4_id3, n_id3_id4, n_id4_id2, n_id2_id4, n_id5_id, n_id_id5])
            | ((apply aCall.gives (hat _ (by simp [m4', tI]))); simp -implicitDefEqProofs [m4, m5, m6, m4', m5', m6', q4, q5, q6, q4', q5', q6', n_id2_id3, n_id2_id4, n_id3_id4, n_id3_id2, n_id4_id2, n_id4_id3, t2, t3, t4, t5, tI, ha, n_id3_id2, n_id2_id3, n_id4_id3, n_id3_id4, n_id4_id2, n_id2_id4, n_id5_id, n_id_id5]))
        | ((with_reducible apply AWp.ret); try simp -implicitDefEqProofs [m4, m5, m6, m4', m5', m6', q4, q5, q6, q4', q5', q6', n_id2_id3, n_id2_id4, n_id3_id4, n_id3_id2, n_id4_id2, n_id4_id3, t2, t3, t4, t5, tI, ha, n_id3_id2, n_id2_id3, n_id4_id3, n_id3_id4, n_id4_id2, n_id2_id4, n_id5_id, n_id_id5])
        | ((with_reducible apply AWp.skip); try simp -implicitDefEqProofs [m4, m5, m6, m4', m5', m6', q4, q5, q6, q4', q5', q6', n_id2_id3, n_id2_id4, n_id3_id4, n_id3_id2, n_id4_id2, n_id4_id3, t2, t3, t4, t5, tI, ha, n_id3_id2, n_id2_id3, n_id4_id3, n_id3_id4, n_id4_id2, n_id2_id4, n_id5_id, n_id_id5])
        | ((with_reducible apply AWp.exit); try simp -implicitDefEqProofs [m4, m5, m6, m4', m5', m6', q4, q5, q6, q4', q5', q6', n_id2_id3, n_id2_id4, n_id3_id4, n_id3_id2, n_id4_id2, n_id4_id3, t2, t3, t4, t5, tI, ha, n_id3_id2, n_id2_id3, n_id4_id3, n_id3_id4, n_id4_id2, n_id2_id4, n_id5_id, n_id_id5]))
      refine rread1_some id2 id3 id4 a 2 (.sc (.int .i64 v.1)) (.lst 69 (v.2.map fun l => lV (l.map fun r => (r, decide (r = [])), decide (l = []))) .unk false) (.sc (.int .i64 0)) (.sc (.int .i64 0)) _ _ (by simp) (by simp [n_id3_id2, t3]) (by simp [n_id4_id2, t4]) n_id2_id3 n_id2_id4 n_id3_id4 ?_
      intro idf hidf
      have f1 : ¬ idf = id2 := by rintro rfl; simp at hidf
      have f3 : D0 idf = none := by simpa [AS.set, f1] using hidf
      simp -implicitDefEqProofs [n_id2_id3, n_id2_id4, n_id3_id4]
      refine ⟨Wk_tup3 (Wk_agg2 (by simp) (by simp)) (by simp) (by simp), hle2 _ fun j e4 e5 e6 e1 e7 y hj => ?_⟩
      have e8 : j ≠ idf := by rintro rfl; rw [f3] at hj; cases hj
      simp [AS.set, e4, e5, e6, e8, hj]
    · rw [hS]
      simp -implicitDefEqProofs [t2, t3, t4, t5, tI, n_id3_id2, n_id2_id3, n_id4_id3, n_id3_id4, n_id4_id2, n_id2_id4, n_id5_id, n_id_id5]
      repeat (first
        | (with_reducible apply AWp.seq)
        | (with_reducible apply AWp.block)
        | ((with_reducible apply AWp.fork); simp -implicitDefEqProofs [m4, m5, m6, m4', m5', m6', q4, q5, q6, q4', q5', q6', n_id2_id3, n_id2_id4, n_id3_id4, n_id3_id2, n_id4_id2, n_id4_id3, t2, t3, t4, t5, tI, ha, n_id3_id2, n_id2_id3, n_id4_id3, n_id3_id4, n_id4_id2, n_id2_id4, n_id5_id, n_id_id5])
        | ((with_reducible apply AWp.region); simp -implicitDefEqProofs [m4, m5, m6, m4', m5', m6', q4, q5, q6, q4', q5', q6', n_id2_id3, n_id2_id4, n_id3_id4, n_id3_id2, n_id4_id2, n_id4_id3, t2, t3, t4, t5, tI, ha, n_id3_id2, n_id2_id3, n_id4_id3, n_id3_id4, n_id4_id2, n_id2_id4, n_id5_id, n_id_id5])
        | (with_reducible refine And.intro (by first | omega | assumption | decide) ?_)
        | ((with_reducible show condK _ _ _); simp -implicitDefEqProofs [m4, m5, m6, m4', m5', m6', q4, q5, q6, q4', q5', q6', n_id2_id3, n_id2_id4, n_id3_id4, n_id3_id2, n_id4_id2, n_id4_id3, t2, t3, t4, t5, tI, ha, n_id3_id2, n_id2_id3, n_id4_id3, n_id3_id4, n_id4_id2, n_id2_id4, n_id5_id, n_id_id5])
        | ((with_reducible show guardK _ _ _ _ _ _ _ _ _); simp -implicitDefEqProofs [m4, m5, m6, m4', m5', m6', q4, q5, q6, q4', q5', q6', n_id2_id3, n_id2_id4, n_id3_id4, n_id3_id2, n_id4_id2, n_id4_id3, t2, t3, t4, t5, tI, ha, n_id3_id2, n_id2_id3, n_id4_id3, n_id3_id4, n_id4_id2, n_id2_id4, n_id5_id, n_id_id5])
        | ((with_reducible apply aCall.id); first
            | ((apply aCall.gives (hlf _ (by simp [m4', tI]))); simp -implicitDefEqProofs [m4, m5, m6, m4', m5', m6', q4, q5, q6, q4', q5', q6', n_id2_id3, n_id2_id4, n_id3_id4, n_id3_id2, n_id4_id2, n_id4_id3, t2, t3, t4, t5, tI, ha, n_id3_id2, n_id2_id3, n_id4_id3, n_id3_id4, n_id4_id2, n_id2_id4, n_id5_id, n_id_id5]))
        | ((with_reducible apply AWp.ret); try simp -implicitDefEqProofs [m4, m5, m6, m4', m5', m6', q4, q5, q6, q4', q5', q6', n_id2_id3, n_id2_id4, n_id3_id4, n_id3_id2, n_id4_id2, n_id4_id3, t2, t3, t4, t5, tI, ha, n_id3_id2, n_id2_id3, n_id4_id3, n_id3_id4, n_id4_id2, n_id2_id4, n_id5_id, n_id_id5])
        | ((with_reducible apply AWp.skip); try simp -implicitDefEqProofs [m4, m5, m6, m4', m5', m6', q4, q5, q6, q4', q5', q6', n_id2_id3, n_id2_id4, n_id3_id4, n_id3_id2, n_id4_id2, n_id4_id3, t2, t3, t4, t5, tI, ha, n_id3_id2, n_id2_id3, n_id4_id3, n_id3_id4, n_id4_id2, n_id2_id4, n_id5_id, n_id_id5])
        | ((with_reducible apply AWp.exit); try simp -implicitDefEqProofs [m4, m5, m6, m4', m5', m6', q4, q5, q6, q4', q5', q6', n_id2_id3, n_id2_id4, n_id3_id4, n_id3_id2, n_id4_id2, n_id4_id3, t2, t3, t4, t5, tI, ha, n_id3_id2, n_id2_id3, n_id4_id3, n_id3_id4, n_id4_id2, n_id2_id4, n_id5_id, n_id_id5]))
      refine rread1_none _ _ _ _ _ ?_
      intro idf hidf
      have f1 : ¬ idf = id2 := by rintro rfl; simp [AS.set, n_id2_id3, n_id2_id4] at hidf
      have f2 : ¬ idf = id3 := by rintro rfl; simp [AS.set, n_id3_id4] at hidf
      have f4 : ¬ idf = id4 := by rintro rfl; simp [AS.set] at hidf
      have f1' : ¬ id2 = idf := fun e => f1 e.symm
      have f2' : ¬ id3 = idf := fun e => f2 e.symm
      have f4' : ¬ id4 = idf := fun e => f4 e.symm
      have f3 : D0 idf = none := by simpa [AS.set, f1, f2, f4] using hidf
      simp -implicitDefEqProofs [n_id2_id3, n_id2_id4, n_id3_id4, f1', f2', f4']
      refine ⟨Wk_tup3 (Wk.refl _) (Wk.refl _) (Wk.refl _), hle2 _ fun j e4 e5 e6 e1 e7 y hj => ?_⟩
      have e8 : j ≠ idf := by rintro rfl; rw [f3] at hj; cases hj
      simp [AS.set, e4, e5, e6, e8, hj]

end Go.Proofs.Ytpekbapmnmnjoaa
