/- The document's Read; BodyReads. -/
import Derived.Test.YtnkjbgcbchbonaaBodyB
set_option linter.unusedSimpArgs false
set_option linter.unusedVariables false
set_option maxRecDepth 100000
set_option maxHeartbeats 3200000
namespace Go.Proofs.Ytnkjbgcbchbonaa
open Go Go.AW

def gotS (x : (List UInt8 × List R6) × Int × Int) : AV := gotV x.1.1 x.1.2 x.2.1 x.2.2

/-- Three zeros. -/
def rrZ (b : List UInt8) (o : Own) (nb : Bool) (fr c : Int) (q : Int) (id4 : Nat) (X : Except Int Nat) (B : AS) (m : Nat) (f : Fr) (σ' : AS) : Prop :=
  ∃ (i a : Nat), m = 3 - i ∧ i ≤ 3 ∧ a ≤ b.length ∧ fr ≤ (a : Int) ∧ ePad b (3 - i) a = X ∧ σ' = B ∧
    f = mkF [(0, .lst 5 (b.map u8) o nb), (1, .sc (.int .i64 a)), (4, .ptr id4 0), (5, .sc (.int .i64 c)), (6, .sc (.int .i64 fr)), (7, .sc (.int .i64 q)), (8, .sc (.int .i64 i))]

/-- What follows the first bytes: the code, of so many bytes, at a place. -/
def tailS (b : List UInt8) (A : Nat) (cc q : Int) (a : Nat) : (List UInt8 × List R6) × Int × Int :=
  match eCode b a q with
  | .error e => (([], []), 0, e)
  | .ok (l, a4) => if cc = 11 then
      match eClauses b A a4 with
      | .error e => (([], []), 0, e)
      | .ok (rs, a5) => ((l, rs), (a5 : Int), 0)
    else if cc = 3 ∧ l.length < 64 then (([], []), 0, 2) else ((l, []), (a4 : Int), 0)
def rrM (b : List UInt8) (o : Own) (nb : Bool) (A : Nat) (cc : Int) (Y : (List UInt8 × List R6) × Int × Int) (id4 : Nat) (B : AS) (f : Fr) (σ' : AS) : Prop :=
  ∃ (q : Int) (a : Nat), 0 ≤ q ∧ q < 4294967296 ∧ A ≤ a ∧ a ≤ b.length ∧ Y = tailS b A cc q a ∧ σ' = B ∧
    f = mkF [(0, .lst 5 (b.map u8) o nb), (1, .sc (.int .i64 a)), (4, .ptr id4 0), (5, .sc (.int .i64 cc)), (6, .sc (.int .i64 A)), (7, .sc (.int .i64 q))]

theorem rread_ok (b : List UInt8) (o : Own) (nb : Bool) (at' : Int) (hl : b.length ≤ 140737488355328) (σ : AS) :
    ACalls Try.prog 28 [.lst 5 (b.map u8) o nb, .sc (.int .i64 at')] σ (Gives (gotS (readS b at')) σ) No := by
  refine ACalls.of_body Try.func28 rfl rfl (by simp [Try.ntmps28]) ?_
  repeat (first
    | (with_reducible apply AWp.seq)
    | (with_reducible apply AWp.block)
    | ((with_reducible apply AWp.fork); simp -implicitDefEqProofs)
    | ((with_reducible apply AWp.region); simp -implicitDefEqProofs)
    | (with_reducible refine And.intro (by first | omega | assumption | decide) ?_)
    | (((with_reducible apply AWp.drawS (id := 29) (t := (Sch.step 0 (Sch.step 2 (Sch.step 3 (Sch.step 4 (Sch.step 5 (Sch.step 6 (Sch.step 7 (Sch.read 1 (Sch.alt 8 (Sch.step 9 (Sch.alt 10 Sch.done Sch.none)) Sch.none))))))))))); (exact mixed); kernel_rfl; kernel_rfl; (repeat (with_reducible first | apply PanQ.then | apply PanQ.block | apply PanQ.body | apply PanQ.no))); simp -implicitDefEqProofs)
    | ((with_reducible apply AWp.ret); try simp -implicitDefEqProofs)
    | ((with_reducible apply AWp.skip); try simp -implicitDefEqProofs)
    | ((with_reducible apply AWp.exit); try simp -implicitDefEqProofs))
  intro id4 h_id4
  obtain ⟨B, hBs, hB4, hle⟩ : ∃ B : AS, (σ.set id4 (.cells 57 [.nilS, .nilS, .sc (.int .i64 0), .sc (.int .i64 0)])) = B ∧ B id4 = some (.cells 57 [.nilS, .nilS, .sc (.int .i64 0), .sc (.int .i64 0)]) ∧
      ∀ S : AS, (∀ j, j ≠ id4 → ∀ y, B j = some y → S j = some y) → AS.le σ S := by
    refine ⟨_, rfl, by simp, ?_⟩
    intro S h j x hj
    have e4 : j ≠ id4 := by rintro rfl; rw [h_id4] at hj; cases hj
    exact h j e4 x (by simp [AS.set, e4, hj])
  simp only [hBs]
  clear hBs
  have hle4 : ∀ y, AS.le σ (B.set id4 y) := fun y => hle _ fun j e4 z hz => by simp [AS.set, e4, hz]
  have no : ∀ e, readS b at' = (([], []), 0, e) → ∀ y, AV.Wk Try.prog (.agg [.nilS, .nilS, .sc (.int .i64 0), .sc (.int .i64 e)]) (gotS (readS b at')) ∧ AS.le σ (B.set id4 y) := fun e he y => by
    rw [he]
    exact ⟨Wk_agg4 (by simp) (by simp) (by simp) (by simp), hle4 y⟩
  by_cases hr : at' < 0 ∨ b.length < at'
  · have hS : readS b at' = (([], []), 0, 3) := by simp only [readS]; rw [if_pos hr]
    by_cases c1 : at' < 0
    · repeat (first
        | (with_reducible apply AWp.seq)
        | (with_reducible apply AWp.block)
        | ((with_reducible apply AWp.fork); simp -implicitDefEqProofs [c1, hB4])
        | ((with_reducible apply AWp.region); simp -implicitDefEqProofs [c1, hB4])
        | (with_reducible refine And.intro (by first | omega | assumption | decide) ?_)
        | ((with_reducible show condK _ _ _); simp -implicitDefEqProofs [c1, hB4])
        | ((with_reducible show guardK _ _ _ _ _ _ _ _ _); simp -implicitDefEqProofs [c1, hB4])
        | (((with_reducible apply AWp.drawS (id := 29) (t := (Sch.step 0 (Sch.step 2 (Sch.step 3 (Sch.step 4 (Sch.step 5 (Sch.step 6 (Sch.step 7 (Sch.read 1 (Sch.alt 8 (Sch.step 9 (Sch.alt 10 Sch.done Sch.none)) Sch.none))))))))))); (exact mixed); kernel_rfl; kernel_rfl; (repeat (with_reducible first | apply PanQ.then | apply PanQ.block | apply PanQ.body | apply PanQ.no))); simp -implicitDefEqProofs [c1, hB4])
        | ((with_reducible apply AWp.ret); try simp -implicitDefEqProofs [c1, hB4])
        | ((with_reducible apply AWp.skip); try simp -implicitDefEqProofs [c1, hB4])
        | ((with_reducible apply AWp.exit); try simp -implicitDefEqProofs [c1, hB4]))
      exact no 3 hS _
    · have c2 : (b.length : Int) < at' := by omega
      repeat (first
        | (with_reducible apply AWp.seq)
        | (with_reducible apply AWp.block)
        | ((with_reducible apply AWp.fork); simp -implicitDefEqProofs [c1, c2, hB4])
        | ((with_reducible apply AWp.region); simp -implicitDefEqProofs [c1, c2, hB4])
        | (with_reducible refine And.intro (by first | omega | assumption | decide) ?_)
        | ((with_reducible show condK _ _ _); simp -implicitDefEqProofs [c1, c2, hB4])
        | ((with_reducible show guardK _ _ _ _ _ _ _ _ _); simp -implicitDefEqProofs [c1, c2, hB4])
        | (((with_reducible apply AWp.drawS (id := 29) (t := (Sch.step 0 (Sch.step 2 (Sch.step 3 (Sch.step 4 (Sch.step 5 (Sch.step 6 (Sch.step 7 (Sch.read 1 (Sch.alt 8 (Sch.step 9 (Sch.alt 10 Sch.done Sch.none)) Sch.none))))))))))); (exact mixed); kernel_rfl; kernel_rfl; (repeat (with_reducible first | apply PanQ.then | apply PanQ.block | apply PanQ.body | apply PanQ.no))); simp -implicitDefEqProofs [c1, c2, hB4])
        | ((with_reducible apply AWp.ret); try simp -implicitDefEqProofs [c1, c2, hB4])
        | ((with_reducible apply AWp.skip); try simp -implicitDefEqProofs [c1, c2, hB4])
        | ((with_reducible apply AWp.exit); try simp -implicitDefEqProofs [c1, c2, hB4]))
      exact no 3 hS _
  have hS : readS b at' = match eBody b at'.toNat with
    | .error e => (([], []), 0, e)
    | .ok (x, a) => (x, (a : Int), 0) := by unfold readS; rw [if_neg hr]; rfl
  obtain ⟨A, rfl⟩ : ∃ A : Nat, at' = A := ⟨at'.toNat, by omega⟩
  have c2 : ((b.length : Int) < A) = False := by simp; omega
  have c1 : ((A : Int) < 0) = False := by simp
  simp only [Int.toNat_natCast] at hS
  generalize readS b A = Y at hS no ⊢
  unfold eBody at hS
  rw [eNum_one] at hS
  cases hg : b[A]? with
  | none =>
    rw [hg] at hS
    have hA : A = b.length := by have := List.getElem?_eq_none_iff.1 hg; omega
    subst hA
    repeat (first
      | (with_reducible apply AWp.seq)
      | (with_reducible apply AWp.block)
      | ((with_reducible apply AWp.fork); simp -implicitDefEqProofs [c1, c2, hB4])
      | ((with_reducible apply AWp.region); simp -implicitDefEqProofs [c1, c2, hB4])
      | (with_reducible refine And.intro (by first | omega | assumption | decide) ?_)
      | ((with_reducible show condK _ _ _); simp -implicitDefEqProofs [c1, c2, hB4])
      | ((with_reducible show guardK _ _ _ _ _ _ _ _ _); simp -implicitDefEqProofs [c1, c2, hB4])
      | (((with_reducible apply AWp.drawS (id := 29) (t := (Sch.step 0 (Sch.step 2 (Sch.step 3 (Sch.step 4 (Sch.step 5 (Sch.step 6 (Sch.step 7 (Sch.read 1 (Sch.alt 8 (Sch.step 9 (Sch.alt 10 Sch.done Sch.none)) Sch.none))))))))))); (exact mixed); kernel_rfl; kernel_rfl; (repeat (with_reducible first | apply PanQ.then | apply PanQ.block | apply PanQ.body | apply PanQ.no))); simp -implicitDefEqProofs [c1, c2, hB4])
      | ((with_reducible apply AWp.ret); try simp -implicitDefEqProofs [c1, c2, hB4])
      | ((with_reducible apply AWp.skip); try simp -implicitDefEqProofs [c1, c2, hB4])
      | ((with_reducible apply AWp.exit); try simp -implicitDefEqProofs [c1, c2, hB4]))
    exact no 1 hS _
  | some c =>
  rw [hg] at hS
  simp only at hS
  obtain ⟨hlt, hg'⟩ := List.getElem?_eq_some_iff.1 hg
  have hA : ((A : Int) = b.length) = False := by simp; omega
  have hA' : (A = b.length) = False := by simp; omega
  have hct := c.toNat_lt
  have hwc : IntKind.i64.wrap (c.toNat : Int) = c.toNat := in_i64 (by omega) (by omega)
  have hq1 : (c.toNat : Int).tdiv 4 = ((c.toNat / 4 : Nat) : Int) := by rw [Int.tdiv_eq_ediv_of_nonneg (by omega)]; omega
  have hq2 : (c.toNat : Int).tmod 4 = ((c.toNat % 4 : Nat) : Int) := by rw [Int.tmod_eq_emod_of_nonneg (by omega)]; omega
  have hq3 : IntKind.i64.wrap ((c.toNat / 4 : Nat) : Int) = ((c.toNat / 4 : Nat) : Int) := in_i64 (by omega) (by omega)
  have hwA : IntKind.i64.wrap ((A : Int) + 1) = ((A + 1 : Nat) : Int) := by rw [in_i64 (by omega) (by omega)]; omega
  generalize hM : c.toNat % 4 = M at hq2
  generalize hQ : c.toNat / 4 = Q at hq1 hq3
  have hM2 : (c.toNat : Int) % 4 = M := by omega
  have hQ2 : (c.toNat : Int) / 4 = Q := by omega
  rw [hM2, hQ2] at hS
  have hwq : ∀ q : Int, 0 ≤ q → q < 4294967296 → IntKind.i64.wrap q = q := fun q h1 h2 => in_i64 (by omega) (by omega)
  have hlA : ∀ a : Nat, a ≤ b.length → IntKind.i64.wrap ((b.length : Int) - a) = (b.length : Int) - a := fun a h => in_i64 (by omega) (by omega)
  repeat (first
    | (with_reducible apply AWp.seq)
    | (with_reducible apply AWp.block)
    | ((with_reducible apply AWp.fork); simp -implicitDefEqProofs [c1, c2, hA, hA', hlt, hg, hg', hwc, hq1, hq2, hq3, hwA])
    | ((fail_if_success (with_reducible apply AWp.region (id := 9))); (with_reducible apply AWp.region); simp -implicitDefEqProofs [c1, c2, hA, hA', hlt, hg, hg', hwc, hq1, hq2, hq3, hwA])
    | (with_reducible refine And.intro (by first | omega | assumption | decide) ?_)
    | ((with_reducible show condK _ _ _); simp -implicitDefEqProofs [c1, c2, hA, hA', hlt, hg, hg', hwc, hq1, hq2, hq3, hwA])
    | ((with_reducible show guardK _ _ _ _ _ _ _ _ _); simp -implicitDefEqProofs [c1, c2, hA, hA', hlt, hg, hg', hwc, hq1, hq2, hq3, hwA])
    | (((with_reducible apply AWp.drawS (id := 29) (t := (Sch.step 0 (Sch.step 2 (Sch.step 3 (Sch.step 4 (Sch.step 5 (Sch.step 6 (Sch.step 7 (Sch.read 1 (Sch.alt 8 (Sch.step 9 (Sch.alt 10 Sch.done Sch.none)) Sch.none))))))))))); (exact mixed); kernel_rfl; kernel_rfl; (repeat (with_reducible first | apply PanQ.then | apply PanQ.block | apply PanQ.body | apply PanQ.no))); simp -implicitDefEqProofs [c1, c2, hA, hA', hlt, hg, hg', hwc, hq1, hq2, hq3, hwA])
    | ((with_reducible apply AWp.ret); try simp -implicitDefEqProofs [c1, c2, hA, hA', hlt, hg, hg', hwc, hq1, hq2, hq3, hwA])
    | ((with_reducible apply AWp.skip); try simp -implicitDefEqProofs [c1, c2, hA, hA', hlt, hg, hg', hwc, hq1, hq2, hq3, hwA])
    | ((with_reducible apply AWp.exit); try simp -implicitDefEqProofs [c1, c2, hA, hA', hlt, hg, hg', hwc, hq1, hq2, hq3, hwA]))
  (with_reducible apply AWp.region); simp -implicitDefEqProofs [c1, c2, hA, hA', hlt, hg, hg', hwc, hq1, hq2, hq3, hwA]
  repeat (with_reducible refine And.intro (by first | omega | assumption | decide) ?_)
  try (with_reducible apply AWp.seq)
  refine AWp.meet (rrM b o nb A c.toNat Y id4 B) ?_ ?_
  · by_cases h2 : M = 2
    · repeat (first
        | (with_reducible apply AWp.seq)
        | (with_reducible apply AWp.block)
        | ((with_reducible apply AWp.fork); simp -implicitDefEqProofs [c1, c2, hA, hA', hlt, hg, hg', hwc, hq1, hq2, hq3, hwA, h2])
        | ((with_reducible apply AWp.region); simp -implicitDefEqProofs [c1, c2, hA, hA', hlt, hg, hg', hwc, hq1, hq2, hq3, hwA, h2])
        | (with_reducible refine And.intro (by first | omega | assumption | decide) ?_)
        | ((with_reducible show condK _ _ _); simp -implicitDefEqProofs [c1, c2, hA, hA', hlt, hg, hg', hwc, hq1, hq2, hq3, hwA, h2])
        | ((with_reducible show guardK _ _ _ _ _ _ _ _ _); simp -implicitDefEqProofs [c1, c2, hA, hA', hlt, hg, hg', hwc, hq1, hq2, hq3, hwA, h2])
        | (((with_reducible apply AWp.drawS (id := 29) (t := (Sch.step 0 (Sch.step 2 (Sch.step 3 (Sch.step 4 (Sch.step 5 (Sch.step 6 (Sch.step 7 (Sch.read 1 (Sch.alt 8 (Sch.step 9 (Sch.alt 10 Sch.done Sch.none)) Sch.none))))))))))); (exact mixed); kernel_rfl; kernel_rfl; (repeat (with_reducible first | apply PanQ.then | apply PanQ.block | apply PanQ.body | apply PanQ.no))); simp -implicitDefEqProofs [c1, c2, hA, hA', hlt, hg, hg', hwc, hq1, hq2, hq3, hwA, h2])
        | ((with_reducible apply AWp.ret); try simp -implicitDefEqProofs [c1, c2, hA, hA', hlt, hg, hg', hwc, hq1, hq2, hq3, hwA, h2])
        | ((with_reducible apply AWp.skip); try simp -implicitDefEqProofs [c1, c2, hA, hA', hlt, hg, hg', hwc, hq1, hq2, hq3, hwA, h2])
        | ((with_reducible apply AWp.exit); try simp -implicitDefEqProofs [c1, c2, hA, hA', hlt, hg, hg', hwc, hq1, hq2, hq3, hwA, h2]))
      have h2' : (M : Int) = 2 := by omega
      rw [if_pos h2'] at hS
      refine ⟨_, _, FrWk.mk (by simp), AS.le_refl _, Q, A + 1, by omega, by omega, by omega, by omega, ?_, rfl, rfl⟩
      rw [hS]
      unfold tailS
      have n1 : ¬ ((c.toNat : Int) = 11) := by omega
      have n2 : ¬ ((c.toNat : Int) = 3) := by omega
      cases eCode b (A + 1) Q with
      | error e => rfl
      | ok y => obtain ⟨l, a4⟩ := y; simp [n1, n2]
    · have h2' : ((M : Int) = 2) = False := by simp; omega
      have hr4 : ((A : Int).tmod 4) = ((A % 4 : Nat) : Int) := by rw [Int.tmod_eq_emod_of_nonneg (by omega)]; omega
      simp only [h2', if_false] at hS
      by_cases hf : ¬ (((c.toNat : Int) = 3 ∨ (c.toNat : Int) = 11) ∧ A % 4 = 0)
      · rw [if_pos hf] at hS
        by_cases d1 : c.toNat = 3
        · have d2 : ((A : Int) % 4 = 0) = False := by simp; omega
          repeat (first
            | (with_reducible apply AWp.seq)
            | (with_reducible apply AWp.block)
            | ((with_reducible apply AWp.fork); simp -implicitDefEqProofs [h2', d1, hr4, d2, hB4])
            | ((with_reducible apply AWp.region); simp -implicitDefEqProofs [h2', d1, hr4, d2, hB4])
            | (with_reducible refine And.intro (by first | omega | assumption | decide) ?_)
            | ((with_reducible show condK _ _ _); simp -implicitDefEqProofs [h2', d1, hr4, d2, hB4])
            | ((with_reducible show guardK _ _ _ _ _ _ _ _ _); simp -implicitDefEqProofs [h2', d1, hr4, d2, hB4])
            | (((with_reducible apply AWp.drawS (id := 29) (t := (Sch.step 0 (Sch.step 2 (Sch.step 3 (Sch.step 4 (Sch.step 5 (Sch.step 6 (Sch.step 7 (Sch.read 1 (Sch.alt 8 (Sch.step 9 (Sch.alt 10 Sch.done Sch.none)) Sch.none))))))))))); (exact mixed); kernel_rfl; kernel_rfl; (repeat (with_reducible first | apply PanQ.then | apply PanQ.block | apply PanQ.body | apply PanQ.no))); simp -implicitDefEqProofs [h2', d1, hr4, d2, hB4])
            | ((with_reducible apply AWp.ret); try simp -implicitDefEqProofs [h2', d1, hr4, d2, hB4])
            | ((with_reducible apply AWp.skip); try simp -implicitDefEqProofs [h2', d1, hr4, d2, hB4])
            | ((with_reducible apply AWp.exit); try simp -implicitDefEqProofs [h2', d1, hr4, d2, hB4]))
          exact no 2 hS _
        · by_cases d3 : c.toNat = 11
          · have d2 : ((A : Int) % 4 = 0) = False := by simp; omega
            repeat (first
              | (with_reducible apply AWp.seq)
              | (with_reducible apply AWp.block)
              | ((with_reducible apply AWp.fork); simp -implicitDefEqProofs [h2', d3, hr4, d2, hB4])
              | ((with_reducible apply AWp.region); simp -implicitDefEqProofs [h2', d3, hr4, d2, hB4])
              | (with_reducible refine And.intro (by first | omega | assumption | decide) ?_)
              | ((with_reducible show condK _ _ _); simp -implicitDefEqProofs [h2', d3, hr4, d2, hB4])
              | ((with_reducible show guardK _ _ _ _ _ _ _ _ _); simp -implicitDefEqProofs [h2', d3, hr4, d2, hB4])
              | (((with_reducible apply AWp.drawS (id := 29) (t := (Sch.step 0 (Sch.step 2 (Sch.step 3 (Sch.step 4 (Sch.step 5 (Sch.step 6 (Sch.step 7 (Sch.read 1 (Sch.alt 8 (Sch.step 9 (Sch.alt 10 Sch.done Sch.none)) Sch.none))))))))))); (exact mixed); kernel_rfl; kernel_rfl; (repeat (with_reducible first | apply PanQ.then | apply PanQ.block | apply PanQ.body | apply PanQ.no))); simp -implicitDefEqProofs [h2', d3, hr4, d2, hB4])
              | ((with_reducible apply AWp.ret); try simp -implicitDefEqProofs [h2', d3, hr4, d2, hB4])
              | ((with_reducible apply AWp.skip); try simp -implicitDefEqProofs [h2', d3, hr4, d2, hB4])
              | ((with_reducible apply AWp.exit); try simp -implicitDefEqProofs [h2', d3, hr4, d2, hB4]))
            exact no 2 hS _
          · have d1' : ((c.toNat : Int) = 3) = False := by simp; omega
            have d3' : ((c.toNat : Int) = 11) = False := by simp; omega
            repeat (first
              | (with_reducible apply AWp.seq)
              | (with_reducible apply AWp.block)
              | ((with_reducible apply AWp.fork); simp -implicitDefEqProofs [h2', d1', d3', hB4])
              | ((with_reducible apply AWp.region); simp -implicitDefEqProofs [h2', d1', d3', hB4])
              | (with_reducible refine And.intro (by first | omega | assumption | decide) ?_)
              | ((with_reducible show condK _ _ _); simp -implicitDefEqProofs [h2', d1', d3', hB4])
              | ((with_reducible show guardK _ _ _ _ _ _ _ _ _); simp -implicitDefEqProofs [h2', d1', d3', hB4])
              | (((with_reducible apply AWp.drawS (id := 29) (t := (Sch.step 0 (Sch.step 2 (Sch.step 3 (Sch.step 4 (Sch.step 5 (Sch.step 6 (Sch.step 7 (Sch.read 1 (Sch.alt 8 (Sch.step 9 (Sch.alt 10 Sch.done Sch.none)) Sch.none))))))))))); (exact mixed); kernel_rfl; kernel_rfl; (repeat (with_reducible first | apply PanQ.then | apply PanQ.block | apply PanQ.body | apply PanQ.no))); simp -implicitDefEqProofs [h2', d1', d3', hB4])
              | ((with_reducible apply AWp.ret); try simp -implicitDefEqProofs [h2', d1', d3', hB4])
              | ((with_reducible apply AWp.skip); try simp -implicitDefEqProofs [h2', d1', d3', hB4])
              | ((with_reducible apply AWp.exit); try simp -implicitDefEqProofs [h2', d1', d3', hB4]))
            exact no 2 hS _
      · rw [if_neg hf] at hS
        have d2 : ((A : Int) % 4 = 0) = True := by simp; omega
        generalize hP : ePad b 3 (A + 1) = EP at hS
        have d1 : c.toNat = 3 ∨ c.toNat = 11 := by omega
        rcases d1 with d1 | d1
        all_goals
          repeat (first
            | (with_reducible apply AWp.seq)
            | (with_reducible apply AWp.block)
            | ((with_reducible apply AWp.fork); simp -implicitDefEqProofs [h2', d1, hr4, d2, hB4])
            | ((with_reducible apply AWp.region); simp -implicitDefEqProofs [h2', d1, hr4, d2, hB4])
            | (with_reducible refine And.intro (by first | omega | assumption | decide) ?_)
            | ((with_reducible show condK _ _ _); simp -implicitDefEqProofs [h2', d1, hr4, d2, hB4])
            | ((with_reducible show guardK _ _ _ _ _ _ _ _ _); simp -implicitDefEqProofs [h2', d1, hr4, d2, hB4])
            | (((with_reducible apply AWp.drawS (id := 29) (t := (Sch.step 0 (Sch.step 2 (Sch.step 3 (Sch.step 4 (Sch.step 5 (Sch.step 6 (Sch.step 7 (Sch.read 1 (Sch.alt 8 (Sch.step 9 (Sch.alt 10 Sch.done Sch.none)) Sch.none))))))))))); (exact mixed); kernel_rfl; kernel_rfl; (repeat (with_reducible first | apply PanQ.then | apply PanQ.block | apply PanQ.body | apply PanQ.no))); simp -implicitDefEqProofs [h2', d1, hr4, d2, hB4])
            | ((with_reducible apply AWp.ret); try simp -implicitDefEqProofs [h2', d1, hr4, d2, hB4])
            | ((with_reducible apply AWp.skip); try simp -implicitDefEqProofs [h2', d1, hr4, d2, hB4])
            | ((with_reducible apply AWp.exit); try simp -implicitDefEqProofs [h2', d1, hr4, d2, hB4]))
          refine AWp.loopI (rrZ b o nb A c.toNat Q id4 EP B) (k0 := 3) ⟨0, A + 1, rfl, by omega, by omega, by omega, hP, rfl, rfl⟩ (FrWk.mk (by simp [d1])) (AS.le_refl _) ?_
          clear hP
          rintro m f σ' ⟨i, a, hm, hi, l2, l3, hX, hs, rfl⟩
          subst σ'
          by_cases hlt3 : i < 3
          · have hI : ((i : Int) < 3) = True := by simp; omega
            rw [show 3 - i = (2 - i) + 1 by omega] at hX
            simp only [ePad, eMust_one] at hX
            cases hga : b[a]? with
            | none =>
              rw [hga] at hX
              rw [← hX] at hS
              have hge : ((b.length : Int) ≤ a) = True := by have := List.getElem?_eq_none_iff.1 hga; simp; omega
              repeat (first
                | (with_reducible apply AWp.seq)
                | (with_reducible apply AWp.block)
                | ((with_reducible apply AWp.fork); simp -implicitDefEqProofs [hI, hge, hB4])
                | ((with_reducible apply AWp.region); simp -implicitDefEqProofs [hI, hge, hB4])
                | (with_reducible refine And.intro (by first | omega | assumption | decide) ?_)
                | ((with_reducible show condK _ _ _); simp -implicitDefEqProofs [hI, hge, hB4])
                | ((with_reducible show guardK _ _ _ _ _ _ _ _ _); simp -implicitDefEqProofs [hI, hge, hB4])
                | (((with_reducible apply AWp.drawS (id := 29) (t := (Sch.step 0 (Sch.step 2 (Sch.step 3 (Sch.step 4 (Sch.step 5 (Sch.step 6 (Sch.step 7 (Sch.read 1 (Sch.alt 8 (Sch.step 9 (Sch.alt 10 Sch.done Sch.none)) Sch.none))))))))))); (exact mixed); kernel_rfl; kernel_rfl; (repeat (with_reducible first | apply PanQ.then | apply PanQ.block | apply PanQ.body | apply PanQ.no))); simp -implicitDefEqProofs [hI, hge, hB4])
                | ((with_reducible apply AWp.ret); try simp -implicitDefEqProofs [hI, hge, hB4])
                | ((with_reducible apply AWp.skip); try simp -implicitDefEqProofs [hI, hge, hB4])
                | ((with_reducible apply AWp.exit); try simp -implicitDefEqProofs [hI, hge, hB4]))
              exact no 1 hS _
            | some c2 =>
              rw [hga] at hX
              obtain ⟨hlta, hga'⟩ := List.getElem?_eq_some_iff.1 hga
              have hge : ((b.length : Int) ≤ a) = False := by simp; omega
              by_cases hc : c2.toNat = 0
              · simp only [hc] at hX
                clear hS no
                repeat (first
                  | (with_reducible apply AWp.seq)
                  | (with_reducible apply AWp.block)
                  | ((with_reducible apply AWp.fork); simp -implicitDefEqProofs [hI, hge, hlta, hga, hga', hc, hB4])
                  | ((with_reducible apply AWp.region); simp -implicitDefEqProofs [hI, hge, hlta, hga, hga', hc, hB4])
                  | (with_reducible refine And.intro (by first | omega | assumption | decide) ?_)
                  | ((with_reducible show condK _ _ _); simp -implicitDefEqProofs [hI, hge, hlta, hga, hga', hc, hB4])
                  | ((with_reducible show guardK _ _ _ _ _ _ _ _ _); simp -implicitDefEqProofs [hI, hge, hlta, hga, hga', hc, hB4])
                  | (((with_reducible apply AWp.drawS (id := 29) (t := (Sch.step 0 (Sch.step 2 (Sch.step 3 (Sch.step 4 (Sch.step 5 (Sch.step 6 (Sch.step 7 (Sch.read 1 (Sch.alt 8 (Sch.step 9 (Sch.alt 10 Sch.done Sch.none)) Sch.none))))))))))); (exact mixed); kernel_rfl; kernel_rfl; (repeat (with_reducible first | apply PanQ.then | apply PanQ.block | apply PanQ.body | apply PanQ.no))); simp -implicitDefEqProofs [hI, hge, hlta, hga, hga', hc, hB4])
                  | ((with_reducible apply AWp.ret); try simp -implicitDefEqProofs [hI, hge, hlta, hga, hga', hc, hB4])
                  | ((with_reducible apply AWp.skip); try simp -implicitDefEqProofs [hI, hge, hlta, hga, hga', hc, hB4])
                  | ((with_reducible apply AWp.exit); try simp -implicitDefEqProofs [hI, hge, hlta, hga, hga', hc, hB4]))
                refine ⟨m - 1, _, _, by omega, FrWk.mk ?_, AS.le_refl _, i + 1, a + 1, by omega, by omega, by omega, by omega, by rw [← hX]; simp, rfl, rfl⟩
                simp [wInc (show a < 4000000000000000000 by omega), wInc (show i < 4000000000000000000 by omega)]
              · have hc' : ¬ ((c2.toNat : Int) = 0) := by omega
                simp only [hc', if_false] at hX
                rw [← hX] at hS
                repeat (first
                  | (with_reducible apply AWp.seq)
                  | (with_reducible apply AWp.block)
                  | ((with_reducible apply AWp.fork); simp -implicitDefEqProofs [hI, hge, hlta, hga, hga', hc, hB4])
                  | ((with_reducible apply AWp.region); simp -implicitDefEqProofs [hI, hge, hlta, hga, hga', hc, hB4])
                  | (with_reducible refine And.intro (by first | omega | assumption | decide) ?_)
                  | ((with_reducible show condK _ _ _); simp -implicitDefEqProofs [hI, hge, hlta, hga, hga', hc, hB4])
                  | ((with_reducible show guardK _ _ _ _ _ _ _ _ _); simp -implicitDefEqProofs [hI, hge, hlta, hga, hga', hc, hB4])
                  | (((with_reducible apply AWp.drawS (id := 29) (t := (Sch.step 0 (Sch.step 2 (Sch.step 3 (Sch.step 4 (Sch.step 5 (Sch.step 6 (Sch.step 7 (Sch.read 1 (Sch.alt 8 (Sch.step 9 (Sch.alt 10 Sch.done Sch.none)) Sch.none))))))))))); (exact mixed); kernel_rfl; kernel_rfl; (repeat (with_reducible first | apply PanQ.then | apply PanQ.block | apply PanQ.body | apply PanQ.no))); simp -implicitDefEqProofs [hI, hge, hlta, hga, hga', hc, hB4])
                  | ((with_reducible apply AWp.ret); try simp -implicitDefEqProofs [hI, hge, hlta, hga, hga', hc, hB4])
                  | ((with_reducible apply AWp.skip); try simp -implicitDefEqProofs [hI, hge, hlta, hga, hga', hc, hB4])
                  | ((with_reducible apply AWp.exit); try simp -implicitDefEqProofs [hI, hge, hlta, hga, hga', hc, hB4]))
                exact no 2 hS _
          · have hI : ((i : Int) < 3) = False := by simp; omega
            obtain rfl : i = 3 := by omega
            simp only [Nat.sub_self, ePad] at hX
            rw [← hX] at hS
            simp only at hS
            have hla := hlA a l2
            unfold eNum at hS
            by_cases h4 : a + 4 ≤ b.length
            · have h4' : ((b.length : Int) - a < 4) = False := by simp; omega
              rw [if_pos h4] at hS
              simp only at hS
              have hv : 0 ≤ numL (seg b a 4) ∧ numL (seg b a 4) < 4294967296 := seg_num (n := 4) h4 (by decide)
              have hwn := hwq _ hv.1 hv.2
              have hwa : IntKind.i64.wrap ((a : Int) + 4) = ((a + 4 : Nat) : Int) := by rw [in_i64 (by omega) (by omega)]; omega
              have hnum := fun σ => rnum_ok b o nb a 4 (by omega) (by omega) (by omega) (by omega) hl σ
              repeat (first
                | (with_reducible apply AWp.seq)
                | (with_reducible apply AWp.block)
                | ((with_reducible apply AWp.fork); simp -implicitDefEqProofs [hI, hla, h4', hB4])
                | ((with_reducible apply AWp.region); simp -implicitDefEqProofs [hI, hla, h4', hB4])
                | (with_reducible refine And.intro (by first | omega | assumption | decide) ?_)
                | ((with_reducible show condK _ _ _); simp -implicitDefEqProofs [hI, hla, h4', hB4])
                | ((with_reducible show guardK _ _ _ _ _ _ _ _ _); simp -implicitDefEqProofs [hI, hla, h4', hB4])
                | (((with_reducible apply AWp.drawS (id := 29) (t := (Sch.step 0 (Sch.step 2 (Sch.step 3 (Sch.step 4 (Sch.step 5 (Sch.step 6 (Sch.step 7 (Sch.read 1 (Sch.alt 8 (Sch.step 9 (Sch.alt 10 Sch.done Sch.none)) Sch.none))))))))))); (exact mixed); kernel_rfl; kernel_rfl; (repeat (with_reducible first | apply PanQ.then | apply PanQ.block | apply PanQ.body | apply PanQ.no))); simp -implicitDefEqProofs [hI, hla, h4', hB4])
                | ((with_reducible apply aCall.id); first
                    | ((apply aCall.gives (hnum _)); simp -implicitDefEqProofs [hI, hla, h4', hB4]))
                | ((with_reducible apply AWp.ret); try simp -implicitDefEqProofs [hI, hla, h4', hB4])
                | ((with_reducible apply AWp.skip); try simp -implicitDefEqProofs [hI, hla, h4', hB4])
                | ((with_reducible apply AWp.exit); try simp -implicitDefEqProofs [hI, hla, h4', hB4]))
              refine ⟨_, _, FrWk.mk (by simp [hwn, hwa, d1]), AS.le_refl _, numL (seg b a 4), a + 4, hv.1, hv.2, by omega, by omega, ?_, rfl, rfl⟩
              rw [hS]
              unfold tailS
              change (match (match eCode b (a + 4) (numL (seg b a 4)) with
                | .error e => .error e
                | .ok (l, a4) => if (c.toNat : Int) = 11 then (match eClauses b A a4 with | .error e => .error e | .ok (rs, a5) => .ok ((l, rs), a5)) else if l.length < 64 then .error 2 else .ok ((l, []), a4) : Except Int ((List UInt8 × List R6) × Nat)) with
                | .error e => ((([], []), 0, e) : (List UInt8 × List R6) × Int × Int)
                | .ok (x, a) => (x, (a : Int), 0)) = _
              cases eCode b (a + 4) (numL (seg b a 4)) with
              | error e => rfl
              | ok y =>
                obtain ⟨l, a4⟩ := y
                simp only [d1]
                first
                  | (by_cases h64 : l.length < 64 <;> simp [h64]; done)
                  | (cases eClauses b A a4 <;> simp; done)
            · have h4' : ((b.length : Int) - a < 4) = True := by simp; omega
              rw [if_neg h4] at hS
              repeat (first
                | (with_reducible apply AWp.seq)
                | (with_reducible apply AWp.block)
                | ((with_reducible apply AWp.fork); simp -implicitDefEqProofs [hI, hla, h4', hB4])
                | ((with_reducible apply AWp.region); simp -implicitDefEqProofs [hI, hla, h4', hB4])
                | (with_reducible refine And.intro (by first | omega | assumption | decide) ?_)
                | ((with_reducible show condK _ _ _); simp -implicitDefEqProofs [hI, hla, h4', hB4])
                | ((with_reducible show guardK _ _ _ _ _ _ _ _ _); simp -implicitDefEqProofs [hI, hla, h4', hB4])
                | (((with_reducible apply AWp.drawS (id := 29) (t := (Sch.step 0 (Sch.step 2 (Sch.step 3 (Sch.step 4 (Sch.step 5 (Sch.step 6 (Sch.step 7 (Sch.read 1 (Sch.alt 8 (Sch.step 9 (Sch.alt 10 Sch.done Sch.none)) Sch.none))))))))))); (exact mixed); kernel_rfl; kernel_rfl; (repeat (with_reducible first | apply PanQ.then | apply PanQ.block | apply PanQ.body | apply PanQ.no))); simp -implicitDefEqProofs [hI, hla, h4', hB4])
                | ((with_reducible apply AWp.ret); try simp -implicitDefEqProofs [hI, hla, h4', hB4])
                | ((with_reducible apply AWp.skip); try simp -implicitDefEqProofs [hI, hla, h4', hB4])
                | ((with_reducible apply AWp.exit); try simp -implicitDefEqProofs [hI, hla, h4', hB4]))
              exact no 1 hS _
  · rintro s1 σ1 ⟨q, a, q0, q1, l1, l2, hY, rfl, rfl⟩
    clear hS
    unfold tailS at hY
    have hla := hlA a l2
    by_cases k1 : q < 1 ∨ 65535 < q
    · have hE : eCode b a q = .error 2 := by unfold eCode; rw [if_pos k1]
      rw [hE] at hY
      by_cases k2 : q < 1
      · have k2' : (q < 1) = True := by simp; omega
        repeat (first
          | (with_reducible apply AWp.seq)
          | (with_reducible apply AWp.block)
          | ((with_reducible apply AWp.fork); simp -implicitDefEqProofs [k2', hB4])
          | ((with_reducible apply AWp.region); simp -implicitDefEqProofs [k2', hB4])
          | (with_reducible refine And.intro (by first | omega | assumption | decide) ?_)
          | ((with_reducible show condK _ _ _); simp -implicitDefEqProofs [k2', hB4])
          | ((with_reducible show guardK _ _ _ _ _ _ _ _ _); simp -implicitDefEqProofs [k2', hB4])
          | (((with_reducible apply AWp.drawS (id := 29) (t := (Sch.step 0 (Sch.step 2 (Sch.step 3 (Sch.step 4 (Sch.step 5 (Sch.step 6 (Sch.step 7 (Sch.read 1 (Sch.alt 8 (Sch.step 9 (Sch.alt 10 Sch.done Sch.none)) Sch.none))))))))))); (exact mixed); kernel_rfl; kernel_rfl; (repeat (with_reducible first | apply PanQ.then | apply PanQ.block | apply PanQ.body | apply PanQ.no))); simp -implicitDefEqProofs [k2', hB4])
          | ((with_reducible apply AWp.ret); try simp -implicitDefEqProofs [k2', hB4])
          | ((with_reducible apply AWp.skip); try simp -implicitDefEqProofs [k2', hB4])
          | ((with_reducible apply AWp.exit); try simp -implicitDefEqProofs [k2', hB4]))
        exact no 2 hY _
      · have k2' : (q < 1) = False := by simp; omega
        have k3' : (65535 < q) = True := by simp; omega
        repeat (first
          | (with_reducible apply AWp.seq)
          | (with_reducible apply AWp.block)
          | ((with_reducible apply AWp.fork); simp -implicitDefEqProofs [k2', k3', hB4])
          | ((with_reducible apply AWp.region); simp -implicitDefEqProofs [k2', k3', hB4])
          | (with_reducible refine And.intro (by first | omega | assumption | decide) ?_)
          | ((with_reducible show condK _ _ _); simp -implicitDefEqProofs [k2', k3', hB4])
          | ((with_reducible show guardK _ _ _ _ _ _ _ _ _); simp -implicitDefEqProofs [k2', k3', hB4])
          | (((with_reducible apply AWp.drawS (id := 29) (t := (Sch.step 0 (Sch.step 2 (Sch.step 3 (Sch.step 4 (Sch.step 5 (Sch.step 6 (Sch.step 7 (Sch.read 1 (Sch.alt 8 (Sch.step 9 (Sch.alt 10 Sch.done Sch.none)) Sch.none))))))))))); (exact mixed); kernel_rfl; kernel_rfl; (repeat (with_reducible first | apply PanQ.then | apply PanQ.block | apply PanQ.body | apply PanQ.no))); simp -implicitDefEqProofs [k2', k3', hB4])
          | ((with_reducible apply AWp.ret); try simp -implicitDefEqProofs [k2', k3', hB4])
          | ((with_reducible apply AWp.skip); try simp -implicitDefEqProofs [k2', k3', hB4])
          | ((with_reducible apply AWp.exit); try simp -implicitDefEqProofs [k2', k3', hB4]))
        exact no 2 hY _
    have k2' : (q < 1) = False := by simp; omega
    have k3' : (65535 < q) = False := by simp; omega
    by_cases k4 : a + q ≤ b.length
    · have hE : eCode b a q = .ok (seg b a q, a + q.toNat) := by unfold eCode; rw [if_neg k1, if_pos k4]
      rw [hE] at hY
      simp only at hY
      have k5 : ((b.length : Int) - a < q) = False := by simp; omega
      repeat (first
        | (with_reducible apply AWp.seq)
        | (with_reducible apply AWp.block)
        | ((with_reducible apply AWp.fork); simp -implicitDefEqProofs [k2', k3', k5, hla, hB4])
        | ((with_reducible apply AWp.region); simp -implicitDefEqProofs [k2', k3', k5, hla, hB4])
        | (with_reducible refine And.intro (by first | omega | assumption | decide) ?_)
        | ((with_reducible show condK _ _ _); simp -implicitDefEqProofs [k2', k3', k5, hla, hB4])
        | ((with_reducible show guardK _ _ _ _ _ _ _ _ _); simp -implicitDefEqProofs [k2', k3', k5, hla, hB4])
        | (((with_reducible apply AWp.drawS (id := 29) (t := (Sch.step 0 (Sch.step 2 (Sch.step 3 (Sch.step 4 (Sch.step 5 (Sch.step 6 (Sch.step 7 (Sch.read 1 (Sch.alt 8 (Sch.step 9 (Sch.alt 10 Sch.done Sch.none)) Sch.none))))))))))); (exact mixed); kernel_rfl; kernel_rfl; (repeat (with_reducible first | apply PanQ.then | apply PanQ.block | apply PanQ.body | apply PanQ.no))); simp -implicitDefEqProofs [k2', k3', k5, hla, hB4])
        | ((with_reducible apply AWp.ret); try simp -implicitDefEqProofs [k2', k3', k5, hla, hB4])
        | ((with_reducible apply AWp.skip); try simp -implicitDefEqProofs [k2', k3', k5, hla, hB4])
        | ((with_reducible apply AWp.exit); try simp -implicitDefEqProofs [k2', k3', k5, hla, hB4]))
      intro id9 h_id9
      have n_id4_id9 : ¬ id4 = id9 := by rintro rfl; rw [hB4] at h_id9; cases h_id9
      have n_id9_id4 : ¬ id9 = id4 := fun e => n_id4_id9 e.symm
      have hwaq : IntKind.i64.wrap ((a : Int) + q) = (a : Int) + q := in_i64 (by omega) (by omega)
      have hseg : List.drop a (List.take ((a : Int) + q).toNat (List.map u8 b)) = (seg b a q).map u8 := by
        unfold seg
        simp [List.map_drop, List.map_take]
      have hsl := seg_length b a q (by omega) (by omega) (by omega)
      generalize seg b a q = S at hseg hsl hY
      have hne : S ≠ [] := by rintro rfl; simp at hsl; omega
      have hne' : S.isEmpty = false := by cases S with | nil => exact absurd rfl hne | cons _ _ => rfl
      have hS2 : ((S.length : Int) < 64) = (q < 64) := by rw [hsl]
      have hS3 : (S.length < 64) = (q < 64) := by rw [← hsl]; simp; omega
      simp only [hS3] at hY
      have hwaN : (a : Int) + q = ((a + q.toNat : Nat) : Int) := by omega
      generalize hla4 : a + q.toNat = a4 at hY hwaN
      have l4 : a4 ≤ b.length := by omega
      have hwa4 : IntKind.i64.wrap (a4 : Int) = a4 := in_i64 (by omega) (by omega)
      repeat (first
        | (with_reducible apply AWp.seq)
        | (with_reducible apply AWp.block)
        | ((with_reducible apply AWp.fork); simp -implicitDefEqProofs [k2', k3', k5, hla, hB4, hwaq, k4, hseg, hne, hne', n_id9_id4, n_id4_id9])
        | ((with_reducible apply AWp.region); simp -implicitDefEqProofs [k2', k3', k5, hla, hB4, hwaq, k4, hseg, hne, hne', n_id9_id4, n_id4_id9])
        | (with_reducible refine And.intro (by first | omega | assumption | decide) ?_)
        | ((with_reducible show condK _ _ _); simp -implicitDefEqProofs [k2', k3', k5, hla, hB4, hwaq, k4, hseg, hne, hne', n_id9_id4, n_id4_id9])
        | ((with_reducible show guardK _ _ _ _ _ _ _ _ _); simp -implicitDefEqProofs [k2', k3', k5, hla, hB4, hwaq, k4, hseg, hne, hne', n_id9_id4, n_id4_id9])
        | (((with_reducible apply AWp.drawS (id := 29) (t := (Sch.step 0 (Sch.step 2 (Sch.step 3 (Sch.step 4 (Sch.step 5 (Sch.step 6 (Sch.step 7 (Sch.read 1 (Sch.alt 8 (Sch.step 9 (Sch.alt 10 Sch.done Sch.none)) Sch.none))))))))))); (exact mixed); kernel_rfl; kernel_rfl; (repeat (with_reducible first | apply PanQ.then | apply PanQ.block | apply PanQ.body | apply PanQ.no))); simp -implicitDefEqProofs [k2', k3', k5, hla, hB4, hwaq, k4, hseg, hne, hne', n_id9_id4, n_id4_id9])
        | ((with_reducible apply AWp.ret); try simp -implicitDefEqProofs [k2', k3', k5, hla, hB4, hwaq, k4, hseg, hne, hne', n_id9_id4, n_id4_id9])
        | ((with_reducible apply AWp.skip); try simp -implicitDefEqProofs [k2', k3', k5, hla, hB4, hwaq, k4, hseg, hne, hne', n_id9_id4, n_id4_id9])
        | ((with_reducible apply AWp.exit); try simp -implicitDefEqProofs [k2', k3', k5, hla, hB4, hwaq, k4, hseg, hne, hne', n_id9_id4, n_id4_id9]))
      intro tk n_tk_id9 h_tk
      have n_id9_tk : ¬ id9 = tk := fun e => n_tk_id9 e.symm
      have n_id4_tk : ¬ id4 = tk := by rintro rfl; rw [hB4] at h_tk; cases h_tk
      have n_tk_id4 : ¬ tk = id4 := fun e => n_id4_tk e.symm
      simp -implicitDefEqProofs [n_id9_id4, n_id4_id9, n_tk_id9, n_id9_tk, n_tk_id4, n_id4_tk]
      have hend : ∀ x y z, AS.le σ (((σ1.set id9 x).set tk y).set id4 z) := fun x y z => hle _ fun j hj w hw => by
        have e1 : j ≠ id9 := by rintro rfl; rw [h_id9] at hw; cases hw
        have e2 : j ≠ tk := by rintro rfl; rw [h_tk] at hw; cases hw
        simp [AS.set, hj, e1, e2, hw]
      by_cases d1 : c.toNat = 11
      · have d1' : ((c.toNat : Int) = 3) = False := by simp; omega
        have d2' : ((c.toNat : Int) = 11) = True := by simp; omega
        have hcl := fun σ => rclauses_ok b o nb A a4 S (.tok tk) hne l4 (by omega) hl σ
        simp only [d2', if_true] at hY
        have hgc : gotC S (eClauses b A a4) = gotS Y := by
          rw [hY]
          cases eClauses b A a4 with
          | error e => rfl
          | ok y => rfl
        rw [hgc] at hcl
        simp only [gotS, gotV] at hcl ⊢
        repeat (first
          | (with_reducible apply AWp.seq)
          | (with_reducible apply AWp.block)
          | ((with_reducible apply AWp.fork); simp -implicitDefEqProofs [d1', d2', hB4, hwaN, hwa4, n_id9_id4, n_id4_id9, n_tk_id9, n_id9_tk, n_tk_id4, n_id4_tk])
          | ((with_reducible apply AWp.region); simp -implicitDefEqProofs [d1', d2', hB4, hwaN, hwa4, n_id9_id4, n_id4_id9, n_tk_id9, n_id9_tk, n_tk_id4, n_id4_tk])
          | (with_reducible refine And.intro (by first | omega | assumption | decide) ?_)
          | ((with_reducible show condK _ _ _); simp -implicitDefEqProofs [d1', d2', hB4, hwaN, hwa4, n_id9_id4, n_id4_id9, n_tk_id9, n_id9_tk, n_tk_id4, n_id4_tk])
          | ((with_reducible show guardK _ _ _ _ _ _ _ _ _); simp -implicitDefEqProofs [d1', d2', hB4, hwaN, hwa4, n_id9_id4, n_id4_id9, n_tk_id9, n_id9_tk, n_tk_id4, n_id4_tk])
          | (((with_reducible apply AWp.drawS (id := 29) (t := (Sch.step 0 (Sch.step 2 (Sch.step 3 (Sch.step 4 (Sch.step 5 (Sch.step 6 (Sch.step 7 (Sch.read 1 (Sch.alt 8 (Sch.step 9 (Sch.alt 10 Sch.done Sch.none)) Sch.none))))))))))); (exact mixed); kernel_rfl; kernel_rfl; (repeat (with_reducible first | apply PanQ.then | apply PanQ.block | apply PanQ.body | apply PanQ.no))); simp -implicitDefEqProofs [d1', d2', hB4, hwaN, hwa4, n_id9_id4, n_id4_id9, n_tk_id9, n_id9_tk, n_tk_id4, n_id4_tk])
          | ((with_reducible apply aCall.id); first
              | ((apply aCall.gives (hcl _)); simp -implicitDefEqProofs [d1', d2', hB4, hwaN, hwa4, n_id9_id4, n_id4_id9, n_tk_id9, n_id9_tk, n_tk_id4, n_id4_tk]))
          | ((with_reducible apply AWp.ret); try simp -implicitDefEqProofs [d1', d2', hB4, hwaN, hwa4, n_id9_id4, n_id4_id9, n_tk_id9, n_id9_tk, n_tk_id4, n_id4_tk])
          | ((with_reducible apply AWp.skip); try simp -implicitDefEqProofs [d1', d2', hB4, hwaN, hwa4, n_id9_id4, n_id4_id9, n_tk_id9, n_id9_tk, n_tk_id4, n_id4_tk])
          | ((with_reducible apply AWp.exit); try simp -implicitDefEqProofs [d1', d2', hB4, hwaN, hwa4, n_id9_id4, n_id4_id9, n_tk_id9, n_id9_tk, n_tk_id4, n_id4_tk]))
        exact hend _ _ _
      · have d2' : ((c.toNat : Int) = 11) = False := by simp; omega
        simp only [d2', if_false] at hY
        by_cases d3 : c.toNat = 3
        · have d3' : ((c.toNat : Int) = 3) = True := by simp; omega
          simp only [d3', true_and] at hY
          by_cases q64 : q < 64
          · have q64' : (q < 64) = True := by simp; omega
            rw [if_pos q64] at hY
            repeat (first
              | (with_reducible apply AWp.seq)
              | (with_reducible apply AWp.block)
              | ((with_reducible apply AWp.fork); simp -implicitDefEqProofs [d2', d3', q64', hB4, hwaN, n_id9_id4, n_id4_id9, n_tk_id9, n_id9_tk, n_tk_id4, n_id4_tk])
              | ((with_reducible apply AWp.region); simp -implicitDefEqProofs [d2', d3', q64', hB4, hwaN, n_id9_id4, n_id4_id9, n_tk_id9, n_id9_tk, n_tk_id4, n_id4_tk])
              | (with_reducible refine And.intro (by first | omega | assumption | decide) ?_)
              | ((with_reducible show condK _ _ _); simp -implicitDefEqProofs [d2', d3', q64', hB4, hwaN, n_id9_id4, n_id4_id9, n_tk_id9, n_id9_tk, n_tk_id4, n_id4_tk])
              | ((with_reducible show guardK _ _ _ _ _ _ _ _ _); simp -implicitDefEqProofs [d2', d3', q64', hB4, hwaN, n_id9_id4, n_id4_id9, n_tk_id9, n_id9_tk, n_tk_id4, n_id4_tk])
              | (((with_reducible apply AWp.drawS (id := 29) (t := (Sch.step 0 (Sch.step 2 (Sch.step 3 (Sch.step 4 (Sch.step 5 (Sch.step 6 (Sch.step 7 (Sch.read 1 (Sch.alt 8 (Sch.step 9 (Sch.alt 10 Sch.done Sch.none)) Sch.none))))))))))); (exact mixed); kernel_rfl; kernel_rfl; (repeat (with_reducible first | apply PanQ.then | apply PanQ.block | apply PanQ.body | apply PanQ.no))); simp -implicitDefEqProofs [d2', d3', q64', hB4, hwaN, n_id9_id4, n_id4_id9, n_tk_id9, n_id9_tk, n_tk_id4, n_id4_tk])
              | ((with_reducible apply AWp.ret); try simp -implicitDefEqProofs [d2', d3', q64', hB4, hwaN, n_id9_id4, n_id4_id9, n_tk_id9, n_id9_tk, n_tk_id4, n_id4_tk])
              | ((with_reducible apply AWp.skip); try simp -implicitDefEqProofs [d2', d3', q64', hB4, hwaN, n_id9_id4, n_id4_id9, n_tk_id9, n_id9_tk, n_tk_id4, n_id4_tk])
              | ((with_reducible apply AWp.exit); try simp -implicitDefEqProofs [d2', d3', q64', hB4, hwaN, n_id9_id4, n_id4_id9, n_tk_id9, n_id9_tk, n_tk_id4, n_id4_tk]))
            exact ⟨(no 2 hY (.tok 0)).1, hend _ _ _⟩
          · have q64' : (q < 64) = False := by simp; omega
            rw [if_neg q64] at hY
            repeat (first
              | (with_reducible apply AWp.seq)
              | (with_reducible apply AWp.block)
              | ((with_reducible apply AWp.fork); simp -implicitDefEqProofs [d2', d3', q64', hB4, hwaN, hwa4, n_id9_id4, n_id4_id9, n_tk_id9, n_id9_tk, n_tk_id4, n_id4_tk])
              | ((with_reducible apply AWp.region); simp -implicitDefEqProofs [d2', d3', q64', hB4, hwaN, hwa4, n_id9_id4, n_id4_id9, n_tk_id9, n_id9_tk, n_tk_id4, n_id4_tk])
              | (with_reducible refine And.intro (by first | omega | assumption | decide) ?_)
              | ((with_reducible show condK _ _ _); simp -implicitDefEqProofs [d2', d3', q64', hB4, hwaN, hwa4, n_id9_id4, n_id4_id9, n_tk_id9, n_id9_tk, n_tk_id4, n_id4_tk])
              | ((with_reducible show guardK _ _ _ _ _ _ _ _ _); simp -implicitDefEqProofs [d2', d3', q64', hB4, hwaN, hwa4, n_id9_id4, n_id4_id9, n_tk_id9, n_id9_tk, n_tk_id4, n_id4_tk])
              | (((with_reducible apply AWp.drawS (id := 29) (t := (Sch.step 0 (Sch.step 2 (Sch.step 3 (Sch.step 4 (Sch.step 5 (Sch.step 6 (Sch.step 7 (Sch.read 1 (Sch.alt 8 (Sch.step 9 (Sch.alt 10 Sch.done Sch.none)) Sch.none))))))))))); (exact mixed); kernel_rfl; kernel_rfl; (repeat (with_reducible first | apply PanQ.then | apply PanQ.block | apply PanQ.body | apply PanQ.no))); simp -implicitDefEqProofs [d2', d3', q64', hB4, hwaN, hwa4, n_id9_id4, n_id4_id9, n_tk_id9, n_id9_tk, n_tk_id4, n_id4_tk])
              | ((with_reducible apply AWp.ret); try simp -implicitDefEqProofs [d2', d3', q64', hB4, hwaN, hwa4, n_id9_id4, n_id4_id9, n_tk_id9, n_id9_tk, n_tk_id4, n_id4_tk])
              | ((with_reducible apply AWp.skip); try simp -implicitDefEqProofs [d2', d3', q64', hB4, hwaN, hwa4, n_id9_id4, n_id4_id9, n_tk_id9, n_id9_tk, n_tk_id4, n_id4_tk])
              | ((with_reducible apply AWp.exit); try simp -implicitDefEqProofs [d2', d3', q64', hB4, hwaN, hwa4, n_id9_id4, n_id4_id9, n_tk_id9, n_id9_tk, n_tk_id4, n_id4_tk]))
            rw [hY]
            exact ⟨Wk_agg4 (by simp [hne]) (by simp) (by simp) (by simp), hend _ _ _⟩
        · have d3' : ((c.toNat : Int) = 3) = False := by simp; omega
          simp only [d3', false_and, if_false] at hY
          repeat (first
            | (with_reducible apply AWp.seq)
            | (with_reducible apply AWp.block)
            | ((with_reducible apply AWp.fork); simp -implicitDefEqProofs [d2', d3', hB4, hwaN, hwa4, n_id9_id4, n_id4_id9, n_tk_id9, n_id9_tk, n_tk_id4, n_id4_tk])
            | ((with_reducible apply AWp.region); simp -implicitDefEqProofs [d2', d3', hB4, hwaN, hwa4, n_id9_id4, n_id4_id9, n_tk_id9, n_id9_tk, n_tk_id4, n_id4_tk])
            | (with_reducible refine And.intro (by first | omega | assumption | decide) ?_)
            | ((with_reducible show condK _ _ _); simp -implicitDefEqProofs [d2', d3', hB4, hwaN, hwa4, n_id9_id4, n_id4_id9, n_tk_id9, n_id9_tk, n_tk_id4, n_id4_tk])
            | ((with_reducible show guardK _ _ _ _ _ _ _ _ _); simp -implicitDefEqProofs [d2', d3', hB4, hwaN, hwa4, n_id9_id4, n_id4_id9, n_tk_id9, n_id9_tk, n_tk_id4, n_id4_tk])
            | (((with_reducible apply AWp.drawS (id := 29) (t := (Sch.step 0 (Sch.step 2 (Sch.step 3 (Sch.step 4 (Sch.step 5 (Sch.step 6 (Sch.step 7 (Sch.read 1 (Sch.alt 8 (Sch.step 9 (Sch.alt 10 Sch.done Sch.none)) Sch.none))))))))))); (exact mixed); kernel_rfl; kernel_rfl; (repeat (with_reducible first | apply PanQ.then | apply PanQ.block | apply PanQ.body | apply PanQ.no))); simp -implicitDefEqProofs [d2', d3', hB4, hwaN, hwa4, n_id9_id4, n_id4_id9, n_tk_id9, n_id9_tk, n_tk_id4, n_id4_tk])
            | ((with_reducible apply AWp.ret); try simp -implicitDefEqProofs [d2', d3', hB4, hwaN, hwa4, n_id9_id4, n_id4_id9, n_tk_id9, n_id9_tk, n_tk_id4, n_id4_tk])
            | ((with_reducible apply AWp.skip); try simp -implicitDefEqProofs [d2', d3', hB4, hwaN, hwa4, n_id9_id4, n_id4_id9, n_tk_id9, n_id9_tk, n_tk_id4, n_id4_tk])
            | ((with_reducible apply AWp.exit); try simp -implicitDefEqProofs [d2', d3', hB4, hwaN, hwa4, n_id9_id4, n_id4_id9, n_tk_id9, n_id9_tk, n_tk_id4, n_id4_tk]))
          rw [hY]
          exact ⟨Wk_agg4 (by simp [hne]) (by simp) (by simp) (by simp), hend _ _ _⟩
    · have hE : eCode b a q = .error 1 := by unfold eCode; rw [if_neg k1, if_neg k4]
      rw [hE] at hY
      have k5 : ((b.length : Int) - a < q) = True := by simp; omega
      repeat (first
        | (with_reducible apply AWp.seq)
        | (with_reducible apply AWp.block)
        | ((with_reducible apply AWp.fork); simp -implicitDefEqProofs [k2', k3', k5, hla, hB4])
        | ((with_reducible apply AWp.region); simp -implicitDefEqProofs [k2', k3', k5, hla, hB4])
        | (with_reducible refine And.intro (by first | omega | assumption | decide) ?_)
        | ((with_reducible show condK _ _ _); simp -implicitDefEqProofs [k2', k3', k5, hla, hB4])
        | ((with_reducible show guardK _ _ _ _ _ _ _ _ _); simp -implicitDefEqProofs [k2', k3', k5, hla, hB4])
        | (((with_reducible apply AWp.drawS (id := 29) (t := (Sch.step 0 (Sch.step 2 (Sch.step 3 (Sch.step 4 (Sch.step 5 (Sch.step 6 (Sch.step 7 (Sch.read 1 (Sch.alt 8 (Sch.step 9 (Sch.alt 10 Sch.done Sch.none)) Sch.none))))))))))); (exact mixed); kernel_rfl; kernel_rfl; (repeat (with_reducible first | apply PanQ.then | apply PanQ.block | apply PanQ.body | apply PanQ.no))); simp -implicitDefEqProofs [k2', k3', k5, hla, hB4])
        | ((with_reducible apply AWp.ret); try simp -implicitDefEqProofs [k2', k3', k5, hla, hB4])
        | ((with_reducible apply AWp.skip); try simp -implicitDefEqProofs [k2', k3', k5, hla, hB4])
        | ((with_reducible apply AWp.exit); try simp -implicitDefEqProofs [k2', k3', k5, hla, hB4]))
      exact no 1 hY _

end Go.Proofs.Ytnkjbgcbchbonaa
