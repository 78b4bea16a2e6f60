/- Package body: Read, that takes back what was given up. -/
import Derived.Test.YtnkjbgcbchbonaaBody9
set_option linter.unusedSimpArgs false
set_option linter.unusedVariables false
set_option maxRecDepth 100000
set_option maxHeartbeats 3200000
namespace Go.Proofs.Ytnkjbgcbchbonaa
open Go Go.AW

def readS (b : List UInt8) (at' : Int) : (List UInt8 × List R6) × Int × Int :=
  if at' < 0 ∨ b.length < at' then (([], []), 0, 3) else
  match eBody b at'.toNat with
  | .error e => (([], []), 0, e)
  | .ok (x, a) => (x, a, 0)

/-- What is put off: nothing was thrown. -/
theorem read1_none (c4 c5 c6 : Nat) (σ : AS) (K : AS → Prop) (hK : K σ) : DCalls Try.prog 51 [.ptr c4 0, .ptr c5 0, .ptr c6 0] σ none K := by
  refine DCalls.of Try.func51 rfl rfl (by simp [Try.ntmps51]) (by simp [Try.ntmps51]) ?_
  refine sOps.sp rfl (SOp.assertN (by simp [Try.ntmps51]) Try.underlying96 trivial (by kernel_rfl) rfl ?_)
  refine sOps.rest ?_
  have hz : zeroAV Try.prog 96 = .sc (.int .i64 0) := by kernel_rfl
  simp -implicitDefEqProofs [hz, Try.ntmps51]
  repeat (first
    | (with_reducible apply AWp.seq)
    | (with_reducible apply AWp.block)
    | ((with_reducible apply AWp.fork); simp -implicitDefEqProofs)
    | ((with_reducible apply AWp.region); simp -implicitDefEqProofs)
    | (with_reducible refine And.intro (by first | omega | assumption | decide) ?_)
    | ((with_reducible apply AWp.ret); try simp -implicitDefEqProofs)
    | ((with_reducible apply AWp.skip); try simp -implicitDefEqProofs)
    | ((with_reducible apply AWp.exit); try simp -implicitDefEqProofs))
  exact hK
/-- .. something was. -/
theorem read1_some (c4 c5 c6 : Nat) (e : Int) (x1 x2 y1 z1 : AV) (σ : AS) (K : AS → Prop) (h4 : σ c4 = some (.cells 48 [x1, x2])) (h5 : σ c5 = some (.cells 3 [y1])) (h6 : σ c6 = some (.cells 25 [z1])) (n45 : c4 ≠ c5) (n46 : c4 ≠ c6) (n56 : c5 ≠ c6)
    (hK : K (((σ.set c4 (.cells 48 [.nilS, .nilS])).set c5 (.cells 3 [.sc (.int .i64 0)])).set c6 (.cells 25 [.sc (.int .i64 e)]))) :
    DCalls Try.prog 51 [.ptr c4 0, .ptr c5 0, .ptr c6 0] σ (some (flt e)) K := by
  refine DCalls.of Try.func51 rfl rfl (by simp [Try.ntmps51]) (by simp [Try.ntmps51]) ?_
  refine sOps.sp rfl (SOp.assertY (by simp [Try.ntmps51]) Try.underlying96 trivial rfl ?_)
  refine sOps.rest ?_
  simp -implicitDefEqProofs [Try.ntmps51]
  repeat (first
    | (with_reducible apply AWp.seq)
    | (with_reducible apply AWp.block)
    | ((with_reducible apply AWp.fork); simp -implicitDefEqProofs [flt, recV, h4, h5, h6, n45, n46, n56, n45.symm, n46.symm, n56.symm])
    | ((with_reducible apply AWp.region); simp -implicitDefEqProofs [flt, recV, h4, h5, h6, n45, n46, n56, n45.symm, n46.symm, n56.symm])
    | (with_reducible refine And.intro (by first | omega | assumption | decide) ?_)
    | ((with_reducible show condK _ _ _); simp -implicitDefEqProofs [flt, recV, h4, h5, h6, n45, n46, n56, n45.symm, n46.symm, n56.symm])
    | ((with_reducible show guardK _ _ _ _ _ _ _ _ _); simp -implicitDefEqProofs [flt, recV, h4, h5, h6, n45, n46, n56, n45.symm, n46.symm, n56.symm])
    | ((with_reducible apply AWp.ret); try simp -implicitDefEqProofs [flt, recV, h4, h5, h6, n45, n46, n56, n45.symm, n46.symm, n56.symm])
    | ((with_reducible apply AWp.skip); try simp -implicitDefEqProofs [flt, recV, h4, h5, h6, n45, n46, n56, n45.symm, n46.symm, n56.symm])
    | ((with_reducible apply AWp.exit); try simp -implicitDefEqProofs [flt, recV, h4, h5, h6, n45, n46, n56, n45.symm, n46.symm, n56.symm]))
  exact hK

/-- Nothing else than the end of the text is come to. -/
def noQ : AQ := fun _ _ _ => False
theorem PanQ.no : PanQ noQ := fun _ _ _ _ h => h
theorem AWp.sure {n : Nat} {ds : List Deferred} {c : Code} {K : Fr → AS → Prop} {Q : AQ} {s : Fr} {σ : AS} (h : AWp Try.prog n ds c (thenQ K noQ) s σ) : AWp Try.prog n ds c (thenQ K Q) s σ :=
  AWp.mono h fun e s σ h => by
    cases e with
    | normal => exact h
    | exit i => exact h.elim
    | ret => exact h.elim
    | panic v => exact h.elim

/-- Nothing is told of it but what it gives. -/
theorem bread_ok (b : List UInt8) (o : Own) (nl : Bool) (at' : Int) (hnl : nl = true → b = []) (hl : b.length ≤ 140737488355328) (σ : AS) :
    ACalls Try.prog 27 [.lst 5 (b.map u8) o nl, .sc (.int .i64 at')] σ (Gives (.tup [bdV (readS b at').1, .sc (.int .i64 (readS b at').2.1), .sc (.int .i64 (readS b at').2.2)]) σ) No := by
  refine ACalls.of_bodyD Try.func27 rfl rfl (by simp [Try.ntmps27]) (fun G1 => ?_)
  apply AWpD.seq
  have hnt : Try.f27.ntmps = 32 := rfl
  simp -implicitDefEqProofs only [hnt]
  repeat (first
    | (with_reducible apply AWp.seq)
    | (with_reducible apply AWp.block)
    | ((with_reducible apply AWp.fork); simp -implicitDefEqProofs)
    | ((with_reducible apply AWp.region); simp -implicitDefEqProofs)
    | (with_reducible refine And.intro (by first | omega | assumption | decide) ?_)
    | (((with_reducible apply AWp.drawS (id := 7) (t := (Sch.step 1 (Sch.read 2 (Sch.alt 0 (Sch.alt 3 (Sch.alt 4 (Sch.alt 5 (Sch.alt 6 Sch.done Sch.none) Sch.none) Sch.none) Sch.none) (Sch.alt 3 (Sch.read 0 (Sch.alt 4 (Sch.alt 5 (Sch.alt 6 Sch.done Sch.none) Sch.none) Sch.none)) Sch.none)))))); (exact mixed); kernel_rfl; kernel_rfl; (repeat (with_reducible first | apply PanQ.then | apply PanQ.block | apply PanQ.body | apply PanQ.no))); simp -implicitDefEqProofs)
    | ((with_reducible apply AWp.ret); try simp -implicitDefEqProofs)
    | ((with_reducible apply AWp.skip); try simp -implicitDefEqProofs)
    | ((with_reducible apply AWp.exit); try simp -implicitDefEqProofs))
  intro id4 h_id4
  repeat (first
    | (with_reducible apply AWp.seq)
    | (with_reducible apply AWp.block)
    | ((with_reducible apply AWp.fork); simp -implicitDefEqProofs)
    | ((with_reducible apply AWp.region); simp -implicitDefEqProofs)
    | (with_reducible refine And.intro (by first | omega | assumption | decide) ?_)
    | (((with_reducible apply AWp.drawS (id := 7) (t := (Sch.step 1 (Sch.read 2 (Sch.alt 0 (Sch.alt 3 (Sch.alt 4 (Sch.alt 5 (Sch.alt 6 Sch.done Sch.none) Sch.none) Sch.none) Sch.none) (Sch.alt 3 (Sch.read 0 (Sch.alt 4 (Sch.alt 5 (Sch.alt 6 Sch.done Sch.none) Sch.none) Sch.none)) Sch.none)))))); (exact mixed); kernel_rfl; kernel_rfl; (repeat (with_reducible first | apply PanQ.then | apply PanQ.block | apply PanQ.body | apply PanQ.no))); simp -implicitDefEqProofs)
    | ((with_reducible apply AWp.ret); try simp -implicitDefEqProofs)
    | ((with_reducible apply AWp.skip); try simp -implicitDefEqProofs)
    | ((with_reducible apply AWp.exit); try simp -implicitDefEqProofs))
  intro id5 n_id5_id4 h_id5
  have n_id4_id5 : ¬ id4 = id5 := fun e => n_id5_id4 e.symm
  repeat (first
    | (with_reducible apply AWp.seq)
    | (with_reducible apply AWp.block)
    | ((with_reducible apply AWp.fork); simp -implicitDefEqProofs [n_id5_id4, n_id4_id5])
    | ((with_reducible apply AWp.region); simp -implicitDefEqProofs [n_id5_id4, n_id4_id5])
    | (with_reducible refine And.intro (by first | omega | assumption | decide) ?_)
    | ((with_reducible show condK _ _ _); simp -implicitDefEqProofs [n_id5_id4, n_id4_id5])
    | ((with_reducible show guardK _ _ _ _ _ _ _ _ _); simp -implicitDefEqProofs [n_id5_id4, n_id4_id5])
    | (((with_reducible apply AWp.drawS (id := 7) (t := (Sch.step 1 (Sch.read 2 (Sch.alt 0 (Sch.alt 3 (Sch.alt 4 (Sch.alt 5 (Sch.alt 6 Sch.done Sch.none) Sch.none) Sch.none) Sch.none) (Sch.alt 3 (Sch.read 0 (Sch.alt 4 (Sch.alt 5 (Sch.alt 6 Sch.done Sch.none) Sch.none) Sch.none)) Sch.none)))))); (exact mixed); kernel_rfl; kernel_rfl; (repeat (with_reducible first | apply PanQ.then | apply PanQ.block | apply PanQ.body | apply PanQ.no))); simp -implicitDefEqProofs [n_id5_id4, n_id4_id5])
    | ((with_reducible apply AWp.ret); try simp -implicitDefEqProofs [n_id5_id4, n_id4_id5])
    | ((with_reducible apply AWp.skip); try simp -implicitDefEqProofs [n_id5_id4, n_id4_id5])
    | ((with_reducible apply AWp.exit); try simp -implicitDefEqProofs [n_id5_id4, n_id4_id5]))
  intro id6 n_id6_id5 n_id6_id4 h_id6
  have n_id5_id6 : ¬ id5 = id6 := fun e => n_id6_id5 e.symm
  have n_id4_id6 : ¬ id4 = id6 := fun e => n_id6_id4 e.symm
  apply AWpD.seq
  simp -implicitDefEqProofs only [hnt]
  by_cases hr : at' < 0 ∨ b.length < at'
  · have hS : readS b at' = (([], []), 0, 3) := by simp only [readS]; rw [if_pos hr]
    rw [hS]
    by_cases c1 : at' < 0
    · repeat (first
        | (with_reducible apply AWp.seq)
        | (with_reducible apply AWp.block)
        | ((with_reducible apply AWp.fork); simp -implicitDefEqProofs [c1, n_id5_id4, n_id4_id5, n_id6_id5, n_id5_id6, n_id6_id4, n_id4_id6])
        | ((with_reducible apply AWp.region); simp -implicitDefEqProofs [c1, n_id5_id4, n_id4_id5, n_id6_id5, n_id5_id6, n_id6_id4, n_id4_id6])
        | (with_reducible refine And.intro (by first | omega | assumption | decide) ?_)
        | ((with_reducible show condK _ _ _); simp -implicitDefEqProofs [c1, n_id5_id4, n_id4_id5, n_id6_id5, n_id5_id6, n_id6_id4, n_id4_id6])
        | ((with_reducible show guardK _ _ _ _ _ _ _ _ _); simp -implicitDefEqProofs [c1, n_id5_id4, n_id4_id5, n_id6_id5, n_id5_id6, n_id6_id4, n_id4_id6])
        | (((with_reducible apply AWp.drawS (id := 7) (t := (Sch.step 1 (Sch.read 2 (Sch.alt 0 (Sch.alt 3 (Sch.alt 4 (Sch.alt 5 (Sch.alt 6 Sch.done Sch.none) Sch.none) Sch.none) Sch.none) (Sch.alt 3 (Sch.read 0 (Sch.alt 4 (Sch.alt 5 (Sch.alt 6 Sch.done Sch.none) Sch.none) Sch.none)) Sch.none)))))); (exact mixed); kernel_rfl; kernel_rfl; (repeat (with_reducible first | apply PanQ.then | apply PanQ.block | apply PanQ.body | apply PanQ.no))); simp -implicitDefEqProofs [c1, n_id5_id4, n_id4_id5, n_id6_id5, n_id5_id6, n_id6_id4, n_id4_id6])
        | ((with_reducible apply AWp.ret); try simp -implicitDefEqProofs [c1, n_id5_id4, n_id4_id5, n_id6_id5, n_id5_id6, n_id6_id4, n_id4_id6])
        | ((with_reducible apply AWp.skip); try simp -implicitDefEqProofs [c1, n_id5_id4, n_id4_id5, n_id6_id5, n_id5_id6, n_id6_id4, n_id4_id6])
        | ((with_reducible apply AWp.exit); try simp -implicitDefEqProofs [c1, n_id5_id4, n_id4_id5, n_id6_id5, n_id5_id6, n_id6_id4, n_id4_id6]))
      exact ⟨Wk_tup3 (Wk_agg2 (by simp) (by simp)) (by simp) (by simp), le_new (by simp [AS.set, n_id6_id5, n_id6_id4, h_id6]) (le_new (by simp [AS.set, n_id5_id4, h_id5]) (le_new h_id4 (AS.le_refl _)))⟩
    · have c2 : (b.length : Int) < at' := by omega
      repeat (first
        | (with_reducible apply AWp.seq)
        | (with_reducible apply AWp.block)
        | ((with_reducible apply AWp.fork); simp -implicitDefEqProofs [c1, c2, n_id5_id4, n_id4_id5, n_id6_id5, n_id5_id6, n_id6_id4, n_id4_id6])
        | ((with_reducible apply AWp.region); simp -implicitDefEqProofs [c1, c2, n_id5_id4, n_id4_id5, n_id6_id5, n_id5_id6, n_id6_id4, n_id4_id6])
        | (with_reducible refine And.intro (by first | omega | assumption | decide) ?_)
        | ((with_reducible show condK _ _ _); simp -implicitDefEqProofs [c1, c2, n_id5_id4, n_id4_id5, n_id6_id5, n_id5_id6, n_id6_id4, n_id4_id6])
        | ((with_reducible show guardK _ _ _ _ _ _ _ _ _); simp -implicitDefEqProofs [c1, c2, n_id5_id4, n_id4_id5, n_id6_id5, n_id5_id6, n_id6_id4, n_id4_id6])
        | (((with_reducible apply AWp.drawS (id := 7) (t := (Sch.step 1 (Sch.read 2 (Sch.alt 0 (Sch.alt 3 (Sch.alt 4 (Sch.alt 5 (Sch.alt 6 Sch.done Sch.none) Sch.none) Sch.none) Sch.none) (Sch.alt 3 (Sch.read 0 (Sch.alt 4 (Sch.alt 5 (Sch.alt 6 Sch.done Sch.none) Sch.none) Sch.none)) Sch.none)))))); (exact mixed); kernel_rfl; kernel_rfl; (repeat (with_reducible first | apply PanQ.then | apply PanQ.block | apply PanQ.body | apply PanQ.no))); simp -implicitDefEqProofs [c1, c2, n_id5_id4, n_id4_id5, n_id6_id5, n_id5_id6, n_id6_id4, n_id4_id6])
        | ((with_reducible apply AWp.ret); try simp -implicitDefEqProofs [c1, c2, n_id5_id4, n_id4_id5, n_id6_id5, n_id5_id6, n_id6_id4, n_id4_id6])
        | ((with_reducible apply AWp.skip); try simp -implicitDefEqProofs [c1, c2, n_id5_id4, n_id4_id5, n_id6_id5, n_id5_id6, n_id6_id4, n_id4_id6])
        | ((with_reducible apply AWp.exit); try simp -implicitDefEqProofs [c1, c2, n_id5_id4, n_id4_id5, n_id6_id5, n_id5_id6, n_id6_id4, n_id4_id6]))
      exact ⟨Wk_tup3 (Wk_agg2 (by simp) (by simp)) (by simp) (by simp), le_new (by simp [AS.set, n_id6_id5, n_id6_id4, h_id6]) (le_new (by simp [AS.set, n_id5_id4, h_id5]) (le_new h_id4 (AS.le_refl _)))⟩
  · have hS : readS b at' = match eBody b at'.toNat with
      | .error e => (([], []), 0, e)
      | .ok (x, a) => (x, (a : Int), 0) := by unfold readS; rw [if_neg hr]
    obtain ⟨A, rfl⟩ : ∃ A : Nat, at' = A := ⟨at'.toNat, by omega⟩
    have c1 : ((A : Int) < 0) = False := by simp
    have c2 : ((b.length : Int) < A) = False := by simp; omega
    simp only [Int.toNat_natCast] at hS
    repeat (first
      | (with_reducible apply AWp.seq)
      | (with_reducible apply AWp.block)
      | ((with_reducible apply AWp.fork); simp -implicitDefEqProofs [c1, c2, n_id5_id4, n_id4_id5, n_id6_id5, n_id5_id6, n_id6_id4, n_id4_id6])
      | ((with_reducible apply AWp.region); simp -implicitDefEqProofs [c1, c2, n_id5_id4, n_id4_id5, n_id6_id5, n_id5_id6, n_id6_id4, n_id4_id6])
      | (with_reducible refine And.intro (by first | omega | assumption | decide) ?_)
      | ((with_reducible show condK _ _ _); simp -implicitDefEqProofs [c1, c2, n_id5_id4, n_id4_id5, n_id6_id5, n_id5_id6, n_id6_id4, n_id4_id6])
      | ((with_reducible show guardK _ _ _ _ _ _ _ _ _); simp -implicitDefEqProofs [c1, c2, n_id5_id4, n_id4_id5, n_id6_id5, n_id5_id6, n_id6_id4, n_id4_id6])
      | (((with_reducible apply AWp.drawS (id := 7) (t := (Sch.step 1 (Sch.read 2 (Sch.alt 0 (Sch.alt 3 (Sch.alt 4 (Sch.alt 5 (Sch.alt 6 Sch.done Sch.none) Sch.none) Sch.none) Sch.none) (Sch.alt 3 (Sch.read 0 (Sch.alt 4 (Sch.alt 5 (Sch.alt 6 Sch.done Sch.none) Sch.none) Sch.none)) Sch.none)))))); (exact mixed); kernel_rfl; kernel_rfl; (repeat (with_reducible first | apply PanQ.then | apply PanQ.block | apply PanQ.body | apply PanQ.no))); simp -implicitDefEqProofs [c1, c2, n_id5_id4, n_id4_id5, n_id6_id5, n_id5_id6, n_id6_id4, n_id4_id6])
      | ((with_reducible apply AWp.ret); try simp -implicitDefEqProofs [c1, c2, n_id5_id4, n_id4_id5, n_id6_id5, n_id5_id6, n_id6_id4, n_id4_id6])
      | ((with_reducible apply AWp.skip); try simp -implicitDefEqProofs [c1, c2, n_id5_id4, n_id4_id5, n_id6_id5, n_id5_id6, n_id6_id4, n_id4_id6])
      | ((with_reducible apply AWp.exit); try simp -implicitDefEqProofs [c1, c2, n_id5_id4, n_id4_id5, n_id6_id5, n_id5_id6, n_id6_id4, n_id4_id6]))
    apply AWpD.defer (by simp [hnt]) (by decide +kernel)
    intro D
    simp -implicitDefEqProofs only [hnt]
    repeat (first
      | (with_reducible apply AWp.seq)
      | (with_reducible apply AWp.block)
      | ((with_reducible apply AWp.fork); simp -implicitDefEqProofs [n_id5_id4, n_id4_id5, n_id6_id5, n_id5_id6, n_id6_id4, n_id4_id6])
      | ((with_reducible apply AWp.region); simp -implicitDefEqProofs [n_id5_id4, n_id4_id5, n_id6_id5, n_id5_id6, n_id6_id4, n_id4_id6])
      | (with_reducible refine And.intro (by first | omega | assumption | decide) ?_)
      | ((with_reducible show condK _ _ _); simp -implicitDefEqProofs [n_id5_id4, n_id4_id5, n_id6_id5, n_id5_id6, n_id6_id4, n_id4_id6])
      | ((with_reducible show guardK _ _ _ _ _ _ _ _ _); simp -implicitDefEqProofs [n_id5_id4, n_id4_id5, n_id6_id5, n_id5_id6, n_id6_id4, n_id4_id6])
      | (((with_reducible apply AWp.drawS (id := 7) (t := (Sch.step 1 (Sch.read 2 (Sch.alt 0 (Sch.alt 3 (Sch.alt 4 (Sch.alt 5 (Sch.alt 6 Sch.done Sch.none) Sch.none) Sch.none) Sch.none) (Sch.alt 3 (Sch.read 0 (Sch.alt 4 (Sch.alt 5 (Sch.alt 6 Sch.done Sch.none) Sch.none) Sch.none)) Sch.none)))))); (exact mixed); kernel_rfl; kernel_rfl; (repeat (with_reducible first | apply PanQ.then | apply PanQ.block | apply PanQ.body | apply PanQ.no))); simp -implicitDefEqProofs [n_id5_id4, n_id4_id5, n_id6_id5, n_id5_id6, n_id6_id4, n_id4_id6])
      | ((with_reducible apply AWp.ret); try simp -implicitDefEqProofs [n_id5_id4, n_id4_id5, n_id6_id5, n_id5_id6, n_id6_id4, n_id4_id6])
      | ((with_reducible apply AWp.skip); try simp -implicitDefEqProofs [n_id5_id4, n_id4_id5, n_id6_id5, n_id5_id6, n_id6_id4, n_id4_id6])
      | ((with_reducible apply AWp.exit); try simp -implicitDefEqProofs [n_id5_id4, n_id4_id5, n_id6_id5, n_id5_id6, n_id6_id4, n_id4_id6]))
    obtain ⟨B, hBs, hB4, hB5, hB6, hle⟩ : ∃ B : AS, (((σ.set id4 (.cells 48 [.nilS, .nilS])).set id5 (.cells 3 [.sc (.int .i64 0)])).set id6 (.cells 25 [.sc (.int .i64 0)])) = B ∧ B id4 = some (.cells 48 [.nilS, .nilS]) ∧ B id5 = some (.cells 3 [.sc (.int .i64 0)]) ∧ B id6 = some (.cells 25 [.sc (.int .i64 0)]) ∧
        ∀ S : AS, (∀ j, j ≠ id4 → j ≠ id5 → j ≠ id6 → ∀ y, B j = some y → S j = some y) → AS.le σ S := by
      refine ⟨_, rfl, by simp [n_id4_id5, n_id4_id6], by simp [n_id5_id6], by simp, ?_⟩
      intro S h j x hj
      have e4 : j ≠ id4 := by rintro rfl; rw [h_id4] at hj; cases hj
      have e5 : j ≠ id5 := by rintro rfl; rw [h_id5] at hj; cases hj
      have e6 : j ≠ id6 := by rintro rfl; rw [h_id6] at hj; cases hj
      exact h j e4 e5 e6 x (by simp [AS.set, e4, e5, e6, hj])
    simp only [hBs]
    clear hBs
    refine aCall.of (new_ok b o nl hnl hl _) ?_ (fun _ _ h => h.elim)
    rintro r σ1 ⟨id, hid, rfl, rfl⟩
    have m4 : ¬ id4 = id := by rintro rfl; rw [hB4] at hid; cases hid
    have m5 : ¬ id5 = id := by rintro rfl; rw [hB5] at hid; cases hid
    have m6 : ¬ id6 = id := by rintro rfl; rw [hB6] at hid; cases hid
    have m4' : ¬ id = id4 := fun e => m4 e.symm
    have m5' : ¬ id = id5 := fun e => m5 e.symm
    have m6' : ¬ id = id6 := fun e => m6 e.symm
    simp -implicitDefEqProofs [n_id5_id4, n_id4_id5, n_id6_id5, n_id5_id6, n_id6_id4, n_id4_id6]
    repeat (first
      | (with_reducible apply AWp.seq)
      | (with_reducible apply AWp.block)
      | ((with_reducible apply AWp.fork); simp -implicitDefEqProofs [n_id5_id4, n_id4_id5, n_id6_id5, n_id5_id6, n_id6_id4, n_id4_id6])
      | ((with_reducible apply AWp.region); simp -implicitDefEqProofs [n_id5_id4, n_id4_id5, n_id6_id5, n_id5_id6, n_id6_id4, n_id4_id6])
      | (with_reducible refine And.intro (by first | omega | assumption | decide) ?_)
      | ((with_reducible show condK _ _ _); simp -implicitDefEqProofs [n_id5_id4, n_id4_id5, n_id6_id5, n_id5_id6, n_id6_id4, n_id4_id6])
      | ((with_reducible show guardK _ _ _ _ _ _ _ _ _); simp -implicitDefEqProofs [n_id5_id4, n_id4_id5, n_id6_id5, n_id5_id6, n_id6_id4, n_id4_id6])
      | (((with_reducible apply AWp.drawS (id := 7) (t := (Sch.step 1 (Sch.read 2 (Sch.alt 0 (Sch.alt 3 (Sch.alt 4 (Sch.alt 5 (Sch.alt 6 Sch.done Sch.none) Sch.none) Sch.none) Sch.none) (Sch.alt 3 (Sch.read 0 (Sch.alt 4 (Sch.alt 5 (Sch.alt 6 Sch.done Sch.none) Sch.none) Sch.none)) Sch.none)))))); (exact mixed); kernel_rfl; kernel_rfl; (repeat (with_reducible first | apply PanQ.then | apply PanQ.block | apply PanQ.body | apply PanQ.no))); simp -implicitDefEqProofs [n_id5_id4, n_id4_id5, n_id6_id5, n_id5_id6, n_id6_id4, n_id4_id6])
      | ((with_reducible apply AWp.ret); try simp -implicitDefEqProofs [n_id5_id4, n_id4_id5, n_id6_id5, n_id5_id6, n_id6_id4, n_id4_id6])
      | ((with_reducible apply AWp.skip); try simp -implicitDefEqProofs [n_id5_id4, n_id4_id5, n_id6_id5, n_id5_id6, n_id6_id4, n_id4_id6])
      | ((with_reducible apply AWp.exit); try simp -implicitDefEqProofs [n_id5_id4, n_id4_id5, n_id6_id5, n_id5_id6, n_id6_id4, n_id4_id6]))
    intro id7 n_id7_id h_id7
    have n_id_id7 : ¬ id = id7 := fun e => n_id7_id e.symm
    have q4 : ¬ id4 = id7 := by rintro rfl; rw [hB4] at h_id7; cases h_id7
    have q5 : ¬ id5 = id7 := by rintro rfl; rw [hB5] at h_id7; cases h_id7
    have q6 : ¬ id6 = id7 := by rintro rfl; rw [hB6] at h_id7; cases h_id7
    have q4' : ¬ id7 = id4 := fun e => q4 e.symm
    have q5' : ¬ id7 = id5 := fun e => q5 e.symm
    have q6' : ¬ id7 = id6 := fun e => q6 e.symm
    obtain ⟨C, hCs, hC4, hC5, hC6, hC7, hCid, hleC⟩ : ∃ C : AS, ((B.set id (rdC b 0 nl)).set id7 (.cells 99 [.ptr id 0])) = C ∧ C id4 = some (.cells 48 [.nilS, .nilS]) ∧ C id5 = some (.cells 3 [.sc (.int .i64 0)]) ∧ C id6 = some (.cells 25 [.sc (.int .i64 0)]) ∧ C id7 = some (.cells 99 [.ptr id 0]) ∧ C id = some (rdC b 0 nl) ∧
        ∀ S : AS, (∀ j, j ≠ id4 → j ≠ id5 → j ≠ id6 → j ≠ id → ∀ y, C j = some y → S j = some y) → AS.le σ S := by
      refine ⟨_, rfl, by simp [m4, q4, hB4], by simp [m5, q5, hB5], by simp [m6, q6, hB6], by simp, by simp [n_id_id7], ?_⟩
      intro S h
      refine hle S fun j e4 e5 e6 y hj => ?_
      have e1 : j ≠ id := by rintro rfl; rw [hid] at hj; cases hj
      have e7 : j ≠ id7 := by rintro rfl; rw [h_id7] at hj; cases hj
      exact h j e4 e5 e6 e1 y (by simp [AS.set, e1, e7, hj])
    simp only [hCs]
    clear hCs hle
    have hsk := skip_ok id b 0 A nl C hCid (by omega) (by omega) hl (by omega) (by omega)
    rw [show (0 : Int) + A = A by omega] at hsk
    have hbd := bbody_ok id b A nl hnl (C.set id (rdC b A nl)) (by simp) (by omega) hl
    cases hE : eBody b A with
    | error e =>
      rw [hE] at hS
      have hbd' := RD.bad hbd hE
      repeat (first
        | (with_reducible apply AWp.seq)
        | (with_reducible apply AWp.block)
        | ((with_reducible apply AWp.fork); simp -implicitDefEqProofs [m4, m5, m6, m4', m5', m6', q4, q5, q6, q4', q5', q6', hC7, n_id5_id4, n_id4_id5, n_id6_id5, n_id5_id6, n_id6_id4, n_id4_id6, n_id7_id, n_id_id7])
        | ((with_reducible apply AWp.region); simp -implicitDefEqProofs [m4, m5, m6, m4', m5', m6', q4, q5, q6, q4', q5', q6', hC7, n_id5_id4, n_id4_id5, n_id6_id5, n_id5_id6, n_id6_id4, n_id4_id6, n_id7_id, n_id_id7])
        | (with_reducible refine And.intro (by first | omega | assumption | decide) ?_)
        | ((with_reducible show condK _ _ _); simp -implicitDefEqProofs [m4, m5, m6, m4', m5', m6', q4, q5, q6, q4', q5', q6', hC7, n_id5_id4, n_id4_id5, n_id6_id5, n_id5_id6, n_id6_id4, n_id4_id6, n_id7_id, n_id_id7])
        | ((with_reducible show guardK _ _ _ _ _ _ _ _ _); simp -implicitDefEqProofs [m4, m5, m6, m4', m5', m6', q4, q5, q6, q4', q5', q6', hC7, n_id5_id4, n_id4_id5, n_id6_id5, n_id5_id6, n_id6_id4, n_id4_id6, n_id7_id, n_id_id7])
        | (((with_reducible apply AWp.drawS (id := 7) (t := (Sch.step 1 (Sch.read 2 (Sch.alt 0 (Sch.alt 3 (Sch.alt 4 (Sch.alt 5 (Sch.alt 6 Sch.done Sch.none) Sch.none) Sch.none) Sch.none) (Sch.alt 3 (Sch.read 0 (Sch.alt 4 (Sch.alt 5 (Sch.alt 6 Sch.done Sch.none) Sch.none) Sch.none)) Sch.none)))))); (exact mixed); kernel_rfl; kernel_rfl; (repeat (with_reducible first | apply PanQ.then | apply PanQ.block | apply PanQ.body | apply PanQ.no))); simp -implicitDefEqProofs [m4, m5, m6, m4', m5', m6', q4, q5, q6, q4', q5', q6', hC7, n_id5_id4, n_id4_id5, n_id6_id5, n_id5_id6, n_id6_id4, n_id4_id6, n_id7_id, n_id_id7])
        | ((with_reducible apply aCall.id); first
            | ((apply aCall.gives (hsk)); simp -implicitDefEqProofs [m4, m5, m6, m4', m5', m6', q4, q5, q6, q4', q5', q6', hC7, n_id5_id4, n_id4_id5, n_id6_id5, n_id5_id6, n_id6_id4, n_id4_id6, n_id7_id, n_id_id7])
            | ((apply aCall.thr (hbd')); simp -implicitDefEqProofs [m4, m5, m6, m4', m5', m6', q4, q5, q6, q4', q5', q6', hC7, n_id5_id4, n_id4_id5, n_id6_id5, n_id5_id6, n_id6_id4, n_id4_id6, n_id7_id, n_id_id7]))
        | ((with_reducible apply AWp.ret); try simp -implicitDefEqProofs [m4, m5, m6, m4', m5', m6', q4, q5, q6, q4', q5', q6', hC7, n_id5_id4, n_id4_id5, n_id6_id5, n_id5_id6, n_id6_id4, n_id4_id6, n_id7_id, n_id_id7])
        | ((with_reducible apply AWp.skip); try simp -implicitDefEqProofs [m4, m5, m6, m4', m5', m6', q4, q5, q6, q4', q5', q6', hC7, n_id5_id4, n_id4_id5, n_id6_id5, n_id5_id6, n_id6_id4, n_id4_id6, n_id7_id, n_id_id7])
        | ((with_reducible apply AWp.exit); try simp -implicitDefEqProofs [m4, m5, m6, m4', m5', m6', q4, q5, q6, q4', q5', q6', hC7, n_id5_id4, n_id4_id5, n_id6_id5, n_id5_id6, n_id6_id4, n_id4_id6, n_id7_id, n_id_id7]))
      intro x
      refine read1_some id4 id5 id6 e .nilS .nilS (.sc (.int .i64 0)) (.sc (.int .i64 0)) _ _ (by simp [m4, hC4]) (by simp [m5, hC5]) (by simp [m6, hC6]) n_id4_id5 n_id4_id6 n_id5_id6 ?_
      simp -implicitDefEqProofs [n_id4_id5, n_id4_id6, n_id5_id6, hS]
      refine ⟨Wk_tup3 (Wk_agg2 (by simp) (by simp)) (by simp) (by simp), hleC _ fun j e4 e5 e6 e1 y hj => ?_⟩
      simp [AS.set, e4, e5, e6, e1, hj]
    | ok y =>
      obtain ⟨⟨l, rs⟩, a⟩ := y
      rw [hE] at hS
      have hbd' := RD.ok hbd hE
      have hat := at_ok id b a nl
      repeat (first
        | (with_reducible apply AWp.seq)
        | (with_reducible apply AWp.block)
        | ((with_reducible apply AWp.fork); simp -implicitDefEqProofs [m4, m5, m6, m4', m5', m6', q4, q5, q6, q4', q5', q6', hC4, hC5, hC6, hC7, bdV, bodyV, n_id4_id5, n_id4_id6, n_id5_id6, n_id5_id4, n_id6_id4, n_id6_id5, n_id5_id4, n_id4_id5, n_id6_id5, n_id5_id6, n_id6_id4, n_id4_id6, n_id7_id, n_id_id7])
        | ((with_reducible apply AWp.region); simp -implicitDefEqProofs [m4, m5, m6, m4', m5', m6', q4, q5, q6, q4', q5', q6', hC4, hC5, hC6, hC7, bdV, bodyV, n_id4_id5, n_id4_id6, n_id5_id6, n_id5_id4, n_id6_id4, n_id6_id5, n_id5_id4, n_id4_id5, n_id6_id5, n_id5_id6, n_id6_id4, n_id4_id6, n_id7_id, n_id_id7])
        | (with_reducible refine And.intro (by first | omega | assumption | decide) ?_)
        | ((with_reducible show condK _ _ _); simp -implicitDefEqProofs [m4, m5, m6, m4', m5', m6', q4, q5, q6, q4', q5', q6', hC4, hC5, hC6, hC7, bdV, bodyV, n_id4_id5, n_id4_id6, n_id5_id6, n_id5_id4, n_id6_id4, n_id6_id5, n_id5_id4, n_id4_id5, n_id6_id5, n_id5_id6, n_id6_id4, n_id4_id6, n_id7_id, n_id_id7])
        | ((with_reducible show guardK _ _ _ _ _ _ _ _ _); simp -implicitDefEqProofs [m4, m5, m6, m4', m5', m6', q4, q5, q6, q4', q5', q6', hC4, hC5, hC6, hC7, bdV, bodyV, n_id4_id5, n_id4_id6, n_id5_id6, n_id5_id4, n_id6_id4, n_id6_id5, n_id5_id4, n_id4_id5, n_id6_id5, n_id5_id6, n_id6_id4, n_id4_id6, n_id7_id, n_id_id7])
        | (((with_reducible apply AWp.drawS (id := 7) (t := (Sch.step 1 (Sch.read 2 (Sch.alt 0 (Sch.alt 3 (Sch.alt 4 (Sch.alt 5 (Sch.alt 6 Sch.done Sch.none) Sch.none) Sch.none) Sch.none) (Sch.alt 3 (Sch.read 0 (Sch.alt 4 (Sch.alt 5 (Sch.alt 6 Sch.done Sch.none) Sch.none) Sch.none)) Sch.none)))))); (exact mixed); kernel_rfl; kernel_rfl; (repeat (with_reducible first | apply PanQ.then | apply PanQ.block | apply PanQ.body | apply PanQ.no))); simp -implicitDefEqProofs [m4, m5, m6, m4', m5', m6', q4, q5, q6, q4', q5', q6', hC4, hC5, hC6, hC7, bdV, bodyV, n_id4_id5, n_id4_id6, n_id5_id6, n_id5_id4, n_id6_id4, n_id6_id5, n_id5_id4, n_id4_id5, n_id6_id5, n_id5_id6, n_id6_id4, n_id4_id6, n_id7_id, n_id_id7])
        | ((with_reducible apply aCall.id); first
            | ((apply aCall.gives (hsk)); simp -implicitDefEqProofs [m4, m5, m6, m4', m5', m6', q4, q5, q6, q4', q5', q6', hC4, hC5, hC6, hC7, bdV, bodyV, n_id4_id5, n_id4_id6, n_id5_id6, n_id5_id4, n_id6_id4, n_id6_id5, n_id5_id4, n_id4_id5, n_id6_id5, n_id5_id6, n_id6_id4, n_id4_id6, n_id7_id, n_id_id7])
            | ((apply aCall.gives (hbd')); simp -implicitDefEqProofs [m4, m5, m6, m4', m5', m6', q4, q5, q6, q4', q5', q6', hC4, hC5, hC6, hC7, bdV, bodyV, n_id4_id5, n_id4_id6, n_id5_id6, n_id5_id4, n_id6_id4, n_id6_id5, n_id5_id4, n_id4_id5, n_id6_id5, n_id5_id6, n_id6_id4, n_id4_id6, n_id7_id, n_id_id7]))
        | ((with_reducible apply AWp.ret); try simp -implicitDefEqProofs [m4, m5, m6, m4', m5', m6', q4, q5, q6, q4', q5', q6', hC4, hC5, hC6, hC7, bdV, bodyV, n_id4_id5, n_id4_id6, n_id5_id6, n_id5_id4, n_id6_id4, n_id6_id5, n_id5_id4, n_id4_id5, n_id6_id5, n_id5_id6, n_id6_id4, n_id4_id6, n_id7_id, n_id_id7])
        | ((with_reducible apply AWp.skip); try simp -implicitDefEqProofs [m4, m5, m6, m4', m5', m6', q4, q5, q6, q4', q5', q6', hC4, hC5, hC6, hC7, bdV, bodyV, n_id4_id5, n_id4_id6, n_id5_id6, n_id5_id4, n_id6_id4, n_id6_id5, n_id5_id4, n_id4_id5, n_id6_id5, n_id5_id6, n_id6_id4, n_id4_id6, n_id7_id, n_id_id7])
        | ((with_reducible apply AWp.exit); try simp -implicitDefEqProofs [m4, m5, m6, m4', m5', m6', q4, q5, q6, q4', q5', q6', hC4, hC5, hC6, hC7, bdV, bodyV, n_id4_id5, n_id4_id6, n_id5_id6, n_id5_id4, n_id6_id4, n_id6_id5, n_id5_id4, n_id4_id5, n_id6_id5, n_id5_id6, n_id6_id4, n_id4_id6, n_id7_id, n_id_id7]))
      apply AWp.sure
      (((with_reducible apply AWp.drawS (id := 7) (t := (Sch.step 1 (Sch.read 2 (Sch.alt 0 (Sch.alt 3 (Sch.alt 4 (Sch.alt 5 (Sch.alt 6 Sch.done Sch.none) Sch.none) Sch.none) Sch.none) (Sch.alt 3 (Sch.read 0 (Sch.alt 4 (Sch.alt 5 (Sch.alt 6 Sch.done Sch.none) Sch.none) Sch.none)) Sch.none)))))); (exact mixed); kernel_rfl; kernel_rfl; (repeat (with_reducible first | apply PanQ.then | apply PanQ.block | apply PanQ.body | apply PanQ.no))); simp -implicitDefEqProofs [m4, m5, m6, m4', m5', m6', q4, q5, q6, q4', q5', q6', hC4, hC5, hC6, hC7, n_id4_id5, n_id4_id6, n_id5_id6, n_id5_id4, n_id6_id4, n_id6_id5, n_id5_id4, n_id4_id5, n_id6_id5, n_id5_id6, n_id6_id4, n_id4_id6, n_id7_id, n_id_id7])
      refine ⟨?_, ?_⟩
      all_goals
        refine aCall.gives (at_ok id b a nl _ (by simp [m4'])) ?_
        simp -implicitDefEqProofs [m4, m5, m6, m4', m5', m6', q4, q5, q6, q4', q5', q6', hC4, hC5, hC6, hC7, n_id4_id5, n_id4_id6, n_id5_id6, n_id5_id4, n_id6_id4, n_id6_id5]
        repeat (first
          | (with_reducible apply AWp.seq)
          | (with_reducible apply AWp.block)
          | ((with_reducible apply AWp.fork); simp -implicitDefEqProofs [m4, m5, m6, m4', m5', m6', q4, q5, q6, q4', q5', q6', hC4, hC5, hC6, hC7, n_id4_id5, n_id4_id6, n_id5_id6, n_id5_id4, n_id6_id4, n_id6_id5, n_id5_id4, n_id4_id5, n_id6_id5, n_id5_id6, n_id6_id4, n_id4_id6, n_id7_id, n_id_id7])
          | ((with_reducible apply AWp.region); simp -implicitDefEqProofs [m4, m5, m6, m4', m5', m6', q4, q5, q6, q4', q5', q6', hC4, hC5, hC6, hC7, n_id4_id5, n_id4_id6, n_id5_id6, n_id5_id4, n_id6_id4, n_id6_id5, n_id5_id4, n_id4_id5, n_id6_id5, n_id5_id6, n_id6_id4, n_id4_id6, n_id7_id, n_id_id7])
          | (with_reducible refine And.intro (by first | omega | assumption | decide) ?_)
          | ((with_reducible show condK _ _ _); simp -implicitDefEqProofs [m4, m5, m6, m4', m5', m6', q4, q5, q6, q4', q5', q6', hC4, hC5, hC6, hC7, n_id4_id5, n_id4_id6, n_id5_id6, n_id5_id4, n_id6_id4, n_id6_id5, n_id5_id4, n_id4_id5, n_id6_id5, n_id5_id6, n_id6_id4, n_id4_id6, n_id7_id, n_id_id7])
          | ((with_reducible show guardK _ _ _ _ _ _ _ _ _); simp -implicitDefEqProofs [m4, m5, m6, m4', m5', m6', q4, q5, q6, q4', q5', q6', hC4, hC5, hC6, hC7, n_id4_id5, n_id4_id6, n_id5_id6, n_id5_id4, n_id6_id4, n_id6_id5, n_id5_id4, n_id4_id5, n_id6_id5, n_id5_id6, n_id6_id4, n_id4_id6, n_id7_id, n_id_id7])
          | (((with_reducible apply AWp.drawS (id := 7) (t := (Sch.step 1 (Sch.read 2 (Sch.alt 0 (Sch.alt 3 (Sch.alt 4 (Sch.alt 5 (Sch.alt 6 Sch.done Sch.none) Sch.none) Sch.none) Sch.none) (Sch.alt 3 (Sch.read 0 (Sch.alt 4 (Sch.alt 5 (Sch.alt 6 Sch.done Sch.none) Sch.none) Sch.none)) Sch.none)))))); (exact mixed); kernel_rfl; kernel_rfl; (repeat (with_reducible first | apply PanQ.then | apply PanQ.block | apply PanQ.body | apply PanQ.no))); simp -implicitDefEqProofs [m4, m5, m6, m4', m5', m6', q4, q5, q6, q4', q5', q6', hC4, hC5, hC6, hC7, n_id4_id5, n_id4_id6, n_id5_id6, n_id5_id4, n_id6_id4, n_id6_id5, n_id5_id4, n_id4_id5, n_id6_id5, n_id5_id6, n_id6_id4, n_id4_id6, n_id7_id, n_id_id7])
          | ((with_reducible apply AWp.ret); try simp -implicitDefEqProofs [m4, m5, m6, m4', m5', m6', q4, q5, q6, q4', q5', q6', hC4, hC5, hC6, hC7, n_id4_id5, n_id4_id6, n_id5_id6, n_id5_id4, n_id6_id4, n_id6_id5, n_id5_id4, n_id4_id5, n_id6_id5, n_id5_id6, n_id6_id4, n_id4_id6, n_id7_id, n_id_id7])
          | ((with_reducible apply AWp.skip); try simp -implicitDefEqProofs [m4, m5, m6, m4', m5', m6', q4, q5, q6, q4', q5', q6', hC4, hC5, hC6, hC7, n_id4_id5, n_id4_id6, n_id5_id6, n_id5_id4, n_id6_id4, n_id6_id5, n_id5_id4, n_id4_id5, n_id6_id5, n_id5_id6, n_id6_id4, n_id4_id6, n_id7_id, n_id_id7])
          | ((with_reducible apply AWp.exit); try simp -implicitDefEqProofs [m4, m5, m6, m4', m5', m6', q4, q5, q6, q4', q5', q6', hC4, hC5, hC6, hC7, n_id4_id5, n_id4_id6, n_id5_id6, n_id5_id4, n_id6_id4, n_id6_id5, n_id5_id4, n_id4_id5, n_id6_id5, n_id5_id6, n_id6_id4, n_id4_id6, n_id7_id, n_id_id7]))
        refine read1_none _ _ _ _ _ ?_
        simp -implicitDefEqProofs [m4, m5, m6, m4', m5', m6', q4, q5, q6, q4', q5', q6', hC4, hC5, hC6, hC7, n_id4_id5, n_id4_id6, n_id5_id6, n_id5_id4, n_id6_id4, n_id6_id5, hS]
        refine hleC _ fun j e4 e5 e6 e1 y hj => ?_
        simp [AS.set, e4, e5, e6, e1, hj]

end Go.Proofs.Ytnkjbgcbchbonaa
