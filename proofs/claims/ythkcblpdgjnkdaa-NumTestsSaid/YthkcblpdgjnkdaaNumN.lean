/- NumTests: of two words just one is so: less, the same, more; and each test has its contrary. No condition. -/
import Derived.Test.YthkcblpdgjnkdaaNumL
set_option linter.unusedSimpArgs false
set_option linter.unusedVariables false
set_option maxRecDepth 100000
set_option maxHeartbeats 3200000
namespace Go.Proofs.Ythkcblpdgjnkdaa
open Go Go.AW Go.ChangeShapes Go.WideShapes Go.ChangeAt Go.RowKit

def b2i (b : Bool) : Int := if b then 1 else 0
def opN (i : Nat) : Int := if i = 0 then 33 else if i = 1 then 31 else 32
def cntT (a b : Int) : Nat → Int
  | 0 => 0
  | i + 1 => cntT a b i + b2i (testR (opN i) a b)

theorem cntT_3 (a b : Int) : cntT a b 3 = 1 := by
  have e : cntT a b 3 = 0 + b2i (testR 33 a b) + b2i (testR 31 a b) + b2i (testR 32 a b) := rfl
  rw [e]
  have e1 : testR 33 a b = decide (IntKind.i64.wrap a < IntKind.i64.wrap b) := rfl
  have e2 : testR 31 a b = decide (IntKind.i64.wrap a = IntKind.i64.wrap b) := rfl
  have e3 : testR 32 a b = decide (IntKind.i64.wrap b < IntKind.i64.wrap a) := rfl
  rw [e1, e2, e3]
  generalize IntKind.i64.wrap a = x
  generalize IntKind.i64.wrap b = y
  rcases Int.lt_trichotomy x y with h | h | h
  · have h2 : ¬ x = y := by omega
    have h3 : ¬ y < x := by omega
    simp [b2i, h, h2, h3]
  · subst h; simp [b2i]
  · have h2 : ¬ x = y := by omega
    have h3 : ¬ x < y := by omega
    simp [b2i, h, h2, h3]

theorem cntT_bd (a b : Int) (i : Nat) : 0 ≤ cntT a b i ∧ cntT a b i ≤ i := by
  induction i with
  | zero => simp [cntT]
  | succ i ih =>
    simp only [cntT, b2i]
    split <;> omega

def wdC (w : Bool) (a b : Int) : ABlk := .cells 24 [.sc (.bool w), .sc (.int .u64 a), .sc (.int .u64 b)]
def tsI (w : Bool) (a b : Int) (id : Nat) (σ : AS) (m : Nat) (s : Fr) (σ' : AS) : Prop :=
  ∃ i : Nat, m = 3 - i ∧ i ≤ 3 ∧ σ' = σ.set id (wdC w a b) ∧
    s = mkF [(1, .ptr id 0), (3, .sc (.int .i64 (cntT a b i))), (10, .agg [.sc (.int .i64 33), .sc (.int .i64 31), .sc (.int .i64 32)]), (11, .sc (.int .i64 i))]
def pairs : List Int := [37, 42, 38, 41, 39, 40, 35, 36]
def tpI (w : Bool) (a b : Int) (id : Nat) (σ : AS) (m : Nat) (s : Fr) (σ' : AS) : Prop :=
  ∃ i : Nat, m = 4 - i ∧ i ≤ 4 ∧ AS.le (σ.set id (wdC w a b)) σ' ∧
    s = mkF [(1, .ptr id 0), (3, .sc (.int .i64 1)), (27, .agg [.sc (.int .i64 37), .sc (.int .i64 42), .sc (.int .i64 38), .sc (.int .i64 41), .sc (.int .i64 39), .sc (.int .i64 40), .sc (.int .i64 35), .sc (.int .i64 36)]), (28, .sc (.int .i64 i))]

theorem contrary (a b : Int) (i : Nat) (hi : i < 4) : (testR (pairs.getD (2 * i) 0) a b = true ∧ testR (pairs.getD (2 * i + 1) 0) a b = false) ∨ (testR (pairs.getD (2 * i) 0) a b = false ∧ testR (pairs.getD (2 * i + 1) 0) a b = true) := by
  generalize hx : IntKind.i64.wrap a = x
  generalize hy : IntKind.i64.wrap b = y
  match i, hi with
  | 0, _ =>
    show (testR 37 a b = true ∧ testR 42 a b = false) ∨ (testR 37 a b = false ∧ testR 42 a b = true)
    rw [show testR 37 a b = decide (IntKind.i64.wrap a = IntKind.i64.wrap b) from rfl, show testR 42 a b = !decide (IntKind.i64.wrap a = IntKind.i64.wrap b) from rfl]
    cases decide (IntKind.i64.wrap a = IntKind.i64.wrap b) <;> simp
  | 1, _ =>
    show (testR 38 a b = true ∧ testR 41 a b = false) ∨ (testR 38 a b = false ∧ testR 41 a b = true)
    rw [show testR 38 a b = decide (IntKind.i64.wrap b ≤ IntKind.i64.wrap a) from rfl, show testR 41 a b = decide (IntKind.i64.wrap a < IntKind.i64.wrap b) from rfl, hx, hy]
    by_cases h : y ≤ x
    · have h2 : ¬ x < y := by omega
      simp [h]
    · have h2 : x < y := by omega
      simp [h, h2]
  | 2, _ =>
    show (testR 39 a b = true ∧ testR 40 a b = false) ∨ (testR 39 a b = false ∧ testR 40 a b = true)
    rw [show testR 39 a b = decide (IntKind.i64.wrap b < IntKind.i64.wrap a) from rfl, show testR 40 a b = decide (IntKind.i64.wrap a ≤ IntKind.i64.wrap b) from rfl, hx, hy]
    by_cases h : y < x
    · have h2 : ¬ x ≤ y := by omega
      simp [h]
    · have h2 : x ≤ y := by omega
      simp [h, h2]
  | 3, _ =>
    show (testR 35 a b = true ∧ testR 36 a b = false) ∨ (testR 35 a b = false ∧ testR 36 a b = true)
    rw [show testR 35 a b = !decide (IntKind.i64.wrap a = 0) from rfl, show testR 36 a b = decide (IntKind.i64.wrap a = 0) from rfl]
    cases decide (IntKind.i64.wrap a = 0) <;> simp

theorem numTests_ok (w : Bool) (a b : Int) :
    ACalls Try.prog 5 [.agg [.sc (.bool w), .sc (.int .u64 a), .sc (.int .u64 b)]] noAS IsTrue No := by
  refine ACalls.of_body Try.func5 rfl rfl (by simp [Try.ntmps5]) ?_
  repeat (first
    | (with_reducible refine AWp.seq ?_)
    | (with_reducible refine AWp.block ?_)
    | (with_reducible refine And.intro (by first | omega | assumption | decide) ?_)
    | ((with_reducible refine AWp.region ?_); simp)
    | ((with_reducible refine AWp.drawS (id := 13) mixed (Sch.step 0 (Sch.step 2 (Sch.step 4 (Sch.step 7 (Sch.step 9 (Sch.step 11 (Sch.read 1 (Sch.read 3 (Sch.read 5 (Sch.alt 6 (Sch.read 8 (Sch.read 10 (Sch.read 12 (Sch.alt 13 (Sch.step 14 Sch.done) Sch.none)))) (Sch.alt 8 (Sch.alt 6 (Sch.read 10 (Sch.read 12 (Sch.alt 13 (Sch.step 14 Sch.done) Sch.none))) (Sch.alt 10 (Sch.alt 6 (Sch.read 12 (Sch.alt 13 (Sch.step 14 Sch.done) Sch.none)) (Sch.alt 12 (Sch.alt 6 (Sch.alt 13 (Sch.step 14 Sch.done) Sch.none) Sch.none) Sch.none)) (Sch.alt 12 (Sch.alt 6 (Sch.read 10 (Sch.alt 13 (Sch.step 14 Sch.done) Sch.none)) (Sch.alt 10 (Sch.alt 6 (Sch.alt 13 (Sch.step 14 Sch.done) Sch.none) Sch.none) Sch.none)) Sch.none))) (Sch.alt 10 (Sch.alt 6 (Sch.read 8 (Sch.read 12 (Sch.alt 13 (Sch.step 14 Sch.done) Sch.none))) (Sch.alt 8 (Sch.alt 6 (Sch.read 12 (Sch.alt 13 (Sch.step 14 Sch.done) Sch.none)) (Sch.alt 12 (Sch.alt 6 (Sch.alt 13 (Sch.step 14 Sch.done) Sch.none) Sch.none) Sch.none)) (Sch.alt 12 (Sch.alt 6 (Sch.read 8 (Sch.alt 13 (Sch.step 14 Sch.done) Sch.none)) (Sch.alt 8 (Sch.alt 6 (Sch.alt 13 (Sch.step 14 Sch.done) Sch.none) Sch.none) Sch.none)) Sch.none))) (Sch.alt 12 (Sch.alt 6 (Sch.read 8 (Sch.read 10 (Sch.alt 13 (Sch.step 14 Sch.done) Sch.none))) (Sch.alt 8 (Sch.alt 6 (Sch.read 10 (Sch.alt 13 (Sch.step 14 Sch.done) Sch.none)) (Sch.alt 10 (Sch.alt 6 (Sch.alt 13 (Sch.step 14 Sch.done) Sch.none) Sch.none) Sch.none)) (Sch.alt 10 (Sch.alt 6 (Sch.read 8 (Sch.alt 13 (Sch.step 14 Sch.done) Sch.none)) (Sch.alt 8 (Sch.alt 6 (Sch.alt 13 (Sch.step 14 Sch.done) Sch.none) Sch.none) Sch.none)) Sch.none))) Sch.none))))))))))))) (by kernel_rfl) (by kernel_rfl) (by repeat (with_reducible first | apply PanQ.then | apply PanQ.block | exact PanQ.body)) ?_); simp)
    | ((with_reducible refine AWp.ret ?_); try simp)
    | ((with_reducible refine AWp.skip ?_); try simp)
    | ((with_reducible refine AWp.exit ?_); try simp)
    | ((refine AWp.cond rfl (fun _ => ?_) (fun hcf => absurd hcf ?hcd)); (case hcd => (simp; done)))
    | ((refine AWp.cond rfl (fun hcf => absurd hcf ?hcd) (fun _ => ?_)); (case hcd => (simp; done))))
  intro id hid
  repeat (first
    | (with_reducible refine AWp.seq ?_)
    | (with_reducible refine AWp.block ?_)
    | (with_reducible refine And.intro (by first | omega | assumption | decide) ?_)
    | ((with_reducible refine AWp.region ?_); simp)
    | ((with_reducible refine AWp.drawS (id := 13) mixed (Sch.step 0 (Sch.step 2 (Sch.step 4 (Sch.step 7 (Sch.step 9 (Sch.step 11 (Sch.read 1 (Sch.read 3 (Sch.read 5 (Sch.alt 6 (Sch.read 8 (Sch.read 10 (Sch.read 12 (Sch.alt 13 (Sch.step 14 Sch.done) Sch.none)))) (Sch.alt 8 (Sch.alt 6 (Sch.read 10 (Sch.read 12 (Sch.alt 13 (Sch.step 14 Sch.done) Sch.none))) (Sch.alt 10 (Sch.alt 6 (Sch.read 12 (Sch.alt 13 (Sch.step 14 Sch.done) Sch.none)) (Sch.alt 12 (Sch.alt 6 (Sch.alt 13 (Sch.step 14 Sch.done) Sch.none) Sch.none) Sch.none)) (Sch.alt 12 (Sch.alt 6 (Sch.read 10 (Sch.alt 13 (Sch.step 14 Sch.done) Sch.none)) (Sch.alt 10 (Sch.alt 6 (Sch.alt 13 (Sch.step 14 Sch.done) Sch.none) Sch.none) Sch.none)) Sch.none))) (Sch.alt 10 (Sch.alt 6 (Sch.read 8 (Sch.read 12 (Sch.alt 13 (Sch.step 14 Sch.done) Sch.none))) (Sch.alt 8 (Sch.alt 6 (Sch.read 12 (Sch.alt 13 (Sch.step 14 Sch.done) Sch.none)) (Sch.alt 12 (Sch.alt 6 (Sch.alt 13 (Sch.step 14 Sch.done) Sch.none) Sch.none) Sch.none)) (Sch.alt 12 (Sch.alt 6 (Sch.read 8 (Sch.alt 13 (Sch.step 14 Sch.done) Sch.none)) (Sch.alt 8 (Sch.alt 6 (Sch.alt 13 (Sch.step 14 Sch.done) Sch.none) Sch.none) Sch.none)) Sch.none))) (Sch.alt 12 (Sch.alt 6 (Sch.read 8 (Sch.read 10 (Sch.alt 13 (Sch.step 14 Sch.done) Sch.none))) (Sch.alt 8 (Sch.alt 6 (Sch.read 10 (Sch.alt 13 (Sch.step 14 Sch.done) Sch.none)) (Sch.alt 10 (Sch.alt 6 (Sch.alt 13 (Sch.step 14 Sch.done) Sch.none) Sch.none) Sch.none)) (Sch.alt 10 (Sch.alt 6 (Sch.read 8 (Sch.alt 13 (Sch.step 14 Sch.done) Sch.none)) (Sch.alt 8 (Sch.alt 6 (Sch.alt 13 (Sch.step 14 Sch.done) Sch.none) Sch.none) Sch.none)) Sch.none))) Sch.none))))))))))))) (by kernel_rfl) (by kernel_rfl) (by repeat (with_reducible first | apply PanQ.then | apply PanQ.block | exact PanQ.body)) ?_); simp)
    | ((refine aCall.gives (wakes_ok _) ?_); simp)
    | ((with_reducible refine AWp.ret ?_); try simp)
    | ((with_reducible refine AWp.skip ?_); try simp)
    | ((with_reducible refine AWp.exit ?_); try simp)
    | ((refine AWp.cond rfl (fun _ => ?_) (fun hcf => absurd hcf ?hcd)); (case hcd => (simp; done)))
    | ((refine AWp.cond rfl (fun hcf => absurd hcf ?hcd) (fun _ => ?_)); (case hcd => (simp; done))))
  refine AWp.loopI (tsI w a b id noAS) (k0 := 3) ⟨0, by omega, by omega, rfl, rfl⟩ (FrWk.mk (by simp [cntT])) (AS.le_refl _) ?_
  rintro m s σ' ⟨i, hm, hi, rfl, rfl⟩
  have hb := cntT_bd a b i
  by_cases hlt : i < 3
  · have w8 : IntKind.i64.wrap ((i : Int) + 1) = ((i + 1 : Nat) : Int) := by rw [in_i64 (by omega) (by omega)]; simp
    have w9 : IntKind.i64.wrap (cntT a b i + 1) = cntT a b i + 1 := in_i64 (by omega) (by omega)
    have hop : ([AV.sc (.int .i64 33), AV.sc (.int .i64 31), AV.sc (.int .i64 32)] : List AV)[i]'(by simpa using hlt) = .sc (.int .i64 (opN i)) := by
      match i, hlt with
      | 0, _ => rfl
      | 1, _ => rfl
      | 2, _ => rfl
    have hltI : (i : Int) < 3 := by omega
    cases ht : testR (opN i) a b
    · have hc : cntT a b (i + 1) = cntT a b i := by simp [cntT, ht, b2i]
      repeat (first
        | (with_reducible refine AWp.seq ?_)
        | (with_reducible refine AWp.block ?_)
        | (with_reducible refine And.intro (by first | omega | assumption | decide) ?_)
        | ((with_reducible refine AWp.region ?_); simp [hlt, hltI, wdC, hop, ht])
        | ((with_reducible refine AWp.drawS (id := 13) mixed (Sch.step 0 (Sch.step 2 (Sch.step 4 (Sch.step 7 (Sch.step 9 (Sch.step 11 (Sch.read 1 (Sch.read 3 (Sch.read 5 (Sch.alt 6 (Sch.read 8 (Sch.read 10 (Sch.read 12 (Sch.alt 13 (Sch.step 14 Sch.done) Sch.none)))) (Sch.alt 8 (Sch.alt 6 (Sch.read 10 (Sch.read 12 (Sch.alt 13 (Sch.step 14 Sch.done) Sch.none))) (Sch.alt 10 (Sch.alt 6 (Sch.read 12 (Sch.alt 13 (Sch.step 14 Sch.done) Sch.none)) (Sch.alt 12 (Sch.alt 6 (Sch.alt 13 (Sch.step 14 Sch.done) Sch.none) Sch.none) Sch.none)) (Sch.alt 12 (Sch.alt 6 (Sch.read 10 (Sch.alt 13 (Sch.step 14 Sch.done) Sch.none)) (Sch.alt 10 (Sch.alt 6 (Sch.alt 13 (Sch.step 14 Sch.done) Sch.none) Sch.none) Sch.none)) Sch.none))) (Sch.alt 10 (Sch.alt 6 (Sch.read 8 (Sch.read 12 (Sch.alt 13 (Sch.step 14 Sch.done) Sch.none))) (Sch.alt 8 (Sch.alt 6 (Sch.read 12 (Sch.alt 13 (Sch.step 14 Sch.done) Sch.none)) (Sch.alt 12 (Sch.alt 6 (Sch.alt 13 (Sch.step 14 Sch.done) Sch.none) Sch.none) Sch.none)) (Sch.alt 12 (Sch.alt 6 (Sch.read 8 (Sch.alt 13 (Sch.step 14 Sch.done) Sch.none)) (Sch.alt 8 (Sch.alt 6 (Sch.alt 13 (Sch.step 14 Sch.done) Sch.none) Sch.none) Sch.none)) Sch.none))) (Sch.alt 12 (Sch.alt 6 (Sch.read 8 (Sch.read 10 (Sch.alt 13 (Sch.step 14 Sch.done) Sch.none))) (Sch.alt 8 (Sch.alt 6 (Sch.read 10 (Sch.alt 13 (Sch.step 14 Sch.done) Sch.none)) (Sch.alt 10 (Sch.alt 6 (Sch.alt 13 (Sch.step 14 Sch.done) Sch.none) Sch.none) Sch.none)) (Sch.alt 10 (Sch.alt 6 (Sch.read 8 (Sch.alt 13 (Sch.step 14 Sch.done) Sch.none)) (Sch.alt 8 (Sch.alt 6 (Sch.alt 13 (Sch.step 14 Sch.done) Sch.none) Sch.none) Sch.none)) Sch.none))) Sch.none))))))))))))) (by kernel_rfl) (by kernel_rfl) (by repeat (with_reducible first | apply PanQ.then | apply PanQ.block | exact PanQ.body)) ?_); simp [hlt, hltI, wdC, hop, ht])
        | ((refine aCall.gives (test_ok _ _ _ _) ?_); simp [hlt, hltI, wdC, hop, ht])
        | ((with_reducible refine AWp.ret ?_); try simp [hlt, hltI, wdC, hop, ht])
        | ((with_reducible refine AWp.skip ?_); try simp [hlt, hltI, wdC, hop, ht])
        | ((with_reducible refine AWp.exit ?_); try simp [hlt, hltI, wdC, hop, ht])
        | ((refine AWp.cond rfl (fun _ => ?_) (fun hcf => absurd hcf ?hcd)); (case hcd => (simp [hlt, hltI, wdC, hop, ht]; done)))
        | ((refine AWp.cond rfl (fun hcf => absurd hcf ?hcd) (fun _ => ?_)); (case hcd => (simp [hlt, hltI, wdC, hop, ht]; done))))
      refine ⟨m - 1, _, _, by omega, FrWk.mk ?_, AS.le_refl _, i + 1, by omega, by omega, rfl, rfl⟩
      simp [w8, hc]
    · have hc : cntT a b (i + 1) = cntT a b i + 1 := by simp [cntT, ht, b2i]
      repeat (first
        | (with_reducible refine AWp.seq ?_)
        | (with_reducible refine AWp.block ?_)
        | (with_reducible refine And.intro (by first | omega | assumption | decide) ?_)
        | ((with_reducible refine AWp.region ?_); simp [hlt, hltI, wdC, hop, ht])
        | ((with_reducible refine AWp.drawS (id := 13) mixed (Sch.step 0 (Sch.step 2 (Sch.step 4 (Sch.step 7 (Sch.step 9 (Sch.step 11 (Sch.read 1 (Sch.read 3 (Sch.read 5 (Sch.alt 6 (Sch.read 8 (Sch.read 10 (Sch.read 12 (Sch.alt 13 (Sch.step 14 Sch.done) Sch.none)))) (Sch.alt 8 (Sch.alt 6 (Sch.read 10 (Sch.read 12 (Sch.alt 13 (Sch.step 14 Sch.done) Sch.none))) (Sch.alt 10 (Sch.alt 6 (Sch.read 12 (Sch.alt 13 (Sch.step 14 Sch.done) Sch.none)) (Sch.alt 12 (Sch.alt 6 (Sch.alt 13 (Sch.step 14 Sch.done) Sch.none) Sch.none) Sch.none)) (Sch.alt 12 (Sch.alt 6 (Sch.read 10 (Sch.alt 13 (Sch.step 14 Sch.done) Sch.none)) (Sch.alt 10 (Sch.alt 6 (Sch.alt 13 (Sch.step 14 Sch.done) Sch.none) Sch.none) Sch.none)) Sch.none))) (Sch.alt 10 (Sch.alt 6 (Sch.read 8 (Sch.read 12 (Sch.alt 13 (Sch.step 14 Sch.done) Sch.none))) (Sch.alt 8 (Sch.alt 6 (Sch.read 12 (Sch.alt 13 (Sch.step 14 Sch.done) Sch.none)) (Sch.alt 12 (Sch.alt 6 (Sch.alt 13 (Sch.step 14 Sch.done) Sch.none) Sch.none) Sch.none)) (Sch.alt 12 (Sch.alt 6 (Sch.read 8 (Sch.alt 13 (Sch.step 14 Sch.done) Sch.none)) (Sch.alt 8 (Sch.alt 6 (Sch.alt 13 (Sch.step 14 Sch.done) Sch.none) Sch.none) Sch.none)) Sch.none))) (Sch.alt 12 (Sch.alt 6 (Sch.read 8 (Sch.read 10 (Sch.alt 13 (Sch.step 14 Sch.done) Sch.none))) (Sch.alt 8 (Sch.alt 6 (Sch.read 10 (Sch.alt 13 (Sch.step 14 Sch.done) Sch.none)) (Sch.alt 10 (Sch.alt 6 (Sch.alt 13 (Sch.step 14 Sch.done) Sch.none) Sch.none) Sch.none)) (Sch.alt 10 (Sch.alt 6 (Sch.read 8 (Sch.alt 13 (Sch.step 14 Sch.done) Sch.none)) (Sch.alt 8 (Sch.alt 6 (Sch.alt 13 (Sch.step 14 Sch.done) Sch.none) Sch.none) Sch.none)) Sch.none))) Sch.none))))))))))))) (by kernel_rfl) (by kernel_rfl) (by repeat (with_reducible first | apply PanQ.then | apply PanQ.block | exact PanQ.body)) ?_); simp [hlt, hltI, wdC, hop, ht])
        | ((refine aCall.gives (test_ok _ _ _ _) ?_); simp [hlt, hltI, wdC, hop, ht])
        | ((with_reducible refine AWp.ret ?_); try simp [hlt, hltI, wdC, hop, ht])
        | ((with_reducible refine AWp.skip ?_); try simp [hlt, hltI, wdC, hop, ht])
        | ((with_reducible refine AWp.exit ?_); try simp [hlt, hltI, wdC, hop, ht])
        | ((refine AWp.cond rfl (fun _ => ?_) (fun hcf => absurd hcf ?hcd)); (case hcd => (simp [hlt, hltI, wdC, hop, ht]; done)))
        | ((refine AWp.cond rfl (fun hcf => absurd hcf ?hcd) (fun _ => ?_)); (case hcd => (simp [hlt, hltI, wdC, hop, ht]; done))))
      refine ⟨m - 1, _, _, by omega, FrWk.mk ?_, AS.le_refl _, i + 1, by omega, by omega, rfl, rfl⟩
      simp [w8, hc, w9]
  · have : i = 3 := by omega
    subst this
    have h3 := cntT_3 a b
    repeat (first
      | (with_reducible refine AWp.seq ?_)
      | (with_reducible refine AWp.block ?_)
      | (with_reducible refine And.intro (by first | omega | assumption | decide) ?_)
      | ((with_reducible refine AWp.region ?_); simp [h3])
      | ((with_reducible refine AWp.drawS (id := 13) mixed (Sch.step 0 (Sch.step 2 (Sch.step 4 (Sch.step 7 (Sch.step 9 (Sch.step 11 (Sch.read 1 (Sch.read 3 (Sch.read 5 (Sch.alt 6 (Sch.read 8 (Sch.read 10 (Sch.read 12 (Sch.alt 13 (Sch.step 14 Sch.done) Sch.none)))) (Sch.alt 8 (Sch.alt 6 (Sch.read 10 (Sch.read 12 (Sch.alt 13 (Sch.step 14 Sch.done) Sch.none))) (Sch.alt 10 (Sch.alt 6 (Sch.read 12 (Sch.alt 13 (Sch.step 14 Sch.done) Sch.none)) (Sch.alt 12 (Sch.alt 6 (Sch.alt 13 (Sch.step 14 Sch.done) Sch.none) Sch.none) Sch.none)) (Sch.alt 12 (Sch.alt 6 (Sch.read 10 (Sch.alt 13 (Sch.step 14 Sch.done) Sch.none)) (Sch.alt 10 (Sch.alt 6 (Sch.alt 13 (Sch.step 14 Sch.done) Sch.none) Sch.none) Sch.none)) Sch.none))) (Sch.alt 10 (Sch.alt 6 (Sch.read 8 (Sch.read 12 (Sch.alt 13 (Sch.step 14 Sch.done) Sch.none))) (Sch.alt 8 (Sch.alt 6 (Sch.read 12 (Sch.alt 13 (Sch.step 14 Sch.done) Sch.none)) (Sch.alt 12 (Sch.alt 6 (Sch.alt 13 (Sch.step 14 Sch.done) Sch.none) Sch.none) Sch.none)) (Sch.alt 12 (Sch.alt 6 (Sch.read 8 (Sch.alt 13 (Sch.step 14 Sch.done) Sch.none)) (Sch.alt 8 (Sch.alt 6 (Sch.alt 13 (Sch.step 14 Sch.done) Sch.none) Sch.none) Sch.none)) Sch.none))) (Sch.alt 12 (Sch.alt 6 (Sch.read 8 (Sch.read 10 (Sch.alt 13 (Sch.step 14 Sch.done) Sch.none))) (Sch.alt 8 (Sch.alt 6 (Sch.read 10 (Sch.alt 13 (Sch.step 14 Sch.done) Sch.none)) (Sch.alt 10 (Sch.alt 6 (Sch.alt 13 (Sch.step 14 Sch.done) Sch.none) Sch.none) Sch.none)) (Sch.alt 10 (Sch.alt 6 (Sch.read 8 (Sch.alt 13 (Sch.step 14 Sch.done) Sch.none)) (Sch.alt 8 (Sch.alt 6 (Sch.alt 13 (Sch.step 14 Sch.done) Sch.none) Sch.none) Sch.none)) Sch.none))) Sch.none))))))))))))) (by kernel_rfl) (by kernel_rfl) (by repeat (with_reducible first | apply PanQ.then | apply PanQ.block | exact PanQ.body)) ?_); simp [h3])
      | ((with_reducible refine AWp.ret ?_); try simp [h3])
      | ((with_reducible refine AWp.skip ?_); try simp [h3])
      | ((with_reducible refine AWp.exit ?_); try simp [h3])
      | ((refine AWp.cond rfl (fun _ => ?_) (fun hcf => absurd hcf ?hcd)); (case hcd => (simp [h3]; done)))
      | ((refine AWp.cond rfl (fun hcf => absurd hcf ?hcd) (fun _ => ?_)); (case hcd => (simp [h3]; done))))
    refine AWp.loopI (tpI w a b id noAS) (k0 := 4) ⟨0, by omega, by omega, AS.le_refl _, rfl⟩ (FrWk.mk (by simp)) (AS.le_refl _) ?_
    rintro m s σ' ⟨i, hm, hi, hle, rfl⟩
    have hcell : σ' id = some (wdC w a b) := hle id _ (by simp)
    by_cases hlt : i < 4
    · have w8 : IntKind.i64.wrap ((i : Int) + 1) = ((i + 1 : Nat) : Int) := by rw [in_i64 (by omega) (by omega)]; simp
      have hltI : (i : Int) < 4 := by omega
      have hct := contrary a b i hlt
      obtain ⟨p, hp⟩ : ∃ p, p = pairs.getD (2 * i) 0 := ⟨_, rfl⟩
      obtain ⟨q, hq⟩ : ∃ q, q = pairs.getD (2 * i + 1) 0 := ⟨_, rfl⟩
      rw [← hp, ← hq] at hct
      have hsl : (([.sc (.int .i64 37), .sc (.int .i64 42), .sc (.int .i64 38), .sc (.int .i64 41), .sc (.int .i64 39), .sc (.int .i64 40), .sc (.int .i64 35), .sc (.int .i64 36)] : List AV).drop (i * 2)).take 2 = [.sc (.int .i64 p), .sc (.int .i64 q)] := by
        subst hp hq
        match i, hlt with
        | 0, _ => rfl
        | 1, _ => rfl
        | 2, _ => rfl
        | 3, _ => rfl
      repeat (first
        | (with_reducible refine AWp.seq ?_)
        | (with_reducible refine AWp.block ?_)
        | (with_reducible refine And.intro (by first | omega | assumption | decide) ?_)
        | ((with_reducible refine AWp.region ?_); simp [hlt, hltI, hsl])
        | ((with_reducible refine AWp.drawS (id := 13) mixed (Sch.step 0 (Sch.step 2 (Sch.step 4 (Sch.step 7 (Sch.step 9 (Sch.step 11 (Sch.read 1 (Sch.read 3 (Sch.read 5 (Sch.alt 6 (Sch.read 8 (Sch.read 10 (Sch.read 12 (Sch.alt 13 (Sch.step 14 Sch.done) Sch.none)))) (Sch.alt 8 (Sch.alt 6 (Sch.read 10 (Sch.read 12 (Sch.alt 13 (Sch.step 14 Sch.done) Sch.none))) (Sch.alt 10 (Sch.alt 6 (Sch.read 12 (Sch.alt 13 (Sch.step 14 Sch.done) Sch.none)) (Sch.alt 12 (Sch.alt 6 (Sch.alt 13 (Sch.step 14 Sch.done) Sch.none) Sch.none) Sch.none)) (Sch.alt 12 (Sch.alt 6 (Sch.read 10 (Sch.alt 13 (Sch.step 14 Sch.done) Sch.none)) (Sch.alt 10 (Sch.alt 6 (Sch.alt 13 (Sch.step 14 Sch.done) Sch.none) Sch.none) Sch.none)) Sch.none))) (Sch.alt 10 (Sch.alt 6 (Sch.read 8 (Sch.read 12 (Sch.alt 13 (Sch.step 14 Sch.done) Sch.none))) (Sch.alt 8 (Sch.alt 6 (Sch.read 12 (Sch.alt 13 (Sch.step 14 Sch.done) Sch.none)) (Sch.alt 12 (Sch.alt 6 (Sch.alt 13 (Sch.step 14 Sch.done) Sch.none) Sch.none) Sch.none)) (Sch.alt 12 (Sch.alt 6 (Sch.read 8 (Sch.alt 13 (Sch.step 14 Sch.done) Sch.none)) (Sch.alt 8 (Sch.alt 6 (Sch.alt 13 (Sch.step 14 Sch.done) Sch.none) Sch.none) Sch.none)) Sch.none))) (Sch.alt 12 (Sch.alt 6 (Sch.read 8 (Sch.read 10 (Sch.alt 13 (Sch.step 14 Sch.done) Sch.none))) (Sch.alt 8 (Sch.alt 6 (Sch.read 10 (Sch.alt 13 (Sch.step 14 Sch.done) Sch.none)) (Sch.alt 10 (Sch.alt 6 (Sch.alt 13 (Sch.step 14 Sch.done) Sch.none) Sch.none) Sch.none)) (Sch.alt 10 (Sch.alt 6 (Sch.read 8 (Sch.alt 13 (Sch.step 14 Sch.done) Sch.none)) (Sch.alt 8 (Sch.alt 6 (Sch.alt 13 (Sch.step 14 Sch.done) Sch.none) Sch.none) Sch.none)) Sch.none))) Sch.none))))))))))))) (by kernel_rfl) (by kernel_rfl) (by repeat (with_reducible first | apply PanQ.then | apply PanQ.block | exact PanQ.body)) ?_); simp [hlt, hltI, hsl])
        | ((with_reducible refine AWp.ret ?_); try simp [hlt, hltI, hsl])
        | ((with_reducible refine AWp.skip ?_); try simp [hlt, hltI, hsl])
        | ((with_reducible refine AWp.exit ?_); try simp [hlt, hltI, hsl])
        | ((refine AWp.cond rfl (fun _ => ?_) (fun hcf => absurd hcf ?hcd)); (case hcd => (simp [hlt, hltI, hsl]; done)))
        | ((refine AWp.cond rfl (fun hcf => absurd hcf ?hcd) (fun _ => ?_)); (case hcd => (simp [hlt, hltI, hsl]; done))))
      intro id2 hid2
      have ne : ¬ id = id2 := by intro e; subst e; rw [hcell] at hid2; cases hid2
      have ne' : ¬ id2 = id := fun e => ne e.symm
      rcases hct with ⟨c1, c2⟩ | ⟨c1, c2⟩
      all_goals
        repeat' (first
          | (with_reducible refine AWp.seq ?_)
          | (with_reducible refine AWp.block ?_)
          | (with_reducible refine And.intro (by first | omega | assumption | decide) ?_)
          | ((with_reducible refine AWp.region ?_); simp [hcell, wdC, ne, ne', c1, c2])
          | trivial
          | (with_reducible apply And.intro)
          | ((with_reducible refine AWp.drawS (id := 13) mixed (Sch.step 0 (Sch.step 2 (Sch.step 4 (Sch.step 7 (Sch.step 9 (Sch.step 11 (Sch.read 1 (Sch.read 3 (Sch.read 5 (Sch.alt 6 (Sch.read 8 (Sch.read 10 (Sch.read 12 (Sch.alt 13 (Sch.step 14 Sch.done) Sch.none)))) (Sch.alt 8 (Sch.alt 6 (Sch.read 10 (Sch.read 12 (Sch.alt 13 (Sch.step 14 Sch.done) Sch.none))) (Sch.alt 10 (Sch.alt 6 (Sch.read 12 (Sch.alt 13 (Sch.step 14 Sch.done) Sch.none)) (Sch.alt 12 (Sch.alt 6 (Sch.alt 13 (Sch.step 14 Sch.done) Sch.none) Sch.none) Sch.none)) (Sch.alt 12 (Sch.alt 6 (Sch.read 10 (Sch.alt 13 (Sch.step 14 Sch.done) Sch.none)) (Sch.alt 10 (Sch.alt 6 (Sch.alt 13 (Sch.step 14 Sch.done) Sch.none) Sch.none) Sch.none)) Sch.none))) (Sch.alt 10 (Sch.alt 6 (Sch.read 8 (Sch.read 12 (Sch.alt 13 (Sch.step 14 Sch.done) Sch.none))) (Sch.alt 8 (Sch.alt 6 (Sch.read 12 (Sch.alt 13 (Sch.step 14 Sch.done) Sch.none)) (Sch.alt 12 (Sch.alt 6 (Sch.alt 13 (Sch.step 14 Sch.done) Sch.none) Sch.none) Sch.none)) (Sch.alt 12 (Sch.alt 6 (Sch.read 8 (Sch.alt 13 (Sch.step 14 Sch.done) Sch.none)) (Sch.alt 8 (Sch.alt 6 (Sch.alt 13 (Sch.step 14 Sch.done) Sch.none) Sch.none) Sch.none)) Sch.none))) (Sch.alt 12 (Sch.alt 6 (Sch.read 8 (Sch.read 10 (Sch.alt 13 (Sch.step 14 Sch.done) Sch.none))) (Sch.alt 8 (Sch.alt 6 (Sch.read 10 (Sch.alt 13 (Sch.step 14 Sch.done) Sch.none)) (Sch.alt 10 (Sch.alt 6 (Sch.alt 13 (Sch.step 14 Sch.done) Sch.none) Sch.none) Sch.none)) (Sch.alt 10 (Sch.alt 6 (Sch.read 8 (Sch.alt 13 (Sch.step 14 Sch.done) Sch.none)) (Sch.alt 8 (Sch.alt 6 (Sch.alt 13 (Sch.step 14 Sch.done) Sch.none) Sch.none) Sch.none)) Sch.none))) Sch.none))))))))))))) (by kernel_rfl) (by kernel_rfl) (by repeat (with_reducible first | apply PanQ.then | apply PanQ.block | exact PanQ.body)) ?_); simp [hcell, wdC, ne, ne', c1, c2])
          | ((refine aCall.gives (test_ok _ _ _ _) ?_); simp [hcell, wdC, ne, ne', c1, c2])
          | ((with_reducible refine AWp.ret ?_); try simp [hcell, wdC, ne, ne', c1, c2])
          | ((with_reducible refine AWp.skip ?_); try simp [hcell, wdC, ne, ne', c1, c2])
          | ((with_reducible refine AWp.exit ?_); try simp [hcell, wdC, ne, ne', c1, c2])
          | ((refine AWp.cond rfl (fun _ => ?_) (fun hcf => absurd hcf ?hcd)); (case hcd => (simp [hcell, wdC, ne, ne', c1, c2]; done)))
          | ((refine AWp.cond rfl (fun hcf => absurd hcf ?hcd) (fun _ => ?_)); (case hcd => (simp [hcell, wdC, ne, ne', c1, c2]; done))))
        all_goals
          refine ⟨m - 1, _, _, by omega, FrWk.mk ?_, AS.le_refl _, i + 1, by omega, by omega, le_new hid2 hle, rfl⟩
          simp [w8]
    · have : i = 4 := by omega
      subst this
      repeat (first
        | (with_reducible refine AWp.seq ?_)
        | (with_reducible refine AWp.block ?_)
        | (with_reducible refine And.intro (by first | omega | assumption | decide) ?_)
        | ((with_reducible refine AWp.region ?_); simp)
        | ((with_reducible refine AWp.drawS (id := 13) mixed (Sch.step 0 (Sch.step 2 (Sch.step 4 (Sch.step 7 (Sch.step 9 (Sch.step 11 (Sch.read 1 (Sch.read 3 (Sch.read 5 (Sch.alt 6 (Sch.read 8 (Sch.read 10 (Sch.read 12 (Sch.alt 13 (Sch.step 14 Sch.done) Sch.none)))) (Sch.alt 8 (Sch.alt 6 (Sch.read 10 (Sch.read 12 (Sch.alt 13 (Sch.step 14 Sch.done) Sch.none))) (Sch.alt 10 (Sch.alt 6 (Sch.read 12 (Sch.alt 13 (Sch.step 14 Sch.done) Sch.none)) (Sch.alt 12 (Sch.alt 6 (Sch.alt 13 (Sch.step 14 Sch.done) Sch.none) Sch.none) Sch.none)) (Sch.alt 12 (Sch.alt 6 (Sch.read 10 (Sch.alt 13 (Sch.step 14 Sch.done) Sch.none)) (Sch.alt 10 (Sch.alt 6 (Sch.alt 13 (Sch.step 14 Sch.done) Sch.none) Sch.none) Sch.none)) Sch.none))) (Sch.alt 10 (Sch.alt 6 (Sch.read 8 (Sch.read 12 (Sch.alt 13 (Sch.step 14 Sch.done) Sch.none))) (Sch.alt 8 (Sch.alt 6 (Sch.read 12 (Sch.alt 13 (Sch.step 14 Sch.done) Sch.none)) (Sch.alt 12 (Sch.alt 6 (Sch.alt 13 (Sch.step 14 Sch.done) Sch.none) Sch.none) Sch.none)) (Sch.alt 12 (Sch.alt 6 (Sch.read 8 (Sch.alt 13 (Sch.step 14 Sch.done) Sch.none)) (Sch.alt 8 (Sch.alt 6 (Sch.alt 13 (Sch.step 14 Sch.done) Sch.none) Sch.none) Sch.none)) Sch.none))) (Sch.alt 12 (Sch.alt 6 (Sch.read 8 (Sch.read 10 (Sch.alt 13 (Sch.step 14 Sch.done) Sch.none))) (Sch.alt 8 (Sch.alt 6 (Sch.read 10 (Sch.alt 13 (Sch.step 14 Sch.done) Sch.none)) (Sch.alt 10 (Sch.alt 6 (Sch.alt 13 (Sch.step 14 Sch.done) Sch.none) Sch.none) Sch.none)) (Sch.alt 10 (Sch.alt 6 (Sch.read 8 (Sch.alt 13 (Sch.step 14 Sch.done) Sch.none)) (Sch.alt 8 (Sch.alt 6 (Sch.alt 13 (Sch.step 14 Sch.done) Sch.none) Sch.none) Sch.none)) Sch.none))) Sch.none))))))))))))) (by kernel_rfl) (by kernel_rfl) (by repeat (with_reducible first | apply PanQ.then | apply PanQ.block | exact PanQ.body)) ?_); simp)
        | ((with_reducible refine AWp.ret ?_); try simp)
        | ((with_reducible refine AWp.skip ?_); try simp)
        | ((with_reducible refine AWp.exit ?_); try simp)
        | ((refine AWp.cond rfl (fun _ => ?_) (fun hcf => absurd hcf ?hcd)); (case hcd => (simp; done)))
        | ((refine AWp.cond rfl (fun hcf => absurd hcf ?hcd) (fun _ => ?_)); (case hcd => (simp; done))))
      exact ⟨_, _, Wk.refl _, AS.le_refl _, rfl⟩

theorem numTests_reads (os : Os) {H : Type} (enc : TypeId × Value → H) : ∃ places, DataW.whole enc Try.prog ((World.holding Try.prog os ⟨#[], #[Value.agg #[.bool false, .int .u64 0, .int .u64 0]], []⟩).forCall (fun _ _ => 0) ⟨#[], #[Value.agg #[.bool false, .int .u64 0, .int .u64 0]], []⟩).memory Try.f5.params.toList Rows.numTestsSpec.vars false #[Value.agg #[.bool false, .int .u64 0, .int .u64 0]].toList 8 = some ([.agg [.lit (.bool false), .lit (.int .u64 0), .lit (.int .u64 0)]], [], places) :=
  ⟨[], by kernel_rfl⟩

theorem numTests_contract (H : Type) (enc : TypeId × Value → H) (W : World) (base : Nat) (args : Array Value) (ds gs : List (DataW H)) (before : List MemPlace)
    (hval : ∀ (j : Nat) t v, Try.f5.params[j]? = some t → args[j]? = some v → Value.okWide Try.prog W .any base t v)
    (hW : DataW.Whole enc Try.prog Try.f5.params.toList Rows.numTestsSpec.vars false W args.toList ds gs before)
    (hwt : (DataW.weightsEach Try.prog (Try.f5.params.toList ++ Rows.numTestsSpec.plain.varTypes Try.prog) (ds ++ gs)).all (· ≤ reachBytes) = true) :
    Calls Try.prog 5 args W fun e W' => ∃ v, e = .returned v ∧ Rows.numTestsSpec.post enc Try.prog Try.f5 false true false false W args v W' := by
  refine law_contract (P := Try.prog) (fn := Try.f5) (k := 4) (ts := [24]) (tb := 4) (s := Rows.numTestsSpec) laidOut (by kernel_rfl) (by kernel_rfl) (by kernel_rfl) rfl Try.underlying4 rfl (fun ds h => ?_) (fun vs h => ?_) hval hW hwt
  · match ds, h with
    | [d1], _ => rfl
  · obtain ⟨c1, r, rfl, h1, h⟩ := h.inv
    obtain rfl := h.inv0
    obtain ⟨w, a, b, e2, ha, hb⟩ := arg_words h1
    rw [e2]
    exact numTests_ok w a b

theorem numTests_lifted (os : Os) (started : os.Started) (H : Type) (enc : TypeId × Value → H) (F : Stop.Interp) :
    ReturnsInHanded {} Try.checked os 5 .any ((OpenSpec.ofChange Rows.numTestsSpec).preRow enc Try.prog Try.f5 Rows.numTestsRow.domain false Rows.numTestsRow.laid)
      (((OpenSpec.ofChange Rows.numTestsSpec).at F).post enc Try.prog Try.f5 false true false false) := by
  obtain ⟨places, hx⟩ := numTests_reads os enc
  refine returnsInHanded_of_row (C := Try.checked) (s := OpenSpec.ofChange Rows.numTestsSpec) own started (by kernel_rfl) Try.func5
    (witness_row_at (enc := enc) (C := Try.checked) false (World.holding Try.prog os ⟨#[], #[Value.agg #[.bool false, .int .u64 0, .int .u64 0]], []⟩) #[Value.agg #[.bool false, .int .u64 0, .int .u64 0]] rfl (by kernel_rfl) (by kernel_rfl) (by kernel_rfl)
      (OpenSpec.preRow_of_cond 8 hx (by kernel_rfl) (fun k hk => by cases hk) (by kernel_rfl) (show laidMetH Try.prog [] _ from ⟨[], rfl, List.nodup_nil, fun _ _ h => by cases h⟩))) ?_
  intro W base args ds gs before hval hW _ _ hwt _ _ _
  exact numTests_contract H enc W base args ds gs before hval hW hwt

theorem numTests_holds : Rows.NumTestsSaid :=
  OpenClaim.holds_of_cond 5 Try.f5 rfl rfl rfl rfl rfl rfl rfl ⟨rfl, rfl, rfl, rfl, rfl⟩ rfl rfl rfl rfl rfl (by kernel_rfl) Try.func5 (by kernel_rfl)
    (of_decide_eq_true (by kernel_rfl)) (by unfold Func.isWrapper; first | (rw [if_pos (by decide +kernel)]; kernel_rfl) | (rw [if_neg (by decide +kernel)]; exact ⟨rfl, rfl⟩))
    (fun os started H enc _ F => by rw [OpenClaim.pre_eq_preRow]; exact numTests_lifted os started H enc F)


end Go.Proofs.Ythkcblpdgjnkdaa
