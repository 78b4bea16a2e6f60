/- Package rows: kinds, width, Columns, Code, Coded, and the document's. -/
import Derived.Test.YtpekbapmnmnjoaaRef1
set_option linter.unusedSimpArgs false
set_option linter.unusedVariables false
set_option maxRecDepth 100000
set_option maxHeartbeats 3200000
namespace Go.Proofs.Ytpekbapmnmnjoaa
open Go Go.AW

def kindsL (t : Int) : List UInt8 :=
  if t = 0 then [50, 110, 105, 105, 105] else if t = 1 then [50, 110, 98] else if t = 2 then [52, 50, 50, 110, 98, 105] else if t = 3 then [105, 105] else if t = 4 then [98] else if t = 5 then [98] else []
def strV (l : List UInt8) : AV := .sc (.string ⟨l.toArray⟩)

theorem kinds_ok (t : Int) (σ : AS) : ACalls Try.prog 41 [.sc (.int .i64 t)] σ (Gives (strV (kindsL t)) σ) No := by
  refine ACalls.of_body Try.func41 rfl rfl (by simp [Try.ntmps41]) ?_
  simp only [strV, kindsL]
  by_cases h0 : t = 0
  · subst h0
    repeat (first
      | (with_reducible apply AWp.seq)
      | (with_reducible apply AWp.block)
      | ((with_reducible apply AWp.fork); simp -implicitDefEqProofs)
      | ((with_reducible apply AWp.region); simp -implicitDefEqProofs)
      | (with_reducible refine And.intro (by first | omega | assumption | decide) ?_)
      | ((with_reducible apply AWp.ret); try simp -implicitDefEqProofs)
      | ((with_reducible apply AWp.skip); try simp -implicitDefEqProofs)
      | ((with_reducible apply AWp.exit); try simp -implicitDefEqProofs))
  by_cases h1 : t = 1
  · subst h1
    repeat (first
      | (with_reducible apply AWp.seq)
      | (with_reducible apply AWp.block)
      | ((with_reducible apply AWp.fork); simp -implicitDefEqProofs)
      | ((with_reducible apply AWp.region); simp -implicitDefEqProofs)
      | (with_reducible refine And.intro (by first | omega | assumption | decide) ?_)
      | ((with_reducible apply AWp.ret); try simp -implicitDefEqProofs)
      | ((with_reducible apply AWp.skip); try simp -implicitDefEqProofs)
      | ((with_reducible apply AWp.exit); try simp -implicitDefEqProofs))
  by_cases h2 : t = 2
  · subst h2
    repeat (first
      | (with_reducible apply AWp.seq)
      | (with_reducible apply AWp.block)
      | ((with_reducible apply AWp.fork); simp -implicitDefEqProofs)
      | ((with_reducible apply AWp.region); simp -implicitDefEqProofs)
      | (with_reducible refine And.intro (by first | omega | assumption | decide) ?_)
      | ((with_reducible apply AWp.ret); try simp -implicitDefEqProofs)
      | ((with_reducible apply AWp.skip); try simp -implicitDefEqProofs)
      | ((with_reducible apply AWp.exit); try simp -implicitDefEqProofs))
  by_cases h3 : t = 3
  · subst h3
    repeat (first
      | (with_reducible apply AWp.seq)
      | (with_reducible apply AWp.block)
      | ((with_reducible apply AWp.fork); simp -implicitDefEqProofs)
      | ((with_reducible apply AWp.region); simp -implicitDefEqProofs)
      | (with_reducible refine And.intro (by first | omega | assumption | decide) ?_)
      | ((with_reducible apply AWp.ret); try simp -implicitDefEqProofs)
      | ((with_reducible apply AWp.skip); try simp -implicitDefEqProofs)
      | ((with_reducible apply AWp.exit); try simp -implicitDefEqProofs))
  by_cases h4 : t = 4
  · subst h4
    repeat (first
      | (with_reducible apply AWp.seq)
      | (with_reducible apply AWp.block)
      | ((with_reducible apply AWp.fork); simp -implicitDefEqProofs)
      | ((with_reducible apply AWp.region); simp -implicitDefEqProofs)
      | (with_reducible refine And.intro (by first | omega | assumption | decide) ?_)
      | ((with_reducible apply AWp.ret); try simp -implicitDefEqProofs)
      | ((with_reducible apply AWp.skip); try simp -implicitDefEqProofs)
      | ((with_reducible apply AWp.exit); try simp -implicitDefEqProofs))
  by_cases h5 : t = 5
  · subst h5
    repeat (first
      | (with_reducible apply AWp.seq)
      | (with_reducible apply AWp.block)
      | ((with_reducible apply AWp.fork); simp -implicitDefEqProofs)
      | ((with_reducible apply AWp.region); simp -implicitDefEqProofs)
      | (with_reducible refine And.intro (by first | omega | assumption | decide) ?_)
      | ((with_reducible apply AWp.ret); try simp -implicitDefEqProofs)
      | ((with_reducible apply AWp.skip); try simp -implicitDefEqProofs)
      | ((with_reducible apply AWp.exit); try simp -implicitDefEqProofs))
  repeat (first
    | (with_reducible apply AWp.seq)
    | (with_reducible apply AWp.block)
    | ((with_reducible apply AWp.fork); simp -implicitDefEqProofs [h0, h1, h2, h3, h4, h5])
    | ((with_reducible apply AWp.region); simp -implicitDefEqProofs [h0, h1, h2, h3, h4, h5])
    | (with_reducible refine And.intro (by first | omega | assumption | decide) ?_)
    | ((with_reducible show condK _ _ _); simp -implicitDefEqProofs [h0, h1, h2, h3, h4, h5])
    | ((with_reducible show guardK _ _ _ _ _ _ _ _ _); simp -implicitDefEqProofs [h0, h1, h2, h3, h4, h5])
    | ((with_reducible apply AWp.ret); try simp -implicitDefEqProofs [h0, h1, h2, h3, h4, h5])
    | ((with_reducible apply AWp.skip); try simp -implicitDefEqProofs [h0, h1, h2, h3, h4, h5])
    | ((with_reducible apply AWp.exit); try simp -implicitDefEqProofs [h0, h1, h2, h3, h4, h5]))

theorem columns_ok (t : Int) (σ : AS) : ACalls Try.prog 25 [.sc (.int .i64 t)] σ (Gives (.sc (.int .i64 (kindsL t).length)) σ) No := by
  have hk := fun σ => kinds_ok t σ
  simp only [strV] at hk
  refine ACalls.of_body Try.func25 rfl rfl (by simp [Try.ntmps25]) ?_
  repeat (first
    | (with_reducible apply AWp.seq)
    | (with_reducible apply AWp.block)
    | ((with_reducible apply AWp.fork); simp -implicitDefEqProofs)
    | ((with_reducible apply AWp.region); simp -implicitDefEqProofs)
    | (with_reducible refine And.intro (by first | omega | assumption | decide) ?_)
    | ((with_reducible apply aCall.id); first
        | ((apply aCall.gives (hk _)); simp -implicitDefEqProofs))
    | ((with_reducible apply AWp.ret); try simp -implicitDefEqProofs)
    | ((with_reducible apply AWp.skip); try simp -implicitDefEqProofs)
    | ((with_reducible apply AWp.exit); try simp -implicitDefEqProofs))

theorem rcolumns_ok (t : Int) (σ : AS) : ACalls Try.prog 26 [.sc (.int .i64 t)] σ (Gives (.sc (.int .i64 (kindsL t).length)) σ) No := by
  refine ACalls.of_body Try.func26 rfl rfl (by simp [Try.ntmps26]) ?_
  simp only [kindsL]
  by_cases h0 : t = 0
  · subst h0
    repeat (first
      | (with_reducible apply AWp.seq)
      | (with_reducible apply AWp.block)
      | ((with_reducible apply AWp.fork); simp -implicitDefEqProofs)
      | ((with_reducible apply AWp.region); simp -implicitDefEqProofs)
      | (with_reducible refine And.intro (by first | omega | assumption | decide) ?_)
      | ((with_reducible apply AWp.ret); try simp -implicitDefEqProofs)
      | ((with_reducible apply AWp.skip); try simp -implicitDefEqProofs)
      | ((with_reducible apply AWp.exit); try simp -implicitDefEqProofs))
  by_cases h1 : t = 1
  · subst h1
    repeat (first
      | (with_reducible apply AWp.seq)
      | (with_reducible apply AWp.block)
      | ((with_reducible apply AWp.fork); simp -implicitDefEqProofs)
      | ((with_reducible apply AWp.region); simp -implicitDefEqProofs)
      | (with_reducible refine And.intro (by first | omega | assumption | decide) ?_)
      | ((with_reducible apply AWp.ret); try simp -implicitDefEqProofs)
      | ((with_reducible apply AWp.skip); try simp -implicitDefEqProofs)
      | ((with_reducible apply AWp.exit); try simp -implicitDefEqProofs))
  by_cases h2 : t = 2
  · subst h2
    repeat (first
      | (with_reducible apply AWp.seq)
      | (with_reducible apply AWp.block)
      | ((with_reducible apply AWp.fork); simp -implicitDefEqProofs)
      | ((with_reducible apply AWp.region); simp -implicitDefEqProofs)
      | (with_reducible refine And.intro (by first | omega | assumption | decide) ?_)
      | ((with_reducible apply AWp.ret); try simp -implicitDefEqProofs)
      | ((with_reducible apply AWp.skip); try simp -implicitDefEqProofs)
      | ((with_reducible apply AWp.exit); try simp -implicitDefEqProofs))
  by_cases h3 : t = 3
  · subst h3
    repeat (first
      | (with_reducible apply AWp.seq)
      | (with_reducible apply AWp.block)
      | ((with_reducible apply AWp.fork); simp -implicitDefEqProofs)
      | ((with_reducible apply AWp.region); simp -implicitDefEqProofs)
      | (with_reducible refine And.intro (by first | omega | assumption | decide) ?_)
      | ((with_reducible apply AWp.ret); try simp -implicitDefEqProofs)
      | ((with_reducible apply AWp.skip); try simp -implicitDefEqProofs)
      | ((with_reducible apply AWp.exit); try simp -implicitDefEqProofs))
  by_cases h4 : t = 4
  · subst h4
    repeat (first
      | (with_reducible apply AWp.seq)
      | (with_reducible apply AWp.block)
      | ((with_reducible apply AWp.fork); simp -implicitDefEqProofs)
      | ((with_reducible apply AWp.region); simp -implicitDefEqProofs)
      | (with_reducible refine And.intro (by first | omega | assumption | decide) ?_)
      | ((with_reducible apply AWp.ret); try simp -implicitDefEqProofs)
      | ((with_reducible apply AWp.skip); try simp -implicitDefEqProofs)
      | ((with_reducible apply AWp.exit); try simp -implicitDefEqProofs))
  by_cases h5 : t = 5
  · subst h5
    repeat (first
      | (with_reducible apply AWp.seq)
      | (with_reducible apply AWp.block)
      | ((with_reducible apply AWp.fork); simp -implicitDefEqProofs)
      | ((with_reducible apply AWp.region); simp -implicitDefEqProofs)
      | (with_reducible refine And.intro (by first | omega | assumption | decide) ?_)
      | ((with_reducible apply AWp.ret); try simp -implicitDefEqProofs)
      | ((with_reducible apply AWp.skip); try simp -implicitDefEqProofs)
      | ((with_reducible apply AWp.exit); try simp -implicitDefEqProofs))
  repeat (first
    | (with_reducible apply AWp.seq)
    | (with_reducible apply AWp.block)
    | ((with_reducible apply AWp.fork); simp -implicitDefEqProofs [h0, h1, h2, h3, h4, h5])
    | ((with_reducible apply AWp.region); simp -implicitDefEqProofs [h0, h1, h2, h3, h4, h5])
    | (with_reducible refine And.intro (by first | omega | assumption | decide) ?_)
    | ((with_reducible show condK _ _ _); simp -implicitDefEqProofs [h0, h1, h2, h3, h4, h5])
    | ((with_reducible show guardK _ _ _ _ _ _ _ _ _); simp -implicitDefEqProofs [h0, h1, h2, h3, h4, h5])
    | ((with_reducible apply AWp.ret); try simp -implicitDefEqProofs [h0, h1, h2, h3, h4, h5])
    | ((with_reducible apply AWp.skip); try simp -implicitDefEqProofs [h0, h1, h2, h3, h4, h5])
    | ((with_reducible apply AWp.exit); try simp -implicitDefEqProofs [h0, h1, h2, h3, h4, h5]))

/-- How wide a column is. -/
def wK (k : UInt8) (m : Nat) : Int := if k = 52 ∨ (k = 110 ∧ m % 2 = 1) ∨ (k = 98 ∧ 2 ≤ m) then 4 else 2

theorem width_ok (k : UInt8) (m : Nat) (hm : m ≤ 3) (σ : AS) : ACalls Try.prog 42 [.sc (.int .i32 k.toNat), .sc (.int .i64 m)] σ (Gives (.sc (.int .i64 (wK k m))) σ) No := by
  have hm4 : m = 0 ∨ m = 1 ∨ m = 2 ∨ m = 3 := by omega
  have e52 : (k = 52) = (k.toNat = 52) := propext ⟨fun h => by rw [h]; rfl, fun h => UInt8.toNat_inj.1 h⟩
  have e110 : (k = 110) = (k.toNat = 110) := propext ⟨fun h => by rw [h]; rfl, fun h => UInt8.toNat_inj.1 h⟩
  have e98 : (k = 98) = (k.toNat = 98) := propext ⟨fun h => by rw [h]; rfl, fun h => UInt8.toNat_inj.1 h⟩
  simp only [wK, e52, e110, e98]
  generalize k.toNat = K
  have b01 : bAnd 64 0 1 = 0 := by decide
  have b11 : bAnd 64 1 1 = 1 := by decide
  have b21 : bAnd 64 2 1 = 0 := by decide
  have b31 : bAnd 64 3 1 = 1 := by decide
  have b02 : bAnd 64 0 2 = 0 := by decide
  have b12 : bAnd 64 1 2 = 0 := by decide
  have b22 : bAnd 64 2 2 = 2 := by decide
  have b32 : bAnd 64 3 2 = 2 := by decide
  have w0 : IntKind.i64.wrap 0 = 0 := by decide
  have w1 : IntKind.i64.wrap 1 = 1 := by decide
  have w2 : IntKind.i64.wrap 2 = 2 := by decide
  refine ACalls.of_body Try.func42 rfl rfl (by simp [Try.ntmps42]) ?_
  by_cases h1 : K = 52
  · subst h1
    rcases hm4 with rfl | rfl | rfl | rfl
    all_goals
      repeat (first
        | (with_reducible apply AWp.seq)
        | (with_reducible apply AWp.block)
        | ((with_reducible apply AWp.fork); simp -implicitDefEqProofs)
        | ((with_reducible apply AWp.region); simp -implicitDefEqProofs)
        | (with_reducible refine And.intro (by first | omega | assumption | decide) ?_)
        | ((with_reducible apply AWp.ret); try simp -implicitDefEqProofs)
        | ((with_reducible apply AWp.skip); try simp -implicitDefEqProofs)
        | ((with_reducible apply AWp.exit); try simp -implicitDefEqProofs))
  by_cases h2 : K = 110
  · subst h2
    rcases hm4 with rfl | rfl | rfl | rfl
    all_goals
      repeat (first
        | (with_reducible apply AWp.seq)
        | (with_reducible apply AWp.block)
        | ((with_reducible apply AWp.fork); simp -implicitDefEqProofs [b01, b11, b21, b31, w0, w1])
        | ((with_reducible apply AWp.region); simp -implicitDefEqProofs [b01, b11, b21, b31, w0, w1])
        | (with_reducible refine And.intro (by first | omega | assumption | decide) ?_)
        | ((with_reducible show condK _ _ _); simp -implicitDefEqProofs [b01, b11, b21, b31, w0, w1])
        | ((with_reducible show guardK _ _ _ _ _ _ _ _ _); simp -implicitDefEqProofs [b01, b11, b21, b31, w0, w1])
        | ((with_reducible apply AWp.ret); try simp -implicitDefEqProofs [b01, b11, b21, b31, w0, w1])
        | ((with_reducible apply AWp.skip); try simp -implicitDefEqProofs [b01, b11, b21, b31, w0, w1])
        | ((with_reducible apply AWp.exit); try simp -implicitDefEqProofs [b01, b11, b21, b31, w0, w1]))
  by_cases h3 : K = 98
  · subst h3
    rcases hm4 with rfl | rfl | rfl | rfl
    all_goals
      repeat (first
        | (with_reducible apply AWp.seq)
        | (with_reducible apply AWp.block)
        | ((with_reducible apply AWp.fork); simp -implicitDefEqProofs [b02, b12, b22, b32, w0, w2])
        | ((with_reducible apply AWp.region); simp -implicitDefEqProofs [b02, b12, b22, b32, w0, w2])
        | (with_reducible refine And.intro (by first | omega | assumption | decide) ?_)
        | ((with_reducible show condK _ _ _); simp -implicitDefEqProofs [b02, b12, b22, b32, w0, w2])
        | ((with_reducible show guardK _ _ _ _ _ _ _ _ _); simp -implicitDefEqProofs [b02, b12, b22, b32, w0, w2])
        | ((with_reducible apply AWp.ret); try simp -implicitDefEqProofs [b02, b12, b22, b32, w0, w2])
        | ((with_reducible apply AWp.skip); try simp -implicitDefEqProofs [b02, b12, b22, b32, w0, w2])
        | ((with_reducible apply AWp.exit); try simp -implicitDefEqProofs [b02, b12, b22, b32, w0, w2]))
  · have h1' : ((K : Int) = 52) = False := by simp; omega
    have h2' : ((K : Int) = 110) = False := by simp; omega
    have h3' : ((K : Int) = 98) = False := by simp; omega
    repeat (first
      | (with_reducible apply AWp.seq)
      | (with_reducible apply AWp.block)
      | ((with_reducible apply AWp.fork); simp -implicitDefEqProofs [h1, h2, h3, h1', h2', h3'])
      | ((with_reducible apply AWp.region); simp -implicitDefEqProofs [h1, h2, h3, h1', h2', h3'])
      | (with_reducible refine And.intro (by first | omega | assumption | decide) ?_)
      | ((with_reducible show condK _ _ _); simp -implicitDefEqProofs [h1, h2, h3, h1', h2', h3'])
      | ((with_reducible show guardK _ _ _ _ _ _ _ _ _); simp -implicitDefEqProofs [h1, h2, h3, h1', h2', h3'])
      | ((with_reducible apply AWp.ret); try simp -implicitDefEqProofs [h1, h2, h3, h1', h2', h3'])
      | ((with_reducible apply AWp.skip); try simp -implicitDefEqProofs [h1, h2, h3, h1', h2', h3'])
      | ((with_reducible apply AWp.exit); try simp -implicitDefEqProofs [h1, h2, h3, h1', h2', h3']))

def codeS (t r : Int) : Int × Int := if t = -1 then (0, 0) else if t ≠ 0 ∧ t ≠ 4 then (0, 17) else if r < 1 ∨ 16383 < r then (0, 3) else (4 * r + (if t = 4 then 2 else 0), 0)
def codedS (x : Int) : Int × Int × Int := if x = 0 then (-1, 0, 0) else if x < 0 ∨ 65535 < x ∨ x / 4 = 0 then (0, 0, 5) else if x % 4 = 0 then (0, x / 4, 0) else if x % 4 = 2 then (4, x / 4, 0) else (0, 0, 5)

theorem code_ok (t r : Int) (σ : AS) : ACalls Try.prog 21 [.sc (.int .i64 t), .sc (.int .i64 r)] σ (Gives (.tup [.sc (.int .i64 (codeS t r).1), .sc (.int .i64 (codeS t r).2)]) σ) No := by
  refine ACalls.of_body Try.func21 rfl rfl (by simp [Try.ntmps21]) ?_
  by_cases h0 : t = -1
  · subst h0
    repeat (first
      | (with_reducible apply AWp.seq)
      | (with_reducible apply AWp.block)
      | ((with_reducible apply AWp.fork); simp -implicitDefEqProofs)
      | ((with_reducible apply AWp.region); simp -implicitDefEqProofs)
      | (with_reducible refine And.intro (by first | omega | assumption | decide) ?_)
      | ((with_reducible apply AWp.ret); try simp -implicitDefEqProofs)
      | ((with_reducible apply AWp.skip); try simp -implicitDefEqProofs)
      | ((with_reducible apply AWp.exit); try simp -implicitDefEqProofs))
    simp [codeS]
  by_cases h1 : t = 0
  · subst h1
    by_cases r1 : r < 1
    · repeat (first
        | (with_reducible apply AWp.seq)
        | (with_reducible apply AWp.block)
        | ((with_reducible apply AWp.fork); simp -implicitDefEqProofs [r1])
        | ((with_reducible apply AWp.region); simp -implicitDefEqProofs [r1])
        | (with_reducible refine And.intro (by first | omega | assumption | decide) ?_)
        | ((with_reducible show condK _ _ _); simp -implicitDefEqProofs [r1])
        | ((with_reducible show guardK _ _ _ _ _ _ _ _ _); simp -implicitDefEqProofs [r1])
        | ((with_reducible apply AWp.ret); try simp -implicitDefEqProofs [r1])
        | ((with_reducible apply AWp.skip); try simp -implicitDefEqProofs [r1])
        | ((with_reducible apply AWp.exit); try simp -implicitDefEqProofs [r1]))
      simp [codeS, r1]
    · by_cases r2 : 16383 < r
      · repeat (first
          | (with_reducible apply AWp.seq)
          | (with_reducible apply AWp.block)
          | ((with_reducible apply AWp.fork); simp -implicitDefEqProofs [r1, r2])
          | ((with_reducible apply AWp.region); simp -implicitDefEqProofs [r1, r2])
          | (with_reducible refine And.intro (by first | omega | assumption | decide) ?_)
          | ((with_reducible show condK _ _ _); simp -implicitDefEqProofs [r1, r2])
          | ((with_reducible show guardK _ _ _ _ _ _ _ _ _); simp -implicitDefEqProofs [r1, r2])
          | ((with_reducible apply AWp.ret); try simp -implicitDefEqProofs [r1, r2])
          | ((with_reducible apply AWp.skip); try simp -implicitDefEqProofs [r1, r2])
          | ((with_reducible apply AWp.exit); try simp -implicitDefEqProofs [r1, r2]))
        simp [codeS, r1, r2]
      · have e1 : IntKind.i64.wrap (r * 4) = r * 4 := in_i64 (by omega) (by omega)
        have e2 : bOr 64 (r * 4) 0 = r * 4 := by have := or_add (w := 64) (a := r * 4) (b := 0) 2 (by omega) (by omega) (c := r) (by omega) (by omega) (by omega); omega
        repeat (first
          | (with_reducible apply AWp.seq)
          | (with_reducible apply AWp.block)
          | ((with_reducible apply AWp.fork); simp -implicitDefEqProofs [r1, r2, e1, e2])
          | ((with_reducible apply AWp.region); simp -implicitDefEqProofs [r1, r2, e1, e2])
          | (with_reducible refine And.intro (by first | omega | assumption | decide) ?_)
          | ((with_reducible show condK _ _ _); simp -implicitDefEqProofs [r1, r2, e1, e2])
          | ((with_reducible show guardK _ _ _ _ _ _ _ _ _); simp -implicitDefEqProofs [r1, r2, e1, e2])
          | ((with_reducible apply AWp.ret); try simp -implicitDefEqProofs [r1, r2, e1, e2])
          | ((with_reducible apply AWp.skip); try simp -implicitDefEqProofs [r1, r2, e1, e2])
          | ((with_reducible apply AWp.exit); try simp -implicitDefEqProofs [r1, r2, e1, e2]))
        simp [codeS, r1, r2]
        exact wk_eq (by rw [Int.mul_comm])
  by_cases h4 : t = 4
  · subst h4
    by_cases r1 : r < 1
    · repeat (first
        | (with_reducible apply AWp.seq)
        | (with_reducible apply AWp.block)
        | ((with_reducible apply AWp.fork); simp -implicitDefEqProofs [r1])
        | ((with_reducible apply AWp.region); simp -implicitDefEqProofs [r1])
        | (with_reducible refine And.intro (by first | omega | assumption | decide) ?_)
        | ((with_reducible show condK _ _ _); simp -implicitDefEqProofs [r1])
        | ((with_reducible show guardK _ _ _ _ _ _ _ _ _); simp -implicitDefEqProofs [r1])
        | ((with_reducible apply AWp.ret); try simp -implicitDefEqProofs [r1])
        | ((with_reducible apply AWp.skip); try simp -implicitDefEqProofs [r1])
        | ((with_reducible apply AWp.exit); try simp -implicitDefEqProofs [r1]))
      simp [codeS, r1]
    · by_cases r2 : 16383 < r
      · repeat (first
          | (with_reducible apply AWp.seq)
          | (with_reducible apply AWp.block)
          | ((with_reducible apply AWp.fork); simp -implicitDefEqProofs [r1, r2])
          | ((with_reducible apply AWp.region); simp -implicitDefEqProofs [r1, r2])
          | (with_reducible refine And.intro (by first | omega | assumption | decide) ?_)
          | ((with_reducible show condK _ _ _); simp -implicitDefEqProofs [r1, r2])
          | ((with_reducible show guardK _ _ _ _ _ _ _ _ _); simp -implicitDefEqProofs [r1, r2])
          | ((with_reducible apply AWp.ret); try simp -implicitDefEqProofs [r1, r2])
          | ((with_reducible apply AWp.skip); try simp -implicitDefEqProofs [r1, r2])
          | ((with_reducible apply AWp.exit); try simp -implicitDefEqProofs [r1, r2]))
        simp [codeS, r1, r2]
      · have e1 : IntKind.i64.wrap (r * 4) = r * 4 := in_i64 (by omega) (by omega)
        have e2 : bOr 64 (r * 4) 2 = r * 4 + 2 := or_add (w := 64) (a := r * 4) (b := 2) 2 (by omega) (by omega) (c := r) (by omega) (by omega) (by omega)
        have e3 : IntKind.i64.wrap (r * 4 + 2) = r * 4 + 2 := in_i64 (by omega) (by omega)
        repeat (first
          | (with_reducible apply AWp.seq)
          | (with_reducible apply AWp.block)
          | ((with_reducible apply AWp.fork); simp -implicitDefEqProofs [r1, r2, e1, e2, e3])
          | ((with_reducible apply AWp.region); simp -implicitDefEqProofs [r1, r2, e1, e2, e3])
          | (with_reducible refine And.intro (by first | omega | assumption | decide) ?_)
          | ((with_reducible show condK _ _ _); simp -implicitDefEqProofs [r1, r2, e1, e2, e3])
          | ((with_reducible show guardK _ _ _ _ _ _ _ _ _); simp -implicitDefEqProofs [r1, r2, e1, e2, e3])
          | ((with_reducible apply AWp.ret); try simp -implicitDefEqProofs [r1, r2, e1, e2, e3])
          | ((with_reducible apply AWp.skip); try simp -implicitDefEqProofs [r1, r2, e1, e2, e3])
          | ((with_reducible apply AWp.exit); try simp -implicitDefEqProofs [r1, r2, e1, e2, e3]))
        simp [codeS, r1, r2]
        exact wk_eq (by rw [Int.mul_comm])
  · repeat (first
      | (with_reducible apply AWp.seq)
      | (with_reducible apply AWp.block)
      | ((with_reducible apply AWp.fork); simp -implicitDefEqProofs [h0, h1, h4])
      | ((with_reducible apply AWp.region); simp -implicitDefEqProofs [h0, h1, h4])
      | (with_reducible refine And.intro (by first | omega | assumption | decide) ?_)
      | ((with_reducible show condK _ _ _); simp -implicitDefEqProofs [h0, h1, h4])
      | ((with_reducible show guardK _ _ _ _ _ _ _ _ _); simp -implicitDefEqProofs [h0, h1, h4])
      | ((with_reducible apply AWp.ret); try simp -implicitDefEqProofs [h0, h1, h4])
      | ((with_reducible apply AWp.skip); try simp -implicitDefEqProofs [h0, h1, h4])
      | ((with_reducible apply AWp.exit); try simp -implicitDefEqProofs [h0, h1, h4]))
    simp [codeS, h0, h1, h4]

theorem rcode_ok (t r : Int) (σ : AS) : ACalls Try.prog 22 [.sc (.int .i64 t), .sc (.int .i64 r)] σ (Gives (.tup [.sc (.int .i64 (codeS t r).1), .sc (.int .i64 (codeS t r).2)]) σ) No := by
  refine ACalls.of_body Try.func22 rfl rfl (by simp [Try.ntmps22]) ?_
  by_cases h0 : t = -1
  · subst h0
    repeat (first
      | (with_reducible apply AWp.seq)
      | (with_reducible apply AWp.block)
      | ((with_reducible apply AWp.fork); simp -implicitDefEqProofs)
      | ((with_reducible apply AWp.region); simp -implicitDefEqProofs)
      | (with_reducible refine And.intro (by first | omega | assumption | decide) ?_)
      | ((with_reducible apply AWp.ret); try simp -implicitDefEqProofs)
      | ((with_reducible apply AWp.skip); try simp -implicitDefEqProofs)
      | ((with_reducible apply AWp.exit); try simp -implicitDefEqProofs))
    simp [codeS]
  by_cases h1 : t ≠ 0 ∧ t ≠ 4
  · repeat (first
      | (with_reducible apply AWp.seq)
      | (with_reducible apply AWp.block)
      | ((with_reducible apply AWp.fork); simp -implicitDefEqProofs [h0, h1.1, h1.2])
      | ((with_reducible apply AWp.region); simp -implicitDefEqProofs [h0, h1.1, h1.2])
      | (with_reducible refine And.intro (by first | omega | assumption | decide) ?_)
      | ((with_reducible show condK _ _ _); simp -implicitDefEqProofs [h0, h1.1, h1.2])
      | ((with_reducible show guardK _ _ _ _ _ _ _ _ _); simp -implicitDefEqProofs [h0, h1.1, h1.2])
      | ((with_reducible apply AWp.ret); try simp -implicitDefEqProofs [h0, h1.1, h1.2])
      | ((with_reducible apply AWp.skip); try simp -implicitDefEqProofs [h0, h1.1, h1.2])
      | ((with_reducible apply AWp.exit); try simp -implicitDefEqProofs [h0, h1.1, h1.2]))
    simp [codeS, h0, h1]
  · have h1' : t = 0 ∨ t = 4 := by omega
    by_cases r1 : r < 1
    · rcases h1' with rfl | rfl
      · repeat (first
          | (with_reducible apply AWp.seq)
          | (with_reducible apply AWp.block)
          | ((with_reducible apply AWp.fork); simp -implicitDefEqProofs [r1])
          | ((with_reducible apply AWp.region); simp -implicitDefEqProofs [r1])
          | (with_reducible refine And.intro (by first | omega | assumption | decide) ?_)
          | ((with_reducible show condK _ _ _); simp -implicitDefEqProofs [r1])
          | ((with_reducible show guardK _ _ _ _ _ _ _ _ _); simp -implicitDefEqProofs [r1])
          | ((with_reducible apply AWp.ret); try simp -implicitDefEqProofs [r1])
          | ((with_reducible apply AWp.skip); try simp -implicitDefEqProofs [r1])
          | ((with_reducible apply AWp.exit); try simp -implicitDefEqProofs [r1]))
        simp [codeS, r1]
      · repeat (first
          | (with_reducible apply AWp.seq)
          | (with_reducible apply AWp.block)
          | ((with_reducible apply AWp.fork); simp -implicitDefEqProofs [r1])
          | ((with_reducible apply AWp.region); simp -implicitDefEqProofs [r1])
          | (with_reducible refine And.intro (by first | omega | assumption | decide) ?_)
          | ((with_reducible show condK _ _ _); simp -implicitDefEqProofs [r1])
          | ((with_reducible show guardK _ _ _ _ _ _ _ _ _); simp -implicitDefEqProofs [r1])
          | ((with_reducible apply AWp.ret); try simp -implicitDefEqProofs [r1])
          | ((with_reducible apply AWp.skip); try simp -implicitDefEqProofs [r1])
          | ((with_reducible apply AWp.exit); try simp -implicitDefEqProofs [r1]))
        simp [codeS, r1]
    · by_cases r2 : 16383 < r
      · rcases h1' with rfl | rfl
        · repeat (first
            | (with_reducible apply AWp.seq)
            | (with_reducible apply AWp.block)
            | ((with_reducible apply AWp.fork); simp -implicitDefEqProofs [r1, r2])
            | ((with_reducible apply AWp.region); simp -implicitDefEqProofs [r1, r2])
            | (with_reducible refine And.intro (by first | omega | assumption | decide) ?_)
            | ((with_reducible show condK _ _ _); simp -implicitDefEqProofs [r1, r2])
            | ((with_reducible show guardK _ _ _ _ _ _ _ _ _); simp -implicitDefEqProofs [r1, r2])
            | ((with_reducible apply AWp.ret); try simp -implicitDefEqProofs [r1, r2])
            | ((with_reducible apply AWp.skip); try simp -implicitDefEqProofs [r1, r2])
            | ((with_reducible apply AWp.exit); try simp -implicitDefEqProofs [r1, r2]))
          simp [codeS, r1, r2]
        · repeat (first
            | (with_reducible apply AWp.seq)
            | (with_reducible apply AWp.block)
            | ((with_reducible apply AWp.fork); simp -implicitDefEqProofs [r1, r2])
            | ((with_reducible apply AWp.region); simp -implicitDefEqProofs [r1, r2])
            | (with_reducible refine And.intro (by first | omega | assumption | decide) ?_)
            | ((with_reducible show condK _ _ _); simp -implicitDefEqProofs [r1, r2])
            | ((with_reducible show guardK _ _ _ _ _ _ _ _ _); simp -implicitDefEqProofs [r1, r2])
            | ((with_reducible apply AWp.ret); try simp -implicitDefEqProofs [r1, r2])
            | ((with_reducible apply AWp.skip); try simp -implicitDefEqProofs [r1, r2])
            | ((with_reducible apply AWp.exit); try simp -implicitDefEqProofs [r1, r2]))
          simp [codeS, r1, r2]
      · have e1 : IntKind.i64.wrap (4 * r) = 4 * r := in_i64 (by omega) (by omega)
        have e3 : IntKind.i64.wrap (4 * r + 2) = 4 * r + 2 := in_i64 (by omega) (by omega)
        rcases h1' with rfl | rfl
        · repeat (first
            | (with_reducible apply AWp.seq)
            | (with_reducible apply AWp.block)
            | ((with_reducible apply AWp.fork); simp -implicitDefEqProofs [r1, r2, e1, e3])
            | ((with_reducible apply AWp.region); simp -implicitDefEqProofs [r1, r2, e1, e3])
            | (with_reducible refine And.intro (by first | omega | assumption | decide) ?_)
            | ((with_reducible show condK _ _ _); simp -implicitDefEqProofs [r1, r2, e1, e3])
            | ((with_reducible show guardK _ _ _ _ _ _ _ _ _); simp -implicitDefEqProofs [r1, r2, e1, e3])
            | ((with_reducible apply AWp.ret); try simp -implicitDefEqProofs [r1, r2, e1, e3])
            | ((with_reducible apply AWp.skip); try simp -implicitDefEqProofs [r1, r2, e1, e3])
            | ((with_reducible apply AWp.exit); try simp -implicitDefEqProofs [r1, r2, e1, e3]))
          simp [codeS, r1, r2]
        · repeat (first
            | (with_reducible apply AWp.seq)
            | (with_reducible apply AWp.block)
            | ((with_reducible apply AWp.fork); simp -implicitDefEqProofs [r1, r2, e1, e3])
            | ((with_reducible apply AWp.region); simp -implicitDefEqProofs [r1, r2, e1, e3])
            | (with_reducible refine And.intro (by first | omega | assumption | decide) ?_)
            | ((with_reducible show condK _ _ _); simp -implicitDefEqProofs [r1, r2, e1, e3])
            | ((with_reducible show guardK _ _ _ _ _ _ _ _ _); simp -implicitDefEqProofs [r1, r2, e1, e3])
            | ((with_reducible apply AWp.ret); try simp -implicitDefEqProofs [r1, r2, e1, e3])
            | ((with_reducible apply AWp.skip); try simp -implicitDefEqProofs [r1, r2, e1, e3])
            | ((with_reducible apply AWp.exit); try simp -implicitDefEqProofs [r1, r2, e1, e3]))
          simp [codeS, r1, r2]

theorem coded_ok (x : Int) (σ : AS) : ACalls Try.prog 23 [.sc (.int .i64 x)] σ (Gives (.tup [.sc (.int .i64 (codedS x).1), .sc (.int .i64 (codedS x).2.1), .sc (.int .i64 (codedS x).2.2)]) σ) No := by
  refine ACalls.of_body Try.func23 rfl rfl (by simp [Try.ntmps23]) ?_
  by_cases h0 : x = 0
  · subst h0
    repeat (first
      | (with_reducible apply AWp.seq)
      | (with_reducible apply AWp.block)
      | ((with_reducible apply AWp.fork); simp -implicitDefEqProofs)
      | ((with_reducible apply AWp.region); simp -implicitDefEqProofs)
      | (with_reducible refine And.intro (by first | omega | assumption | decide) ?_)
      | ((with_reducible apply AWp.ret); try simp -implicitDefEqProofs)
      | ((with_reducible apply AWp.skip); try simp -implicitDefEqProofs)
      | ((with_reducible apply AWp.exit); try simp -implicitDefEqProofs))
    simp [codedS]
  by_cases h1 : x < 0
  · repeat (first
      | (with_reducible apply AWp.seq)
      | (with_reducible apply AWp.block)
      | ((with_reducible apply AWp.fork); simp -implicitDefEqProofs [h0, h1])
      | ((with_reducible apply AWp.region); simp -implicitDefEqProofs [h0, h1])
      | (with_reducible refine And.intro (by first | omega | assumption | decide) ?_)
      | ((with_reducible show condK _ _ _); simp -implicitDefEqProofs [h0, h1])
      | ((with_reducible show guardK _ _ _ _ _ _ _ _ _); simp -implicitDefEqProofs [h0, h1])
      | ((with_reducible apply AWp.ret); try simp -implicitDefEqProofs [h0, h1])
      | ((with_reducible apply AWp.skip); try simp -implicitDefEqProofs [h0, h1])
      | ((with_reducible apply AWp.exit); try simp -implicitDefEqProofs [h0, h1]))
    simp [codedS, h0, h1]
  by_cases h2 : 65535 < x
  · repeat (first
      | (with_reducible apply AWp.seq)
      | (with_reducible apply AWp.block)
      | ((with_reducible apply AWp.fork); simp -implicitDefEqProofs [h0, h1, h2])
      | ((with_reducible apply AWp.region); simp -implicitDefEqProofs [h0, h1, h2])
      | (with_reducible refine And.intro (by first | omega | assumption | decide) ?_)
      | ((with_reducible show condK _ _ _); simp -implicitDefEqProofs [h0, h1, h2])
      | ((with_reducible show guardK _ _ _ _ _ _ _ _ _); simp -implicitDefEqProofs [h0, h1, h2])
      | ((with_reducible apply AWp.ret); try simp -implicitDefEqProofs [h0, h1, h2])
      | ((with_reducible apply AWp.skip); try simp -implicitDefEqProofs [h0, h1, h2])
      | ((with_reducible apply AWp.exit); try simp -implicitDefEqProofs [h0, h1, h2]))
    simp [codedS, h0, h1, h2]
  by_cases h3 : x / 4 = 0
  · repeat (first
      | (with_reducible apply AWp.seq)
      | (with_reducible apply AWp.block)
      | ((with_reducible apply AWp.fork); simp -implicitDefEqProofs [h0, h1, h2, h3])
      | ((with_reducible apply AWp.region); simp -implicitDefEqProofs [h0, h1, h2, h3])
      | (with_reducible refine And.intro (by first | omega | assumption | decide) ?_)
      | ((with_reducible show condK _ _ _); simp -implicitDefEqProofs [h0, h1, h2, h3])
      | ((with_reducible show guardK _ _ _ _ _ _ _ _ _); simp -implicitDefEqProofs [h0, h1, h2, h3])
      | ((with_reducible apply AWp.ret); try simp -implicitDefEqProofs [h0, h1, h2, h3])
      | ((with_reducible apply AWp.skip); try simp -implicitDefEqProofs [h0, h1, h2, h3])
      | ((with_reducible apply AWp.exit); try simp -implicitDefEqProofs [h0, h1, h2, h3]))
    simp [codedS, h0, h1, h2, h3]
  have ha : bAnd 64 x 3 = x % 4 := and_mask (w := 64) (a := x) 2 (by omega) (by omega) (by omega)
  have hw : IntKind.i64.wrap (x % 4) = x % 4 := in_i64 (by omega) (by omega)
  by_cases h4 : x % 4 = 0
  · repeat (first
      | (with_reducible apply AWp.seq)
      | (with_reducible apply AWp.block)
      | ((with_reducible apply AWp.fork); simp -implicitDefEqProofs [h0, h1, h2, h3, ha, hw, h4])
      | ((with_reducible apply AWp.region); simp -implicitDefEqProofs [h0, h1, h2, h3, ha, hw, h4])
      | (with_reducible refine And.intro (by first | omega | assumption | decide) ?_)
      | ((with_reducible show condK _ _ _); simp -implicitDefEqProofs [h0, h1, h2, h3, ha, hw, h4])
      | ((with_reducible show guardK _ _ _ _ _ _ _ _ _); simp -implicitDefEqProofs [h0, h1, h2, h3, ha, hw, h4])
      | ((with_reducible apply AWp.ret); try simp -implicitDefEqProofs [h0, h1, h2, h3, ha, hw, h4])
      | ((with_reducible apply AWp.skip); try simp -implicitDefEqProofs [h0, h1, h2, h3, ha, hw, h4])
      | ((with_reducible apply AWp.exit); try simp -implicitDefEqProofs [h0, h1, h2, h3, ha, hw, h4]))
    simp [codedS, h0, h1, h2, h3, h4]
  by_cases h5 : x % 4 = 2
  · repeat (first
      | (with_reducible apply AWp.seq)
      | (with_reducible apply AWp.block)
      | ((with_reducible apply AWp.fork); simp -implicitDefEqProofs [h0, h1, h2, h3, ha, hw, h4, h5])
      | ((with_reducible apply AWp.region); simp -implicitDefEqProofs [h0, h1, h2, h3, ha, hw, h4, h5])
      | (with_reducible refine And.intro (by first | omega | assumption | decide) ?_)
      | ((with_reducible show condK _ _ _); simp -implicitDefEqProofs [h0, h1, h2, h3, ha, hw, h4, h5])
      | ((with_reducible show guardK _ _ _ _ _ _ _ _ _); simp -implicitDefEqProofs [h0, h1, h2, h3, ha, hw, h4, h5])
      | ((with_reducible apply AWp.ret); try simp -implicitDefEqProofs [h0, h1, h2, h3, ha, hw, h4, h5])
      | ((with_reducible apply AWp.skip); try simp -implicitDefEqProofs [h0, h1, h2, h3, ha, hw, h4, h5])
      | ((with_reducible apply AWp.exit); try simp -implicitDefEqProofs [h0, h1, h2, h3, ha, hw, h4, h5]))
    simp [codedS, h0, h1, h2, h3, h4, h5]
  · repeat (first
      | (with_reducible apply AWp.seq)
      | (with_reducible apply AWp.block)
      | ((with_reducible apply AWp.fork); simp -implicitDefEqProofs [h0, h1, h2, h3, ha, hw, h4, h5])
      | ((with_reducible apply AWp.region); simp -implicitDefEqProofs [h0, h1, h2, h3, ha, hw, h4, h5])
      | (with_reducible refine And.intro (by first | omega | assumption | decide) ?_)
      | ((with_reducible show condK _ _ _); simp -implicitDefEqProofs [h0, h1, h2, h3, ha, hw, h4, h5])
      | ((with_reducible show guardK _ _ _ _ _ _ _ _ _); simp -implicitDefEqProofs [h0, h1, h2, h3, ha, hw, h4, h5])
      | ((with_reducible apply AWp.ret); try simp -implicitDefEqProofs [h0, h1, h2, h3, ha, hw, h4, h5])
      | ((with_reducible apply AWp.skip); try simp -implicitDefEqProofs [h0, h1, h2, h3, ha, hw, h4, h5])
      | ((with_reducible apply AWp.exit); try simp -implicitDefEqProofs [h0, h1, h2, h3, ha, hw, h4, h5]))
    simp [codedS, h0, h1, h2, h3, h4, h5]

theorem rcoded_ok (x : Int) (σ : AS) : ACalls Try.prog 24 [.sc (.int .i64 x)] σ (Gives (.agg [.sc (.int .i64 (codedS x).1), .sc (.int .i64 (codedS x).2.1), .sc (.int .i64 (codedS x).2.2)]) σ) No := by
  refine ACalls.of_body Try.func24 rfl rfl (by simp [Try.ntmps24]) ?_
  repeat (first
    | (with_reducible apply AWp.seq)
    | (with_reducible apply AWp.block)
    | ((with_reducible apply AWp.fork); simp -implicitDefEqProofs)
    | ((with_reducible apply AWp.region); simp -implicitDefEqProofs)
    | (with_reducible refine And.intro (by first | omega | assumption | decide) ?_)
    | ((with_reducible apply AWp.ret); try simp -implicitDefEqProofs)
    | ((with_reducible apply AWp.skip); try simp -implicitDefEqProofs)
    | ((with_reducible apply AWp.exit); try simp -implicitDefEqProofs))
  intro id h_id
  by_cases h0 : x = 0
  · subst h0
    repeat (first
      | (with_reducible apply AWp.seq)
      | (with_reducible apply AWp.block)
      | ((with_reducible apply AWp.fork); simp -implicitDefEqProofs)
      | ((with_reducible apply AWp.region); simp -implicitDefEqProofs)
      | (with_reducible refine And.intro (by first | omega | assumption | decide) ?_)
      | ((with_reducible apply AWp.ret); try simp -implicitDefEqProofs)
      | ((with_reducible apply AWp.skip); try simp -implicitDefEqProofs)
      | ((with_reducible apply AWp.exit); try simp -implicitDefEqProofs))
    simp [codedS]
    exact le_new h_id (AS.le_refl _)
  by_cases h1 : x < 0
  · repeat (first
      | (with_reducible apply AWp.seq)
      | (with_reducible apply AWp.block)
      | ((with_reducible apply AWp.fork); simp -implicitDefEqProofs [h0, h1])
      | ((with_reducible apply AWp.region); simp -implicitDefEqProofs [h0, h1])
      | (with_reducible refine And.intro (by first | omega | assumption | decide) ?_)
      | ((with_reducible show condK _ _ _); simp -implicitDefEqProofs [h0, h1])
      | ((with_reducible show guardK _ _ _ _ _ _ _ _ _); simp -implicitDefEqProofs [h0, h1])
      | ((with_reducible apply AWp.ret); try simp -implicitDefEqProofs [h0, h1])
      | ((with_reducible apply AWp.skip); try simp -implicitDefEqProofs [h0, h1])
      | ((with_reducible apply AWp.exit); try simp -implicitDefEqProofs [h0, h1]))
    simp [codedS, h0, h1]
    exact le_new h_id (AS.le_refl _)
  by_cases h2 : 65535 < x
  · repeat (first
      | (with_reducible apply AWp.seq)
      | (with_reducible apply AWp.block)
      | ((with_reducible apply AWp.fork); simp -implicitDefEqProofs [h0, h1, h2])
      | ((with_reducible apply AWp.region); simp -implicitDefEqProofs [h0, h1, h2])
      | (with_reducible refine And.intro (by first | omega | assumption | decide) ?_)
      | ((with_reducible show condK _ _ _); simp -implicitDefEqProofs [h0, h1, h2])
      | ((with_reducible show guardK _ _ _ _ _ _ _ _ _); simp -implicitDefEqProofs [h0, h1, h2])
      | ((with_reducible apply AWp.ret); try simp -implicitDefEqProofs [h0, h1, h2])
      | ((with_reducible apply AWp.skip); try simp -implicitDefEqProofs [h0, h1, h2])
      | ((with_reducible apply AWp.exit); try simp -implicitDefEqProofs [h0, h1, h2]))
    simp [codedS, h0, h1, h2]
    exact le_new h_id (AS.le_refl _)
  have hq : x.tdiv 4 = x / 4 := by rw [Int.tdiv_eq_ediv_of_nonneg (by omega)]
  have hr2 : x.tmod 2 = x % 2 := by rw [Int.tmod_eq_emod_of_nonneg (by omega)]
  have hr4 : x.tmod 4 = x % 4 := by rw [Int.tmod_eq_emod_of_nonneg (by omega)]
  have hwq : IntKind.i64.wrap (x / 4) = x / 4 := in_i64 (by omega) (by omega)
  by_cases h3 : x / 4 = 0
  · repeat (first
      | (with_reducible apply AWp.seq)
      | (with_reducible apply AWp.block)
      | ((with_reducible apply AWp.fork); simp -implicitDefEqProofs [h0, h1, h2, h3, hq, hwq])
      | ((with_reducible apply AWp.region); simp -implicitDefEqProofs [h0, h1, h2, h3, hq, hwq])
      | (with_reducible refine And.intro (by first | omega | assumption | decide) ?_)
      | ((with_reducible show condK _ _ _); simp -implicitDefEqProofs [h0, h1, h2, h3, hq, hwq])
      | ((with_reducible show guardK _ _ _ _ _ _ _ _ _); simp -implicitDefEqProofs [h0, h1, h2, h3, hq, hwq])
      | ((with_reducible apply AWp.ret); try simp -implicitDefEqProofs [h0, h1, h2, h3, hq, hwq])
      | ((with_reducible apply AWp.skip); try simp -implicitDefEqProofs [h0, h1, h2, h3, hq, hwq])
      | ((with_reducible apply AWp.exit); try simp -implicitDefEqProofs [h0, h1, h2, h3, hq, hwq]))
    simp [codedS, h0, h1, h2, h3]
    exact le_new h_id (AS.le_refl _)
  by_cases h4 : x % 4 = 0
  · have h5 : x % 2 = 0 := by omega
    repeat (first
      | (with_reducible apply AWp.seq)
      | (with_reducible apply AWp.block)
      | ((with_reducible apply AWp.fork); simp -implicitDefEqProofs [h0, h1, h2, h3, hq, hwq, hr2, hr4, h4, h5])
      | ((with_reducible apply AWp.region); simp -implicitDefEqProofs [h0, h1, h2, h3, hq, hwq, hr2, hr4, h4, h5])
      | (with_reducible refine And.intro (by first | omega | assumption | decide) ?_)
      | ((with_reducible show condK _ _ _); simp -implicitDefEqProofs [h0, h1, h2, h3, hq, hwq, hr2, hr4, h4, h5])
      | ((with_reducible show guardK _ _ _ _ _ _ _ _ _); simp -implicitDefEqProofs [h0, h1, h2, h3, hq, hwq, hr2, hr4, h4, h5])
      | ((with_reducible apply AWp.ret); try simp -implicitDefEqProofs [h0, h1, h2, h3, hq, hwq, hr2, hr4, h4, h5])
      | ((with_reducible apply AWp.skip); try simp -implicitDefEqProofs [h0, h1, h2, h3, hq, hwq, hr2, hr4, h4, h5])
      | ((with_reducible apply AWp.exit); try simp -implicitDefEqProofs [h0, h1, h2, h3, hq, hwq, hr2, hr4, h4, h5]))
    simp [codedS, h0, h1, h2, h3, h4]
    exact le_new h_id (AS.le_refl _)
  by_cases h6 : x % 4 = 2
  · have h5 : x % 2 = 0 := by omega
    repeat (first
      | (with_reducible apply AWp.seq)
      | (with_reducible apply AWp.block)
      | ((with_reducible apply AWp.fork); simp -implicitDefEqProofs [h0, h1, h2, h3, hq, hwq, hr2, hr4, h5, h6])
      | ((with_reducible apply AWp.region); simp -implicitDefEqProofs [h0, h1, h2, h3, hq, hwq, hr2, hr4, h5, h6])
      | (with_reducible refine And.intro (by first | omega | assumption | decide) ?_)
      | ((with_reducible show condK _ _ _); simp -implicitDefEqProofs [h0, h1, h2, h3, hq, hwq, hr2, hr4, h5, h6])
      | ((with_reducible show guardK _ _ _ _ _ _ _ _ _); simp -implicitDefEqProofs [h0, h1, h2, h3, hq, hwq, hr2, hr4, h5, h6])
      | ((with_reducible apply AWp.ret); try simp -implicitDefEqProofs [h0, h1, h2, h3, hq, hwq, hr2, hr4, h5, h6])
      | ((with_reducible apply AWp.skip); try simp -implicitDefEqProofs [h0, h1, h2, h3, hq, hwq, hr2, hr4, h5, h6])
      | ((with_reducible apply AWp.exit); try simp -implicitDefEqProofs [h0, h1, h2, h3, hq, hwq, hr2, hr4, h5, h6]))
    simp [codedS, h0, h1, h2, h3, h4, h6]
    exact le_new h_id (AS.le_refl _)
  · have h5 : x % 2 = 1 := by omega
    repeat (first
      | (with_reducible apply AWp.seq)
      | (with_reducible apply AWp.block)
      | ((with_reducible apply AWp.fork); simp -implicitDefEqProofs [h0, h1, h2, h3, hq, hwq, hr2, hr4, h5])
      | ((with_reducible apply AWp.region); simp -implicitDefEqProofs [h0, h1, h2, h3, hq, hwq, hr2, hr4, h5])
      | (with_reducible refine And.intro (by first | omega | assumption | decide) ?_)
      | ((with_reducible show condK _ _ _); simp -implicitDefEqProofs [h0, h1, h2, h3, hq, hwq, hr2, hr4, h5])
      | ((with_reducible show guardK _ _ _ _ _ _ _ _ _); simp -implicitDefEqProofs [h0, h1, h2, h3, hq, hwq, hr2, hr4, h5])
      | ((with_reducible apply AWp.ret); try simp -implicitDefEqProofs [h0, h1, h2, h3, hq, hwq, hr2, hr4, h5])
      | ((with_reducible apply AWp.skip); try simp -implicitDefEqProofs [h0, h1, h2, h3, hq, hwq, hr2, hr4, h5])
      | ((with_reducible apply AWp.exit); try simp -implicitDefEqProofs [h0, h1, h2, h3, hq, hwq, hr2, hr4, h5]))
    simp [codedS, h0, h1, h2, h3, h4, h6]
    exact le_new h_id (AS.le_refl _)

end Go.Proofs.Ytpekbapmnmnjoaa
