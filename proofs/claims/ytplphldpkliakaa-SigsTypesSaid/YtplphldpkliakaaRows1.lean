/- Package rows: kinds, width, Columns, Code, Coded, and the document's. -/
import Derived.Test.YtplphldpkliakaaRef1
set_option linter.unusedSimpArgs false
set_option linter.unusedVariables false
set_option maxRecDepth 100000
set_option maxHeartbeats 3200000
namespace Go.Proofs.Ytplphldpkliakaa
open Go Go.AW

def kindsL (t : Int) : List UInt8 :=
  if t = 0 then [50, 110, 105, 105, 105] else if t = 1 then [50, 110, 98] else if t = 2 then [52, 50, 50, 110, 98, 105] else if t = 3 then [105, 105] else if t = 4 then [98] else if t = 5 then [98] else []
def strV (l : List UInt8) : AV := .sc (.string ⟨l.toArray⟩)

/-- How wide a column is. -/
def wK (k : UInt8) (m : Nat) : Int := if k = 52 ∨ (k = 110 ∧ m % 2 = 1) ∨ (k = 98 ∧ 2 ≤ m) then 4 else 2

def codeS (t r : Int) : Int × Int := if t = -1 then (0, 0) else if t ≠ 0 ∧ t ≠ 4 then (0, 17) else if r < 1 ∨ 16383 < r then (0, 3) else (4 * r + (if t = 4 then 2 else 0), 0)
def codedS (x : Int) : Int × Int × Int := if x = 0 then (-1, 0, 0) else if x < 0 ∨ 65535 < x ∨ x / 4 = 0 then (0, 0, 5) else if x % 4 = 0 then (0, x / 4, 0) else if x % 4 = 2 then (4, x / 4, 0) else (0, 0, 5)

theorem code_ok (t r : Int) (σ : AS) : ACalls Try.prog 74 [.sc (.int .i64 t), .sc (.int .i64 r)] σ (Gives (.tup [.sc (.int .i64 (codeS t r).1), .sc (.int .i64 (codeS t r).2)]) σ) No := by
  refine ACalls.of_body Try.func74 rfl rfl (by simp [Try.ntmps74]) ?_
  by_cases h0 : t = -1
  · subst h0
    repeat (first
      | (with_reducible first | apply AWp.seq | apply AWp.block | refine And.intro (by first | omega | assumption | decide) ?_)
      | ((first | (with_reducible first | apply AWp.fork | apply AWp.region)); simp -implicitDefEqProofs)
      | ((with_reducible first | apply AWp.ret | apply AWp.skip | apply AWp.exit); try simp -implicitDefEqProofs))
    simp [codeS]
  by_cases h1 : t = 0
  · subst h1
    by_cases r1 : r < 1
    · repeat (first
        | (with_reducible first | apply AWp.seq | apply AWp.block | refine And.intro (by first | omega | assumption | decide) ?_)
        | ((first | (with_reducible first | apply AWp.fork | apply AWp.region | show condK _ _ _ | show guardK _ _ _ _ _ _ _ _ _)); simp -implicitDefEqProofs [r1])
        | ((with_reducible first | apply AWp.ret | apply AWp.skip | apply AWp.exit); try simp -implicitDefEqProofs [r1]))
      simp [codeS, r1]
    · by_cases r2 : 16383 < r
      · repeat (first
          | (with_reducible first | apply AWp.seq | apply AWp.block | refine And.intro (by first | omega | assumption | decide) ?_)
          | ((first | (with_reducible first | apply AWp.fork | apply AWp.region | show condK _ _ _ | show guardK _ _ _ _ _ _ _ _ _)); simp -implicitDefEqProofs [r1, r2])
          | ((with_reducible first | apply AWp.ret | apply AWp.skip | apply AWp.exit); try simp -implicitDefEqProofs [r1, r2]))
        simp [codeS, r1, r2]
      · have e1 : IntKind.i64.wrap (r * 4) = r * 4 := in_i64 (by omega) (by omega)
        have e2 : bOr 64 (r * 4) 0 = r * 4 := by have := or_add (w := 64) (a := r * 4) (b := 0) 2 (by omega) (by omega) (c := r) (by omega) (by omega) (by omega); omega
        repeat (first
          | (with_reducible first | apply AWp.seq | apply AWp.block | refine And.intro (by first | omega | assumption | decide) ?_)
          | ((first | (with_reducible first | apply AWp.fork | apply AWp.region | show condK _ _ _ | show guardK _ _ _ _ _ _ _ _ _)); simp -implicitDefEqProofs [r1, r2, e1, e2])
          | ((with_reducible first | apply AWp.ret | apply AWp.skip | apply AWp.exit); try simp -implicitDefEqProofs [r1, r2, e1, e2]))
        simp [codeS, r1, r2]
        exact wk_eq (by rw [Int.mul_comm])
  by_cases h4 : t = 4
  · subst h4
    by_cases r1 : r < 1
    · repeat (first
        | (with_reducible first | apply AWp.seq | apply AWp.block | refine And.intro (by first | omega | assumption | decide) ?_)
        | ((first | (with_reducible first | apply AWp.fork | apply AWp.region | show condK _ _ _ | show guardK _ _ _ _ _ _ _ _ _)); simp -implicitDefEqProofs [r1])
        | ((with_reducible first | apply AWp.ret | apply AWp.skip | apply AWp.exit); try simp -implicitDefEqProofs [r1]))
      simp [codeS, r1]
    · by_cases r2 : 16383 < r
      · repeat (first
          | (with_reducible first | apply AWp.seq | apply AWp.block | refine And.intro (by first | omega | assumption | decide) ?_)
          | ((first | (with_reducible first | apply AWp.fork | apply AWp.region | show condK _ _ _ | show guardK _ _ _ _ _ _ _ _ _)); simp -implicitDefEqProofs [r1, r2])
          | ((with_reducible first | apply AWp.ret | apply AWp.skip | apply AWp.exit); try simp -implicitDefEqProofs [r1, r2]))
        simp [codeS, r1, r2]
      · have e1 : IntKind.i64.wrap (r * 4) = r * 4 := in_i64 (by omega) (by omega)
        have e2 : bOr 64 (r * 4) 2 = r * 4 + 2 := or_add (w := 64) (a := r * 4) (b := 2) 2 (by omega) (by omega) (c := r) (by omega) (by omega) (by omega)
        have e3 : IntKind.i64.wrap (r * 4 + 2) = r * 4 + 2 := in_i64 (by omega) (by omega)
        repeat (first
          | (with_reducible first | apply AWp.seq | apply AWp.block | refine And.intro (by first | omega | assumption | decide) ?_)
          | ((first | (with_reducible first | apply AWp.fork | apply AWp.region | show condK _ _ _ | show guardK _ _ _ _ _ _ _ _ _)); simp -implicitDefEqProofs [r1, r2, e1, e2, e3])
          | ((with_reducible first | apply AWp.ret | apply AWp.skip | apply AWp.exit); try simp -implicitDefEqProofs [r1, r2, e1, e2, e3]))
        simp [codeS, r1, r2]
        exact wk_eq (by rw [Int.mul_comm])
  · repeat (first
      | (with_reducible first | apply AWp.seq | apply AWp.block | refine And.intro (by first | omega | assumption | decide) ?_)
      | ((first | (with_reducible first | apply AWp.fork | apply AWp.region | show condK _ _ _ | show guardK _ _ _ _ _ _ _ _ _)); simp -implicitDefEqProofs [h0, h1, h4])
      | ((with_reducible first | apply AWp.ret | apply AWp.skip | apply AWp.exit); try simp -implicitDefEqProofs [h0, h1, h4]))
    simp [codeS, h0, h1, h4]

theorem coded_ok (x : Int) (σ : AS) : ACalls Try.prog 88 [.sc (.int .i64 x)] σ (Gives (.tup [.sc (.int .i64 (codedS x).1), .sc (.int .i64 (codedS x).2.1), .sc (.int .i64 (codedS x).2.2)]) σ) No := by
  refine ACalls.of_body Try.func88 rfl rfl (by simp [Try.ntmps88]) ?_
  by_cases h0 : x = 0
  · subst h0
    repeat (first
      | (with_reducible first | apply AWp.seq | apply AWp.block | refine And.intro (by first | omega | assumption | decide) ?_)
      | ((first | (with_reducible first | apply AWp.fork | apply AWp.region)); simp -implicitDefEqProofs)
      | ((with_reducible first | apply AWp.ret | apply AWp.skip | apply AWp.exit); try simp -implicitDefEqProofs))
    simp [codedS]
  by_cases h1 : x < 0
  · repeat (first
      | (with_reducible first | apply AWp.seq | apply AWp.block | refine And.intro (by first | omega | assumption | decide) ?_)
      | ((first | (with_reducible first | apply AWp.fork | apply AWp.region | show condK _ _ _ | show guardK _ _ _ _ _ _ _ _ _)); simp -implicitDefEqProofs [h0, h1])
      | ((with_reducible first | apply AWp.ret | apply AWp.skip | apply AWp.exit); try simp -implicitDefEqProofs [h0, h1]))
    simp [codedS, h0, h1]
  by_cases h2 : 65535 < x
  · repeat (first
      | (with_reducible first | apply AWp.seq | apply AWp.block | refine And.intro (by first | omega | assumption | decide) ?_)
      | ((first | (with_reducible first | apply AWp.fork | apply AWp.region | show condK _ _ _ | show guardK _ _ _ _ _ _ _ _ _)); simp -implicitDefEqProofs [h0, h1, h2])
      | ((with_reducible first | apply AWp.ret | apply AWp.skip | apply AWp.exit); try simp -implicitDefEqProofs [h0, h1, h2]))
    simp [codedS, h0, h1, h2]
  by_cases h3 : x / 4 = 0
  · repeat (first
      | (with_reducible first | apply AWp.seq | apply AWp.block | refine And.intro (by first | omega | assumption | decide) ?_)
      | ((first | (with_reducible first | apply AWp.fork | apply AWp.region | show condK _ _ _ | show guardK _ _ _ _ _ _ _ _ _)); simp -implicitDefEqProofs [h0, h1, h2, h3])
      | ((with_reducible first | apply AWp.ret | apply AWp.skip | apply AWp.exit); try simp -implicitDefEqProofs [h0, h1, h2, h3]))
    simp [codedS, h0, h1, h2, h3]
  have ha : bAnd 64 x 3 = x % 4 := and_mask (w := 64) (a := x) 2 (by omega) (by omega) (by omega)
  have hw : IntKind.i64.wrap (x % 4) = x % 4 := in_i64 (by omega) (by omega)
  by_cases h4 : x % 4 = 0
  · repeat (first
      | (with_reducible first | apply AWp.seq | apply AWp.block | refine And.intro (by first | omega | assumption | decide) ?_)
      | ((first | (with_reducible first | apply AWp.fork | apply AWp.region | show condK _ _ _ | show guardK _ _ _ _ _ _ _ _ _)); simp -implicitDefEqProofs [h0, h1, h2, h3, ha, hw, h4])
      | ((with_reducible first | apply AWp.ret | apply AWp.skip | apply AWp.exit); try simp -implicitDefEqProofs [h0, h1, h2, h3, ha, hw, h4]))
    simp [codedS, h0, h1, h2, h3, h4]
  by_cases h5 : x % 4 = 2
  · repeat (first
      | (with_reducible first | apply AWp.seq | apply AWp.block | refine And.intro (by first | omega | assumption | decide) ?_)
      | ((first | (with_reducible first | apply AWp.fork | apply AWp.region | show condK _ _ _ | show guardK _ _ _ _ _ _ _ _ _)); simp -implicitDefEqProofs [h0, h1, h2, h3, ha, hw, h4, h5])
      | ((with_reducible first | apply AWp.ret | apply AWp.skip | apply AWp.exit); try simp -implicitDefEqProofs [h0, h1, h2, h3, ha, hw, h4, h5]))
    simp [codedS, h0, h1, h2, h3, h4, h5]
  · repeat (first
      | (with_reducible first | apply AWp.seq | apply AWp.block | refine And.intro (by first | omega | assumption | decide) ?_)
      | ((first | (with_reducible first | apply AWp.fork | apply AWp.region | show condK _ _ _ | show guardK _ _ _ _ _ _ _ _ _)); simp -implicitDefEqProofs [h0, h1, h2, h3, ha, hw, h4, h5])
      | ((with_reducible first | apply AWp.ret | apply AWp.skip | apply AWp.exit); try simp -implicitDefEqProofs [h0, h1, h2, h3, ha, hw, h4, h5]))
    simp [codedS, h0, h1, h2, h3, h4, h5]

theorem rcoded_ok (x : Int) (σ : AS) : ACalls Try.prog 89 [.sc (.int .i64 x)] σ (Gives (.agg [.sc (.int .i64 (codedS x).1), .sc (.int .i64 (codedS x).2.1), .sc (.int .i64 (codedS x).2.2)]) σ) No := by
  refine ACalls.of_body Try.func89 rfl rfl (by simp [Try.ntmps89]) ?_
  repeat (first
    | (with_reducible first | apply AWp.seq | apply AWp.block | refine And.intro (by first | omega | assumption | decide) ?_)
    | ((first | (with_reducible first | apply AWp.fork | apply AWp.region)); simp -implicitDefEqProofs)
    | ((with_reducible first | apply AWp.ret | apply AWp.skip | apply AWp.exit); try simp -implicitDefEqProofs))
  intro id h_id
  by_cases h0 : x = 0
  · subst h0
    repeat (first
      | (with_reducible first | apply AWp.seq | apply AWp.block | refine And.intro (by first | omega | assumption | decide) ?_)
      | ((first | (with_reducible first | apply AWp.fork | apply AWp.region)); simp -implicitDefEqProofs)
      | ((with_reducible first | apply AWp.ret | apply AWp.skip | apply AWp.exit); try simp -implicitDefEqProofs))
    simp [codedS]
    exact le_new h_id (AS.le_refl _)
  by_cases h1 : x < 0
  · repeat (first
      | (with_reducible first | apply AWp.seq | apply AWp.block | refine And.intro (by first | omega | assumption | decide) ?_)
      | ((first | (with_reducible first | apply AWp.fork | apply AWp.region | show condK _ _ _ | show guardK _ _ _ _ _ _ _ _ _)); simp -implicitDefEqProofs [h0, h1])
      | ((with_reducible first | apply AWp.ret | apply AWp.skip | apply AWp.exit); try simp -implicitDefEqProofs [h0, h1]))
    simp [codedS, h0, h1]
    exact le_new h_id (AS.le_refl _)
  by_cases h2 : 65535 < x
  · repeat (first
      | (with_reducible first | apply AWp.seq | apply AWp.block | refine And.intro (by first | omega | assumption | decide) ?_)
      | ((first | (with_reducible first | apply AWp.fork | apply AWp.region | show condK _ _ _ | show guardK _ _ _ _ _ _ _ _ _)); simp -implicitDefEqProofs [h0, h1, h2])
      | ((with_reducible first | apply AWp.ret | apply AWp.skip | apply AWp.exit); try simp -implicitDefEqProofs [h0, h1, h2]))
    simp [codedS, h0, h1, h2]
    exact le_new h_id (AS.le_refl _)
  have hq : x.tdiv 4 = x / 4 := by rw [Int.tdiv_eq_ediv_of_nonneg (by omega)]
  have hr2 : x.tmod 2 = x % 2 := by rw [Int.tmod_eq_emod_of_nonneg (by omega)]
  have hr4 : x.tmod 4 = x % 4 := by rw [Int.tmod_eq_emod_of_nonneg (by omega)]
  have hwq : IntKind.i64.wrap (x / 4) = x / 4 := in_i64 (by omega) (by omega)
  by_cases h3 : x / 4 = 0
  · repeat (first
      | (with_reducible first | apply AWp.seq | apply AWp.block | refine And.intro (by first | omega | assumption | decide) ?_)
      | ((first | (with_reducible first | apply AWp.fork | apply AWp.region | show condK _ _ _ | show guardK _ _ _ _ _ _ _ _ _)); simp -implicitDefEqProofs [h0, h1, h2, h3, hq, hwq])
      | ((with_reducible first | apply AWp.ret | apply AWp.skip | apply AWp.exit); try simp -implicitDefEqProofs [h0, h1, h2, h3, hq, hwq]))
    simp [codedS, h0, h1, h2, h3]
    exact le_new h_id (AS.le_refl _)
  by_cases h4 : x % 4 = 0
  · have h5 : x % 2 = 0 := by omega
    repeat (first
      | (with_reducible first | apply AWp.seq | apply AWp.block | refine And.intro (by first | omega | assumption | decide) ?_)
      | ((first | (with_reducible first | apply AWp.fork | apply AWp.region | show condK _ _ _ | show guardK _ _ _ _ _ _ _ _ _)); simp -implicitDefEqProofs [h0, h1, h2, h3, hq, hwq, hr2, hr4, h4, h5])
      | ((with_reducible first | apply AWp.ret | apply AWp.skip | apply AWp.exit); try simp -implicitDefEqProofs [h0, h1, h2, h3, hq, hwq, hr2, hr4, h4, h5]))
    simp [codedS, h0, h1, h2, h3, h4]
    exact le_new h_id (AS.le_refl _)
  by_cases h6 : x % 4 = 2
  · have h5 : x % 2 = 0 := by omega
    repeat (first
      | (with_reducible first | apply AWp.seq | apply AWp.block | refine And.intro (by first | omega | assumption | decide) ?_)
      | ((first | (with_reducible first | apply AWp.fork | apply AWp.region | show condK _ _ _ | show guardK _ _ _ _ _ _ _ _ _)); simp -implicitDefEqProofs [h0, h1, h2, h3, hq, hwq, hr2, hr4, h5, h6])
      | ((with_reducible first | apply AWp.ret | apply AWp.skip | apply AWp.exit); try simp -implicitDefEqProofs [h0, h1, h2, h3, hq, hwq, hr2, hr4, h5, h6]))
    simp [codedS, h0, h1, h2, h3, h4, h6]
    exact le_new h_id (AS.le_refl _)
  · have h5 : x % 2 = 1 := by omega
    repeat (first
      | (with_reducible first | apply AWp.seq | apply AWp.block | refine And.intro (by first | omega | assumption | decide) ?_)
      | ((first | (with_reducible first | apply AWp.fork | apply AWp.region | show condK _ _ _ | show guardK _ _ _ _ _ _ _ _ _)); simp -implicitDefEqProofs [h0, h1, h2, h3, hq, hwq, hr2, hr4, h5])
      | ((with_reducible first | apply AWp.ret | apply AWp.skip | apply AWp.exit); try simp -implicitDefEqProofs [h0, h1, h2, h3, hq, hwq, hr2, hr4, h5]))
    simp [codedS, h0, h1, h2, h3, h4, h6]
    exact le_new h_id (AS.le_refl _)

end Go.Proofs.Ytplphldpkliakaa
