/- Package rows: kinds, width, Columns, Code, Coded, and the document's. -/
import Derived.Test.YtknalmoackcpbaaGreatAwGo
import Derived.Test.YtknalmoackcpbaaGreatRef1
set_option linter.unusedSimpArgs false
set_option linter.unusedVariables false
set_option maxRecDepth 100000
set_option maxHeartbeats 3200000
namespace Go.Proofs.YtknalmoackcpbaaGreat
open Go Go.AW
theorem D0_XRows1 (S : List Nat) : Plans Tryz.prog [] S := mixed
def codeS (t r : Int) : Int × Int := if t = -1 then (0, 0) else if t ≠ 0 ∧ t ≠ 4 then (0, 17) else if r < 1 ∨ 16383 < r then (0, 3) else (4 * r + (if t = 4 then 2 else 0), 0)
def codedS (x : Int) : Int × Int × Int := if x = 0 then (-1, 0, 0) else if x < 0 ∨ 65535 < x ∨ x / 4 = 0 then (0, 0, 5) else if x % 4 = 0 then (0, x / 4, 0) else if x % 4 = 2 then (4, x / 4, 0) else (0, 0, 5)
theorem code_ok (t r : Int) (σ : AS) : ACalls Tryz.prog 130 [.sc (.int .i64 t), .sc (.int .i64 r)] σ (Gives (.tup [.sc (.int .i64 (codeS t r).1), .sc (.int .i64 (codeS t r).2)]) σ) No := by
  refine ACalls.of_body Tryz.func130 rfl rfl (by simp [Tryz.ntmps130]) ?_
  by_cases h0 : t = -1
  · subst h0
    refine gO (D0_XRows1 []) True.intro True.intro (k := ?_)
    simp [codeS]
  by_cases h1 : t = 0
  · subst h1
    by_cases r1 : r < 1
    · refine gO (D0_XRows1 []) @r1 True.intro (k := ?_)
      simp [codeS, r1]
    · by_cases r2 : 16383 < r
      · refine gO (D0_XRows1 []) (j2 @r1 @r2) True.intro (k := ?_)
        simp [codeS, r1, r2]
      · have e1 : IntKind.i64.wrap (r * 4) = r * 4 := in_i64 (by omega) (by omega)
        have e2 : bOr 64 (r * 4) 0 = r * 4 := by have := or_add (w := 64) (a := r * 4) (b := 0) 2 (by omega) (by omega) (c := r) (by omega) (by omega) (by omega); omega
        refine gO (D0_XRows1 []) (j4 @r1 @r2 @e1 @e2) True.intro (k := ?_)
        simp [codeS, r1, r2]
        exact wk_eq (by rw [Int.mul_comm])
  by_cases h4 : t = 4
  · subst h4
    by_cases r1 : r < 1
    · refine gO (D0_XRows1 []) @r1 True.intro (k := ?_)
      simp [codeS, r1]
    · by_cases r2 : 16383 < r
      · refine gO (D0_XRows1 []) (j2 @r1 @r2) True.intro (k := ?_)
        simp [codeS, r1, r2]
      · have e1 : IntKind.i64.wrap (r * 4) = r * 4 := in_i64 (by omega) (by omega)
        have e2 : bOr 64 (r * 4) 2 = r * 4 + 2 := or_add (w := 64) (a := r * 4) (b := 2) 2 (by omega) (by omega) (c := r) (by omega) (by omega) (by omega)
        have e3 : IntKind.i64.wrap (r * 4 + 2) = r * 4 + 2 := in_i64 (by omega) (by omega)
        refine gO (D0_XRows1 []) (j5 @r1 @r2 @e1 @e2 @e3) True.intro (k := ?_)
        simp [codeS, r1, r2]
        exact wk_eq (by rw [Int.mul_comm])
  · refine gO (D0_XRows1 []) (j3 @h0 @h1 @h4) True.intro (k := ?_)
    simp [codeS, h0, h1, h4]
theorem coded_ok (x : Int) (σ : AS) : ACalls Tryz.prog 167 [.sc (.int .i64 x)] σ (Gives (.tup [.sc (.int .i64 (codedS x).1), .sc (.int .i64 (codedS x).2.1), .sc (.int .i64 (codedS x).2.2)]) σ) No := by
  refine ACalls.of_body Tryz.func167 rfl rfl (by simp [Tryz.ntmps167]) ?_
  by_cases h0 : x = 0
  · subst h0
    refine gO (D0_XRows1 []) True.intro True.intro (k := ?_)
    simp [codedS]
  by_cases h1 : x < 0
  · refine gO (D0_XRows1 []) (j2 @h0 @h1) True.intro (k := ?_)
    simp [codedS, h0, h1]
  by_cases h2 : 65535 < x
  · refine gO (D0_XRows1 []) (j3 @h0 @h1 @h2) True.intro (k := ?_)
    simp [codedS, h0, h1, h2]
  by_cases h3 : x / 4 = 0
  · refine gO (D0_XRows1 []) (j4 @h0 @h1 @h2 @h3) True.intro (k := ?_)
    simp [codedS, h0, h1, h2, h3]
  have ha : bAnd 64 x 3 = x % 4 := and_mask (w := 64) (a := x) 2 (by omega) (by omega) (by omega)
  have hw : IntKind.i64.wrap (x % 4) = x % 4 := in_i64 (by omega) (by omega)
  by_cases h4 : x % 4 = 0
  · refine gO (D0_XRows1 []) (j7 @h0 @h1 @h2 @h3 @ha @hw @h4) True.intro (k := ?_)
    simp [codedS, h0, h1, h2, h3, h4]
  by_cases h5 : x % 4 = 2
  · refine gO (D0_XRows1 []) (j8 @h0 @h1 @h2 @h3 @ha @hw @h4 @h5) True.intro (k := ?_)
    simp [codedS, h0, h1, h2, h3, h4, h5]
  · refine gO (D0_XRows1 []) (j8 @h0 @h1 @h2 @h3 @ha @hw @h4 @h5) True.intro (k := ?_)
    simp [codedS, h0, h1, h2, h3, h4, h5]
end Go.Proofs.YtknalmoackcpbaaGreat
