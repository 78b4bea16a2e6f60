/- Types: where they may stand (sigs and its reference). -/
import Derived.Test.YtknalmoackcpbaaGreatAwGo
import Derived.Test.YtknalmoackcpbaaGreatOct1
set_option linter.unusedSimpArgs false
set_option linter.unusedVariables false
set_option maxRecDepth 100000
set_option maxHeartbeats 3200000
namespace Go.Proofs.YtknalmoackcpbaaGreat
open Go Go.AW
theorem D0_XTy (S : List Nat) : Plans Tryz.prog [] S := mixed
theorem wk_bool {a b : Bool} (h : a = b) : AV.Wk Tryz.prog (.sc (.bool a)) (.sc (.bool b)) := h ▸ Wk.refl _
structure Ty where
  kind : Int
  index : Int
  dims : Int
  ref : Bool
def tyV (t : Ty) : AV := .agg [.sc (.int .i64 t.kind), .sc (.int .i64 t.index), .sc (.int .i64 t.dims), .sc (.bool t.ref)]
theorem sh_k : Program.stoodInHeld Tryz.prog 200 = false := by kernel_rfl
theorem sh_t : Program.stoodInHeld Tryz.prog 49 = false := by kernel_rfl
@[simp] theorem eg_k : Program.eqGuardType Tryz.prog Tryz.prog.depth 200 = false := by kernel_rfl
@[simp] theorem eg_t : Program.eqGuardType Tryz.prog Tryz.prog.depth 49 = false := by kernel_rfl
@[simp] theorem eq_k (a b c a' b' c' : Int) (r r' : Bool) : eqAV Tryz.prog 8 200 (.agg [.sc (.int .i64 a), .sc (.int .i64 b), .sc (.int .i64 c), .sc (.bool r)]) (.agg [.sc (.int .i64 a'), .sc (.int .i64 b'), .sc (.int .i64 c'), .sc (.bool r')]) =
    some (decide (a = a') && (decide (b = b') && (decide (c = c') && (r == r')))) := by
  simp [eqAV, eqFs, sh_k, Tryz.underlying200, Tryz.underlying3, Tryz.underlying4]
@[simp] theorem eq_t (a b c a' b' c' : Int) (r r' : Bool) : eqAV Tryz.prog 8 49 (.agg [.sc (.int .i64 a), .sc (.int .i64 b), .sc (.int .i64 c), .sc (.bool r)]) (.agg [.sc (.int .i64 a'), .sc (.int .i64 b'), .sc (.int .i64 c'), .sc (.bool r')]) =
    some (decide (a = a') && (decide (b = b') && (decide (c = c') && (r == r')))) := by
  simp [eqAV, eqFs, sh_t, Tryz.underlying49, Tryz.underlying3, Tryz.underlying4]
def plainT (t : Ty) : Bool :=
  if t.dims < 0 ∨ 3 < t.dims ∨ t.index < 0 then false else
  if t.kind = 1 then decide (t.dims = 0) && (!t.ref && decide (t.index = 0)) else
  if t.kind = 2 ∨ t.kind = 3 ∨ t.kind = 4 then decide (t.index = 0) else
  if t.kind = 5 ∨ t.kind = 6 then decide (t.index < 32) else if t.kind = 7 then decide (t.index ≤ 7) else false
theorem kind_cases (k : Int) : k = 1 ∨ k = 2 ∨ k = 3 ∨ k = 4 ∨ k = 5 ∨ k = 6 ∨ k = 7 ∨ (¬ k = 1 ∧ ¬ k = 2 ∧ ¬ k = 3 ∧ ¬ k = 4 ∧ ¬ k = 5 ∧ ¬ k = 6 ∧ ¬ k = 7) := by omega
theorem rplain_ok (t : Ty) (σ : AS) : ACalls Tryz.prog 126 [tyV t] σ (Gives (.sc (.bool (plainT t))) σ) No := by
  obtain ⟨k, x, d, r⟩ := t
  refine ACalls.of_body Tryz.func126 rfl rfl (by simp [Tryz.ntmps126]) ?_
  simp only [tyV]
  refine gO (D0_XTy []) True.intro True.intro (k := ?_)
  intro id hid
  by_cases d1 : d < 0
  · refine gO (D0_XTy []) @d1 True.intro (k := ?_)
    simp [plainT, d1]
    all_goals (repeat (first | exact AS.le_refl _ | refine le_new (by simp [hid]) ?_))
  · by_cases d2 : 3 < d
    · refine gO (D0_XTy []) (j2 @d1 @d2) True.intro (k := ?_)
      simp [plainT, d1, d2]
      all_goals (repeat (first | exact AS.le_refl _ | refine le_new (by simp [hid]) ?_))
    · by_cases d3 : x < 0
      · refine gO (D0_XTy []) (j3 @d1 @d2 @d3) True.intro (k := ?_)
        simp [plainT, d1, d2, d3]
        all_goals (repeat (first | exact AS.le_refl _ | refine le_new (by simp [hid]) ?_))
      · rcases kind_cases k with rfl | rfl | rfl | rfl | rfl | rfl | rfl | ⟨k1, k2, k3, k4, k5, k6, k7⟩
        rotate_right
        · refine gO (D0_XTy []) (And.intro (j7 @d1 @d2 @d3 @k1 @k2 @k3 @k4) (j3 @k5 @k6 @k7)) True.intro (k := ?_)
          simp [plainT, d1, d2, d3, k1, k2, k3, k4, k5, k6, k7]
          all_goals (repeat (first | exact AS.le_refl _ | refine le_new (by simp [hid]) ?_))
        · by_cases e1 : d = 0 <;> cases r
          all_goals
            refine gO (D0_XTy []) (j4 @d1 @d2 @d3 @e1) True.intro (k := ?_)
            try simp [plainT, d1, d2, d3, e1]
            all_goals (repeat (first | exact AS.le_refl _ | refine le_new (by simp [hid]) ?_))
        all_goals
          refine gO (D0_XTy []) (j3 @d1 @d2 @d3) True.intro (k := ?_)
          try simp [plainT, d1, d2, d3]
          all_goals (repeat (first | exact AS.le_refl _ | refine le_new (by simp [hid]) ?_))
theorem kplain_ok (t : Ty) (σ : AS) : ACalls Tryz.prog 194 [tyV t] σ (Gives (.sc (.bool (plainT t))) σ) No := by
  obtain ⟨k, x, d, r⟩ := t
  refine ACalls.of_body Tryz.func194 rfl rfl (by simp [Tryz.ntmps194]) ?_
  simp only [tyV]
  refine gO (D0_XTy []) True.intro True.intro (k := ?_)
  intro id hid
  rcases kind_cases k with rfl | rfl | rfl | rfl | rfl | rfl | rfl | ⟨k1, k2, k3, k4, k5, k6, k7⟩
  rotate_right
  · refine gO (D0_XTy []) (j7 @k1 @k2 @k3 @k4 @k5 @k6 @k7) True.intro (k := ?_)
    simp [plainT, k1, k2, k3, k4, k5, k6, k7]
    all_goals (repeat (first | exact AS.le_refl _ | refine le_new (by simp [hid]) ?_))
  · refine gO (D0_XTy []) True.intro True.intro (k := ?_)
    have e : (decide (x = 0) && (decide (d = 0) && (r == false))) = plainT ⟨1, x, d, r⟩ := by
      unfold plainT
      by_cases h : d < 0 ∨ 3 < d ∨ x < 0
      · rw [if_pos h]
        by_cases h1 : x = 0 <;> by_cases h2 : d = 0 <;> first | (exfalso; omega) | simp [h1, h2]
      · rw [if_neg h]
        cases r <;> by_cases h1 : x = 0 <;> by_cases h2 : d = 0 <;> simp [h1, h2]
    simp [← e]
    all_goals (repeat (first | exact AS.le_refl _ | refine le_new (by simp [hid]) ?_))
  all_goals
    by_cases d3 : 0 ≤ x
    · by_cases d4 : x ≤ 31 <;> by_cases d5 : x ≤ 7 <;> by_cases d6 : x ≤ 0 <;> by_cases d1 : 0 ≤ d
      all_goals
        first
        | (exfalso; omega)
        | skip
        repeat (first
          | (with_reducible first | apply AWp.seq | apply AWp.block | refine And.intro (by first | omega | assumption | decide) ?_)
          | ((first | (with_reducible first | apply AWp.fork | apply AWp.region | show condK _ _ _ | show guardK _ _ _ _ _ _ _ _ _)); simp -implicitDefEqProofs [d1, d3, d4, d5, d6])
          | ((with_reducible first | apply AWp.ret | apply AWp.skip | apply AWp.exit); try simp -implicitDefEqProofs [d1, d3, d4, d5, d6]))
        try simp [plainT]
        try (refine And.intro (wk_bool (by rw [Bool.eq_iff_iff]; simp; omega)) ?_)
        all_goals (repeat (first | exact AS.le_refl _ | refine le_new (by simp [hid]) ?_))
    · refine gO (D0_XTy []) @d3 True.intro (k := ?_)
      try simp [plainT]
      try (refine And.intro (wk_bool (by rw [Bool.eq_iff_iff]; simp; omega)) ?_)
      all_goals (repeat (first | exact AS.le_refl _ | refine le_new (by simp [hid]) ?_))
theorem Plain_ok (t : Ty) (σ : AS) : ACalls Tryz.prog 139 [tyV t] σ (Gives (.sc (.bool (plainT t))) σ) No := by
  refine ACalls.of_body Tryz.func139 rfl rfl (by simp [Tryz.ntmps139]) ?_
  have hk := fun σ => kplain_ok t σ
  cases hp : plainT t <;> obtain ⟨k, x, d, r⟩ := t <;> rw [hp] at hk <;> simp only [tyV] at hk ⊢
  all_goals
    refine gO (D0_XTy []) True.intro True.intro (k := ?_)
    intro id hid
    refine gO (D0_XTy []) True.intro @hk (k := ?_)
    all_goals (repeat (first | exact AS.le_refl _ | refine le_new (by simp [hid]) ?_))
def localT (t : Ty) : Bool := plainT t && !decide (t.kind = 1)
def fieldT' (t : Ty) : Bool := localT t && !t.ref
def answerT (t : Ty) : Bool := plainT t && !t.ref
theorem klocal_ok (t : Ty) (σ : AS) : ACalls Tryz.prog 183 [tyV t] σ (Gives (.sc (.bool (localT t))) σ) No := by
  refine ACalls.of_body Tryz.func183 rfl rfl (by simp [Tryz.ntmps183]) ?_
  have hk := fun σ => kplain_ok t σ
  cases hp : plainT t <;> obtain ⟨k, x, d, r⟩ := t <;> rw [hp] at hk <;> simp only [tyV] at hk ⊢
  all_goals
    refine gO (D0_XTy []) True.intro True.intro (k := ?_)
    intro id hid
    refine gO (D0_XTy []) True.intro @hk (k := ?_)
    try simp [localT, hp]
    all_goals (repeat (first | exact AS.le_refl _ | refine le_new (by simp [hid]) ?_))
theorem kfield_ok (t : Ty) (σ : AS) : ACalls Tryz.prog 134 [tyV t] σ (Gives (.sc (.bool (fieldT' t))) σ) No := by
  refine ACalls.of_body Tryz.func134 rfl rfl (by simp [Tryz.ntmps134]) ?_
  have hk := fun σ => klocal_ok t σ
  cases hp : localT t <;> obtain ⟨k, x, d, r⟩ := t <;> rw [hp] at hk <;> simp only [tyV] at hk ⊢
  all_goals
    refine gO (D0_XTy []) True.intro True.intro (k := ?_)
    intro id hid
    refine gO (D0_XTy []) True.intro @hk (k := ?_)
    try simp [fieldT', hp]
    all_goals (repeat (first | exact AS.le_refl _ | refine le_new (by simp [hid]) ?_))
def whereT (t : Ty) (p : Int) : Bool := if p = 1 then fieldT' t else if p = 2 then localT t else if p = 3 then answerT t else plainT t
theorem rwhere_ok (t : Ty) (p : Int) (σ : AS) : ACalls Tryz.prog 55 [tyV t, .sc (.int .i64 p)] σ (Gives (.sc (.bool (whereT t p))) σ) No := by
  refine ACalls.of_body Tryz.func55 rfl rfl (by simp [Tryz.ntmps55]) ?_
  have hk := fun σ => rplain_ok t σ
  cases hp : plainT t <;> obtain ⟨k, x, d, r⟩ := t <;> rw [hp] at hk <;> simp only [tyV] at hk ⊢
  · refine gO (D0_XTy []) True.intro True.intro (k := ?_)
    intro id hid
    refine gO (D0_XTy []) True.intro @hk (k := ?_)
    have e : whereT ⟨k, x, d, r⟩ p = false := by unfold whereT fieldT' answerT localT; rw [hp]; simp
    simp [e]
    all_goals (repeat (first | exact AS.le_refl _ | refine le_new (by simp [hid]) ?_))
  · refine gO (D0_XTy []) True.intro True.intro (k := ?_)
    intro id hid
    by_cases p1 : p = 1
    · subst p1
      by_cases k1 : k = 1
      · subst k1
        refine gO (D0_XTy []) True.intro @hk (k := ?_)
        simp [whereT, fieldT', answerT, localT, hp]
        all_goals (repeat (first | exact AS.le_refl _ | refine le_new (by simp [hid]) ?_))
      · refine gO (D0_XTy []) @k1 @hk (k := ?_)
        simp [whereT, fieldT', answerT, localT, hp, k1]
        all_goals (repeat (first | exact AS.le_refl _ | refine le_new (by simp [hid]) ?_))
    · by_cases p2 : p = 2
      · subst p2
        refine gO (D0_XTy []) True.intro @hk (k := ?_)
        simp [whereT, fieldT', answerT, localT, hp]
        all_goals (repeat (first | exact AS.le_refl _ | refine le_new (by simp [hid]) ?_))
      · by_cases p3 : p = 3
        · subst p3
          refine gO (D0_XTy []) True.intro @hk (k := ?_)
          simp [whereT, fieldT', answerT, localT, hp]
          all_goals (repeat (first | exact AS.le_refl _ | refine le_new (by simp [hid]) ?_))
        · refine gO (D0_XTy []) (j3 @p1 @p2 @p3) @hk (k := ?_)
          simp [whereT, fieldT', answerT, localT, hp, p1, p2, p3]
          all_goals (repeat (first | exact AS.le_refl _ | refine le_new (by simp [hid]) ?_))
end Go.Proofs.YtknalmoackcpbaaGreat
