/- Types: where they may stand (sigs and its reference). -/
import Derived.Test.YtplphldpkliakaaOct1
set_option linter.unusedSimpArgs false
set_option linter.unusedVariables false
set_option maxRecDepth 100000
set_option maxHeartbeats 3200000
namespace Go.Proofs.Ytplphldpkliakaa
open Go Go.AW

theorem wk_bool {a b : Bool} (h : a = b) : AV.Wk Try.prog (.sc (.bool a)) (.sc (.bool b)) := h ▸ Wk.refl _

structure Ty where
  kind : Int
  index : Int
  dims : Int
  ref : Bool
deriving DecidableEq

def tyV (t : Ty) : AV := .agg [.sc (.int .i64 t.kind), .sc (.int .i64 t.index), .sc (.int .i64 t.dims), .sc (.bool t.ref)]

theorem sh_k : Program.stoodInHeld Try.prog 76 = false := by kernel_rfl
theorem sh_t : Program.stoodInHeld Try.prog 24 = false := by kernel_rfl
@[simp] theorem eg_k : Program.eqGuardType Try.prog Try.prog.depth 76 = false := by kernel_rfl
@[simp] theorem eg_t : Program.eqGuardType Try.prog Try.prog.depth 24 = false := by kernel_rfl
@[simp] theorem eq_k (a b c a' b' c' : Int) (r r' : Bool) : eqAV Try.prog 8 76 (.agg [.sc (.int .i64 a), .sc (.int .i64 b), .sc (.int .i64 c), .sc (.bool r)]) (.agg [.sc (.int .i64 a'), .sc (.int .i64 b'), .sc (.int .i64 c'), .sc (.bool r')]) =
    some (decide (a = a') && (decide (b = b') && (decide (c = c') && (r == r')))) := by
  simp [eqAV, eqFs, sh_k, Try.underlying76, Try.underlying3, Try.underlying4]
@[simp] theorem eq_t (a b c a' b' c' : Int) (r r' : Bool) : eqAV Try.prog 8 24 (.agg [.sc (.int .i64 a), .sc (.int .i64 b), .sc (.int .i64 c), .sc (.bool r)]) (.agg [.sc (.int .i64 a'), .sc (.int .i64 b'), .sc (.int .i64 c'), .sc (.bool r')]) =
    some (decide (a = a') && (decide (b = b') && (decide (c = c') && (r == r')))) := by
  simp [eqAV, eqFs, sh_t, Try.underlying24, Try.underlying3, Try.underlying4]

def plainT (t : Ty) : Bool :=
  if t.dims < 0 ∨ 3 < t.dims ∨ t.index < 0 then false else
  if t.kind = 1 then decide (t.dims = 0) && (!t.ref && decide (t.index = 0)) else
  if t.kind = 2 ∨ t.kind = 3 ∨ t.kind = 4 then decide (t.index = 0) else
  if t.kind = 5 ∨ t.kind = 6 then decide (t.index < 32) else if t.kind = 7 then decide (t.index ≤ 7) else false

theorem kind_cases (k : Int) : k = 1 ∨ k = 2 ∨ k = 3 ∨ k = 4 ∨ k = 5 ∨ k = 6 ∨ k = 7 ∨ (¬ k = 1 ∧ ¬ k = 2 ∧ ¬ k = 3 ∧ ¬ k = 4 ∧ ¬ k = 5 ∧ ¬ k = 6 ∧ ¬ k = 7) := by omega

theorem rplain_ok (t : Ty) (σ : AS) : ACalls Try.prog 20 [tyV t] σ (Gives (.sc (.bool (plainT t))) σ) No := by
  obtain ⟨k, x, d, r⟩ := t
  refine ACalls.of_body Try.func20 rfl rfl (by simp [Try.ntmps20]) ?_
  simp only [tyV]
  repeat (first
    | (with_reducible first | apply AWp.seq | apply AWp.block | refine And.intro (by first | omega | assumption | decide) ?_)
    | ((first | (with_reducible first | apply AWp.fork | apply AWp.region)); simp -implicitDefEqProofs)
    | ((with_reducible first | apply AWp.ret | apply AWp.skip | apply AWp.exit); try simp -implicitDefEqProofs))
  intro id hid
  by_cases d1 : d < 0
  · repeat (first
      | (with_reducible first | apply AWp.seq | apply AWp.block | refine And.intro (by first | omega | assumption | decide) ?_)
      | ((first | (with_reducible first | apply AWp.fork | apply AWp.region | show condK _ _ _ | show guardK _ _ _ _ _ _ _ _ _)); simp -implicitDefEqProofs [d1])
      | ((with_reducible first | apply AWp.ret | apply AWp.skip | apply AWp.exit); try simp -implicitDefEqProofs [d1]))
    simp [plainT, d1]
    all_goals (repeat (first | exact AS.le_refl _ | refine le_new (by simp [hid]) ?_))
  · by_cases d2 : 3 < d
    · repeat (first
        | (with_reducible first | apply AWp.seq | apply AWp.block | refine And.intro (by first | omega | assumption | decide) ?_)
        | ((first | (with_reducible first | apply AWp.fork | apply AWp.region | show condK _ _ _ | show guardK _ _ _ _ _ _ _ _ _)); simp -implicitDefEqProofs [d1, d2])
        | ((with_reducible first | apply AWp.ret | apply AWp.skip | apply AWp.exit); try simp -implicitDefEqProofs [d1, d2]))
      simp [plainT, d1, d2]
      all_goals (repeat (first | exact AS.le_refl _ | refine le_new (by simp [hid]) ?_))
    · by_cases d3 : x < 0
      · repeat (first
          | (with_reducible first | apply AWp.seq | apply AWp.block | refine And.intro (by first | omega | assumption | decide) ?_)
          | ((first | (with_reducible first | apply AWp.fork | apply AWp.region | show condK _ _ _ | show guardK _ _ _ _ _ _ _ _ _)); simp -implicitDefEqProofs [d1, d2, d3])
          | ((with_reducible first | apply AWp.ret | apply AWp.skip | apply AWp.exit); try simp -implicitDefEqProofs [d1, d2, d3]))
        simp [plainT, d1, d2, d3]
        all_goals (repeat (first | exact AS.le_refl _ | refine le_new (by simp [hid]) ?_))
      · rcases kind_cases k with rfl | rfl | rfl | rfl | rfl | rfl | rfl | ⟨k1, k2, k3, k4, k5, k6, k7⟩
        rotate_right
        · repeat (first
            | (with_reducible first | apply AWp.seq | apply AWp.block | refine And.intro (by first | omega | assumption | decide) ?_)
            | ((first | (with_reducible first | apply AWp.fork | apply AWp.region | show condK _ _ _ | show guardK _ _ _ _ _ _ _ _ _)); simp -implicitDefEqProofs [d1, d2, d3, k1, k2, k3, k4, k5, k6, k7])
            | ((with_reducible first | apply AWp.ret | apply AWp.skip | apply AWp.exit); try simp -implicitDefEqProofs [d1, d2, d3, k1, k2, k3, k4, k5, k6, k7]))
          simp [plainT, d1, d2, d3, k1, k2, k3, k4, k5, k6, k7]
          all_goals (repeat (first | exact AS.le_refl _ | refine le_new (by simp [hid]) ?_))
        · by_cases e1 : d = 0 <;> cases r
          all_goals
            repeat (first
              | (with_reducible first | apply AWp.seq | apply AWp.block | refine And.intro (by first | omega | assumption | decide) ?_)
              | ((first | (with_reducible first | apply AWp.fork | apply AWp.region | show condK _ _ _ | show guardK _ _ _ _ _ _ _ _ _)); simp -implicitDefEqProofs [d1, d2, d3, e1])
              | ((with_reducible first | apply AWp.ret | apply AWp.skip | apply AWp.exit); try simp -implicitDefEqProofs [d1, d2, d3, e1]))
            try simp [plainT, d1, d2, d3, e1]
            all_goals (repeat (first | exact AS.le_refl _ | refine le_new (by simp [hid]) ?_))
        all_goals
          repeat (first
            | (with_reducible first | apply AWp.seq | apply AWp.block | refine And.intro (by first | omega | assumption | decide) ?_)
            | ((first | (with_reducible first | apply AWp.fork | apply AWp.region | show condK _ _ _ | show guardK _ _ _ _ _ _ _ _ _)); simp -implicitDefEqProofs [d1, d2, d3])
            | ((with_reducible first | apply AWp.ret | apply AWp.skip | apply AWp.exit); try simp -implicitDefEqProofs [d1, d2, d3]))
          try simp [plainT, d1, d2, d3]
          all_goals (repeat (first | exact AS.le_refl _ | refine le_new (by simp [hid]) ?_))

theorem kplain_ok (t : Ty) (σ : AS) : ACalls Try.prog 54 [tyV t] σ (Gives (.sc (.bool (plainT t))) σ) No := by
  obtain ⟨k, x, d, r⟩ := t
  refine ACalls.of_body Try.func54 rfl rfl (by simp [Try.ntmps54]) ?_
  simp only [tyV]
  repeat (first
    | (with_reducible first | apply AWp.seq | apply AWp.block | refine And.intro (by first | omega | assumption | decide) ?_)
    | ((first | (with_reducible first | apply AWp.fork | apply AWp.region)); simp -implicitDefEqProofs)
    | ((with_reducible first | apply AWp.ret | apply AWp.skip | apply AWp.exit); try simp -implicitDefEqProofs))
  intro id hid
  rcases kind_cases k with rfl | rfl | rfl | rfl | rfl | rfl | rfl | ⟨k1, k2, k3, k4, k5, k6, k7⟩
  rotate_right
  · repeat (first
      | (with_reducible first | apply AWp.seq | apply AWp.block | refine And.intro (by first | omega | assumption | decide) ?_)
      | ((first | (with_reducible first | apply AWp.fork | apply AWp.region | show condK _ _ _ | show guardK _ _ _ _ _ _ _ _ _)); simp -implicitDefEqProofs [k1, k2, k3, k4, k5, k6, k7])
      | ((with_reducible first | apply AWp.ret | apply AWp.skip | apply AWp.exit); try simp -implicitDefEqProofs [k1, k2, k3, k4, k5, k6, k7]))
    simp [plainT, k1, k2, k3, k4, k5, k6, k7]
    all_goals (repeat (first | exact AS.le_refl _ | refine le_new (by simp [hid]) ?_))
  · repeat (first
      | (with_reducible first | apply AWp.seq | apply AWp.block | refine And.intro (by first | omega | assumption | decide) ?_)
      | ((first | (with_reducible first | apply AWp.fork | apply AWp.region)); simp -implicitDefEqProofs)
      | ((with_reducible first | apply AWp.ret | apply AWp.skip | apply AWp.exit); try simp -implicitDefEqProofs))
    have e : (decide (x = 0) && (decide (d = 0) && (r == false))) = plainT ⟨1, x, d, r⟩ := by
      unfold plainT
      by_cases h : d < 0 ∨ 3 < d ∨ x < 0
      · rw [if_pos h]
        by_cases h1 : x = 0 <;> by_cases h2 : d = 0 <;> first | (exfalso; omega) | simp [h1, h2]
      · rw [if_neg h]
        cases r <;> by_cases h1 : x = 0 <;> by_cases h2 : d = 0 <;> simp [h1, h2]
    simp [← e]
    all_goals (repeat (first | exact AS.le_refl _ | refine le_new (by simp [hid]) ?_))
  all_goals
    by_cases d3 : 0 ≤ x
    · by_cases d4 : x ≤ 31 <;> by_cases d5 : x ≤ 7 <;> by_cases d6 : x ≤ 0 <;> by_cases d1 : 0 ≤ d
      all_goals
        first
        | (exfalso; omega)
        | skip
        repeat (first
          | (with_reducible first | apply AWp.seq | apply AWp.block | refine And.intro (by first | omega | assumption | decide) ?_)
          | ((first | (with_reducible first | apply AWp.fork | apply AWp.region | show condK _ _ _ | show guardK _ _ _ _ _ _ _ _ _)); simp -implicitDefEqProofs [d1, d3, d4, d5, d6])
          | ((with_reducible first | apply AWp.ret | apply AWp.skip | apply AWp.exit); try simp -implicitDefEqProofs [d1, d3, d4, d5, d6]))
        try simp [plainT]
        try (refine And.intro (wk_bool (by rw [Bool.eq_iff_iff]; simp; omega)) ?_)
        all_goals (repeat (first | exact AS.le_refl _ | refine le_new (by simp [hid]) ?_))
    · repeat (first
        | (with_reducible first | apply AWp.seq | apply AWp.block | refine And.intro (by first | omega | assumption | decide) ?_)
        | ((first | (with_reducible first | apply AWp.fork | apply AWp.region | show condK _ _ _ | show guardK _ _ _ _ _ _ _ _ _)); simp -implicitDefEqProofs [d3])
        | ((with_reducible first | apply AWp.ret | apply AWp.skip | apply AWp.exit); try simp -implicitDefEqProofs [d3]))
      try simp [plainT]
      try (refine And.intro (wk_bool (by rw [Bool.eq_iff_iff]; simp; omega)) ?_)
      all_goals (repeat (first | exact AS.le_refl _ | refine le_new (by simp [hid]) ?_))

theorem Plain_ok (t : Ty) (σ : AS) : ACalls Try.prog 19 [tyV t] σ (Gives (.sc (.bool (plainT t))) σ) No := by
  refine ACalls.of_body Try.func19 rfl rfl (by simp [Try.ntmps19]) ?_
  have hk := fun σ => kplain_ok t σ
  cases hp : plainT t <;> obtain ⟨k, x, d, r⟩ := t <;> rw [hp] at hk <;> simp only [tyV] at hk ⊢
  all_goals
    repeat (first
      | (with_reducible first | apply AWp.seq | apply AWp.block | refine And.intro (by first | omega | assumption | decide) ?_)
      | ((first | (with_reducible first | apply AWp.fork | apply AWp.region)); simp -implicitDefEqProofs)
      | ((with_reducible first | apply AWp.ret | apply AWp.skip | apply AWp.exit); try simp -implicitDefEqProofs))
    intro id hid
    repeat (first
      | (with_reducible first | apply AWp.seq | apply AWp.block | refine And.intro (by first | omega | assumption | decide) ?_)
      | ((first | (with_reducible first | apply AWp.fork | apply AWp.region) | ((with_reducible apply aCall.id); first | apply aCall.gives (hk _))); simp -implicitDefEqProofs)
      | ((with_reducible first | apply AWp.ret | apply AWp.skip | apply AWp.exit); try simp -implicitDefEqProofs))
    all_goals (repeat (first | exact AS.le_refl _ | refine le_new (by simp [hid]) ?_))

def localT (t : Ty) : Bool := plainT t && !decide (t.kind = 1)
def fieldT' (t : Ty) : Bool := localT t && !t.ref
def answerT (t : Ty) : Bool := plainT t && !t.ref

theorem klocal_ok (t : Ty) (σ : AS) : ACalls Try.prog 70 [tyV t] σ (Gives (.sc (.bool (localT t))) σ) No := by
  refine ACalls.of_body Try.func70 rfl rfl (by simp [Try.ntmps70]) ?_
  have hk := fun σ => kplain_ok t σ
  cases hp : plainT t <;> obtain ⟨k, x, d, r⟩ := t <;> rw [hp] at hk <;> simp only [tyV] at hk ⊢
  all_goals
    repeat (first
      | (with_reducible first | apply AWp.seq | apply AWp.block | refine And.intro (by first | omega | assumption | decide) ?_)
      | ((first | (with_reducible first | apply AWp.fork | apply AWp.region)); simp -implicitDefEqProofs)
      | ((with_reducible first | apply AWp.ret | apply AWp.skip | apply AWp.exit); try simp -implicitDefEqProofs))
    intro id hid
    repeat (first
      | (with_reducible first | apply AWp.seq | apply AWp.block | refine And.intro (by first | omega | assumption | decide) ?_)
      | ((first | (with_reducible first | apply AWp.fork | apply AWp.region) | ((with_reducible apply aCall.id); first | apply aCall.gives (hk _))); simp -implicitDefEqProofs)
      | ((with_reducible first | apply AWp.ret | apply AWp.skip | apply AWp.exit); try simp -implicitDefEqProofs))
    try simp [localT, hp]
    all_goals (repeat (first | exact AS.le_refl _ | refine le_new (by simp [hid]) ?_))

theorem kfield_ok (t : Ty) (σ : AS) : ACalls Try.prog 55 [tyV t] σ (Gives (.sc (.bool (fieldT' t))) σ) No := by
  refine ACalls.of_body Try.func55 rfl rfl (by simp [Try.ntmps55]) ?_
  have hk := fun σ => klocal_ok t σ
  cases hp : localT t <;> obtain ⟨k, x, d, r⟩ := t <;> rw [hp] at hk <;> simp only [tyV] at hk ⊢
  all_goals
    repeat (first
      | (with_reducible first | apply AWp.seq | apply AWp.block | refine And.intro (by first | omega | assumption | decide) ?_)
      | ((first | (with_reducible first | apply AWp.fork | apply AWp.region)); simp -implicitDefEqProofs)
      | ((with_reducible first | apply AWp.ret | apply AWp.skip | apply AWp.exit); try simp -implicitDefEqProofs))
    intro id hid
    repeat (first
      | (with_reducible first | apply AWp.seq | apply AWp.block | refine And.intro (by first | omega | assumption | decide) ?_)
      | ((first | (with_reducible first | apply AWp.fork | apply AWp.region) | ((with_reducible apply aCall.id); first | apply aCall.gives (hk _))); simp -implicitDefEqProofs)
      | ((with_reducible first | apply AWp.ret | apply AWp.skip | apply AWp.exit); try simp -implicitDefEqProofs))
    try simp [fieldT', hp]
    all_goals (repeat (first | exact AS.le_refl _ | refine le_new (by simp [hid]) ?_))

theorem kanswer_ok (t : Ty) (σ : AS) : ACalls Try.prog 43 [tyV t] σ (Gives (.sc (.bool (answerT t))) σ) No := by
  refine ACalls.of_body Try.func43 rfl rfl (by simp [Try.ntmps43]) ?_
  have hk := fun σ => kplain_ok t σ
  cases hp : plainT t <;> obtain ⟨k, x, d, r⟩ := t <;> rw [hp] at hk <;> simp only [tyV] at hk ⊢
  all_goals
    repeat (first
      | (with_reducible first | apply AWp.seq | apply AWp.block | refine And.intro (by first | omega | assumption | decide) ?_)
      | ((first | (with_reducible first | apply AWp.fork | apply AWp.region)); simp -implicitDefEqProofs)
      | ((with_reducible first | apply AWp.ret | apply AWp.skip | apply AWp.exit); try simp -implicitDefEqProofs))
    intro id hid
    repeat (first
      | (with_reducible first | apply AWp.seq | apply AWp.block | refine And.intro (by first | omega | assumption | decide) ?_)
      | ((first | (with_reducible first | apply AWp.fork | apply AWp.region) | ((with_reducible apply aCall.id); first | apply aCall.gives (hk _))); simp -implicitDefEqProofs)
      | ((with_reducible first | apply AWp.ret | apply AWp.skip | apply AWp.exit); try simp -implicitDefEqProofs))
    try simp [answerT, hp]
    all_goals (repeat (first | exact AS.le_refl _ | refine le_new (by simp [hid]) ?_))

def whereT (t : Ty) (p : Int) : Bool := if p = 1 then fieldT' t else if p = 2 then localT t else if p = 3 then answerT t else plainT t

theorem rwhere_ok (t : Ty) (p : Int) (σ : AS) : ACalls Try.prog 25 [tyV t, .sc (.int .i64 p)] σ (Gives (.sc (.bool (whereT t p))) σ) No := by
  refine ACalls.of_body Try.func25 rfl rfl (by simp [Try.ntmps25]) ?_
  have hk := fun σ => rplain_ok t σ
  cases hp : plainT t <;> obtain ⟨k, x, d, r⟩ := t <;> rw [hp] at hk <;> simp only [tyV] at hk ⊢
  · repeat (first
      | (with_reducible first | apply AWp.seq | apply AWp.block | refine And.intro (by first | omega | assumption | decide) ?_)
      | ((first | (with_reducible first | apply AWp.fork | apply AWp.region)); simp -implicitDefEqProofs)
      | ((with_reducible first | apply AWp.ret | apply AWp.skip | apply AWp.exit); try simp -implicitDefEqProofs))
    intro id hid
    repeat (first
      | (with_reducible first | apply AWp.seq | apply AWp.block | refine And.intro (by first | omega | assumption | decide) ?_)
      | ((first | (with_reducible first | apply AWp.fork | apply AWp.region) | ((with_reducible apply aCall.id); first | apply aCall.gives (hk _))); simp -implicitDefEqProofs)
      | ((with_reducible first | apply AWp.ret | apply AWp.skip | apply AWp.exit); try simp -implicitDefEqProofs))
    have e : whereT ⟨k, x, d, r⟩ p = false := by unfold whereT fieldT' answerT localT; rw [hp]; simp
    simp [e]
    all_goals (repeat (first | exact AS.le_refl _ | refine le_new (by simp [hid]) ?_))
  · repeat (first
      | (with_reducible first | apply AWp.seq | apply AWp.block | refine And.intro (by first | omega | assumption | decide) ?_)
      | ((first | (with_reducible first | apply AWp.fork | apply AWp.region)); simp -implicitDefEqProofs)
      | ((with_reducible first | apply AWp.ret | apply AWp.skip | apply AWp.exit); try simp -implicitDefEqProofs))
    intro id hid
    by_cases p1 : p = 1
    · subst p1
      by_cases k1 : k = 1
      · subst k1
        repeat (first
          | (with_reducible first | apply AWp.seq | apply AWp.block | refine And.intro (by first | omega | assumption | decide) ?_)
          | ((first | (with_reducible first | apply AWp.fork | apply AWp.region) | ((with_reducible apply aCall.id); first | apply aCall.gives (hk _))); simp -implicitDefEqProofs)
          | ((with_reducible first | apply AWp.ret | apply AWp.skip | apply AWp.exit); try simp -implicitDefEqProofs))
        simp [whereT, fieldT', answerT, localT, hp]
        all_goals (repeat (first | exact AS.le_refl _ | refine le_new (by simp [hid]) ?_))
      · repeat (first
          | (with_reducible first | apply AWp.seq | apply AWp.block | refine And.intro (by first | omega | assumption | decide) ?_)
          | ((first | (with_reducible first | apply AWp.fork | apply AWp.region | show condK _ _ _ | show guardK _ _ _ _ _ _ _ _ _) | ((with_reducible apply aCall.id); first | apply aCall.gives (hk _))); simp -implicitDefEqProofs [k1])
          | ((with_reducible first | apply AWp.ret | apply AWp.skip | apply AWp.exit); try simp -implicitDefEqProofs [k1]))
        simp [whereT, fieldT', answerT, localT, hp, k1]
        all_goals (repeat (first | exact AS.le_refl _ | refine le_new (by simp [hid]) ?_))
    · by_cases p2 : p = 2
      · subst p2
        repeat (first
          | (with_reducible first | apply AWp.seq | apply AWp.block | refine And.intro (by first | omega | assumption | decide) ?_)
          | ((first | (with_reducible first | apply AWp.fork | apply AWp.region) | ((with_reducible apply aCall.id); first | apply aCall.gives (hk _))); simp -implicitDefEqProofs)
          | ((with_reducible first | apply AWp.ret | apply AWp.skip | apply AWp.exit); try simp -implicitDefEqProofs))
        simp [whereT, fieldT', answerT, localT, hp]
        all_goals (repeat (first | exact AS.le_refl _ | refine le_new (by simp [hid]) ?_))
      · by_cases p3 : p = 3
        · subst p3
          repeat (first
            | (with_reducible first | apply AWp.seq | apply AWp.block | refine And.intro (by first | omega | assumption | decide) ?_)
            | ((first | (with_reducible first | apply AWp.fork | apply AWp.region) | ((with_reducible apply aCall.id); first | apply aCall.gives (hk _))); simp -implicitDefEqProofs)
            | ((with_reducible first | apply AWp.ret | apply AWp.skip | apply AWp.exit); try simp -implicitDefEqProofs))
          simp [whereT, fieldT', answerT, localT, hp]
          all_goals (repeat (first | exact AS.le_refl _ | refine le_new (by simp [hid]) ?_))
        · repeat (first
            | (with_reducible first | apply AWp.seq | apply AWp.block | refine And.intro (by first | omega | assumption | decide) ?_)
            | ((first | (with_reducible first | apply AWp.fork | apply AWp.region | show condK _ _ _ | show guardK _ _ _ _ _ _ _ _ _) | ((with_reducible apply aCall.id); first | apply aCall.gives (hk _))); simp -implicitDefEqProofs [p1, p2, p3])
            | ((with_reducible first | apply AWp.ret | apply AWp.skip | apply AWp.exit); try simp -implicitDefEqProofs [p1, p2, p3]))
          simp [whereT, fieldT', answerT, localT, hp, p1, p2, p3]
          all_goals (repeat (first | exact AS.le_refl _ | refine le_new (by simp [hid]) ?_))

end Go.Proofs.Ytplphldpkliakaa
