/- The reference's products and shifts. -/
import Derived.Test.YthkcblpdgjnkdaaNum2
set_option linter.unusedSimpArgs false
set_option linter.unusedVariables false
set_option maxRecDepth 100000
set_option maxHeartbeats 3200000
namespace Go.Proofs.Ythkcblpdgjnkdaa
open Go Go.AW

/-- A product that is wrapped isn't divided back. -/
theorem quot_back (a b : Int) (ha : R64 a) (hb : R64 b) (h0 : b ≠ 0) (hm : ¬ (a = -1 ∧ b = -9223372036854775808)) (hm2 : ¬ (b = -1 ∧ a = -9223372036854775808)) :
    (IntKind.i64.wrap ((IntKind.i64.wrap (a * b)).tdiv b) = a) ↔ in64 (a * b) = true := by
  have ha' := ha
  have hb' := hb
  unfold R64 at ha' hb'
  constructor
  · intro h
    have hr := r64_i64 (a * b)
    unfold R64 at hr
    have hd := Int.tmod_add_mul_tdiv (IntKind.i64.wrap (a * b)) b
    have hlt : ((IntKind.i64.wrap (a * b)).tmod b).natAbs < b.natAbs := by
      rw [Int.natAbs_tmod]; exact Nat.mod_lt _ (by omega)
    have hq : (IntKind.i64.wrap (a * b)).tdiv b = a := by
      by_cases hb1 : b = -1
      · subst hb1
        rw [Int.tdiv_neg, Int.tdiv_one] at h ⊢
        by_cases hx : IntKind.i64.wrap (a * -1) = -9223372036854775808
        · rw [hx] at h
          have : IntKind.i64.wrap (-(-9223372036854775808)) = -9223372036854775808 := by decide
          rw [this] at h
          omega
        · rw [in_i64 (by omega) (by omega)] at h
          exact h
      · have hle : ((IntKind.i64.wrap (a * b)).tdiv b).natAbs ≤ (IntKind.i64.wrap (a * b)).natAbs := by
          rw [Int.natAbs_tdiv]; exact Nat.div_le_self _ _
        by_cases hx : (IntKind.i64.wrap (a * b)).tdiv b = 9223372036854775808
        · exfalso
          have h2 : 2 ≤ b.natAbs ∨ b = 1 := by omega
          rcases h2 with h2 | h2
          · have : ((IntKind.i64.wrap (a * b)).tdiv b).natAbs ≤ 9223372036854775808 / 2 := by
              rw [Int.natAbs_tdiv]
              exact Nat.le_trans (Nat.div_le_div_left h2 (by omega)) (Nat.div_le_div_right (by omega))
            omega
          · subst h2; rw [Int.tdiv_one] at hx; omega
        · rw [in_i64 (by omega) (by omega)] at h
          exact h
    rw [hq] at hd
    have he : IntKind.i64.wrap (a * b) = a * b := by
      rw [Int.mul_comm b a] at hd
      generalize a * b = p at *
      generalize (IntKind.i64.wrap p).tmod b = t at *
      rw [w_i64] at *
      omega
    unfold in64
    rw [he] at hr
    exact decide_eq_true hr
  · intro h
    simp [in64] at h
    have e1 : IntKind.i64.wrap (a * b) = a * b := in_i64 (by omega) (by omega)
    rw [e1, Int.mul_tdiv_cancel _ h0]
    exact in_i64 ha'.1 ha'.2

theorem rmul_ok (w : Bool) (a b : Int) (ha : R64 a) (hb : R64 b) (σ : AS) : ACalls Try.prog 29 [.sc (.bool w), .sc (.int .i64 a), .sc (.int .i64 b)] σ
    (Gives (ansV (chkX w (a * b), chkF w (a * b))) σ) No := by
  refine ACalls.of_body Try.func29 rfl rfl (by simp [Try.ntmps29]) ?_
  repeat (first
    | (with_reducible refine AWp.seq ?_)
    | (with_reducible refine AWp.block ?_)
    | (with_reducible refine And.intro (by first | omega | assumption | decide) ?_)
    | ((with_reducible refine AWp.region ?_); simp)
    | ((with_reducible refine AWp.ret ?_); try simp)
    | ((with_reducible refine AWp.skip ?_); try simp)
    | ((with_reducible refine AWp.exit ?_); try simp)
    | ((refine AWp.cond rfl (fun _ => ?_) (fun hcf => absurd hcf ?hcd)); (case hcd => (simp; done)))
    | ((refine AWp.cond rfl (fun hcf => absurd hcf ?hcd) (fun _ => ?_)); (case hcd => (simp; done))))
  intro id hid
  have z : ∀ w, okR w 0 = true := fun w => by cases w <;> simp [okR, in64]
  have u0 : IntKind.u64.wrap 0 = 0 := by decide
  by_cases h1 : a = 0
  · have e : a * b = 0 := by rw [h1, Int.zero_mul]
    repeat (first
      | (with_reducible refine AWp.seq ?_)
      | (with_reducible refine AWp.block ?_)
      | (with_reducible refine And.intro (by first | omega | assumption | decide) ?_)
      | ((with_reducible refine AWp.region ?_); simp [h1])
      | ((with_reducible refine AWp.ret ?_); try simp [h1])
      | ((with_reducible refine AWp.skip ?_); try simp [h1])
      | ((with_reducible refine AWp.exit ?_); try simp [h1])
      | ((refine AWp.cond rfl (fun _ => ?_) (fun hcf => absurd hcf ?hcd)); (case hcd => (simp [h1]; done)))
      | ((refine AWp.cond rfl (fun hcf => absurd hcf ?hcd) (fun _ => ?_)); (case hcd => (simp [h1]; done))))
    simp [ansV, chkX, chkF, z, u0]
    all_goals (repeat (first | exact AS.le_refl _ | refine le_new (by simp [hid]) ?_))
  · by_cases h2 : b = 0
    · have e : a * b = 0 := by rw [h2, Int.mul_zero]
      repeat (first
        | (with_reducible refine AWp.seq ?_)
        | (with_reducible refine AWp.block ?_)
        | (with_reducible refine And.intro (by first | omega | assumption | decide) ?_)
        | ((with_reducible refine AWp.region ?_); simp [h1, h2])
        | ((with_reducible refine AWp.ret ?_); try simp [h1, h2])
        | ((with_reducible refine AWp.skip ?_); try simp [h1, h2])
        | ((with_reducible refine AWp.exit ?_); try simp [h1, h2])
        | ((refine AWp.cond rfl (fun _ => ?_) (fun hcf => absurd hcf ?hcd)); (case hcd => (simp [h1, h2]; done)))
        | ((refine AWp.cond rfl (fun hcf => absurd hcf ?hcd) (fun _ => ?_)); (case hcd => (simp [h1, h2]; done))))
      simp [ansV, chkX, chkF, z, u0]
      all_goals (repeat (first | exact AS.le_refl _ | refine le_new (by simp [hid]) ?_))
    · have big : ((a = -1 ∧ b = -9223372036854775808) ∨ (b = -1 ∧ a = -9223372036854775808)) → okR w (a * b) = false := by
        rintro (⟨rfl, rfl⟩ | ⟨rfl, rfl⟩) <;> exact okR_in w _ (by simp [in64])
      by_cases h3 : a = -1 ∧ b = -9223372036854775808
      · have ho := big (.inl h3)
        obtain ⟨rfl, rfl⟩ := h3
        repeat (first
          | (with_reducible refine AWp.seq ?_)
          | (with_reducible refine AWp.block ?_)
          | (with_reducible refine And.intro (by first | omega | assumption | decide) ?_)
          | ((with_reducible refine AWp.region ?_); simp)
          | ((with_reducible refine AWp.ret ?_); try simp)
          | ((with_reducible refine AWp.skip ?_); try simp)
          | ((with_reducible refine AWp.exit ?_); try simp)
          | ((refine AWp.cond rfl (fun _ => ?_) (fun hcf => absurd hcf ?hcd)); (case hcd => (simp; done)))
          | ((refine AWp.cond rfl (fun hcf => absurd hcf ?hcd) (fun _ => ?_)); (case hcd => (simp; done))))
        simp at ho
        simp [ansV, chkX, chkF, ho]
        all_goals (repeat (first | exact AS.le_refl _ | refine le_new (by simp [hid]) ?_))
      · by_cases h4 : b = -1 ∧ a = -9223372036854775808
        · have ho := big (.inr h4)
          obtain ⟨rfl, rfl⟩ := h4
          repeat (first
            | (with_reducible refine AWp.seq ?_)
            | (with_reducible refine AWp.block ?_)
            | (with_reducible refine And.intro (by first | omega | assumption | decide) ?_)
            | ((with_reducible refine AWp.region ?_); simp)
            | ((with_reducible refine AWp.ret ?_); try simp)
            | ((with_reducible refine AWp.skip ?_); try simp)
            | ((with_reducible refine AWp.exit ?_); try simp)
            | ((refine AWp.cond rfl (fun _ => ?_) (fun hcf => absurd hcf ?hcd)); (case hcd => (simp; done)))
            | ((refine AWp.cond rfl (fun hcf => absurd hcf ?hcd) (fun _ => ?_)); (case hcd => (simp; done))))
          simp at ho
          simp [ansV, chkX, chkF, ho]
          all_goals (repeat (first | exact AS.le_refl _ | refine le_new (by simp [hid]) ?_))
        · have hq := quot_back a b ha hb h2 h3 h4
          cases hi : in64 (a * b) with
          | false =>
            have hne : ¬ IntKind.i64.wrap ((IntKind.i64.wrap (a * b)).tdiv b) = a := fun h => by rw [hq.1 h] at hi; cases hi
            have ho := okR_in w _ hi
            have qa : (a = -1) = True ∧ (b = -9223372036854775808) = False ∨ (a = -1) = False := by
              by_cases q : a = -1
              · exact .inl ⟨eq_true q, eq_false fun h => h3 ⟨q, h⟩⟩
              · exact .inr (eq_false q)
            have qb : (b = -1) = True ∧ (a = -9223372036854775808) = False ∨ (b = -1) = False := by
              by_cases q : b = -1
              · exact .inl ⟨eq_true q, eq_false fun h => h4 ⟨q, h⟩⟩
              · exact .inr (eq_false q)
            rcases qa with ⟨q1, q2⟩ | q1 <;> rcases qb with ⟨q3, q4⟩ | q3
            · repeat (first
                | (with_reducible refine AWp.seq ?_)
                | (with_reducible refine AWp.block ?_)
                | (with_reducible refine And.intro (by first | omega | assumption | decide) ?_)
                | ((with_reducible refine AWp.region ?_); simp [h1, h2, q1, q2, q3, q4, hne])
                | ((with_reducible refine AWp.ret ?_); try simp [h1, h2, q1, q2, q3, q4, hne])
                | ((with_reducible refine AWp.skip ?_); try simp [h1, h2, q1, q2, q3, q4, hne])
                | ((with_reducible refine AWp.exit ?_); try simp [h1, h2, q1, q2, q3, q4, hne])
                | ((refine AWp.cond rfl (fun _ => ?_) (fun hcf => absurd hcf ?hcd)); (case hcd => (simp [h1, h2, q1, q2, q3, q4, hne]; done)))
                | ((refine AWp.cond rfl (fun hcf => absurd hcf ?hcd) (fun _ => ?_)); (case hcd => (simp [h1, h2, q1, q2, q3, q4, hne]; done))))
              simp [ansV, chkX, chkF, ho]
              all_goals (repeat (first | exact AS.le_refl _ | refine le_new (by simp [hid]) ?_))
            · repeat (first
                | (with_reducible refine AWp.seq ?_)
                | (with_reducible refine AWp.block ?_)
                | (with_reducible refine And.intro (by first | omega | assumption | decide) ?_)
                | ((with_reducible refine AWp.region ?_); simp [h1, h2, q1, q2, q3, hne])
                | ((with_reducible refine AWp.ret ?_); try simp [h1, h2, q1, q2, q3, hne])
                | ((with_reducible refine AWp.skip ?_); try simp [h1, h2, q1, q2, q3, hne])
                | ((with_reducible refine AWp.exit ?_); try simp [h1, h2, q1, q2, q3, hne])
                | ((refine AWp.cond rfl (fun _ => ?_) (fun hcf => absurd hcf ?hcd)); (case hcd => (simp [h1, h2, q1, q2, q3, hne]; done)))
                | ((refine AWp.cond rfl (fun hcf => absurd hcf ?hcd) (fun _ => ?_)); (case hcd => (simp [h1, h2, q1, q2, q3, hne]; done))))
              simp [ansV, chkX, chkF, ho]
              all_goals (repeat (first | exact AS.le_refl _ | refine le_new (by simp [hid]) ?_))
            · repeat (first
                | (with_reducible refine AWp.seq ?_)
                | (with_reducible refine AWp.block ?_)
                | (with_reducible refine And.intro (by first | omega | assumption | decide) ?_)
                | ((with_reducible refine AWp.region ?_); simp [h1, h2, q1, q3, q4, hne])
                | ((with_reducible refine AWp.ret ?_); try simp [h1, h2, q1, q3, q4, hne])
                | ((with_reducible refine AWp.skip ?_); try simp [h1, h2, q1, q3, q4, hne])
                | ((with_reducible refine AWp.exit ?_); try simp [h1, h2, q1, q3, q4, hne])
                | ((refine AWp.cond rfl (fun _ => ?_) (fun hcf => absurd hcf ?hcd)); (case hcd => (simp [h1, h2, q1, q3, q4, hne]; done)))
                | ((refine AWp.cond rfl (fun hcf => absurd hcf ?hcd) (fun _ => ?_)); (case hcd => (simp [h1, h2, q1, q3, q4, hne]; done))))
              simp [ansV, chkX, chkF, ho]
              all_goals (repeat (first | exact AS.le_refl _ | refine le_new (by simp [hid]) ?_))
            · repeat (first
                | (with_reducible refine AWp.seq ?_)
                | (with_reducible refine AWp.block ?_)
                | (with_reducible refine And.intro (by first | omega | assumption | decide) ?_)
                | ((with_reducible refine AWp.region ?_); simp [h1, h2, q1, q3, hne])
                | ((with_reducible refine AWp.ret ?_); try simp [h1, h2, q1, q3, hne])
                | ((with_reducible refine AWp.skip ?_); try simp [h1, h2, q1, q3, hne])
                | ((with_reducible refine AWp.exit ?_); try simp [h1, h2, q1, q3, hne])
                | ((refine AWp.cond rfl (fun _ => ?_) (fun hcf => absurd hcf ?hcd)); (case hcd => (simp [h1, h2, q1, q3, hne]; done)))
                | ((refine AWp.cond rfl (fun hcf => absurd hcf ?hcd) (fun _ => ?_)); (case hcd => (simp [h1, h2, q1, q3, hne]; done))))
              simp [ansV, chkX, chkF, ho]
              all_goals (repeat (first | exact AS.le_refl _ | refine le_new (by simp [hid]) ?_))
          | true =>
            have heq := hq.2 hi
            have hr := okR_pl w _ hi
            have e0 : IntKind.i64.wrap (a * b) = a * b := by simp [in64] at hi; exact in_i64 (by omega) (by omega)
            rw [e0] at heq
            have ea : IntKind.i64.wrap a = a := in_i64 ha.1 ha.2
            have hpp : (pl w (a * b) = a * b ∧ okR w (a * b) = true) ∨ (¬ pl w (a * b) = a * b ∧ okR w (a * b) = false) := by
              by_cases hp : pl w (a * b) = a * b
              · exact .inl ⟨hp, hr.1 hp⟩
              · exact .inr ⟨hp, by cases h : okR w (a * b) with | false => rfl | true => exact absurd (hr.2 h) hp⟩
            have qa : (a = -1) = True ∧ (b = -9223372036854775808) = False ∨ (a = -1) = False := by
              by_cases q : a = -1
              · exact .inl ⟨eq_true q, eq_false fun h => h3 ⟨q, h⟩⟩
              · exact .inr (eq_false q)
            have qb : (b = -1) = True ∧ (a = -9223372036854775808) = False ∨ (b = -1) = False := by
              by_cases q : b = -1
              · exact .inl ⟨eq_true q, eq_false fun h => h4 ⟨q, h⟩⟩
              · exact .inr (eq_false q)
            rcases hpp with ⟨hp, ho⟩ | ⟨hp, ho⟩
            all_goals
              rcases qa with ⟨q1, q2⟩ | q1 <;> rcases qb with ⟨q3, q4⟩ | q3
              · repeat (first
                  | (with_reducible refine AWp.seq ?_)
                  | (with_reducible refine AWp.block ?_)
                  | (with_reducible refine And.intro (by first | omega | assumption | decide) ?_)
                  | ((with_reducible refine AWp.region ?_); simp [h1, h2, q1, q2, q3, q4, e0, heq, ea, hp, Try.underlying2, Try.underlying22])
                  | ((refine aCall.gives (rnumber_ok _ _ _) ?_); simp [h1, h2, q1, q2, q3, q4, e0, heq, ea, hp, Try.underlying2, Try.underlying22])
                  | ((with_reducible refine AWp.ret ?_); try simp [h1, h2, q1, q2, q3, q4, e0, heq, ea, hp, Try.underlying2, Try.underlying22])
                  | ((with_reducible refine AWp.skip ?_); try simp [h1, h2, q1, q2, q3, q4, e0, heq, ea, hp, Try.underlying2, Try.underlying22])
                  | ((with_reducible refine AWp.exit ?_); try simp [h1, h2, q1, q2, q3, q4, e0, heq, ea, hp, Try.underlying2, Try.underlying22])
                  | ((refine AWp.cond rfl (fun _ => ?_) (fun hcf => absurd hcf ?hcd)); (case hcd => (simp [h1, h2, q1, q2, q3, q4, e0, heq, ea, hp, Try.underlying2, Try.underlying22]; done)))
                  | ((refine AWp.cond rfl (fun hcf => absurd hcf ?hcd) (fun _ => ?_)); (case hcd => (simp [h1, h2, q1, q2, q3, q4, e0, heq, ea, hp, Try.underlying2, Try.underlying22]; done))))
                simp [ansV, chkX, chkF, ho]
                all_goals (repeat (first | exact AS.le_refl _ | refine le_new (by simp [hid]) ?_))
              · repeat (first
                  | (with_reducible refine AWp.seq ?_)
                  | (with_reducible refine AWp.block ?_)
                  | (with_reducible refine And.intro (by first | omega | assumption | decide) ?_)
                  | ((with_reducible refine AWp.region ?_); simp [h1, h2, q1, q2, q3, e0, heq, ea, hp, Try.underlying2, Try.underlying22])
                  | ((refine aCall.gives (rnumber_ok _ _ _) ?_); simp [h1, h2, q1, q2, q3, e0, heq, ea, hp, Try.underlying2, Try.underlying22])
                  | ((with_reducible refine AWp.ret ?_); try simp [h1, h2, q1, q2, q3, e0, heq, ea, hp, Try.underlying2, Try.underlying22])
                  | ((with_reducible refine AWp.skip ?_); try simp [h1, h2, q1, q2, q3, e0, heq, ea, hp, Try.underlying2, Try.underlying22])
                  | ((with_reducible refine AWp.exit ?_); try simp [h1, h2, q1, q2, q3, e0, heq, ea, hp, Try.underlying2, Try.underlying22])
                  | ((refine AWp.cond rfl (fun _ => ?_) (fun hcf => absurd hcf ?hcd)); (case hcd => (simp [h1, h2, q1, q2, q3, e0, heq, ea, hp, Try.underlying2, Try.underlying22]; done)))
                  | ((refine AWp.cond rfl (fun hcf => absurd hcf ?hcd) (fun _ => ?_)); (case hcd => (simp [h1, h2, q1, q2, q3, e0, heq, ea, hp, Try.underlying2, Try.underlying22]; done))))
                simp [ansV, chkX, chkF, ho]
                all_goals (repeat (first | exact AS.le_refl _ | refine le_new (by simp [hid]) ?_))
              · repeat (first
                  | (with_reducible refine AWp.seq ?_)
                  | (with_reducible refine AWp.block ?_)
                  | (with_reducible refine And.intro (by first | omega | assumption | decide) ?_)
                  | ((with_reducible refine AWp.region ?_); simp [h1, h2, q1, q3, q4, e0, heq, ea, hp, Try.underlying2, Try.underlying22])
                  | ((refine aCall.gives (rnumber_ok _ _ _) ?_); simp [h1, h2, q1, q3, q4, e0, heq, ea, hp, Try.underlying2, Try.underlying22])
                  | ((with_reducible refine AWp.ret ?_); try simp [h1, h2, q1, q3, q4, e0, heq, ea, hp, Try.underlying2, Try.underlying22])
                  | ((with_reducible refine AWp.skip ?_); try simp [h1, h2, q1, q3, q4, e0, heq, ea, hp, Try.underlying2, Try.underlying22])
                  | ((with_reducible refine AWp.exit ?_); try simp [h1, h2, q1, q3, q4, e0, heq, ea, hp, Try.underlying2, Try.underlying22])
                  | ((refine AWp.cond rfl (fun _ => ?_) (fun hcf => absurd hcf ?hcd)); (case hcd => (simp [h1, h2, q1, q3, q4, e0, heq, ea, hp, Try.underlying2, Try.underlying22]; done)))
                  | ((refine AWp.cond rfl (fun hcf => absurd hcf ?hcd) (fun _ => ?_)); (case hcd => (simp [h1, h2, q1, q3, q4, e0, heq, ea, hp, Try.underlying2, Try.underlying22]; done))))
                simp [ansV, chkX, chkF, ho]
                all_goals (repeat (first | exact AS.le_refl _ | refine le_new (by simp [hid]) ?_))
              · repeat (first
                  | (with_reducible refine AWp.seq ?_)
                  | (with_reducible refine AWp.block ?_)
                  | (with_reducible refine And.intro (by first | omega | assumption | decide) ?_)
                  | ((with_reducible refine AWp.region ?_); simp [h1, h2, q1, q3, e0, heq, ea, hp, Try.underlying2, Try.underlying22])
                  | ((refine aCall.gives (rnumber_ok _ _ _) ?_); simp [h1, h2, q1, q3, e0, heq, ea, hp, Try.underlying2, Try.underlying22])
                  | ((with_reducible refine AWp.ret ?_); try simp [h1, h2, q1, q3, e0, heq, ea, hp, Try.underlying2, Try.underlying22])
                  | ((with_reducible refine AWp.skip ?_); try simp [h1, h2, q1, q3, e0, heq, ea, hp, Try.underlying2, Try.underlying22])
                  | ((with_reducible refine AWp.exit ?_); try simp [h1, h2, q1, q3, e0, heq, ea, hp, Try.underlying2, Try.underlying22])
                  | ((refine AWp.cond rfl (fun _ => ?_) (fun hcf => absurd hcf ?hcd)); (case hcd => (simp [h1, h2, q1, q3, e0, heq, ea, hp, Try.underlying2, Try.underlying22]; done)))
                  | ((refine AWp.cond rfl (fun hcf => absurd hcf ?hcd) (fun _ => ?_)); (case hcd => (simp [h1, h2, q1, q3, e0, heq, ea, hp, Try.underlying2, Try.underlying22]; done))))
                simp [ansV, chkX, chkF, ho]
                all_goals (repeat (first | exact AS.le_refl _ | refine le_new (by simp [hid]) ?_))

theorem tdiv2 (x : Int) : x.tdiv 2 = if x < 0 then -((-x) / 2) else x / 2 := by
  by_cases h : x < 0
  · rw [if_pos h]
    have : x = -(-x) := by omega
    rw [this, Int.neg_tdiv, Int.tdiv_eq_ediv_of_nonneg (by omega)]
    simp
  · rw [if_neg h, Int.tdiv_eq_ediv_of_nonneg (by omega)]
theorem tmod2 (x : Int) : x.tmod 2 = if x < 0 then -((-x) % 2) else x % 2 := by
  by_cases h : x < 0
  · rw [if_pos h]
    have : x = -(-x) := by omega
    rw [this, Int.neg_tmod, Int.tmod_eq_emod_of_nonneg (by omega)]
    simp
  · rw [if_neg h, Int.tmod_eq_emod_of_nonneg (by omega)]

theorem pl_step (w : Bool) (A : Int) : pl w (IntKind.u64.wrap (IntKind.u64.wrap (pl w A) * 2)) = pl w (A * 2) := by
  cases w
  · simp only [pl_f]; rw [w_i32, w_i32, w_i32, w_u64, w_u64]; omega
  · simp only [pl_t]; rw [w_i64, w_i64, w_i64, w_u64, w_u64]; omega

def shV (w : Bool) (a : Int) (right : Bool) (i : Nat) : Int := if right then a / 2 ^ i else pl w (a * 2 ^ i)

def shI (w : Bool) (a : Int) (n : Nat) (right : Bool) (σ : AS) (m : Nat) (s : Fr) (σ' : AS) : Prop :=
  ∃ i : Nat, m = n - i ∧ i ≤ n ∧ σ' = σ ∧ s = mkF [(0, .sc (.bool w)), (1, .sc (.int .i64 (shV w a right i))), (2, .sc (.int .i64 n)), (3, .sc (.bool right)), (9, .sc (.int .i64 i))]

theorem shift_ok (w : Bool) (a : Int) (n : Nat) (right : Bool) (ha : R64 a) (hw : pl w a = a) (hn : n < 64) (σ : AS) :
    ACalls Try.prog 30 [.sc (.bool w), .sc (.int .i64 a), .sc (.int .i64 n), .sc (.bool right)] σ (Gives (.sc (.int .u64 (IntKind.u64.wrap (shV w a right n)))) σ) No := by
  refine ACalls.of_body Try.func30 rfl rfl (by simp [Try.ntmps30]) ?_
  repeat (first
    | (with_reducible refine AWp.seq ?_)
    | (with_reducible refine AWp.block ?_)
    | (with_reducible refine And.intro (by first | omega | assumption | decide) ?_)
    | ((with_reducible refine AWp.region ?_); simp)
    | ((with_reducible refine AWp.ret ?_); try simp)
    | ((with_reducible refine AWp.skip ?_); try simp)
    | ((with_reducible refine AWp.exit ?_); try simp)
    | ((refine AWp.cond rfl (fun _ => ?_) (fun hcf => absurd hcf ?hcd)); (case hcd => (simp; done)))
    | ((refine AWp.cond rfl (fun hcf => absurd hcf ?hcd) (fun _ => ?_)); (case hcd => (simp; done))))
  refine AWp.loopI (shI w a n right σ) (k0 := n) ⟨0, by omega, by omega, rfl, rfl⟩ (FrWk.mk (by cases right <;> simp [shV, hw])) (AS.le_refl _) ?_
  rintro m s σ' ⟨i, hm, hi, rfl, rfl⟩
  by_cases hlt : i < n
  · have w8 : IntKind.i64.wrap ((i : Int) + 1) = ((i + 1 : Nat) : Int) := by rw [in_i64 (by omega) (by omega)]; simp
    cases right with
    | false =>
      have hs : pl w (IntKind.u64.wrap (IntKind.u64.wrap (pl w (a * 2 ^ i)) * 2)) = pl w (a * 2 ^ (i + 1)) := by rw [pl_step, Int.pow_succ, Int.mul_assoc]
      simp only [pl_u] at hs
      repeat (first
        | (with_reducible refine AWp.seq ?_)
        | (with_reducible refine AWp.block ?_)
        | (with_reducible refine And.intro (by first | omega | assumption | decide) ?_)
        | ((with_reducible refine AWp.region ?_); simp [hlt, shV, hs, Try.underlying2, Try.underlying22])
        | ((refine aCall.gives (rnumber_ok _ _ _) ?_); simp [hlt, shV, hs, Try.underlying2, Try.underlying22])
        | ((with_reducible refine AWp.ret ?_); try simp [hlt, shV, hs, Try.underlying2, Try.underlying22])
        | ((with_reducible refine AWp.skip ?_); try simp [hlt, shV, hs, Try.underlying2, Try.underlying22])
        | ((with_reducible refine AWp.exit ?_); try simp [hlt, shV, hs, Try.underlying2, Try.underlying22])
        | ((refine AWp.cond rfl (fun _ => ?_) (fun hcf => absurd hcf ?hcd)); (case hcd => (simp [hlt, shV, hs, Try.underlying2, Try.underlying22]; done)))
        | ((refine AWp.cond rfl (fun hcf => absurd hcf ?hcd) (fun _ => ?_)); (case hcd => (simp [hlt, shV, hs, Try.underlying2, Try.underlying22]; done))))
      refine ⟨m - 1, _, _, by omega, FrWk.mk ?_, AS.le_refl _, i + 1, by omega, by omega, rfl, rfl⟩
      simp [w8, shV, hs]
    | true =>
      have hb : R64 (a / 2 ^ i) := by
        have hp : (0 : Int) < 2 ^ i := Int.pow_pos (by omega)
        unfold R64 at ha ⊢
        have h1 : a / 2 ^ i ≤ 9223372036854775807 := by
          have := Int.ediv_le_ediv hp (show a ≤ 9223372036854775807 by omega)
          have h2 : (9223372036854775807 : Int) / 2 ^ i ≤ 9223372036854775807 := Int.ediv_le_self _ (by omega)
          omega
        have h3 : -9223372036854775808 ≤ a / 2 ^ i := by
          rw [Int.le_ediv_iff_mul_le hp]
          have : (-9223372036854775808 : Int) * 2 ^ i ≤ -9223372036854775808 * 1 := Int.mul_le_mul_of_nonpos_left (by omega) (by omega)
          omega
        omega
      have hnx : a / 2 ^ (i + 1) = a / 2 ^ i / 2 := by rw [Int.pow_succ, Int.ediv_ediv_of_nonneg (Int.le_of_lt (Int.pow_pos (by omega)))]
      unfold R64 at hb
      obtain ⟨v, hv⟩ : ∃ v, v = a / 2 ^ i := ⟨_, rfl⟩
      rw [← hv] at hb hnx
      have t1 := tmod2 v
      have t2 := tdiv2 v
      have t3 := tdiv2 (v - 1)
      by_cases hc : v % 2 = 0
      · have c1 : v.tmod 2 = 0 := by rw [t1]; split <;> omega
        have c2 : IntKind.i64.wrap (v.tdiv 2) = v / 2 := by rw [t2]; split <;> rw [in_i64 (by omega) (by omega)]; omega
        repeat (first
          | (with_reducible refine AWp.seq ?_)
          | (with_reducible refine AWp.block ?_)
          | (with_reducible refine And.intro (by first | omega | assumption | decide) ?_)
          | ((with_reducible refine AWp.region ?_); simp [hlt, shV, ← hv, c1, c2])
          | ((with_reducible refine AWp.ret ?_); try simp [hlt, shV, ← hv, c1, c2])
          | ((with_reducible refine AWp.skip ?_); try simp [hlt, shV, ← hv, c1, c2])
          | ((with_reducible refine AWp.exit ?_); try simp [hlt, shV, ← hv, c1, c2])
          | ((refine AWp.cond rfl (fun _ => ?_) (fun hcf => absurd hcf ?hcd)); (case hcd => (simp [hlt, shV, ← hv, c1, c2]; done)))
          | ((refine AWp.cond rfl (fun hcf => absurd hcf ?hcd) (fun _ => ?_)); (case hcd => (simp [hlt, shV, ← hv, c1, c2]; done))))
        refine ⟨m - 1, _, _, by omega, FrWk.mk ?_, AS.le_refl _, i + 1, by omega, by omega, rfl, rfl⟩
        simp [w8, shV, c2, hnx]
      · by_cases hneg : v < 0
        · have c1 : ¬ v.tmod 2 = 0 := by rw [t1]; split <;> omega
          have c2 : IntKind.i64.wrap ((IntKind.i64.wrap (v - 1)).tdiv 2) = v / 2 := by
            rw [in_i64 (n := v - 1) (by omega) (by omega), t3, if_pos (by omega), in_i64 (by omega) (by omega)]; omega
          repeat (first
            | (with_reducible refine AWp.seq ?_)
            | (with_reducible refine AWp.block ?_)
            | (with_reducible refine And.intro (by first | omega | assumption | decide) ?_)
            | ((with_reducible refine AWp.region ?_); simp [hlt, shV, ← hv, c1, hneg])
            | ((with_reducible refine AWp.ret ?_); try simp [hlt, shV, ← hv, c1, hneg])
            | ((with_reducible refine AWp.skip ?_); try simp [hlt, shV, ← hv, c1, hneg])
            | ((with_reducible refine AWp.exit ?_); try simp [hlt, shV, ← hv, c1, hneg])
            | ((refine AWp.cond rfl (fun _ => ?_) (fun hcf => absurd hcf ?hcd)); (case hcd => (simp [hlt, shV, ← hv, c1, hneg]; done)))
            | ((refine AWp.cond rfl (fun hcf => absurd hcf ?hcd) (fun _ => ?_)); (case hcd => (simp [hlt, shV, ← hv, c1, hneg]; done))))
          refine ⟨m - 1, _, _, by omega, FrWk.mk ?_, AS.le_refl _, i + 1, by omega, by omega, rfl, rfl⟩
          simp [w8, shV, c2, hnx]
        · have c1 : ¬ v.tmod 2 = 0 := by rw [t1]; split <;> omega
          have c2 : IntKind.i64.wrap (v.tdiv 2) = v / 2 := by rw [t2, if_neg hneg, in_i64 (by omega) (by omega)]
          repeat (first
            | (with_reducible refine AWp.seq ?_)
            | (with_reducible refine AWp.block ?_)
            | (with_reducible refine And.intro (by first | omega | assumption | decide) ?_)
            | ((with_reducible refine AWp.region ?_); simp [hlt, shV, ← hv, c1, hneg])
            | ((with_reducible refine AWp.ret ?_); try simp [hlt, shV, ← hv, c1, hneg])
            | ((with_reducible refine AWp.skip ?_); try simp [hlt, shV, ← hv, c1, hneg])
            | ((with_reducible refine AWp.exit ?_); try simp [hlt, shV, ← hv, c1, hneg])
            | ((refine AWp.cond rfl (fun _ => ?_) (fun hcf => absurd hcf ?hcd)); (case hcd => (simp [hlt, shV, ← hv, c1, hneg]; done)))
            | ((refine AWp.cond rfl (fun hcf => absurd hcf ?hcd) (fun _ => ?_)); (case hcd => (simp [hlt, shV, ← hv, c1, hneg]; done))))
          refine ⟨m - 1, _, _, by omega, FrWk.mk ?_, AS.le_refl _, i + 1, by omega, by omega, rfl, rfl⟩
          simp [w8, shV, c2, hnx]
  · have : i = n := by omega
    subst this
    repeat (first
      | (with_reducible refine AWp.seq ?_)
      | (with_reducible refine AWp.block ?_)
      | (with_reducible refine And.intro (by first | omega | assumption | decide) ?_)
      | ((with_reducible refine AWp.region ?_); simp [hlt, Try.underlying2, Try.underlying22])
      | ((with_reducible refine AWp.ret ?_); try simp [hlt, Try.underlying2, Try.underlying22])
      | ((with_reducible refine AWp.skip ?_); try simp [hlt, Try.underlying2, Try.underlying22])
      | ((with_reducible refine AWp.exit ?_); try simp [hlt, Try.underlying2, Try.underlying22])
      | ((refine AWp.cond rfl (fun _ => ?_) (fun hcf => absurd hcf ?hcd)); (case hcd => (simp [hlt, Try.underlying2, Try.underlying22]; done)))
      | ((refine AWp.cond rfl (fun hcf => absurd hcf ?hcd) (fun _ => ?_)); (case hcd => (simp [hlt, Try.underlying2, Try.underlying22]; done))))

end Go.Proofs.Ythkcblpdgjnkdaa
