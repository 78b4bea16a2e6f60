/- Chapter 03: the document's small functions. -/
import Derived.Test.YthpmabablfkekaaStr2
set_option linter.unusedSimpArgs false
set_option linter.unusedVariables false
set_option maxRecDepth 100000
set_option maxHeartbeats 3200000
namespace Go.Proofs.Ythpmabablfkekaa
open Go Go.AW
abbrev sc_12_4_XStr3 : Sch := (Sch.step 1 (Sch.step 4 (Sch.read 0 (Sch.pure 2 (Sch.read 3 (Sch.pure 5 (Sch.pure 6 (Sch.step 7 Sch.done))))))))

theorem rtag_ok (k : Nat) (hk : k < 4) (σ : AS) : ACalls Try.prog 27 [.sc (.int .i64 k)] σ (Gives (.sc (.string ⟨(tg k).toArray⟩)) σ) No := by
  match k, hk with
  | 0, _ =>
    refine ACalls.of_body Try.func27 rfl rfl (by simp [Try.ntmps27]) ?_
    repeat (first
      | (with_reducible first | apply AWp.seq | apply AWp.block | refine And.intro (by first | omega | assumption | decide) ?_)
      | ((first | (with_reducible first | apply AWp.fork | apply AWp.region)); simp -implicitDefEqProofs)
      | ((with_reducible first | apply AWp.ret | apply AWp.skip | apply AWp.exit); try simp -implicitDefEqProofs))
    simp [tg]
  | 1, _ =>
    refine ACalls.of_body Try.func27 rfl rfl (by simp [Try.ntmps27]) ?_
    repeat (first
      | (with_reducible first | apply AWp.seq | apply AWp.block | refine And.intro (by first | omega | assumption | decide) ?_)
      | ((first | (with_reducible first | apply AWp.fork | apply AWp.region)); simp -implicitDefEqProofs)
      | ((with_reducible first | apply AWp.ret | apply AWp.skip | apply AWp.exit); try simp -implicitDefEqProofs))
    simp [tg]
  | 2, _ =>
    refine ACalls.of_body Try.func27 rfl rfl (by simp [Try.ntmps27]) ?_
    repeat (first
      | (with_reducible first | apply AWp.seq | apply AWp.block | refine And.intro (by first | omega | assumption | decide) ?_)
      | ((first | (with_reducible first | apply AWp.fork | apply AWp.region)); simp -implicitDefEqProofs)
      | ((with_reducible first | apply AWp.ret | apply AWp.skip | apply AWp.exit); try simp -implicitDefEqProofs))
    simp [tg]
  | 3, _ =>
    refine ACalls.of_body Try.func27 rfl rfl (by simp [Try.ntmps27]) ?_
    repeat (first
      | (with_reducible first | apply AWp.seq | apply AWp.block | refine And.intro (by first | omega | assumption | decide) ?_)
      | ((first | (with_reducible first | apply AWp.fork | apply AWp.region)); simp -implicitDefEqProofs)
      | ((with_reducible first | apply AWp.ret | apply AWp.skip | apply AWp.exit); try simp -implicitDefEqProofs))
    simp [tg]

/-- A slice of bytes, owned so. -/
def sO (x : List UInt8 × Bool) (o : Own) : AV := .lst 5 (x.1.map u8) o x.2
/-- Streams, owned so. -/
def stO (a0 a1 a2 a3 : List UInt8 × Bool) (o0 o1 o2 o3 : Own) : AV := .agg [sO a0 o0, sO a1 o1, sO a2 o2, sO a3 o3]
def nth4 {α : Type} (a0 a1 a2 a3 : α) : Nat → α
  | 0 => a0
  | 1 => a1
  | 2 => a2
  | _ => a3

theorem rpart_ok (a0 a1 a2 a3 : List UInt8 × Bool) (o0 o1 o2 o3 : Own) (k : Nat) (hk : k < 4) (σ : AS) :
    ACalls Try.prog 29 [stO a0 a1 a2 a3 o0 o1 o2 o3, .sc (.int .i64 k)] σ (Gives (sO (nth4 a0 a1 a2 a3 k) (nth4 o0 o1 o2 o3 k)) σ) No := by
  match k, hk with
  | 0, _ =>
    refine ACalls.of_body Try.func29 rfl rfl (by simp [Try.ntmps29]) ?_
    simp only [stO, sO, nth4]
    repeat (first
      | (with_reducible first | apply AWp.seq | apply AWp.block | refine And.intro (by first | omega | assumption | decide) ?_)
      | ((first | (with_reducible first | apply AWp.fork | apply AWp.region)); simp -implicitDefEqProofs)
      | ((with_reducible first | apply AWp.ret | apply AWp.skip | apply AWp.exit); try simp -implicitDefEqProofs))
    intro id h_id
    repeat (first
      | (with_reducible first | apply AWp.seq | apply AWp.block | refine And.intro (by first | omega | assumption | decide) ?_)
      | ((first | (with_reducible first | apply AWp.fork | apply AWp.region)); simp -implicitDefEqProofs)
      | ((with_reducible first | apply AWp.ret | apply AWp.skip | apply AWp.exit); try simp -implicitDefEqProofs))
    all_goals (repeat (first | exact AS.le_refl _ | refine le_new (by simp [h_id]) ?_))
  | 1, _ =>
    refine ACalls.of_body Try.func29 rfl rfl (by simp [Try.ntmps29]) ?_
    simp only [stO, sO, nth4]
    repeat (first
      | (with_reducible first | apply AWp.seq | apply AWp.block | refine And.intro (by first | omega | assumption | decide) ?_)
      | ((first | (with_reducible first | apply AWp.fork | apply AWp.region)); simp -implicitDefEqProofs)
      | ((with_reducible first | apply AWp.ret | apply AWp.skip | apply AWp.exit); try simp -implicitDefEqProofs))
    intro id h_id
    repeat (first
      | (with_reducible first | apply AWp.seq | apply AWp.block | refine And.intro (by first | omega | assumption | decide) ?_)
      | ((first | (with_reducible first | apply AWp.fork | apply AWp.region)); simp -implicitDefEqProofs)
      | ((with_reducible first | apply AWp.ret | apply AWp.skip | apply AWp.exit); try simp -implicitDefEqProofs))
    all_goals (repeat (first | exact AS.le_refl _ | refine le_new (by simp [h_id]) ?_))
  | 2, _ =>
    refine ACalls.of_body Try.func29 rfl rfl (by simp [Try.ntmps29]) ?_
    simp only [stO, sO, nth4]
    repeat (first
      | (with_reducible first | apply AWp.seq | apply AWp.block | refine And.intro (by first | omega | assumption | decide) ?_)
      | ((first | (with_reducible first | apply AWp.fork | apply AWp.region)); simp -implicitDefEqProofs)
      | ((with_reducible first | apply AWp.ret | apply AWp.skip | apply AWp.exit); try simp -implicitDefEqProofs))
    intro id h_id
    repeat (first
      | (with_reducible first | apply AWp.seq | apply AWp.block | refine And.intro (by first | omega | assumption | decide) ?_)
      | ((first | (with_reducible first | apply AWp.fork | apply AWp.region)); simp -implicitDefEqProofs)
      | ((with_reducible first | apply AWp.ret | apply AWp.skip | apply AWp.exit); try simp -implicitDefEqProofs))
    all_goals (repeat (first | exact AS.le_refl _ | refine le_new (by simp [h_id]) ?_))
  | 3, _ =>
    refine ACalls.of_body Try.func29 rfl rfl (by simp [Try.ntmps29]) ?_
    simp only [stO, sO, nth4]
    repeat (first
      | (with_reducible first | apply AWp.seq | apply AWp.block | refine And.intro (by first | omega | assumption | decide) ?_)
      | ((first | (with_reducible first | apply AWp.fork | apply AWp.region)); simp -implicitDefEqProofs)
      | ((with_reducible first | apply AWp.ret | apply AWp.skip | apply AWp.exit); try simp -implicitDefEqProofs))
    intro id h_id
    repeat (first
      | (with_reducible first | apply AWp.seq | apply AWp.block | refine And.intro (by first | omega | assumption | decide) ?_)
      | ((first | (with_reducible first | apply AWp.fork | apply AWp.region)); simp -implicitDefEqProofs)
      | ((with_reducible first | apply AWp.ret | apply AWp.skip | apply AWp.exit); try simp -implicitDefEqProofs))
    all_goals (repeat (first | exact AS.le_refl _ | refine le_new (by simp [h_id]) ?_))

theorem rset_ok (a0 a1 a2 a3 z : List UInt8 × Bool) (oz : Own) (k : Nat) (hk : k < 4) (σ : AS) :
    ACalls Try.prog 28 [.agg [sV a0, sV a1, sV a2, sV a3], .sc (.int .i64 k), sO z oz] σ (Gives (strV ([a0, a1, a2, a3].set k z)) σ) No := by
  match k, hk with
  | 0, _ =>
    refine ACalls.of_body Try.func28 rfl rfl (by simp [Try.ntmps28]) ?_
    simp only [sV, sO]
    repeat (first
      | (with_reducible first | apply AWp.seq | apply AWp.block | refine And.intro (by first | omega | assumption | decide) ?_)
      | ((first | (with_reducible first | apply AWp.fork | apply AWp.region)); simp -implicitDefEqProofs)
      | ((with_reducible first | apply AWp.ret | apply AWp.skip | apply AWp.exit); try simp -implicitDefEqProofs))
    intro id3 h_id3
    repeat (first
      | (with_reducible first | apply AWp.seq | apply AWp.block | refine And.intro (by first | omega | assumption | decide) ?_)
      | ((first | (with_reducible first | apply AWp.fork | apply AWp.region)); simp -implicitDefEqProofs)
      | ((with_reducible first | apply AWp.ret | apply AWp.skip | apply AWp.exit); try simp -implicitDefEqProofs))
    intro id6 n_id6_id3 h_id6
    have n_id3_id6 : ¬ id3 = id6 := fun e => n_id6_id3 e.symm
    repeat (first
      | (with_reducible first | apply AWp.seq | apply AWp.block | refine And.intro (by first | omega | assumption | decide) ?_)
      | ((first | (with_reducible first | apply AWp.fork | apply AWp.region | show condK _ _ _ | show guardK _ _ _ _ _ _ _ _ _)); simp -implicitDefEqProofs [n_id6_id3, n_id3_id6])
      | ((with_reducible first | apply AWp.ret | apply AWp.skip | apply AWp.exit); try simp -implicitDefEqProofs [n_id6_id3, n_id3_id6]))
    refine ⟨?_, ?_⟩
    · simp only [strV, List.set, List.map, sV]
      exact Wk_agg4 (by simp) (by simp) (by simp) (by simp)
    · intro j_ y_ hy_
      by_cases e_id3 : j_ = id3
      · subst e_id3; simp [AS.set, h_id3, h_id6, n_id6_id3, n_id3_id6] at hy_ ⊢; try first | exact hy_ | (cases hy_; done)
      by_cases e_id6 : j_ = id6
      · subst e_id6; simp [AS.set, h_id3, h_id6, n_id6_id3, n_id3_id6] at hy_ ⊢; try first | exact hy_ | (cases hy_; done)
      simp [AS.set, h_id3, h_id6, n_id6_id3, n_id3_id6, e_id3, e_id6] at hy_ ⊢; try exact hy_
  | 1, _ =>
    refine ACalls.of_body Try.func28 rfl rfl (by simp [Try.ntmps28]) ?_
    simp only [sV, sO]
    repeat (first
      | (with_reducible first | apply AWp.seq | apply AWp.block | refine And.intro (by first | omega | assumption | decide) ?_)
      | ((first | (with_reducible first | apply AWp.fork | apply AWp.region)); simp -implicitDefEqProofs)
      | ((with_reducible first | apply AWp.ret | apply AWp.skip | apply AWp.exit); try simp -implicitDefEqProofs))
    intro id3 h_id3
    repeat (first
      | (with_reducible first | apply AWp.seq | apply AWp.block | refine And.intro (by first | omega | assumption | decide) ?_)
      | ((first | (with_reducible first | apply AWp.fork | apply AWp.region)); simp -implicitDefEqProofs)
      | ((with_reducible first | apply AWp.ret | apply AWp.skip | apply AWp.exit); try simp -implicitDefEqProofs))
    intro id6 n_id6_id3 h_id6
    have n_id3_id6 : ¬ id3 = id6 := fun e => n_id6_id3 e.symm
    repeat (first
      | (with_reducible first | apply AWp.seq | apply AWp.block | refine And.intro (by first | omega | assumption | decide) ?_)
      | ((first | (with_reducible first | apply AWp.fork | apply AWp.region | show condK _ _ _ | show guardK _ _ _ _ _ _ _ _ _)); simp -implicitDefEqProofs [n_id6_id3, n_id3_id6])
      | ((with_reducible first | apply AWp.ret | apply AWp.skip | apply AWp.exit); try simp -implicitDefEqProofs [n_id6_id3, n_id3_id6]))
    refine ⟨?_, ?_⟩
    · simp only [strV, List.set, List.map, sV]
      exact Wk_agg4 (by simp) (by simp) (by simp) (by simp)
    · intro j_ y_ hy_
      by_cases e_id3 : j_ = id3
      · subst e_id3; simp [AS.set, h_id3, h_id6, n_id6_id3, n_id3_id6] at hy_ ⊢; try first | exact hy_ | (cases hy_; done)
      by_cases e_id6 : j_ = id6
      · subst e_id6; simp [AS.set, h_id3, h_id6, n_id6_id3, n_id3_id6] at hy_ ⊢; try first | exact hy_ | (cases hy_; done)
      simp [AS.set, h_id3, h_id6, n_id6_id3, n_id3_id6, e_id3, e_id6] at hy_ ⊢; try exact hy_
  | 2, _ =>
    refine ACalls.of_body Try.func28 rfl rfl (by simp [Try.ntmps28]) ?_
    simp only [sV, sO]
    repeat (first
      | (with_reducible first | apply AWp.seq | apply AWp.block | refine And.intro (by first | omega | assumption | decide) ?_)
      | ((first | (with_reducible first | apply AWp.fork | apply AWp.region)); simp -implicitDefEqProofs)
      | ((with_reducible first | apply AWp.ret | apply AWp.skip | apply AWp.exit); try simp -implicitDefEqProofs))
    intro id3 h_id3
    repeat (first
      | (with_reducible first | apply AWp.seq | apply AWp.block | refine And.intro (by first | omega | assumption | decide) ?_)
      | ((first | (with_reducible first | apply AWp.fork | apply AWp.region)); simp -implicitDefEqProofs)
      | ((with_reducible first | apply AWp.ret | apply AWp.skip | apply AWp.exit); try simp -implicitDefEqProofs))
    intro id6 n_id6_id3 h_id6
    have n_id3_id6 : ¬ id3 = id6 := fun e => n_id6_id3 e.symm
    repeat (first
      | (with_reducible first | apply AWp.seq | apply AWp.block | refine And.intro (by first | omega | assumption | decide) ?_)
      | ((first | (with_reducible first | apply AWp.fork | apply AWp.region | show condK _ _ _ | show guardK _ _ _ _ _ _ _ _ _)); simp -implicitDefEqProofs [n_id6_id3, n_id3_id6])
      | ((with_reducible first | apply AWp.ret | apply AWp.skip | apply AWp.exit); try simp -implicitDefEqProofs [n_id6_id3, n_id3_id6]))
    refine ⟨?_, ?_⟩
    · simp only [strV, List.set, List.map, sV]
      exact Wk_agg4 (by simp) (by simp) (by simp) (by simp)
    · intro j_ y_ hy_
      by_cases e_id3 : j_ = id3
      · subst e_id3; simp [AS.set, h_id3, h_id6, n_id6_id3, n_id3_id6] at hy_ ⊢; try first | exact hy_ | (cases hy_; done)
      by_cases e_id6 : j_ = id6
      · subst e_id6; simp [AS.set, h_id3, h_id6, n_id6_id3, n_id3_id6] at hy_ ⊢; try first | exact hy_ | (cases hy_; done)
      simp [AS.set, h_id3, h_id6, n_id6_id3, n_id3_id6, e_id3, e_id6] at hy_ ⊢; try exact hy_
  | 3, _ =>
    refine ACalls.of_body Try.func28 rfl rfl (by simp [Try.ntmps28]) ?_
    simp only [sV, sO]
    repeat (first
      | (with_reducible first | apply AWp.seq | apply AWp.block | refine And.intro (by first | omega | assumption | decide) ?_)
      | ((first | (with_reducible first | apply AWp.fork | apply AWp.region)); simp -implicitDefEqProofs)
      | ((with_reducible first | apply AWp.ret | apply AWp.skip | apply AWp.exit); try simp -implicitDefEqProofs))
    intro id3 h_id3
    repeat (first
      | (with_reducible first | apply AWp.seq | apply AWp.block | refine And.intro (by first | omega | assumption | decide) ?_)
      | ((first | (with_reducible first | apply AWp.fork | apply AWp.region)); simp -implicitDefEqProofs)
      | ((with_reducible first | apply AWp.ret | apply AWp.skip | apply AWp.exit); try simp -implicitDefEqProofs))
    intro id6 n_id6_id3 h_id6
    have n_id3_id6 : ¬ id3 = id6 := fun e => n_id6_id3 e.symm
    repeat (first
      | (with_reducible first | apply AWp.seq | apply AWp.block | refine And.intro (by first | omega | assumption | decide) ?_)
      | ((first | (with_reducible first | apply AWp.fork | apply AWp.region | show condK _ _ _ | show guardK _ _ _ _ _ _ _ _ _)); simp -implicitDefEqProofs [n_id6_id3, n_id3_id6])
      | ((with_reducible first | apply AWp.ret | apply AWp.skip | apply AWp.exit); try simp -implicitDefEqProofs [n_id6_id3, n_id3_id6]))
    refine ⟨?_, ?_⟩
    · simp only [strV, List.set, List.map, sV]
      exact Wk_agg4 (by simp) (by simp) (by simp) (by simp)
    · intro j_ y_ hy_
      by_cases e_id3 : j_ = id3
      · subst e_id3; simp [AS.set, h_id3, h_id6, n_id6_id3, n_id3_id6] at hy_ ⊢; try first | exact hy_ | (cases hy_; done)
      by_cases e_id6 : j_ = id6
      · subst e_id6; simp [AS.set, h_id3, h_id6, n_id6_id3, n_id3_id6] at hy_ ⊢; try first | exact hy_ | (cases hy_; done)
      simp [AS.set, h_id3, h_id6, n_id6_id3, n_id3_id6, e_id3, e_id6] at hy_ ⊢; try exact hy_

def ssI (a0 a1 a2 a3 b0 b1 b2 b3 : List UInt8 × Bool) (id2 id3 : Nat) (B : AS) (m : Nat) (f : Fr) (σ' : AS) : Prop :=
  ∃ i : Nat, m = 4 - i ∧ i ≤ 4 ∧ (∀ j, j < i → (nth4 a0 a1 a2 a3 j).1 = (nth4 b0 b1 b2 b3 j).1) ∧ σ' = B ∧ f = mkF [(2, .ptr id2 0), (3, .ptr id3 0), (5, .sc (.int .i64 i))]

def eqS (a0 a1 a2 a3 b0 b1 b2 b3 : List UInt8 × Bool) : Bool := decide (a0.1 = b0.1 ∧ a1.1 = b1.1 ∧ a2.1 = b2.1 ∧ a3.1 = b3.1)


theorem ssame_ok (a0 a1 a2 a3 b0 b1 b2 b3 : List UInt8 × Bool) (o0 o1 o2 o3 p0 p1 p2 p3 : Own) (hl : ∀ j, (nth4 a0 a1 a2 a3 j).1.length ≤ 140737488355328) (σ : AS) :
    ACalls Try.prog 12 [stO a0 a1 a2 a3 o0 o1 o2 o3, stO b0 b1 b2 b3 p0 p1 p2 p3] σ (Gives (.sc (.bool (eqS a0 a1 a2 a3 b0 b1 b2 b3))) σ) No := by
  have hpa := fun k hk σ => rpart_ok a0 a1 a2 a3 o0 o1 o2 o3 k hk σ
  have hpb := fun k hk σ => rpart_ok b0 b1 b2 b3 p0 p1 p2 p3 k hk σ
  have hsm := fun k σ => same_ok (nth4 a0 a1 a2 a3 k).1 (nth4 b0 b1 b2 b3 k).1 (nth4 o0 o1 o2 o3 k) (nth4 p0 p1 p2 p3 k) (nth4 a0 a1 a2 a3 k).2 (nth4 b0 b1 b2 b3 k).2 (hl k) σ
  simp only [stO, sO] at *
  refine ACalls.of_body Try.func12 rfl rfl (by simp [Try.ntmps12]) ?_
  repeat (first
    | (with_reducible first | apply AWp.seq | apply AWp.block | refine And.intro (by first | omega | assumption | decide) ?_)
    | ((first | (with_reducible first | apply AWp.fork | apply AWp.region) | ((with_reducible apply AWp.drawS (id := 4) (t := sc_12_4_XStr3)); (exact mixed); kernel_rfl; kernel_rfl; (repeat (with_reducible first | apply PanQ.then | apply PanQ.block | apply PanQ.body | apply PanQ.no)))); simp -implicitDefEqProofs)
    | ((with_reducible first | apply AWp.ret | apply AWp.skip | apply AWp.exit); try simp -implicitDefEqProofs))
  intro id2 h_id2
  repeat (first
    | (with_reducible first | apply AWp.seq | apply AWp.block | refine And.intro (by first | omega | assumption | decide) ?_)
    | ((first | (with_reducible first | apply AWp.fork | apply AWp.region) | ((with_reducible apply AWp.drawS (id := 4) (t := sc_12_4_XStr3)); (exact mixed); kernel_rfl; kernel_rfl; (repeat (with_reducible first | apply PanQ.then | apply PanQ.block | apply PanQ.body | apply PanQ.no)))); simp -implicitDefEqProofs)
    | ((with_reducible first | apply AWp.ret | apply AWp.skip | apply AWp.exit); try simp -implicitDefEqProofs))
  intro id3 n_id3_id2 h_id3
  have n_id2_id3 : ¬ id2 = id3 := fun e => n_id3_id2 e.symm
  repeat (first
    | (with_reducible first | apply AWp.seq | apply AWp.block | refine And.intro (by first | omega | assumption | decide) ?_)
    | ((first | (with_reducible first | apply AWp.fork | apply AWp.region | show condK _ _ _ | show guardK _ _ _ _ _ _ _ _ _) | ((with_reducible apply AWp.drawS (id := 4) (t := sc_12_4_XStr3)); (exact mixed); kernel_rfl; kernel_rfl; (repeat (with_reducible first | apply PanQ.then | apply PanQ.block | apply PanQ.body | apply PanQ.no)))); simp -implicitDefEqProofs [n_id3_id2, n_id2_id3])
    | ((with_reducible first | apply AWp.ret | apply AWp.skip | apply AWp.exit); try simp -implicitDefEqProofs [n_id3_id2, n_id2_id3]))
  obtain ⟨B, B_s, hB2, hB3, eq_B, le_B⟩ : ∃ B : AS, ((σ.set id2 (.cells 25 [AV.lst 5 (a0.1.map u8) o0 a0.2, AV.lst 5 (a1.1.map u8) o1 a1.2, AV.lst 5 (a2.1.map u8) o2 a2.2, AV.lst 5 (a3.1.map u8) o3 a3.2])).set id3 (.cells 25 [AV.lst 5 (b0.1.map u8) p0 b0.2, AV.lst 5 (b1.1.map u8) p1 b1.2, AV.lst 5 (b2.1.map u8) p2 b2.2, AV.lst 5 (b3.1.map u8) p3 b3.2])) = B ∧ B id2 = some (.cells 25 [AV.lst 5 (a0.1.map u8) o0 a0.2, AV.lst 5 (a1.1.map u8) o1 a1.2, AV.lst 5 (a2.1.map u8) o2 a2.2, AV.lst 5 (a3.1.map u8) o3 a3.2]) ∧ B id3 = some (.cells 25 [AV.lst 5 (b0.1.map u8) p0 b0.2, AV.lst 5 (b1.1.map u8) p1 b1.2, AV.lst 5 (b2.1.map u8) p2 b2.2, AV.lst 5 (b3.1.map u8) p3 b3.2]) ∧ (∀ j, j ≠ id2 → j ≠ id3 → B j = σ j) ∧ (∀ S' : AS, (∀ j, j ≠ id2 → j ≠ id3 → ∀ y, B j = some y → S' j = some y) → AS.le σ S') := by
    refine ⟨_, rfl, by simp [n_id2_id3, n_id3_id2], by simp [n_id2_id3, n_id3_id2], ?_, ?_⟩
    · intro j e_id2 e_id3; simp [AS.set, e_id2, e_id3]
    intro S' h j x hj
    have e_id2 : j ≠ id2 := by rintro rfl; rw [h_id2] at hj; cases hj
    have e_id3 : j ≠ id3 := by rintro rfl; rw [h_id3] at hj; cases hj
    exact h j e_id2 e_id3 x (by simp [AS.set, e_id2, e_id3, hj])
  simp only [B_s]
  clear B_s
  refine AWp.loopI (ssI a0 a1 a2 a3 b0 b1 b2 b3 id2 id3 B) (k0 := 4) ⟨0, rfl, by omega, by omega, rfl, rfl⟩ (FrWk.mk (by simp)) (AS.le_refl _) ?_
  rintro m f σ' ⟨i, hm, hi, hq, rfl, rfl⟩
  by_cases hlt : i < 4
  · have hI : ((i : Int) < 4) = True := by simp; omega
    have hsi := fun σ => hsm i σ
    generalize hd : decide ((nth4 a0 a1 a2 a3 i).1 = (nth4 b0 b1 b2 b3 i).1) = d at hsi
    by_cases he : (nth4 a0 a1 a2 a3 i).1 = (nth4 b0 b1 b2 b3 i).1
    · obtain rfl : d = true := by rw [← hd]; simp [he]
      repeat (first
        | (with_reducible first | apply AWp.seq | apply AWp.block | refine And.intro (by first | omega | assumption | decide) ?_)
        | ((first | (with_reducible first | apply AWp.fork | apply AWp.region | show condK _ _ _ | show guardK _ _ _ _ _ _ _ _ _) | ((with_reducible apply AWp.drawS (id := 4) (t := sc_12_4_XStr3)); (exact mixed); kernel_rfl; kernel_rfl; (repeat (with_reducible first | apply PanQ.then | apply PanQ.block | apply PanQ.body | apply PanQ.no))) | ((with_reducible apply aCall.id); first | apply aCall.gives (hpa i hlt _) | apply aCall.gives (hpb i hlt _) | apply aCall.gives (hsi _)) | ((with_reducible apply pureCall.id); first | apply pureCall.gives (fun _ => hpa i hlt _) | apply pureCall.gives (fun _ => hpb i hlt _) | apply pureCall.gives (fun _ => hsi _))); simp -implicitDefEqProofs [hI, hB2, hB3, n_id3_id2, n_id2_id3, hB2, hB3])
        | ((with_reducible first | apply AWp.ret | apply AWp.skip | apply AWp.exit); try simp -implicitDefEqProofs [hI, hB2, hB3, n_id3_id2, n_id2_id3, hB2, hB3]))
      refine ⟨m - 1, _, _, by omega, FrWk.mk (by simp [wInc (show i < 4000000000000000000 by omega)]), AS.le_refl _, i + 1, by omega, by omega, fun j hj => ?_, rfl, rfl⟩
      by_cases hj2 : j < i
      · exact hq j hj2
      · obtain rfl : j = i := by omega
        exact he
    · obtain rfl : d = false := by rw [← hd]; simp [he]
      repeat (first
        | (with_reducible first | apply AWp.seq | apply AWp.block | refine And.intro (by first | omega | assumption | decide) ?_)
        | ((first | (with_reducible first | apply AWp.fork | apply AWp.region | show condK _ _ _ | show guardK _ _ _ _ _ _ _ _ _) | ((with_reducible apply AWp.drawS (id := 4) (t := sc_12_4_XStr3)); (exact mixed); kernel_rfl; kernel_rfl; (repeat (with_reducible first | apply PanQ.then | apply PanQ.block | apply PanQ.body | apply PanQ.no))) | ((with_reducible apply aCall.id); first | apply aCall.gives (hpa i hlt _) | apply aCall.gives (hpb i hlt _) | apply aCall.gives (hsi _)) | ((with_reducible apply pureCall.id); first | apply pureCall.gives (fun _ => hpa i hlt _) | apply pureCall.gives (fun _ => hpb i hlt _) | apply pureCall.gives (fun _ => hsi _))); simp -implicitDefEqProofs [hI, hB2, hB3, n_id3_id2, n_id2_id3, hB2, hB3])
        | ((with_reducible first | apply AWp.ret | apply AWp.skip | apply AWp.exit); try simp -implicitDefEqProofs [hI, hB2, hB3, n_id3_id2, n_id2_id3, hB2, hB3]))
      refine ⟨?_, le_B _ fun _ _ _ _ hy => hy⟩
      have hno : ¬ (a0.1 = b0.1 ∧ a1.1 = b1.1 ∧ a2.1 = b2.1 ∧ a3.1 = b3.1) := by
        rintro ⟨h0, h1, h2, h3⟩
        match i, hlt with
        | 0, _ => exact he h0
        | 1, _ => exact he h1
        | 2, _ => exact he h2
        | 3, _ => exact he h3
      rw [eqS, decide_eq_false hno]
      exact Wk.refl _
  · have hI : ((i : Int) < 4) = False := by simp; omega
    have hyes : a0.1 = b0.1 ∧ a1.1 = b1.1 ∧ a2.1 = b2.1 ∧ a3.1 = b3.1 := ⟨hq 0 (by omega), hq 1 (by omega), hq 2 (by omega), hq 3 (by omega)⟩
    repeat (first
      | (with_reducible first | apply AWp.seq | apply AWp.block | refine And.intro (by first | omega | assumption | decide) ?_)
      | ((first | (with_reducible first | apply AWp.fork | apply AWp.region | show condK _ _ _ | show guardK _ _ _ _ _ _ _ _ _) | ((with_reducible apply AWp.drawS (id := 4) (t := sc_12_4_XStr3)); (exact mixed); kernel_rfl; kernel_rfl; (repeat (with_reducible first | apply PanQ.then | apply PanQ.block | apply PanQ.body | apply PanQ.no)))); simp -implicitDefEqProofs [hI, hB2, hB3, n_id3_id2, n_id2_id3, hB2, hB3])
      | ((with_reducible first | apply AWp.ret | apply AWp.skip | apply AWp.exit); try simp -implicitDefEqProofs [hI, hB2, hB3, n_id3_id2, n_id2_id3, hB2, hB3]))
    refine ⟨?_, le_B _ fun _ _ _ _ hy => hy⟩
    rw [eqS, decide_eq_true hyes]
    exact Wk.refl _

def longS (a0 a1 a2 a3 : List UInt8 × Bool) : Bool := decide (2000 < a0.1.length) || decide (2000 < a1.1.length) || decide (2000 < a2.1.length) || decide (2000 < a3.1.length)

theorem slong_ok (a0 a1 a2 a3 : List UInt8 × Bool) (o0 o1 o2 o3 : Own) (σ : AS) :
    ACalls Try.prog 14 [stO a0 a1 a2 a3 o0 o1 o2 o3] σ (Gives (.sc (.bool (longS a0 a1 a2 a3))) σ) No := by
  have hx : ∀ n : Nat, (2000 < (n : Int)) = (2000 < n) := fun n => propext ⟨fun _ => by omega, fun _ => by omega⟩
  simp only [stO, sO]
  refine ACalls.of_body Try.func14 rfl rfl (by simp [Try.ntmps14]) ?_
  by_cases h0 : 2000 < a0.1.length
  · repeat (first
      | (with_reducible first | apply AWp.seq | apply AWp.block | refine And.intro (by first | omega | assumption | decide) ?_)
      | ((first | (with_reducible first | apply AWp.fork | apply AWp.region)); simp -implicitDefEqProofs)
      | ((with_reducible first | apply AWp.ret | apply AWp.skip | apply AWp.exit); try simp -implicitDefEqProofs))
    intro id h_id
    repeat (first
      | (with_reducible first | apply AWp.seq | apply AWp.block | refine And.intro (by first | omega | assumption | decide) ?_)
      | ((first | (with_reducible first | apply AWp.fork | apply AWp.region | show condK _ _ _ | show guardK _ _ _ _ _ _ _ _ _)); simp -implicitDefEqProofs [hx, h0])
      | ((with_reducible first | apply AWp.ret | apply AWp.skip | apply AWp.exit); try simp -implicitDefEqProofs [hx, h0]))
    refine ⟨wk_eq (by simp [longS, h0]), ?_⟩
    all_goals (repeat (first | exact AS.le_refl _ | refine le_new (by simp [h_id]) ?_))
  by_cases h1 : 2000 < a1.1.length
  · repeat (first
      | (with_reducible first | apply AWp.seq | apply AWp.block | refine And.intro (by first | omega | assumption | decide) ?_)
      | ((first | (with_reducible first | apply AWp.fork | apply AWp.region)); simp -implicitDefEqProofs)
      | ((with_reducible first | apply AWp.ret | apply AWp.skip | apply AWp.exit); try simp -implicitDefEqProofs))
    intro id h_id
    repeat (first
      | (with_reducible first | apply AWp.seq | apply AWp.block | refine And.intro (by first | omega | assumption | decide) ?_)
      | ((first | (with_reducible first | apply AWp.fork | apply AWp.region | show condK _ _ _ | show guardK _ _ _ _ _ _ _ _ _)); simp -implicitDefEqProofs [hx, h0, h1])
      | ((with_reducible first | apply AWp.ret | apply AWp.skip | apply AWp.exit); try simp -implicitDefEqProofs [hx, h0, h1]))
    refine ⟨wk_eq (by simp [longS, h0, h1]), ?_⟩
    all_goals (repeat (first | exact AS.le_refl _ | refine le_new (by simp [h_id]) ?_))
  by_cases h2 : 2000 < a2.1.length
  · repeat (first
      | (with_reducible first | apply AWp.seq | apply AWp.block | refine And.intro (by first | omega | assumption | decide) ?_)
      | ((first | (with_reducible first | apply AWp.fork | apply AWp.region)); simp -implicitDefEqProofs)
      | ((with_reducible first | apply AWp.ret | apply AWp.skip | apply AWp.exit); try simp -implicitDefEqProofs))
    intro id h_id
    repeat (first
      | (with_reducible first | apply AWp.seq | apply AWp.block | refine And.intro (by first | omega | assumption | decide) ?_)
      | ((first | (with_reducible first | apply AWp.fork | apply AWp.region | show condK _ _ _ | show guardK _ _ _ _ _ _ _ _ _)); simp -implicitDefEqProofs [hx, h0, h1, h2])
      | ((with_reducible first | apply AWp.ret | apply AWp.skip | apply AWp.exit); try simp -implicitDefEqProofs [hx, h0, h1, h2]))
    refine ⟨wk_eq (by simp [longS, h0, h1, h2]), ?_⟩
    all_goals (repeat (first | exact AS.le_refl _ | refine le_new (by simp [h_id]) ?_))
  repeat (first
    | (with_reducible first | apply AWp.seq | apply AWp.block | refine And.intro (by first | omega | assumption | decide) ?_)
    | ((first | (with_reducible first | apply AWp.fork | apply AWp.region)); simp -implicitDefEqProofs)
    | ((with_reducible first | apply AWp.ret | apply AWp.skip | apply AWp.exit); try simp -implicitDefEqProofs))
  intro id h_id
  repeat (first
    | (with_reducible first | apply AWp.seq | apply AWp.block | refine And.intro (by first | omega | assumption | decide) ?_)
    | ((first | (with_reducible first | apply AWp.fork | apply AWp.region | show condK _ _ _ | show guardK _ _ _ _ _ _ _ _ _)); simp -implicitDefEqProofs [hx, h0, h1, h2])
    | ((with_reducible first | apply AWp.ret | apply AWp.skip | apply AWp.exit); try simp -implicitDefEqProofs [hx, h0, h1, h2]))
  refine ⟨wk_eq (by simp [longS, h0, h1, h2]), ?_⟩
  all_goals (repeat (first | exact AS.le_refl _ | refine le_new (by simp [h_id]) ?_))

end Go.Proofs.Ythpmabablfkekaa
