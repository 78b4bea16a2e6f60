/- Chapter 08: Same, copied, long, wakes. -/
import Derived.Test.YtnkjbgcbchbonaaBody3
set_option linter.unusedSimpArgs false
set_option linter.unusedVariables false
set_option maxRecDepth 100000
set_option maxHeartbeats 3200000
namespace Go.Proofs.Ytnkjbgcbchbonaa
open Go Go.AW

def bodyV (code : List UInt8) (cls : List R6) (o1 o2 : Own) (n1 n2 : Bool) : AV := .agg [.lst 5 (code.map u8) o1 n1, .lst 91 (cls.map rawV) o2 n2]

theorem long_ok (code : List UInt8) (cls : List R6) (o1 o2 : Own) (n1 n2 : Bool) (hc : code.length ≤ 140737488355328) (hk : cls.length ≤ 140737488355328) (σ : AS) :
    ACalls Try.prog 22 [bodyV code cls o1 o2 n1 n2] σ (Gives (.sc (.bool (decide (1000 < code.length) || decide (100 < cls.length)))) σ) No := by
  refine ACalls.of_body Try.func22 rfl rfl (by simp [Try.ntmps22]) ?_
  simp only [bodyV]
  repeat (first
    | (with_reducible apply AWp.seq)
    | (with_reducible apply AWp.block)
    | ((with_reducible apply AWp.fork); simp -implicitDefEqProofs)
    | ((with_reducible apply AWp.region); simp -implicitDefEqProofs)
    | (with_reducible refine And.intro (by first | omega | assumption | decide) ?_)
    | ((with_reducible apply AWp.ret); try simp -implicitDefEqProofs)
    | ((with_reducible apply AWp.skip); try simp -implicitDefEqProofs)
    | ((with_reducible apply AWp.exit); try simp -implicitDefEqProofs))
  intro id h_id
  repeat' (first
    | (with_reducible apply AWp.seq)
    | (with_reducible apply AWp.block)
    | ((with_reducible apply AWp.fork); simp -implicitDefEqProofs)
    | ((with_reducible apply AWp.region); simp -implicitDefEqProofs)
    | (with_reducible refine And.intro (by first | omega | assumption | decide) ?_)
    | trivial
    | (with_reducible apply And.intro)
    | ((with_reducible apply AWp.ret); try simp -implicitDefEqProofs)
    | ((with_reducible apply AWp.skip); try simp -implicitDefEqProofs)
    | ((with_reducible apply AWp.exit); try simp -implicitDefEqProofs)
    | ((with_reducible apply condK.split) <;> (intro hc; (try simp -implicitDefEqProofs only [hc]); (try simp at hc)) <;> try simp -implicitDefEqProofs)
    | ((with_reducible apply guardK.split) <;> (intro hc; (try simp -implicitDefEqProofs only [hc]); (try simp at hc)) <;> try simp -implicitDefEqProofs)
    | ((with_reducible apply pureG.split) <;> (intro hc; (try simp -implicitDefEqProofs only [hc]); (try simp at hc)) <;> try simp -implicitDefEqProofs))
  all_goals first
    | exact AS.le_refl _
    | ((repeat (first | exact AS.le_refl _ | refine le_new (by simp [*]) ?_)); done)
    | (refine wk_eq ?_; simp_all [skipV]; done)
    | (refine wk_b ?_; rw [Bool.eq_iff_iff]; simp [*]; omega)
    | (refine wk_eq ?_; simp [*]; omega)
    | (exfalso; omega)

theorem copied_ok (code : List UInt8) (cls : List R6) (n1 n2 : Bool) (hn1 : n1 = true → code = []) (hn2 : n2 = true → cls = []) (hc : code.length ≤ 1000) (hk : cls.length ≤ 100) (σ : AS) :
    ACalls Try.prog 23 [bodyV code cls .unk .unk n1 n2] σ (Gives (bodyV code cls .unk .unk false false) σ) No := by
  refine ACalls.of_body Try.func23 rfl rfl (by simp [Try.ntmps23]) ?_
  simp only [bodyV]
  repeat (first
    | (with_reducible apply AWp.seq)
    | (with_reducible apply AWp.block)
    | ((with_reducible apply AWp.fork); simp -implicitDefEqProofs)
    | ((with_reducible apply AWp.region); simp -implicitDefEqProofs)
    | (with_reducible refine And.intro (by first | omega | assumption | decide) ?_)
    | (((with_reducible apply AWp.drawS (id := 1) (t := (Sch.step 0 (Sch.step 1 (Sch.step 4 (Sch.step 5 (Sch.read 2 (Sch.alt 3 (Sch.read 6 (Sch.alt 7 (Sch.step 8 (Sch.alt 9 Sch.done Sch.none)) Sch.none)) (Sch.alt 6 (Sch.alt 3 (Sch.alt 7 (Sch.step 8 (Sch.alt 9 Sch.done Sch.none)) Sch.none) Sch.none) Sch.none))))))))); (exact mixed); kernel_rfl; kernel_rfl; (repeat (with_reducible first | apply PanQ.then | apply PanQ.block | apply PanQ.body | apply PanQ.no))); simp -implicitDefEqProofs)
    | ((with_reducible apply AWp.ret); try simp -implicitDefEqProofs)
    | ((with_reducible apply AWp.skip); try simp -implicitDefEqProofs)
    | ((with_reducible apply AWp.exit); try simp -implicitDefEqProofs))
  intro id h_id
  repeat (first
    | (with_reducible apply AWp.seq)
    | (with_reducible apply AWp.block)
    | ((with_reducible apply AWp.fork); simp -implicitDefEqProofs)
    | ((with_reducible apply AWp.region); simp -implicitDefEqProofs)
    | (with_reducible refine And.intro (by first | omega | assumption | decide) ?_)
    | (((with_reducible apply AWp.drawS (id := 1) (t := (Sch.step 0 (Sch.step 1 (Sch.step 4 (Sch.step 5 (Sch.read 2 (Sch.alt 3 (Sch.read 6 (Sch.alt 7 (Sch.step 8 (Sch.alt 9 Sch.done Sch.none)) Sch.none)) (Sch.alt 6 (Sch.alt 3 (Sch.alt 7 (Sch.step 8 (Sch.alt 9 Sch.done Sch.none)) Sch.none) Sch.none) Sch.none))))))))); (exact mixed); kernel_rfl; kernel_rfl; (repeat (with_reducible first | apply PanQ.then | apply PanQ.block | apply PanQ.body | apply PanQ.no))); simp -implicitDefEqProofs)
    | ((with_reducible apply AWp.ret); try simp -implicitDefEqProofs)
    | ((with_reducible apply AWp.skip); try simp -implicitDefEqProofs)
    | ((with_reducible apply AWp.exit); try simp -implicitDefEqProofs))
  intro id2 n_id2_id h_id2
  have n_id_id2 : ¬ id = id2 := fun e => n_id2_id e.symm
  repeat (first
    | (with_reducible apply AWp.seq)
    | (with_reducible apply AWp.block)
    | ((with_reducible apply AWp.fork); simp -implicitDefEqProofs [n_id2_id, n_id_id2])
    | ((with_reducible apply AWp.region); simp -implicitDefEqProofs [n_id2_id, n_id_id2])
    | (with_reducible refine And.intro (by first | omega | assumption | decide) ?_)
    | ((with_reducible show condK _ _ _); simp -implicitDefEqProofs [n_id2_id, n_id_id2])
    | ((with_reducible show guardK _ _ _ _ _ _ _ _ _); simp -implicitDefEqProofs [n_id2_id, n_id_id2])
    | (((with_reducible apply AWp.drawS (id := 1) (t := (Sch.step 0 (Sch.step 1 (Sch.step 4 (Sch.step 5 (Sch.read 2 (Sch.alt 3 (Sch.read 6 (Sch.alt 7 (Sch.step 8 (Sch.alt 9 Sch.done Sch.none)) Sch.none)) (Sch.alt 6 (Sch.alt 3 (Sch.alt 7 (Sch.step 8 (Sch.alt 9 Sch.done Sch.none)) Sch.none) Sch.none) Sch.none))))))))); (exact mixed); kernel_rfl; kernel_rfl; (repeat (with_reducible first | apply PanQ.then | apply PanQ.block | apply PanQ.body | apply PanQ.no))); simp -implicitDefEqProofs [n_id2_id, n_id_id2])
    | ((with_reducible apply AWp.ret); try simp -implicitDefEqProofs [n_id2_id, n_id_id2])
    | ((with_reducible apply AWp.skip); try simp -implicitDefEqProofs [n_id2_id, n_id_id2])
    | ((with_reducible apply AWp.exit); try simp -implicitDefEqProofs [n_id2_id, n_id_id2]))
  refine ⟨⟨by omega, ?_⟩, ?_⟩
  · intro tk n_tk_id2 n_tk_id h_tk
    have n_id2_tk : ¬ id2 = tk := fun e => n_tk_id2 e.symm
    have n_id_tk : ¬ id = tk := fun e => n_tk_id e.symm
    simp -implicitDefEqProofs [n_id2_id, n_id_id2, n_tk_id2, n_id2_tk, n_tk_id, n_id_tk]
    refine ⟨by omega, by omega, ?_⟩
    intro tk2 n_tk2_tk n_tk2_id2 n_tk2_id h_tk2
    have n_tk_tk2 : ¬ tk = tk2 := fun e => n_tk2_tk e.symm
    have n_id2_tk2 : ¬ id2 = tk2 := fun e => n_tk2_id2 e.symm
    have n_id_tk2 : ¬ id = tk2 := fun e => n_tk2_id e.symm
    simp -implicitDefEqProofs [n_id2_id, n_id_id2, n_tk_id2, n_id2_tk, n_tk_id, n_id_tk, n_tk2_tk, n_tk_tk2, n_tk2_id2, n_id2_tk2, n_tk2_id, n_id_tk2]
    repeat (first
      | (with_reducible apply AWp.seq)
      | (with_reducible apply AWp.block)
      | ((with_reducible apply AWp.fork); simp -implicitDefEqProofs [n_id2_id, n_id_id2, n_tk_id2, n_id2_tk, n_tk_id, n_id_tk, n_tk2_tk, n_tk_tk2, n_tk2_id2, n_id2_tk2, n_tk2_id, n_id_tk2])
      | ((with_reducible apply AWp.region); simp -implicitDefEqProofs [n_id2_id, n_id_id2, n_tk_id2, n_id2_tk, n_tk_id, n_id_tk, n_tk2_tk, n_tk_tk2, n_tk2_id2, n_id2_tk2, n_tk2_id, n_id_tk2])
      | (with_reducible refine And.intro (by first | omega | assumption | decide) ?_)
      | ((with_reducible show condK _ _ _); simp -implicitDefEqProofs [n_id2_id, n_id_id2, n_tk_id2, n_id2_tk, n_tk_id, n_id_tk, n_tk2_tk, n_tk_tk2, n_tk2_id2, n_id2_tk2, n_tk2_id, n_id_tk2])
      | ((with_reducible show guardK _ _ _ _ _ _ _ _ _); simp -implicitDefEqProofs [n_id2_id, n_id_id2, n_tk_id2, n_id2_tk, n_tk_id, n_id_tk, n_tk2_tk, n_tk_tk2, n_tk2_id2, n_id2_tk2, n_tk2_id, n_id_tk2])
      | (((with_reducible apply AWp.drawS (id := 1) (t := (Sch.step 0 (Sch.step 1 (Sch.step 4 (Sch.step 5 (Sch.read 2 (Sch.alt 3 (Sch.read 6 (Sch.alt 7 (Sch.step 8 (Sch.alt 9 Sch.done Sch.none)) Sch.none)) (Sch.alt 6 (Sch.alt 3 (Sch.alt 7 (Sch.step 8 (Sch.alt 9 Sch.done Sch.none)) Sch.none) Sch.none) Sch.none))))))))); (exact mixed); kernel_rfl; kernel_rfl; (repeat (with_reducible first | apply PanQ.then | apply PanQ.block | apply PanQ.body | apply PanQ.no))); simp -implicitDefEqProofs [n_id2_id, n_id_id2, n_tk_id2, n_id2_tk, n_tk_id, n_id_tk, n_tk2_tk, n_tk_tk2, n_tk2_id2, n_id2_tk2, n_tk2_id, n_id_tk2])
      | ((with_reducible apply AWp.ret); try simp -implicitDefEqProofs [n_id2_id, n_id_id2, n_tk_id2, n_id2_tk, n_tk_id, n_id_tk, n_tk2_tk, n_tk_tk2, n_tk2_id2, n_id2_tk2, n_tk2_id, n_id_tk2])
      | ((with_reducible apply AWp.skip); try simp -implicitDefEqProofs [n_id2_id, n_id_id2, n_tk_id2, n_id2_tk, n_tk_id, n_id_tk, n_tk2_tk, n_tk_tk2, n_tk2_id2, n_id2_tk2, n_tk2_id, n_id_tk2])
      | ((with_reducible apply AWp.exit); try simp -implicitDefEqProofs [n_id2_id, n_id_id2, n_tk_id2, n_id2_tk, n_tk_id, n_id_tk, n_tk2_tk, n_tk_tk2, n_tk2_id2, n_id2_tk2, n_tk2_id, n_id_tk2]))
    refine ⟨Wk_agg2 (by simp) (by simp), ?_⟩
    all_goals (repeat (first | exact AS.le_refl _ | refine le_new (by simp [*]) ?_))
  · refine ⟨by omega, ?_⟩
    intro tk n_tk_id2 n_tk_id h_tk
    have n_id2_tk : ¬ id2 = tk := fun e => n_tk_id2 e.symm
    have n_id_tk : ¬ id = tk := fun e => n_tk_id e.symm
    refine ⟨by omega, by omega, ?_⟩
    intro tk2 n_tk2_tk n_tk2_id2 n_tk2_id h_tk2
    have n_tk_tk2 : ¬ tk = tk2 := fun e => n_tk2_tk e.symm
    have n_id2_tk2 : ¬ id2 = tk2 := fun e => n_tk2_id2 e.symm
    have n_id_tk2 : ¬ id = tk2 := fun e => n_tk2_id e.symm
    simp -implicitDefEqProofs [n_id2_id, n_id_id2, n_tk_id2, n_id2_tk, n_tk_id, n_id_tk, n_tk2_tk, n_tk_tk2, n_tk2_id2, n_id2_tk2, n_tk2_id, n_id_tk2]
    repeat (first
      | (with_reducible apply AWp.seq)
      | (with_reducible apply AWp.block)
      | ((with_reducible apply AWp.fork); simp -implicitDefEqProofs [n_id2_id, n_id_id2, n_tk_id2, n_id2_tk, n_tk_id, n_id_tk, n_tk2_tk, n_tk_tk2, n_tk2_id2, n_id2_tk2, n_tk2_id, n_id_tk2])
      | ((with_reducible apply AWp.region); simp -implicitDefEqProofs [n_id2_id, n_id_id2, n_tk_id2, n_id2_tk, n_tk_id, n_id_tk, n_tk2_tk, n_tk_tk2, n_tk2_id2, n_id2_tk2, n_tk2_id, n_id_tk2])
      | (with_reducible refine And.intro (by first | omega | assumption | decide) ?_)
      | ((with_reducible show condK _ _ _); simp -implicitDefEqProofs [n_id2_id, n_id_id2, n_tk_id2, n_id2_tk, n_tk_id, n_id_tk, n_tk2_tk, n_tk_tk2, n_tk2_id2, n_id2_tk2, n_tk2_id, n_id_tk2])
      | ((with_reducible show guardK _ _ _ _ _ _ _ _ _); simp -implicitDefEqProofs [n_id2_id, n_id_id2, n_tk_id2, n_id2_tk, n_tk_id, n_id_tk, n_tk2_tk, n_tk_tk2, n_tk2_id2, n_id2_tk2, n_tk2_id, n_id_tk2])
      | (((with_reducible apply AWp.drawS (id := 1) (t := (Sch.step 0 (Sch.step 1 (Sch.step 4 (Sch.step 5 (Sch.read 2 (Sch.alt 3 (Sch.read 6 (Sch.alt 7 (Sch.step 8 (Sch.alt 9 Sch.done Sch.none)) Sch.none)) (Sch.alt 6 (Sch.alt 3 (Sch.alt 7 (Sch.step 8 (Sch.alt 9 Sch.done Sch.none)) Sch.none) Sch.none) Sch.none))))))))); (exact mixed); kernel_rfl; kernel_rfl; (repeat (with_reducible first | apply PanQ.then | apply PanQ.block | apply PanQ.body | apply PanQ.no))); simp -implicitDefEqProofs [n_id2_id, n_id_id2, n_tk_id2, n_id2_tk, n_tk_id, n_id_tk, n_tk2_tk, n_tk_tk2, n_tk2_id2, n_id2_tk2, n_tk2_id, n_id_tk2])
      | ((with_reducible apply AWp.ret); try simp -implicitDefEqProofs [n_id2_id, n_id_id2, n_tk_id2, n_id2_tk, n_tk_id, n_id_tk, n_tk2_tk, n_tk_tk2, n_tk2_id2, n_id2_tk2, n_tk2_id, n_id_tk2])
      | ((with_reducible apply AWp.skip); try simp -implicitDefEqProofs [n_id2_id, n_id_id2, n_tk_id2, n_id2_tk, n_tk_id, n_id_tk, n_tk2_tk, n_tk_tk2, n_tk2_id2, n_id2_tk2, n_tk2_id, n_id_tk2])
      | ((with_reducible apply AWp.exit); try simp -implicitDefEqProofs [n_id2_id, n_id_id2, n_tk_id2, n_id2_tk, n_tk_id, n_id_tk, n_tk2_tk, n_tk_tk2, n_tk2_id2, n_id2_tk2, n_tk2_id, n_id_tk2]))
    refine ⟨Wk_agg2 (by simp) (by simp), ?_⟩
    all_goals (repeat (first | exact AS.le_refl _ | refine le_new (by simp [*]) ?_))

theorem sh_raw : Program.stoodInHeld Try.prog 91 = false := by kernel_rfl
@[simp] theorem eg_raw : Program.eqGuardType Try.prog Try.prog.depth 91 = false := by kernel_rfl
theorem eq_raw (a b : R6) : eqAV Try.prog 8 91 (.agg [.sc (.int .i64 a.kd), .sc (.int .i64 a.ta), .sc (.int .i64 a.tl), .sc (.int .i64 a.ha), .sc (.int .i64 a.hl), .sc (.int .i64 a.ex)])
    (.agg [.sc (.int .i64 b.kd), .sc (.int .i64 b.ta), .sc (.int .i64 b.tl), .sc (.int .i64 b.ha), .sc (.int .i64 b.hl), .sc (.int .i64 b.ex)]) = some (decide (a = b)) := by
  obtain ⟨a1, a2, a3, a4, a5, a6⟩ := a
  obtain ⟨b1, b2, b3, b4, b5, b6⟩ := b
  simp [eqAV, eqFs, sh_raw, Try.underlying91, Try.underlying3, Bool.decide_and]

def smI (c1 c2 : List R6) (id id2 : Nat) (B : AS) (m : Nat) (fr : Fr) (σ' : AS) : Prop :=
  ∃ i : Nat, m = c1.length - i ∧ i ≤ c1.length ∧ decide (c1 = c2) = decide (c1.drop i = c2.drop i) ∧ σ' = B ∧ fr = mkF [(2, .ptr id 0), (3, .ptr id2 0), (5, .sc (.int .i64 i))]

theorem bsame_ok (k1 k2 : List UInt8) (c1 c2 : List R6) (o1 o2 o3 o4 : Own) (n1 n2 n3 n4 : Bool) (hk1 : k1.length ≤ 140737488355328) (hk2 : k2.length ≤ 140737488355328) (hc1 : c1.length ≤ 140737488355328) (hc2 : c2.length ≤ 140737488355328) (σ : AS) :
    ACalls Try.prog 26 [bodyV k1 c1 o1 o2 n1 n2, bodyV k2 c2 o3 o4 n3 n4] σ (Gives (.sc (.bool (decide (k1 = k2) && decide (c1 = c2)))) σ) No := by
  refine ACalls.of_body Try.func26 rfl rfl (by simp [Try.ntmps26]) ?_
  simp only [bodyV]
  have hs := fun σ => same_ok k1 k2 o1 o3 n1 n3 hk1 σ
  by_cases hk : k1 = k2
  · have hd : decide (k1 = k2) = true := by simp [hk]
    rw [hd] at hs ⊢
    by_cases hl : c1.length = c2.length
    · repeat (first
        | (with_reducible apply AWp.seq)
        | (with_reducible apply AWp.block)
        | ((with_reducible apply AWp.fork); simp -implicitDefEqProofs)
        | ((with_reducible apply AWp.region); simp -implicitDefEqProofs)
        | (with_reducible refine And.intro (by first | omega | assumption | decide) ?_)
        | (((with_reducible apply AWp.drawS (id := 6) (t := (Sch.step 0 (Sch.step 2 (Sch.step 5 (Sch.step 7 (Sch.read 1 (Sch.step 3 (Sch.read 4 (Sch.read 6 (Sch.step 8 (Sch.read 9 (Sch.step 10 Sch.done))))))))))))); (exact mixed); kernel_rfl; kernel_rfl; (repeat (with_reducible first | apply PanQ.then | apply PanQ.block | apply PanQ.body | apply PanQ.no))); simp -implicitDefEqProofs)
        | ((with_reducible apply AWp.ret); try simp -implicitDefEqProofs)
        | ((with_reducible apply AWp.skip); try simp -implicitDefEqProofs)
        | ((with_reducible apply AWp.exit); try simp -implicitDefEqProofs))
      intro id h_id
      repeat (first
        | (with_reducible apply AWp.seq)
        | (with_reducible apply AWp.block)
        | ((with_reducible apply AWp.fork); simp -implicitDefEqProofs)
        | ((with_reducible apply AWp.region); simp -implicitDefEqProofs)
        | (with_reducible refine And.intro (by first | omega | assumption | decide) ?_)
        | (((with_reducible apply AWp.drawS (id := 6) (t := (Sch.step 0 (Sch.step 2 (Sch.step 5 (Sch.step 7 (Sch.read 1 (Sch.step 3 (Sch.read 4 (Sch.read 6 (Sch.step 8 (Sch.read 9 (Sch.step 10 Sch.done))))))))))))); (exact mixed); kernel_rfl; kernel_rfl; (repeat (with_reducible first | apply PanQ.then | apply PanQ.block | apply PanQ.body | apply PanQ.no))); simp -implicitDefEqProofs)
        | ((with_reducible apply AWp.ret); try simp -implicitDefEqProofs)
        | ((with_reducible apply AWp.skip); try simp -implicitDefEqProofs)
        | ((with_reducible apply AWp.exit); try simp -implicitDefEqProofs))
      intro id2 n_id2_id h_id2
      have n_id_id2 : ¬ id = id2 := fun e => n_id2_id e.symm
      have hl' : (c1.length : Int) = c2.length := by omega
      repeat (first
        | (with_reducible apply AWp.seq)
        | (with_reducible apply AWp.block)
        | ((with_reducible apply AWp.fork); simp -implicitDefEqProofs [hl, hl', n_id2_id, n_id_id2])
        | ((with_reducible apply AWp.region); simp -implicitDefEqProofs [hl, hl', n_id2_id, n_id_id2])
        | (with_reducible refine And.intro (by first | omega | assumption | decide) ?_)
        | ((with_reducible show condK _ _ _); simp -implicitDefEqProofs [hl, hl', n_id2_id, n_id_id2])
        | ((with_reducible show guardK _ _ _ _ _ _ _ _ _); simp -implicitDefEqProofs [hl, hl', n_id2_id, n_id_id2])
        | (((with_reducible apply AWp.drawS (id := 6) (t := (Sch.step 0 (Sch.step 2 (Sch.step 5 (Sch.step 7 (Sch.read 1 (Sch.step 3 (Sch.read 4 (Sch.read 6 (Sch.step 8 (Sch.read 9 (Sch.step 10 Sch.done))))))))))))); (exact mixed); kernel_rfl; kernel_rfl; (repeat (with_reducible first | apply PanQ.then | apply PanQ.block | apply PanQ.body | apply PanQ.no))); simp -implicitDefEqProofs [hl, hl', n_id2_id, n_id_id2])
        | ((with_reducible apply aCall.id); first
            | ((apply aCall.gives (hs _)); simp -implicitDefEqProofs [hl, hl', n_id2_id, n_id_id2]))
        | ((with_reducible apply AWp.ret); try simp -implicitDefEqProofs [hl, hl', n_id2_id, n_id_id2])
        | ((with_reducible apply AWp.skip); try simp -implicitDefEqProofs [hl, hl', n_id2_id, n_id_id2])
        | ((with_reducible apply AWp.exit); try simp -implicitDefEqProofs [hl, hl', n_id2_id, n_id_id2]))
      have hB1 : ((σ.set id (.cells 48 [.lst 5 (k1.map u8) o1 n1, .lst 91 (c1.map rawV) o2 n2])).set id2 (.cells 48 [.lst 5 (k2.map u8) o3 n3, .lst 91 (c2.map rawV) o4 n4])) id = some (.cells 48 [.lst 5 (k1.map u8) o1 n1, .lst 91 (c1.map rawV) o2 n2]) := by simp [*]
      have hB2 : ((σ.set id (.cells 48 [.lst 5 (k1.map u8) o1 n1, .lst 91 (c1.map rawV) o2 n2])).set id2 (.cells 48 [.lst 5 (k2.map u8) o3 n3, .lst 91 (c2.map rawV) o4 n4])) id2 = some (.cells 48 [.lst 5 (k2.map u8) o3 n3, .lst 91 (c2.map rawV) o4 n4]) := by simp [*]
      have hBle : AS.le σ ((σ.set id (.cells 48 [.lst 5 (k1.map u8) o1 n1, .lst 91 (c1.map rawV) o2 n2])).set id2 (.cells 48 [.lst 5 (k2.map u8) o3 n3, .lst 91 (c2.map rawV) o4 n4])) := le_new (by simp [*]) (le_new h_id (AS.le_refl _))
      generalize ((σ.set id (.cells 48 [.lst 5 (k1.map u8) o1 n1, .lst 91 (c1.map rawV) o2 n2])).set id2 (.cells 48 [.lst 5 (k2.map u8) o3 n3, .lst 91 (c2.map rawV) o4 n4])) = B at *
      refine AWp.loopI (smI c1 c2 id id2 B) (k0 := c1.length) ⟨0, by omega, by omega, rfl, rfl, rfl⟩ (FrWk.mk (by simp)) (AS.le_refl _) ?_
      rintro m fr σ' ⟨i, hm, hi, hD, rfl, rfl⟩
      by_cases hlt : i < c1.length
      · obtain ⟨r, hg, hd1, _, _⟩ := at_lt c1 hlt
        obtain ⟨q, hq, hd2, _, _⟩ := at_lt c2 (i := i) (by omega)
        have hI : ((i : Int) < c1.length) = True := by simp; omega
        have hI2 : ((i : Int) < c2.length) = True := by simp; omega
        have hrv : ∀ r, rawV r = .agg [.sc (.int .i64 r.kd), .sc (.int .i64 r.ta), .sc (.int .i64 r.tl), .sc (.int .i64 r.ha), .sc (.int .i64 r.hl), .sc (.int .i64 r.ex)] := fun _ => rfl
        rw [hd1, hd2] at hD
        by_cases he : r = q
        · subst he
          repeat (first
            | (with_reducible apply AWp.seq)
            | (with_reducible apply AWp.block)
            | ((with_reducible apply AWp.fork); simp -implicitDefEqProofs [hI, hI2, hB1, hB2, hg, hq, hrv, eq_raw, n_id2_id, n_id_id2])
            | ((with_reducible apply AWp.region); simp -implicitDefEqProofs [hI, hI2, hB1, hB2, hg, hq, hrv, eq_raw, n_id2_id, n_id_id2])
            | (with_reducible refine And.intro (by first | omega | assumption | decide) ?_)
            | ((with_reducible show condK _ _ _); simp -implicitDefEqProofs [hI, hI2, hB1, hB2, hg, hq, hrv, eq_raw, n_id2_id, n_id_id2])
            | ((with_reducible show guardK _ _ _ _ _ _ _ _ _); simp -implicitDefEqProofs [hI, hI2, hB1, hB2, hg, hq, hrv, eq_raw, n_id2_id, n_id_id2])
            | (((with_reducible apply AWp.drawS (id := 6) (t := (Sch.step 0 (Sch.step 2 (Sch.step 5 (Sch.step 7 (Sch.read 1 (Sch.step 3 (Sch.read 4 (Sch.read 6 (Sch.step 8 (Sch.read 9 (Sch.step 10 Sch.done))))))))))))); (exact mixed); kernel_rfl; kernel_rfl; (repeat (with_reducible first | apply PanQ.then | apply PanQ.block | apply PanQ.body | apply PanQ.no))); simp -implicitDefEqProofs [hI, hI2, hB1, hB2, hg, hq, hrv, eq_raw, n_id2_id, n_id_id2])
            | ((with_reducible apply AWp.ret); try simp -implicitDefEqProofs [hI, hI2, hB1, hB2, hg, hq, hrv, eq_raw, n_id2_id, n_id_id2])
            | ((with_reducible apply AWp.skip); try simp -implicitDefEqProofs [hI, hI2, hB1, hB2, hg, hq, hrv, eq_raw, n_id2_id, n_id_id2])
            | ((with_reducible apply AWp.exit); try simp -implicitDefEqProofs [hI, hI2, hB1, hB2, hg, hq, hrv, eq_raw, n_id2_id, n_id_id2]))
          refine ⟨m - 1, _, _, by omega, FrWk.mk ?_, AS.le_refl _, i + 1, by omega, by omega, by rw [hD]; simp, rfl, rfl⟩
          simp [wInc (show i < 4000000000000000000 by omega)]
        · repeat (first
            | (with_reducible apply AWp.seq)
            | (with_reducible apply AWp.block)
            | ((with_reducible apply AWp.fork); simp -implicitDefEqProofs [hI, hI2, hB1, hB2, hg, hq, hrv, eq_raw, he, n_id2_id, n_id_id2])
            | ((with_reducible apply AWp.region); simp -implicitDefEqProofs [hI, hI2, hB1, hB2, hg, hq, hrv, eq_raw, he, n_id2_id, n_id_id2])
            | (with_reducible refine And.intro (by first | omega | assumption | decide) ?_)
            | ((with_reducible show condK _ _ _); simp -implicitDefEqProofs [hI, hI2, hB1, hB2, hg, hq, hrv, eq_raw, he, n_id2_id, n_id_id2])
            | ((with_reducible show guardK _ _ _ _ _ _ _ _ _); simp -implicitDefEqProofs [hI, hI2, hB1, hB2, hg, hq, hrv, eq_raw, he, n_id2_id, n_id_id2])
            | (((with_reducible apply AWp.drawS (id := 6) (t := (Sch.step 0 (Sch.step 2 (Sch.step 5 (Sch.step 7 (Sch.read 1 (Sch.step 3 (Sch.read 4 (Sch.read 6 (Sch.step 8 (Sch.read 9 (Sch.step 10 Sch.done))))))))))))); (exact mixed); kernel_rfl; kernel_rfl; (repeat (with_reducible first | apply PanQ.then | apply PanQ.block | apply PanQ.body | apply PanQ.no))); simp -implicitDefEqProofs [hI, hI2, hB1, hB2, hg, hq, hrv, eq_raw, he, n_id2_id, n_id_id2])
            | ((with_reducible apply AWp.ret); try simp -implicitDefEqProofs [hI, hI2, hB1, hB2, hg, hq, hrv, eq_raw, he, n_id2_id, n_id_id2])
            | ((with_reducible apply AWp.skip); try simp -implicitDefEqProofs [hI, hI2, hB1, hB2, hg, hq, hrv, eq_raw, he, n_id2_id, n_id_id2])
            | ((with_reducible apply AWp.exit); try simp -implicitDefEqProofs [hI, hI2, hB1, hB2, hg, hq, hrv, eq_raw, he, n_id2_id, n_id_id2]))
          simp [hD, he]
          exact hBle
      · have hI : ((i : Int) < c1.length) = False := by simp; omega
        have hI2 : ((i : Int) < c2.length) = False := by simp; omega
        have e1 : c1.drop i = [] := List.drop_eq_nil_of_le (by omega)
        have e2 : c2.drop i = [] := List.drop_eq_nil_of_le (by omega)
        rw [e1, e2] at hD
        repeat (first
          | (with_reducible apply AWp.seq)
          | (with_reducible apply AWp.block)
          | ((with_reducible apply AWp.fork); simp -implicitDefEqProofs [hI, hI2, hB1, hB2, n_id2_id, n_id_id2])
          | ((with_reducible apply AWp.region); simp -implicitDefEqProofs [hI, hI2, hB1, hB2, n_id2_id, n_id_id2])
          | (with_reducible refine And.intro (by first | omega | assumption | decide) ?_)
          | ((with_reducible show condK _ _ _); simp -implicitDefEqProofs [hI, hI2, hB1, hB2, n_id2_id, n_id_id2])
          | ((with_reducible show guardK _ _ _ _ _ _ _ _ _); simp -implicitDefEqProofs [hI, hI2, hB1, hB2, n_id2_id, n_id_id2])
          | (((with_reducible apply AWp.drawS (id := 6) (t := (Sch.step 0 (Sch.step 2 (Sch.step 5 (Sch.step 7 (Sch.read 1 (Sch.step 3 (Sch.read 4 (Sch.read 6 (Sch.step 8 (Sch.read 9 (Sch.step 10 Sch.done))))))))))))); (exact mixed); kernel_rfl; kernel_rfl; (repeat (with_reducible first | apply PanQ.then | apply PanQ.block | apply PanQ.body | apply PanQ.no))); simp -implicitDefEqProofs [hI, hI2, hB1, hB2, n_id2_id, n_id_id2])
          | ((with_reducible apply AWp.ret); try simp -implicitDefEqProofs [hI, hI2, hB1, hB2, n_id2_id, n_id_id2])
          | ((with_reducible apply AWp.skip); try simp -implicitDefEqProofs [hI, hI2, hB1, hB2, n_id2_id, n_id_id2])
          | ((with_reducible apply AWp.exit); try simp -implicitDefEqProofs [hI, hI2, hB1, hB2, n_id2_id, n_id_id2]))
        simp [hD]
        exact hBle
    · have hl' : ¬ (c1.length : Int) = c2.length := by omega
      have hne : ¬ c1 = c2 := fun e => hl (by rw [e])
      repeat (first
        | (with_reducible apply AWp.seq)
        | (with_reducible apply AWp.block)
        | ((with_reducible apply AWp.fork); simp -implicitDefEqProofs)
        | ((with_reducible apply AWp.region); simp -implicitDefEqProofs)
        | (with_reducible refine And.intro (by first | omega | assumption | decide) ?_)
        | (((with_reducible apply AWp.drawS (id := 6) (t := (Sch.step 0 (Sch.step 2 (Sch.step 5 (Sch.step 7 (Sch.read 1 (Sch.step 3 (Sch.read 4 (Sch.read 6 (Sch.step 8 (Sch.read 9 (Sch.step 10 Sch.done))))))))))))); (exact mixed); kernel_rfl; kernel_rfl; (repeat (with_reducible first | apply PanQ.then | apply PanQ.block | apply PanQ.body | apply PanQ.no))); simp -implicitDefEqProofs)
        | ((with_reducible apply AWp.ret); try simp -implicitDefEqProofs)
        | ((with_reducible apply AWp.skip); try simp -implicitDefEqProofs)
        | ((with_reducible apply AWp.exit); try simp -implicitDefEqProofs))
      intro id h_id
      repeat (first
        | (with_reducible apply AWp.seq)
        | (with_reducible apply AWp.block)
        | ((with_reducible apply AWp.fork); simp -implicitDefEqProofs)
        | ((with_reducible apply AWp.region); simp -implicitDefEqProofs)
        | (with_reducible refine And.intro (by first | omega | assumption | decide) ?_)
        | (((with_reducible apply AWp.drawS (id := 6) (t := (Sch.step 0 (Sch.step 2 (Sch.step 5 (Sch.step 7 (Sch.read 1 (Sch.step 3 (Sch.read 4 (Sch.read 6 (Sch.step 8 (Sch.read 9 (Sch.step 10 Sch.done))))))))))))); (exact mixed); kernel_rfl; kernel_rfl; (repeat (with_reducible first | apply PanQ.then | apply PanQ.block | apply PanQ.body | apply PanQ.no))); simp -implicitDefEqProofs)
        | ((with_reducible apply AWp.ret); try simp -implicitDefEqProofs)
        | ((with_reducible apply AWp.skip); try simp -implicitDefEqProofs)
        | ((with_reducible apply AWp.exit); try simp -implicitDefEqProofs))
      intro id2 n_id2_id h_id2
      have n_id_id2 : ¬ id = id2 := fun e => n_id2_id e.symm
      repeat (first
        | (with_reducible apply AWp.seq)
        | (with_reducible apply AWp.block)
        | ((with_reducible apply AWp.fork); simp -implicitDefEqProofs [hl, hl', n_id2_id, n_id_id2])
        | ((with_reducible apply AWp.region); simp -implicitDefEqProofs [hl, hl', n_id2_id, n_id_id2])
        | (with_reducible refine And.intro (by first | omega | assumption | decide) ?_)
        | ((with_reducible show condK _ _ _); simp -implicitDefEqProofs [hl, hl', n_id2_id, n_id_id2])
        | ((with_reducible show guardK _ _ _ _ _ _ _ _ _); simp -implicitDefEqProofs [hl, hl', n_id2_id, n_id_id2])
        | (((with_reducible apply AWp.drawS (id := 6) (t := (Sch.step 0 (Sch.step 2 (Sch.step 5 (Sch.step 7 (Sch.read 1 (Sch.step 3 (Sch.read 4 (Sch.read 6 (Sch.step 8 (Sch.read 9 (Sch.step 10 Sch.done))))))))))))); (exact mixed); kernel_rfl; kernel_rfl; (repeat (with_reducible first | apply PanQ.then | apply PanQ.block | apply PanQ.body | apply PanQ.no))); simp -implicitDefEqProofs [hl, hl', n_id2_id, n_id_id2])
        | ((with_reducible apply aCall.id); first
            | ((apply aCall.gives (hs _)); simp -implicitDefEqProofs [hl, hl', n_id2_id, n_id_id2]))
        | ((with_reducible apply AWp.ret); try simp -implicitDefEqProofs [hl, hl', n_id2_id, n_id_id2])
        | ((with_reducible apply AWp.skip); try simp -implicitDefEqProofs [hl, hl', n_id2_id, n_id_id2])
        | ((with_reducible apply AWp.exit); try simp -implicitDefEqProofs [hl, hl', n_id2_id, n_id_id2]))
      simp [hne]
      all_goals (repeat (first | exact AS.le_refl _ | refine le_new (by simp [*]) ?_))
  · have hd : decide (k1 = k2) = false := by simp [hk]
    rw [hd] at hs ⊢
    repeat (first
      | (with_reducible apply AWp.seq)
      | (with_reducible apply AWp.block)
      | ((with_reducible apply AWp.fork); simp -implicitDefEqProofs)
      | ((with_reducible apply AWp.region); simp -implicitDefEqProofs)
      | (with_reducible refine And.intro (by first | omega | assumption | decide) ?_)
      | (((with_reducible apply AWp.drawS (id := 6) (t := (Sch.step 0 (Sch.step 2 (Sch.step 5 (Sch.step 7 (Sch.read 1 (Sch.step 3 (Sch.read 4 (Sch.read 6 (Sch.step 8 (Sch.read 9 (Sch.step 10 Sch.done))))))))))))); (exact mixed); kernel_rfl; kernel_rfl; (repeat (with_reducible first | apply PanQ.then | apply PanQ.block | apply PanQ.body | apply PanQ.no))); simp -implicitDefEqProofs)
      | ((with_reducible apply AWp.ret); try simp -implicitDefEqProofs)
      | ((with_reducible apply AWp.skip); try simp -implicitDefEqProofs)
      | ((with_reducible apply AWp.exit); try simp -implicitDefEqProofs))
    intro id h_id
    repeat (first
      | (with_reducible apply AWp.seq)
      | (with_reducible apply AWp.block)
      | ((with_reducible apply AWp.fork); simp -implicitDefEqProofs)
      | ((with_reducible apply AWp.region); simp -implicitDefEqProofs)
      | (with_reducible refine And.intro (by first | omega | assumption | decide) ?_)
      | (((with_reducible apply AWp.drawS (id := 6) (t := (Sch.step 0 (Sch.step 2 (Sch.step 5 (Sch.step 7 (Sch.read 1 (Sch.step 3 (Sch.read 4 (Sch.read 6 (Sch.step 8 (Sch.read 9 (Sch.step 10 Sch.done))))))))))))); (exact mixed); kernel_rfl; kernel_rfl; (repeat (with_reducible first | apply PanQ.then | apply PanQ.block | apply PanQ.body | apply PanQ.no))); simp -implicitDefEqProofs)
      | ((with_reducible apply AWp.ret); try simp -implicitDefEqProofs)
      | ((with_reducible apply AWp.skip); try simp -implicitDefEqProofs)
      | ((with_reducible apply AWp.exit); try simp -implicitDefEqProofs))
    intro id2 n_id2_id h_id2
    have n_id_id2 : ¬ id = id2 := fun e => n_id2_id e.symm
    repeat (first
      | (with_reducible apply AWp.seq)
      | (with_reducible apply AWp.block)
      | ((with_reducible apply AWp.fork); simp -implicitDefEqProofs [n_id2_id, n_id_id2])
      | ((with_reducible apply AWp.region); simp -implicitDefEqProofs [n_id2_id, n_id_id2])
      | (with_reducible refine And.intro (by first | omega | assumption | decide) ?_)
      | ((with_reducible show condK _ _ _); simp -implicitDefEqProofs [n_id2_id, n_id_id2])
      | ((with_reducible show guardK _ _ _ _ _ _ _ _ _); simp -implicitDefEqProofs [n_id2_id, n_id_id2])
      | (((with_reducible apply AWp.drawS (id := 6) (t := (Sch.step 0 (Sch.step 2 (Sch.step 5 (Sch.step 7 (Sch.read 1 (Sch.step 3 (Sch.read 4 (Sch.read 6 (Sch.step 8 (Sch.read 9 (Sch.step 10 Sch.done))))))))))))); (exact mixed); kernel_rfl; kernel_rfl; (repeat (with_reducible first | apply PanQ.then | apply PanQ.block | apply PanQ.body | apply PanQ.no))); simp -implicitDefEqProofs [n_id2_id, n_id_id2])
      | ((with_reducible apply aCall.id); first
          | ((apply aCall.gives (hs _)); simp -implicitDefEqProofs [n_id2_id, n_id_id2]))
      | ((with_reducible apply AWp.ret); try simp -implicitDefEqProofs [n_id2_id, n_id_id2])
      | ((with_reducible apply AWp.skip); try simp -implicitDefEqProofs [n_id2_id, n_id_id2])
      | ((with_reducible apply AWp.exit); try simp -implicitDefEqProofs [n_id2_id, n_id_id2]))
    all_goals (repeat (first | exact AS.le_refl _ | refine le_new (by simp [*]) ?_))

end Go.Proofs.Ytnkjbgcbchbonaa
