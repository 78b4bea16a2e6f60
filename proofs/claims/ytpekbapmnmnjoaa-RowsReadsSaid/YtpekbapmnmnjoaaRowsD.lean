/- Chapter 04: the document's Read. -/
import Derived.Test.YtpekbapmnmnjoaaRowsC
import Derived.Test.YtpekbapmnmnjoaaLe
set_option linter.unusedSimpArgs false
set_option linter.unusedVariables false
set_option maxRecDepth 100000
set_option maxHeartbeats 3200000
namespace Go.Proofs.Ytpekbapmnmnjoaa
open Go Go.AW

def gotV (x : Option (Int × List (List (List Int))) × Int × Int) : AV :=
  match x.1 with
  | none => .agg [.sc (.int .i64 0), .lst 69 [] .unk true, .sc (.int .i64 x.2.1), .sc (.int .i64 x.2.2)]
  | some v => .agg [.sc (.int .i64 v.1), .lst 69 (v.2.map fun l => lV (l.map fun r => (r, decide (r = [])), decide (l = []))) .unk false, .sc (.int .i64 x.2.1), .sc (.int .i64 x.2.2)]

theorem num_1 {b : List UInt8} {a : Nat} (h : a < b.length) : numL (seg b a 1) = b[a].toNat := by
  have : seg b a 1 = [b[a]] := by
    have := seg_sg b a 1
    rw [show ((1 : Nat) : Int) = 1 from rfl] at this
    rw [this]
    unfold sg
    rw [List.drop_eq_getElem_cons h]
    rfl
  rw [this]; simp [numL]
theorem rLeast_0 {b : List UInt8} {a : Nat} {most : Int} (h : ¬ a < b.length) : rLeast b a most = .error ((b.length : Int), 1) := by
  unfold rLeast rNum
  rw [if_neg (by omega)]
theorem rLeast_1 {b : List UInt8} {a : Nat} {most : Int} (h : a < b.length) : rLeast b a most = if most < b[a].toNat then .error ((a : Int), 2) else .ok ((b[a].toNat : Int), a + 1) := by
  unfold rLeast rNum
  rw [if_pos (by omega)]
  simp only
  rw [show numL (seg b (a : Int) ((1 : Nat) : Int)) = b[a].toNat from num_1 h]
theorem Wk_gotN {P : Program} {x y : Int} : AV.Wk P (.agg [.sc (.int .i64 0), .nilS, .sc (.int .i64 x), .sc (.int .i64 y)]) (gotV (none, x, y)) := by
  unfold gotV
  intro G v h
  cases h with
  | agg vs l h =>
    refine .agg vs l fun i hi => ?_
    match i, hi with
    | 0, _ => exact h 0 (by simp)
    | 1, _ => exact (Wk_nilU _).2 trivial G _ (h 1 (by simp))
    | 2, _ => exact h 2 (by simp)
    | 3, _ => exact h 3 (by simp)

/-- What the document's Read does with a head that is refused. -/
theorem rread_bad (b : List UInt8) (o : Own) (nl : Bool) (hl : b.length ≤ 100000) (σ : AS) (hb : b.length < 2 ∨ 3 < (b.getD 0 0).toNat ∨ 63 < (b.getD 1 0).toNat) :
    ACalls Try.prog 36 [.lst 5 (b.map u8) o nl] σ (Gives (gotV (readR b)) σ) No := by
  refine ACalls.of_body Try.func36 rfl rfl (by simp [Try.ntmps36]) ?_
  repeat (first
    | (with_reducible apply AWp.seq)
    | (with_reducible apply AWp.block)
    | ((with_reducible apply AWp.fork); simp -implicitDefEqProofs)
    | ((with_reducible apply AWp.region); simp -implicitDefEqProofs)
    | (with_reducible refine And.intro (by first | omega | assumption | decide) ?_)
    | (((with_reducible apply AWp.drawS (id := 44) (t := (Sch.step 0 (Sch.step 2 (Sch.step 3 (Sch.step 5 (Sch.step 8 (Sch.step 9 (Sch.read 4 (Sch.step 6 (Sch.read 7 (Sch.alt 1 (Sch.alt 10 (Sch.step 11 (Sch.alt 12 Sch.done Sch.none)) Sch.none) (Sch.alt 10 (Sch.read 1 (Sch.step 11 (Sch.alt 12 Sch.done Sch.none))) Sch.none))))))))))))); (exact mixed); kernel_rfl; kernel_rfl; (repeat (with_reducible first | apply PanQ.then | apply PanQ.block | apply PanQ.body | apply PanQ.no))); simp -implicitDefEqProofs)
    | ((with_reducible apply AWp.ret); try simp -implicitDefEqProofs)
    | ((with_reducible apply AWp.skip); try simp -implicitDefEqProofs)
    | ((with_reducible apply AWp.exit); try simp -implicitDefEqProofs))
  intro id2 h_id2
  repeat (first
    | (with_reducible apply AWp.seq)
    | (with_reducible apply AWp.block)
    | ((with_reducible apply AWp.fork); simp -implicitDefEqProofs)
    | ((with_reducible apply AWp.region); simp -implicitDefEqProofs)
    | (with_reducible refine And.intro (by first | omega | assumption | decide) ?_)
    | (((with_reducible apply AWp.drawS (id := 44) (t := (Sch.step 0 (Sch.step 2 (Sch.step 3 (Sch.step 5 (Sch.step 8 (Sch.step 9 (Sch.read 4 (Sch.step 6 (Sch.read 7 (Sch.alt 1 (Sch.alt 10 (Sch.step 11 (Sch.alt 12 Sch.done Sch.none)) Sch.none) (Sch.alt 10 (Sch.read 1 (Sch.step 11 (Sch.alt 12 Sch.done Sch.none))) Sch.none))))))))))))); (exact mixed); kernel_rfl; kernel_rfl; (repeat (with_reducible first | apply PanQ.then | apply PanQ.block | apply PanQ.body | apply PanQ.no))); simp -implicitDefEqProofs)
    | ((with_reducible apply AWp.ret); try simp -implicitDefEqProofs)
    | ((with_reducible apply AWp.skip); try simp -implicitDefEqProofs)
    | ((with_reducible apply AWp.exit); try simp -implicitDefEqProofs))
  intro id3 n_id3_id2 h_id3
  have n_id2_id3 : ¬ id2 = id3 := fun e => n_id3_id2 e.symm
  by_cases h1 : 1 ≤ b.length
  · have h1' : ((b.length : Int) < 1) = False := by simp; omega
    have l1 : 0 < b.length := by omega
    by_cases c0 : 3 < b[0].toNat
    · have hX : readR b = (none, 0, 2) := by
        unfold readR rAll
        rw [rLeast_1 l1, if_pos (by omega)]; rfl
      have c0' : ((3 : Int) < (b[0].toNat : Int)) = True := by simp; omega
      rw [hX]
      repeat (first
        | (with_reducible apply AWp.seq)
        | (with_reducible apply AWp.block)
        | ((with_reducible apply AWp.fork); simp -implicitDefEqProofs [h1', l1, c0', n_id3_id2, n_id2_id3])
        | ((with_reducible apply AWp.region); simp -implicitDefEqProofs [h1', l1, c0', n_id3_id2, n_id2_id3])
        | (with_reducible refine And.intro (by first | omega | assumption | decide) ?_)
        | ((with_reducible show condK _ _ _); simp -implicitDefEqProofs [h1', l1, c0', n_id3_id2, n_id2_id3])
        | ((with_reducible show guardK _ _ _ _ _ _ _ _ _); simp -implicitDefEqProofs [h1', l1, c0', n_id3_id2, n_id2_id3])
        | (((with_reducible apply AWp.drawS (id := 44) (t := (Sch.step 0 (Sch.step 2 (Sch.step 3 (Sch.step 5 (Sch.step 8 (Sch.step 9 (Sch.read 4 (Sch.step 6 (Sch.read 7 (Sch.alt 1 (Sch.alt 10 (Sch.step 11 (Sch.alt 12 Sch.done Sch.none)) Sch.none) (Sch.alt 10 (Sch.read 1 (Sch.step 11 (Sch.alt 12 Sch.done Sch.none))) Sch.none))))))))))))); (exact mixed); kernel_rfl; kernel_rfl; (repeat (with_reducible first | apply PanQ.then | apply PanQ.block | apply PanQ.body | apply PanQ.no))); simp -implicitDefEqProofs [h1', l1, c0', n_id3_id2, n_id2_id3])
        | ((with_reducible apply AWp.ret); try simp -implicitDefEqProofs [h1', l1, c0', n_id3_id2, n_id2_id3])
        | ((with_reducible apply AWp.skip); try simp -implicitDefEqProofs [h1', l1, c0', n_id3_id2, n_id2_id3])
        | ((with_reducible apply AWp.exit); try simp -implicitDefEqProofs [h1', l1, c0', n_id3_id2, n_id2_id3]))
      refine ⟨Wk_gotN, ?_⟩
      intro j_ y_ hy_
      by_cases e_id2 : j_ = id2
      · subst e_id2; simp [AS.set, h_id2, h_id3, n_id3_id2, n_id2_id3] at hy_ ⊢; try first | exact hy_ | (cases hy_; done)
      by_cases e_id3 : j_ = id3
      · subst e_id3; simp [AS.set, h_id2, h_id3, n_id3_id2, n_id2_id3] at hy_ ⊢; try first | exact hy_ | (cases hy_; done)
      simp [AS.set, h_id2, h_id3, n_id3_id2, n_id2_id3, e_id2, e_id3] at hy_ ⊢; try exact hy_
    · have c0' : ((3 : Int) < (b[0].toNat : Int)) = False := by simp; omega
      by_cases h2 : 2 ≤ b.length
      · have h2' : ((b.length : Int) < 2) = False := by simp; omega
        have l2 : 1 < b.length := by omega
        have c1 : 63 < b[1].toNat := by
          rcases hb with h | h | h
          · omega
          · rw [List.getD_eq_getElem?_getD, List.getElem?_eq_getElem l1] at h
            exact absurd h c0
          · rw [List.getD_eq_getElem?_getD, List.getElem?_eq_getElem l2] at h
            exact h
        have c1' : ((63 : Int) < (b[1].toNat : Int)) = True := by simp; omega
        have hX : readR b = (none, 1, 2) := by
          unfold readR rAll
          rw [rLeast_1 l1, if_neg (by omega)]
          simp only
          rw [rLeast_1 l2, if_pos (by omega)]; rfl
        rw [hX]
        repeat (first
          | (with_reducible apply AWp.seq)
          | (with_reducible apply AWp.block)
          | ((with_reducible apply AWp.fork); simp -implicitDefEqProofs [h1', l1, c0', h2', l2, c1', n_id3_id2, n_id2_id3])
          | ((with_reducible apply AWp.region); simp -implicitDefEqProofs [h1', l1, c0', h2', l2, c1', n_id3_id2, n_id2_id3])
          | (with_reducible refine And.intro (by first | omega | assumption | decide) ?_)
          | ((with_reducible show condK _ _ _); simp -implicitDefEqProofs [h1', l1, c0', h2', l2, c1', n_id3_id2, n_id2_id3])
          | ((with_reducible show guardK _ _ _ _ _ _ _ _ _); simp -implicitDefEqProofs [h1', l1, c0', h2', l2, c1', n_id3_id2, n_id2_id3])
          | (((with_reducible apply AWp.drawS (id := 44) (t := (Sch.step 0 (Sch.step 2 (Sch.step 3 (Sch.step 5 (Sch.step 8 (Sch.step 9 (Sch.read 4 (Sch.step 6 (Sch.read 7 (Sch.alt 1 (Sch.alt 10 (Sch.step 11 (Sch.alt 12 Sch.done Sch.none)) Sch.none) (Sch.alt 10 (Sch.read 1 (Sch.step 11 (Sch.alt 12 Sch.done Sch.none))) Sch.none))))))))))))); (exact mixed); kernel_rfl; kernel_rfl; (repeat (with_reducible first | apply PanQ.then | apply PanQ.block | apply PanQ.body | apply PanQ.no))); simp -implicitDefEqProofs [h1', l1, c0', h2', l2, c1', n_id3_id2, n_id2_id3])
          | ((with_reducible apply AWp.ret); try simp -implicitDefEqProofs [h1', l1, c0', h2', l2, c1', n_id3_id2, n_id2_id3])
          | ((with_reducible apply AWp.skip); try simp -implicitDefEqProofs [h1', l1, c0', h2', l2, c1', n_id3_id2, n_id2_id3])
          | ((with_reducible apply AWp.exit); try simp -implicitDefEqProofs [h1', l1, c0', h2', l2, c1', n_id3_id2, n_id2_id3]))
        refine ⟨Wk_gotN, ?_⟩
        intro j_ y_ hy_
        by_cases e_id2 : j_ = id2
        · subst e_id2; simp [AS.set, h_id2, h_id3, n_id3_id2, n_id2_id3] at hy_ ⊢; try first | exact hy_ | (cases hy_; done)
        by_cases e_id3 : j_ = id3
        · subst e_id3; simp [AS.set, h_id2, h_id3, n_id3_id2, n_id2_id3] at hy_ ⊢; try first | exact hy_ | (cases hy_; done)
        simp [AS.set, h_id2, h_id3, n_id3_id2, n_id2_id3, e_id2, e_id3] at hy_ ⊢; try exact hy_
      · have h2' : ((b.length : Int) < 2) = True := by simp; omega
        have hX : readR b = (none, (b.length : Int), 1) := by
          unfold readR rAll
          rw [rLeast_1 l1, if_neg (by omega)]
          simp only
          rw [rLeast_0 (by omega)]
        rw [hX]
        repeat (first
          | (with_reducible apply AWp.seq)
          | (with_reducible apply AWp.block)
          | ((with_reducible apply AWp.fork); simp -implicitDefEqProofs [h1', l1, c0', h2', n_id3_id2, n_id2_id3])
          | ((with_reducible apply AWp.region); simp -implicitDefEqProofs [h1', l1, c0', h2', n_id3_id2, n_id2_id3])
          | (with_reducible refine And.intro (by first | omega | assumption | decide) ?_)
          | ((with_reducible show condK _ _ _); simp -implicitDefEqProofs [h1', l1, c0', h2', n_id3_id2, n_id2_id3])
          | ((with_reducible show guardK _ _ _ _ _ _ _ _ _); simp -implicitDefEqProofs [h1', l1, c0', h2', n_id3_id2, n_id2_id3])
          | (((with_reducible apply AWp.drawS (id := 44) (t := (Sch.step 0 (Sch.step 2 (Sch.step 3 (Sch.step 5 (Sch.step 8 (Sch.step 9 (Sch.read 4 (Sch.step 6 (Sch.read 7 (Sch.alt 1 (Sch.alt 10 (Sch.step 11 (Sch.alt 12 Sch.done Sch.none)) Sch.none) (Sch.alt 10 (Sch.read 1 (Sch.step 11 (Sch.alt 12 Sch.done Sch.none))) Sch.none))))))))))))); (exact mixed); kernel_rfl; kernel_rfl; (repeat (with_reducible first | apply PanQ.then | apply PanQ.block | apply PanQ.body | apply PanQ.no))); simp -implicitDefEqProofs [h1', l1, c0', h2', n_id3_id2, n_id2_id3])
          | ((with_reducible apply AWp.ret); try simp -implicitDefEqProofs [h1', l1, c0', h2', n_id3_id2, n_id2_id3])
          | ((with_reducible apply AWp.skip); try simp -implicitDefEqProofs [h1', l1, c0', h2', n_id3_id2, n_id2_id3])
          | ((with_reducible apply AWp.exit); try simp -implicitDefEqProofs [h1', l1, c0', h2', n_id3_id2, n_id2_id3]))
        refine ⟨Wk_gotN, ?_⟩
        intro j_ y_ hy_
        by_cases e_id2 : j_ = id2
        · subst e_id2; simp [AS.set, h_id2, h_id3, n_id3_id2, n_id2_id3] at hy_ ⊢; try first | exact hy_ | (cases hy_; done)
        by_cases e_id3 : j_ = id3
        · subst e_id3; simp [AS.set, h_id2, h_id3, n_id3_id2, n_id2_id3] at hy_ ⊢; try first | exact hy_ | (cases hy_; done)
        simp [AS.set, h_id2, h_id3, n_id3_id2, n_id2_id3, e_id2, e_id3] at hy_ ⊢; try exact hy_
  · have h1' : ((b.length : Int) < 1) = True := by simp; omega
    have hX : readR b = (none, (b.length : Int), 1) := by
      unfold readR rAll
      rw [rLeast_0 (by omega)]
    rw [hX]
    repeat (first
      | (with_reducible apply AWp.seq)
      | (with_reducible apply AWp.block)
      | ((with_reducible apply AWp.fork); simp -implicitDefEqProofs [h1', n_id3_id2, n_id2_id3])
      | ((with_reducible apply AWp.region); simp -implicitDefEqProofs [h1', n_id3_id2, n_id2_id3])
      | (with_reducible refine And.intro (by first | omega | assumption | decide) ?_)
      | ((with_reducible show condK _ _ _); simp -implicitDefEqProofs [h1', n_id3_id2, n_id2_id3])
      | ((with_reducible show guardK _ _ _ _ _ _ _ _ _); simp -implicitDefEqProofs [h1', n_id3_id2, n_id2_id3])
      | (((with_reducible apply AWp.drawS (id := 44) (t := (Sch.step 0 (Sch.step 2 (Sch.step 3 (Sch.step 5 (Sch.step 8 (Sch.step 9 (Sch.read 4 (Sch.step 6 (Sch.read 7 (Sch.alt 1 (Sch.alt 10 (Sch.step 11 (Sch.alt 12 Sch.done Sch.none)) Sch.none) (Sch.alt 10 (Sch.read 1 (Sch.step 11 (Sch.alt 12 Sch.done Sch.none))) Sch.none))))))))))))); (exact mixed); kernel_rfl; kernel_rfl; (repeat (with_reducible first | apply PanQ.then | apply PanQ.block | apply PanQ.body | apply PanQ.no))); simp -implicitDefEqProofs [h1', n_id3_id2, n_id2_id3])
      | ((with_reducible apply AWp.ret); try simp -implicitDefEqProofs [h1', n_id3_id2, n_id2_id3])
      | ((with_reducible apply AWp.skip); try simp -implicitDefEqProofs [h1', n_id3_id2, n_id2_id3])
      | ((with_reducible apply AWp.exit); try simp -implicitDefEqProofs [h1', n_id3_id2, n_id2_id3]))
    refine ⟨Wk_gotN, ?_⟩
    intro j_ y_ hy_
    by_cases e_id2 : j_ = id2
    · subst e_id2; simp [AS.set, h_id2, h_id3, n_id3_id2, n_id2_id3] at hy_ ⊢; try first | exact hy_ | (cases hy_; done)
    by_cases e_id3 : j_ = id3
    · subst e_id3; simp [AS.set, h_id2, h_id3, n_id3_id2, n_id2_id3] at hy_ ⊢; try first | exact hy_ | (cases hy_; done)
    simp [AS.set, h_id2, h_id3, n_id3_id2, n_id2_id3, e_id2, e_id3] at hy_ ⊢; try exact hy_

def rdA (b : List UInt8) (v : AV) (thn : Nat) (id2 id3 tk : Nat) (X : Except (Int × Int) (List Int × Nat)) (B : AS) (m : Nat) (f : Fr) (σ' : AS) : Prop :=
  ∃ (t a : Nat) (d : List Int), m = 6 - t ∧ t ≤ 6 ∧ a ≤ b.length ∧ d.length = t ∧ preR d (rCnt b thn (6 - t) t a) = X ∧ σ' = B.set tk (.tok t) ∧
    f = mkF [(0, v), (2, .ptr id2 0), (3, .ptr id3 0), (4, .sc (.int .i64 a)), (5, .sc (.int .i64 ((thn / 2 ^ t : Nat) : Int))), (6, .lst 3 (d.map i64v) (.tok tk) (decide (d = []))), (7, .sc (.int .i64 t))]

def rdO (b : List UInt8) (v : AV) (mk : Nat) (d : List Int) (id2 id3 id9 w tk : Nat) (X : Except (Int × Int) (List (List (List Int)) × Nat)) (S : AS) (m : Nat) (f : Fr) (σ' : AS) : Prop :=
  ∃ (t a : Nat) (T : List (List (List Int))), m = 6 - t ∧ t ≤ 6 ∧ a ≤ b.length ∧ T.length = t ∧ preR T (rTbs b mk (d.drop t) t a) = X ∧
    σ' = S.set w (.cells 69 (T.map tV ++ List.replicate (6 - t) .nilS)) ∧
    f = mkF [(0, v), (2, .ptr id2 0), (3, .ptr id3 0), (4, .sc (.int .i64 a)), (6, .lst 3 (d.map i64v) (.tok tk) (decide (d = []))), (9, .ptr id9 0), (10, .sc (.int .i64 t))]

def rdI (b : List UInt8) (v : AV) (mk : Nat) (d : List Int) (t c : Nat) (T : List (List (List Int))) (id2 id3 id9 w tk tk2 : Nat) (X : Except (Int × Int) (List (List Int) × Nat)) (S : AS) (m : Nat) (f : Fr) (σ' : AS) : Prop :=
  ∃ (i a : Nat) (L : List (List Int)), m = c - i ∧ i ≤ c ∧ a ≤ b.length ∧ L.length = i ∧ preR L (rRws b mk (kindsL (t : Int)) (c - i) a) = X ∧
    σ' = (S.set w (.cells 69 (T.map tV ++ .lst 70 (L.map rowV) (.tok tk2) (decide (L = [])) :: List.replicate (5 - t) .nilS))).set tk2 (.tok i) ∧
    f = mkF [(0, v), (2, .ptr id2 0), (3, .ptr id3 0), (4, .sc (.int .i64 a)), (6, .lst 3 (d.map i64v) (.tok tk) (decide (d = []))), (9, .ptr id9 0), (10, .sc (.int .i64 t)), (11, .sc (.int .i64 i))]

def rdCol (b : List UInt8) (v : AV) (mk : Nat) (d : List Int) (t i : Nat) (id2 id3 id9 tk tk3 : Nat) (X : Except (Int × Int) (List Int × Nat)) (S : AS) (m : Nat) (f : Fr) (σ' : AS) : Prop :=
  ∃ (q a : Nat) (r : List Int), m = (kindsL (t : Int)).length - q ∧ q ≤ (kindsL (t : Int)).length ∧ a ≤ b.length ∧ r.length = q ∧ preR r (rRow b mk ((kindsL (t : Int)).drop q) a) = X ∧
    σ' = S.set tk3 (.tok q) ∧
    f = mkF [(0, v), (2, .ptr id2 0), (3, .ptr id3 0), (4, .sc (.int .i64 a)), (6, .lst 3 (d.map i64v) (.tok tk) (decide (d = []))), (9, .ptr id9 0), (10, .sc (.int .i64 t)), (11, .sc (.int .i64 i)),
      (12, .lst 3 (r.map i64v) (.tok tk3) (decide (r = []))), (13, .sc (.int .i64 q))]

theorem Wk_agg4R {P : Program} {a b c d a' b' c' d' : AV} (h1 : AV.Wk P a a') (h2 : AV.Wk P b b') (h3 : AV.Wk P c c') (h4 : AV.Wk P d d') : AV.Wk P (.agg [a, b, c, d]) (.agg [a', b', c', d']) := by
  intro G v h
  cases h with
  | agg vs l h =>
    refine .agg vs l fun i hi => ?_
    match i, hi with
    | 0, _ => exact h1 G _ (h 0 (by simp))
    | 1, _ => exact h2 G _ (h 1 (by simp))
    | 2, _ => exact h3 G _ (h 2 (by simp))
    | 3, _ => exact h4 G _ (h 3 (by simp))
theorem le_fin4 {σ : AS} {w tk t3 : Nat} {C C0 K K0 K3 : ABlk} (h1 : ¬ w = tk) (h3 : σ t3 = none) (h4 : ¬ t3 = w) (h5 : ¬ t3 = tk) : AS.le ((σ.set w C).set tk K) (((((σ.set w C0).set tk K0).set t3 K3).set tk K).set w C) := by
  intro j y hy
  by_cases e1 : j = w
  · subst e1; simpa [AS.set, h1] using hy
  by_cases e2 : j = tk
  · subst e2; simpa [AS.set, e1] using hy
  by_cases e3 : j = t3
  · subst e3; simp [AS.set, e1, e2, h3] at hy
  · simpa [AS.set, e1, e2, e3] using hy

theorem rread_ok (b : List UInt8) (o : Own) (nl : Bool) (hl : b.length ≤ 100000) (σ : AS) (hb : ¬ (b.length < 2 ∨ 3 < (b.getD 0 0).toNat ∨ 63 < (b.getD 1 0).toNat)) :
    ACalls Try.prog 36 [.lst 5 (b.map u8) o nl] σ (Gives (gotV (readR b)) σ) No := by
  have l1 : 0 < b.length := by omega
  have l2 : 1 < b.length := by omega
  have c0 : ¬ 3 < b[0].toNat := fun h => hb (.inr (.inl (by rwa [List.getD_eq_getElem?_getD, List.getElem?_eq_getElem l1])))
  have c1 : ¬ 63 < b[1].toNat := fun h => hb (.inr (.inr (by rwa [List.getD_eq_getElem?_getD, List.getElem?_eq_getElem l2])))
  have h1' : ((b.length : Int) < 1) = False := by simp; omega
  have h2' : ((b.length : Int) < 2) = False := by simp; omega
  have c0' : ((3 : Int) < (b[0].toNat : Int)) = False := by simp; omega
  have c1' : ((63 : Int) < (b[1].toNat : Int)) = False := by simp; omega
  have w1 : IntKind.i64.wrap (b[1].toNat : Int) = (b[1].toNat : Int) := in_i64 (by omega) (by omega)
  have hA : rAll b = match rCnt b b[1].toNat 6 0 2 with
      | .error e => .error e
      | .ok (cs, a3) => match rNum b a3 2 with
        | .error e => .error e
        | .ok (en, a4) => match rTbs b b[0].toNat cs 0 a4 with
          | .error e => .error e
          | .ok (T, a5) => .ok ((en, T), a5) := by
    unfold rAll
    rw [rLeast_1 l1, if_neg (by omega)]
    simp only
    rw [rLeast_1 l2, if_neg (by omega)]
    rfl
  refine ACalls.of_body Try.func36 rfl rfl (by simp [Try.ntmps36]) ?_
  repeat (first
    | (with_reducible apply AWp.seq)
    | (with_reducible apply AWp.block)
    | ((with_reducible apply AWp.fork); simp -implicitDefEqProofs)
    | ((with_reducible apply AWp.region); simp -implicitDefEqProofs)
    | (with_reducible refine And.intro (by first | omega | assumption | decide) ?_)
    | (((with_reducible apply AWp.drawS (id := 44) (t := (Sch.step 0 (Sch.step 2 (Sch.step 3 (Sch.step 5 (Sch.step 8 (Sch.step 9 (Sch.read 4 (Sch.step 6 (Sch.read 7 (Sch.alt 1 (Sch.alt 10 (Sch.step 11 (Sch.alt 12 Sch.done Sch.none)) Sch.none) (Sch.alt 10 (Sch.read 1 (Sch.step 11 (Sch.alt 12 Sch.done Sch.none))) Sch.none))))))))))))); (exact mixed); kernel_rfl; kernel_rfl; (repeat (with_reducible first | apply PanQ.then | apply PanQ.block | apply PanQ.body | apply PanQ.no))); simp -implicitDefEqProofs)
    | ((with_reducible apply AWp.ret); try simp -implicitDefEqProofs)
    | ((with_reducible apply AWp.skip); try simp -implicitDefEqProofs)
    | ((with_reducible apply AWp.exit); try simp -implicitDefEqProofs))
  intro id2 h_id2
  repeat (first
    | (with_reducible apply AWp.seq)
    | (with_reducible apply AWp.block)
    | ((with_reducible apply AWp.fork); simp -implicitDefEqProofs)
    | ((with_reducible apply AWp.region); simp -implicitDefEqProofs)
    | (with_reducible refine And.intro (by first | omega | assumption | decide) ?_)
    | (((with_reducible apply AWp.drawS (id := 44) (t := (Sch.step 0 (Sch.step 2 (Sch.step 3 (Sch.step 5 (Sch.step 8 (Sch.step 9 (Sch.read 4 (Sch.step 6 (Sch.read 7 (Sch.alt 1 (Sch.alt 10 (Sch.step 11 (Sch.alt 12 Sch.done Sch.none)) Sch.none) (Sch.alt 10 (Sch.read 1 (Sch.step 11 (Sch.alt 12 Sch.done Sch.none))) Sch.none))))))))))))); (exact mixed); kernel_rfl; kernel_rfl; (repeat (with_reducible first | apply PanQ.then | apply PanQ.block | apply PanQ.body | apply PanQ.no))); simp -implicitDefEqProofs)
    | ((with_reducible apply AWp.ret); try simp -implicitDefEqProofs)
    | ((with_reducible apply AWp.skip); try simp -implicitDefEqProofs)
    | ((with_reducible apply AWp.exit); try simp -implicitDefEqProofs))
  intro id3 n_id3_id2 h_id3
  have n_id2_id3 : ¬ id2 = id3 := fun e => n_id3_id2 e.symm
  repeat (first
    | (with_reducible apply AWp.seq)
    | (with_reducible apply AWp.block)
    | ((with_reducible apply AWp.fork); simp -implicitDefEqProofs [h1', l1, c0', h2', l2, c1', w1, n_id3_id2, n_id2_id3])
    | ((fail_if_success (with_reducible apply AWp.region (id := 13))); (with_reducible apply AWp.region); simp -implicitDefEqProofs [h1', l1, c0', h2', l2, c1', w1, n_id3_id2, n_id2_id3])
    | (with_reducible refine And.intro (by first | omega | assumption | decide) ?_)
    | ((with_reducible show condK _ _ _); simp -implicitDefEqProofs [h1', l1, c0', h2', l2, c1', w1, n_id3_id2, n_id2_id3])
    | ((with_reducible show guardK _ _ _ _ _ _ _ _ _); simp -implicitDefEqProofs [h1', l1, c0', h2', l2, c1', w1, n_id3_id2, n_id2_id3])
    | (((with_reducible apply AWp.drawS (id := 44) (t := (Sch.step 0 (Sch.step 2 (Sch.step 3 (Sch.step 5 (Sch.step 8 (Sch.step 9 (Sch.read 4 (Sch.step 6 (Sch.read 7 (Sch.alt 1 (Sch.alt 10 (Sch.step 11 (Sch.alt 12 Sch.done Sch.none)) Sch.none) (Sch.alt 10 (Sch.read 1 (Sch.step 11 (Sch.alt 12 Sch.done Sch.none))) Sch.none))))))))))))); (exact mixed); kernel_rfl; kernel_rfl; (repeat (with_reducible first | apply PanQ.then | apply PanQ.block | apply PanQ.body | apply PanQ.no))); simp -implicitDefEqProofs [h1', l1, c0', h2', l2, c1', w1, n_id3_id2, n_id2_id3])
    | ((with_reducible apply AWp.ret); try simp -implicitDefEqProofs [h1', l1, c0', h2', l2, c1', w1, n_id3_id2, n_id2_id3])
    | ((with_reducible apply AWp.skip); try simp -implicitDefEqProofs [h1', l1, c0', h2', l2, c1', w1, n_id3_id2, n_id2_id3])
    | ((with_reducible apply AWp.exit); try simp -implicitDefEqProofs [h1', l1, c0', h2', l2, c1', w1, n_id3_id2, n_id2_id3]))
  refine AWp.mint 6 3 [] true (by simp [Try.ntmps36]) (.inr ⟨by simp, rfl, rfl⟩) ?_
  simp -implicitDefEqProofs [n_id3_id2, n_id2_id3]
  intro tk n_tk_id3 n_tk_id2 h_tk
  have n_id3_tk : ¬ id3 = tk := fun e => n_tk_id3 e.symm
  have n_id2_tk : ¬ id2 = tk := fun e => n_tk_id2 e.symm
  obtain ⟨B, B_s, hB2, hB3, eq_B, le_B⟩ : ∃ B : AS, ((σ.set id2 (.cells 67 [.sc (.int .i64 0), .nilS, .sc (.int .i64 0), .sc (.int .i64 0)])).set id3 (.cells 67 [.sc (.int .i64 0), .nilS, .sc (.int .i64 b.length), .sc (.int .i64 1)])) = B ∧ B id2 = some (.cells 67 [.sc (.int .i64 0), .nilS, .sc (.int .i64 0), .sc (.int .i64 0)]) ∧ B id3 = some (.cells 67 [.sc (.int .i64 0), .nilS, .sc (.int .i64 b.length), .sc (.int .i64 1)]) ∧ (∀ j, j ≠ id2 → j ≠ id3 → B j = σ j) ∧ (∀ S' : AS, (∀ j, j ≠ id2 → j ≠ id3 → ∀ y, B j = some y → S' j = some y) → AS.le σ S') := by
    refine ⟨_, rfl, by simp [n_id2_id3, n_id3_id2], by simp [n_id2_id3, n_id3_id2], ?_, ?_⟩
    · intro j e_id2 e_id3; simp [AS.set, e_id2, e_id3]
    intro S' h j x hj
    have e_id2 : j ≠ id2 := by rintro rfl; rw [h_id2] at hj; cases hj
    have e_id3 : j ≠ id3 := by rintro rfl; rw [h_id3] at hj; cases hj
    exact h j e_id2 e_id3 x (by simp [AS.set, e_id2, e_id3, hj])
  simp only [B_s]
  clear B_s
  have hBt : B tk = none := by rw [eq_B tk n_tk_id2 n_tk_id3]; exact h_tk
  repeat (first
    | (with_reducible apply AWp.seq)
    | (with_reducible apply AWp.block)
    | ((with_reducible apply AWp.fork); simp -implicitDefEqProofs [n_id3_id2, n_id2_id3, n_tk_id3, n_id3_tk, n_tk_id2, n_id2_tk, hB2, hB3])
    | ((with_reducible apply AWp.region); simp -implicitDefEqProofs [n_id3_id2, n_id2_id3, n_tk_id3, n_id3_tk, n_tk_id2, n_id2_tk, hB2, hB3])
    | (with_reducible refine And.intro (by first | omega | assumption | decide) ?_)
    | ((with_reducible show condK _ _ _); simp -implicitDefEqProofs [n_id3_id2, n_id2_id3, n_tk_id3, n_id3_tk, n_tk_id2, n_id2_tk, hB2, hB3])
    | ((with_reducible show guardK _ _ _ _ _ _ _ _ _); simp -implicitDefEqProofs [n_id3_id2, n_id2_id3, n_tk_id3, n_id3_tk, n_tk_id2, n_id2_tk, hB2, hB3])
    | (((with_reducible apply AWp.drawS (id := 44) (t := (Sch.step 0 (Sch.step 2 (Sch.step 3 (Sch.step 5 (Sch.step 8 (Sch.step 9 (Sch.read 4 (Sch.step 6 (Sch.read 7 (Sch.alt 1 (Sch.alt 10 (Sch.step 11 (Sch.alt 12 Sch.done Sch.none)) Sch.none) (Sch.alt 10 (Sch.read 1 (Sch.step 11 (Sch.alt 12 Sch.done Sch.none))) Sch.none))))))))))))); (exact mixed); kernel_rfl; kernel_rfl; (repeat (with_reducible first | apply PanQ.then | apply PanQ.block | apply PanQ.body | apply PanQ.no))); simp -implicitDefEqProofs [n_id3_id2, n_id2_id3, n_tk_id3, n_id3_tk, n_tk_id2, n_id2_tk, hB2, hB3])
    | ((with_reducible apply AWp.ret); try simp -implicitDefEqProofs [n_id3_id2, n_id2_id3, n_tk_id3, n_id3_tk, n_tk_id2, n_id2_tk, hB2, hB3])
    | ((with_reducible apply AWp.skip); try simp -implicitDefEqProofs [n_id3_id2, n_id2_id3, n_tk_id3, n_id3_tk, n_tk_id2, n_id2_tk, hB2, hB3])
    | ((with_reducible apply AWp.exit); try simp -implicitDefEqProofs [n_id3_id2, n_id2_id3, n_tk_id3, n_id3_tk, n_tk_id2, n_id2_tk, hB2, hB3]))
  refine AWp.loopI (rdA b (.lst 5 (b.map u8) o nl) b[1].toNat id2 id3 tk (rCnt b b[1].toNat 6 0 2) B) (k0 := 6) ⟨0, 2, [], rfl, by omega, by omega, rfl, preR_nil _, rfl, rfl⟩ (FrWk.mk (by simp)) (AS.le_refl _) ?_
  rintro m f σ' ⟨t, a, d, hm, ht, ha, hd, hX, hs, rfl⟩
  have s3 : σ' id3 = some (.cells 67 [.sc (.int .i64 0), .nilS, .sc (.int .i64 b.length), .sc (.int .i64 1)]) := by rw [hs]; simp [n_id3_tk, hB3]
  have s2 : σ' id2 = some (.cells 67 [.sc (.int .i64 0), .nilS, .sc (.int .i64 0), .sc (.int .i64 0)]) := by rw [hs]; simp [n_id2_tk, hB2]
  have sT : σ' tk = some (.tok d.length) := by rw [hs, hd]; simp
  have leS : ∀ x : ABlk, AS.le σ (σ'.set id2 x) := fun x => le_B _ fun j e1 e2 y hy => by
    have e3 : j ≠ tk := by rintro rfl; rw [hBt] at hy; cases hy
    rw [hs]; simp [AS.set, e1, e3, hy]
  have w2 : IntKind.i64.wrap ((b.length : Int) - a) = (b.length : Int) - a := in_i64 (by omega) (by omega)
  have short : rNum b a 2 = .error ((b.length : Int), 1) → rAll b = .error ((b.length : Int), 1) → readR b = (none, (b.length : Int), 1) := fun _ h => by unfold readR; rw [h]
  by_cases hlt : t < 6
  · have hT : ((t : Int) < 6) = True := by simp; omega
    rw [show 6 - t = (6 - (t + 1)) + 1 by omega, rCnt] at hX
    have hq2 : b[1].toNat / 2 ^ (t + 1) = b[1].toNat / 2 ^ t / 2 := by rw [Nat.pow_succ, Nat.div_div_eq_div_mul]
    have hq63 : b[1].toNat / 2 ^ t ≤ 63 := Nat.le_trans (Nat.div_le_self _ _) (by omega)
    generalize b[1].toNat / 2 ^ t = q at hX hq2 hq63 ⊢
    have e2 : (q : Int).tdiv 2 = ((q / 2 : Nat) : Int) := by rw [Int.tdiv_eq_ediv_of_nonneg (by omega)]; omega
    have e3 : IntKind.i64.wrap ((q / 2 : Nat) : Int) = ((q / 2 : Nat) : Int) := in_i64 (by omega) (by omega)
    have e6 : IntKind.i64.wrap ((q : Int) / 2) = (q : Int) / 2 := in_i64 (by omega) (by omega)
    have hd1 : d.length ≤ 1000 := by omega
    by_cases hq : q % 2 = 1
    · rw [if_pos hq] at hX
      have e1 : (q : Int).tmod 2 = 1 := by rw [Int.tmod_eq_emod_of_nonneg (by omega)]; omega
      by_cases hsh : a + 2 ≤ b.length
      · have hN : rNum b a 2 = .ok (numL (seg b a 2), a + 2) := by unfold rNum; rw [if_pos hsh]; rfl
        rw [hN] at hX
        simp only at hX
        rw [preR_app] at hX
        have hc : ((b.length : Int) - a < 2) = False := by simp; omega
        have hnum := fun σ => rnum_ok b o nl a 2 (by omega) (by omega) (by omega) (by omega) (by omega) σ
        have hv := seg_numR (n := 2) hsh (by omega)
        rw [show ((2 : Nat) : Int) = 2 from rfl] at hv
        generalize numL (seg b (a : Int) 2) = v at hX hnum hv
        have e4 : IntKind.i64.wrap v = v := in_i64 (by omega) (by omega)
        have e5 : IntKind.i64.wrap ((a : Int) + 2) = ((a + 2 : Nat) : Int) := by rw [in_i64 (by omega) (by omega)]; simp
        repeat (first
          | (with_reducible apply AWp.seq)
          | (with_reducible apply AWp.block)
          | ((with_reducible apply AWp.fork); simp -implicitDefEqProofs [hT, e1, hc, w2, e2, e3, e4, sT, hd1, n_id3_id2, n_id2_id3, n_tk_id3, n_id3_tk, n_tk_id2, n_id2_tk, hB2, hB3])
          | ((with_reducible apply AWp.region); simp -implicitDefEqProofs [hT, e1, hc, w2, e2, e3, e4, sT, hd1, n_id3_id2, n_id2_id3, n_tk_id3, n_id3_tk, n_tk_id2, n_id2_tk, hB2, hB3])
          | (with_reducible refine And.intro (by first | omega | assumption | decide) ?_)
          | ((with_reducible show condK _ _ _); simp -implicitDefEqProofs [hT, e1, hc, w2, e2, e3, e4, sT, hd1, n_id3_id2, n_id2_id3, n_tk_id3, n_id3_tk, n_tk_id2, n_id2_tk, hB2, hB3])
          | ((with_reducible show guardK _ _ _ _ _ _ _ _ _); simp -implicitDefEqProofs [hT, e1, hc, w2, e2, e3, e4, sT, hd1, n_id3_id2, n_id2_id3, n_tk_id3, n_id3_tk, n_tk_id2, n_id2_tk, hB2, hB3])
          | (((with_reducible apply AWp.drawS (id := 44) (t := (Sch.step 0 (Sch.step 2 (Sch.step 3 (Sch.step 5 (Sch.step 8 (Sch.step 9 (Sch.read 4 (Sch.step 6 (Sch.read 7 (Sch.alt 1 (Sch.alt 10 (Sch.step 11 (Sch.alt 12 Sch.done Sch.none)) Sch.none) (Sch.alt 10 (Sch.read 1 (Sch.step 11 (Sch.alt 12 Sch.done Sch.none))) Sch.none))))))))))))); (exact mixed); kernel_rfl; kernel_rfl; (repeat (with_reducible first | apply PanQ.then | apply PanQ.block | apply PanQ.body | apply PanQ.no))); simp -implicitDefEqProofs [hT, e1, hc, w2, e2, e3, e4, sT, hd1, n_id3_id2, n_id2_id3, n_tk_id3, n_id3_tk, n_tk_id2, n_id2_tk, hB2, hB3])
          | ((with_reducible apply aCall.id); first
              | ((apply aCall.gives (hnum _)); simp -implicitDefEqProofs [hT, e1, hc, w2, e2, e3, e4, sT, hd1, n_id3_id2, n_id2_id3, n_tk_id3, n_id3_tk, n_tk_id2, n_id2_tk, hB2, hB3]))
          | ((with_reducible apply AWp.ret); try simp -implicitDefEqProofs [hT, e1, hc, w2, e2, e3, e4, sT, hd1, n_id3_id2, n_id2_id3, n_tk_id3, n_id3_tk, n_tk_id2, n_id2_tk, hB2, hB3])
          | ((with_reducible apply AWp.skip); try simp -implicitDefEqProofs [hT, e1, hc, w2, e2, e3, e4, sT, hd1, n_id3_id2, n_id2_id3, n_tk_id3, n_id3_tk, n_tk_id2, n_id2_tk, hB2, hB3])
          | ((with_reducible apply AWp.exit); try simp -implicitDefEqProofs [hT, e1, hc, w2, e2, e3, e4, sT, hd1, n_id3_id2, n_id2_id3, n_tk_id3, n_id3_tk, n_tk_id2, n_id2_tk, hB2, hB3]))
        refine ⟨m - 1, _, _, by omega, FrWk.mk ?_, ?_, t + 1, a + 2, d ++ [v], by omega, by omega, hsh, by simp [hd], hX, rfl, rfl⟩
        · simp [wInc (show t < 4000000000000000000 by omega), e5, e6, hq2, i64v_def]
        · rw [hs, hd]; simp
      · have hN : rNum b a 2 = .error ((b.length : Int), 1) := by unfold rNum; rw [if_neg hsh]
        rw [hN] at hX
        simp only [preR] at hX
        have hc : ((b.length : Int) - a < 2) = True := by simp; omega
        rw [short hN (by rw [hA, ← hX])]
        repeat (first
          | (with_reducible apply AWp.seq)
          | (with_reducible apply AWp.block)
          | ((with_reducible apply AWp.fork); simp -implicitDefEqProofs [hT, e1, hc, w2, s2, s3, n_id3_id2, n_id2_id3, n_tk_id3, n_id3_tk, n_tk_id2, n_id2_tk, hB2, hB3])
          | ((with_reducible apply AWp.region); simp -implicitDefEqProofs [hT, e1, hc, w2, s2, s3, n_id3_id2, n_id2_id3, n_tk_id3, n_id3_tk, n_tk_id2, n_id2_tk, hB2, hB3])
          | (with_reducible refine And.intro (by first | omega | assumption | decide) ?_)
          | ((with_reducible show condK _ _ _); simp -implicitDefEqProofs [hT, e1, hc, w2, s2, s3, n_id3_id2, n_id2_id3, n_tk_id3, n_id3_tk, n_tk_id2, n_id2_tk, hB2, hB3])
          | ((with_reducible show guardK _ _ _ _ _ _ _ _ _); simp -implicitDefEqProofs [hT, e1, hc, w2, s2, s3, n_id3_id2, n_id2_id3, n_tk_id3, n_id3_tk, n_tk_id2, n_id2_tk, hB2, hB3])
          | (((with_reducible apply AWp.drawS (id := 44) (t := (Sch.step 0 (Sch.step 2 (Sch.step 3 (Sch.step 5 (Sch.step 8 (Sch.step 9 (Sch.read 4 (Sch.step 6 (Sch.read 7 (Sch.alt 1 (Sch.alt 10 (Sch.step 11 (Sch.alt 12 Sch.done Sch.none)) Sch.none) (Sch.alt 10 (Sch.read 1 (Sch.step 11 (Sch.alt 12 Sch.done Sch.none))) Sch.none))))))))))))); (exact mixed); kernel_rfl; kernel_rfl; (repeat (with_reducible first | apply PanQ.then | apply PanQ.block | apply PanQ.body | apply PanQ.no))); simp -implicitDefEqProofs [hT, e1, hc, w2, s2, s3, n_id3_id2, n_id2_id3, n_tk_id3, n_id3_tk, n_tk_id2, n_id2_tk, hB2, hB3])
          | ((with_reducible apply AWp.ret); try simp -implicitDefEqProofs [hT, e1, hc, w2, s2, s3, n_id3_id2, n_id2_id3, n_tk_id3, n_id3_tk, n_tk_id2, n_id2_tk, hB2, hB3])
          | ((with_reducible apply AWp.skip); try simp -implicitDefEqProofs [hT, e1, hc, w2, s2, s3, n_id3_id2, n_id2_id3, n_tk_id3, n_id3_tk, n_tk_id2, n_id2_tk, hB2, hB3])
          | ((with_reducible apply AWp.exit); try simp -implicitDefEqProofs [hT, e1, hc, w2, s2, s3, n_id3_id2, n_id2_id3, n_tk_id3, n_id3_tk, n_tk_id2, n_id2_tk, hB2, hB3]))
        exact ⟨Wk_gotN, leS _⟩
    · rw [if_neg hq, preR_app] at hX
      have e1 : (q : Int).tmod 2 = 0 := by rw [Int.tmod_eq_emod_of_nonneg (by omega)]; omega
      repeat (first
        | (with_reducible apply AWp.seq)
        | (with_reducible apply AWp.block)
        | ((with_reducible apply AWp.fork); simp -implicitDefEqProofs [hT, e1, e2, e3, sT, hd1, n_id3_id2, n_id2_id3, n_tk_id3, n_id3_tk, n_tk_id2, n_id2_tk, hB2, hB3])
        | ((with_reducible apply AWp.region); simp -implicitDefEqProofs [hT, e1, e2, e3, sT, hd1, n_id3_id2, n_id2_id3, n_tk_id3, n_id3_tk, n_tk_id2, n_id2_tk, hB2, hB3])
        | (with_reducible refine And.intro (by first | omega | assumption | decide) ?_)
        | ((with_reducible show condK _ _ _); simp -implicitDefEqProofs [hT, e1, e2, e3, sT, hd1, n_id3_id2, n_id2_id3, n_tk_id3, n_id3_tk, n_tk_id2, n_id2_tk, hB2, hB3])
        | ((with_reducible show guardK _ _ _ _ _ _ _ _ _); simp -implicitDefEqProofs [hT, e1, e2, e3, sT, hd1, n_id3_id2, n_id2_id3, n_tk_id3, n_id3_tk, n_tk_id2, n_id2_tk, hB2, hB3])
        | (((with_reducible apply AWp.drawS (id := 44) (t := (Sch.step 0 (Sch.step 2 (Sch.step 3 (Sch.step 5 (Sch.step 8 (Sch.step 9 (Sch.read 4 (Sch.step 6 (Sch.read 7 (Sch.alt 1 (Sch.alt 10 (Sch.step 11 (Sch.alt 12 Sch.done Sch.none)) Sch.none) (Sch.alt 10 (Sch.read 1 (Sch.step 11 (Sch.alt 12 Sch.done Sch.none))) Sch.none))))))))))))); (exact mixed); kernel_rfl; kernel_rfl; (repeat (with_reducible first | apply PanQ.then | apply PanQ.block | apply PanQ.body | apply PanQ.no))); simp -implicitDefEqProofs [hT, e1, e2, e3, sT, hd1, n_id3_id2, n_id2_id3, n_tk_id3, n_id3_tk, n_tk_id2, n_id2_tk, hB2, hB3])
        | ((with_reducible apply AWp.ret); try simp -implicitDefEqProofs [hT, e1, e2, e3, sT, hd1, n_id3_id2, n_id2_id3, n_tk_id3, n_id3_tk, n_tk_id2, n_id2_tk, hB2, hB3])
        | ((with_reducible apply AWp.skip); try simp -implicitDefEqProofs [hT, e1, e2, e3, sT, hd1, n_id3_id2, n_id2_id3, n_tk_id3, n_id3_tk, n_tk_id2, n_id2_tk, hB2, hB3])
        | ((with_reducible apply AWp.exit); try simp -implicitDefEqProofs [hT, e1, e2, e3, sT, hd1, n_id3_id2, n_id2_id3, n_tk_id3, n_id3_tk, n_tk_id2, n_id2_tk, hB2, hB3]))
      refine ⟨m - 1, _, _, by omega, FrWk.mk ?_, ?_, t + 1, a, d ++ [0], by omega, by omega, ha, by simp [hd], hX, rfl, rfl⟩
      · simp [wInc (show t < 4000000000000000000 by omega), e6, hq2, i64v_def]
      · rw [hs, hd]; simp
  · have hT : ((t : Int) < 6) = False := by simp; omega
    obtain rfl : t = 6 := by omega
    have hXe : rCnt b b[1].toNat 6 0 2 = .ok (d, a) := by rw [← hX]; simp [rCnt, preR]
    obtain ⟨hdp, _⟩ := rCnt_pos hXe (by omega)
    rw [hXe] at hA
    simp only at hA
    clear hX hXe hm
    by_cases hsh : a + 2 ≤ b.length
    · have hN : rNum b a 2 = .ok (numL (seg b a 2), a + 2) := by unfold rNum; rw [if_pos hsh]; rfl
      rw [hN] at hA
      simp only at hA
      have hc : ((b.length : Int) - a < 2) = False := by simp; omega
      have hnum := fun σ => rnum_ok b o nl a 2 (by omega) (by omega) (by omega) (by omega) (by omega) σ
      have hv := seg_numR (n := 2) hsh (by omega)
      rw [show ((2 : Nat) : Int) = 2 from rfl] at hv
      generalize numL (seg b (a : Int) 2) = v at hA hnum hv
      have e4 : IntKind.i64.wrap v = v := in_i64 (by omega) (by omega)
      have e5 : IntKind.i64.wrap ((a : Int) + 2) = ((a + 2 : Nat) : Int) := by rw [in_i64 (by omega) (by omega)]; simp
      repeat (first
        | (with_reducible apply AWp.seq)
        | (with_reducible apply AWp.block)
        | ((with_reducible apply AWp.fork); simp -implicitDefEqProofs [hT, hc, w2, e4, n_id3_id2, n_id2_id3, n_tk_id3, n_id3_tk, n_tk_id2, n_id2_tk, hB2, hB3])
        | ((with_reducible apply AWp.region); simp -implicitDefEqProofs [hT, hc, w2, e4, n_id3_id2, n_id2_id3, n_tk_id3, n_id3_tk, n_tk_id2, n_id2_tk, hB2, hB3])
        | (with_reducible refine And.intro (by first | omega | assumption | decide) ?_)
        | ((with_reducible show condK _ _ _); simp -implicitDefEqProofs [hT, hc, w2, e4, n_id3_id2, n_id2_id3, n_tk_id3, n_id3_tk, n_tk_id2, n_id2_tk, hB2, hB3])
        | ((with_reducible show guardK _ _ _ _ _ _ _ _ _); simp -implicitDefEqProofs [hT, hc, w2, e4, n_id3_id2, n_id2_id3, n_tk_id3, n_id3_tk, n_tk_id2, n_id2_tk, hB2, hB3])
        | (((with_reducible apply AWp.drawS (id := 44) (t := (Sch.step 0 (Sch.step 2 (Sch.step 3 (Sch.step 5 (Sch.step 8 (Sch.step 9 (Sch.read 4 (Sch.step 6 (Sch.read 7 (Sch.alt 1 (Sch.alt 10 (Sch.step 11 (Sch.alt 12 Sch.done Sch.none)) Sch.none) (Sch.alt 10 (Sch.read 1 (Sch.step 11 (Sch.alt 12 Sch.done Sch.none))) Sch.none))))))))))))); (exact mixed); kernel_rfl; kernel_rfl; (repeat (with_reducible first | apply PanQ.then | apply PanQ.block | apply PanQ.body | apply PanQ.no))); simp -implicitDefEqProofs [hT, hc, w2, e4, n_id3_id2, n_id2_id3, n_tk_id3, n_id3_tk, n_tk_id2, n_id2_tk, hB2, hB3])
        | ((with_reducible apply aCall.id); first
            | ((apply aCall.gives (hnum _)); simp -implicitDefEqProofs [hT, hc, w2, e4, n_id3_id2, n_id2_id3, n_tk_id3, n_id3_tk, n_tk_id2, n_id2_tk, hB2, hB3]))
        | ((with_reducible apply AWp.ret); try simp -implicitDefEqProofs [hT, hc, w2, e4, n_id3_id2, n_id2_id3, n_tk_id3, n_id3_tk, n_tk_id2, n_id2_tk, hB2, hB3])
        | ((with_reducible apply AWp.skip); try simp -implicitDefEqProofs [hT, hc, w2, e4, n_id3_id2, n_id2_id3, n_tk_id3, n_id3_tk, n_tk_id2, n_id2_tk, hB2, hB3])
        | ((with_reducible apply AWp.exit); try simp -implicitDefEqProofs [hT, hc, w2, e4, n_id3_id2, n_id2_id3, n_tk_id3, n_id3_tk, n_tk_id2, n_id2_tk, hB2, hB3]))
      intro id9 h_id9
      repeat (first
        | (with_reducible apply AWp.seq)
        | (with_reducible apply AWp.block)
        | ((with_reducible apply AWp.fork); simp -implicitDefEqProofs [n_id3_id2, n_id2_id3, n_tk_id3, n_id3_tk, n_tk_id2, n_id2_tk, hB2, hB3])
        | ((with_reducible apply AWp.region); simp -implicitDefEqProofs [n_id3_id2, n_id2_id3, n_tk_id3, n_id3_tk, n_tk_id2, n_id2_tk, hB2, hB3])
        | (with_reducible refine And.intro (by first | omega | assumption | decide) ?_)
        | ((with_reducible show condK _ _ _); simp -implicitDefEqProofs [n_id3_id2, n_id2_id3, n_tk_id3, n_id3_tk, n_tk_id2, n_id2_tk, hB2, hB3])
        | ((with_reducible show guardK _ _ _ _ _ _ _ _ _); simp -implicitDefEqProofs [n_id3_id2, n_id2_id3, n_tk_id3, n_id3_tk, n_tk_id2, n_id2_tk, hB2, hB3])
        | (((with_reducible apply AWp.drawS (id := 44) (t := (Sch.step 0 (Sch.step 2 (Sch.step 3 (Sch.step 5 (Sch.step 8 (Sch.step 9 (Sch.read 4 (Sch.step 6 (Sch.read 7 (Sch.alt 1 (Sch.alt 10 (Sch.step 11 (Sch.alt 12 Sch.done Sch.none)) Sch.none) (Sch.alt 10 (Sch.read 1 (Sch.step 11 (Sch.alt 12 Sch.done Sch.none))) Sch.none))))))))))))); (exact mixed); kernel_rfl; kernel_rfl; (repeat (with_reducible first | apply PanQ.then | apply PanQ.block | apply PanQ.body | apply PanQ.no))); simp -implicitDefEqProofs [n_id3_id2, n_id2_id3, n_tk_id3, n_id3_tk, n_tk_id2, n_id2_tk, hB2, hB3])
        | ((with_reducible apply AWp.ret); try simp -implicitDefEqProofs [n_id3_id2, n_id2_id3, n_tk_id3, n_id3_tk, n_tk_id2, n_id2_tk, hB2, hB3])
        | ((with_reducible apply AWp.skip); try simp -implicitDefEqProofs [n_id3_id2, n_id2_id3, n_tk_id3, n_id3_tk, n_tk_id2, n_id2_tk, hB2, hB3])
        | ((with_reducible apply AWp.exit); try simp -implicitDefEqProofs [n_id3_id2, n_id2_id3, n_tk_id3, n_id3_tk, n_tk_id2, n_id2_tk, hB2, hB3]))
      intro w n_w_id9 h_w
      have n_id9_w : ¬ id9 = w := fun e => n_w_id9 e.symm
      have n_id9_tk : ¬ id9 = tk := by rintro rfl; rw [sT] at h_id9; cases h_id9
      have n_tk_id9 : ¬ tk = id9 := fun e => n_id9_tk e.symm
      have n_w_tk : ¬ w = tk := by rintro rfl; rw [sT] at h_w; cases h_w
      have n_tk_w : ¬ tk = w := fun e => n_w_tk e.symm
      simp -implicitDefEqProofs [n_w_id9, n_id9_w, n_id3_id2, n_id2_id3, n_tk_id3, n_id3_tk, n_tk_id2, n_id2_tk, hB2, hB3]
      repeat (first
        | (with_reducible apply AWp.seq)
        | (with_reducible apply AWp.block)
        | ((with_reducible apply AWp.fork); simp -implicitDefEqProofs [e5, n_id3_id2, n_id2_id3, n_tk_id3, n_id3_tk, n_tk_id2, n_id2_tk, hB2, hB3])
        | ((with_reducible apply AWp.region); simp -implicitDefEqProofs [e5, n_id3_id2, n_id2_id3, n_tk_id3, n_id3_tk, n_tk_id2, n_id2_tk, hB2, hB3])
        | (with_reducible refine And.intro (by first | omega | assumption | decide) ?_)
        | ((with_reducible show condK _ _ _); simp -implicitDefEqProofs [e5, n_id3_id2, n_id2_id3, n_tk_id3, n_id3_tk, n_tk_id2, n_id2_tk, hB2, hB3])
        | ((with_reducible show guardK _ _ _ _ _ _ _ _ _); simp -implicitDefEqProofs [e5, n_id3_id2, n_id2_id3, n_tk_id3, n_id3_tk, n_tk_id2, n_id2_tk, hB2, hB3])
        | (((with_reducible apply AWp.drawS (id := 44) (t := (Sch.step 0 (Sch.step 2 (Sch.step 3 (Sch.step 5 (Sch.step 8 (Sch.step 9 (Sch.read 4 (Sch.step 6 (Sch.read 7 (Sch.alt 1 (Sch.alt 10 (Sch.step 11 (Sch.alt 12 Sch.done Sch.none)) Sch.none) (Sch.alt 10 (Sch.read 1 (Sch.step 11 (Sch.alt 12 Sch.done Sch.none))) Sch.none))))))))))))); (exact mixed); kernel_rfl; kernel_rfl; (repeat (with_reducible first | apply PanQ.then | apply PanQ.block | apply PanQ.body | apply PanQ.no))); simp -implicitDefEqProofs [e5, n_id3_id2, n_id2_id3, n_tk_id3, n_id3_tk, n_tk_id2, n_id2_tk, hB2, hB3])
        | ((with_reducible apply AWp.ret); try simp -implicitDefEqProofs [e5, n_id3_id2, n_id2_id3, n_tk_id3, n_id3_tk, n_tk_id2, n_id2_tk, hB2, hB3])
        | ((with_reducible apply AWp.skip); try simp -implicitDefEqProofs [e5, n_id3_id2, n_id2_id3, n_tk_id3, n_id3_tk, n_tk_id2, n_id2_tk, hB2, hB3])
        | ((with_reducible apply AWp.exit); try simp -implicitDefEqProofs [e5, n_id3_id2, n_id2_id3, n_tk_id3, n_id3_tk, n_tk_id2, n_id2_tk, hB2, hB3]))
      obtain ⟨S, hS⟩ : ∃ S : AS, S = σ'.set id9 (.cells 24 [.sc (.int .i64 v), .msl w 0 6 6]) := ⟨_, rfl⟩
      refine AWp.loopI (rdO b (.lst 5 (b.map u8) o nl) b[0].toNat d id2 id3 id9 w tk (rTbs b b[0].toNat d 0 (a + 2)) S) (k0 := 6) ⟨0, a + 2, [], rfl, by omega, hsh, rfl, preR_nil _, rfl, rfl⟩ (FrWk.mk ?_) ?_ ?_
      · simp
      · rw [hS]
        exact AS.le_refl _
      rintro m2 f σ2 ⟨t, a5, T, hm2, ht2, ha5, hT5, hX2, hs2, rfl⟩
      have kW : σ2 w = some (.cells 69 (T.map tV ++ List.replicate (6 - t) .nilS)) := by rw [hs2]; simp
      have k9 : σ2 id9 = some (.cells 24 [.sc (.int .i64 v), .msl w 0 6 6]) := by rw [hs2, hS]; simp [n_id9_w]
      have n_id3_w : ¬ id3 = w := by rintro rfl; rw [s3] at h_w; cases h_w
      have n_id2_w : ¬ id2 = w := by rintro rfl; rw [s2] at h_w; cases h_w
      have n_id3_id9 : ¬ id3 = id9 := by rintro rfl; rw [s3] at h_id9; cases h_id9
      have n_id2_id9 : ¬ id2 = id9 := by rintro rfl; rw [s2] at h_id9; cases h_id9
      have k3 : σ2 id3 = some (.cells 67 [.sc (.int .i64 0), .nilS, .sc (.int .i64 b.length), .sc (.int .i64 1)]) := by rw [hs2, hS]; simp [n_id3_w, n_id3_id9, s3]
      have k2 : σ2 id2 = some (.cells 67 [.sc (.int .i64 0), .nilS, .sc (.int .i64 0), .sc (.int .i64 0)]) := by rw [hs2, hS]; simp [n_id2_w, n_id2_id9, s2]
      by_cases hlt : t < 6
      · have hT6 : ((t : Int) < 6) = True := by simp; omega
        have htd : t < d.length := by omega
        have hdc := hdp d[t] (List.getElem_mem htd)
        rw [List.drop_eq_getElem_cons htd, rTbs] at hX2
        obtain ⟨c, hc'⟩ := Int.eq_ofNat_of_zero_le hdc.1
        rw [hc'] at hX2
        simp only [Int.toNat_natCast] at hX2
        have hrp : List.replicate (6 - t) AV.nilS = .nilS :: List.replicate (5 - t) .nilS := by rw [show 6 - t = (5 - t) + 1 by omega]; rfl
        have hTl : (T.map tV).length = t := by simpa using hT5
        rw [hrp] at kW
        refine AWp.mintC w t 70 [] true kW (by simp [hT5]) (.inr ⟨by have := getD_mid (T.map tV) AV.nilS (List.replicate (5 - t) AV.nilS); rwa [hTl] at this, rfl, rfl⟩) ?_
        intro tk2 h_tk2
        have hset := set_mid (T.map tV) AV.nilS (AV.lst 70 [] (.tok tk2) true) (List.replicate (5 - t) AV.nilS)
        rw [hTl] at hset
        rw [hset]
        have n_id2_tk2 : ¬ id2 = tk2 := by rintro rfl; rw [k2] at h_tk2; cases h_tk2
        have n_tk2_id2 : ¬ tk2 = id2 := fun e => n_id2_tk2 e.symm
        have n_id3_tk2 : ¬ id3 = tk2 := by rintro rfl; rw [k3] at h_tk2; cases h_tk2
        have n_tk2_id3 : ¬ tk2 = id3 := fun e => n_id3_tk2 e.symm
        have n_w_tk2 : ¬ w = tk2 := by rintro rfl; rw [kW] at h_tk2; cases h_tk2
        have n_tk2_w : ¬ tk2 = w := fun e => n_w_tk2 e.symm
        have n_id9_tk2 : ¬ id9 = tk2 := by rintro rfl; rw [k9] at h_tk2; cases h_tk2
        have n_tk2_id9 : ¬ tk2 = id9 := fun e => n_id9_tk2 e.symm
        have hgd : ∀ hh, (List.map i64v d)[t]'hh = .sc (.int .i64 c) := fun hh => by simp [i64v_def, hc']
        repeat (first
          | (with_reducible apply AWp.seq)
          | (with_reducible apply AWp.block)
          | ((with_reducible apply AWp.fork); simp -implicitDefEqProofs [hT6, n_id3_id2, n_id2_id3, n_tk_id3, n_id3_tk, n_tk_id2, n_id2_tk, hB2, hB3, n_tk2_id2, n_id2_tk2, k2, n_tk2_id3, n_id3_tk2, k3, n_tk2_w, n_w_tk2, kW, n_tk2_id9, n_id9_tk2, k9])
          | ((with_reducible apply AWp.region); simp -implicitDefEqProofs [hT6, n_id3_id2, n_id2_id3, n_tk_id3, n_id3_tk, n_tk_id2, n_id2_tk, hB2, hB3, n_tk2_id2, n_id2_tk2, k2, n_tk2_id3, n_id3_tk2, k3, n_tk2_w, n_w_tk2, kW, n_tk2_id9, n_id9_tk2, k9])
          | (with_reducible refine And.intro (by first | omega | assumption | decide) ?_)
          | ((with_reducible show condK _ _ _); simp -implicitDefEqProofs [hT6, n_id3_id2, n_id2_id3, n_tk_id3, n_id3_tk, n_tk_id2, n_id2_tk, hB2, hB3, n_tk2_id2, n_id2_tk2, k2, n_tk2_id3, n_id3_tk2, k3, n_tk2_w, n_w_tk2, kW, n_tk2_id9, n_id9_tk2, k9])
          | ((with_reducible show guardK _ _ _ _ _ _ _ _ _); simp -implicitDefEqProofs [hT6, n_id3_id2, n_id2_id3, n_tk_id3, n_id3_tk, n_tk_id2, n_id2_tk, hB2, hB3, n_tk2_id2, n_id2_tk2, k2, n_tk2_id3, n_id3_tk2, k3, n_tk2_w, n_w_tk2, kW, n_tk2_id9, n_id9_tk2, k9])
          | (((with_reducible apply AWp.drawS (id := 44) (t := (Sch.step 0 (Sch.step 2 (Sch.step 3 (Sch.step 5 (Sch.step 8 (Sch.step 9 (Sch.read 4 (Sch.step 6 (Sch.read 7 (Sch.alt 1 (Sch.alt 10 (Sch.step 11 (Sch.alt 12 Sch.done Sch.none)) Sch.none) (Sch.alt 10 (Sch.read 1 (Sch.step 11 (Sch.alt 12 Sch.done Sch.none))) Sch.none))))))))))))); (exact mixed); kernel_rfl; kernel_rfl; (repeat (with_reducible first | apply PanQ.then | apply PanQ.block | apply PanQ.body | apply PanQ.no))); simp -implicitDefEqProofs [hT6, n_id3_id2, n_id2_id3, n_tk_id3, n_id3_tk, n_tk_id2, n_id2_tk, hB2, hB3, n_tk2_id2, n_id2_tk2, k2, n_tk2_id3, n_id3_tk2, k3, n_tk2_w, n_w_tk2, kW, n_tk2_id9, n_id9_tk2, k9])
          | ((with_reducible apply AWp.ret); try simp -implicitDefEqProofs [hT6, n_id3_id2, n_id2_id3, n_tk_id3, n_id3_tk, n_tk_id2, n_id2_tk, hB2, hB3, n_tk2_id2, n_id2_tk2, k2, n_tk2_id3, n_id3_tk2, k3, n_tk2_w, n_w_tk2, kW, n_tk2_id9, n_id9_tk2, k9])
          | ((with_reducible apply AWp.skip); try simp -implicitDefEqProofs [hT6, n_id3_id2, n_id2_id3, n_tk_id3, n_id3_tk, n_tk_id2, n_id2_tk, hB2, hB3, n_tk2_id2, n_id2_tk2, k2, n_tk2_id3, n_id3_tk2, k3, n_tk2_w, n_w_tk2, kW, n_tk2_id9, n_id9_tk2, k9])
          | ((with_reducible apply AWp.exit); try simp -implicitDefEqProofs [hT6, n_id3_id2, n_id2_id3, n_tk_id3, n_id3_tk, n_tk_id2, n_id2_tk, hB2, hB3, n_tk2_id2, n_id2_tk2, k2, n_tk2_id3, n_id3_tk2, k3, n_tk2_w, n_w_tk2, kW, n_tk2_id9, n_id9_tk2, k9]))
        refine AWp.loopI (rdI b (.lst 5 (b.map u8) o nl) b[0].toNat d t c T id2 id3 id9 w tk tk2 (rRws b b[0].toNat (kindsL (t : Int)) c a5) σ2) (k0 := c) ⟨0, a5, [], by omega, by omega, ha5, rfl, preR_nil _, rfl, rfl⟩ (FrWk.mk ?_) ?_ ?_
        · simp
        · rw [List.map_nil, show decide (([] : List (List Int)) = []) = true from rfl]
          exact AS.le_refl _
        rintro m3 f σ3 ⟨i, a6, L, hm3, hi3, ha6, hL, hX3, hs3, rfl⟩
        have j9 : σ3 id9 = some (.cells 24 [.sc (.int .i64 v), .msl w 0 6 6]) := by rw [hs3]; simp [n_id9_tk2, n_id9_w, k9]
        have j3 : σ3 id3 = some (.cells 67 [.sc (.int .i64 0), .nilS, .sc (.int .i64 b.length), .sc (.int .i64 1)]) := by rw [hs3]; simp [n_id3_tk2, n_id3_w, k3]
        have j2 : σ3 id2 = some (.cells 67 [.sc (.int .i64 0), .nilS, .sc (.int .i64 0), .sc (.int .i64 0)]) := by rw [hs3]; simp [n_id2_tk2, n_id2_w, k2]
        have jT : σ3 tk2 = some (.tok L.length) := by rw [hs3, hL]; simp
        have jW : σ3 w = some (.cells 69 (T.map tV ++ .lst 70 (L.map rowV) (.tok tk2) (decide (L = [])) :: List.replicate (5 - t) .nilS)) := by rw [hs3]; simp [n_w_tk2]
        by_cases hic : i < c
        · have hIc : ((i : Int) < c) = True := by simp; omega
          rw [show c - i = (c - (i + 1)) + 1 by omega, rRws] at hX3
          repeat (first
            | (with_reducible apply AWp.seq)
            | (with_reducible apply AWp.block)
            | ((with_reducible apply AWp.fork); simp -implicitDefEqProofs [hT6, hgd, hlt, htd, hd, hIc, n_id3_id2, n_id2_id3, n_tk_id3, n_id3_tk, n_tk_id2, n_id2_tk, hB2, hB3, n_tk2_id2, n_id2_tk2, k2, n_tk2_id3, n_id3_tk2, k3, n_tk2_w, n_w_tk2, kW, n_tk2_id9, n_id9_tk2, k9])
            | ((with_reducible apply AWp.region); simp -implicitDefEqProofs [hT6, hgd, hlt, htd, hd, hIc, n_id3_id2, n_id2_id3, n_tk_id3, n_id3_tk, n_tk_id2, n_id2_tk, hB2, hB3, n_tk2_id2, n_id2_tk2, k2, n_tk2_id3, n_id3_tk2, k3, n_tk2_w, n_w_tk2, kW, n_tk2_id9, n_id9_tk2, k9])
            | (with_reducible refine And.intro (by first | omega | assumption | decide) ?_)
            | ((with_reducible show condK _ _ _); simp -implicitDefEqProofs [hT6, hgd, hlt, htd, hd, hIc, n_id3_id2, n_id2_id3, n_tk_id3, n_id3_tk, n_tk_id2, n_id2_tk, hB2, hB3, n_tk2_id2, n_id2_tk2, k2, n_tk2_id3, n_id3_tk2, k3, n_tk2_w, n_w_tk2, kW, n_tk2_id9, n_id9_tk2, k9])
            | ((with_reducible show guardK _ _ _ _ _ _ _ _ _); simp -implicitDefEqProofs [hT6, hgd, hlt, htd, hd, hIc, n_id3_id2, n_id2_id3, n_tk_id3, n_id3_tk, n_tk_id2, n_id2_tk, hB2, hB3, n_tk2_id2, n_id2_tk2, k2, n_tk2_id3, n_id3_tk2, k3, n_tk2_w, n_w_tk2, kW, n_tk2_id9, n_id9_tk2, k9])
            | (((with_reducible apply AWp.drawS (id := 44) (t := (Sch.step 0 (Sch.step 2 (Sch.step 3 (Sch.step 5 (Sch.step 8 (Sch.step 9 (Sch.read 4 (Sch.step 6 (Sch.read 7 (Sch.alt 1 (Sch.alt 10 (Sch.step 11 (Sch.alt 12 Sch.done Sch.none)) Sch.none) (Sch.alt 10 (Sch.read 1 (Sch.step 11 (Sch.alt 12 Sch.done Sch.none))) Sch.none))))))))))))); (exact mixed); kernel_rfl; kernel_rfl; (repeat (with_reducible first | apply PanQ.then | apply PanQ.block | apply PanQ.body | apply PanQ.no))); simp -implicitDefEqProofs [hT6, hgd, hlt, htd, hd, hIc, n_id3_id2, n_id2_id3, n_tk_id3, n_id3_tk, n_tk_id2, n_id2_tk, hB2, hB3, n_tk2_id2, n_id2_tk2, k2, n_tk2_id3, n_id3_tk2, k3, n_tk2_w, n_w_tk2, kW, n_tk2_id9, n_id9_tk2, k9])
            | ((with_reducible apply AWp.ret); try simp -implicitDefEqProofs [hT6, hgd, hlt, htd, hd, hIc, n_id3_id2, n_id2_id3, n_tk_id3, n_id3_tk, n_tk_id2, n_id2_tk, hB2, hB3, n_tk2_id2, n_id2_tk2, k2, n_tk2_id3, n_id3_tk2, k3, n_tk2_w, n_w_tk2, kW, n_tk2_id9, n_id9_tk2, k9])
            | ((with_reducible apply AWp.skip); try simp -implicitDefEqProofs [hT6, hgd, hlt, htd, hd, hIc, n_id3_id2, n_id2_id3, n_tk_id3, n_id3_tk, n_tk_id2, n_id2_tk, hB2, hB3, n_tk2_id2, n_id2_tk2, k2, n_tk2_id3, n_id3_tk2, k3, n_tk2_w, n_w_tk2, kW, n_tk2_id9, n_id9_tk2, k9])
            | ((with_reducible apply AWp.exit); try simp -implicitDefEqProofs [hT6, hgd, hlt, htd, hd, hIc, n_id3_id2, n_id2_id3, n_tk_id3, n_id3_tk, n_tk_id2, n_id2_tk, hB2, hB3, n_tk2_id2, n_id2_tk2, k2, n_tk2_id3, n_id3_tk2, k3, n_tk2_w, n_w_tk2, kW, n_tk2_id9, n_id9_tk2, k9]))
          refine AWp.mint 12 3 [] true (by simp [Try.ntmps36]) (.inr ⟨by simp, rfl, rfl⟩) ?_
          intro tk3 h_tk3
          have n_id2_tk3 : ¬ id2 = tk3 := by rintro rfl; rw [j2] at h_tk3; cases h_tk3
          have n_tk3_id2 : ¬ tk3 = id2 := fun e => n_id2_tk3 e.symm
          have n_id3_tk3 : ¬ id3 = tk3 := by rintro rfl; rw [j3] at h_tk3; cases h_tk3
          have n_tk3_id3 : ¬ tk3 = id3 := fun e => n_id3_tk3 e.symm
          have n_w_tk3 : ¬ w = tk3 := by rintro rfl; rw [jW] at h_tk3; cases h_tk3
          have n_tk3_w : ¬ tk3 = w := fun e => n_w_tk3 e.symm
          have n_id9_tk3 : ¬ id9 = tk3 := by rintro rfl; rw [j9] at h_tk3; cases h_tk3
          have n_tk3_id9 : ¬ tk3 = id9 := fun e => n_id9_tk3 e.symm
          have n_tk2_tk3 : ¬ tk2 = tk3 := by rintro rfl; rw [jT] at h_tk3; cases h_tk3
          have n_tk3_tk2 : ¬ tk3 = tk2 := fun e => n_tk2_tk3 e.symm
          refine AWp.loopI (rdCol b (.lst 5 (b.map u8) o nl) b[0].toNat d t i id2 id3 id9 tk tk3 (rRow b b[0].toNat (kindsL (t : Int)) a6) σ3) (k0 := (kindsL (t : Int)).length) ⟨0, a6, [], by omega, by omega, ha6, rfl, preR_nil _, rfl, rfl⟩ (FrWk.mk ?_) ?_ ?_
          · simp
          · simp
          rintro m4 f σ4 ⟨q, a7, r, hm4, hq4, ha7, hr4, hX4, hs4, rfl⟩
          have hcol := fun σ => rcolumns_ok (t : Int) σ
          by_cases hqk : q < (kindsL (t : Int)).length
          · have hQ : ((q : Int) < ((kindsL (t : Int)).length : Int)) = True := by simp; omega
            obtain ⟨kd, hg, hdr, hmem, _⟩ := at_lt (kindsL (t : Int)) hqk
            have hwd := fun σ => rwidth_ok t q b[0].toNat hlt hqk (by omega) σ
            rw [show (kindsL (t : Int)).getD q 0 = kd by rw [List.getD_eq_getElem?_getD, hg]; rfl] at hwd
            have w3 : IntKind.i64.wrap (b[0].toNat : Int) = (b[0].toNat : Int) := in_i64 (by omega) (by omega)
            rw [hdr, preR_row] at hX4
            have up2 : ∀ j y, σ' j = some y → j ≠ w ∧ σ2 j = some y := fun j y hy => by
              have m1 : j ≠ w := by rintro rfl; rw [h_w] at hy; cases hy
              have m2 : j ≠ id9 := by rintro rfl; rw [h_id9] at hy; cases hy
              exact ⟨m1, by rw [hs2, hS]; simp [AS.set, m1, m2, hy]⟩
            have up3 : ∀ j y, σ' j = some y → σ3 j = some y := fun j y hy => by
              obtain ⟨m1, hy2⟩ := up2 j y hy
              have m2 : j ≠ tk2 := by rintro rfl; rw [h_tk2] at hy2; cases hy2
              rw [hs3]; simp [AS.set, m1, m2, hy2]
            have up4 : ∀ j y, σ' j = some y → σ4 j = some y := fun j y hy => by
              have hy3 := up3 j y hy
              have m2 : j ≠ tk3 := by rintro rfl; rw [h_tk3] at hy3; cases hy3
              rw [hs4]; simp [AS.set, m2, hy3]
            have le4 : ∀ x : ABlk, AS.le σ (σ4.set id2 x) := fun x => AS.le_trans (leS x) fun j y hy => by
              by_cases e : j = id2
              · subst e; simpa [AS.set] using hy
              · have hy' : σ' j = some y := by simpa [AS.set, e] using hy
                simp [AS.set, e, up4 j y hy']
            have r2 := up4 id2 _ s2
            have r3 := up4 id3 _ s3
            have rT : σ4 tk3 = some (.tok r.length) := by rw [hs4, hr4]; simp
            have w4 : IntKind.i64.wrap ((b.length : Int) - a7) = (b.length : Int) - a7 := in_i64 (by omega) (by omega)
            have hw24 := wK_24 kd b[0].toNat
            obtain ⟨W, hW⟩ : ∃ W : Nat, wK kd b[0].toNat = W := ⟨(wK kd b[0].toNat).toNat, by rcases hw24 with e | e <;> rw [e] <;> rfl⟩
            rw [hW] at hX4 hwd hw24
            simp only [Int.toNat_natCast] at hX4
            by_cases hs5 : a7 + W ≤ b.length
            · have hN5 : rNum b a7 W = .ok (numL (seg b a7 W), a7 + W) := by unfold rNum; rw [if_pos hs5]
              rw [hN5] at hX4
              simp only at hX4
              have hc5 : ((b.length : Int) - a7 < W) = False := by simp; omega
              have hnum5 := fun σ => rnum_ok b o nl a7 W (by omega) (by omega) (by omega) (by omega) (by omega) σ
              have hv5 := seg_numR (n := W) hs5 (by omega)
              generalize numL (seg b (a7 : Int) (W : Int)) = v5 at hX4 hnum5 hv5
              have e6 : IntKind.i64.wrap v5 = v5 := in_i64 (by omega) (by omega)
              have e7 : IntKind.i64.wrap ((a7 : Int) + W) = ((a7 + W : Nat) : Int) := by rw [in_i64 (by omega) (by omega)]; simp
              have hr5 : r.length ≤ 1000 := by have := kinds_len (t : Int); omega
              repeat (first
                | (with_reducible apply AWp.seq)
                | (with_reducible apply AWp.block)
                | ((with_reducible apply AWp.fork); simp -implicitDefEqProofs [hQ, l1, w3, w4, hc5, e6, rT, hr5, n_id3_id2, n_id2_id3, n_tk_id3, n_id3_tk, n_tk_id2, n_id2_tk, hB2, hB3, n_tk2_id2, n_id2_tk2, k2, n_tk2_id3, n_id3_tk2, k3, n_tk2_w, n_w_tk2, kW, n_tk2_id9, n_id9_tk2, k9, n_tk3_id2, n_id2_tk3, j2, n_tk3_id3, n_id3_tk3, j3, n_tk3_w, n_w_tk3, jW, n_tk3_id9, n_id9_tk3, j9, n_tk3_tk2, n_tk2_tk3, jT])
                | ((with_reducible apply AWp.region); simp -implicitDefEqProofs [hQ, l1, w3, w4, hc5, e6, rT, hr5, n_id3_id2, n_id2_id3, n_tk_id3, n_id3_tk, n_tk_id2, n_id2_tk, hB2, hB3, n_tk2_id2, n_id2_tk2, k2, n_tk2_id3, n_id3_tk2, k3, n_tk2_w, n_w_tk2, kW, n_tk2_id9, n_id9_tk2, k9, n_tk3_id2, n_id2_tk3, j2, n_tk3_id3, n_id3_tk3, j3, n_tk3_w, n_w_tk3, jW, n_tk3_id9, n_id9_tk3, j9, n_tk3_tk2, n_tk2_tk3, jT])
                | (with_reducible refine And.intro (by first | omega | assumption | decide) ?_)
                | ((with_reducible show condK _ _ _); simp -implicitDefEqProofs [hQ, l1, w3, w4, hc5, e6, rT, hr5, n_id3_id2, n_id2_id3, n_tk_id3, n_id3_tk, n_tk_id2, n_id2_tk, hB2, hB3, n_tk2_id2, n_id2_tk2, k2, n_tk2_id3, n_id3_tk2, k3, n_tk2_w, n_w_tk2, kW, n_tk2_id9, n_id9_tk2, k9, n_tk3_id2, n_id2_tk3, j2, n_tk3_id3, n_id3_tk3, j3, n_tk3_w, n_w_tk3, jW, n_tk3_id9, n_id9_tk3, j9, n_tk3_tk2, n_tk2_tk3, jT])
                | ((with_reducible show guardK _ _ _ _ _ _ _ _ _); simp -implicitDefEqProofs [hQ, l1, w3, w4, hc5, e6, rT, hr5, n_id3_id2, n_id2_id3, n_tk_id3, n_id3_tk, n_tk_id2, n_id2_tk, hB2, hB3, n_tk2_id2, n_id2_tk2, k2, n_tk2_id3, n_id3_tk2, k3, n_tk2_w, n_w_tk2, kW, n_tk2_id9, n_id9_tk2, k9, n_tk3_id2, n_id2_tk3, j2, n_tk3_id3, n_id3_tk3, j3, n_tk3_w, n_w_tk3, jW, n_tk3_id9, n_id9_tk3, j9, n_tk3_tk2, n_tk2_tk3, jT])
                | (((with_reducible apply AWp.drawS (id := 44) (t := (Sch.step 0 (Sch.step 2 (Sch.step 3 (Sch.step 5 (Sch.step 8 (Sch.step 9 (Sch.read 4 (Sch.step 6 (Sch.read 7 (Sch.alt 1 (Sch.alt 10 (Sch.step 11 (Sch.alt 12 Sch.done Sch.none)) Sch.none) (Sch.alt 10 (Sch.read 1 (Sch.step 11 (Sch.alt 12 Sch.done Sch.none))) Sch.none))))))))))))); (exact mixed); kernel_rfl; kernel_rfl; (repeat (with_reducible first | apply PanQ.then | apply PanQ.block | apply PanQ.body | apply PanQ.no))); simp -implicitDefEqProofs [hQ, l1, w3, w4, hc5, e6, rT, hr5, n_id3_id2, n_id2_id3, n_tk_id3, n_id3_tk, n_tk_id2, n_id2_tk, hB2, hB3, n_tk2_id2, n_id2_tk2, k2, n_tk2_id3, n_id3_tk2, k3, n_tk2_w, n_w_tk2, kW, n_tk2_id9, n_id9_tk2, k9, n_tk3_id2, n_id2_tk3, j2, n_tk3_id3, n_id3_tk3, j3, n_tk3_w, n_w_tk3, jW, n_tk3_id9, n_id9_tk3, j9, n_tk3_tk2, n_tk2_tk3, jT])
                | ((with_reducible apply aCall.id); first
                    | ((apply aCall.gives (hcol _)); simp -implicitDefEqProofs [hQ, l1, w3, w4, hc5, e6, rT, hr5, n_id3_id2, n_id2_id3, n_tk_id3, n_id3_tk, n_tk_id2, n_id2_tk, hB2, hB3, n_tk2_id2, n_id2_tk2, k2, n_tk2_id3, n_id3_tk2, k3, n_tk2_w, n_w_tk2, kW, n_tk2_id9, n_id9_tk2, k9, n_tk3_id2, n_id2_tk3, j2, n_tk3_id3, n_id3_tk3, j3, n_tk3_w, n_w_tk3, jW, n_tk3_id9, n_id9_tk3, j9, n_tk3_tk2, n_tk2_tk3, jT])
                    | ((apply aCall.gives (hwd _)); simp -implicitDefEqProofs [hQ, l1, w3, w4, hc5, e6, rT, hr5, n_id3_id2, n_id2_id3, n_tk_id3, n_id3_tk, n_tk_id2, n_id2_tk, hB2, hB3, n_tk2_id2, n_id2_tk2, k2, n_tk2_id3, n_id3_tk2, k3, n_tk2_w, n_w_tk2, kW, n_tk2_id9, n_id9_tk2, k9, n_tk3_id2, n_id2_tk3, j2, n_tk3_id3, n_id3_tk3, j3, n_tk3_w, n_w_tk3, jW, n_tk3_id9, n_id9_tk3, j9, n_tk3_tk2, n_tk2_tk3, jT])
                    | ((apply aCall.gives (hnum5 _)); simp -implicitDefEqProofs [hQ, l1, w3, w4, hc5, e6, rT, hr5, n_id3_id2, n_id2_id3, n_tk_id3, n_id3_tk, n_tk_id2, n_id2_tk, hB2, hB3, n_tk2_id2, n_id2_tk2, k2, n_tk2_id3, n_id3_tk2, k3, n_tk2_w, n_w_tk2, kW, n_tk2_id9, n_id9_tk2, k9, n_tk3_id2, n_id2_tk3, j2, n_tk3_id3, n_id3_tk3, j3, n_tk3_w, n_w_tk3, jW, n_tk3_id9, n_id9_tk3, j9, n_tk3_tk2, n_tk2_tk3, jT]))
                | ((with_reducible apply AWp.ret); try simp -implicitDefEqProofs [hQ, l1, w3, w4, hc5, e6, rT, hr5, n_id3_id2, n_id2_id3, n_tk_id3, n_id3_tk, n_tk_id2, n_id2_tk, hB2, hB3, n_tk2_id2, n_id2_tk2, k2, n_tk2_id3, n_id3_tk2, k3, n_tk2_w, n_w_tk2, kW, n_tk2_id9, n_id9_tk2, k9, n_tk3_id2, n_id2_tk3, j2, n_tk3_id3, n_id3_tk3, j3, n_tk3_w, n_w_tk3, jW, n_tk3_id9, n_id9_tk3, j9, n_tk3_tk2, n_tk2_tk3, jT])
                | ((with_reducible apply AWp.skip); try simp -implicitDefEqProofs [hQ, l1, w3, w4, hc5, e6, rT, hr5, n_id3_id2, n_id2_id3, n_tk_id3, n_id3_tk, n_tk_id2, n_id2_tk, hB2, hB3, n_tk2_id2, n_id2_tk2, k2, n_tk2_id3, n_id3_tk2, k3, n_tk2_w, n_w_tk2, kW, n_tk2_id9, n_id9_tk2, k9, n_tk3_id2, n_id2_tk3, j2, n_tk3_id3, n_id3_tk3, j3, n_tk3_w, n_w_tk3, jW, n_tk3_id9, n_id9_tk3, j9, n_tk3_tk2, n_tk2_tk3, jT])
                | ((with_reducible apply AWp.exit); try simp -implicitDefEqProofs [hQ, l1, w3, w4, hc5, e6, rT, hr5, n_id3_id2, n_id2_id3, n_tk_id3, n_id3_tk, n_tk_id2, n_id2_tk, hB2, hB3, n_tk2_id2, n_id2_tk2, k2, n_tk2_id3, n_id3_tk2, k3, n_tk2_w, n_w_tk2, kW, n_tk2_id9, n_id9_tk2, k9, n_tk3_id2, n_id2_tk3, j2, n_tk3_id3, n_id3_tk3, j3, n_tk3_w, n_w_tk3, jW, n_tk3_id9, n_id9_tk3, j9, n_tk3_tk2, n_tk2_tk3, jT]))
              refine ⟨m4 - 1, _, _, by omega, FrWk.mk ?_, ?_, q + 1, a7 + W, r ++ [v5], by omega, by omega, hs5, by simp [hr4], hX4, rfl, rfl⟩
              · simp [wInc (show q < 4000000000000000000 by omega), e7, i64v_def]
              · rw [hs4, hr4]; simp
            · have hN5 : rNum b a7 W = .error ((b.length : Int), 1) := by unfold rNum; rw [if_neg hs5]
              rw [hN5] at hX4
              simp only at hX4
              have hc5 : ((b.length : Int) - a7 < W) = True := by simp; omega
              have hRR : readR b = (none, (b.length : Int), 1) := by
                have h1 : rAll b = .error ((b.length : Int), 1) := by
                  rw [hA, ← hX2, ← hX3, ← hX4]; rfl
                unfold readR; rw [h1]
              rw [hRR]
              repeat (first
                | (with_reducible apply AWp.seq)
                | (with_reducible apply AWp.block)
                | ((with_reducible apply AWp.fork); simp -implicitDefEqProofs [hQ, l1, w3, w4, hc5, r2, r3, n_id3_id2, n_id2_id3, n_tk_id3, n_id3_tk, n_tk_id2, n_id2_tk, hB2, hB3, n_tk2_id2, n_id2_tk2, k2, n_tk2_id3, n_id3_tk2, k3, n_tk2_w, n_w_tk2, kW, n_tk2_id9, n_id9_tk2, k9, n_tk3_id2, n_id2_tk3, j2, n_tk3_id3, n_id3_tk3, j3, n_tk3_w, n_w_tk3, jW, n_tk3_id9, n_id9_tk3, j9, n_tk3_tk2, n_tk2_tk3, jT])
                | ((with_reducible apply AWp.region); simp -implicitDefEqProofs [hQ, l1, w3, w4, hc5, r2, r3, n_id3_id2, n_id2_id3, n_tk_id3, n_id3_tk, n_tk_id2, n_id2_tk, hB2, hB3, n_tk2_id2, n_id2_tk2, k2, n_tk2_id3, n_id3_tk2, k3, n_tk2_w, n_w_tk2, kW, n_tk2_id9, n_id9_tk2, k9, n_tk3_id2, n_id2_tk3, j2, n_tk3_id3, n_id3_tk3, j3, n_tk3_w, n_w_tk3, jW, n_tk3_id9, n_id9_tk3, j9, n_tk3_tk2, n_tk2_tk3, jT])
                | (with_reducible refine And.intro (by first | omega | assumption | decide) ?_)
                | ((with_reducible show condK _ _ _); simp -implicitDefEqProofs [hQ, l1, w3, w4, hc5, r2, r3, n_id3_id2, n_id2_id3, n_tk_id3, n_id3_tk, n_tk_id2, n_id2_tk, hB2, hB3, n_tk2_id2, n_id2_tk2, k2, n_tk2_id3, n_id3_tk2, k3, n_tk2_w, n_w_tk2, kW, n_tk2_id9, n_id9_tk2, k9, n_tk3_id2, n_id2_tk3, j2, n_tk3_id3, n_id3_tk3, j3, n_tk3_w, n_w_tk3, jW, n_tk3_id9, n_id9_tk3, j9, n_tk3_tk2, n_tk2_tk3, jT])
                | ((with_reducible show guardK _ _ _ _ _ _ _ _ _); simp -implicitDefEqProofs [hQ, l1, w3, w4, hc5, r2, r3, n_id3_id2, n_id2_id3, n_tk_id3, n_id3_tk, n_tk_id2, n_id2_tk, hB2, hB3, n_tk2_id2, n_id2_tk2, k2, n_tk2_id3, n_id3_tk2, k3, n_tk2_w, n_w_tk2, kW, n_tk2_id9, n_id9_tk2, k9, n_tk3_id2, n_id2_tk3, j2, n_tk3_id3, n_id3_tk3, j3, n_tk3_w, n_w_tk3, jW, n_tk3_id9, n_id9_tk3, j9, n_tk3_tk2, n_tk2_tk3, jT])
                | (((with_reducible apply AWp.drawS (id := 44) (t := (Sch.step 0 (Sch.step 2 (Sch.step 3 (Sch.step 5 (Sch.step 8 (Sch.step 9 (Sch.read 4 (Sch.step 6 (Sch.read 7 (Sch.alt 1 (Sch.alt 10 (Sch.step 11 (Sch.alt 12 Sch.done Sch.none)) Sch.none) (Sch.alt 10 (Sch.read 1 (Sch.step 11 (Sch.alt 12 Sch.done Sch.none))) Sch.none))))))))))))); (exact mixed); kernel_rfl; kernel_rfl; (repeat (with_reducible first | apply PanQ.then | apply PanQ.block | apply PanQ.body | apply PanQ.no))); simp -implicitDefEqProofs [hQ, l1, w3, w4, hc5, r2, r3, n_id3_id2, n_id2_id3, n_tk_id3, n_id3_tk, n_tk_id2, n_id2_tk, hB2, hB3, n_tk2_id2, n_id2_tk2, k2, n_tk2_id3, n_id3_tk2, k3, n_tk2_w, n_w_tk2, kW, n_tk2_id9, n_id9_tk2, k9, n_tk3_id2, n_id2_tk3, j2, n_tk3_id3, n_id3_tk3, j3, n_tk3_w, n_w_tk3, jW, n_tk3_id9, n_id9_tk3, j9, n_tk3_tk2, n_tk2_tk3, jT])
                | ((with_reducible apply aCall.id); first
                    | ((apply aCall.gives (hcol _)); simp -implicitDefEqProofs [hQ, l1, w3, w4, hc5, r2, r3, n_id3_id2, n_id2_id3, n_tk_id3, n_id3_tk, n_tk_id2, n_id2_tk, hB2, hB3, n_tk2_id2, n_id2_tk2, k2, n_tk2_id3, n_id3_tk2, k3, n_tk2_w, n_w_tk2, kW, n_tk2_id9, n_id9_tk2, k9, n_tk3_id2, n_id2_tk3, j2, n_tk3_id3, n_id3_tk3, j3, n_tk3_w, n_w_tk3, jW, n_tk3_id9, n_id9_tk3, j9, n_tk3_tk2, n_tk2_tk3, jT])
                    | ((apply aCall.gives (hwd _)); simp -implicitDefEqProofs [hQ, l1, w3, w4, hc5, r2, r3, n_id3_id2, n_id2_id3, n_tk_id3, n_id3_tk, n_tk_id2, n_id2_tk, hB2, hB3, n_tk2_id2, n_id2_tk2, k2, n_tk2_id3, n_id3_tk2, k3, n_tk2_w, n_w_tk2, kW, n_tk2_id9, n_id9_tk2, k9, n_tk3_id2, n_id2_tk3, j2, n_tk3_id3, n_id3_tk3, j3, n_tk3_w, n_w_tk3, jW, n_tk3_id9, n_id9_tk3, j9, n_tk3_tk2, n_tk2_tk3, jT]))
                | ((with_reducible apply AWp.ret); try simp -implicitDefEqProofs [hQ, l1, w3, w4, hc5, r2, r3, n_id3_id2, n_id2_id3, n_tk_id3, n_id3_tk, n_tk_id2, n_id2_tk, hB2, hB3, n_tk2_id2, n_id2_tk2, k2, n_tk2_id3, n_id3_tk2, k3, n_tk2_w, n_w_tk2, kW, n_tk2_id9, n_id9_tk2, k9, n_tk3_id2, n_id2_tk3, j2, n_tk3_id3, n_id3_tk3, j3, n_tk3_w, n_w_tk3, jW, n_tk3_id9, n_id9_tk3, j9, n_tk3_tk2, n_tk2_tk3, jT])
                | ((with_reducible apply AWp.skip); try simp -implicitDefEqProofs [hQ, l1, w3, w4, hc5, r2, r3, n_id3_id2, n_id2_id3, n_tk_id3, n_id3_tk, n_tk_id2, n_id2_tk, hB2, hB3, n_tk2_id2, n_id2_tk2, k2, n_tk2_id3, n_id3_tk2, k3, n_tk2_w, n_w_tk2, kW, n_tk2_id9, n_id9_tk2, k9, n_tk3_id2, n_id2_tk3, j2, n_tk3_id3, n_id3_tk3, j3, n_tk3_w, n_w_tk3, jW, n_tk3_id9, n_id9_tk3, j9, n_tk3_tk2, n_tk2_tk3, jT])
                | ((with_reducible apply AWp.exit); try simp -implicitDefEqProofs [hQ, l1, w3, w4, hc5, r2, r3, n_id3_id2, n_id2_id3, n_tk_id3, n_id3_tk, n_tk_id2, n_id2_tk, hB2, hB3, n_tk2_id2, n_id2_tk2, k2, n_tk2_id3, n_id3_tk2, k3, n_tk2_w, n_w_tk2, kW, n_tk2_id9, n_id9_tk2, k9, n_tk3_id2, n_id2_tk3, j2, n_tk3_id3, n_id3_tk3, j3, n_tk3_w, n_w_tk3, jW, n_tk3_id9, n_id9_tk3, j9, n_tk3_tk2, n_tk2_tk3, jT]))
              exact ⟨Wk_gotN, le4 _⟩
          · have hQ : ((q : Int) < ((kindsL (t : Int)).length : Int)) = False := by simp; omega
            have hRe : rRow b b[0].toNat (kindsL (t : Int)) a6 = .ok (r, a7) := by
              rw [← hX4, List.drop_eq_nil_of_le (by omega)]; simp [rRow, preR]
            rw [hRe] at hX3
            simp only at hX3
            rw [preR_app] at hX3
            have r9 : σ4 id9 = some (.cells 24 [.sc (.int .i64 v), .msl w 0 6 6]) := by rw [hs4]; simp [n_id9_tk3, j9]
            have rT2 : σ4 tk2 = some (.tok L.length) := by rw [hs4]; simp [n_tk2_tk3, jT]
            obtain ⟨CL, hCL⟩ : ∃ CL, T.map tV ++ .lst 70 (L.map rowV) (.tok tk2) (decide (L = [])) :: List.replicate (5 - t) .nilS = CL := ⟨_, rfl⟩
            have hCL6 : CL.length = 6 := by rw [← hCL]; simp [hT5]; omega
            have hCLg : ∀ hh, CL[t]'hh = .lst 70 (L.map rowV) (.tok tk2) (decide (L = [])) := fun hh => by
              have := getD_mid (T.map tV) (.lst 70 (L.map rowV) (.tok tk2) (decide (L = []))) (List.replicate (5 - t) .nilS)
              rw [hTl, hCL, List.getD_eq_getElem?_getD, List.getElem?_eq_getElem hh] at this
              exact this
            have hCLs : ∀ v, List.take t CL ++ v :: List.drop (t + 1) CL = T.map tV ++ v :: List.replicate (5 - t) .nilS := fun v => by
              rw [← hCL]
              have := cut_mid (T.map tV) (.lst 70 (L.map rowV) (.tok tk2) (decide (L = []))) v (List.replicate (5 - t) .nilS)
              rwa [hTl] at this
            rw [hCL] at jW
            have rW : σ4 w = some (.cells 69 CL) := by rw [hs4]; simp [n_w_tk3, jW]
            have hL1 : L.length ≤ 70000 := by omega
            repeat (first
              | (with_reducible apply AWp.seq)
              | (with_reducible apply AWp.block)
              | ((with_reducible apply AWp.fork); simp -implicitDefEqProofs [hQ, n_id3_id2, n_id2_id3, n_tk_id3, n_id3_tk, n_tk_id2, n_id2_tk, hB2, hB3, n_tk2_id2, n_id2_tk2, k2, n_tk2_id3, n_id3_tk2, k3, n_tk2_w, n_w_tk2, kW, n_tk2_id9, n_id9_tk2, k9, n_tk3_id2, n_id2_tk3, j2, n_tk3_id3, n_id3_tk3, j3, n_tk3_w, n_w_tk3, jW, n_tk3_id9, n_id9_tk3, j9, n_tk3_tk2, n_tk2_tk3, jT])
              | ((fail_if_success (with_reducible apply AWp.region (id := 44))); (with_reducible apply AWp.region); simp -implicitDefEqProofs [hQ, n_id3_id2, n_id2_id3, n_tk_id3, n_id3_tk, n_tk_id2, n_id2_tk, hB2, hB3, n_tk2_id2, n_id2_tk2, k2, n_tk2_id3, n_id3_tk2, k3, n_tk2_w, n_w_tk2, kW, n_tk2_id9, n_id9_tk2, k9, n_tk3_id2, n_id2_tk3, j2, n_tk3_id3, n_id3_tk3, j3, n_tk3_w, n_w_tk3, jW, n_tk3_id9, n_id9_tk3, j9, n_tk3_tk2, n_tk2_tk3, jT])
              | (with_reducible refine And.intro (by first | omega | assumption | decide) ?_)
              | ((with_reducible show condK _ _ _); simp -implicitDefEqProofs [hQ, n_id3_id2, n_id2_id3, n_tk_id3, n_id3_tk, n_tk_id2, n_id2_tk, hB2, hB3, n_tk2_id2, n_id2_tk2, k2, n_tk2_id3, n_id3_tk2, k3, n_tk2_w, n_w_tk2, kW, n_tk2_id9, n_id9_tk2, k9, n_tk3_id2, n_id2_tk3, j2, n_tk3_id3, n_id3_tk3, j3, n_tk3_w, n_w_tk3, jW, n_tk3_id9, n_id9_tk3, j9, n_tk3_tk2, n_tk2_tk3, jT])
              | ((with_reducible show guardK _ _ _ _ _ _ _ _ _); simp -implicitDefEqProofs [hQ, n_id3_id2, n_id2_id3, n_tk_id3, n_id3_tk, n_tk_id2, n_id2_tk, hB2, hB3, n_tk2_id2, n_id2_tk2, k2, n_tk2_id3, n_id3_tk2, k3, n_tk2_w, n_w_tk2, kW, n_tk2_id9, n_id9_tk2, k9, n_tk3_id2, n_id2_tk3, j2, n_tk3_id3, n_id3_tk3, j3, n_tk3_w, n_w_tk3, jW, n_tk3_id9, n_id9_tk3, j9, n_tk3_tk2, n_tk2_tk3, jT])
              | ((with_reducible apply aCall.id); first
                  | ((apply aCall.gives (hcol _)); simp -implicitDefEqProofs [hQ, n_id3_id2, n_id2_id3, n_tk_id3, n_id3_tk, n_tk_id2, n_id2_tk, hB2, hB3, n_tk2_id2, n_id2_tk2, k2, n_tk2_id3, n_id3_tk2, k3, n_tk2_w, n_w_tk2, kW, n_tk2_id9, n_id9_tk2, k9, n_tk3_id2, n_id2_tk3, j2, n_tk3_id3, n_id3_tk3, j3, n_tk3_w, n_w_tk3, jW, n_tk3_id9, n_id9_tk3, j9, n_tk3_tk2, n_tk2_tk3, jT]))
              | ((with_reducible apply AWp.ret); try simp -implicitDefEqProofs [hQ, n_id3_id2, n_id2_id3, n_tk_id3, n_id3_tk, n_tk_id2, n_id2_tk, hB2, hB3, n_tk2_id2, n_id2_tk2, k2, n_tk2_id3, n_id3_tk2, k3, n_tk2_w, n_w_tk2, kW, n_tk2_id9, n_id9_tk2, k9, n_tk3_id2, n_id2_tk3, j2, n_tk3_id3, n_id3_tk3, j3, n_tk3_w, n_w_tk3, jW, n_tk3_id9, n_id9_tk3, j9, n_tk3_tk2, n_tk2_tk3, jT])
              | ((with_reducible apply AWp.skip); try simp -implicitDefEqProofs [hQ, n_id3_id2, n_id2_id3, n_tk_id3, n_id3_tk, n_tk_id2, n_id2_tk, hB2, hB3, n_tk2_id2, n_id2_tk2, k2, n_tk2_id3, n_id3_tk2, k3, n_tk2_w, n_w_tk2, kW, n_tk2_id9, n_id9_tk2, k9, n_tk3_id2, n_id2_tk3, j2, n_tk3_id3, n_id3_tk3, j3, n_tk3_w, n_w_tk3, jW, n_tk3_id9, n_id9_tk3, j9, n_tk3_tk2, n_tk2_tk3, jT])
              | ((with_reducible apply AWp.exit); try simp -implicitDefEqProofs [hQ, n_id3_id2, n_id2_id3, n_tk_id3, n_id3_tk, n_tk_id2, n_id2_tk, hB2, hB3, n_tk2_id2, n_id2_tk2, k2, n_tk2_id3, n_id3_tk2, k3, n_tk2_w, n_w_tk2, kW, n_tk2_id9, n_id9_tk2, k9, n_tk3_id2, n_id2_tk3, j2, n_tk3_id3, n_id3_tk3, j3, n_tk3_w, n_w_tk3, jW, n_tk3_id9, n_id9_tk3, j9, n_tk3_tk2, n_tk2_tk3, jT]))
            (((with_reducible apply AWp.drawS (id := 44) (t := (Sch.step 0 (Sch.step 2 (Sch.step 3 (Sch.step 5 (Sch.step 8 (Sch.step 9 (Sch.read 4 (Sch.step 6 (Sch.read 7 (Sch.alt 1 (Sch.alt 10 (Sch.step 11 (Sch.alt 12 Sch.done Sch.none)) Sch.none) (Sch.alt 10 (Sch.read 1 (Sch.step 11 (Sch.alt 12 Sch.done Sch.none))) Sch.none))))))))))))); (exact mixed); kernel_rfl; kernel_rfl; (repeat (with_reducible first | apply PanQ.then | apply PanQ.block | apply PanQ.body | apply PanQ.no))); simp -implicitDefEqProofs [r9, rW, rT2, hT6, hlt, hCL6, hCLg, n_w_tk2, n_tk2_w, n_id3_id2, n_id2_id3, n_tk_id3, n_id3_tk, n_tk_id2, n_id2_tk, hB2, hB3, n_tk2_id2, n_id2_tk2, k2, n_tk2_id3, n_id3_tk2, k3, n_tk2_w, n_w_tk2, kW, n_tk2_id9, n_id9_tk2, k9, n_tk3_id2, n_id2_tk3, j2, n_tk3_id3, n_id3_tk3, j3, n_tk3_w, n_w_tk3, jW, n_tk3_id9, n_id9_tk3, j9, n_tk3_tk2, n_tk2_tk3, jT])
            have hLe : (L ++ [r]).map rowV = L.map rowV ++ [rowV r] := by simp
            have hLn : decide (L ++ [r] = []) = false := by simp
            all_goals
              repeat' (first
                | (with_reducible refine And.intro (by omega) ?_)
                | (with_reducible apply And.intro))
            all_goals
              rw [hCLs]
              refine AWp.wkC w (T.map tV ++ .lst 70 ((L ++ [r]).map rowV) (.tok tk2) (decide (L ++ [r] = [])) :: List.replicate (5 - t) .nilS) (by simp; exact ⟨rfl, rfl⟩) (by simp) (fun k _ => Wk_at ?_ _ _ k) ?_
              · rw [hLe, hLn]
                exact Wk_snoc ((Wk_unk _ _ _ _).2 trivial) rfl rfl
              (with_reducible apply AWp.region)
              simp -implicitDefEqProofs
              refine ⟨m3 - 1, _, _, by omega, FrWk.mk ?_, ?_, i + 1, a7, L ++ [r], by omega, by omega, ha7, by simp [hL], hX3, rfl, rfl⟩
              · simp [wInc (show i < 4000000000000000000 by omega)]
              · have q1 : σ2 tk3 = none := by rw [hs3] at h_tk3; simpa [AS.set, n_tk3_tk2, n_tk3_w] using h_tk3
                rw [hLe, hLn, hs4, hs3, hL]
                exact le_fin4 n_w_tk2 q1 n_tk3_w n_tk3_tk2
        · have hIc : ((i : Int) < c) = False := by simp; omega
          obtain rfl : i = c := by omega
          have hXe : rRws b b[0].toNat (kindsL (t : Int)) i a5 = .ok (L, a6) := by rw [← hX3]; simp [rRws, preR]
          rw [hXe] at hX2
          simp only at hX2
          rw [preR_app] at hX2
          have ha6' := ha6
          refine AWp.wkC w (T.map tV ++ tV L :: List.replicate (5 - t) .nilS) jW (by simp) (fun k _ => Wk_at ?_ _ _ k) ?_
          · simp only [tV, lV, List.map_map]
            exact (Wk_unk _ _ _ _).2 trivial
          repeat (first
            | (with_reducible apply AWp.seq)
            | (with_reducible apply AWp.block)
            | ((with_reducible apply AWp.fork); simp -implicitDefEqProofs [hT6, hgd, hlt, htd, hd, hIc, n_id3_id2, n_id2_id3, n_tk_id3, n_id3_tk, n_tk_id2, n_id2_tk, hB2, hB3, n_tk2_id2, n_id2_tk2, k2, n_tk2_id3, n_id3_tk2, k3, n_tk2_w, n_w_tk2, kW, n_tk2_id9, n_id9_tk2, k9])
            | ((fail_if_success (with_reducible apply AWp.region (id := 44))); (with_reducible apply AWp.region); simp -implicitDefEqProofs [hT6, hgd, hlt, htd, hd, hIc, n_id3_id2, n_id2_id3, n_tk_id3, n_id3_tk, n_tk_id2, n_id2_tk, hB2, hB3, n_tk2_id2, n_id2_tk2, k2, n_tk2_id3, n_id3_tk2, k3, n_tk2_w, n_w_tk2, kW, n_tk2_id9, n_id9_tk2, k9])
            | (with_reducible refine And.intro (by first | omega | assumption | decide) ?_)
            | ((with_reducible show condK _ _ _); simp -implicitDefEqProofs [hT6, hgd, hlt, htd, hd, hIc, n_id3_id2, n_id2_id3, n_tk_id3, n_id3_tk, n_tk_id2, n_id2_tk, hB2, hB3, n_tk2_id2, n_id2_tk2, k2, n_tk2_id3, n_id3_tk2, k3, n_tk2_w, n_w_tk2, kW, n_tk2_id9, n_id9_tk2, k9])
            | ((with_reducible show guardK _ _ _ _ _ _ _ _ _); simp -implicitDefEqProofs [hT6, hgd, hlt, htd, hd, hIc, n_id3_id2, n_id2_id3, n_tk_id3, n_id3_tk, n_tk_id2, n_id2_tk, hB2, hB3, n_tk2_id2, n_id2_tk2, k2, n_tk2_id3, n_id3_tk2, k3, n_tk2_w, n_w_tk2, kW, n_tk2_id9, n_id9_tk2, k9])
            | ((with_reducible apply AWp.ret); try simp -implicitDefEqProofs [hT6, hgd, hlt, htd, hd, hIc, n_id3_id2, n_id2_id3, n_tk_id3, n_id3_tk, n_tk_id2, n_id2_tk, hB2, hB3, n_tk2_id2, n_id2_tk2, k2, n_tk2_id3, n_id3_tk2, k3, n_tk2_w, n_w_tk2, kW, n_tk2_id9, n_id9_tk2, k9])
            | ((with_reducible apply AWp.skip); try simp -implicitDefEqProofs [hT6, hgd, hlt, htd, hd, hIc, n_id3_id2, n_id2_id3, n_tk_id3, n_id3_tk, n_tk_id2, n_id2_tk, hB2, hB3, n_tk2_id2, n_id2_tk2, k2, n_tk2_id3, n_id3_tk2, k3, n_tk2_w, n_w_tk2, kW, n_tk2_id9, n_id9_tk2, k9])
            | ((with_reducible apply AWp.exit); try simp -implicitDefEqProofs [hT6, hgd, hlt, htd, hd, hIc, n_id3_id2, n_id2_id3, n_tk_id3, n_id3_tk, n_tk_id2, n_id2_tk, hB2, hB3, n_tk2_id2, n_id2_tk2, k2, n_tk2_id3, n_id3_tk2, k3, n_tk2_w, n_w_tk2, kW, n_tk2_id9, n_id9_tk2, k9]))
          refine ⟨m2 - 1, _, _, by omega, FrWk.mk (by simp [wInc (show t < 4000000000000000000 by omega)]), ?_, t + 1, a6, T ++ [L], by omega, by omega, ha6', by simp [hT5], hX2, rfl, rfl⟩
          have q1 : S tk2 = none := by rw [hs2] at h_tk2; simpa [AS.set, n_tk2_w] using h_tk2
          rw [hs3, hs2, show (T ++ [L]).map tV ++ List.replicate (6 - (t + 1)) AV.nilS = T.map tV ++ tV L :: List.replicate (5 - t) .nilS by rw [show 6 - (t + 1) = 5 - t by omega]; simp]
          intro j y hy
          by_cases e1 : j = w
          · subst e1; simpa [AS.set] using hy
          by_cases e2 : j = tk2
          · subst e2; simp [AS.set, e1, q1] at hy
          · simpa [AS.set, e1, e2] using hy
      · have hT6 : ((t : Int) < 6) = False := by simp; omega
        obtain rfl : t = 6 := by omega
        have hXe : rTbs b b[0].toNat d 0 (a + 2) = .ok (T, a5) := by
          rw [← hX2, List.drop_eq_nil_of_le (by omega)]; simp [rTbs, preR]
        rw [hXe] at hA
        simp only at hA
        have hRd : readR b = if a5 < b.length then (none, (a5 : Int), 2) else (some (v, T), 0, 0) := by unfold readR; rw [hA]
        rw [hRd]
        have hle0 : ∀ x : ABlk, AS.le σ (σ2.set id2 x) := fun x => AS.le_trans (leS x) fun j y hy => by
          by_cases e : j = id2
          · subst e; simpa [AS.set] using hy
          · have hy' : σ' j = some y := by simpa [AS.set, e] using hy
            have m1 : j ≠ w := by rintro rfl; rw [h_w] at hy'; cases hy'
            have m2 : j ≠ id9 := by rintro rfl; rw [h_id9] at hy'; cases hy'
            rw [hs2, hS]; simp [AS.set, e, m1, m2, hy']
        simp only [Nat.sub_self, List.replicate_zero, List.append_nil] at kW
        by_cases hsh2 : a5 < b.length
        · have hc2 : ((a5 : Int) < b.length) = True := by simp; omega
          rw [if_pos hsh2]
          repeat (first
            | (with_reducible apply AWp.seq)
            | (with_reducible apply AWp.block)
            | ((with_reducible apply AWp.fork); simp -implicitDefEqProofs [hT6, hc2, hsh2, k2, n_id3_id2, n_id2_id3, n_tk_id3, n_id3_tk, n_tk_id2, n_id2_tk, hB2, hB3])
            | ((fail_if_success (with_reducible apply AWp.region (id := 44))); (with_reducible apply AWp.region); simp -implicitDefEqProofs [hT6, hc2, hsh2, k2, n_id3_id2, n_id2_id3, n_tk_id3, n_id3_tk, n_tk_id2, n_id2_tk, hB2, hB3])
            | (with_reducible refine And.intro (by first | omega | assumption | decide) ?_)
            | ((with_reducible show condK _ _ _); simp -implicitDefEqProofs [hT6, hc2, hsh2, k2, n_id3_id2, n_id2_id3, n_tk_id3, n_id3_tk, n_tk_id2, n_id2_tk, hB2, hB3])
            | ((with_reducible show guardK _ _ _ _ _ _ _ _ _); simp -implicitDefEqProofs [hT6, hc2, hsh2, k2, n_id3_id2, n_id2_id3, n_tk_id3, n_id3_tk, n_tk_id2, n_id2_tk, hB2, hB3])
            | ((with_reducible apply AWp.ret); try simp -implicitDefEqProofs [hT6, hc2, hsh2, k2, n_id3_id2, n_id2_id3, n_tk_id3, n_id3_tk, n_tk_id2, n_id2_tk, hB2, hB3])
            | ((with_reducible apply AWp.skip); try simp -implicitDefEqProofs [hT6, hc2, hsh2, k2, n_id3_id2, n_id2_id3, n_tk_id3, n_id3_tk, n_tk_id2, n_id2_tk, hB2, hB3])
            | ((with_reducible apply AWp.exit); try simp -implicitDefEqProofs [hT6, hc2, hsh2, k2, n_id3_id2, n_id2_id3, n_tk_id3, n_id3_tk, n_tk_id2, n_id2_tk, hB2, hB3]))
          exact ⟨Wk_gotN, hle0 _⟩
        · have hc2 : ((a5 : Int) < b.length) = False := by simp; omega
          rw [if_neg hsh2]
          obtain ⟨R, hR⟩ : ∃ R : AS, R = fun j => if j = w then none else σ2 j := ⟨_, rfl⟩
          have hRw : R w = none := by rw [hR]; simp
          have hRj : ∀ j, j ≠ w → R j = σ2 j := fun j hj => by rw [hR]; simp [hj]
          have hR2 : σ2 = R.set w (.cells 69 (T.map tV)) := by
            funext j
            by_cases e : j = w
            · subst e; simp [kW]
            · simp [AS.set, e, hRj j e]
          have leR : ∀ x y : ABlk, AS.le σ ((R.set id9 x).set id2 y) := fun x y => AS.le_trans (leS y) fun j z hz => by
            by_cases e : j = id2
            · subst e; simpa [AS.set] using hz
            · have hz' : σ' j = some z := by simpa [AS.set, e] using hz
              have m1 : j ≠ w := by rintro rfl; rw [h_w] at hz'; cases hz'
              have m2 : j ≠ id9 := by rintro rfl; rw [h_id9] at hz'; cases hz'
              have m3 : R j = some z := by rw [hRj j m1, hs2, hS]; simp [AS.set, m1, m2, hz']
              simp [AS.set, e, m2, m3]
          have r2 : R id2 = some (.cells 67 [.sc (.int .i64 0), .nilS, .sc (.int .i64 0), .sc (.int .i64 0)]) := by rw [hRj id2 n_id2_w]; exact k2
          rw [hR2]
          refine AWp.freezeCell id9 w (e := 69) (m := 6) (ty := 24) (cs2 := [.sc (.int .i64 v), .msl w 0 6 6]) (T.map tV) [.sc (.int .i64 v), .lst 69 (T.map tV) .full false] n_id9_w (by rw [hRj id9 n_id9_w]; exact k9) hRw (by simpa using hT5) (fun v hv => ?_) (flat_tV T).symm rfl (fun k hk G G' x hle conv hx => ?_) ?_
          · obtain ⟨l, _, rfl⟩ := List.mem_map.1 hv
            simp [tV, lV]
          · match k, hk with
            | 0, _ => exact hx.mono hle
            | 1, _ => exact conv _ hx
          repeat (first
            | (with_reducible apply AWp.seq)
            | (with_reducible apply AWp.block)
            | ((with_reducible apply AWp.fork); simp -implicitDefEqProofs [hT6, hc2, hsh2, r2, n_id2_id9, n_id3_id2, n_id2_id3, n_tk_id3, n_id3_tk, n_tk_id2, n_id2_tk, hB2, hB3])
            | ((fail_if_success (with_reducible apply AWp.region (id := 44))); (with_reducible apply AWp.region); simp -implicitDefEqProofs [hT6, hc2, hsh2, r2, n_id2_id9, n_id3_id2, n_id2_id3, n_tk_id3, n_id3_tk, n_tk_id2, n_id2_tk, hB2, hB3])
            | (with_reducible refine And.intro (by first | omega | assumption | decide) ?_)
            | ((with_reducible show condK _ _ _); simp -implicitDefEqProofs [hT6, hc2, hsh2, r2, n_id2_id9, n_id3_id2, n_id2_id3, n_tk_id3, n_id3_tk, n_tk_id2, n_id2_tk, hB2, hB3])
            | ((with_reducible show guardK _ _ _ _ _ _ _ _ _); simp -implicitDefEqProofs [hT6, hc2, hsh2, r2, n_id2_id9, n_id3_id2, n_id2_id3, n_tk_id3, n_id3_tk, n_tk_id2, n_id2_tk, hB2, hB3])
            | ((with_reducible apply AWp.ret); try simp -implicitDefEqProofs [hT6, hc2, hsh2, r2, n_id2_id9, n_id3_id2, n_id2_id3, n_tk_id3, n_id3_tk, n_tk_id2, n_id2_tk, hB2, hB3])
            | ((with_reducible apply AWp.skip); try simp -implicitDefEqProofs [hT6, hc2, hsh2, r2, n_id2_id9, n_id3_id2, n_id2_id3, n_tk_id3, n_id3_tk, n_tk_id2, n_id2_tk, hB2, hB3])
            | ((with_reducible apply AWp.exit); try simp -implicitDefEqProofs [hT6, hc2, hsh2, r2, n_id2_id9, n_id3_id2, n_id2_id3, n_tk_id3, n_id3_tk, n_tk_id2, n_id2_tk, hB2, hB3]))
          exact ⟨Wk_agg4R (Wk.refl _) ((Wk_unk _ _ _ _).2 trivial) (Wk.refl _) (Wk.refl _), leR _ _⟩
    · have hN : rNum b a 2 = .error ((b.length : Int), 1) := by unfold rNum; rw [if_neg hsh]
      rw [hN] at hA
      have hc : ((b.length : Int) - a < 2) = True := by simp; omega
      rw [short hN hA]
      repeat (first
        | (with_reducible apply AWp.seq)
        | (with_reducible apply AWp.block)
        | ((with_reducible apply AWp.fork); simp -implicitDefEqProofs [hT, hc, w2, s2, s3, n_id3_id2, n_id2_id3, n_tk_id3, n_id3_tk, n_tk_id2, n_id2_tk, hB2, hB3])
        | ((fail_if_success (with_reducible apply AWp.region (id := 44))); (with_reducible apply AWp.region); simp -implicitDefEqProofs [hT, hc, w2, s2, s3, n_id3_id2, n_id2_id3, n_tk_id3, n_id3_tk, n_tk_id2, n_id2_tk, hB2, hB3])
        | (with_reducible refine And.intro (by first | omega | assumption | decide) ?_)
        | ((with_reducible show condK _ _ _); simp -implicitDefEqProofs [hT, hc, w2, s2, s3, n_id3_id2, n_id2_id3, n_tk_id3, n_id3_tk, n_tk_id2, n_id2_tk, hB2, hB3])
        | ((with_reducible show guardK _ _ _ _ _ _ _ _ _); simp -implicitDefEqProofs [hT, hc, w2, s2, s3, n_id3_id2, n_id2_id3, n_tk_id3, n_id3_tk, n_tk_id2, n_id2_tk, hB2, hB3])
        | ((with_reducible apply AWp.ret); try simp -implicitDefEqProofs [hT, hc, w2, s2, s3, n_id3_id2, n_id2_id3, n_tk_id3, n_id3_tk, n_tk_id2, n_id2_tk, hB2, hB3])
        | ((with_reducible apply AWp.skip); try simp -implicitDefEqProofs [hT, hc, w2, s2, s3, n_id3_id2, n_id2_id3, n_tk_id3, n_id3_tk, n_tk_id2, n_id2_tk, hB2, hB3])
        | ((with_reducible apply AWp.exit); try simp -implicitDefEqProofs [hT, hc, w2, s2, s3, n_id3_id2, n_id2_id3, n_tk_id3, n_id3_tk, n_tk_id2, n_id2_tk, hB2, hB3]))
      exact ⟨Wk_gotN, leS _⟩

theorem rread_any (b : List UInt8) (o : Own) (nl : Bool) (hl : b.length ≤ 100000) (σ : AS) :
    ACalls Try.prog 36 [.lst 5 (b.map u8) o nl] σ (Gives (gotV (readR b)) σ) No := by
  by_cases h : b.length < 2 ∨ 3 < (b.getD 0 0).toNat ∨ 63 < (b.getD 1 0).toNat
  · exact rread_bad b o nl hl σ h
  · exact rread_ok b o nl hl σ h

end Go.Proofs.Ytpekbapmnmnjoaa
