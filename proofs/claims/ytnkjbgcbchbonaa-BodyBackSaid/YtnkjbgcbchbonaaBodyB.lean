/- The document's clauses. -/
import Derived.Test.YtnkjbgcbchbonaaBodyA
set_option linter.unusedSimpArgs false
set_option linter.unusedVariables false
set_option maxRecDepth 100000
set_option maxHeartbeats 3200000
namespace Go.Proofs.Ytnkjbgcbchbonaa
open Go Go.AW

theorem seg_one {b : List UInt8} {a : Nat} {c : UInt8} (h : b[a]? = some c) : numL (seg b a 1) = (c.toNat : Int) := by
  obtain ⟨hlt, rfl⟩ := List.getElem?_eq_some_iff.1 h
  have e : seg b a 1 = [b[a]] := by
    unfold seg
    have : ((a : Int) + 1).toNat = a + 1 := by omega
    rw [this]
    have : (a : Int).toNat = a := by omega
    rw [this, List.take_succ_eq_append_getElem hlt, List.drop_append, List.drop_of_length_le (by simp; omega)]
    simp
    rw [Nat.min_eq_left (by omega)]
    simp
  rw [e]
  simp [numL]
theorem eNum_one {b : List UInt8} {a : Nat} : eNum b a 1 = match b[a]? with | some c => .ok ((c.toNat : Int), a + 1) | none => .error 1 := by
  unfold eNum
  by_cases h : a < b.length
  · have hg : b[a]? = some b[a] := List.getElem?_eq_getElem h
    rw [hg, if_pos (by omega)]
    have := seg_one hg
    show Except.ok (numL (seg b a 1), a + 1) = _
    rw [this]
  · have hg : b[a]? = none := List.getElem?_eq_none (by omega)
    rw [hg, if_neg (by omega)]
theorem eMust_one {b : List UInt8} {a : Nat} {k : Int} : eMust b a k = match b[a]? with | some c => (if (c.toNat : Int) = k then .ok (a + 1) else .error 2) | none => .error 1 := by
  unfold eMust
  rw [eNum_one]
  cases b[a]? <;> rfl
def eHdr (b : List UInt8) : Nat → Int → Nat → Except Int (Int × Nat)
  | 0, n, a => .ok (n, a)
  | k + 1, n, a => match b[a]? with
    | none => .error 1
    | some c => if (if k = 3 then (c.toNat : Int) ≠ 1 else if k = 2 then (c.toNat : Int) < 1 ∨ 6 < (c.toNat : Int) else (c.toNat : Int) ≠ 0) then .error 2 else eHdr b k (if k = 2 then (c.toNat : Int) else n) (a + 1)
theorem eHdr_succ (b : List UInt8) (k : Nat) (n : Int) (a : Nat) : eHdr b (k + 1) n a = match b[a]? with
    | none => .error 1
    | some c => if (if k = 3 then (c.toNat : Int) ≠ 1 else if k = 2 then (c.toNat : Int) < 1 ∨ 6 < (c.toNat : Int) else (c.toNat : Int) ≠ 0) then .error 2 else eHdr b k (if k = 2 then (c.toNat : Int) else n) (a + 1) := rfl
theorem eClauses_hdr (b : List UInt8) (fr a : Nat) : eClauses b fr a = match ePad b ((4 - (a - fr) % 4) % 4) a with
    | .error e => .error e
    | .ok a1 => match eHdr b 4 0 a1 with
      | .error e => .error e
      | .ok (n, a5) => eRaws b n.toNat a5 := by
  unfold eClauses
  cases ePad b ((4 - (a - fr) % 4) % 4) a with
  | error e => rfl
  | ok a1 =>
    simp only [eMust_one, eNum_one, eHdr]
    cases b[a1]? with
    | none => rfl
    | some c =>
      by_cases h1 : c.toNat = 1
      · cases h2 : b[a1 + 1]? with
        | none => simp [h1, h2]
        | some c2 =>
          by_cases h3 : (c2.toNat : Int) < 1 ∨ 6 < (c2.toNat : Int)
          · simp [h1, h2, h3]
          · cases h4 : b[a1 + 1 + 1]? with
            | none => simp [h1, h2, h3, h4]
            | some c4 =>
              by_cases h5 : c4.toNat = 0
              · cases h6 : b[a1 + 1 + 1 + 1]? with
                | none => simp [h1, h2, h3, h4, h5, h6]
                | some c6 =>
                  by_cases h7 : c6.toNat = 0 <;> simp [h1, h2, h3, h4, h5, h6, h7]
              · simp [h1, h2, h3, h4, h5]
      · have h1' : ¬ (c.toNat : Int) = 1 := by omega
        simp [h1']
theorem eNums_eq (b : List UInt8) : ∀ (k a : Nat), a ≤ b.length → eNums b k a = if a + 2 * k ≤ b.length then .ok ((List.range k).map fun i => numL (seg b (a + 2 * i : Nat) 2), a + 2 * k) else .error 1 := by
  intro k
  induction k with
  | zero => intro a h; simp [eNums, h]
  | succ k ih =>
    intro a h
    simp only [eNums, eNum]
    by_cases h2 : a + 2 ≤ b.length
    · rw [if_pos h2]
      simp only
      rw [ih (a + 2) h2]
      by_cases h3 : a + 2 * (k + 1) ≤ b.length
      · have e : (List.range (k + 1)).map (fun i => numL (seg b (a + 2 * i : Nat) 2)) = numL (seg b a 2) :: (List.range k).map (fun i => numL (seg b (a + 2 + 2 * i : Nat) 2)) := by
          rw [List.range_succ_eq_map, List.map_cons, List.map_map]
          congr 1
          apply List.map_congr_left
          intro i _
          simp only [Function.comp]
          congr 2
          omega
        rw [if_pos (by omega), if_pos h3, e, show a + 2 + 2 * k = a + 2 * (k + 1) by omega]
        rfl
      · rw [if_neg (by omega), if_neg h3]
    · rw [if_neg h2, if_neg (by omega)]

/-- What the document tells of a body that was read. -/
def gotV (l : List UInt8) (rs : List R6) (a e : Int) : AV := .agg [.lst 5 (l.map u8) .unk (decide (l = [])), .lst 91 (rs.map rawV) .unk (decide (rs = [])), .sc (.int .i64 a), .sc (.int .i64 e)]
def gotC (l : List UInt8) (X : Except Int (List R6 × Nat)) : AV := match X with | .error e => gotV [] [] 0 e | .ok (rs, a) => gotV l rs a 0
theorem Wk_agg4 {P : Program} {a b c d a' b' c' d' : AV} (h1 : AV.Wk P a a') (h2 : AV.Wk P b b') (h3 : AV.Wk P c c') (h4 : AV.Wk P d d') : AV.Wk P (.agg [a, b, c, d]) (.agg [a', b', c', d']) := by
  intro G x h
  cases h with
  | agg vs l h =>
    refine .agg vs l fun i hi => ?_
    have := h i hi
    match i, hi with
    | 0, _ => exact h1 _ _ this
    | 1, _ => exact h2 _ _ this
    | 2, _ => exact h3 _ _ this
    | 3, _ => exact h4 _ _ this

def rcP (b : List UInt8) (o : Own) (nb : Bool) (fr : Nat) (id7 id8 : Nat) (X : Except Int Nat) (B : AS) (m : Nat) (f : Fr) (σ' : AS) : Prop :=
  ∃ a : Nat, m = (4 - (a - fr) % 4) % 4 ∧ fr ≤ a ∧ a ≤ b.length ∧ ePad b m a = X ∧ σ' = B ∧
    f = mkF [(0, .lst 5 (b.map u8) o nb), (1, .sc (.int .i64 fr)), (2, .sc (.int .i64 a)), (7, .ptr id7 0), (8, .ptr id8 0)]
def rcH (b : List UInt8) (o : Own) (nb : Bool) (id7 id8 : Nat) (X : Except Int (Int × Nat)) (B : AS) (m : Nat) (f : Fr) (σ' : AS) : Prop :=
  ∃ (i a : Nat) (n : Int), m = 4 - i ∧ i ≤ 4 ∧ a ≤ b.length ∧ 0 ≤ n ∧ n ≤ 6 ∧ (2 ≤ i → 1 ≤ n) ∧ eHdr b (4 - i) n a = X ∧ σ' = B ∧
    f = mkF [(0, .lst 5 (b.map u8) o nb), (2, .sc (.int .i64 a)), (7, .ptr id7 0), (8, .ptr id8 0), (9, .sc (.int .i64 n)), (10, .sc (.int .i64 i))]

def rcO (b : List UInt8) (o : Own) (nb : Bool) (n : Nat) (l : List UInt8) (o1 : Own) (id7 id8 : Nat) (X : Except Int (List R6 × Nat)) (B : AS) (m : Nat) (f : Fr) (σ' : AS) : Prop :=
  ∃ (i a : Nat) (d : List R6) (v : AV) (D : AS), m = n - i ∧ i ≤ n ∧ a ≤ b.length ∧ d.length = i ∧ pre d (eRaws b (n - i) a) = X ∧
    ((i = 0 ∧ v = .nilS ∧ D = B) ∨ (∃ tk, 0 < i ∧ B tk = none ∧ v = .lst 91 (d.map rawV) (.tok tk) false ∧ D = B.set tk (.tok i))) ∧ σ' = D.set id7 (.cells 48 [.lst 5 (l.map u8) o1 false, v]) ∧
    f = mkF [(0, .lst 5 (b.map u8) o nb), (2, .sc (.int .i64 a)), (7, .ptr id7 0), (8, .ptr id8 0), (9, .sc (.int .i64 n)), (12, .sc (.int .i64 i))]
def rcI (b : List UInt8) (o : Own) (nb : Bool) (n i a : Nat) (id7 id8 : Nat) (F : Nat → Int) (D : AS) (m : Nat) (f : Fr) (σ' : AS) : Prop :=
  ∃ (k : Nat) (v : AV), m = 6 - k ∧ k ≤ 6 ∧
    ((k = 0 ∧ v = .nilS ∧ σ' = D) ∨ (∃ tk, 0 < k ∧ D tk = none ∧ v = .lst 3 ((List.range k).map fun i => .sc (.int .i64 (F i))) (.tok tk) false ∧ σ' = D.set tk (.tok k))) ∧
    f = mkF [(0, .lst 5 (b.map u8) o nb), (2, .sc (.int .i64 a)), (7, .ptr id7 0), (8, .ptr id8 0), (9, .sc (.int .i64 n)), (12, .sc (.int .i64 i)), (13, v), (14, .sc (.int .i64 k))]

theorem rclauses_ok (b : List UInt8) (o : Own) (nb : Bool) (fr a : Nat) (l : List UInt8) (o1 : Own) (hne : l ≠ []) (ha : a ≤ b.length) (hf : fr ≤ a) (hl : b.length ≤ 140737488355328) (σ : AS) :
    ACalls Try.prog 55 [.lst 5 (b.map u8) o nb, .sc (.int .i64 fr), .sc (.int .i64 a), .agg [.lst 5 (l.map u8) o1 false, .nilS]] σ (Gives (gotC l (eClauses b fr a)) σ) No := by
  refine ACalls.of_body Try.func55 rfl rfl (by simp [Try.ntmps55]) ?_
  repeat (first
    | (with_reducible apply AWp.seq)
    | (with_reducible apply AWp.block)
    | ((with_reducible apply AWp.fork); simp -implicitDefEqProofs)
    | ((with_reducible apply AWp.region); simp -implicitDefEqProofs)
    | (with_reducible refine And.intro (by first | omega | assumption | decide) ?_)
    | (((with_reducible apply AWp.drawS (id := 29) (t := (Sch.step 0 (Sch.step 2 (Sch.step 3 (Sch.step 5 (Sch.step 6 (Sch.step 8 (Sch.step 9 (Sch.step 11 (Sch.step 12 (Sch.step 14 (Sch.step 15 (Sch.step 17 (Sch.step 18 (Sch.read 1 (Sch.read 4 (Sch.read 7 (Sch.read 10 (Sch.read 13 (Sch.read 16 (Sch.read 19 (Sch.step 20 (Sch.step 21 (Sch.alt 22 (Sch.step 23 (Sch.alt 24 Sch.done Sch.none)) Sch.none))))))))))))))))))))))))); (exact mixed); kernel_rfl; kernel_rfl; (repeat (with_reducible first | apply PanQ.then | apply PanQ.block | apply PanQ.body | apply PanQ.no))); simp -implicitDefEqProofs)
    | ((with_reducible apply AWp.ret); try simp -implicitDefEqProofs)
    | ((with_reducible apply AWp.skip); try simp -implicitDefEqProofs)
    | ((with_reducible apply AWp.exit); try simp -implicitDefEqProofs))
  intro id7 h_id7
  repeat (first
    | (with_reducible apply AWp.seq)
    | (with_reducible apply AWp.block)
    | ((with_reducible apply AWp.fork); simp -implicitDefEqProofs)
    | ((with_reducible apply AWp.region); simp -implicitDefEqProofs)
    | (with_reducible refine And.intro (by first | omega | assumption | decide) ?_)
    | (((with_reducible apply AWp.drawS (id := 29) (t := (Sch.step 0 (Sch.step 2 (Sch.step 3 (Sch.step 5 (Sch.step 6 (Sch.step 8 (Sch.step 9 (Sch.step 11 (Sch.step 12 (Sch.step 14 (Sch.step 15 (Sch.step 17 (Sch.step 18 (Sch.read 1 (Sch.read 4 (Sch.read 7 (Sch.read 10 (Sch.read 13 (Sch.read 16 (Sch.read 19 (Sch.step 20 (Sch.step 21 (Sch.alt 22 (Sch.step 23 (Sch.alt 24 Sch.done Sch.none)) Sch.none))))))))))))))))))))))))); (exact mixed); kernel_rfl; kernel_rfl; (repeat (with_reducible first | apply PanQ.then | apply PanQ.block | apply PanQ.body | apply PanQ.no))); simp -implicitDefEqProofs)
    | ((with_reducible apply AWp.ret); try simp -implicitDefEqProofs)
    | ((with_reducible apply AWp.skip); try simp -implicitDefEqProofs)
    | ((with_reducible apply AWp.exit); try simp -implicitDefEqProofs))
  intro id8 n_id8_id7 h_id8
  have n_id7_id8 : ¬ id7 = id8 := fun e => n_id8_id7 e.symm
  repeat (first
    | (with_reducible apply AWp.seq)
    | (with_reducible apply AWp.block)
    | ((with_reducible apply AWp.fork); simp -implicitDefEqProofs [n_id8_id7, n_id7_id8])
    | ((with_reducible apply AWp.region); simp -implicitDefEqProofs [n_id8_id7, n_id7_id8])
    | (with_reducible refine And.intro (by first | omega | assumption | decide) ?_)
    | ((with_reducible show condK _ _ _); simp -implicitDefEqProofs [n_id8_id7, n_id7_id8])
    | ((with_reducible show guardK _ _ _ _ _ _ _ _ _); simp -implicitDefEqProofs [n_id8_id7, n_id7_id8])
    | (((with_reducible apply AWp.drawS (id := 29) (t := (Sch.step 0 (Sch.step 2 (Sch.step 3 (Sch.step 5 (Sch.step 6 (Sch.step 8 (Sch.step 9 (Sch.step 11 (Sch.step 12 (Sch.step 14 (Sch.step 15 (Sch.step 17 (Sch.step 18 (Sch.read 1 (Sch.read 4 (Sch.read 7 (Sch.read 10 (Sch.read 13 (Sch.read 16 (Sch.read 19 (Sch.step 20 (Sch.step 21 (Sch.alt 22 (Sch.step 23 (Sch.alt 24 Sch.done Sch.none)) Sch.none))))))))))))))))))))))))); (exact mixed); kernel_rfl; kernel_rfl; (repeat (with_reducible first | apply PanQ.then | apply PanQ.block | apply PanQ.body | apply PanQ.no))); simp -implicitDefEqProofs [n_id8_id7, n_id7_id8])
    | ((with_reducible apply AWp.ret); try simp -implicitDefEqProofs [n_id8_id7, n_id7_id8])
    | ((with_reducible apply AWp.skip); try simp -implicitDefEqProofs [n_id8_id7, n_id7_id8])
    | ((with_reducible apply AWp.exit); try simp -implicitDefEqProofs [n_id8_id7, n_id7_id8]))
  obtain ⟨B, hBs, hB7, hB8, hle⟩ : ∃ B : AS, ((σ.set id7 (.cells 48 [.lst 5 (l.map u8) o1 false, .nilS])).set id8 (.cells 57 [.nilS, .nilS, .sc (.int .i64 0), .sc (.int .i64 0)])) = B ∧ B id7 = some (.cells 48 [.lst 5 (l.map u8) o1 false, .nilS]) ∧ B id8 = some (.cells 57 [.nilS, .nilS, .sc (.int .i64 0), .sc (.int .i64 0)]) ∧
      ∀ S : AS, (∀ j, j ≠ id7 → j ≠ id8 → ∀ y, B j = some y → S j = some y) → AS.le σ S := by
    refine ⟨_, rfl, by simp [n_id7_id8], by simp, ?_⟩
    intro S h j x hj
    have e7 : j ≠ id7 := by rintro rfl; rw [h_id7] at hj; cases hj
    have e8 : j ≠ id8 := by rintro rfl; rw [h_id8] at hj; cases hj
    exact h j e7 e8 x (by simp [AS.set, e7, e8, hj])
  simp only [hBs]
  clear hBs
  have hle8 : ∀ y, AS.le σ (B.set id8 y) := fun y => hle _ fun j e7 e8 z hz => by simp [AS.set, e8, hz]
  have hC := eClauses_hdr b fr a
  generalize eClauses b fr a = X at hC ⊢
  have no : ∀ e, X = .error e → ∀ y, AV.Wk Try.prog (.agg [.nilS, .nilS, .sc (.int .i64 0), .sc (.int .i64 e)]) (gotC l X) ∧ AS.le σ (B.set id8 y) := fun e he y => by
    rw [he]
    exact ⟨Wk_agg4 (by simp) (by simp) (by simp) (by simp), hle8 y⟩
  generalize hP : ePad b ((4 - (a - fr) % 4) % 4) a = EP at hC
  refine AWp.loopI (rcP b o nb fr id7 id8 EP B) (k0 := (4 - (a - fr) % 4) % 4) ⟨a, rfl, hf, ha, hP, rfl, rfl⟩ (FrWk.mk (by simp)) (AS.le_refl _) ?_
  rintro m f σ' ⟨a1, hm, h1, h2, hX, hs, rfl⟩
  subst σ'
  have hw1 : IntKind.i64.wrap ((a1 : Int) - fr) = ((a1 - fr : Nat) : Int) := by rw [in_i64 (by omega) (by omega)]; omega
  have hw2 : ((a1 - fr : Nat) : Int).tmod 4 = (((a1 - fr) % 4 : Nat) : Int) := by rw [Int.tmod_eq_emod_of_nonneg (by omega)]; omega
  cases m with
  | succ m =>
    have hz : (((a1 - fr : Nat) : Int) % 4 = 0) = False := by simp; omega
    simp only [ePad, eMust_one] at hX
    cases hg : b[a1]? with
    | none =>
      rw [hg] at hX
      rw [← hX] at hC
      have hge : ((b.length : Int) ≤ a1) = True := by have := List.getElem?_eq_none_iff.1 hg; simp; omega
      repeat (first
        | (with_reducible apply AWp.seq)
        | (with_reducible apply AWp.block)
        | ((with_reducible apply AWp.fork); simp -implicitDefEqProofs [hw1, hw2, hz, hge, hB7, hB8, n_id8_id7, n_id7_id8])
        | ((with_reducible apply AWp.region); simp -implicitDefEqProofs [hw1, hw2, hz, hge, hB7, hB8, n_id8_id7, n_id7_id8])
        | (with_reducible refine And.intro (by first | omega | assumption | decide) ?_)
        | ((with_reducible show condK _ _ _); simp -implicitDefEqProofs [hw1, hw2, hz, hge, hB7, hB8, n_id8_id7, n_id7_id8])
        | ((with_reducible show guardK _ _ _ _ _ _ _ _ _); simp -implicitDefEqProofs [hw1, hw2, hz, hge, hB7, hB8, n_id8_id7, n_id7_id8])
        | (((with_reducible apply AWp.drawS (id := 29) (t := (Sch.step 0 (Sch.step 2 (Sch.step 3 (Sch.step 5 (Sch.step 6 (Sch.step 8 (Sch.step 9 (Sch.step 11 (Sch.step 12 (Sch.step 14 (Sch.step 15 (Sch.step 17 (Sch.step 18 (Sch.read 1 (Sch.read 4 (Sch.read 7 (Sch.read 10 (Sch.read 13 (Sch.read 16 (Sch.read 19 (Sch.step 20 (Sch.step 21 (Sch.alt 22 (Sch.step 23 (Sch.alt 24 Sch.done Sch.none)) Sch.none))))))))))))))))))))))))); (exact mixed); kernel_rfl; kernel_rfl; (repeat (with_reducible first | apply PanQ.then | apply PanQ.block | apply PanQ.body | apply PanQ.no))); simp -implicitDefEqProofs [hw1, hw2, hz, hge, hB7, hB8, n_id8_id7, n_id7_id8])
        | ((with_reducible apply AWp.ret); try simp -implicitDefEqProofs [hw1, hw2, hz, hge, hB7, hB8, n_id8_id7, n_id7_id8])
        | ((with_reducible apply AWp.skip); try simp -implicitDefEqProofs [hw1, hw2, hz, hge, hB7, hB8, n_id8_id7, n_id7_id8])
        | ((with_reducible apply AWp.exit); try simp -implicitDefEqProofs [hw1, hw2, hz, hge, hB7, hB8, n_id8_id7, n_id7_id8]))
      exact no 1 hC _
    | some c =>
      rw [hg] at hX
      obtain ⟨hlt, hg'⟩ := List.getElem?_eq_some_iff.1 hg
      have hge : ((b.length : Int) ≤ a1) = False := by simp; omega
      by_cases hc : c.toNat = 0
      · simp only [hc] at hX
        clear hC no
        repeat (first
          | (with_reducible apply AWp.seq)
          | (with_reducible apply AWp.block)
          | ((with_reducible apply AWp.fork); simp -implicitDefEqProofs [hw1, hw2, hz, hge, hlt, hg, hg', hc, hB7, hB8, n_id8_id7, n_id7_id8])
          | ((with_reducible apply AWp.region); simp -implicitDefEqProofs [hw1, hw2, hz, hge, hlt, hg, hg', hc, hB7, hB8, n_id8_id7, n_id7_id8])
          | (with_reducible refine And.intro (by first | omega | assumption | decide) ?_)
          | ((with_reducible show condK _ _ _); simp -implicitDefEqProofs [hw1, hw2, hz, hge, hlt, hg, hg', hc, hB7, hB8, n_id8_id7, n_id7_id8])
          | ((with_reducible show guardK _ _ _ _ _ _ _ _ _); simp -implicitDefEqProofs [hw1, hw2, hz, hge, hlt, hg, hg', hc, hB7, hB8, n_id8_id7, n_id7_id8])
          | (((with_reducible apply AWp.drawS (id := 29) (t := (Sch.step 0 (Sch.step 2 (Sch.step 3 (Sch.step 5 (Sch.step 6 (Sch.step 8 (Sch.step 9 (Sch.step 11 (Sch.step 12 (Sch.step 14 (Sch.step 15 (Sch.step 17 (Sch.step 18 (Sch.read 1 (Sch.read 4 (Sch.read 7 (Sch.read 10 (Sch.read 13 (Sch.read 16 (Sch.read 19 (Sch.step 20 (Sch.step 21 (Sch.alt 22 (Sch.step 23 (Sch.alt 24 Sch.done Sch.none)) Sch.none))))))))))))))))))))))))); (exact mixed); kernel_rfl; kernel_rfl; (repeat (with_reducible first | apply PanQ.then | apply PanQ.block | apply PanQ.body | apply PanQ.no))); simp -implicitDefEqProofs [hw1, hw2, hz, hge, hlt, hg, hg', hc, hB7, hB8, n_id8_id7, n_id7_id8])
          | ((with_reducible apply AWp.ret); try simp -implicitDefEqProofs [hw1, hw2, hz, hge, hlt, hg, hg', hc, hB7, hB8, n_id8_id7, n_id7_id8])
          | ((with_reducible apply AWp.skip); try simp -implicitDefEqProofs [hw1, hw2, hz, hge, hlt, hg, hg', hc, hB7, hB8, n_id8_id7, n_id7_id8])
          | ((with_reducible apply AWp.exit); try simp -implicitDefEqProofs [hw1, hw2, hz, hge, hlt, hg, hg', hc, hB7, hB8, n_id8_id7, n_id7_id8]))
        refine ⟨m, _, _, by omega, FrWk.mk ?_, AS.le_refl _, a1 + 1, by omega, by omega, by omega, hX, rfl, rfl⟩
        simp [wInc (show a1 < 4000000000000000000 by omega)]
      · have hc' : ¬ ((c.toNat : Int) = 0) := by omega
        simp only [hc', if_false] at hX
        rw [← hX] at hC
        repeat (first
          | (with_reducible apply AWp.seq)
          | (with_reducible apply AWp.block)
          | ((with_reducible apply AWp.fork); simp -implicitDefEqProofs [hw1, hw2, hz, hge, hlt, hg, hg', hc, hB7, hB8, n_id8_id7, n_id7_id8])
          | ((with_reducible apply AWp.region); simp -implicitDefEqProofs [hw1, hw2, hz, hge, hlt, hg, hg', hc, hB7, hB8, n_id8_id7, n_id7_id8])
          | (with_reducible refine And.intro (by first | omega | assumption | decide) ?_)
          | ((with_reducible show condK _ _ _); simp -implicitDefEqProofs [hw1, hw2, hz, hge, hlt, hg, hg', hc, hB7, hB8, n_id8_id7, n_id7_id8])
          | ((with_reducible show guardK _ _ _ _ _ _ _ _ _); simp -implicitDefEqProofs [hw1, hw2, hz, hge, hlt, hg, hg', hc, hB7, hB8, n_id8_id7, n_id7_id8])
          | (((with_reducible apply AWp.drawS (id := 29) (t := (Sch.step 0 (Sch.step 2 (Sch.step 3 (Sch.step 5 (Sch.step 6 (Sch.step 8 (Sch.step 9 (Sch.step 11 (Sch.step 12 (Sch.step 14 (Sch.step 15 (Sch.step 17 (Sch.step 18 (Sch.read 1 (Sch.read 4 (Sch.read 7 (Sch.read 10 (Sch.read 13 (Sch.read 16 (Sch.read 19 (Sch.step 20 (Sch.step 21 (Sch.alt 22 (Sch.step 23 (Sch.alt 24 Sch.done Sch.none)) Sch.none))))))))))))))))))))))))); (exact mixed); kernel_rfl; kernel_rfl; (repeat (with_reducible first | apply PanQ.then | apply PanQ.block | apply PanQ.body | apply PanQ.no))); simp -implicitDefEqProofs [hw1, hw2, hz, hge, hlt, hg, hg', hc, hB7, hB8, n_id8_id7, n_id7_id8])
          | ((with_reducible apply AWp.ret); try simp -implicitDefEqProofs [hw1, hw2, hz, hge, hlt, hg, hg', hc, hB7, hB8, n_id8_id7, n_id7_id8])
          | ((with_reducible apply AWp.skip); try simp -implicitDefEqProofs [hw1, hw2, hz, hge, hlt, hg, hg', hc, hB7, hB8, n_id8_id7, n_id7_id8])
          | ((with_reducible apply AWp.exit); try simp -implicitDefEqProofs [hw1, hw2, hz, hge, hlt, hg, hg', hc, hB7, hB8, n_id8_id7, n_id7_id8]))
        exact no 2 hC _
  | zero =>
    have hz : (((a1 - fr : Nat) : Int) % 4 = 0) = True := by simp; omega
    simp only [ePad] at hX
    rw [← hX] at hC
    simp only at hC
    repeat (first
      | (with_reducible apply AWp.seq)
      | (with_reducible apply AWp.block)
      | ((with_reducible apply AWp.fork); simp -implicitDefEqProofs [hw1, hw2, hz, n_id8_id7, n_id7_id8])
      | ((with_reducible apply AWp.region); simp -implicitDefEqProofs [hw1, hw2, hz, n_id8_id7, n_id7_id8])
      | (with_reducible refine And.intro (by first | omega | assumption | decide) ?_)
      | ((with_reducible show condK _ _ _); simp -implicitDefEqProofs [hw1, hw2, hz, n_id8_id7, n_id7_id8])
      | ((with_reducible show guardK _ _ _ _ _ _ _ _ _); simp -implicitDefEqProofs [hw1, hw2, hz, n_id8_id7, n_id7_id8])
      | (((with_reducible apply AWp.drawS (id := 29) (t := (Sch.step 0 (Sch.step 2 (Sch.step 3 (Sch.step 5 (Sch.step 6 (Sch.step 8 (Sch.step 9 (Sch.step 11 (Sch.step 12 (Sch.step 14 (Sch.step 15 (Sch.step 17 (Sch.step 18 (Sch.read 1 (Sch.read 4 (Sch.read 7 (Sch.read 10 (Sch.read 13 (Sch.read 16 (Sch.read 19 (Sch.step 20 (Sch.step 21 (Sch.alt 22 (Sch.step 23 (Sch.alt 24 Sch.done Sch.none)) Sch.none))))))))))))))))))))))))); (exact mixed); kernel_rfl; kernel_rfl; (repeat (with_reducible first | apply PanQ.then | apply PanQ.block | apply PanQ.body | apply PanQ.no))); simp -implicitDefEqProofs [hw1, hw2, hz, n_id8_id7, n_id7_id8])
      | ((with_reducible apply AWp.ret); try simp -implicitDefEqProofs [hw1, hw2, hz, n_id8_id7, n_id7_id8])
      | ((with_reducible apply AWp.skip); try simp -implicitDefEqProofs [hw1, hw2, hz, n_id8_id7, n_id7_id8])
      | ((with_reducible apply AWp.exit); try simp -implicitDefEqProofs [hw1, hw2, hz, n_id8_id7, n_id7_id8]))
    clear hX hz hw1 hw2 hm hP
    generalize hH : eHdr b 4 0 a1 = EH at hC
    refine AWp.loopI (rcH b o nb id7 id8 EH B) (k0 := 4) ⟨0, a1, 0, rfl, by omega, h2, by omega, by omega, by omega, hH, rfl, rfl⟩ (FrWk.mk (by simp)) (AS.le_refl _) ?_
    clear hH
    rintro m f σ' ⟨i, a2, n, hm, hi, l2, n0, n6, n1, hX, hs, rfl⟩
    subst σ'
    by_cases hlt4 : i < 4
    · have hI : ((i : Int) < 4) = True := by simp; omega
      cases hg : b[a2]? with
      | none =>
        rw [show 4 - i = (3 - i) + 1 by omega, eHdr_succ, hg] at hX
        rw [← hX] at hC
        have hge : ((b.length : Int) ≤ a2) = True := by have := List.getElem?_eq_none_iff.1 hg; simp; omega
        repeat (first
          | (with_reducible apply AWp.seq)
          | (with_reducible apply AWp.block)
          | ((with_reducible apply AWp.fork); simp -implicitDefEqProofs [hI, hge, hB7, hB8, n_id8_id7, n_id7_id8])
          | ((with_reducible apply AWp.region); simp -implicitDefEqProofs [hI, hge, hB7, hB8, n_id8_id7, n_id7_id8])
          | (with_reducible refine And.intro (by first | omega | assumption | decide) ?_)
          | ((with_reducible show condK _ _ _); simp -implicitDefEqProofs [hI, hge, hB7, hB8, n_id8_id7, n_id7_id8])
          | ((with_reducible show guardK _ _ _ _ _ _ _ _ _); simp -implicitDefEqProofs [hI, hge, hB7, hB8, n_id8_id7, n_id7_id8])
          | (((with_reducible apply AWp.drawS (id := 29) (t := (Sch.step 0 (Sch.step 2 (Sch.step 3 (Sch.step 5 (Sch.step 6 (Sch.step 8 (Sch.step 9 (Sch.step 11 (Sch.step 12 (Sch.step 14 (Sch.step 15 (Sch.step 17 (Sch.step 18 (Sch.read 1 (Sch.read 4 (Sch.read 7 (Sch.read 10 (Sch.read 13 (Sch.read 16 (Sch.read 19 (Sch.step 20 (Sch.step 21 (Sch.alt 22 (Sch.step 23 (Sch.alt 24 Sch.done Sch.none)) Sch.none))))))))))))))))))))))))); (exact mixed); kernel_rfl; kernel_rfl; (repeat (with_reducible first | apply PanQ.then | apply PanQ.block | apply PanQ.body | apply PanQ.no))); simp -implicitDefEqProofs [hI, hge, hB7, hB8, n_id8_id7, n_id7_id8])
          | ((with_reducible apply AWp.ret); try simp -implicitDefEqProofs [hI, hge, hB7, hB8, n_id8_id7, n_id7_id8])
          | ((with_reducible apply AWp.skip); try simp -implicitDefEqProofs [hI, hge, hB7, hB8, n_id8_id7, n_id7_id8])
          | ((with_reducible apply AWp.exit); try simp -implicitDefEqProofs [hI, hge, hB7, hB8, n_id8_id7, n_id7_id8]))
        exact no 1 hC _
      | some c =>
        obtain ⟨hlt, hg'⟩ := List.getElem?_eq_some_iff.1 hg
        have hge : ((b.length : Int) ≤ a2) = False := by simp; omega
        have hct := c.toNat_lt
        rw [show 4 - i = (3 - i) + 1 by omega, eHdr_succ, hg] at hX
        simp only at hX
        have hwc : IntKind.i64.wrap (c.toNat : Int) = c.toNat := in_i64 (by omega) (by omega)
        have W1 : IntKind.i64.wrap 1 = 1 := by kernel_rfl
        have W0 : IntKind.i64.wrap 0 = 0 := by kernel_rfl
        have hi4 : i = 0 ∨ i = 1 ∨ i = 2 ∨ i = 3 := by omega
        rcases hi4 with rfl | rfl | rfl | rfl
        · by_cases hc : c.toNat = 1
          · have k1 : ¬ ((c.toNat : Int) ≠ 1) := by omega
            simp [k1, hc] at hX
            clear hC no
            repeat (first
              | (with_reducible apply AWp.seq)
              | (with_reducible apply AWp.block)
              | ((with_reducible apply AWp.fork); simp -implicitDefEqProofs [hge, hlt, hg, hg', hc, hwc, W0, W1, n_id8_id7, n_id7_id8])
              | ((with_reducible apply AWp.region); simp -implicitDefEqProofs [hge, hlt, hg, hg', hc, hwc, W0, W1, n_id8_id7, n_id7_id8])
              | (with_reducible refine And.intro (by first | omega | assumption | decide) ?_)
              | ((with_reducible show condK _ _ _); simp -implicitDefEqProofs [hge, hlt, hg, hg', hc, hwc, W0, W1, n_id8_id7, n_id7_id8])
              | ((with_reducible show guardK _ _ _ _ _ _ _ _ _); simp -implicitDefEqProofs [hge, hlt, hg, hg', hc, hwc, W0, W1, n_id8_id7, n_id7_id8])
              | (((with_reducible apply AWp.drawS (id := 29) (t := (Sch.step 0 (Sch.step 2 (Sch.step 3 (Sch.step 5 (Sch.step 6 (Sch.step 8 (Sch.step 9 (Sch.step 11 (Sch.step 12 (Sch.step 14 (Sch.step 15 (Sch.step 17 (Sch.step 18 (Sch.read 1 (Sch.read 4 (Sch.read 7 (Sch.read 10 (Sch.read 13 (Sch.read 16 (Sch.read 19 (Sch.step 20 (Sch.step 21 (Sch.alt 22 (Sch.step 23 (Sch.alt 24 Sch.done Sch.none)) Sch.none))))))))))))))))))))))))); (exact mixed); kernel_rfl; kernel_rfl; (repeat (with_reducible first | apply PanQ.then | apply PanQ.block | apply PanQ.body | apply PanQ.no))); simp -implicitDefEqProofs [hge, hlt, hg, hg', hc, hwc, W0, W1, n_id8_id7, n_id7_id8])
              | ((with_reducible apply AWp.ret); try simp -implicitDefEqProofs [hge, hlt, hg, hg', hc, hwc, W0, W1, n_id8_id7, n_id7_id8])
              | ((with_reducible apply AWp.skip); try simp -implicitDefEqProofs [hge, hlt, hg, hg', hc, hwc, W0, W1, n_id8_id7, n_id7_id8])
              | ((with_reducible apply AWp.exit); try simp -implicitDefEqProofs [hge, hlt, hg, hg', hc, hwc, W0, W1, n_id8_id7, n_id7_id8]))
            refine ⟨3, _, _, by omega, FrWk.mk ?_, AS.le_refl _, 1, a2 + 1, n, by omega, by omega, by omega, by omega, by omega, by omega, hX, rfl, rfl⟩
            simp [wInc (show a2 < 4000000000000000000 by omega), show IntKind.i64.wrap 1 = 1 from by kernel_rfl]
          · have k1 : (c.toNat : Int) ≠ 1 := by omega
            simp [k1, hc] at hX
            repeat (first
              | (with_reducible apply AWp.seq)
              | (with_reducible apply AWp.block)
              | ((with_reducible apply AWp.fork); simp -implicitDefEqProofs [hge, hlt, hg, hg', hc, k1, hwc, W0, W1, hB7, hB8, n_id8_id7, n_id7_id8])
              | ((with_reducible apply AWp.region); simp -implicitDefEqProofs [hge, hlt, hg, hg', hc, k1, hwc, W0, W1, hB7, hB8, n_id8_id7, n_id7_id8])
              | (with_reducible refine And.intro (by first | omega | assumption | decide) ?_)
              | ((with_reducible show condK _ _ _); simp -implicitDefEqProofs [hge, hlt, hg, hg', hc, k1, hwc, W0, W1, hB7, hB8, n_id8_id7, n_id7_id8])
              | ((with_reducible show guardK _ _ _ _ _ _ _ _ _); simp -implicitDefEqProofs [hge, hlt, hg, hg', hc, k1, hwc, W0, W1, hB7, hB8, n_id8_id7, n_id7_id8])
              | (((with_reducible apply AWp.drawS (id := 29) (t := (Sch.step 0 (Sch.step 2 (Sch.step 3 (Sch.step 5 (Sch.step 6 (Sch.step 8 (Sch.step 9 (Sch.step 11 (Sch.step 12 (Sch.step 14 (Sch.step 15 (Sch.step 17 (Sch.step 18 (Sch.read 1 (Sch.read 4 (Sch.read 7 (Sch.read 10 (Sch.read 13 (Sch.read 16 (Sch.read 19 (Sch.step 20 (Sch.step 21 (Sch.alt 22 (Sch.step 23 (Sch.alt 24 Sch.done Sch.none)) Sch.none))))))))))))))))))))))))); (exact mixed); kernel_rfl; kernel_rfl; (repeat (with_reducible first | apply PanQ.then | apply PanQ.block | apply PanQ.body | apply PanQ.no))); simp -implicitDefEqProofs [hge, hlt, hg, hg', hc, k1, hwc, W0, W1, hB7, hB8, n_id8_id7, n_id7_id8])
              | ((with_reducible apply AWp.ret); try simp -implicitDefEqProofs [hge, hlt, hg, hg', hc, k1, hwc, W0, W1, hB7, hB8, n_id8_id7, n_id7_id8])
              | ((with_reducible apply AWp.skip); try simp -implicitDefEqProofs [hge, hlt, hg, hg', hc, k1, hwc, W0, W1, hB7, hB8, n_id8_id7, n_id7_id8])
              | ((with_reducible apply AWp.exit); try simp -implicitDefEqProofs [hge, hlt, hg, hg', hc, k1, hwc, W0, W1, hB7, hB8, n_id8_id7, n_id7_id8]))
            exact no 2 (by rw [hC, ← hX]) _
        · by_cases hc : 1 ≤ c.toNat ∧ c.toNat ≤ 6
          · have k1 : ¬ ((c.toNat : Int) < 1 ∨ 6 < (c.toNat : Int)) := by omega
            have k2 : ((c.toNat : Int) < 1) = False := by simp; omega
            have k3 : (6 < (c.toNat : Int)) = False := by simp; omega
            simp [k1] at hX
            clear hC no
            repeat (first
              | (with_reducible apply AWp.seq)
              | (with_reducible apply AWp.block)
              | ((with_reducible apply AWp.fork); simp -implicitDefEqProofs [hge, hlt, hg, hg', k2, k3, hwc, W0, W1, n_id8_id7, n_id7_id8])
              | ((with_reducible apply AWp.region); simp -implicitDefEqProofs [hge, hlt, hg, hg', k2, k3, hwc, W0, W1, n_id8_id7, n_id7_id8])
              | (with_reducible refine And.intro (by first | omega | assumption | decide) ?_)
              | ((with_reducible show condK _ _ _); simp -implicitDefEqProofs [hge, hlt, hg, hg', k2, k3, hwc, W0, W1, n_id8_id7, n_id7_id8])
              | ((with_reducible show guardK _ _ _ _ _ _ _ _ _); simp -implicitDefEqProofs [hge, hlt, hg, hg', k2, k3, hwc, W0, W1, n_id8_id7, n_id7_id8])
              | (((with_reducible apply AWp.drawS (id := 29) (t := (Sch.step 0 (Sch.step 2 (Sch.step 3 (Sch.step 5 (Sch.step 6 (Sch.step 8 (Sch.step 9 (Sch.step 11 (Sch.step 12 (Sch.step 14 (Sch.step 15 (Sch.step 17 (Sch.step 18 (Sch.read 1 (Sch.read 4 (Sch.read 7 (Sch.read 10 (Sch.read 13 (Sch.read 16 (Sch.read 19 (Sch.step 20 (Sch.step 21 (Sch.alt 22 (Sch.step 23 (Sch.alt 24 Sch.done Sch.none)) Sch.none))))))))))))))))))))))))); (exact mixed); kernel_rfl; kernel_rfl; (repeat (with_reducible first | apply PanQ.then | apply PanQ.block | apply PanQ.body | apply PanQ.no))); simp -implicitDefEqProofs [hge, hlt, hg, hg', k2, k3, hwc, W0, W1, n_id8_id7, n_id7_id8])
              | ((with_reducible apply AWp.ret); try simp -implicitDefEqProofs [hge, hlt, hg, hg', k2, k3, hwc, W0, W1, n_id8_id7, n_id7_id8])
              | ((with_reducible apply AWp.skip); try simp -implicitDefEqProofs [hge, hlt, hg, hg', k2, k3, hwc, W0, W1, n_id8_id7, n_id7_id8])
              | ((with_reducible apply AWp.exit); try simp -implicitDefEqProofs [hge, hlt, hg, hg', k2, k3, hwc, W0, W1, n_id8_id7, n_id7_id8]))
            refine ⟨2, _, _, by omega, FrWk.mk ?_, AS.le_refl _, 2, a2 + 1, (c.toNat : Int), by omega, by omega, by omega, by omega, by omega, by omega, hX, rfl, rfl⟩
            simp [wInc (show a2 < 4000000000000000000 by omega), show IntKind.i64.wrap 2 = 2 from by kernel_rfl]
          · have k1 : ((c.toNat : Int) < 1 ∨ 6 < (c.toNat : Int)) := by omega
            simp [k1] at hX
            by_cases hc0 : c.toNat = 0
            · repeat (first
                | (with_reducible apply AWp.seq)
                | (with_reducible apply AWp.block)
                | ((with_reducible apply AWp.fork); simp -implicitDefEqProofs [hge, hlt, hg, hg', hc0, hwc, W0, W1, hB7, hB8, n_id8_id7, n_id7_id8])
                | ((with_reducible apply AWp.region); simp -implicitDefEqProofs [hge, hlt, hg, hg', hc0, hwc, W0, W1, hB7, hB8, n_id8_id7, n_id7_id8])
                | (with_reducible refine And.intro (by first | omega | assumption | decide) ?_)
                | ((with_reducible show condK _ _ _); simp -implicitDefEqProofs [hge, hlt, hg, hg', hc0, hwc, W0, W1, hB7, hB8, n_id8_id7, n_id7_id8])
                | ((with_reducible show guardK _ _ _ _ _ _ _ _ _); simp -implicitDefEqProofs [hge, hlt, hg, hg', hc0, hwc, W0, W1, hB7, hB8, n_id8_id7, n_id7_id8])
                | (((with_reducible apply AWp.drawS (id := 29) (t := (Sch.step 0 (Sch.step 2 (Sch.step 3 (Sch.step 5 (Sch.step 6 (Sch.step 8 (Sch.step 9 (Sch.step 11 (Sch.step 12 (Sch.step 14 (Sch.step 15 (Sch.step 17 (Sch.step 18 (Sch.read 1 (Sch.read 4 (Sch.read 7 (Sch.read 10 (Sch.read 13 (Sch.read 16 (Sch.read 19 (Sch.step 20 (Sch.step 21 (Sch.alt 22 (Sch.step 23 (Sch.alt 24 Sch.done Sch.none)) Sch.none))))))))))))))))))))))))); (exact mixed); kernel_rfl; kernel_rfl; (repeat (with_reducible first | apply PanQ.then | apply PanQ.block | apply PanQ.body | apply PanQ.no))); simp -implicitDefEqProofs [hge, hlt, hg, hg', hc0, hwc, W0, W1, hB7, hB8, n_id8_id7, n_id7_id8])
                | ((with_reducible apply AWp.ret); try simp -implicitDefEqProofs [hge, hlt, hg, hg', hc0, hwc, W0, W1, hB7, hB8, n_id8_id7, n_id7_id8])
                | ((with_reducible apply AWp.skip); try simp -implicitDefEqProofs [hge, hlt, hg, hg', hc0, hwc, W0, W1, hB7, hB8, n_id8_id7, n_id7_id8])
                | ((with_reducible apply AWp.exit); try simp -implicitDefEqProofs [hge, hlt, hg, hg', hc0, hwc, W0, W1, hB7, hB8, n_id8_id7, n_id7_id8]))
              exact no 2 (by rw [hC, ← hX]) _
            · have k3 : (6 < (c.toNat : Int)) = True := by simp; omega
              have k4 : ((c.toNat : Int) < 1) = False := by simp; omega
              repeat (first
                | (with_reducible apply AWp.seq)
                | (with_reducible apply AWp.block)
                | ((with_reducible apply AWp.fork); simp -implicitDefEqProofs [hge, hlt, hg, hg', k3, k4, hwc, W0, W1, hB7, hB8, n_id8_id7, n_id7_id8])
                | ((with_reducible apply AWp.region); simp -implicitDefEqProofs [hge, hlt, hg, hg', k3, k4, hwc, W0, W1, hB7, hB8, n_id8_id7, n_id7_id8])
                | (with_reducible refine And.intro (by first | omega | assumption | decide) ?_)
                | ((with_reducible show condK _ _ _); simp -implicitDefEqProofs [hge, hlt, hg, hg', k3, k4, hwc, W0, W1, hB7, hB8, n_id8_id7, n_id7_id8])
                | ((with_reducible show guardK _ _ _ _ _ _ _ _ _); simp -implicitDefEqProofs [hge, hlt, hg, hg', k3, k4, hwc, W0, W1, hB7, hB8, n_id8_id7, n_id7_id8])
                | (((with_reducible apply AWp.drawS (id := 29) (t := (Sch.step 0 (Sch.step 2 (Sch.step 3 (Sch.step 5 (Sch.step 6 (Sch.step 8 (Sch.step 9 (Sch.step 11 (Sch.step 12 (Sch.step 14 (Sch.step 15 (Sch.step 17 (Sch.step 18 (Sch.read 1 (Sch.read 4 (Sch.read 7 (Sch.read 10 (Sch.read 13 (Sch.read 16 (Sch.read 19 (Sch.step 20 (Sch.step 21 (Sch.alt 22 (Sch.step 23 (Sch.alt 24 Sch.done Sch.none)) Sch.none))))))))))))))))))))))))); (exact mixed); kernel_rfl; kernel_rfl; (repeat (with_reducible first | apply PanQ.then | apply PanQ.block | apply PanQ.body | apply PanQ.no))); simp -implicitDefEqProofs [hge, hlt, hg, hg', k3, k4, hwc, W0, W1, hB7, hB8, n_id8_id7, n_id7_id8])
                | ((with_reducible apply AWp.ret); try simp -implicitDefEqProofs [hge, hlt, hg, hg', k3, k4, hwc, W0, W1, hB7, hB8, n_id8_id7, n_id7_id8])
                | ((with_reducible apply AWp.skip); try simp -implicitDefEqProofs [hge, hlt, hg, hg', k3, k4, hwc, W0, W1, hB7, hB8, n_id8_id7, n_id7_id8])
                | ((with_reducible apply AWp.exit); try simp -implicitDefEqProofs [hge, hlt, hg, hg', k3, k4, hwc, W0, W1, hB7, hB8, n_id8_id7, n_id7_id8]))
              exact no 2 (by rw [hC, ← hX]) _
        · by_cases hc : c.toNat = 0
          · have k1 : ¬ ((c.toNat : Int) ≠ 0) := by omega
            simp [k1, hc] at hX
            clear hC no
            repeat (first
              | (with_reducible apply AWp.seq)
              | (with_reducible apply AWp.block)
              | ((with_reducible apply AWp.fork); simp -implicitDefEqProofs [hge, hlt, hg, hg', hc, hwc, W0, W1, n_id8_id7, n_id7_id8])
              | ((with_reducible apply AWp.region); simp -implicitDefEqProofs [hge, hlt, hg, hg', hc, hwc, W0, W1, n_id8_id7, n_id7_id8])
              | (with_reducible refine And.intro (by first | omega | assumption | decide) ?_)
              | ((with_reducible show condK _ _ _); simp -implicitDefEqProofs [hge, hlt, hg, hg', hc, hwc, W0, W1, n_id8_id7, n_id7_id8])
              | ((with_reducible show guardK _ _ _ _ _ _ _ _ _); simp -implicitDefEqProofs [hge, hlt, hg, hg', hc, hwc, W0, W1, n_id8_id7, n_id7_id8])
              | (((with_reducible apply AWp.drawS (id := 29) (t := (Sch.step 0 (Sch.step 2 (Sch.step 3 (Sch.step 5 (Sch.step 6 (Sch.step 8 (Sch.step 9 (Sch.step 11 (Sch.step 12 (Sch.step 14 (Sch.step 15 (Sch.step 17 (Sch.step 18 (Sch.read 1 (Sch.read 4 (Sch.read 7 (Sch.read 10 (Sch.read 13 (Sch.read 16 (Sch.read 19 (Sch.step 20 (Sch.step 21 (Sch.alt 22 (Sch.step 23 (Sch.alt 24 Sch.done Sch.none)) Sch.none))))))))))))))))))))))))); (exact mixed); kernel_rfl; kernel_rfl; (repeat (with_reducible first | apply PanQ.then | apply PanQ.block | apply PanQ.body | apply PanQ.no))); simp -implicitDefEqProofs [hge, hlt, hg, hg', hc, hwc, W0, W1, n_id8_id7, n_id7_id8])
              | ((with_reducible apply AWp.ret); try simp -implicitDefEqProofs [hge, hlt, hg, hg', hc, hwc, W0, W1, n_id8_id7, n_id7_id8])
              | ((with_reducible apply AWp.skip); try simp -implicitDefEqProofs [hge, hlt, hg, hg', hc, hwc, W0, W1, n_id8_id7, n_id7_id8])
              | ((with_reducible apply AWp.exit); try simp -implicitDefEqProofs [hge, hlt, hg, hg', hc, hwc, W0, W1, n_id8_id7, n_id7_id8]))
            refine ⟨1, _, _, by omega, FrWk.mk ?_, AS.le_refl _, 3, a2 + 1, n, by omega, by omega, by omega, by omega, by omega, by omega, hX, rfl, rfl⟩
            simp [wInc (show a2 < 4000000000000000000 by omega), show IntKind.i64.wrap 3 = 3 from by kernel_rfl]
          · have k1 : (c.toNat : Int) ≠ 0 := by omega
            simp [k1, hc] at hX
            repeat (first
              | (with_reducible apply AWp.seq)
              | (with_reducible apply AWp.block)
              | ((with_reducible apply AWp.fork); simp -implicitDefEqProofs [hge, hlt, hg, hg', hc, k1, hwc, W0, W1, hB7, hB8, n_id8_id7, n_id7_id8])
              | ((with_reducible apply AWp.region); simp -implicitDefEqProofs [hge, hlt, hg, hg', hc, k1, hwc, W0, W1, hB7, hB8, n_id8_id7, n_id7_id8])
              | (with_reducible refine And.intro (by first | omega | assumption | decide) ?_)
              | ((with_reducible show condK _ _ _); simp -implicitDefEqProofs [hge, hlt, hg, hg', hc, k1, hwc, W0, W1, hB7, hB8, n_id8_id7, n_id7_id8])
              | ((with_reducible show guardK _ _ _ _ _ _ _ _ _); simp -implicitDefEqProofs [hge, hlt, hg, hg', hc, k1, hwc, W0, W1, hB7, hB8, n_id8_id7, n_id7_id8])
              | (((with_reducible apply AWp.drawS (id := 29) (t := (Sch.step 0 (Sch.step 2 (Sch.step 3 (Sch.step 5 (Sch.step 6 (Sch.step 8 (Sch.step 9 (Sch.step 11 (Sch.step 12 (Sch.step 14 (Sch.step 15 (Sch.step 17 (Sch.step 18 (Sch.read 1 (Sch.read 4 (Sch.read 7 (Sch.read 10 (Sch.read 13 (Sch.read 16 (Sch.read 19 (Sch.step 20 (Sch.step 21 (Sch.alt 22 (Sch.step 23 (Sch.alt 24 Sch.done Sch.none)) Sch.none))))))))))))))))))))))))); (exact mixed); kernel_rfl; kernel_rfl; (repeat (with_reducible first | apply PanQ.then | apply PanQ.block | apply PanQ.body | apply PanQ.no))); simp -implicitDefEqProofs [hge, hlt, hg, hg', hc, k1, hwc, W0, W1, hB7, hB8, n_id8_id7, n_id7_id8])
              | ((with_reducible apply AWp.ret); try simp -implicitDefEqProofs [hge, hlt, hg, hg', hc, k1, hwc, W0, W1, hB7, hB8, n_id8_id7, n_id7_id8])
              | ((with_reducible apply AWp.skip); try simp -implicitDefEqProofs [hge, hlt, hg, hg', hc, k1, hwc, W0, W1, hB7, hB8, n_id8_id7, n_id7_id8])
              | ((with_reducible apply AWp.exit); try simp -implicitDefEqProofs [hge, hlt, hg, hg', hc, k1, hwc, W0, W1, hB7, hB8, n_id8_id7, n_id7_id8]))
            exact no 2 (by rw [hC, ← hX]) _
        · by_cases hc : c.toNat = 0
          · have k1 : ¬ ((c.toNat : Int) ≠ 0) := by omega
            simp [k1, hc] at hX
            clear hC no
            repeat (first
              | (with_reducible apply AWp.seq)
              | (with_reducible apply AWp.block)
              | ((with_reducible apply AWp.fork); simp -implicitDefEqProofs [hge, hlt, hg, hg', hc, hwc, W0, W1, n_id8_id7, n_id7_id8])
              | ((with_reducible apply AWp.region); simp -implicitDefEqProofs [hge, hlt, hg, hg', hc, hwc, W0, W1, n_id8_id7, n_id7_id8])
              | (with_reducible refine And.intro (by first | omega | assumption | decide) ?_)
              | ((with_reducible show condK _ _ _); simp -implicitDefEqProofs [hge, hlt, hg, hg', hc, hwc, W0, W1, n_id8_id7, n_id7_id8])
              | ((with_reducible show guardK _ _ _ _ _ _ _ _ _); simp -implicitDefEqProofs [hge, hlt, hg, hg', hc, hwc, W0, W1, n_id8_id7, n_id7_id8])
              | (((with_reducible apply AWp.drawS (id := 29) (t := (Sch.step 0 (Sch.step 2 (Sch.step 3 (Sch.step 5 (Sch.step 6 (Sch.step 8 (Sch.step 9 (Sch.step 11 (Sch.step 12 (Sch.step 14 (Sch.step 15 (Sch.step 17 (Sch.step 18 (Sch.read 1 (Sch.read 4 (Sch.read 7 (Sch.read 10 (Sch.read 13 (Sch.read 16 (Sch.read 19 (Sch.step 20 (Sch.step 21 (Sch.alt 22 (Sch.step 23 (Sch.alt 24 Sch.done Sch.none)) Sch.none))))))))))))))))))))))))); (exact mixed); kernel_rfl; kernel_rfl; (repeat (with_reducible first | apply PanQ.then | apply PanQ.block | apply PanQ.body | apply PanQ.no))); simp -implicitDefEqProofs [hge, hlt, hg, hg', hc, hwc, W0, W1, n_id8_id7, n_id7_id8])
              | ((with_reducible apply AWp.ret); try simp -implicitDefEqProofs [hge, hlt, hg, hg', hc, hwc, W0, W1, n_id8_id7, n_id7_id8])
              | ((with_reducible apply AWp.skip); try simp -implicitDefEqProofs [hge, hlt, hg, hg', hc, hwc, W0, W1, n_id8_id7, n_id7_id8])
              | ((with_reducible apply AWp.exit); try simp -implicitDefEqProofs [hge, hlt, hg, hg', hc, hwc, W0, W1, n_id8_id7, n_id7_id8]))
            refine ⟨0, _, _, by omega, FrWk.mk ?_, AS.le_refl _, 4, a2 + 1, n, by omega, by omega, by omega, by omega, by omega, by omega, hX, rfl, rfl⟩
            simp [wInc (show a2 < 4000000000000000000 by omega), show IntKind.i64.wrap 4 = 4 from by kernel_rfl]
          · have k1 : (c.toNat : Int) ≠ 0 := by omega
            simp [k1, hc] at hX
            repeat (first
              | (with_reducible apply AWp.seq)
              | (with_reducible apply AWp.block)
              | ((with_reducible apply AWp.fork); simp -implicitDefEqProofs [hge, hlt, hg, hg', hc, k1, hwc, W0, W1, hB7, hB8, n_id8_id7, n_id7_id8])
              | ((with_reducible apply AWp.region); simp -implicitDefEqProofs [hge, hlt, hg, hg', hc, k1, hwc, W0, W1, hB7, hB8, n_id8_id7, n_id7_id8])
              | (with_reducible refine And.intro (by first | omega | assumption | decide) ?_)
              | ((with_reducible show condK _ _ _); simp -implicitDefEqProofs [hge, hlt, hg, hg', hc, k1, hwc, W0, W1, hB7, hB8, n_id8_id7, n_id7_id8])
              | ((with_reducible show guardK _ _ _ _ _ _ _ _ _); simp -implicitDefEqProofs [hge, hlt, hg, hg', hc, k1, hwc, W0, W1, hB7, hB8, n_id8_id7, n_id7_id8])
              | (((with_reducible apply AWp.drawS (id := 29) (t := (Sch.step 0 (Sch.step 2 (Sch.step 3 (Sch.step 5 (Sch.step 6 (Sch.step 8 (Sch.step 9 (Sch.step 11 (Sch.step 12 (Sch.step 14 (Sch.step 15 (Sch.step 17 (Sch.step 18 (Sch.read 1 (Sch.read 4 (Sch.read 7 (Sch.read 10 (Sch.read 13 (Sch.read 16 (Sch.read 19 (Sch.step 20 (Sch.step 21 (Sch.alt 22 (Sch.step 23 (Sch.alt 24 Sch.done Sch.none)) Sch.none))))))))))))))))))))))))); (exact mixed); kernel_rfl; kernel_rfl; (repeat (with_reducible first | apply PanQ.then | apply PanQ.block | apply PanQ.body | apply PanQ.no))); simp -implicitDefEqProofs [hge, hlt, hg, hg', hc, k1, hwc, W0, W1, hB7, hB8, n_id8_id7, n_id7_id8])
              | ((with_reducible apply AWp.ret); try simp -implicitDefEqProofs [hge, hlt, hg, hg', hc, k1, hwc, W0, W1, hB7, hB8, n_id8_id7, n_id7_id8])
              | ((with_reducible apply AWp.skip); try simp -implicitDefEqProofs [hge, hlt, hg, hg', hc, k1, hwc, W0, W1, hB7, hB8, n_id8_id7, n_id7_id8])
              | ((with_reducible apply AWp.exit); try simp -implicitDefEqProofs [hge, hlt, hg, hg', hc, k1, hwc, W0, W1, hB7, hB8, n_id8_id7, n_id7_id8]))
            exact no 2 (by rw [hC, ← hX]) _
    · have hI : ((i : Int) < 4) = False := by simp; omega
      obtain rfl : i = 4 := by omega
      simp only [Nat.sub_self, eHdr] at hX
      rw [← hX] at hC
      simp only at hC
      obtain ⟨N, rfl⟩ : ∃ N : Nat, n = N := ⟨n.toNat, by omega⟩
      simp only [Int.toNat_natCast] at hC
      repeat (first
        | (with_reducible apply AWp.seq)
        | (with_reducible apply AWp.block)
        | ((with_reducible apply AWp.fork); simp -implicitDefEqProofs [hI, n_id8_id7, n_id7_id8])
        | ((with_reducible apply AWp.region); simp -implicitDefEqProofs [hI, n_id8_id7, n_id7_id8])
        | (with_reducible refine And.intro (by first | omega | assumption | decide) ?_)
        | ((with_reducible show condK _ _ _); simp -implicitDefEqProofs [hI, n_id8_id7, n_id7_id8])
        | ((with_reducible show guardK _ _ _ _ _ _ _ _ _); simp -implicitDefEqProofs [hI, n_id8_id7, n_id7_id8])
        | (((with_reducible apply AWp.drawS (id := 29) (t := (Sch.step 0 (Sch.step 2 (Sch.step 3 (Sch.step 5 (Sch.step 6 (Sch.step 8 (Sch.step 9 (Sch.step 11 (Sch.step 12 (Sch.step 14 (Sch.step 15 (Sch.step 17 (Sch.step 18 (Sch.read 1 (Sch.read 4 (Sch.read 7 (Sch.read 10 (Sch.read 13 (Sch.read 16 (Sch.read 19 (Sch.step 20 (Sch.step 21 (Sch.alt 22 (Sch.step 23 (Sch.alt 24 Sch.done Sch.none)) Sch.none))))))))))))))))))))))))); (exact mixed); kernel_rfl; kernel_rfl; (repeat (with_reducible first | apply PanQ.then | apply PanQ.block | apply PanQ.body | apply PanQ.no))); simp -implicitDefEqProofs [hI, n_id8_id7, n_id7_id8])
        | ((with_reducible apply AWp.ret); try simp -implicitDefEqProofs [hI, n_id8_id7, n_id7_id8])
        | ((with_reducible apply AWp.skip); try simp -implicitDefEqProofs [hI, n_id8_id7, n_id7_id8])
        | ((with_reducible apply AWp.exit); try simp -implicitDefEqProofs [hI, n_id8_id7, n_id7_id8]))
      refine AWp.loopI (rcO b o nb N l o1 id7 id8 X B) (k0 := N) ⟨0, a2, [], .nilS, B, by omega, by omega, l2, rfl, by rw [hC]; cases eRaws b N a2 <;> rfl, .inl ⟨rfl, rfl, rfl⟩, ?_, rfl⟩ (FrWk.mk (by simp)) (AS.le_refl _) ?_
      · rw [set_self hB7]
      clear hC
      rintro m f σ' ⟨i, a3, d, v, D, hm, hi, l3, hd, hX, hD, hs, rfl⟩
      subst σ'
      have hleD : ∀ S : AS, (∀ j, j ≠ id7 → j ≠ id8 → ∀ y, D j = some y → S j = some y) → AS.le σ S := by
        intro S h
        refine hle S fun j e7 e8 y hy => h j e7 e8 y ?_
        rcases hD with ⟨_, _, rfl⟩ | ⟨tk, _, htk, _, rfl⟩
        · exact hy
        · have : j ≠ tk := by rintro rfl; rw [htk] at hy; cases hy
          simp [AS.set, this, hy]
      have hD8 : D id8 = some (.cells 57 [.nilS, .nilS, .sc (.int .i64 0), .sc (.int .i64 0)]) := by
        rcases hD with ⟨_, _, rfl⟩ | ⟨tk, _, htk, _, rfl⟩
        · exact hB8
        · have : id8 ≠ tk := by rintro rfl; rw [hB8] at htk; cases htk
          simp [this, hB8]
      have hB7' : B id7 ≠ none := by rw [hB7]; simp
      by_cases hlt : i < N
      · have hI : ((i : Int) < N) = True := by simp; omega
        rw [show N - i = (N - i - 1) + 1 by omega, pre_raws, eNums_eq b 6 a3 l3] at hX
        have hw3 : IntKind.i64.wrap ((b.length : Int) - a3) = (b.length : Int) - a3 := in_i64 (by omega) (by omega)
        by_cases h12 : a3 + 2 * 6 ≤ b.length
        · rw [if_pos h12] at hX
          simp only at hX
          have hs12 : ((b.length : Int) - a3 < 12) = False := by simp; omega
          repeat (first
            | (with_reducible apply AWp.seq)
            | (with_reducible apply AWp.block)
            | ((with_reducible apply AWp.fork); simp -implicitDefEqProofs [hI, hw3, hs12, n_id8_id7, n_id7_id8])
            | ((with_reducible apply AWp.region); simp -implicitDefEqProofs [hI, hw3, hs12, n_id8_id7, n_id7_id8])
            | (with_reducible refine And.intro (by first | omega | assumption | decide) ?_)
            | ((with_reducible show condK _ _ _); simp -implicitDefEqProofs [hI, hw3, hs12, n_id8_id7, n_id7_id8])
            | ((with_reducible show guardK _ _ _ _ _ _ _ _ _); simp -implicitDefEqProofs [hI, hw3, hs12, n_id8_id7, n_id7_id8])
            | (((with_reducible apply AWp.drawS (id := 29) (t := (Sch.step 0 (Sch.step 2 (Sch.step 3 (Sch.step 5 (Sch.step 6 (Sch.step 8 (Sch.step 9 (Sch.step 11 (Sch.step 12 (Sch.step 14 (Sch.step 15 (Sch.step 17 (Sch.step 18 (Sch.read 1 (Sch.read 4 (Sch.read 7 (Sch.read 10 (Sch.read 13 (Sch.read 16 (Sch.read 19 (Sch.step 20 (Sch.step 21 (Sch.alt 22 (Sch.step 23 (Sch.alt 24 Sch.done Sch.none)) Sch.none))))))))))))))))))))))))); (exact mixed); kernel_rfl; kernel_rfl; (repeat (with_reducible first | apply PanQ.then | apply PanQ.block | apply PanQ.body | apply PanQ.no))); simp -implicitDefEqProofs [hI, hw3, hs12, n_id8_id7, n_id7_id8])
            | ((with_reducible apply AWp.ret); try simp -implicitDefEqProofs [hI, hw3, hs12, n_id8_id7, n_id7_id8])
            | ((with_reducible apply AWp.skip); try simp -implicitDefEqProofs [hI, hw3, hs12, n_id8_id7, n_id7_id8])
            | ((with_reducible apply AWp.exit); try simp -implicitDefEqProofs [hI, hw3, hs12, n_id8_id7, n_id7_id8]))
          have hw12 : IntKind.i64.wrap ((a3 : Int) + 12) = a3 + 12 := in_i64 (by omega) (by omega)
          obtain ⟨F, hF⟩ : ∃ F : Nat → Int, F = fun i => numL (seg b (a3 + 2 * i : Nat) 2) := ⟨_, rfl⟩
          rw [← hF] at hX
          generalize hE : D.set id7 (.cells 48 [.lst 5 (l.map u8) o1 false, v]) = E
          refine AWp.loopI (rcI b o nb N i a3 id7 id8 F E) (k0 := 6) ⟨0, .nilS, rfl, by omega, .inl ⟨rfl, rfl, rfl⟩, rfl⟩ (FrWk.mk (by simp)) (AS.le_refl _) ?_
          rintro m2 f σ' ⟨k, v2, hm2, hk, hV, rfl⟩
          by_cases hkl : k < 6
          · have hK : ((k : Int) < 6) = True := by simp; omega
            have hwk : IntKind.i64.wrap (2 * (k : Int)) = 2 * k := in_i64 (by omega) (by omega)
            have hwk2 : IntKind.i64.wrap ((a3 : Int) + 2 * k) = a3 + 2 * k := in_i64 (by omega) (by omega)
            have hnum := fun σ => rnum_ok b o nb ((a3 : Int) + 2 * k) 2 (by omega) (by omega) (by omega) (by omega) hl σ
            have hcast : ((a3 + 2 * k : Nat) : Int) = (a3 : Int) + 2 * k := by omega
            have hFk : numL (seg b ((a3 : Int) + 2 * k) 2) = F k := by
              rw [hF]
              show _ = numL (seg b ((a3 + 2 * k : Nat) : Int) 2)
              rw [hcast]
            have hwn : IntKind.i64.wrap (F k) = F k := by
              have := seg_num (b := b) (a := a3 + 2 * k) (n := 2) (by omega) (by omega)
              rw [hcast] at this
              rw [← hFk]
              exact in_i64 (by have := this.1; simp at this ⊢; omega) (by have := this.2; simp at this ⊢; omega)
            rw [hFk] at hnum
            rcases hV with ⟨h0, rfl, hs⟩ | ⟨tk, hk0, htk, rfl, hs⟩
            · subst σ'
              subst h0
              simp only [Int.natCast_zero, Int.mul_zero, Int.add_zero] at hnum hwk hwk2
              repeat (first
                | (with_reducible apply AWp.seq)
                | (with_reducible apply AWp.block)
                | ((with_reducible apply AWp.fork); simp -implicitDefEqProofs [hK, hwk, hwk2, hwn, n_id8_id7, n_id7_id8])
                | ((with_reducible apply AWp.region); simp -implicitDefEqProofs [hK, hwk, hwk2, hwn, n_id8_id7, n_id7_id8])
                | (with_reducible refine And.intro (by first | omega | assumption | decide) ?_)
                | ((with_reducible show condK _ _ _); simp -implicitDefEqProofs [hK, hwk, hwk2, hwn, n_id8_id7, n_id7_id8])
                | ((with_reducible show guardK _ _ _ _ _ _ _ _ _); simp -implicitDefEqProofs [hK, hwk, hwk2, hwn, n_id8_id7, n_id7_id8])
                | (((with_reducible apply AWp.drawS (id := 29) (t := (Sch.step 0 (Sch.step 2 (Sch.step 3 (Sch.step 5 (Sch.step 6 (Sch.step 8 (Sch.step 9 (Sch.step 11 (Sch.step 12 (Sch.step 14 (Sch.step 15 (Sch.step 17 (Sch.step 18 (Sch.read 1 (Sch.read 4 (Sch.read 7 (Sch.read 10 (Sch.read 13 (Sch.read 16 (Sch.read 19 (Sch.step 20 (Sch.step 21 (Sch.alt 22 (Sch.step 23 (Sch.alt 24 Sch.done Sch.none)) Sch.none))))))))))))))))))))))))); (exact mixed); kernel_rfl; kernel_rfl; (repeat (with_reducible first | apply PanQ.then | apply PanQ.block | apply PanQ.body | apply PanQ.no))); simp -implicitDefEqProofs [hK, hwk, hwk2, hwn, n_id8_id7, n_id7_id8])
                | ((with_reducible apply aCall.id); first
                    | ((apply aCall.gives (hnum _)); simp -implicitDefEqProofs [hK, hwk, hwk2, hwn, n_id8_id7, n_id7_id8]))
                | ((with_reducible apply AWp.ret); try simp -implicitDefEqProofs [hK, hwk, hwk2, hwn, n_id8_id7, n_id7_id8])
                | ((with_reducible apply AWp.skip); try simp -implicitDefEqProofs [hK, hwk, hwk2, hwn, n_id8_id7, n_id7_id8])
                | ((with_reducible apply AWp.exit); try simp -implicitDefEqProofs [hK, hwk, hwk2, hwn, n_id8_id7, n_id7_id8]))
              intro tk htk
              repeat (first
                | (with_reducible apply AWp.seq)
                | (with_reducible apply AWp.block)
                | ((with_reducible apply AWp.fork); simp -implicitDefEqProofs [hK, hwk, hwk2, hwn, n_id8_id7, n_id7_id8])
                | ((with_reducible apply AWp.region); simp -implicitDefEqProofs [hK, hwk, hwk2, hwn, n_id8_id7, n_id7_id8])
                | (with_reducible refine And.intro (by first | omega | assumption | decide) ?_)
                | ((with_reducible show condK _ _ _); simp -implicitDefEqProofs [hK, hwk, hwk2, hwn, n_id8_id7, n_id7_id8])
                | ((with_reducible show guardK _ _ _ _ _ _ _ _ _); simp -implicitDefEqProofs [hK, hwk, hwk2, hwn, n_id8_id7, n_id7_id8])
                | (((with_reducible apply AWp.drawS (id := 29) (t := (Sch.step 0 (Sch.step 2 (Sch.step 3 (Sch.step 5 (Sch.step 6 (Sch.step 8 (Sch.step 9 (Sch.step 11 (Sch.step 12 (Sch.step 14 (Sch.step 15 (Sch.step 17 (Sch.step 18 (Sch.read 1 (Sch.read 4 (Sch.read 7 (Sch.read 10 (Sch.read 13 (Sch.read 16 (Sch.read 19 (Sch.step 20 (Sch.step 21 (Sch.alt 22 (Sch.step 23 (Sch.alt 24 Sch.done Sch.none)) Sch.none))))))))))))))))))))))))); (exact mixed); kernel_rfl; kernel_rfl; (repeat (with_reducible first | apply PanQ.then | apply PanQ.block | apply PanQ.body | apply PanQ.no))); simp -implicitDefEqProofs [hK, hwk, hwk2, hwn, n_id8_id7, n_id7_id8])
                | ((with_reducible apply AWp.ret); try simp -implicitDefEqProofs [hK, hwk, hwk2, hwn, n_id8_id7, n_id7_id8])
                | ((with_reducible apply AWp.skip); try simp -implicitDefEqProofs [hK, hwk, hwk2, hwn, n_id8_id7, n_id7_id8])
                | ((with_reducible apply AWp.exit); try simp -implicitDefEqProofs [hK, hwk, hwk2, hwn, n_id8_id7, n_id7_id8]))
              clear hX hD
              refine ⟨5, _, _, by omega, FrWk.mk ?_, AS.le_refl _, 1, _, rfl, by omega, .inr ⟨tk, by omega, htk, rfl, rfl⟩, rfl⟩
              simp [show IntKind.i64.wrap 1 = 1 from by kernel_rfl, List.range_succ]
            · subst σ'
              repeat (first
                | (with_reducible apply AWp.seq)
                | (with_reducible apply AWp.block)
                | ((with_reducible apply AWp.fork); simp -implicitDefEqProofs [hK, hwk, hwk2, hwn, n_id8_id7, n_id7_id8])
                | ((with_reducible apply AWp.region); simp -implicitDefEqProofs [hK, hwk, hwk2, hwn, n_id8_id7, n_id7_id8])
                | (with_reducible refine And.intro (by first | omega | assumption | decide) ?_)
                | ((with_reducible show condK _ _ _); simp -implicitDefEqProofs [hK, hwk, hwk2, hwn, n_id8_id7, n_id7_id8])
                | ((with_reducible show guardK _ _ _ _ _ _ _ _ _); simp -implicitDefEqProofs [hK, hwk, hwk2, hwn, n_id8_id7, n_id7_id8])
                | (((with_reducible apply AWp.drawS (id := 29) (t := (Sch.step 0 (Sch.step 2 (Sch.step 3 (Sch.step 5 (Sch.step 6 (Sch.step 8 (Sch.step 9 (Sch.step 11 (Sch.step 12 (Sch.step 14 (Sch.step 15 (Sch.step 17 (Sch.step 18 (Sch.read 1 (Sch.read 4 (Sch.read 7 (Sch.read 10 (Sch.read 13 (Sch.read 16 (Sch.read 19 (Sch.step 20 (Sch.step 21 (Sch.alt 22 (Sch.step 23 (Sch.alt 24 Sch.done Sch.none)) Sch.none))))))))))))))))))))))))); (exact mixed); kernel_rfl; kernel_rfl; (repeat (with_reducible first | apply PanQ.then | apply PanQ.block | apply PanQ.body | apply PanQ.no))); simp -implicitDefEqProofs [hK, hwk, hwk2, hwn, n_id8_id7, n_id7_id8])
                | ((with_reducible apply aCall.id); first
                    | ((apply aCall.gives (hnum _)); simp -implicitDefEqProofs [hK, hwk, hwk2, hwn, n_id8_id7, n_id7_id8]))
                | ((with_reducible apply AWp.ret); try simp -implicitDefEqProofs [hK, hwk, hwk2, hwn, n_id8_id7, n_id7_id8])
                | ((with_reducible apply AWp.skip); try simp -implicitDefEqProofs [hK, hwk, hwk2, hwn, n_id8_id7, n_id7_id8])
                | ((with_reducible apply AWp.exit); try simp -implicitDefEqProofs [hK, hwk, hwk2, hwn, n_id8_id7, n_id7_id8]))
              clear hX hD
              refine ⟨m2 - 1, _, _, by omega, FrWk.mk ?_, AS.le_refl _, k + 1, _, by omega, by omega, .inr ⟨tk, by omega, htk, rfl, rfl⟩, rfl⟩
              simp [wInc (show k < 4000000000000000000 by omega), List.range_succ]
          · have hK : ((k : Int) < 6) = False := by simp; omega
            obtain rfl : k = 6 := by omega
            rcases hV with ⟨h0, _⟩ | ⟨tk, hk0, htk, rfl, hs⟩
            · omega
            subst σ'
            have h6 : (List.range 6).map (fun i => AV.sc (.int .i64 (F i))) = [.sc (.int .i64 (F 0)), .sc (.int .i64 (F 1)), .sc (.int .i64 (F 2)), .sc (.int .i64 (F 3)), .sc (.int .i64 (F 4)), .sc (.int .i64 (F 5))] := rfl
            have h6' : r6 ((List.range 6).map F) = ⟨F 0, F 1, F 2, F 3, F 4, F 5⟩ := rfl
            rw [h6'] at hX
            rw [h6]
            have t7 : ¬ id7 = tk := by rintro rfl; rw [← hE] at htk; simp at htk
            have t7' : ¬ tk = id7 := fun e => t7 e.symm
            have hE7 : E id7 = some (.cells 48 [.lst 5 (l.map u8) o1 false, v]) := by rw [← hE]; simp
            rcases hD with ⟨h0, rfl, rfl⟩ | ⟨tk2, hi0, htk2, rfl, rfl⟩
            · repeat (first
                | (with_reducible apply AWp.seq)
                | (with_reducible apply AWp.block)
                | ((with_reducible apply AWp.fork); simp -implicitDefEqProofs [hK, t7, t7', hE7, n_id8_id7, n_id7_id8])
                | ((with_reducible apply AWp.region); simp -implicitDefEqProofs [hK, t7, t7', hE7, n_id8_id7, n_id7_id8])
                | (with_reducible refine And.intro (by first | omega | assumption | decide) ?_)
                | ((with_reducible show condK _ _ _); simp -implicitDefEqProofs [hK, t7, t7', hE7, n_id8_id7, n_id7_id8])
                | ((with_reducible show guardK _ _ _ _ _ _ _ _ _); simp -implicitDefEqProofs [hK, t7, t7', hE7, n_id8_id7, n_id7_id8])
                | (((with_reducible apply AWp.drawS (id := 29) (t := (Sch.step 0 (Sch.step 2 (Sch.step 3 (Sch.step 5 (Sch.step 6 (Sch.step 8 (Sch.step 9 (Sch.step 11 (Sch.step 12 (Sch.step 14 (Sch.step 15 (Sch.step 17 (Sch.step 18 (Sch.read 1 (Sch.read 4 (Sch.read 7 (Sch.read 10 (Sch.read 13 (Sch.read 16 (Sch.read 19 (Sch.step 20 (Sch.step 21 (Sch.alt 22 (Sch.step 23 (Sch.alt 24 Sch.done Sch.none)) Sch.none))))))))))))))))))))))))); (exact mixed); kernel_rfl; kernel_rfl; (repeat (with_reducible first | apply PanQ.then | apply PanQ.block | apply PanQ.body | apply PanQ.no))); simp -implicitDefEqProofs [hK, t7, t7', hE7, n_id8_id7, n_id7_id8])
                | ((with_reducible apply AWp.ret); try simp -implicitDefEqProofs [hK, t7, t7', hE7, n_id8_id7, n_id7_id8])
                | ((with_reducible apply AWp.skip); try simp -implicitDefEqProofs [hK, t7, t7', hE7, n_id8_id7, n_id7_id8])
                | ((with_reducible apply AWp.exit); try simp -implicitDefEqProofs [hK, t7, t7', hE7, n_id8_id7, n_id7_id8]))
              intro tk3 p1 p2
              have t3 : ¬ id7 = tk3 := by rintro rfl; rw [hE7] at p2; cases p2
              have t3' : ¬ tk3 = id7 := fun e => t3 e.symm
              have p1' : ¬ tk = tk3 := fun e => p1 e.symm
              have hD3 : D tk3 = none := by rw [← hE] at p2; simpa [AS.set, t3'] using p2
              simp -implicitDefEqProofs [t3, t3', p1, p1', n_id8_id7, n_id7_id8]
              repeat (first
                | (with_reducible apply AWp.seq)
                | (with_reducible apply AWp.block)
                | ((with_reducible apply AWp.fork); simp -implicitDefEqProofs [hK, t7, t7', hE7, t3, t3', p1, p1', hw12, n_id8_id7, n_id7_id8])
                | ((with_reducible apply AWp.region); simp -implicitDefEqProofs [hK, t7, t7', hE7, t3, t3', p1, p1', hw12, n_id8_id7, n_id7_id8])
                | (with_reducible refine And.intro (by first | omega | assumption | decide) ?_)
                | ((with_reducible show condK _ _ _); simp -implicitDefEqProofs [hK, t7, t7', hE7, t3, t3', p1, p1', hw12, n_id8_id7, n_id7_id8])
                | ((with_reducible show guardK _ _ _ _ _ _ _ _ _); simp -implicitDefEqProofs [hK, t7, t7', hE7, t3, t3', p1, p1', hw12, n_id8_id7, n_id7_id8])
                | (((with_reducible apply AWp.drawS (id := 29) (t := (Sch.step 0 (Sch.step 2 (Sch.step 3 (Sch.step 5 (Sch.step 6 (Sch.step 8 (Sch.step 9 (Sch.step 11 (Sch.step 12 (Sch.step 14 (Sch.step 15 (Sch.step 17 (Sch.step 18 (Sch.read 1 (Sch.read 4 (Sch.read 7 (Sch.read 10 (Sch.read 13 (Sch.read 16 (Sch.read 19 (Sch.step 20 (Sch.step 21 (Sch.alt 22 (Sch.step 23 (Sch.alt 24 Sch.done Sch.none)) Sch.none))))))))))))))))))))))))); (exact mixed); kernel_rfl; kernel_rfl; (repeat (with_reducible first | apply PanQ.then | apply PanQ.block | apply PanQ.body | apply PanQ.no))); simp -implicitDefEqProofs [hK, t7, t7', hE7, t3, t3', p1, p1', hw12, n_id8_id7, n_id7_id8])
                | ((with_reducible apply AWp.ret); try simp -implicitDefEqProofs [hK, t7, t7', hE7, t3, t3', p1, p1', hw12, n_id8_id7, n_id7_id8])
                | ((with_reducible apply AWp.skip); try simp -implicitDefEqProofs [hK, t7, t7', hE7, t3, t3', p1, p1', hw12, n_id8_id7, n_id7_id8])
                | ((with_reducible apply AWp.exit); try simp -implicitDefEqProofs [hK, t7, t7', hE7, t3, t3', p1, p1', hw12, n_id8_id7, n_id7_id8]))
              clear hle hle8 no hleD
              refine ⟨m - 1, _, _, by omega, FrWk.mk ?_, ?_, 1, a3 + 2 * 6, [⟨F 0, F 1, F 2, F 3, F 4, F 5⟩], _, D.set tk3 (.tok 1), by omega, by omega, by omega, rfl, ?_, .inr ⟨tk3, by omega, hD3, rfl, rfl⟩, rfl, rfl⟩
              · simp [h0, show IntKind.i64.wrap 1 = 1 from by kernel_rfl, rawV]
              · intro j y hy
                by_cases a1 : j = id7
                · subst a1; simp [AS.set, *] at hy ⊢; exact hy
                · by_cases a2 : j = tk3
                  · subst a2; simp [AS.set, *] at hy ⊢; exact hy
                  · have a3 : j ≠ tk := by
                      rintro rfl
                      rw [← hE] at htk
                      simp [AS.set, a1, a2] at htk hy
                      rw [htk] at hy; cases hy
                    rw [← hE]
                    simp [AS.set, a1, a2, a3] at hy ⊢
                    exact hy
              · obtain rfl : d = [] := List.length_eq_zero_iff.1 (by omega)
                rw [← hX, h0]; rfl
            · have t2 : ¬ tk2 = id7 := by rintro rfl; rw [hB7] at htk2; cases htk2
              have t2' : ¬ id7 = tk2 := fun e => t2 e.symm
              have hE2 : E tk2 = some (.tok i) := by rw [← hE]; simp [AS.set, t2]
              have p1 : ¬ tk2 = tk := by rintro rfl; rw [hE2] at htk; cases htk
              have p1' : ¬ tk = tk2 := fun e => p1 e.symm
              repeat (first
                | (with_reducible apply AWp.seq)
                | (with_reducible apply AWp.block)
                | ((with_reducible apply AWp.fork); simp -implicitDefEqProofs [hK, t7, t7', hE7, t2, t2', p1, p1', hw12, hE2, hd, n_id8_id7, n_id7_id8])
                | ((with_reducible apply AWp.region); simp -implicitDefEqProofs [hK, t7, t7', hE7, t2, t2', p1, p1', hw12, hE2, hd, n_id8_id7, n_id7_id8])
                | (with_reducible refine And.intro (by first | omega | assumption | decide) ?_)
                | ((with_reducible show condK _ _ _); simp -implicitDefEqProofs [hK, t7, t7', hE7, t2, t2', p1, p1', hw12, hE2, hd, n_id8_id7, n_id7_id8])
                | ((with_reducible show guardK _ _ _ _ _ _ _ _ _); simp -implicitDefEqProofs [hK, t7, t7', hE7, t2, t2', p1, p1', hw12, hE2, hd, n_id8_id7, n_id7_id8])
                | (((with_reducible apply AWp.drawS (id := 29) (t := (Sch.step 0 (Sch.step 2 (Sch.step 3 (Sch.step 5 (Sch.step 6 (Sch.step 8 (Sch.step 9 (Sch.step 11 (Sch.step 12 (Sch.step 14 (Sch.step 15 (Sch.step 17 (Sch.step 18 (Sch.read 1 (Sch.read 4 (Sch.read 7 (Sch.read 10 (Sch.read 13 (Sch.read 16 (Sch.read 19 (Sch.step 20 (Sch.step 21 (Sch.alt 22 (Sch.step 23 (Sch.alt 24 Sch.done Sch.none)) Sch.none))))))))))))))))))))))))); (exact mixed); kernel_rfl; kernel_rfl; (repeat (with_reducible first | apply PanQ.then | apply PanQ.block | apply PanQ.body | apply PanQ.no))); simp -implicitDefEqProofs [hK, t7, t7', hE7, t2, t2', p1, p1', hw12, hE2, hd, n_id8_id7, n_id7_id8])
                | ((with_reducible apply AWp.ret); try simp -implicitDefEqProofs [hK, t7, t7', hE7, t2, t2', p1, p1', hw12, hE2, hd, n_id8_id7, n_id7_id8])
                | ((with_reducible apply AWp.skip); try simp -implicitDefEqProofs [hK, t7, t7', hE7, t2, t2', p1, p1', hw12, hE2, hd, n_id8_id7, n_id7_id8])
                | ((with_reducible apply AWp.exit); try simp -implicitDefEqProofs [hK, t7, t7', hE7, t2, t2', p1, p1', hw12, hE2, hd, n_id8_id7, n_id7_id8]))
              clear hle hle8 no hleD
              refine ⟨m - 1, _, _, by omega, FrWk.mk ?_, ?_, i + 1, a3 + 2 * 6, d ++ [⟨F 0, F 1, F 2, F 3, F 4, F 5⟩], _, B.set tk2 (.tok (i + 1)), by omega, by omega, by omega, by simp [hd], ?_, .inr ⟨tk2, by omega, htk2, rfl, rfl⟩, rfl, rfl⟩
              · simp [wInc (show i < 4000000000000000000 by omega), rawV]
              · intro j y hy
                by_cases a1 : j = id7
                · subst a1; simp [AS.set, *] at hy ⊢; exact hy
                · by_cases a2 : j = tk2
                  · subst a2; simp [AS.set, *] at hy ⊢; exact hy
                  · have a3 : j ≠ tk := by
                      rintro rfl
                      rw [← hE] at htk
                      simp [AS.set, a1, a2] at htk hy
                      rw [htk] at hy; cases hy
                    rw [← hE]
                    simp [AS.set, a1, a2, a3] at hy ⊢
                    exact hy
              · rw [← hX]; rfl
        · rw [if_neg h12] at hX
          simp only at hX
          have hs12 : ((b.length : Int) - a3 < 12) = True := by simp; omega
          repeat (first
            | (with_reducible apply AWp.seq)
            | (with_reducible apply AWp.block)
            | ((with_reducible apply AWp.fork); simp -implicitDefEqProofs [hI, hw3, hs12, hD8, n_id8_id7, n_id7_id8, n_id8_id7, n_id7_id8])
            | ((with_reducible apply AWp.region); simp -implicitDefEqProofs [hI, hw3, hs12, hD8, n_id8_id7, n_id7_id8, n_id8_id7, n_id7_id8])
            | (with_reducible refine And.intro (by first | omega | assumption | decide) ?_)
            | ((with_reducible show condK _ _ _); simp -implicitDefEqProofs [hI, hw3, hs12, hD8, n_id8_id7, n_id7_id8, n_id8_id7, n_id7_id8])
            | ((with_reducible show guardK _ _ _ _ _ _ _ _ _); simp -implicitDefEqProofs [hI, hw3, hs12, hD8, n_id8_id7, n_id7_id8, n_id8_id7, n_id7_id8])
            | (((with_reducible apply AWp.drawS (id := 29) (t := (Sch.step 0 (Sch.step 2 (Sch.step 3 (Sch.step 5 (Sch.step 6 (Sch.step 8 (Sch.step 9 (Sch.step 11 (Sch.step 12 (Sch.step 14 (Sch.step 15 (Sch.step 17 (Sch.step 18 (Sch.read 1 (Sch.read 4 (Sch.read 7 (Sch.read 10 (Sch.read 13 (Sch.read 16 (Sch.read 19 (Sch.step 20 (Sch.step 21 (Sch.alt 22 (Sch.step 23 (Sch.alt 24 Sch.done Sch.none)) Sch.none))))))))))))))))))))))))); (exact mixed); kernel_rfl; kernel_rfl; (repeat (with_reducible first | apply PanQ.then | apply PanQ.block | apply PanQ.body | apply PanQ.no))); simp -implicitDefEqProofs [hI, hw3, hs12, hD8, n_id8_id7, n_id7_id8, n_id8_id7, n_id7_id8])
            | ((with_reducible apply AWp.ret); try simp -implicitDefEqProofs [hI, hw3, hs12, hD8, n_id8_id7, n_id7_id8, n_id8_id7, n_id7_id8])
            | ((with_reducible apply AWp.skip); try simp -implicitDefEqProofs [hI, hw3, hs12, hD8, n_id8_id7, n_id7_id8, n_id8_id7, n_id7_id8])
            | ((with_reducible apply AWp.exit); try simp -implicitDefEqProofs [hI, hw3, hs12, hD8, n_id8_id7, n_id7_id8, n_id8_id7, n_id7_id8]))
          refine ⟨?_, hleD _ fun j e7 e8 y hy => by simp [AS.set, e7, e8, hy]⟩
          rw [← hX]
          exact Wk_agg4 (by simp) (by simp) (by simp) (by simp)
      · have hI : ((i : Int) < N) = False := by simp; omega
        rw [show N - i = 0 by omega] at hX
        simp only [eRaws, pre, List.append_nil] at hX
        rcases hD with ⟨h0, rfl, rfl⟩ | ⟨tk, hi0, htk, rfl, rfl⟩
        · have := n1 (by omega)
          omega
        · have t8 : ¬ id8 = tk := by rintro rfl; rw [hB8] at htk; cases htk
          repeat (first
            | (with_reducible apply AWp.seq)
            | (with_reducible apply AWp.block)
            | ((with_reducible apply AWp.fork); simp -implicitDefEqProofs [hI, hD8, hB8, t8, n_id8_id7, n_id7_id8, n_id8_id7, n_id7_id8])
            | ((with_reducible apply AWp.region); simp -implicitDefEqProofs [hI, hD8, hB8, t8, n_id8_id7, n_id7_id8, n_id8_id7, n_id7_id8])
            | (with_reducible refine And.intro (by first | omega | assumption | decide) ?_)
            | ((with_reducible show condK _ _ _); simp -implicitDefEqProofs [hI, hD8, hB8, t8, n_id8_id7, n_id7_id8, n_id8_id7, n_id7_id8])
            | ((with_reducible show guardK _ _ _ _ _ _ _ _ _); simp -implicitDefEqProofs [hI, hD8, hB8, t8, n_id8_id7, n_id7_id8, n_id8_id7, n_id7_id8])
            | (((with_reducible apply AWp.drawS (id := 29) (t := (Sch.step 0 (Sch.step 2 (Sch.step 3 (Sch.step 5 (Sch.step 6 (Sch.step 8 (Sch.step 9 (Sch.step 11 (Sch.step 12 (Sch.step 14 (Sch.step 15 (Sch.step 17 (Sch.step 18 (Sch.read 1 (Sch.read 4 (Sch.read 7 (Sch.read 10 (Sch.read 13 (Sch.read 16 (Sch.read 19 (Sch.step 20 (Sch.step 21 (Sch.alt 22 (Sch.step 23 (Sch.alt 24 Sch.done Sch.none)) Sch.none))))))))))))))))))))))))); (exact mixed); kernel_rfl; kernel_rfl; (repeat (with_reducible first | apply PanQ.then | apply PanQ.block | apply PanQ.body | apply PanQ.no))); simp -implicitDefEqProofs [hI, hD8, hB8, t8, n_id8_id7, n_id7_id8, n_id8_id7, n_id7_id8])
            | ((with_reducible apply AWp.ret); try simp -implicitDefEqProofs [hI, hD8, hB8, t8, n_id8_id7, n_id7_id8, n_id8_id7, n_id7_id8])
            | ((with_reducible apply AWp.skip); try simp -implicitDefEqProofs [hI, hD8, hB8, t8, n_id8_id7, n_id7_id8, n_id8_id7, n_id7_id8])
            | ((with_reducible apply AWp.exit); try simp -implicitDefEqProofs [hI, hD8, hB8, t8, n_id8_id7, n_id7_id8, n_id8_id7, n_id7_id8]))
          refine ⟨?_, hleD _ fun j e7 e8 y hy => by simp [AS.set, e7, e8] at hy ⊢; exact hy⟩
          rw [← hX]
          have hdne : d ≠ [] := by rintro rfl; simp at hd; omega
          exact Wk_agg4 (by simp [hne]) (by simp [hdne]) (by simp) (by simp)

end Go.Proofs.Ytnkjbgcbchbonaa
