/- Chapter 07, plain law: instructions as bytes, there and back. -/
import Derived.Test.YtnkjbgcbchbonaaOps5
import Derived.Test.YtnkjbgcbchbonaaLe
set_option linter.unusedSimpArgs false
set_option linter.unusedVariables false
set_option maxRecDepth 100000
set_option maxHeartbeats 3200000
namespace Go.Proofs.Ytnkjbgcbchbonaa
open Go Go.AW

def wdO (o : Int) : Int := if o = 0 then 0 else if o = 1 then 4 else if o = 2 then 8 else if o = 3 ∨ o = 4 then 1 else 2
def oO (op : Int) : Int := (ofT op).2.1
def rawB (x : Ins) : Bool := if x.op < 1 ∨ 75 < x.op then false else if oO x.op = 8 then noT x.t && (decide (0 < x.arg) && decide (x.arg < 16384)) else fitsO x (oO x.op)

theorem oO_range (op : Int) : 0 ≤ oO op ∧ oO op ≤ 8 := by
  by_cases h : op < 1 ∨ 75 < op
  · simp [oO, tab_out op h]
  · have := op_range ⟨(op - 1).toNat, by omega⟩
    have e : (((op - 1).toNat : Nat) : Int) + 1 = op := by omega
    simp only [e] at this
    exact this
theorem oO_out {op : Int} (h : op < 1 ∨ 75 < op) : oO op = 0 := by simp [oO, tab_out op h]
theorem wd_range (o : Int) : 0 ≤ wdO o ∧ wdO o ≤ 8 := by unfold wdO; split <;> (try split) <;> (try split) <;> (try split) <;> omega

/-- Where instructions begin, and where they end. -/
def placesG : List Ins → Int → List Int
  | [], a => [a]
  | x :: r, a => a :: placesG r (a + 1 + wdO (oO x.op))
def placesS (l : List Ins) : List Int × Int := if 160 < l.length then ([], 4) else if l.all rawB then (placesG l 0, 0) else ([], 17)
def m64 (x : Int) : Int := x % 18446744073709551616
/-- An instruction's bytes: of one with a place, t is where it leads, a' where it ends. -/
def opdB (x : Ins) (t a' : Int) : List UInt8 :=
  if oO x.op = 0 then [] else if oO x.op = 5 then putB (m64 (t - a')) 2 else if oO x.op = 6 ∨ oO x.op = 7 then putB (m64 (x.arg + 1)) 2 else putB (m64 x.arg) (wdO (oO x.op)).toNat
def insB (x : Ins) (t a' : Int) : List UInt8 := UInt8.ofNat (x.op % 256).toNat :: opdB x t a'
def codeG (P : List Int) : List Ins → Nat → List UInt8
  | [], _ => []
  | x :: r, i => insB x (P.getD x.arg.toNat 0) (P.getD (i + 1) 0) ++ codeG P r (i + 1)
def flowB (n : Nat) (x : Ins) : Bool := decide (oO x.op = 5) && decide ((n : Int) ≤ x.arg)
def encodeS (l : List Ins) : List UInt8 × Int :=
  if (placesS l).2 = 0 then if l.any (flowB l.length) then ([], 11) else (codeG (placesG l 0) l 0, 0) else ([], (placesS l).2)

def sgn (n : Nat) (v : Int) : Int := if 256 ^ n ≤ 2 * v then v - 256 ^ n else v
def argD (o v : Int) : Int := if o = 1 then sgn 4 v else if o = 2 then sgn 8 v else if o = 6 ∨ o = 7 then v - 1 else if o = 5 then 0 else v
def toD (o v : Int) (a' : Nat) : Int := if o = 5 then a' + sgn 2 v else 0
def noTy : Ty := ⟨0, 0, 0, false⟩
def oneD (b : List UInt8) (a : Nat) : Except (Int × Int) (Ins × Int × Nat) :=
  if ((b.getD a 0).toNat : Int) < 1 ∨ 75 < ((b.getD a 0).toNat : Int) then .error (a, 2) else
  if b.length < a + 1 + (wdO (oO (b.getD a 0).toNat)).toNat then .error (b.length, 1) else
  if rawB ⟨(b.getD a 0).toNat, argD (oO (b.getD a 0).toNat) (numL (seg b (a + 1 : Nat) (wdO (oO (b.getD a 0).toNat)).toNat)), noTy⟩ then
    .ok (⟨(b.getD a 0).toNat, argD (oO (b.getD a 0).toNat) (numL (seg b (a + 1 : Nat) (wdO (oO (b.getD a 0).toNat)).toNat)), noTy⟩,
      toD (oO (b.getD a 0).toNat) (numL (seg b (a + 1 : Nat) (wdO (oO (b.getD a 0).toNat)).toNat)) (a + 1 + (wdO (oO (b.getD a 0).toNat)).toNat), a + 1 + (wdO (oO (b.getD a 0).toNat)).toNat)
  else .error (a, 3)
/-- What is read: an instruction, its place, where it leads. -/
structure RI where
  x : Ins
  a : Int
  t : Int
def decG (b : List UInt8) : Nat → Nat → Except (Int × Int) (List RI)
  | 0, a => if a < b.length then .error (a, 4) else .ok []
  | k + 1, a => if a < b.length then
      match oneD b a with
      | .error e => .error e
      | .ok (x, t, a') => match decG b k a' with
        | .error e => .error e
        | .ok r => .ok (⟨x, a, t⟩ :: r)
    else .ok []
def fixD (L : List Int) (r : RI) : Except (Int × Int) Ins :=
  if oO r.x.op = 5 then match L.findIdx? (fun y => decide (y = r.t)) with
    | none => .error (r.a, 11)
    | some k => .ok { r.x with arg := k }
  else .ok r.x
def resG (L : List Int) : List RI → Except (Int × Int) (List Ins)
  | [] => .ok []
  | r :: s => match fixD L r with
    | .error e => .error e
    | .ok x => match resG L s with
      | .error e => .error e
      | .ok l => .ok (x :: l)
def decS (b : List UInt8) : (List Ins × List Int) × Int × Int :=
  match decG b 160 0 with
  | .error (p, e) => (([], []), p, e)
  | .ok r => match resG (r.map (·.a)) r with
    | .error (p, e) => (([], []), p, e)
    | .ok l => ((l, r.map (·.a) ++ [(b.length : Int)]), 0, 0)

/-! bytes -/
theorem putB_emod (x : Int) (hx : 0 ≤ x) (n : Nat) : putB (x % 256 ^ n) n = putB x n := by
  have h := le_putB_numL (putB x n)
  rw [putB_length, le_numL_putB x hx n] at h
  exact h
theorem putB_same {x y : Int} (hx : 0 ≤ x) (hy : 0 ≤ y) {n : Nat} (h : x % 256 ^ n = y % 256 ^ n) : putB x n = putB y n := by
  rw [← putB_emod x hx, ← putB_emod y hy, h]
theorem m64_nonneg (x : Int) : 0 ≤ m64 x := by unfold m64; omega
theorem pow2 : (256 : Int) ^ 2 = 65536 := by decide
theorem pow4 : (256 : Int) ^ 4 = 4294967296 := by decide
theorem pow8 : (256 : Int) ^ 8 = 18446744073709551616 := by decide
theorem pow1 : (256 : Int) ^ 1 = 256 := by decide
theorem putB_sgn {n : Nat} (h : n = 2 ∨ n = 4 ∨ n = 8) {v : Int} (h0 : 0 ≤ v) : putB (m64 (sgn n v)) n = putB v n := by
  refine putB_same (m64_nonneg _) h0 ?_
  rcases h with rfl | rfl | rfl <;> simp only [sgn, m64, pow2, pow4, pow8] <;> split <;> omega
theorem sgn_put {n : Nat} (h : n = 2 ∨ n = 4 ∨ n = 8) {x : Int} (h1 : -(256 ^ n) ≤ 2 * x) (h2 : 2 * x < 256 ^ n) : sgn n (m64 x % 256 ^ n) = x := by
  rcases h with rfl | rfl | rfl <;> simp only [sgn, m64, pow2, pow4, pow8] at h1 h2 ⊢ <;> split <;> omega
theorem opd_len (x : Ins) (t a' : Int) : ((opdB x t a').length : Int) = wdO (oO x.op) := by
  have h := oO_range x.op
  unfold opdB
  generalize oO x.op = o at h ⊢
  have : o = 0 ∨ o = 1 ∨ o = 2 ∨ o = 3 ∨ o = 4 ∨ o = 5 ∨ o = 6 ∨ o = 7 ∨ o = 8 := by omega
  rcases this with rfl | rfl | rfl | rfl | rfl | rfl | rfl | rfl | rfl <;> simp [wdO, putB_length]
theorem ins_len (x : Ins) (t a' : Int) : ((insB x t a').length : Int) = 1 + wdO (oO x.op) := by
  have := opd_len x t a'
  simp only [insB, List.length_cons]; omega

/-! places -/
theorem places_len (l : List Ins) (a : Int) : (placesG l a).length = l.length + 1 := by
  induction l generalizing a with
  | nil => rfl
  | cons x r ih => simp [placesG, ih]
theorem places_head (l : List Ins) (a : Int) : (placesG l a).getD 0 0 = a := by cases l <;> rfl
theorem places_ge (l : List Ins) (a : Int) : ∀ y ∈ placesG l a, a ≤ y := by
  induction l generalizing a with
  | nil => simp [placesG]
  | cons x r ih =>
    intro y hy
    have hw := (wd_range (oO x.op)).1
    simp only [placesG, List.mem_cons] at hy
    rcases hy with rfl | hy
    · omega
    · have := ih _ y hy; omega
theorem places_le (l : List Ins) (a : Int) : ∀ y ∈ placesG l a, y ≤ a + 9 * l.length := by
  induction l generalizing a with
  | nil => simp [placesG]
  | cons x r ih =>
    intro y hy
    have hw := (wd_range (oO x.op)).2
    simp only [placesG, List.mem_cons] at hy
    simp only [List.length_cons]
    rcases hy with rfl | hy
    · omega
    · have := ih _ y hy; omega
theorem places_up (l : List Ins) (a : Int) : (placesG l a).Pairwise (· < ·) := by
  induction l generalizing a with
  | nil => simp [placesG]
  | cons x r ih =>
    simp only [placesG, List.pairwise_cons]
    refine ⟨fun y hy => ?_, ih _⟩
    have := places_ge r _ y hy
    have hw := (wd_range (oO x.op)).1
    omega
theorem places_app (l m : List Ins) (a : Int) : ∃ b, placesG (l ++ m) a = (placesG l a).dropLast ++ placesG m b ∧ (placesG l a).getLast? = some b := by
  induction l generalizing a with
  | nil => exact ⟨a, rfl, rfl⟩
  | cons x r ih =>
    obtain ⟨b, h1, h2⟩ := ih (a + 1 + wdO (oO x.op))
    refine ⟨b, ?_, ?_⟩
    · simp only [List.cons_append, placesG, h1]
      cases hr : placesG r (a + 1 + wdO (oO x.op)) with
      | nil => have := places_len r (a + 1 + wdO (oO x.op)); rw [hr] at this; simp at this
      | cons y z => simp
    · simp only [placesG]
      cases hr : placesG r (a + 1 + wdO (oO x.op)) with
      | nil => have := places_len r (a + 1 + wdO (oO x.op)); rw [hr] at this; simp at this
      | cons y z => rw [hr] at h2; simpa using h2

/-! decoding what was encoded -/
theorem noT_eq {t : Ty} (h : noT t = true) : t = noTy := by
  obtain ⟨k, i, d, r⟩ := t
  simp only [noT, Bool.and_eq_true, decide_eq_true_eq, Bool.not_eq_true'] at h
  obtain ⟨rfl, rfl, rfl, rfl⟩ := h
  rfl
theorem noT_no : noT noTy = true := by decide
/-- What a raw instruction is: its type, and its number's bounds. -/
theorem raw_inv {x : Ins} (h : rawB x = true) : 1 ≤ x.op ∧ x.op ≤ 75 ∧ x.t = noTy ∧ (oO x.op = 0 → x.arg = 0) ∧ (oO x.op = 1 → -2147483648 ≤ x.arg ∧ x.arg < 2147483648) ∧
    (oO x.op = 3 ∨ oO x.op = 4 → 0 ≤ x.arg ∧ x.arg < 12) ∧ (oO x.op = 5 → 0 ≤ x.arg ∧ x.arg < 160) ∧ (oO x.op = 6 ∨ oO x.op = 7 → 0 ≤ x.arg ∧ x.arg < 64) ∧ (oO x.op = 8 → 0 < x.arg ∧ x.arg < 16384) := by
  unfold rawB at h
  by_cases h0 : x.op < 1 ∨ 75 < x.op
  · rw [if_pos h0] at h; cases h
  rw [if_neg h0] at h
  refine ⟨by omega, by omega, ?_⟩
  have hr := oO_range x.op
  generalize oO x.op = o at h hr ⊢
  have : o = 0 ∨ o = 1 ∨ o = 2 ∨ o = 3 ∨ o = 4 ∨ o = 5 ∨ o = 6 ∨ o = 7 ∨ o = 8 := by omega
  rcases this with rfl | rfl | rfl | rfl | rfl | rfl | rfl | rfl | rfl <;> simp [fitsO] at h ⊢ <;> first
    | exact noT_eq h
    | exact ⟨noT_eq h.1, h.2⟩
    | (refine ⟨noT_eq h.1, ?_⟩; omega)
theorem getD_at {b : List UInt8} {a : Nat} {c : UInt8} (h : At b a [c]) : a < b.length ∧ b.getD a 0 = c := by
  obtain ⟨h1, h2⟩ := h
  have h3 : a < b.length := by simp at h1; omega
  have h4 : ((b.drop a).take 1)[0]? = some c := by
    have : (b.drop a).take 1 = [c] := h2
    rw [this]; rfl
  rw [List.getElem?_take_of_lt (by omega), List.getElem?_drop, Nat.add_zero] at h4
  exact ⟨h3, by rw [List.getD_eq_getElem?_getD, h4]; rfl⟩
theorem at_getD {b : List UInt8} {a : Nat} (h : a < b.length) : At b a [b.getD a 0] := by
  refine ⟨by simp; omega, ?_⟩
  show (b.drop a).take 1 = [b.getD a 0]
  rw [List.drop_eq_getElem_cons h, List.getD_eq_getElem?_getD, List.getElem?_eq_getElem h]
  rfl

theorem arg_opd {x : Ins} (h : rawB x = true) (h2 : oO x.op = 2 → -9223372036854775808 ≤ x.arg ∧ x.arg < 9223372036854775808) (t a' : Int) (h5 : oO x.op = 5 → -32768 ≤ t - a' ∧ t - a' < 32768) :
    argD (oO x.op) (numL (opdB x t a')) = (if oO x.op = 5 then 0 else x.arg) ∧ (oO x.op = 5 → sgn 2 (numL (opdB x t a')) = t - a') := by
  obtain ⟨_, _, _, q0, q1, q3, q5, q6, q8⟩ := raw_inv h
  have hr := oO_range x.op
  unfold opdB
  generalize oO x.op = o at *
  have : o = 0 ∨ o = 1 ∨ o = 2 ∨ o = 3 ∨ o = 4 ∨ o = 5 ∨ o = 6 ∨ o = 7 ∨ o = 8 := by omega
  have hm := fun y => le_numL_putB (m64 y) (m64_nonneg y)
  rcases this with rfl | rfl | rfl | rfl | rfl | rfl | rfl | rfl | rfl
  · simp [argD, numL]; exact (q0 rfl).symm
  · refine ⟨?_, by simp⟩
    have := q1 rfl
    simp [argD, wdO, hm]
    exact sgn_put (n := 4) (by omega) (by rw [pow4]; omega) (by rw [pow4]; omega)
  · refine ⟨?_, by simp⟩
    have := h2 rfl
    simp [argD, wdO, hm]
    exact sgn_put (n := 8) (by omega) (by rw [pow8]; omega) (by rw [pow8]; omega)
  · refine ⟨?_, by simp⟩
    have := q3 (by simp)
    simp [argD, wdO, hm]; simp only [m64]; omega
  · refine ⟨?_, by simp⟩
    have := q3 (by simp)
    simp [argD, wdO, hm]; simp only [m64]; omega
  · have := h5 rfl
    refine ⟨by simp [argD], fun _ => ?_⟩
    simp
    rw [hm]
    exact sgn_put (n := 2) (x := t - a') (by omega) (by rw [pow2]; omega) (by rw [pow2]; omega)
  · refine ⟨?_, by simp⟩
    have := q6 (by simp)
    simp [argD, hm]; simp only [m64]; omega
  · refine ⟨?_, by simp⟩
    have := q6 (by simp)
    simp [argD, hm]; simp only [m64]; omega
  · refine ⟨?_, by simp⟩
    have := q8 rfl
    simp [argD, wdO, hm]; simp only [m64]; omega

/-- The instruction as it is read: without the place's number. -/
def bare (x : Ins) : Ins := if oO x.op = 5 then { x with arg := 0 } else x
theorem bare_op (x : Ins) : (bare x).op = x.op := by unfold bare; split <;> rfl
theorem raw_bare {x : Ins} (h : rawB x = true) : rawB (bare x) = true := by
  unfold bare
  split
  · rename_i h5
    obtain ⟨h1, h2, h3, _⟩ := raw_inv h
    unfold rawB
    rw [if_neg (by simp; omega), if_neg (by simp [h5])]
    simp [h5, fitsO, h3, noT_no]
  · exact h
theorem one_at {b : List UInt8} {a : Nat} {x : Ins} {t : Int} (h : rawB x = true) (h2 : oO x.op = 2 → -9223372036854775808 ≤ x.arg ∧ x.arg < 9223372036854775808)
    (hat : At b a (insB x t (a + 1 + wdO (oO x.op)))) (h5 : oO x.op = 5 → -32768 ≤ t - (a + 3) ∧ t - (a + 3) < 32768) :
    oneD b a = .ok (bare x, if oO x.op = 5 then t else 0, a + 1 + (wdO (oO x.op)).toNat) := by
  obtain ⟨r1, r2, r3, _⟩ := raw_inv h
  unfold insB at hat
  rw [At.cons] at hat
  obtain ⟨ha1, ha2⟩ := hat
  obtain ⟨_, hg⟩ := getD_at ha1
  have hop : (((b.getD a 0).toNat : Nat) : Int) = x.op := by rw [hg]; simp; omega
  have hw := wd_range (oO x.op)
  have hl := opd_len x t (a + 1 + wdO (oO x.op))
  have hseg : seg b (a + 1 : Nat) (wdO (oO x.op)).toNat = opdB x t (a + 1 + wdO (oO x.op)) := by
    rw [seg_sg]
    have := ha2.2
    rwa [show (opdB x t (a + 1 + wdO (oO x.op))).length = (wdO (oO x.op)).toNat by omega] at this
  have hlen := ha2.1
  obtain ⟨e1, e2⟩ := arg_opd h h2 t (a + 1 + wdO (oO x.op)) (fun e => by rw [show wdO (oO x.op) = 2 by rw [e]; rfl]; have := h5 e; omega)
  have hb : (⟨x.op, argD (oO x.op) (numL (opdB x t (a + 1 + wdO (oO x.op)))), noTy⟩ : Ins) = bare x := by
    rw [e1, ← r3]
    obtain ⟨op, arg, ty⟩ := x
    unfold bare
    simp only
    split <;> rfl
  unfold oneD
  rw [hop, if_neg (by omega), if_neg (by omega), hseg, hb, if_pos (raw_bare h)]
  congr 3
  unfold toD
  split
  · rename_i e
    rw [e2 e]
    omega
  · rfl
/-- What is read of code. -/
def rdG (P : List Int) : List Ins → Int → List RI
  | [], _ => []
  | x :: r, a => ⟨bare x, a, if oO x.op = 5 then P.getD x.arg.toNat 0 else 0⟩ :: rdG P r (a + 1 + wdO (oO x.op))
theorem rdG_at (P : List Int) (l : List Ins) (a : Int) : (rdG P l a).map (·.a) = (placesG l a).dropLast := by
  induction l generalizing a with
  | nil => rfl
  | cons x r ih =>
    simp only [rdG, placesG, List.map_cons, ih]
    cases hr : placesG r (a + 1 + wdO (oO x.op)) with
    | nil => have := places_len r (a + 1 + wdO (oO x.op)); rw [hr] at this; simp at this
    | cons y z => simp

theorem dec_at {b : List UInt8} {P : List Int} (hP : ∀ y ∈ P, 0 ≤ y ∧ y ≤ 1440) : ∀ (l : List Ins) (i a k : Nat), l.length ≤ k → (∀ x ∈ l, rawB x = true ∧ (oO x.op = 5 → x.arg.toNat < P.length)) →
    (∀ x ∈ l, oO x.op = 2 → -9223372036854775808 ≤ x.arg ∧ x.arg < 9223372036854775808) → P.drop i = placesG l a → At b a (codeG P l i) → a + (codeG P l i).length = b.length → decG b k a = .ok (rdG P l a) := by
  intro l
  induction l with
  | nil =>
    intro i a k _ _ _ _ _ hl
    simp [codeG] at hl
    cases k <;> simp [decG, hl, rdG]
  | cons x r ih =>
    intro i a k hk hraw h64 hd hat hl
    obtain ⟨k, rfl⟩ : ∃ j, k = j + 1 := ⟨k - 1, by simp at hk; omega⟩
    simp only [codeG] at hat hl
    rw [At.app] at hat
    obtain ⟨ha1, ha2⟩ := hat
    have hilt : i < P.length := by
      rcases Nat.lt_or_ge i P.length with h | h
      · exact h
      · rw [List.drop_eq_nil_of_le h] at hd
        simp [placesG] at hd
    have hd1 : P.drop (i + 1) = placesG r (a + 1 + wdO (oO x.op)) := by
      rw [List.drop_eq_getElem_cons hilt] at hd
      simp only [placesG] at hd
      exact (List.cons.inj hd).2
    have hP0 : (a : Int) = P[i] := by
      rw [List.drop_eq_getElem_cons hilt] at hd
      simp only [placesG] at hd
      exact (List.cons.inj hd).1.symm
    have hP1 : P.getD (i + 1) 0 = a + 1 + wdO (oO x.op) := by
      have : (P.drop (i + 1)).getD 0 0 = a + 1 + wdO (oO x.op) := by rw [hd1, places_head]
      simpa [List.getD_eq_getElem?_getD] using this
    rw [hP1] at ha1 ha2 hl
    have hwd := wd_range (oO x.op)
    have hil := ins_len x (P.getD x.arg.toNat 0) (a + 1 + wdO (oO x.op))
    have hx := hraw x (by simp)
    have hlt : a < b.length := by have := ha1.1; omega
    have hone := one_at hx.1 (h64 x (by simp)) ha1 (fun e => by
      have h1 := hx.2 e
      have h2 := hP _ (List.getElem_mem h1)
      have h3 := hP _ (List.getElem_mem hilt)
      have : P.getD x.arg.toNat 0 = P[x.arg.toNat] := by simp [List.getD_eq_getElem?_getD, h1]
      rw [this]
      omega)
    have hcast : ((a + 1 + (wdO (oO x.op)).toNat : Nat) : Int) = a + 1 + wdO (oO x.op) := by omega
    have hnext : a + (insB x (P.getD x.arg.toNat 0) (a + 1 + wdO (oO x.op))).length = a + 1 + (wdO (oO x.op)).toNat := by omega
    rw [hnext] at ha2
    have hrec := ih (i + 1) (a + 1 + (wdO (oO x.op)).toNat) k (by simp at hk; omega) (fun y hy => hraw y (by simp [hy])) (fun y hy => h64 y (by simp [hy]))
      (by rw [hcast]; exact hd1) ha2 (by rw [← hl, List.length_append]; omega)
    simp only [decG, if_pos hlt, hone, hrec, rdG, hcast]

theorem code_len (P : List Int) : ∀ (l : List Ins) (i : Nat) (a : Int), (placesG l a).getLast? = some (a + (codeG P l i).length) := by
  intro l
  induction l with
  | nil => intro i a; simp [placesG, codeG]
  | cons x r ih =>
    intro i a
    have h := ih (i + 1) (a + 1 + wdO (oO x.op))
    have hil := ins_len x (P.getD x.arg.toNat 0) (P.getD (i + 1) 0)
    simp only [placesG, codeG]
    rw [List.getLast?_cons, h]
    simp only [Option.getD_some, List.length_append, Option.some.injEq]
    omega
theorem findIdx_up {P : List Int} (hP : P.Pairwise (· < ·)) {k : Nat} (hk : k < P.length) : P.findIdx? (fun y => decide (y = P[k])) = some k := by
  rw [List.findIdx?_eq_some_iff_getElem]
  refine ⟨hk, by simp, fun j hj => ?_⟩
  have := List.pairwise_iff_getElem.1 hP j k (by omega) hk hj
  simp
  omega
theorem res_at {L P : List Int} (hL : L.Pairwise (· < ·)) (hLP : ∀ k (h : k < L.length), P.getD k 0 = L[k]) : ∀ (l : List Ins) (a : Int), (∀ x ∈ l, oO x.op = 5 → 0 ≤ x.arg ∧ x.arg.toNat < L.length) →
    resG L (rdG P l a) = .ok l := by
  intro l
  induction l with
  | nil => intro a _; rfl
  | cons x r ih =>
    intro a h
    have hr := ih (a + 1 + wdO (oO x.op)) (fun y hy => h y (by simp [hy]))
    have hx : fixD L ⟨bare x, a, if oO x.op = 5 then P.getD x.arg.toNat 0 else 0⟩ = .ok x := by
      unfold fixD
      simp only [bare_op]
      by_cases h5 : oO x.op = 5
      · obtain ⟨h0, h1⟩ := h x (by simp) h5
        rw [if_pos h5, if_pos h5, hLP _ h1, findIdx_up hL h1]
        simp only [bare, h5, if_true]
        obtain ⟨op, arg, ty⟩ := x
        simp at h0 ⊢
        omega
      · rw [if_neg h5]
        simp [bare, h5]
    simp only [rdG, resG, hx, hr]

theorem places_all {l : List Ins} (h : (placesS l).2 = 0) : l.length ≤ 160 ∧ l.all rawB = true ∧ placesS l = (placesG l 0, 0) := by
  unfold placesS at h ⊢
  split at h
  · simp at h
  · rename_i h1
    split at h
    · rename_i h2; rw [if_neg h1, if_pos h2]; exact ⟨by omega, h2, rfl⟩
    · simp at h
/-- WHAT IS ENCODED IS DECODED TO WHAT IT WAS. -/
theorem dec_enc {l : List Ins} (h : (encodeS l).2 = 0) (h64 : ∀ x ∈ l, -9223372036854775808 ≤ x.arg ∧ x.arg < 9223372036854775808) :
    decS (encodeS l).1 = ((l, placesG l 0), 0, 0) ∧ (placesS l).2 = 0 ∧ placesS l = (placesG l 0, 0) := by
  unfold encodeS at h ⊢
  split at h
  rotate_left
  · exact absurd h (by assumption)
  rename_i hp
  obtain ⟨hlen, hraw, hpl⟩ := places_all hp
  split at h
  · simp at h
  rename_i hf
  rw [if_pos hp, if_neg hf]
  refine ⟨?_, hp, hpl⟩
  have hf' : ∀ x ∈ l, oO x.op = 5 → x.arg < l.length := by
    intro x hx h5
    simp only [List.any_eq_true, not_exists, not_and] at hf
    have := hf x hx
    simp [flowB, h5] at this
    exact this
  have hraw' : ∀ x ∈ l, rawB x = true := by simpa using hraw
  have hPl := places_len l 0
  have hPle := places_le l 0
  have hPge := places_ge l 0
  have hdec := dec_at (b := codeG (placesG l 0) l 0) (P := placesG l 0) (fun y hy => ⟨hPge y hy, by have := hPle y hy; omega⟩) l 0 0 160 hlen
    (fun x hx => ⟨hraw' x hx, fun e => by have := hf' x hx e; have := (raw_inv (hraw' x hx)).2.2.2.2.2.2.1 e; omega⟩) (fun x hx _ => h64 x hx) rfl ⟨by simp, by simp [sg]⟩ (by simp)
  have hat := rdG_at (placesG l 0) l 0
  have hres := res_at (L := (placesG l 0).dropLast) (P := placesG l 0) ((places_up l 0).sublist (List.dropLast_sublist _)) (fun k hk => by
    rw [List.getElem_dropLast]
    simp at hk
    simp [List.getD_eq_getElem?_getD, show k < (placesG l 0).length by omega]) l 0 (fun x hx e => by
      have := hf' x hx e
      have := (raw_inv (hraw' x hx)).2.2.2.2.2.2.1 e
      simp [hPl]
      omega)
  have hlast := code_len (placesG l 0) l 0 0
  have hfin : (placesG l 0).dropLast ++ [((codeG (placesG l 0) l 0).length : Int)] = placesG l 0 := by
    rw [List.getLast?_eq_some_iff] at hlast
    obtain ⟨ys, hys⟩ := hlast
    have e0 : (0 : Int) + ((codeG (placesG l 0) l 0).length : Int) = ((codeG (placesG l 0) l 0).length : Int) := by omega
    rw [e0] at hys
    generalize ((codeG (placesG l 0) l 0).length : Int) = z at hys ⊢
    rw [hys]
    simp
  unfold decS
  rw [show (((0 : Nat) : Int)) = 0 from rfl] at hdec
  rw [hdec]
  simp only
  rw [hat, hres]
  simp only
  rw [hfin]

/-! encoding what was decoded -/
def codeR : List RI → List UInt8
  | [] => []
  | r :: s => insB r.x r.t (r.a + 1 + wdO (oO r.x.op)) ++ codeR s
theorem one_inv {b : List UInt8} {a : Nat} (ha : a < b.length) {x : Ins} {t : Int} {a' : Nat} (h : oneD b a = .ok (x, t, a')) : rawB x = true ∧ bare x = x ∧ (a' : Int) = a + 1 + wdO (oO x.op) ∧ a' ≤ b.length ∧ At b a (insB x t (a + 1 + wdO (oO x.op))) := by
  unfold oneD at h
  have hop : (((b.getD a 0).toNat : Nat) : Int) < 256 := by have := (b.getD a 0).toNat_lt; omega
  have hat1 := at_getD ha
  generalize hc : b.getD a 0 = c at h hop hat1
  split at h
  · cases h
  split at h
  · cases h
  rename_i h1 h2
  split at h
  · rename_i h3
    simp only [Except.ok.injEq, Prod.mk.injEq] at h
    obtain ⟨rfl, rfl, rfl⟩ := h
    have hwd := wd_range (oO (c.toNat : Int))
    have hcast : ((a + 1 + (wdO (oO (c.toNat : Int))).toNat : Nat) : Int) = a + 1 + wdO (oO (c.toNat : Int)) := by omega
    refine ⟨h3, ?_, hcast, by omega, ?_⟩
    · unfold bare
      simp only
      split
      · rename_i e; simp [argD, e]
      · rfl
    · unfold insB
      simp only
      rw [At.cons]
      have e8 : UInt8.ofNat ((c.toNat : Int) % 256).toNat = c := by
        rw [show ((c.toNat : Int) % 256).toNat = c.toNat by omega]; simp
      rw [e8]
      refine ⟨hat1, ?_⟩
      have hs : At b (a + 1) (sg b (a + 1) (wdO (oO (c.toNat : Int))).toNat) := At.sg (by omega)
      have hsl := sg_len (b := b) (a := a + 1) (n := (wdO (oO (c.toNat : Int))).toNat) (by omega)
      have hv := numL_nonneg (sg b (a + 1) (wdO (oO (c.toNat : Int))).toNat)
      have hput := le_putB_numL (sg b (a + 1) (wdO (oO (c.toNat : Int))).toNat)
      have hvl := numL_lt (sg b (a + 1) (wdO (oO (c.toNat : Int))).toNat)
      rw [hsl] at hput hvl
      rw [seg_sg] at h3 ⊢
      suffices hh : opdB ⟨c.toNat, argD (oO (c.toNat : Int)) (numL (sg b (a + 1) (wdO (oO (c.toNat : Int))).toNat)), noTy⟩
          (toD (oO (c.toNat : Int)) (numL (sg b (a + 1) (wdO (oO (c.toNat : Int))).toNat)) (a + 1 + (wdO (oO (c.toNat : Int))).toNat)) (a + 1 + wdO (oO (c.toNat : Int))) = sg b (a + 1) (wdO (oO (c.toNat : Int))).toNat by
        rw [hh]; exact hs
      generalize sg b (a + 1) (wdO (oO (c.toNat : Int))).toNat = S at *
      refine Eq.trans ?_ hput
      have hr := oO_range (c.toNat : Int)
      unfold opdB toD
      simp only
      rw [hcast]
      generalize oO (c.toNat : Int) = o at *
      have hm : ∀ k : Nat, putB (m64 (numL S)) k = putB (numL S) k := by
        intro k
        have hb : numL S < 18446744073709551616 := by
          have q : (256 : Int) ^ (wdO o).toNat ≤ 256 ^ 8 := by
            have q3 : ∀ j : Nat, j < 9 → (256 : Int) ^ j ≤ 256 ^ 8 := by decide
            exact q3 _ (by omega)
          rw [pow8] at q
          omega
        congr 1
        unfold m64; omega
      have : o = 0 ∨ o = 1 ∨ o = 2 ∨ o = 3 ∨ o = 4 ∨ o = 5 ∨ o = 6 ∨ o = 7 ∨ o = 8 := by omega
      rcases this with rfl | rfl | rfl | rfl | rfl | rfl | rfl | rfl | rfl
      · simp [wdO] at hsl ⊢; simp [putB]
      · simp [argD, wdO]; exact putB_sgn (n := 4) (v := numL S) (by omega) hv
      · simp [argD, wdO]; exact putB_sgn (n := 8) (v := numL S) (by omega) hv
      · simp [argD, wdO, hm]
      · simp [argD, wdO, hm]
      · simp [argD, wdO]
        rw [show (a : Int) + 1 + 2 + sgn 2 (numL S) - (a + 1 + 2) = sgn 2 (numL S) by omega]
        exact putB_sgn (n := 2) (v := numL S) (by omega) hv
      · simp [argD, wdO, hm]
      · simp [argD, wdO, hm]
      · simp [argD, wdO, hm]
  · cases h
theorem dec_inv {b : List UInt8} : ∀ (k a : Nat) (r : List RI), a ≤ b.length → decG b k a = .ok r → r.length ≤ k ∧ (∀ y ∈ r, rawB y.x = true ∧ bare y.x = y.x) ∧ placesG (r.map (·.x)) a = r.map (·.a) ++ [(b.length : Int)] ∧ At b a (codeR r) ∧ a + (codeR r).length = b.length := by
  intro k
  induction k with
  | zero =>
    intro a r ha h
    simp only [decG] at h
    split at h
    · cases h
    · cases h
      have : a = b.length := by omega
      subst this
      simp [placesG, codeR, At.nil]
  | succ k ih =>
    intro a r ha h
    simp only [decG] at h
    split at h
    · rename_i hlt
      cases h1 : oneD b a with
      | error e => rw [h1] at h; cases h
      | ok y =>
        obtain ⟨x, t, a'⟩ := y
        rw [h1] at h
        simp only at h
        cases h2 : decG b k a' with
        | error e => rw [h2] at h; cases h
        | ok s =>
          rw [h2] at h
          cases h
          obtain ⟨o1, o2, o3, o4, o5⟩ := one_inv hlt h1
          obtain ⟨i1, i2, i3, i4, i5⟩ := ih a' s o4 h2
          have hil := ins_len x t (a + 1 + wdO (oO x.op))
          have hnx : a + (insB x t (a + 1 + wdO (oO x.op))).length = a' := by omega
          refine ⟨by simp; omega, ?_, ?_, ?_, ?_⟩
          · intro y hy
            simp at hy
            rcases hy with rfl | hy
            · exact ⟨o1, o2⟩
            · exact i2 y hy
          · simp only [List.map_cons, placesG, ← o3, i3]; rfl
          · simp only [codeR]
            rw [At.app, hnx]
            exact ⟨o5, i4⟩
          · simp only [codeR, List.length_append]; omega
    · cases h
      have : a = b.length := by omega
      subst this
      simp [placesG, codeR, At.nil]
theorem fix_inv {L : List Int} {r : RI} {x : Ins} (hb : bare r.x = r.x) (h : fixD L r = .ok x) : x.op = r.x.op ∧ x.t = r.x.t ∧ (oO x.op = 5 → ∃ k : Nat, x.arg = k ∧ k < L.length ∧ L.getD k 0 = r.t) ∧ (¬ oO x.op = 5 → x = r.x) := by
  unfold fixD at h
  split at h
  · rename_i h5
    split at h
    · cases h
    · rename_i k hk
      cases h
      rw [List.findIdx?_eq_some_iff_getElem] at hk
      obtain ⟨hk1, hk2, _⟩ := hk
      refine ⟨rfl, rfl, fun _ => ⟨k, rfl, hk1, ?_⟩, fun e => absurd h5 e⟩
      simp at hk2
      simp [List.getD_eq_getElem?_getD, hk1, hk2]
  · rename_i h5
    cases h
    exact ⟨rfl, rfl, fun e => absurd e h5, fun _ => rfl⟩
theorem res_inv {L : List Int} (hL : L.length ≤ 160) : ∀ (r : List RI) (l : List Ins), (∀ y ∈ r, rawB y.x = true ∧ bare y.x = y.x) → resG L r = .ok l →
    l.length = r.length ∧ (∀ x ∈ l, rawB x = true ∧ (oO x.op = 5 → x.arg < L.length)) ∧ (∀ a, placesG l a = placesG (r.map (·.x)) a) ∧
    (∀ (P : List Int) (i : Nat), (∀ k, k < L.length → P.getD k 0 = L.getD k 0) → (∀ j (h : j < r.length), P.getD (i + j + 1) 0 = r[j].a + 1 + wdO (oO r[j].x.op)) → codeG P l i = codeR r) := by
  intro r
  induction r with
  | nil => intro l _ h; cases h; simp [placesG, codeG, codeR]
  | cons y s ih =>
    intro l hy h
    simp only [resG] at h
    cases h1 : fixD L y with
    | error e => rw [h1] at h; cases h
    | ok x =>
      rw [h1] at h
      simp only at h
      cases h2 : resG L s with
      | error e => rw [h2] at h; cases h
      | ok m =>
        rw [h2] at h
        cases h
        obtain ⟨b1, b2⟩ := hy y (by simp)
        obtain ⟨f1, f2, f3, f4⟩ := fix_inv b2 h1
        obtain ⟨i1, i2, i3, i4⟩ := ih m (fun z hz => hy z (by simp [hz])) h2
        refine ⟨by simp [i1], ?_, ?_, ?_⟩
        · intro z hz
          simp at hz
          rcases hz with rfl | hz
          · by_cases h5 : oO z.op = 5
            · obtain ⟨k, k1, k2, _⟩ := f3 h5
              refine ⟨?_, fun _ => by omega⟩
              obtain ⟨q1, q2, q3, _⟩ := raw_inv b1
              unfold rawB
              rw [if_neg (by omega), if_neg (by omega), h5]
              simp [fitsO, f2, q3, noT_no, k1]
              omega
            · rw [f4 h5]; exact ⟨b1, fun e => absurd e (by rw [← f1]; exact h5)⟩
          · exact i2 z hz
        · intro a
          simp only [placesG, List.map_cons, f1, i3]
        · intro P i hP hj
          simp only [codeG, codeR]
          congr 1
          · have h0 : P.getD (i + 1) 0 = y.a + 1 + wdO (oO y.x.op) := hj 0 (by simp)
            rw [h0]
            by_cases h5 : oO x.op = 5
            · obtain ⟨k, k1, k2, k3⟩ := f3 h5
              rw [k1, Int.toNat_natCast, hP k k2, k3]
              unfold insB opdB
              rw [f1] at h5
              simp [f1, h5]
            · have := f4 h5
              subst this
              unfold insB opdB
              simp [h5]
          · refine i4 P (i + 1) hP (fun j hj' => ?_)
            have := hj (j + 1) (by simp; omega)
            simpa [show i + (j + 1) + 1 = i + 1 + j + 1 by omega] using this
theorem places_next (l : List Ins) (a : Int) (j : Nat) (h : j < l.length) : (placesG l a).getD (j + 1) 0 = (placesG l a).getD j 0 + 1 + wdO (oO l[j].op) := by
  induction l generalizing a j with
  | nil => simp at h
  | cons x r ih =>
    cases j with
    | zero => simpa [placesG] using places_head r _
    | succ j => simpa [placesG] using ih (a + 1 + wdO (oO x.op)) j (by simpa using h)
theorem one_err {b : List UInt8} {a : Nat} {e : Int × Int} (h : oneD b a = .error e) : e.2 ≠ 0 := by
  unfold oneD at h
  split at h
  · cases h; simp
  split at h
  · cases h; simp
  split at h
  · cases h
  · cases h; simp
theorem dec_err {b : List UInt8} : ∀ (k a : Nat) (e : Int × Int), decG b k a = .error e → e.2 ≠ 0 := by
  intro k
  induction k with
  | zero =>
    intro a e h
    simp only [decG] at h
    split at h <;> cases h
    simp
  | succ k ih =>
    intro a e h
    simp only [decG] at h
    split at h
    · cases h1 : oneD b a with
      | error e' => rw [h1] at h; cases h; exact one_err h1
      | ok y =>
        obtain ⟨x, t, a'⟩ := y
        rw [h1] at h
        simp only at h
        cases h2 : decG b k a' with
        | error e' => rw [h2] at h; cases h; exact ih _ _ h2
        | ok s => rw [h2] at h; cases h
    · cases h
theorem res_err {L : List Int} : ∀ (r : List RI) (e : Int × Int), resG L r = .error e → e.2 ≠ 0 := by
  intro r
  induction r with
  | nil => intro e h; cases h
  | cons y s ih =>
    intro e h
    simp only [resG] at h
    cases h1 : fixD L y with
    | error e' =>
      rw [h1] at h
      cases h
      unfold fixD at h1
      split at h1
      · split at h1 <;> cases h1
        simp
      · cases h1
    | ok x =>
      rw [h1] at h
      simp only at h
      cases h2 : resG L s with
      | error e' => rw [h2] at h; cases h; exact ih _ h2
      | ok m => rw [h2] at h; cases h
/-- WHAT IS DECODED, ENCODED AGAIN, IS THE VERY BYTES. -/
theorem enc_dec {b : List UInt8} (h : (decS b).2.2 = 0) : encodeS (decS b).1.1 = (b, 0) := by
  unfold decS at h ⊢
  cases h1 : decG b 160 0 with
  | error e => rw [h1] at h; exact absurd h (dec_err _ _ _ h1)
  | ok r =>
    rw [h1] at h
    simp only at h ⊢
    cases h2 : resG (r.map (·.a)) r with
    | error e => rw [h2] at h; exact absurd h (res_err _ _ h2)
    | ok l =>
      simp only
      obtain ⟨i1, i2, i3, i4, i5⟩ := dec_inv 160 0 r (by omega) h1
      obtain ⟨j1, j2, j3, j4⟩ := res_inv (by simpa using i1) r l i2 h2
      have hraw : l.all rawB = true := by simpa using fun x hx => (j2 x hx).1
      have hp : placesS l = (placesG l 0, 0) := by unfold placesS; rw [if_neg (by omega), if_pos hraw]
      have hP : placesG l 0 = r.map (·.a) ++ [(b.length : Int)] := by rw [j3]; exact i3
      have hf : ¬ (l.any (flowB l.length) = true) := by
        simp only [List.any_eq_true, not_exists, not_and]
        intro x hx
        simp only [flowB, Bool.and_eq_true, decide_eq_true_eq, not_and]
        intro e
        have := (j2 x hx).2 e
        simp at this
        omega
      unfold encodeS
      rw [hp, if_pos rfl, if_neg hf]
      have hb := i4.take
      have hbl : b.take (codeR r).length = b := by rw [List.take_of_length_le (by omega)]
      rw [hbl] at hb
      rw [j4 (placesG l 0) 0 ?_ ?_, hb]
      · intro k hk
        rw [hP]
        simp at hk
        simp [List.getD_eq_getElem?_getD, List.getElem?_append_left, hk]
      · intro j hj
        have hn := places_next (r.map (·.x)) 0 j (by simpa using hj)
        rw [j3, show 0 + j + 1 = j + 1 by omega, hn]
        rw [show (((0 : Nat) : Int)) = 0 from rfl] at i3
        rw [i3]
        simp [List.getD_eq_getElem?_getD, List.getElem?_append_left, hj]

end Go.Proofs.Ytnkjbgcbchbonaa
