/- Bodies: what is written is read; what is read is written. The plain law. -/
import Derived.Test.YtnkjbgcbchbonaaBodyC
import Derived.Test.YtnkjbgcbchbonaaLe
set_option linter.unusedSimpArgs false
set_option linter.unusedVariables false
set_option maxRecDepth 100000
namespace Go.Proofs.Ytnkjbgcbchbonaa
open Go Go.AW

theorem eNum_at {b : List UInt8} {a n : Nat} {x : Int} (h : At b a (putB x n)) (h0 : 0 ≤ x) (h1 : x < 256 ^ n) : eNum b a n = .ok (x, a + n) := by
  obtain ⟨h2, h3⟩ := h.num h0 h1
  unfold eNum
  rw [if_pos h2, h3]
theorem at_eNum {b : List UInt8} {a n : Nat} {v : Int} {a' : Nat} (h : eNum b a n = .ok (v, a')) : At b a (putB v n) ∧ a' = a + n ∧ 0 ≤ v ∧ v < 256 ^ n := by
  obtain ⟨h1, rfl, rfl⟩ := eNum_ok h
  exact ⟨At.of_num h1, rfl, numL_bound h1⟩
theorem putB_one (c : UInt8) : putB c.toNat 1 = [c] := by
  have := le_putB_numL [c]
  simpa [numL] using this
theorem putB_small (n : Nat) : putB (n : Int) 1 = [UInt8.ofNat (n % 256)] := by
  simp only [putB]
  congr 2
theorem eMust_at {b : List UInt8} {a : Nat} {c : Nat} (h : At b a [UInt8.ofNat c]) (hc : c < 256) : eMust b a c = .ok (a + 1) := by
  have h1 := putB_small c
  rw [Nat.mod_eq_of_lt hc] at h1
  rw [← h1] at h
  unfold eMust
  rw [eNum_at h (by omega) (by omega)]
  simp
theorem at_eMust {b : List UInt8} {a : Nat} {c : Nat} {a' : Nat} (hc : c < 256) (h : eMust b a c = .ok a') : At b a [UInt8.ofNat c] ∧ a' = a + 1 := by
  obtain ⟨h1, h2, _⟩ := at_eNum (eMust_ok h)
  have h3 := putB_small c
  rw [Nat.mod_eq_of_lt hc] at h3
  rw [h3] at h1
  exact ⟨h1, h2⟩
theorem eCode_at {b : List UInt8} {a : Nat} {l : List UInt8} (h : At b a l) (h1 : 1 ≤ l.length) (h2 : l.length ≤ 65535) : eCode b a l.length = .ok (l, a + l.length) := by
  unfold eCode
  have := h.len
  rw [if_neg (by omega), if_pos (by omega), seg_sg, h.2]
  rfl
theorem at_eCode {b : List UInt8} {a : Nat} {n : Int} {l : List UInt8} {a' : Nat} (h : eCode b a n = .ok (l, a')) : At b a l ∧ a' = a + l.length ∧ n = l.length ∧ 1 ≤ l.length ∧ l.length ≤ 65535 := by
  unfold eCode at h
  split at h
  · cases h
  · split at h
    · cases h
      obtain ⟨N, rfl⟩ : ∃ N : Nat, n = N := ⟨n.toNat, by omega⟩
      have h3 : a + N ≤ b.length := by omega
      have := sg_len h3
      rw [seg_sg]
      refine ⟨At.sg h3, by omega, by omega, by omega, by omega⟩
    · cases h
theorem ePad_at {b : List UInt8} : ∀ {k a : Nat}, At b a (List.replicate k 0) → ePad b k a = .ok (a + k) := by
  intro k
  induction k with
  | zero => intro a _; rfl
  | succ k ih =>
    intro a h
    rw [List.replicate_succ, At.cons] at h
    have h1 := eMust_at (c := 0) h.1 (by omega)
    simp only [ePad]
    rw [show ((0 : Nat) : Int) = 0 from rfl] at h1
    rw [h1]
    simp only
    rw [ih h.2]
    congr 1
    omega
theorem at_ePad {b : List UInt8} : ∀ {k a a' : Nat}, a ≤ b.length → ePad b k a = .ok a' → At b a (List.replicate k 0) ∧ a' = a + k := by
  intro k
  induction k with
  | zero => intro a a' hl h; simp only [ePad] at h; cases h; exact ⟨At.nil hl, rfl⟩
  | succ k ih =>
    intro a a' hl h
    simp only [ePad] at h
    cases hM : eMust b a 0 with
    | error e => rw [hM] at h; cases h
    | ok a1 =>
      rw [hM] at h
      obtain ⟨h1, rfl⟩ := at_eMust (c := 0) (by omega) hM
      have h2 := h1.len
      obtain ⟨h3, rfl⟩ := ih (by simpa using h2) h
      rw [List.replicate_succ, At.cons]
      exact ⟨⟨h1, h3⟩, by omega⟩
theorem eNums_at {b : List UInt8} : ∀ {l : List Int} {a : Nat}, At b a (l.flatMap (putB · 2)) → (∀ x ∈ l, 0 ≤ x ∧ x ≤ 65535) → eNums b l.length a = .ok (l, a + 2 * l.length) := by
  intro l
  induction l with
  | nil => intro a _ _; rfl
  | cons x r ih =>
    intro a h hl
    rw [List.flatMap_cons, At.app, putB_length] at h
    have hx := hl x (by simp)
    simp only [List.length_cons, eNums]
    rw [eNum_at h.1 hx.1 (by omega)]
    simp only
    rw [ih h.2 fun y hy => hl y (by simp [hy])]
    simp only
    congr 2
    omega
theorem at_eNums {b : List UInt8} : ∀ {k a : Nat} {l : List Int} {a' : Nat}, a ≤ b.length → eNums b k a = .ok (l, a') → At b a (l.flatMap (putB · 2)) ∧ l.length = k ∧ a' = a + 2 * k ∧ ∀ x ∈ l, 0 ≤ x ∧ x ≤ 65535 := by
  intro k
  induction k with
  | zero => intro a l a' hl h; simp only [eNums] at h; cases h; exact ⟨At.nil hl, rfl, rfl, by simp⟩
  | succ k ih =>
    intro a l a' hl h
    simp only [eNums] at h
    cases h1 : eNum b a 2 with
    | error e => rw [h1] at h; cases h
    | ok x =>
      obtain ⟨v, a1⟩ := x
      rw [h1] at h
      simp only at h
      obtain ⟨g1, rfl, g2, g3⟩ := at_eNum h1
      have g4 := g1.len
      rw [putB_length] at g4
      cases h2 : eNums b k (a + 2) with
      | error e => rw [h2] at h; cases h
      | ok y =>
        obtain ⟨m, a2⟩ := y
        rw [h2] at h
        cases h
        obtain ⟨k1, rfl, rfl, k2⟩ := ih g4 h2
        rw [List.flatMap_cons, At.app, putB_length]
        refine ⟨⟨g1, k1⟩, rfl, by omega, ?_⟩
        intro x hx
        rcases List.mem_cons.1 hx with rfl | hx
        · omega
        · exact k2 x hx
theorem r6_nums (r : R6) : r6 (nums r) = r := rfl
theorem nums_r6 {l : List Int} (h : l.length = 6) : nums (r6 l) = l := by
  match l, h with
  | [a, b, c, d, e, f], _ => rfl
theorem eRaws_at {b : List UInt8} : ∀ {l : List R6} {a : Nat}, At b a (l.flatMap encR) → l.all okR = true → eRaws b l.length a = .ok (l, a + 12 * l.length) := by
  intro l
  induction l with
  | nil => intro a _ _; rfl
  | cons r t ih =>
    intro a h hl
    rw [List.flatMap_cons, At.app, encR_len] at h
    simp only [List.all_cons, Bool.and_eq_true] at hl
    have h1 := eNums_at (l := nums r) h.1 (okR_nums hl.1)
    rw [nums_len] at h1
    simp only [List.length_cons, eRaws]
    rw [h1]
    simp only
    rw [ih h.2 hl.2]
    simp only [r6_nums]
    congr 2
    omega
theorem at_eRaws {b : List UInt8} : ∀ {k a : Nat} {l : List R6} {a' : Nat}, a ≤ b.length → eRaws b k a = .ok (l, a') → At b a (l.flatMap encR) ∧ l.length = k ∧ a' = a + 12 * k ∧ l.all okR = true := by
  intro k
  induction k with
  | zero => intro a l a' hl h; simp only [eRaws] at h; cases h; exact ⟨At.nil hl, rfl, rfl, rfl⟩
  | succ k ih =>
    intro a l a' hl h
    simp only [eRaws] at h
    cases h1 : eNums b 6 a with
    | error e => rw [h1] at h; cases h
    | ok x =>
      obtain ⟨v, a1⟩ := x
      rw [h1] at h
      simp only at h
      obtain ⟨g1, g2, rfl, g3⟩ := at_eNums hl h1
      have g1' : At b a (encR (r6 v)) := by rw [encR, nums_r6 g2]; exact g1
      have g4 := g1'.len
      rw [encR_len] at g4
      cases h2 : eRaws b k (a + 2 * 6) with
      | error e => rw [h2] at h; cases h
      | ok y =>
        obtain ⟨m, a2⟩ := y
        rw [h2] at h
        cases h
        obtain ⟨k1, rfl, rfl, k2⟩ := ih g4 h2
        rw [List.flatMap_cons, At.app, encR_len]
        refine ⟨⟨g1', k1⟩, rfl, by omega, ?_⟩
        simp only [List.all_cons, Bool.and_eq_true]
        refine ⟨?_, k2⟩
        rw [okR, nums_r6 g2]
        exact List.all_eq_true.2 fun x hx => by have := g3 x hx; simp [okN]; omega

/-- Clauses, behind what is there, from a place on. -/
def clsB (n : Nat) (cls : List R6) : List UInt8 := List.replicate ((4 - n % 4) % 4) 0 ++ [1, UInt8.ofNat cls.length, 0, 0] ++ cls.flatMap encR
theorem clsB_len (n : Nat) (cls : List R6) : (clsB n cls).length = (4 - n % 4) % 4 + 4 + 12 * cls.length := by
  simp only [clsB, List.length_append, List.length_replicate, encs_len, List.length_cons, List.length_nil]
theorem eClauses_at {b : List UInt8} {fr a : Nat} {cls : List R6} (h : At b a (clsB (a - fr) cls)) (h1 : 1 ≤ cls.length) (h6 : cls.length ≤ 6) (hok : cls.all okR = true) : eClauses b fr a = .ok (cls, a + (clsB (a - fr) cls).length) := by
  have hlen : (clsB (a - fr) cls).length = (4 - (a - fr) % 4) % 4 + 4 + 12 * cls.length := clsB_len _ _
  rw [hlen]
  unfold clsB at h
  rw [At.app, At.app, At.cons4] at h
  simp only [List.length_append, List.length_replicate, List.length_cons, List.length_nil] at h
  obtain ⟨⟨p0, p1, p2, p3, p4⟩, p5⟩ := h
  unfold eClauses
  rw [ePad_at p0]
  simp only
  have m1 := eMust_at (c := 1) p1 (by omega)
  have m3 := eMust_at (c := 0) p3 (by omega)
  have m4 := eMust_at (c := 0) p4 (by omega)
  have hp := putB_small cls.length
  rw [Nat.mod_eq_of_lt (by omega)] at hp
  rw [← hp] at p2
  have m2 := eNum_at p2 (by omega) (by omega)
  simp only [show ((1 : Nat) : Int) = 1 from rfl, show ((0 : Nat) : Int) = 0 from rfl] at m1 m3 m4
  rw [m1]
  simp only
  rw [m2]
  simp only
  rw [if_neg (by omega), m3]
  simp only
  rw [m4]
  simp only [Int.toNat_natCast]
  rw [eRaws_at (by simpa [Nat.add_assoc] using p5) hok]
  congr 2
  omega
theorem at_eClauses {b : List UInt8} {fr a : Nat} {cls : List R6} {a' : Nat} (hl : a ≤ b.length) (h : eClauses b fr a = .ok (cls, a')) :
    At b a (clsB (a - fr) cls) ∧ 1 ≤ cls.length ∧ cls.length ≤ 6 ∧ cls.all okR = true ∧ a' = a + (clsB (a - fr) cls).length := by
  unfold eClauses at h
  cases h1 : ePad b ((4 - (a - fr) % 4) % 4) a with
  | error e => rw [h1] at h; cases h
  | ok a1 =>
  rw [h1] at h
  simp only at h
  obtain ⟨p0, rfl⟩ := at_ePad hl h1
  cases h2 : eMust b (a + (4 - (a - fr) % 4) % 4) 1 with
  | error e => rw [h2] at h; cases h
  | ok a2 =>
  rw [h2] at h
  simp only at h
  obtain ⟨p1, rfl⟩ := at_eMust (c := 1) (by omega) h2
  cases h3 : eNum b (a + (4 - (a - fr) % 4) % 4 + 1) 1 with
  | error e => rw [h3] at h; cases h
  | ok x =>
  obtain ⟨n, a3⟩ := x
  rw [h3] at h
  simp only at h
  obtain ⟨p2, rfl, n0, n1⟩ := at_eNum h3
  by_cases hn : n < 1 ∨ 6 < n
  · rw [if_pos hn] at h; cases h
  rw [if_neg hn] at h
  cases h4 : eMust b (a + (4 - (a - fr) % 4) % 4 + 1 + 1) 0 with
  | error e => rw [h4] at h; cases h
  | ok a4 =>
  rw [h4] at h
  simp only at h
  obtain ⟨p3, rfl⟩ := at_eMust (c := 0) (by omega) h4
  cases h5 : eMust b (a + (4 - (a - fr) % 4) % 4 + 1 + 1 + 1) 0 with
  | error e => rw [h5] at h; cases h
  | ok a5 =>
  rw [h5] at h
  simp only at h
  obtain ⟨p4, rfl⟩ := at_eMust (c := 0) (by omega) h5
  have l5 := p4.len
  obtain ⟨N, rfl⟩ : ∃ N : Nat, n = N := ⟨n.toNat, by omega⟩
  simp only [Int.toNat_natCast] at h
  obtain ⟨p5, rfl, rfl, hok⟩ := at_eRaws (by simpa using l5) h
  have hlen : (clsB (a - fr) cls).length = (4 - (a - fr) % 4) % 4 + 4 + 12 * cls.length := clsB_len _ _
  refine ⟨?_, by omega, by omega, hok, by rw [hlen]; omega⟩
  have hp := putB_small cls.length
  rw [Nat.mod_eq_of_lt (by omega)] at hp
  rw [hp] at p2
  unfold clsB
  rw [At.app, At.app, At.cons4]
  simp only [List.length_append, List.length_replicate, List.length_cons, List.length_nil]
  exact ⟨⟨p0, p1, p2, p3, p4⟩, by simpa [Nat.add_assoc] using p5⟩

theorem headB_at {b : List UInt8} {a c : Nat} {code : List UInt8} : At b a (headB c code) ↔ At b a [UInt8.ofNat c] ∧ At b (a + 1) (List.replicate 3 0) ∧ At b (a + 4) (putB code.length 4) ∧ At b (a + 8) code := by
  unfold headB
  rw [At.app, At.app, At.cons, show ([0, 0, 0] : List UInt8) = List.replicate 3 0 from rfl]
  simp [putB_length, and_assoc, Nat.add_assoc]
theorem headB_len (c : Nat) (code : List UInt8) : (headB c code).length = 8 + code.length := by simp [headB, putB_length]; omega
theorem writeB_cls {code : List UInt8} {cls : List R6} (h : cls ≠ []) : writeB code cls = headB 11 code ++ clsB (8 + code.length) cls := by
  unfold writeB
  rw [if_neg h, padL, headB_len, clsB]
  simp

theorem eBody_at {b : List UInt8} {fr : Nat} {code : List UInt8} {cls : List R6} (h : At b fr (writeB code cls)) (h4 : fr % 4 = 0) (hr : rightB code cls = true) : eBody b fr = .ok ((code, cls), fr + (writeB code cls).length) := by
  have hr' : 1 ≤ code.length ∧ code.length ≤ 65535 ∧ cls.length ≤ 6 ∧ cls.all okR = true := by simpa [rightB] using hr
  obtain ⟨c1, c2, c3, c4⟩ := hr'
  unfold eBody
  by_cases hc : cls = []
  · subst hc
    by_cases hs : code.length < 64
    · have hw : writeB code [] = UInt8.ofNat (4 * code.length + 2) :: code := by simp [writeB, hs]
      rw [hw] at h ⊢
      rw [At.cons] at h
      have hp := putB_small (4 * code.length + 2)
      rw [Nat.mod_eq_of_lt (by omega)] at hp
      rw [← hp] at h
      rw [eNum_at h.1 (by omega) (by omega)]
      simp only
      rw [if_pos (by omega), show ((4 * code.length + 2 : Nat) : Int) / 4 = code.length by omega, eCode_at h.2 c1 c2]
      simp
      omega
    · have hw : writeB code [] = headB 3 code := by simp [writeB, hs]
      rw [hw] at h ⊢
      rw [headB_at] at h
      obtain ⟨p1, p2, p3, p4⟩ := h
      have m1 := eNum_at (x := ((3 : Nat) : Int)) (n := 1) (by rw [putB_small]; exact p1) (by omega) (by omega)
      rw [m1]
      simp only
      rw [if_neg (by omega), if_neg (by omega), ePad_at p2]
      simp only
      rw [eNum_at p3 (by omega) (by omega)]
      simp only
      rw [eCode_at p4 c1 c2]
      simp [hs, headB_len]
      omega
  · have hw := writeB_cls (code := code) hc
    rw [hw] at h ⊢
    rw [At.app, headB_at, headB_len] at h
    obtain ⟨⟨p1, p2, p3, p4⟩, p5⟩ := h
    have hne : 1 ≤ cls.length := by cases cls with | nil => exact absurd rfl hc | cons _ _ => simp
    have m1 := eNum_at (x := ((11 : Nat) : Int)) (n := 1) (by rw [putB_small]; exact p1) (by omega) (by omega)
    rw [m1]
    simp only
    rw [if_neg (by omega), if_neg (by omega), ePad_at p2]
    simp only
    rw [eNum_at p3 (by omega) (by omega)]
    simp only
    rw [eCode_at p4 c1 c2]
    have e1 : fr + 8 + code.length - fr = 8 + code.length := by omega
    have := eClauses_at (b := b) (fr := fr) (a := fr + 8 + code.length) (cls := cls) (by rw [e1]; simpa [Nat.add_assoc] using p5) hne c3 c4
    simp only
    rw [if_pos (by omega), this]
    simp only [e1, List.length_append, headB_len]
    congr 2
    omega

theorem at_eBody {b : List UInt8} {fr : Nat} {code : List UInt8} {cls : List R6} {a : Nat} (h : eBody b fr = .ok ((code, cls), a)) : rightB code cls = true ∧ At b fr (writeB code cls) ∧ a = fr + (writeB code cls).length := by
  unfold eBody at h
  cases h1 : eNum b fr 1 with
  | error e => rw [h1] at h; cases h
  | ok x =>
  obtain ⟨c, a1⟩ := x
  rw [h1] at h
  simp only at h
  obtain ⟨p1, rfl, c0, c1⟩ := at_eNum h1
  obtain ⟨C, rfl⟩ : ∃ C : Nat, c = C := ⟨c.toNat, by omega⟩
  have hp := putB_small C
  rw [Nat.mod_eq_of_lt (by omega)] at hp
  rw [hp] at p1
  by_cases h2 : (C : Int) % 4 = 2
  · rw [if_pos h2] at h
    cases h3 : eCode b (fr + 1) ((C : Int) / 4) with
    | error e => rw [h3] at h; cases h
    | ok y =>
      obtain ⟨l, a2⟩ := y
      rw [h3] at h
      cases h
      obtain ⟨q1, rfl, q2, q3, q4⟩ := at_eCode h3
      have hs : code.length < 64 := by omega
      have hw : writeB code [] = UInt8.ofNat (4 * code.length + 2) :: code := by simp [writeB, hs]
      rw [hw, At.cons]
      refine ⟨by simp [rightB, q3, q4], ⟨?_, q1⟩, by simp; omega⟩
      rw [show 4 * code.length + 2 = C by omega]
      exact p1
  rw [if_neg h2] at h
  by_cases h3 : ¬ (((C : Int) = 3 ∨ (C : Int) = 11) ∧ fr % 4 = 0)
  · rw [if_pos h3] at h; cases h
  rw [if_neg h3] at h
  have l1 := p1.len
  cases h4 : ePad b 3 (fr + 1) with
  | error e => rw [h4] at h; cases h
  | ok a2 =>
  rw [h4] at h
  simp only at h
  obtain ⟨p2, rfl⟩ := at_ePad (by simpa using l1) h4
  cases h5 : eNum b (fr + 1 + 3) 4 with
  | error e => rw [h5] at h; cases h
  | ok x =>
  obtain ⟨n, a3⟩ := x
  rw [h5] at h
  simp only at h
  obtain ⟨p3, rfl, n0, n1⟩ := at_eNum h5
  cases h6 : eCode b (fr + 1 + 3 + 4) n with
  | error e => rw [h6] at h; cases h
  | ok y =>
  obtain ⟨l, a4⟩ := y
  rw [h6] at h
  simp only at h
  obtain ⟨q1, rfl, rfl, q3, q4⟩ := at_eCode h6
  have hH : ∀ c, C = c → At b fr (headB c l) := fun c e => by
    subst e
    rw [headB_at]
    exact ⟨p1, p2, p3, q1⟩
  by_cases h7 : (C : Int) = 11
  · rw [if_pos h7] at h
    cases h8 : eClauses b fr (fr + 1 + 3 + 4 + l.length) with
    | error e => rw [h8] at h; cases h
    | ok z =>
      obtain ⟨rs, a5⟩ := z
      rw [h8] at h
      cases h
      have l2 := q1.len
      obtain ⟨r1, r2, r3, r4, rfl⟩ := at_eClauses l2 h8
      have hne : cls ≠ [] := by rintro rfl; simp at r2
      have e1 : fr + 1 + 3 + 4 + code.length - fr = 8 + code.length := by omega
      rw [e1] at r1 ⊢
      rw [writeB_cls hne, At.app, headB_len]
      refine ⟨by simp only [rightB, Bool.and_eq_true, decide_eq_true_eq]; exact ⟨q3, q4, r3, r4⟩, ⟨hH 11 (by omega), by simpa [Nat.add_assoc] using r1⟩, by simp only [List.length_append, headB_len]; omega⟩
  · rw [if_neg h7] at h
    by_cases h8 : l.length < 64
    · rw [if_pos h8] at h; cases h
    · rw [if_neg h8] at h
      cases h
      have hw : writeB code [] = headB 3 code := by simp [writeB, h8]
      rw [hw]
      exact ⟨by simp [rightB, q3, q4], hH 3 (by omega), by simp only [headB_len]; omega⟩

end Go.Proofs.Ytnkjbgcbchbonaa
