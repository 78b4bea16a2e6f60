/- Chapter 05, plain law: types, signatures, locals as bytes, there and back. -/
import Derived.Test.YtplphldpkliakaaTy
import Derived.Test.YtplphldpkliakaaPk
import Derived.Test.YtplphldpkliakaaLe
import Derived.Test.YtplphldpkliakaaRows1
set_option linter.unusedSimpArgs false
set_option linter.unusedVariables false
set_option maxRecDepth 100000
set_option maxHeartbeats 3200000
namespace Go.Proofs.Ytplphldpkliakaa
namespace Sg
open Go Go.AW

/-! reading -/
def eB (b : List UInt8) (a : Nat) : Except Int (UInt8 × Nat) := if a < b.length then .ok (b.getD a 0, a + 1) else .error 1
def ePk (b : List UInt8) (a : Nat) : Except Int (Int × Nat) := if (upk (b.drop a)).2.2 = 0 then .ok ((upk (b.drop a)).1, a + (upk (b.drop a)).2.1.toNat) else .error (upk (b.drop a)).2.2
def ixOk (n : Int) : Bool := decide ((codedS n).2.2 = 0) && (decide ((codedS n).1 = 0) && decide ((codedS n).2.1 ≤ 32))
def eIx (b : List UInt8) (a : Nat) : Except Int (Int × Nat) :=
  match ePk b a with
  | .error e => .error e
  | .ok (n, a') => if ixOk n = true then .ok ((codedS n).2.1 - 1, a') else .error 5
def eFt (b : List UInt8) (a : Nat) : Except Int (Int × Nat) :=
  match ePk b a with
  | .error e => .error e
  | .ok (n, a') => if n ≤ 7 then .ok (n, a') else .error 5
def mkT (k : Int) (rf : Bool) (d : Nat) (x : Except Int (Int × Nat)) : Except Int (Ty × Nat) :=
  match x with
  | .error e => .error e
  | .ok (n, a') => .ok (⟨k, n, d, rf⟩, a')
/-- A type's kind. -/
def eKd (b : List UInt8) (rf : Bool) (d : Nat) (c : UInt8) (a : Nat) : Except Int (Ty × Nat) :=
  if c = 1 then (if rf = true ∨ 0 < d then .error 2 else .ok (⟨1, 0, 0, false⟩, a)) else
  if c = 8 then .ok (⟨2, 0, d, rf⟩, a) else if c = 10 then .ok (⟨3, 0, d, rf⟩, a) else if c = 28 then .ok (⟨4, 0, d, rf⟩, a) else
  if c = 18 then mkT 5 rf d (eIx b a) else if c = 17 then mkT 6 rf d (eIx b a) else if c = 19 then mkT 7 rf d (eFt b a) else .error 2
/-- Behind a byte: the dimensions that follow. -/
def eDm (b : List UInt8) (rf : Bool) : Nat → Nat → UInt8 → Nat → Except Int (Ty × Nat)
  | 0, d, c, a => if c = 29 then .error 6 else eKd b rf d c a
  | f + 1, d, c, a => if c = 29 then
      match eB b a with
      | .error e => .error e
      | .ok (c', a') => eDm b rf f (d + 1) c' a'
    else eKd b rf d c a
def eTy (b : List UInt8) (a : Nat) : Except Int (Ty × Nat) :=
  match eB b a with
  | .error e => .error e
  | .ok (c, a') => if c = 16 then
      match eB b a' with
      | .error e => .error e
      | .ok (c2, a2) => eDm b true 3 0 c2 a2
    else eDm b false 3 0 c a'
/-- A type that may stand there. -/
def eMay (ok : Ty → Bool) (b : List UInt8) (a : Nat) : Except Int (Ty × Nat) :=
  match eTy b a with
  | .error e => .error e
  | .ok (t, a') => if ok t = true then .ok (t, a') else .error 10
def eList (b : List UInt8) : Nat → Nat → Except Int (List Ty × Nat)
  | 0, a => .ok ([], a)
  | k + 1, a => match eMay localT b a with
    | .error e => .error e
    | .ok (t, a') => match eList b k a' with
      | .error e => .error e
      | .ok (l, a2) => .ok (t :: l, a2)
def eEnd {α : Type} (b : List UInt8) (x : Except Int (α × Nat)) : Except Int α :=
  match x with
  | .error e => .error e
  | .ok (v, a) => if a < b.length then .error 2 else .ok v
def getS (b : List UInt8) : Except Int Ty := eEnd b (eTy b 0)
structure Sg where
  this : Bool
  ps : List Ty
  ret : Ty
def eSig (b : List UInt8) : Except Int (Sg × Nat) :=
  match eB b 0 with
  | .error e => .error e
  | .ok (c, a) => if c = 0 ∨ c = 32 then
      match ePk b a with
      | .error e => .error e
      | .ok (n, a1) => if n ≤ 6 then
          match eMay answerT b a1 with
          | .error e => .error e
          | .ok (t, a2) => match eList b n.toNat a2 with
            | .error e => .error e
            | .ok (l, a3) => .ok (⟨decide (c = 32), l, t⟩, a3)
        else .error 4
    else .error 2
def sigS (b : List UInt8) : Except Int Sg := eEnd b (eSig b)
def eLoc (b : List UInt8) : Except Int (List Ty × Nat) :=
  match eB b 0 with
  | .error e => .error e
  | .ok (c, a) => if c = 7 then
      match ePk b a with
      | .error e => .error e
      | .ok (n, a1) => if n ≤ 12 then eList b n.toNat a1 else .error 4
    else .error 2
def locS (b : List UInt8) : Except Int (List Ty) := eEnd b (eLoc b)
def fldS (b : List UInt8) : Except Int Ty :=
  match b with
  | [] => .error 1
  | c :: r => if c = 6 then
      match getS r with
      | .error e => .error e
      | .ok t => if fieldT' t = true then .ok t else .error 10
    else .error 2

/-! writing -/
def kdB (t : Ty) : List UInt8 :=
  if t.kind = 1 then [1] else if t.kind = 2 then [8] else if t.kind = 3 then [10] else if t.kind = 4 then [28] else
  if t.kind = 5 then 18 :: packL (4 * (t.index + 1)) else if t.kind = 6 then 17 :: packL (4 * (t.index + 1)) else 19 :: packL t.index
def tyB (t : Ty) : List UInt8 := (if t.ref = true then [16] else []) ++ (List.replicate t.dims.toNat 29 ++ kdB t)
def lsB (l : List Ty) : List UInt8 := l.flatMap tyB
def sgB (s : Sg) : List UInt8 := (if s.this = true then 32 else 0) :: (UInt8.ofNat s.ps.length :: (tyB s.ret ++ lsB s.ps))
def putSig (s : Sg) : Except Int (List UInt8) := if 6 < s.ps.length then .error 4 else if s.ps.all localT && answerT s.ret then .ok (sgB s) else .error 17
def lcB (l : List Ty) : List UInt8 := 7 :: (UInt8.ofNat l.length :: lsB l)
def putLoc (l : List Ty) : Except Int (List UInt8) := if 12 < l.length then .error 4 else if l.all localT then .ok (lcB l) else .error 17

/-! there and back -/
theorem eB_at {b : List UInt8} {a : Nat} {c : UInt8} (h : At b a [c]) : eB b a = .ok (c, a + 1) := by
  obtain ⟨h1, h2⟩ := h
  have h3 : a < b.length := by simp at h1; omega
  have h4 : ((b.drop a).take 1)[0]? = some c := by
    have : (b.drop a).take 1 = [c] := h2
    rw [this]; rfl
  rw [List.getElem?_take_of_lt (by omega), List.getElem?_drop, Nat.add_zero] at h4
  unfold eB
  rw [if_pos h3, List.getD_eq_getElem?_getD, h4]; rfl
theorem at_eB {b : List UInt8} {a : Nat} {c : UInt8} {a' : Nat} (h : eB b a = .ok (c, a')) : At b a [c] ∧ a' = a + 1 := by
  unfold eB at h
  split at h
  · rename_i h1
    cases h
    refine ⟨⟨by simp; omega, ?_⟩, rfl⟩
    show (b.drop a).take 1 = [b.getD a 0]
    rw [List.drop_eq_getElem_cons h1, List.getD_eq_getElem?_getD, List.getElem?_eq_getElem h1]
    rfl
  · cases h
theorem at_drop {b : List UInt8} {a : Nat} {s : List UInt8} (h : At b a s) : b.drop a = s ++ b.drop (a + s.length) := by
  have h2 := h.2
  unfold Proofs.Ytplphldpkliakaa.sg at h2
  have h3 : b.drop a = (b.drop a).take s.length ++ (b.drop a).drop s.length := (List.take_append_drop _ _).symm
  rw [h2, List.drop_drop] at h3
  exact h3
theorem ePk_at {b : List UInt8} {a : Nat} {n : Int} (h0 : 0 ≤ n) (h1 : n ≤ 536870911) (h : At b a (packL n)) : ePk b a = .ok (n, a + (packL n).length) := by
  have h2 := upk_app (packL n) (b.drop (a + (packL n).length)) n (sizeI n) (upk_pack n h0 h1)
  rw [← at_drop h] at h2
  unfold ePk
  rw [h2]
  simp [packL, beL_length]
theorem at_ePk {b : List UInt8} {a : Nat} {n : Int} {a' : Nat} (h : ePk b a = .ok (n, a')) : 0 ≤ n ∧ n ≤ 536870911 ∧ At b a (packL n) ∧ a' = a + (packL n).length := by
  unfold ePk at h
  split at h
  · rename_i he
    obtain ⟨⟨x, k, e⟩, hu⟩ : ∃ t, upk (b.drop a) = t := ⟨_, rfl⟩
    rw [hu] at h he
    simp only at he
    subst he
    simp only [Except.ok.injEq, Prod.mk.injEq] at h
    obtain ⟨rfl, rfl⟩ := h
    obtain ⟨h1, h2, h3, h4, h5, h6⟩ := upk_one _ _ _ hu
    have hl : (packL x).length = k.toNat := by simp [packL, beL_length, h3]
    have hab : a < b.length := by
      rcases Nat.lt_or_ge a b.length with h | h
      · exact h
      · rw [List.drop_eq_nil_of_le h] at hu; simp [upk] at hu
    refine ⟨h1, h2, ⟨?_, ?_⟩, by rw [hl]⟩
    · simp at h5; omega
    · unfold Proofs.Ytplphldpkliakaa.sg; rw [hl, h6]
  · cases h
theorem coded_row {n : Int} (h : ixOk n = true) : n = 4 * ((codedS n).2.1 - 1 + 1) ∧ 1 ≤ (codedS n).2.1 ∧ (codedS n).2.1 ≤ 32 := by
  unfold ixOk codedS at h
  unfold codedS
  split
  · rename_i h1; rw [if_pos h1] at h; simp at h
  rename_i h1
  rw [if_neg h1] at h
  split
  · rename_i h2; rw [if_pos h2] at h; simp at h
  rename_i h2
  rw [if_neg h2] at h
  split
  · rename_i h3; rw [if_pos h3] at h; simp at h ⊢; omega
  rename_i h3
  rw [if_neg h3] at h
  split
  · rename_i h4; rw [if_pos h4] at h; simp at h
  · rename_i h4; rw [if_neg h4] at h; simp at h
theorem row_coded {i : Int} (h0 : 0 ≤ i) (h1 : i < 32) : ixOk (4 * (i + 1)) = true ∧ (codedS (4 * (i + 1))).2.1 = i + 1 := by
  have h : codedS (4 * (i + 1)) = (0, i + 1, 0) := by
    unfold codedS
    rw [if_neg (by omega), if_neg (by omega), if_pos (by omega)]
    congr 2
    omega
  unfold ixOk
  rw [h]
  simp; omega
theorem coded_min (n : Int) : codedS (if 1048576 < n then 1048576 else n) = codedS n := by
  by_cases h : 1048576 < n
  · rw [if_pos h]
    unfold codedS
    rw [if_neg (by omega), if_pos (by omega), if_neg (by omega), if_pos (by omega)]
  · rw [if_neg h]

theorem plain_cases {t : Ty} (h : plainT t = true) : 0 ≤ t.dims ∧ t.dims ≤ 3 ∧ 0 ≤ t.index ∧ ((t.kind = 1 ∧ t.dims = 0 ∧ t.ref = false ∧ t.index = 0) ∨ (t.kind = 2 ∧ t.index = 0) ∨ (t.kind = 3 ∧ t.index = 0) ∨ (t.kind = 4 ∧ t.index = 0) ∨
    (t.kind = 5 ∧ t.index < 32) ∨ (t.kind = 6 ∧ t.index < 32) ∨ (t.kind = 7 ∧ t.index ≤ 7)) := by
  unfold plainT at h
  split at h
  · cases h
  refine ⟨by omega, by omega, by omega, ?_⟩
  split at h
  · simp at h; exact .inl ⟨by assumption, h⟩
  split at h
  · simp at h; rename_i h1; omega
  split at h
  · simp at h; rename_i h1; omega
  split at h
  · simp at h; omega
  · cases h
theorem cases_plain {t : Ty} (h0 : 0 ≤ t.dims) (h1 : t.dims ≤ 3) (h2 : 0 ≤ t.index) (h : (t.kind = 1 ∧ t.dims = 0 ∧ t.ref = false ∧ t.index = 0) ∨ (t.kind = 2 ∧ t.index = 0) ∨ (t.kind = 3 ∧ t.index = 0) ∨ (t.kind = 4 ∧ t.index = 0) ∨
    (t.kind = 5 ∧ t.index < 32) ∨ (t.kind = 6 ∧ t.index < 32) ∨ (t.kind = 7 ∧ t.index ≤ 7)) : plainT t = true := by
  unfold plainT
  rw [if_neg (by omega)]
  rcases h with h | h | h | h | h | h | h
  · rw [if_pos h.1]; simp [h.2]
  all_goals
    rw [if_neg (by omega)]
    first
    | (rw [if_pos (by omega)]; simp; omega)
    | (rw [if_neg (by omega), if_pos (by omega)]; simp; omega)
    | (rw [if_neg (by omega), if_neg (by omega), if_pos (by omega)]; simp; omega)

/-- A kind's bytes are read. -/
theorem kd_at {b : List UInt8} {a : Nat} {t : Ty} (h : plainT t = true) (hat : At b a (kdB t)) : ∃ c r, kdB t = c :: r ∧ c ≠ 29 ∧ c ≠ 16 ∧ eKd b t.ref t.dims.toNat c (a + 1) = .ok (t, a + (kdB t).length) := by
  obtain ⟨d0, d3, i0, hk⟩ := plain_cases h
  obtain ⟨k, i, d, rf⟩ := t
  simp only at d0 d3 i0 hk hat ⊢
  obtain ⟨dn, rfl⟩ : ∃ n : Nat, d = n := ⟨d.toNat, by omega⟩
  rw [Int.toNat_natCast]
  rcases hk with ⟨rfl, hd, rfl, rfl⟩ | ⟨rfl, rfl⟩ | ⟨rfl, rfl⟩ | ⟨rfl, rfl⟩ | ⟨rfl, hi⟩ | ⟨rfl, hi⟩ | ⟨rfl, hi⟩
  · obtain rfl : dn = 0 := by omega
    exact ⟨1, [], rfl, by decide, by decide, rfl⟩
  · exact ⟨8, [], rfl, by decide, by decide, rfl⟩
  · exact ⟨10, [], rfl, by decide, by decide, rfl⟩
  · exact ⟨28, [], rfl, by decide, by decide, rfl⟩
  · refine ⟨18, packL (4 * (i + 1)), rfl, by decide, by decide, ?_⟩
    have hat : At b a (18 :: packL (4 * (i + 1))) := hat
    rw [At.cons] at hat
    have h1 := ePk_at (by omega) (by omega) hat.2
    have h2 := row_coded i0 hi
    show mkT 5 rf dn (eIx b (a + 1)) = _
    unfold eIx
    rw [h1]
    simp only [h2.1, if_true, h2.2, mkT]
    simp [kdB]; omega
  · refine ⟨17, packL (4 * (i + 1)), rfl, by decide, by decide, ?_⟩
    have hat : At b a (17 :: packL (4 * (i + 1))) := hat
    rw [At.cons] at hat
    have h1 := ePk_at (by omega) (by omega) hat.2
    have h2 := row_coded i0 hi
    show mkT 6 rf dn (eIx b (a + 1)) = _
    unfold eIx
    rw [h1]
    simp only [h2.1, if_true, h2.2, mkT]
    simp [kdB]; omega
  · refine ⟨19, packL i, rfl, by decide, by decide, ?_⟩
    have hat : At b a (19 :: packL i) := hat
    rw [At.cons] at hat
    have h1 := ePk_at (by omega) (by omega) hat.2
    show mkT 7 rf dn (eFt b (a + 1)) = _
    unfold eFt
    rw [h1]
    simp only [if_pos hi, mkT]
    simp [kdB]; omega
theorem dm_at {b : List UInt8} {t : Ty} (h : plainT t = true) : ∀ (k f d a : Nat) (c : UInt8) (r : List UInt8), k ≤ f → d + k = t.dims.toNat → List.replicate k 29 ++ kdB t = c :: r → At b (a + 1) r → At b a [c] →
    eDm b t.ref f d c (a + 1) = .ok (t, a + (k + (kdB t).length)) := by
  intro k
  induction k with
  | zero =>
    intro f d a c r _ hd hc hr ha
    have hat : At b a (kdB t) := by
      have : kdB t = c :: r := by simpa using hc
      rw [this, At.cons]; exact ⟨ha, hr⟩
    obtain ⟨c', r', e1, e2, _, e3⟩ := kd_at h hat
    have e4 : c = c' := by simp [e1] at hc; exact hc.1.symm
    subst e4
    have hd' : d = t.dims.toNat := by omega
    subst hd'
    cases f <;> simp [eDm, e2, e3]
  | succ k ih =>
    intro f d a c r hf hd hc hr ha
    obtain ⟨f, rfl⟩ : ∃ g, f = g + 1 := ⟨f - 1, by omega⟩
    simp only [List.replicate_succ, List.cons_append, List.cons.injEq] at hc
    obtain ⟨rfl, hc⟩ := hc
    have hne : List.replicate k 29 ++ kdB t ≠ [] := by
      intro e
      have := congrArg List.length e
      simp at this
      have h2 : kdB t ≠ [] := by
        unfold kdB
        split <;> (try split) <;> (try split) <;> (try split) <;> (try split) <;> (try split) <;> simp
      exact h2 this.2
    obtain ⟨c2, r2, e2⟩ : ∃ c2 r2, List.replicate k 29 ++ kdB t = c2 :: r2 := by
      cases hx : List.replicate k 29 ++ kdB t with
      | nil => exact absurd hx hne
      | cons c2 r2 => exact ⟨c2, r2, rfl⟩
    rw [← hc, e2, At.cons] at hr
    have h1 := eB_at hr.1
    have h2 := ih f (d + 1) (a + 1) c2 r2 (by omega) (by omega) e2 hr.2 hr.1
    simp only [eDm, if_true, h1, h2]
    congr 2
    omega
/-- A TYPE's BYTES ARE READ. -/
theorem ty_at {b : List UInt8} {a : Nat} {t : Ty} (h : plainT t = true) (hat : At b a (tyB t)) : eTy b a = .ok (t, a + (tyB t).length) := by
  obtain ⟨d0, d3, _, _⟩ := plain_cases h
  have hs : ∃ c r, List.replicate t.dims.toNat 29 ++ kdB t = c :: r ∧ c ≠ 16 := by
    cases hn : t.dims.toNat with
    | zero =>
      have hk : ∃ c r, kdB t = c :: r ∧ c ≠ 16 := by
        unfold kdB
        split
        · exact ⟨_, _, rfl, by decide⟩
        split
        · exact ⟨_, _, rfl, by decide⟩
        split
        · exact ⟨_, _, rfl, by decide⟩
        split
        · exact ⟨_, _, rfl, by decide⟩
        split
        · exact ⟨_, _, rfl, by decide⟩
        split
        · exact ⟨_, _, rfl, by decide⟩
        · exact ⟨_, _, rfl, by decide⟩
      simpa using hk
    | succ k => exact ⟨29, List.replicate k 29 ++ kdB t, by simp [List.replicate_succ], by decide⟩
  obtain ⟨c, r, e1, e2⟩ := hs
  have hl : (tyB t).length = (if t.ref = true then 1 else 0) + (t.dims.toNat + (kdB t).length) := by
    unfold tyB; cases t.ref <;> simp <;> omega
  unfold tyB at hat
  unfold eTy
  by_cases hr : t.ref = true
  · rw [if_pos hr, e1, List.cons_append, List.nil_append, At.cons, At.cons (c := c)] at hat
    obtain ⟨h1, h2, h3⟩ := hat
    have q1 := eB_at h1
    have q2 := eB_at h2
    have q3 := dm_at h t.dims.toNat 3 0 (a + 1) c r (by omega) (by omega) e1 h3 h2
    rw [hr] at q3
    rw [if_pos hr] at hl
    simp only [q1, if_true, q2, q3, hl]
    congr 2
    omega
  · have hr' : t.ref = false := by simpa using hr
    rw [if_neg hr, e1, List.nil_append, At.cons] at hat
    obtain ⟨h1, h2⟩ := hat
    have q1 := eB_at h1
    have q3 := dm_at h t.dims.toNat 3 0 a c r (by omega) (by omega) e1 h2 h1
    rw [hr'] at q3
    rw [if_neg hr] at hl
    simp only [q1, if_neg e2, q3, hl]
    congr 2
    omega

theorem ix_at {b : List UInt8} {a : Nat} {i : Int} {a' : Nat} (h : eIx b a = .ok (i, a')) : 0 ≤ i ∧ i < 32 ∧ At b a (packL (4 * (i + 1))) ∧ a' = a + (packL (4 * (i + 1))).length := by
  unfold eIx at h
  cases hp : ePk b a with
  | error e => rw [hp] at h; cases h
  | ok y =>
    obtain ⟨n, a1⟩ := y
    rw [hp] at h
    simp only at h
    split at h
    · rename_i hx
      cases h
      obtain ⟨q1, q2, q3⟩ := coded_row hx
      obtain ⟨p1, p2, p3, p4⟩ := at_ePk hp
      rw [← q1]
      exact ⟨by omega, by omega, p3, p4⟩
    · cases h
theorem ft_at {b : List UInt8} {a : Nat} {i : Int} {a' : Nat} (h : eFt b a = .ok (i, a')) : 0 ≤ i ∧ i ≤ 7 ∧ At b a (packL i) ∧ a' = a + (packL i).length := by
  unfold eFt at h
  cases hp : ePk b a with
  | error e => rw [hp] at h; cases h
  | ok y =>
    obtain ⟨n, a1⟩ := y
    rw [hp] at h
    simp only at h
    split at h
    · rename_i hx
      cases h
      obtain ⟨p1, p2, p3, p4⟩ := at_ePk hp
      exact ⟨p1, hx, p3, p4⟩
    · cases h
/-- What was read as a kind. -/
theorem at_kd {b : List UInt8} {rf : Bool} {d : Nat} {c : UInt8} {a : Nat} {t : Ty} {a' : Nat} (hd : d ≤ 3) (h : eKd b rf d c (a + 1) = .ok (t, a')) (hc : At b a [c]) :
    plainT t = true ∧ t.ref = rf ∧ t.dims = d ∧ At b a (kdB t) ∧ a' = a + (kdB t).length := by
  unfold eKd at h
  split at h
  · rename_i e
    subst e
    split at h
    · cases h
    · rename_i e2
      cases h
      have e3 : rf = false ∧ d = 0 := by cases rf <;> simp at e2 ⊢; exact e2
      obtain ⟨rfl, rfl⟩ := e3
      exact ⟨rfl, rfl, rfl, hc, rfl⟩
  split at h
  · rename_i e
    subst e; cases h
    exact ⟨cases_plain (by simp) (by simp; omega) (by simp) (by simp), rfl, rfl, hc, rfl⟩
  split at h
  · rename_i e
    subst e; cases h
    exact ⟨cases_plain (by simp) (by simp; omega) (by simp) (by simp), rfl, rfl, hc, rfl⟩
  split at h
  · rename_i e
    subst e; cases h
    exact ⟨cases_plain (by simp) (by simp; omega) (by simp) (by simp), rfl, rfl, hc, rfl⟩
  split at h
  · rename_i e
    subst e
    cases hx : eIx b (a + 1) with
    | error e => rw [hx] at h; cases h
    | ok y =>
      obtain ⟨i, a1⟩ := y
      rw [hx] at h
      cases h
      obtain ⟨i0, i1, i2, i3⟩ := ix_at hx
      refine ⟨cases_plain (by simp) (by simp; omega) i0 (by simp; omega), rfl, rfl, ?_, ?_⟩
      · show At b a (18 :: packL (4 * (i + 1)))
        rw [At.cons]; exact ⟨hc, i2⟩
      · rw [i3]; simp [kdB]; omega
  split at h
  · rename_i e
    subst e
    cases hx : eIx b (a + 1) with
    | error e => rw [hx] at h; cases h
    | ok y =>
      obtain ⟨i, a1⟩ := y
      rw [hx] at h
      cases h
      obtain ⟨i0, i1, i2, i3⟩ := ix_at hx
      refine ⟨cases_plain (by simp) (by simp; omega) i0 (by simp; omega), rfl, rfl, ?_, ?_⟩
      · show At b a (17 :: packL (4 * (i + 1)))
        rw [At.cons]; exact ⟨hc, i2⟩
      · rw [i3]; simp [kdB]; omega
  split at h
  · rename_i e
    subst e
    cases hx : eFt b (a + 1) with
    | error e => rw [hx] at h; cases h
    | ok y =>
      obtain ⟨i, a1⟩ := y
      rw [hx] at h
      cases h
      obtain ⟨i0, i1, i2, i3⟩ := ft_at hx
      refine ⟨cases_plain (by simp) (by simp; omega) i0 (by simp; omega), rfl, rfl, ?_, ?_⟩
      · show At b a (19 :: packL i)
        rw [At.cons]; exact ⟨hc, i2⟩
      · rw [i3]; simp [kdB]; omega
  · cases h
theorem at_dm {b : List UInt8} {rf : Bool} : ∀ (f d : Nat) (c : UInt8) (a : Nat) (t : Ty) (a' : Nat), d + f = 3 → eDm b rf f d c (a + 1) = .ok (t, a') → At b a [c] →
    plainT t = true ∧ t.ref = rf ∧ ∃ k : Nat, t.dims = ((d + k : Nat) : Int) ∧ At b a (List.replicate k 29 ++ kdB t) ∧ a' = a + (k + (kdB t).length) := by
  intro f
  induction f with
  | zero =>
    intro d c a t a' hd h hc
    simp only [eDm] at h
    split at h
    · cases h
    · obtain ⟨q1, q2, q3, q4, q5⟩ := at_kd (by omega) h hc
      exact ⟨q1, q2, 0, by simpa using q3, by simpa using q4, by simpa using q5⟩
  | succ f ih =>
    intro d c a t a' hd h hc
    simp only [eDm] at h
    split at h
    · rename_i e
      subst e
      cases hb : eB b (a + 1) with
      | error e => rw [hb] at h; cases h
      | ok y =>
        obtain ⟨c', a1⟩ := y
        rw [hb] at h
        simp only at h
        obtain ⟨p1, rfl⟩ := at_eB hb
        obtain ⟨q1, q2, k, q3, q4, q5⟩ := ih (d + 1) c' (a + 1) t a' (by omega) h p1
        refine ⟨q1, q2, k + 1, by rw [q3]; congr 1; omega, ?_, by omega⟩
        rw [List.replicate_succ, List.cons_append, At.cons]
        exact ⟨hc, q4⟩
    · obtain ⟨q1, q2, q3, q4, q5⟩ := at_kd (by omega) h hc
      exact ⟨q1, q2, 0, by simpa using q3, by simpa using q4, by simpa using q5⟩
/-- A TYPE HAS ONE WAY TO BE TOLD. -/
theorem at_ty {b : List UInt8} {a : Nat} {t : Ty} {a' : Nat} (h : eTy b a = .ok (t, a')) : plainT t = true ∧ At b a (tyB t) ∧ a' = a + (tyB t).length := by
  unfold eTy at h
  cases hb : eB b a with
  | error e => rw [hb] at h; cases h
  | ok y =>
    obtain ⟨c, a1⟩ := y
    rw [hb] at h
    simp only at h
    obtain ⟨p1, rfl⟩ := at_eB hb
    have hl : (tyB t).length = (if t.ref = true then 1 else 0) + (t.dims.toNat + (kdB t).length) := by
      unfold tyB; cases t.ref <;> simp <;> omega
    split at h
    · rename_i e
      subst e
      cases hb2 : eB b (a + 1) with
      | error e => rw [hb2] at h; cases h
      | ok y =>
        obtain ⟨c2, a2⟩ := y
        rw [hb2] at h
        simp only at h
        obtain ⟨p2, rfl⟩ := at_eB hb2
        obtain ⟨q1, q2, k, q3, q4, q5⟩ := at_dm 3 0 c2 (a + 1) t a' (by omega) h p2
        have hk : t.dims.toNat = k := by omega
        rw [q2, if_pos rfl] at hl
        refine ⟨q1, ?_, by omega⟩
        unfold tyB
        rw [q2, if_pos rfl, hk, List.cons_append, List.nil_append, At.cons]
        exact ⟨p1, q4⟩
    · obtain ⟨q1, q2, k, q3, q4, q5⟩ := at_dm 3 0 c a t a' (by omega) h p1
      have hk : t.dims.toNat = k := by omega
      rw [q2, if_neg (by simp)] at hl
      refine ⟨q1, ?_, by omega⟩
      unfold tyB
      rw [q2, if_neg (by simp), hk, List.nil_append]
      exact q4

/-! lists, signatures, locals -/
theorem local_plain {t : Ty} (h : localT t = true) : plainT t = true := by unfold localT at h; simp at h; exact h.1
theorem answer_plain {t : Ty} (h : answerT t = true) : plainT t = true := by unfold answerT at h; simp at h; exact h.1
theorem may_at {ok : Ty → Bool} {b : List UInt8} {a : Nat} {t : Ty} (h : plainT t = true) (ho : ok t = true) (hat : At b a (tyB t)) : eMay ok b a = .ok (t, a + (tyB t).length) := by
  unfold eMay
  rw [ty_at h hat]
  simp [ho]
theorem at_may {ok : Ty → Bool} {b : List UInt8} {a : Nat} {t : Ty} {a' : Nat} (h : eMay ok b a = .ok (t, a')) : ok t = true ∧ plainT t = true ∧ At b a (tyB t) ∧ a' = a + (tyB t).length := by
  unfold eMay at h
  cases hx : eTy b a with
  | error e => rw [hx] at h; cases h
  | ok y =>
    obtain ⟨t', a1⟩ := y
    rw [hx] at h
    simp only at h
    split at h
    · cases h; exact ⟨by assumption, at_ty hx⟩
    · cases h
theorem list_at {b : List UInt8} : ∀ (l : List Ty) (a : Nat), (∀ t ∈ l, localT t = true) → At b a (lsB l) → eList b l.length a = .ok (l, a + (lsB l).length) := by
  intro l
  induction l with
  | nil => intro a _ _; rfl
  | cons t r ih =>
    intro a h hat
    have hat : At b a (tyB t ++ lsB r) := hat
    rw [At.app] at hat
    have h1 := h t (by simp)
    have h2 := may_at (ok := localT) (local_plain h1) h1 hat.1
    have h3 := ih _ (fun x hx => h x (by simp [hx])) hat.2
    simp only [List.length_cons, eList, h2, h3]
    simp [lsB]; omega
theorem at_list {b : List UInt8} : ∀ (k a : Nat) (l : List Ty) (a' : Nat), a ≤ b.length → eList b k a = .ok (l, a') → l.length = k ∧ (∀ t ∈ l, localT t = true) ∧ At b a (lsB l) ∧ a' = a + (lsB l).length := by
  intro k
  induction k with
  | zero => intro a l a' ha h; cases h; exact ⟨rfl, by simp, At.nil ha, rfl⟩
  | succ k ih =>
    intro a l a' ha h
    simp only [eList] at h
    cases hx : eMay localT b a with
    | error e => rw [hx] at h; cases h
    | ok y =>
      obtain ⟨t, a1⟩ := y
      rw [hx] at h
      simp only at h
      cases hy : eList b k a1 with
      | error e => rw [hy] at h; cases h
      | ok z =>
        obtain ⟨r, a2⟩ := z
        rw [hy] at h
        cases h
        obtain ⟨p1, p2, p3, rfl⟩ := at_may hx
        obtain ⟨q1, q2, q3, rfl⟩ := ih _ r _ p3.len hy
        refine ⟨by simp [q1], ?_, ?_, ?_⟩
        · intro x hx
          simp at hx
          rcases hx with rfl | hx
          · exact p1
          · exact q2 x hx
        · show At b a (tyB t ++ lsB r)
          rw [At.app]; exact ⟨p3, q3⟩
        · simp [lsB]; omega
theorem pack_small {n : Nat} (h : n < 128) : packL (n : Int) = [UInt8.ofNat n] := by
  rw [packL_1 (n : Int) (by omega) (by omega)]
  congr 2
  omega
theorem end_full {α : Type} {b : List UInt8} {x : Except Int (α × Nat)} {v : α} {a : Nat} (h : x = .ok (v, a)) (ha : b.length ≤ a) : eEnd b x = .ok v := by
  rw [h]; simp [eEnd]; omega
theorem end_inv {α : Type} {b : List UInt8} {x : Except Int (α × Nat)} {v : α} (h : eEnd b x = .ok v) : ∃ a, x = .ok (v, a) ∧ b.length ≤ a := by
  unfold eEnd at h
  split at h
  · cases h
  · split at h
    · cases h
    · cases h; exact ⟨_, rfl, by omega⟩
theorem at_self (b : List UInt8) : At b 0 b := ⟨by simp, by simp [Proofs.Ytplphldpkliakaa.sg]⟩
theorem at_whole {b s : List UInt8} (h : At b 0 s) (hl : b.length ≤ s.length) : s = b := by
  have := h.take
  rw [this, List.take_of_length_le hl]

theorem get_put {t : Ty} (h : plainT t = true) : getS (tyB t) = .ok t := end_full (ty_at h (at_self _)) (by omega)
theorem put_get {b : List UInt8} {t : Ty} (h : getS b = .ok t) : plainT t = true ∧ tyB t = b := by
  obtain ⟨a, h1, h2⟩ := end_inv h
  obtain ⟨p1, p2, p3⟩ := at_ty h1
  exact ⟨p1, at_whole p2 (by omega)⟩
theorem sig_at {s : Sg} (hl : s.ps.length ≤ 6) (h1 : ∀ t ∈ s.ps, localT t = true) (h2 : answerT s.ret = true) : sigS (sgB s) = .ok s := by
  obtain ⟨th, ps, rt⟩ := s
  simp only at hl h1 h2
  have hat := at_self (sgB ⟨th, ps, rt⟩)
  generalize hb : sgB ⟨th, ps, rt⟩ = b at *
  have hbl : b.length = 2 + ((tyB rt).length + (lsB ps).length) := by rw [← hb]; simp [sgB]; omega
  have hs : sgB ⟨th, ps, rt⟩ = (if th = true then 32 else 0) :: (packL (ps.length : Int) ++ (tyB rt ++ lsB ps)) := by
    rw [pack_small (by omega)]; rfl
  have hat2 : At b 0 ((if th = true then 32 else 0) :: (packL (ps.length : Int) ++ (tyB rt ++ lsB ps))) := by rw [← hs, hb]; exact at_self b
  rw [At.cons, At.app, At.app] at hat2
  obtain ⟨q1, q2, q3, q4⟩ := hat2
  have hpl : (packL (ps.length : Int)).length = 1 := by rw [pack_small (by omega)]; rfl
  have r1 := eB_at q1
  have r2 := ePk_at (by omega) (by omega) q2
  rw [hpl] at r2 q3 q4
  have r3 := may_at (ok := answerT) (answer_plain h2) h2 q3
  have r4 := list_at ps _ h1 q4
  refine end_full (a := b.length) ?_ (by omega)
  unfold eSig
  rw [r1]
  have hc : (if th = true then (32 : UInt8) else 0) = 0 ∨ (if th = true then (32 : UInt8) else 0) = 32 := by cases th <;> simp
  simp only [if_pos hc, r2, if_pos (show (ps.length : Int) ≤ 6 by omega), r3, Int.toNat_natCast, r4]
  have ht : decide ((if th = true then (32 : UInt8) else 0) = 32) = th := by cases th <;> decide
  rw [ht, hbl]
  congr 2
  omega
theorem at_sig {b : List UInt8} {s : Sg} (h : sigS b = .ok s) : s.ps.length ≤ 6 ∧ (∀ t ∈ s.ps, localT t = true) ∧ answerT s.ret = true ∧ sgB s = b := by
  obtain ⟨a, h1, h2⟩ := end_inv h
  unfold eSig at h1
  cases hb : eB b 0 with
  | error e => rw [hb] at h1; cases h1
  | ok y =>
    obtain ⟨c, a1⟩ := y
    rw [hb] at h1
    simp only at h1
    split at h1
    rotate_left
    · cases h1
    rename_i hc
    cases hp : ePk b a1 with
    | error e => rw [hp] at h1; cases h1
    | ok y =>
      obtain ⟨n, a2⟩ := y
      rw [hp] at h1
      simp only at h1
      split at h1
      rotate_left
      · cases h1
      rename_i hn
      cases hm : eMay answerT b a2 with
      | error e => rw [hm] at h1; cases h1
      | ok y =>
        obtain ⟨t, a3⟩ := y
        rw [hm] at h1
        simp only at h1
        cases hl : eList b n.toNat a3 with
        | error e => rw [hl] at h1; cases h1
        | ok y =>
          obtain ⟨l, a4⟩ := y
          rw [hl] at h1
          cases h1
          obtain ⟨p1, rfl⟩ := at_eB hb
          obtain ⟨n0, _, p2, rfl⟩ := at_ePk hp
          obtain ⟨p3, p4, p5, rfl⟩ := at_may hm
          obtain ⟨q1, q2, q3, rfl⟩ := at_list _ _ _ _ p5.len hl
          have hnl : n = (l.length : Int) := by omega
          refine ⟨by simp only; omega, q2, p3, ?_⟩
          subst hnl
          have hpl := pack_small (n := l.length) (by omega)
          have hs : sgB ⟨decide (c = 32), l, t⟩ = [c] ++ (packL (l.length : Int) ++ (tyB t ++ lsB l)) := by
            rw [hpl]
            rcases hc with rfl | rfl <;> rfl
          rw [hs]
          refine at_whole ?_ ?_
          · rw [At.app, At.app, At.app]
            exact ⟨p1, p2, p5, q3⟩
          · simp only [List.length_append, List.length_cons, List.length_nil]
            omega
theorem loc_at {l : List Ty} (hl : l.length ≤ 12) (h1 : ∀ t ∈ l, localT t = true) : locS (lcB l) = .ok l := by
  have hat := at_self (lcB l)
  generalize hb : lcB l = b at *
  have hbl : b.length = 2 + (lsB l).length := by rw [← hb]; simp [lcB]; omega
  have hs : lcB l = 7 :: (packL (l.length : Int) ++ lsB l) := by
    rw [pack_small (by omega)]; rfl
  have hat2 : At b 0 (7 :: (packL (l.length : Int) ++ lsB l)) := by rw [← hs, hb]; exact at_self b
  rw [At.cons, At.app] at hat2
  obtain ⟨q1, q2, q3⟩ := hat2
  have hpl : (packL (l.length : Int)).length = 1 := by rw [pack_small (by omega)]; rfl
  have r1 := eB_at q1
  have r2 := ePk_at (by omega) (by omega) q2
  rw [hpl] at r2 q3
  have r4 := list_at l _ h1 q3
  refine end_full (a := b.length) ?_ (by omega)
  unfold eLoc
  rw [r1]
  simp only [if_true, r2, if_pos (show (l.length : Int) ≤ 12 by omega), Int.toNat_natCast, r4]
  rw [hbl]
theorem at_loc {b : List UInt8} {l : List Ty} (h : locS b = .ok l) : l.length ≤ 12 ∧ (∀ t ∈ l, localT t = true) ∧ lcB l = b := by
  obtain ⟨a, h1, h2⟩ := end_inv h
  unfold eLoc at h1
  cases hb : eB b 0 with
  | error e => rw [hb] at h1; cases h1
  | ok y =>
    obtain ⟨c, a1⟩ := y
    rw [hb] at h1
    simp only at h1
    split at h1
    rotate_left
    · cases h1
    rename_i hc
    cases hp : ePk b a1 with
    | error e => rw [hp] at h1; cases h1
    | ok y =>
      obtain ⟨n, a2⟩ := y
      rw [hp] at h1
      simp only at h1
      split at h1
      rotate_left
      · cases h1
      rename_i hn
      obtain ⟨p1, rfl⟩ := at_eB hb
      obtain ⟨n0, _, p2, rfl⟩ := at_ePk hp
      obtain ⟨q1, q2, q3, rfl⟩ := at_list _ _ _ _ p2.len h1
      have hnl : n = (l.length : Int) := by omega
      refine ⟨by omega, q2, ?_⟩
      subst hnl hc
      have hpl := pack_small (n := l.length) (by omega)
      have hs : lcB l = [7] ++ (packL (l.length : Int) ++ lsB l) := by rw [hpl]; rfl
      rw [hs]
      refine at_whole ?_ ?_
      · rw [At.app, At.app]
        exact ⟨p1, p2, q3⟩
      · simp only [List.length_append, List.length_cons, List.length_nil]
        omega

end Sg
end Go.Proofs.Ytplphldpkliakaa
