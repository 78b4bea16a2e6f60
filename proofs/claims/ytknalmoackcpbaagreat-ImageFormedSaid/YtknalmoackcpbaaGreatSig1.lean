/- Chapter 05, plain law: types, signatures, locals as bytes, there and back. -/
import Derived.Test.YtknalmoackcpbaaGreatTy
import Derived.Test.YtknalmoackcpbaaGreatPk
import Derived.Test.YtknalmoackcpbaaGreatLe
import Derived.Test.YtknalmoackcpbaaGreatRows1
import Derived.Test.YtknalmoackcpbaaGreatAwGo
import Derived.Test.YtknalmoackcpbaaGreatRef1
import Derived.Test.YtknalmoackcpbaaGreatAwMut
set_option linter.unusedSimpArgs false
set_option linter.unusedVariables false
set_option maxRecDepth 100000
set_option maxHeartbeats 3200000
namespace Go.Proofs.YtknalmoackcpbaaGreat
namespace Sg
open Go Go.AW
/-! reading -/
def eB (b : List UInt8) (a : Nat) : Except Int (UInt8 × Nat) := if a < b.length then .ok (b.getD a 0, a + 1) else .error 1
def ePk (b : List UInt8) (a : Nat) : Except Int (Int × Nat) := if (upk (b.drop a)).2.2 = 0 then .ok ((upk (b.drop a)).1, a + (upk (b.drop a)).2.1.toNat) else .error (upk (b.drop a)).2.2
def ixOk (n : Int) : Bool := decide ((codedS n).2.2 = 0) && (decide ((codedS n).1 = 0) && decide ((codedS n).2.1 ≤ 32))
def eIx (b : List UInt8) (a : Nat) : Except Int (Int × Nat) :=
  match ePk b a with
  | .error e => .error e
  | .ok (n, a') => if ixOk n = true then .ok ((codedS n).2.1 - 1, a') else .error 5
def eFt (b : List UInt8) (a : Nat) : Except Int (Int × Nat) :=
  match ePk b a with
  | .error e => .error e
  | .ok (n, a') => if n ≤ 7 then .ok (n, a') else .error 5
def mkT (k : Int) (rf : Bool) (d : Nat) (x : Except Int (Int × Nat)) : Except Int (Ty × Nat) :=
  match x with
  | .error e => .error e
  | .ok (n, a') => .ok (⟨k, n, d, rf⟩, a')
def eKd (b : List UInt8) (rf : Bool) (d : Nat) (c : UInt8) (a : Nat) : Except Int (Ty × Nat) :=
  if c = 1 then (if rf = true ∨ 0 < d then .error 2 else .ok (⟨1, 0, 0, false⟩, a)) else
  if c = 8 then .ok (⟨2, 0, d, rf⟩, a) else if c = 10 then .ok (⟨3, 0, d, rf⟩, a) else if c = 28 then .ok (⟨4, 0, d, rf⟩, a) else
  if c = 18 then mkT 5 rf d (eIx b a) else if c = 17 then mkT 6 rf d (eIx b a) else if c = 19 then mkT 7 rf d (eFt b a) else .error 2
def eDm (b : List UInt8) (rf : Bool) : Nat → Nat → UInt8 → Nat → Except Int (Ty × Nat)
  | 0, d, c, a => if c = 29 then .error 6 else eKd b rf d c a
  | f + 1, d, c, a => if c = 29 then
      match eB b a with
      | .error e => .error e
      | .ok (c', a') => eDm b rf f (d + 1) c' a'
    else eKd b rf d c a
def eTy (b : List UInt8) (a : Nat) : Except Int (Ty × Nat) :=
  match eB b a with
  | .error e => .error e
  | .ok (c, a') => if c = 16 then
      match eB b a' with
      | .error e => .error e
      | .ok (c2, a2) => eDm b true 3 0 c2 a2
    else eDm b false 3 0 c a'
def eEnd {α : Type} (b : List UInt8) (x : Except Int (α × Nat)) : Except Int α :=
  match x with
  | .error e => .error e
  | .ok (v, a) => if a < b.length then .error 2 else .ok v
def getS (b : List UInt8) : Except Int Ty := eEnd b (eTy b 0)
structure Sg where
  this : Bool
  ps : List Ty
  ret : Ty
/-! writing -/
def kdB (t : Ty) : List UInt8 :=
  if t.kind = 1 then [1] else if t.kind = 2 then [8] else if t.kind = 3 then [10] else if t.kind = 4 then [28] else
  if t.kind = 5 then 18 :: packL (4 * (t.index + 1)) else if t.kind = 6 then 17 :: packL (4 * (t.index + 1)) else 19 :: packL t.index
def tyB (t : Ty) : List UInt8 := (if t.ref = true then [16] else []) ++ (List.replicate t.dims.toNat 29 ++ kdB t)
/-! there and back -/
theorem eB_at {b : List UInt8} {a : Nat} {c : UInt8} (h : At b a [c]) : eB b a = .ok (c, a + 1) := by
  obtain ⟨h1, h2⟩ := h
  have h3 : a < b.length := by simp at h1; omega
  have h4 : ((b.drop a).take 1)[0]? = some c := by
    have : (b.drop a).take 1 = [c] := h2
    rw [this]; rfl
  rw [List.getElem?_take_of_lt (by omega), List.getElem?_drop, Nat.add_zero] at h4
  unfold eB
  rw [if_pos h3, List.getD_eq_getElem?_getD, h4]; rfl
theorem at_drop {b : List UInt8} {a : Nat} {s : List UInt8} (h : At b a s) : b.drop a = s ++ b.drop (a + s.length) := by
  have h2 := h.2
  unfold Proofs.YtknalmoackcpbaaGreat.sg at h2
  have h3 : b.drop a = (b.drop a).take s.length ++ (b.drop a).drop s.length := (List.take_append_drop _ _).symm
  rw [h2, List.drop_drop] at h3
  exact h3
theorem ePk_at {b : List UInt8} {a : Nat} {n : Int} (h0 : 0 ≤ n) (h1 : n ≤ 536870911) (h : At b a (packL n)) : ePk b a = .ok (n, a + (packL n).length) := by
  have h2 := upk_app (packL n) (b.drop (a + (packL n).length)) n (sizeI n) (upk_pack n h0 h1)
  rw [← at_drop h] at h2
  unfold ePk
  rw [h2]
  simp [packL, beL_length]
theorem at_ePk {b : List UInt8} {a : Nat} {n : Int} {a' : Nat} (h : ePk b a = .ok (n, a')) : 0 ≤ n ∧ n ≤ 536870911 ∧ At b a (packL n) ∧ a' = a + (packL n).length := by
  unfold ePk at h
  split at h
  · rename_i he
    obtain ⟨⟨x, k, e⟩, hu⟩ : ∃ t, upk (b.drop a) = t := ⟨_, rfl⟩
    rw [hu] at h he
    simp only at he
    subst he
    simp only [Except.ok.injEq, Prod.mk.injEq] at h
    obtain ⟨rfl, rfl⟩ := h
    obtain ⟨h1, h2, h3, h4, h5, h6⟩ := upk_one _ _ _ hu
    have hl : (packL x).length = k.toNat := by simp [packL, beL_length, h3]
    have hab : a < b.length := by
      rcases Nat.lt_or_ge a b.length with h | h
      · exact h
      · rw [List.drop_eq_nil_of_le h] at hu; simp [upk] at hu
    refine ⟨h1, h2, ⟨?_, ?_⟩, by rw [hl]⟩
    · simp at h5; omega
    · unfold Proofs.YtknalmoackcpbaaGreat.sg; rw [hl, h6]
  · cases h
theorem coded_row {n : Int} (h : ixOk n = true) : n = 4 * ((codedS n).2.1 - 1 + 1) ∧ 1 ≤ (codedS n).2.1 ∧ (codedS n).2.1 ≤ 32 := by
  unfold ixOk codedS at h
  unfold codedS
  split
  · rename_i h1; rw [if_pos h1] at h; simp at h
  rename_i h1
  rw [if_neg h1] at h
  split
  · rename_i h2; rw [if_pos h2] at h; simp at h
  rename_i h2
  rw [if_neg h2] at h
  split
  · rename_i h3; rw [if_pos h3] at h; simp at h ⊢; omega
  rename_i h3
  rw [if_neg h3] at h
  split
  · rename_i h4; rw [if_pos h4] at h; simp at h
  · rename_i h4; rw [if_neg h4] at h; simp at h
theorem row_coded {i : Int} (h0 : 0 ≤ i) (h1 : i < 32) : ixOk (4 * (i + 1)) = true ∧ (codedS (4 * (i + 1))).2.1 = i + 1 := by
  have h : codedS (4 * (i + 1)) = (0, i + 1, 0) := by
    unfold codedS
    rw [if_neg (by omega), if_neg (by omega), if_pos (by omega)]
    congr 2
    omega
  unfold ixOk
  rw [h]
  simp; omega
theorem coded_min (n : Int) : codedS (if 1048576 < n then 1048576 else n) = codedS n := by
  by_cases h : 1048576 < n
  · rw [if_pos h]
    unfold codedS
    rw [if_neg (by omega), if_pos (by omega), if_neg (by omega), if_pos (by omega)]
  · rw [if_neg h]
theorem plain_cases {t : Ty} (h : plainT t = true) : 0 ≤ t.dims ∧ t.dims ≤ 3 ∧ 0 ≤ t.index ∧ ((t.kind = 1 ∧ t.dims = 0 ∧ t.ref = false ∧ t.index = 0) ∨ (t.kind = 2 ∧ t.index = 0) ∨ (t.kind = 3 ∧ t.index = 0) ∨ (t.kind = 4 ∧ t.index = 0) ∨
    (t.kind = 5 ∧ t.index < 32) ∨ (t.kind = 6 ∧ t.index < 32) ∨ (t.kind = 7 ∧ t.index ≤ 7)) := by
  unfold plainT at h
  split at h
  · cases h
  refine ⟨by omega, by omega, by omega, ?_⟩
  split at h
  · simp at h; exact .inl ⟨by assumption, h⟩
  split at h
  · simp at h; rename_i h1; omega
  split at h
  · simp at h; rename_i h1; omega
  split at h
  · simp at h; omega
  · cases h
theorem kd_at {b : List UInt8} {a : Nat} {t : Ty} (h : plainT t = true) (hat : At b a (kdB t)) : ∃ c r, kdB t = c :: r ∧ c ≠ 29 ∧ c ≠ 16 ∧ eKd b t.ref t.dims.toNat c (a + 1) = .ok (t, a + (kdB t).length) := by
  obtain ⟨d0, d3, i0, hk⟩ := plain_cases h
  obtain ⟨k, i, d, rf⟩ := t
  simp only at d0 d3 i0 hk hat ⊢
  obtain ⟨dn, rfl⟩ : ∃ n : Nat, d = n := ⟨d.toNat, by omega⟩
  rw [Int.toNat_natCast]
  rcases hk with ⟨rfl, hd, rfl, rfl⟩ | ⟨rfl, rfl⟩ | ⟨rfl, rfl⟩ | ⟨rfl, rfl⟩ | ⟨rfl, hi⟩ | ⟨rfl, hi⟩ | ⟨rfl, hi⟩
  · obtain rfl : dn = 0 := by omega
    exact ⟨1, [], rfl, by decide, by decide, rfl⟩
  · exact ⟨8, [], rfl, by decide, by decide, rfl⟩
  · exact ⟨10, [], rfl, by decide, by decide, rfl⟩
  · exact ⟨28, [], rfl, by decide, by decide, rfl⟩
  · refine ⟨18, packL (4 * (i + 1)), rfl, by decide, by decide, ?_⟩
    have hat : At b a (18 :: packL (4 * (i + 1))) := hat
    rw [At.cons] at hat
    have h1 := ePk_at (by omega) (by omega) hat.2
    have h2 := row_coded i0 hi
    show mkT 5 rf dn (eIx b (a + 1)) = _
    unfold eIx
    rw [h1]
    simp only [h2.1, if_true, h2.2, mkT]
    simp [kdB]; omega
  · refine ⟨17, packL (4 * (i + 1)), rfl, by decide, by decide, ?_⟩
    have hat : At b a (17 :: packL (4 * (i + 1))) := hat
    rw [At.cons] at hat
    have h1 := ePk_at (by omega) (by omega) hat.2
    have h2 := row_coded i0 hi
    show mkT 6 rf dn (eIx b (a + 1)) = _
    unfold eIx
    rw [h1]
    simp only [h2.1, if_true, h2.2, mkT]
    simp [kdB]; omega
  · refine ⟨19, packL i, rfl, by decide, by decide, ?_⟩
    have hat : At b a (19 :: packL i) := hat
    rw [At.cons] at hat
    have h1 := ePk_at (by omega) (by omega) hat.2
    show mkT 7 rf dn (eFt b (a + 1)) = _
    unfold eFt
    rw [h1]
    simp only [if_pos hi, mkT]
    simp [kdB]; omega
theorem dm_at {b : List UInt8} {t : Ty} (h : plainT t = true) : ∀ (k f d a : Nat) (c : UInt8) (r : List UInt8), k ≤ f → d + k = t.dims.toNat → List.replicate k 29 ++ kdB t = c :: r → At b (a + 1) r → At b a [c] →
    eDm b t.ref f d c (a + 1) = .ok (t, a + (k + (kdB t).length)) := by
  intro k
  induction k with
  | zero =>
    intro f d a c r _ hd hc hr ha
    have hat : At b a (kdB t) := by
      have : kdB t = c :: r := by simpa using hc
      rw [this, At.cons]; exact ⟨ha, hr⟩
    obtain ⟨c', r', e1, e2, _, e3⟩ := kd_at h hat
    have e4 : c = c' := by simp [e1] at hc; exact hc.1.symm
    subst e4
    have hd' : d = t.dims.toNat := by omega
    subst hd'
    cases f <;> simp [eDm, e2, e3]
  | succ k ih =>
    intro f d a c r hf hd hc hr ha
    obtain ⟨f, rfl⟩ : ∃ g, f = g + 1 := ⟨f - 1, by omega⟩
    simp only [List.replicate_succ, List.cons_append, List.cons.injEq] at hc
    obtain ⟨rfl, hc⟩ := hc
    have hne : List.replicate k 29 ++ kdB t ≠ [] := by
      intro e
      have := congrArg List.length e
      simp at this
      have h2 : kdB t ≠ [] := by
        unfold kdB
        split <;> (try split) <;> (try split) <;> (try split) <;> (try split) <;> (try split) <;> simp
      exact h2 this.2
    obtain ⟨c2, r2, e2⟩ : ∃ c2 r2, List.replicate k 29 ++ kdB t = c2 :: r2 := by
      cases hx : List.replicate k 29 ++ kdB t with
      | nil => exact absurd hx hne
      | cons c2 r2 => exact ⟨c2, r2, rfl⟩
    rw [← hc, e2, At.cons] at hr
    have h1 := eB_at hr.1
    have h2 := ih f (d + 1) (a + 1) c2 r2 (by omega) (by omega) e2 hr.2 hr.1
    simp only [eDm, if_true, h1, h2]
    congr 2
    omega
theorem ty_at {b : List UInt8} {a : Nat} {t : Ty} (h : plainT t = true) (hat : At b a (tyB t)) : eTy b a = .ok (t, a + (tyB t).length) := by
  obtain ⟨d0, d3, _, _⟩ := plain_cases h
  have hs : ∃ c r, List.replicate t.dims.toNat 29 ++ kdB t = c :: r ∧ c ≠ 16 := by
    cases hn : t.dims.toNat with
    | zero =>
      have hk : ∃ c r, kdB t = c :: r ∧ c ≠ 16 := by
        unfold kdB
        split
        · exact ⟨_, _, rfl, by decide⟩
        split
        · exact ⟨_, _, rfl, by decide⟩
        split
        · exact ⟨_, _, rfl, by decide⟩
        split
        · exact ⟨_, _, rfl, by decide⟩
        split
        · exact ⟨_, _, rfl, by decide⟩
        split
        · exact ⟨_, _, rfl, by decide⟩
        · exact ⟨_, _, rfl, by decide⟩
      simpa using hk
    | succ k => exact ⟨29, List.replicate k 29 ++ kdB t, by simp [List.replicate_succ], by decide⟩
  obtain ⟨c, r, e1, e2⟩ := hs
  have hl : (tyB t).length = (if t.ref = true then 1 else 0) + (t.dims.toNat + (kdB t).length) := by
    unfold tyB; cases t.ref <;> simp <;> omega
  unfold tyB at hat
  unfold eTy
  by_cases hr : t.ref = true
  · rw [if_pos hr, e1, List.cons_append, List.nil_append, At.cons, At.cons (c := c)] at hat
    obtain ⟨h1, h2, h3⟩ := hat
    have q1 := eB_at h1
    have q2 := eB_at h2
    have q3 := dm_at h t.dims.toNat 3 0 (a + 1) c r (by omega) (by omega) e1 h3 h2
    rw [hr] at q3
    rw [if_pos hr] at hl
    simp only [q1, if_true, q2, q3, hl]
    congr 2
    omega
  · have hr' : t.ref = false := by simpa using hr
    rw [if_neg hr, e1, List.nil_append, At.cons] at hat
    obtain ⟨h1, h2⟩ := hat
    have q1 := eB_at h1
    have q3 := dm_at h t.dims.toNat 3 0 a c r (by omega) (by omega) e1 h2 h1
    rw [hr'] at q3
    rw [if_neg hr] at hl
    simp only [q1, if_neg e2, q3, hl]
    congr 2
    omega
/-! lists, signatures, locals -/
theorem end_full {α : Type} {b : List UInt8} {x : Except Int (α × Nat)} {v : α} {a : Nat} (h : x = .ok (v, a)) (ha : b.length ≤ a) : eEnd b x = .ok v := by
  rw [h]; simp [eEnd]; omega
theorem at_self (b : List UInt8) : At b 0 b := ⟨by simp, by simp [Proofs.YtknalmoackcpbaaGreat.sg]⟩
theorem get_put {t : Ty} (h : plainT t = true) : getS (tyB t) = .ok t := end_full (ty_at h (at_self _)) (by omega)
end Sg
end Go.Proofs.YtknalmoackcpbaaGreat

/- Package sigs: what reads, and gives up. -/

set_option linter.unusedSimpArgs false
set_option linter.unusedVariables false
set_option maxRecDepth 100000
set_option maxHeartbeats 3200000
namespace Go.Proofs.YtknalmoackcpbaaGreat
namespace Sg
open Go Go.AW
theorem D0_XSig2 (S : List Nat) : Plans Tryz.prog [] S := mixed
def flt (e : Int) : AV := .ifc 272 (.sc (.int .i64 e))
def rdV (id : Nat) : AV := .agg [.ptr id 0]
def Thr (b : List UInt8) (nl : Bool) (id : Nat) (e : Int) (σ : AS) (p : AV) (σ' : AS) : Prop := p = flt e ∧ ∃ a : Int, σ' = σ.set id (rdC b a nl)
theorem gp_ {f : FuncId} {args : List AV} {σ σ1 : AS} {v : AV} {K Kp : AV → AS → Prop} (h : ACalls Tryz.prog f args σ No (Gives v σ1)) (hk : Kp v σ1) : aCall Tryz.prog (.sc (.func (.func f) #[] #[])) args σ K Kp :=
  .of h (fun _ _ h => h.elim) (fun r σ' h => by obtain ⟨rfl, rfl⟩ := h; exact hk)
theorem thr_ {f : FuncId} {args : List AV} {b : List UInt8} {nl : Bool} {id : Nat} {e : Int} {σ0 σ : AS} {K Kp : AV → AS → Prop} (h : ACalls Tryz.prog f args σ0 No (Thr b nl id e σ)) (hk : ∀ a : Int, Kp (flt e) (σ.set id (rdC b a nl))) : aCall Tryz.prog (.sc (.func (.func f) #[] #[])) args σ0 K Kp :=
  .of h (fun _ _ h => h.elim) (fun r σ' h => by obtain ⟨rfl, a, rfl⟩ := h; exact hk a)
theorem le_set {σ σ' : AS} {i : Nat} {x : ABlk} (h : AS.le σ σ') : AS.le (σ.set i x) (σ'.set i x) := by
  intro j y hy
  by_cases e : j = i
  · subst e; simpa [AS.set] using hy
  · simp [AS.set, e] at hy ⊢; exact h j y hy
theorem set_self {σ : AS} {i : Nat} {x : ABlk} (h : σ i = some x) : σ.set i x = σ := by
  funext j
  by_cases e : j = i
  · subst e; simp [AS.set, h]
  · simp [AS.set, e]
def RD {α : Type} (x : Except Int (α × Nat)) (f : α → AV) (b : List UInt8) (nl : Bool) (id : Nat) (σ : AS) (r : AV) (σ' : AS) : Prop := ∃ v a, x = .ok (v, a) ∧ r = f v ∧ σ' = σ.set id (rdC b (a : Nat) nl)
def TD {α : Type} (x : Except Int α) (b : List UInt8) (nl : Bool) (id : Nat) (σ : AS) (p : AV) (σ' : AS) : Prop := ∃ e, x = .error e ∧ Thr b nl id e σ p σ'
theorem RD.ok {α : Type} {f : FuncId} {args : List AV} {x : Except Int (α × Nat)} {g : α → AV} {b : List UInt8} {nl : Bool} {id : Nat} {σ0 σ : AS} {v : α} {a : Nat} (h : ACalls Tryz.prog f args σ0 (RD x g b nl id σ) (TD x b nl id σ)) (hx : x = .ok (v, a)) :
    ACalls Tryz.prog f args σ0 (Gives (g v) (σ.set id (rdC b a nl))) No :=
  h.mono (fun r σ' hr => by obtain ⟨v', a', h1, rfl, rfl⟩ := hr; rw [hx] at h1; cases h1; exact ⟨rfl, rfl⟩) (fun p σ' hp => by obtain ⟨e, h1, _⟩ := hp; rw [hx] at h1; cases h1)
theorem RD.bad {α : Type} {f : FuncId} {args : List AV} {x : Except Int (α × Nat)} {g : α → AV} {b : List UInt8} {nl : Bool} {id : Nat} {σ0 σ : AS} {e : Int} (h : ACalls Tryz.prog f args σ0 (RD x g b nl id σ) (TD x b nl id σ)) (hx : x = .error e) :
    ACalls Tryz.prog f args σ0 No (Thr b nl id e σ) :=
  h.mono (fun r σ' hr => by obtain ⟨v', a', h1, _, _⟩ := hr; rw [hx] at h1; cases h1) (fun p σ' hp => by obtain ⟨e, h1, h2⟩ := hp; rw [hx] at h1; cases h1; exact h2)
theorem RD.of {α : Type} {f : FuncId} {args : List AV} {x : Except Int (α × Nat)} {g : α → AV} {b : List UInt8} {nl : Bool} {id : Nat} {σ0 σ : AS}
    (h1 : ∀ v a, x = .ok (v, a) → ACalls Tryz.prog f args σ0 (Gives (g v) (σ.set id (rdC b (a : Nat) nl))) No) (h2 : ∀ e, x = .error e → ACalls Tryz.prog f args σ0 No (Thr b nl id e σ)) : ACalls Tryz.prog f args σ0 (RD x g b nl id σ) (TD x b nl id σ) := by
  cases hx : x with
  | error e => exact (h2 e hx).mono (fun _ _ h => h.elim) (fun p σ' h => ⟨e, rfl, h⟩)
  | ok y => obtain ⟨v, a⟩ := y; exact (h1 v a hx).mono (fun r σ' h => by obtain ⟨rfl, rfl⟩ := h; exact ⟨v, a, rfl, rfl, rfl⟩) (fun _ _ h => h.elim)
theorem need_ok (e : Int) (σ : AS) : ACalls Tryz.prog 206 [.sc (.bool true), .sc (.int .i64 e)] σ (Gives (.tup []) σ) No := by
  refine ACalls.of_body Tryz.func206 rfl rfl (by simp [Tryz.ntmps206]) ?_
  exact gE (D0_XSig2 []) True.intro True.intro
theorem need_bad (e : Int) (σ : AS) : ACalls Tryz.prog 206 [.sc (.bool false), .sc (.int .i64 e)] σ No (Gives (flt e) σ) := by
  refine ACalls.of_body Tryz.func206 rfl rfl (by simp [Tryz.ntmps206]) ?_
  refine gO (D0_XSig2 []) True.intro True.intro (k := ?_)
  exact ⟨σ, AS.le_refl _, rfl, rfl⟩
def ivV (n : Int) : AV := .sc (.int .i64 n)
section
variable (id : Nat) (b : List UInt8) (a : Nat) (nl : Bool) (σ : AS) (h : σ id = some (rdC b a nl)) (ha : a ≤ b.length) (hnl : nl = true → b = []) (hb : b.length ≤ 100000)
include h ha hb
include hnl
theorem packed_ok' : ACalls Tryz.prog 208 [rdV id] σ (RD (ePk b a) ivV b nl id σ) (TD (ePk b a) b nl id σ) := by
  obtain ⟨⟨x, k, e⟩, hu⟩ : ∃ t, upk (b.drop a) = t := ⟨_, rfl⟩
  have hf := upk_facts _ _ _ _ hu
  have hn := fun σ h => packed_ok id b a nl σ hnl h (by omega) (by omega) (by omega) x k e (by simpa using hu)
  unfold ePk
  rw [hu]
  simp only
  by_cases he : e = 0
  · subst he
    obtain ⟨k1, k4, _⟩ := hf.2.2 rfl
    rw [if_pos rfl]
    refine RD.of (fun v a' h2 => ?_) (fun e h2 => by cases h2)
    cases h2
    simp only [if_true] at hn
    have hneed := fun σ => need_ok 0 σ
    refine ACalls.of_body Tryz.func208 rfl rfl (by simp [Tryz.ntmps208]) ?_
    simp only [rdV, ivV]
    refine gO (D0_XSig2 []) True.intro True.intro (k := ?_)
    intro id2 h_id2
    have n_id_id2 : ¬ id = id2 := by rintro rfl; rw [h] at h_id2; cases h_id2
    have n_id2_id : ¬ id2 = id := fun e => n_id_id2 e.symm
    refine gO (D0_XSig2 []) (j3 @n_id2_id @n_id_id2 @h) (j2 @hn @hneed) (k := ?_)
    rw [show max k 0 = k by omega]
    exact le_set (le_new h_id2 (AS.le_refl _))
  · rw [if_neg he]
    refine RD.of (fun v a' h2 => by cases h2) (fun e' h2 => ?_)
    cases h2
    simp only [he, if_false] at hn
    have hneed := fun σ => need_bad e σ
    refine ACalls.of_body Tryz.func208 rfl rfl (by simp [Tryz.ntmps208]) ?_
    simp only [rdV]
    refine gO (D0_XSig2 []) True.intro True.intro (k := ?_)
    intro id2 h_id2
    have n_id_id2 : ¬ id = id2 := by rintro rfl; rw [h] at h_id2; cases h_id2
    have n_id2_id : ¬ id2 = id := fun e => n_id_id2 e.symm
    repeat (first
      | (with_reducible first | apply AWp.seq | apply AWp.block | refine And.intro (by first | omega | assumption | decide) ?_)
      | ((first | (with_reducible first | apply AWp.fork | apply AWp.region | show condK _ _ _ | show guardK _ _ _ _ _ _ _ _ _) | ((with_reducible apply aCall.id); first | apply aCall.gives (hn _ (by simp [n_id2_id, n_id_id2, h])) | apply (gp_ (hneed _)))); simp -implicitDefEqProofs [he, n_id2_id, n_id_id2, h])
      | ((with_reducible first | apply AWp.ret | apply AWp.skip | apply AWp.exit); try simp -implicitDefEqProofs [he, n_id2_id, n_id_id2, h]))
    exact ⟨σ, le_new h_id2 (AS.le_refl _), rfl, a, (set_self h).symm⟩
theorem index_ok : ACalls Tryz.prog 246 [rdV id] σ (RD (eIx b a) ivV b nl id σ) (TD (eIx b a) b nl id σ) := by
  have hp := fun σ h => packed_ok' id b a nl σ h ha hnl hb
  unfold eIx
  cases hpk : ePk b a with
  | error e =>
    refine RD.of (fun v a' h2 => by cases h2) (fun e' h2 => ?_)
    cases h2
    have hp2 := fun σ h => RD.bad (hp σ h) hpk
    simp only [rdV] at hp2 ⊢
    refine ACalls.of_body Tryz.func246 rfl rfl (by simp [Tryz.ntmps246]) ?_
    refine gO (D0_XSig2 []) True.intro True.intro (k := ?_)
    intro id2 h_id2
    have n_id_id2 : ¬ id = id2 := by rintro rfl; rw [h] at h_id2; cases h_id2
    have n_id2_id : ¬ id2 = id := fun e => n_id_id2 e.symm
    repeat (first
      | (with_reducible first | apply AWp.seq | apply AWp.block | refine And.intro (by first | omega | assumption | decide) ?_)
      | ((first | (with_reducible first | apply AWp.fork | apply AWp.region | show condK _ _ _ | show guardK _ _ _ _ _ _ _ _ _) | ((with_reducible apply aCall.id); first | apply (thr_ (hp2 _ (by simp [n_id2_id, n_id_id2, h]))))); simp -implicitDefEqProofs [n_id2_id, n_id_id2, h])
      | ((with_reducible first | apply AWp.ret | apply AWp.skip | apply AWp.exit); try simp -implicitDefEqProofs [n_id2_id, n_id_id2, h]))
    intro x
    exact ⟨_, le_set (le_new h_id2 (AS.le_refl _)), rfl, x, rfl⟩
  | ok y =>
    obtain ⟨n, a1⟩ := y
    obtain ⟨n0, n1, _, _⟩ := at_ePk hpk
    have hp2 := fun σ h => RD.ok (hp σ h) hpk
    have hco := fun σ => coded_ok (if 1048576 < n then 1048576 else n) σ
    rw [coded_min] at hco
    have hix : ixOk n = (decide ((codedS n).2.2 = 0) && (decide ((codedS n).1 = 0) && decide ((codedS n).2.1 ≤ 32))) := rfl
    have hcr := @coded_row n
    simp only
    generalize codedS n = C at *
    obtain ⟨c1, c2, c3⟩ := C
    simp only at hco hix hcr ⊢
    cases hix2 : ixOk n with
    | true =>
      rw [if_pos rfl]
      refine RD.of (fun v a' h2 => ?_) (fun e h2 => by cases h2)
      cases h2
      obtain ⟨_, q1, q2⟩ := hcr hix2
      rw [hix2] at hix
      have hx : c3 = 0 ∧ c1 = 0 ∧ c2 ≤ 32 := by simpa using hix.symm
      obtain ⟨rfl, rfl, hx⟩ := hx
      have hw : IntKind.i64.wrap (c2 - 1) = c2 - 1 := in_i64 (by omega) (by omega)
      have hneed := fun σ => need_ok 5 σ
      simp only [rdV, ivV] at hp2 ⊢
      refine ACalls.of_body Tryz.func246 rfl rfl (by simp [Tryz.ntmps246]) ?_
      refine gO (D0_XSig2 []) True.intro True.intro (k := ?_)
      intro id2 h_id2
      have n_id_id2 : ¬ id = id2 := by rintro rfl; rw [h] at h_id2; cases h_id2
      have n_id2_id : ¬ id2 = id := fun e => n_id_id2 e.symm
      refine gO (D0_XSig2 []) (j5 @hx @hw @n_id2_id @n_id_id2 @h) (j3 @hp2 @hco @hneed) (k := ?_)
      exact le_set (le_new h_id2 (AS.le_refl _))
    | false =>
      rw [if_neg (by simp)]
      refine RD.of (fun v a' h2 => by cases h2) (fun e h2 => ?_)
      cases h2
      rw [hix2] at hix
      have hneed := fun σ => need_bad 5 σ
      simp only [rdV, ivV] at hp2 ⊢
      refine ACalls.of_body Tryz.func246 rfl rfl (by simp [Tryz.ntmps246]) ?_
      refine gO (D0_XSig2 []) True.intro True.intro (k := ?_)
      intro id2 h_id2
      have n_id_id2 : ¬ id = id2 := by rintro rfl; rw [h] at h_id2; cases h_id2
      have n_id2_id : ¬ id2 = id := fun e => n_id_id2 e.symm
      by_cases z3 : c3 = 0 <;> by_cases z1 : c1 = 0 <;> by_cases z2 : c2 ≤ 32
      all_goals first
        | (exfalso; simp [z1, z2, z3] at hix; done)
        | skip
      all_goals
        repeat (first
          | (with_reducible first | apply AWp.seq | apply AWp.block | refine And.intro (by first | omega | assumption | decide) ?_)
          | ((first | (with_reducible first | apply AWp.fork | apply AWp.region | show condK _ _ _ | show guardK _ _ _ _ _ _ _ _ _) | ((with_reducible apply aCall.id); first | apply aCall.gives (hp2 _ (by simp [n_id2_id, n_id_id2, h])) | apply aCall.gives (hco _) | apply (gp_ (hneed _)))); simp -implicitDefEqProofs [z1, z2, z3, n_id2_id, n_id_id2, h])
          | ((with_reducible first | apply AWp.ret | apply AWp.skip | apply AWp.exit); try simp -implicitDefEqProofs [z1, z2, z3, n_id2_id, n_id_id2, h]))
        exact ⟨_, le_set (le_new h_id2 (AS.le_refl _)), rfl, _, rfl⟩
omit hnl
end
end Sg
end Go.Proofs.YtknalmoackcpbaaGreat
