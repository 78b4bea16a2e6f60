/- A layer of abstract values over the model's machine: own work for this claim, part AwOps4. -/
import Derived.Test.YtnkjbgcbchbonaaAwOps3
set_option linter.unusedSimpArgs false
set_option linter.unusedVariables false
namespace Go.AW
open Go Go.RowKit

variable {P : Program} {G : Gh} {σ : AS} {w : World} {K Pn : AV → AS → Prop}

/-! ## fields -/

def aFieldAddr (P : Program) (t : TypeId) (x : AV) (f : Nat) (K : AV → Prop) : Prop :=
  match placeT P t f, P.underlying t with
  | some (o, n), some (.struct _) => n ≠ 0 ∧ (match x with
    | .ptr id off => K (.ptr id (off + o))
    | .cptr cells => K (.cptr (cells.drop o))
    | _ => False)
  | _, _ => False

theorem aFieldAddr_out (hi : Inv P G σ w) {t : TypeId} {x : AV} {v : Value} {f : Nat} (hx : Rep P G x v) (h : aFieldAddr P t x f fun v => K v σ) :
    Out P G K Pn (((do pure (Next.value (← Instr.fieldAt t v f))) : Sem Next).run P w) := by
  unfold aFieldAddr at h
  split at h
  · rename_i o n fs hp hu
    obtain ⟨hn, h⟩ := h
    simp only [placeT, hu] at hp
    cases hf : fs[f]? with
    | none => rw [hf] at hp; cases hp
    | some fl =>
      rw [hf] at hp
      simp only [Option.map_some, Option.some.injEq, Prod.mk.injEq] at hp
      obtain ⟨rfl, rfl⟩ := hp
      obtain ⟨i, hinf, hsz, _⟩ := info_of_cells (P := P) (t := fl.type) hn
      have hs0 : i.size ≠ 0 := by omega
      have run : ∀ b off : Nat, (Instr.fieldAt t (.pointer (some ⟨b, off, none⟩)) f).run P w = .ok (.pointer (some ⟨b, off + fl.offset, none⟩)) w := fun b off => by
        simp [Instr.fieldAt, run_underlying hu, hf, Instr.sureAddr, fieldPlace, sizeOf, run_typeInfo w hinf, hs0, Addr.add_lit]
      split at h
      · cases hx with
        | ptr hb => exact Out.pure hi (run _ _) (.ptr hb) h
      · rename_i cells
        cases hx with
        | cptr vs hm hr =>
          refine Out.pure hi (run _ _) (.cptr (fun k => vs (fl.offset + k)) (fun k hk => ?_) (fun k hk => ?_)) h
          · rw [Nat.add_assoc]; exact hm _ (by simp at hk; omega)
          · have := hr (fl.offset + k) (by simp at hk; omega)
            simpa [List.getD_eq_getElem?_getD] using this
      · exact h.elim
  · exact h.elim

def aField (P : Program) (t : TypeId) (x : AV) (f : Nat) (K : AV → Prop) : Prop :=
  match fieldT P t f, x with
  | some (o, .one), .agg cells => o < cells.length ∧ K (cells.getD o .any)
  | some (o, .agg n), .agg cells => n ≠ 0 ∧ o + n ≤ cells.length ∧ K (.agg ((cells.drop o).take n))
  | _, _ => False

theorem aField_out (hi : Inv P G σ w) {t : TypeId} {x : AV} {v : Value} {f : Nat} (hx : Rep P G x v) (h : aField P t x f fun v => K v σ) :
    Out P G K Pn (((do pure (Next.value (← Instr.field t v f))) : Sem Next).run P w) := by
  unfold aField at h
  have get : ∀ {o : Nat} {l : LK}, fieldT P t f = some (o, l) → ∃ fs fl, P.underlying t = some (.struct fs) ∧ fs[f]? = some fl ∧ fl.offset = o ∧ lkT P fl.type = l := by
    intro o l hf
    unfold fieldT at hf
    split at hf
    · rename_i fs hu
      cases hg : fs[f]? with
      | none => rw [hg] at hf; cases hf
      | some fl =>
        rw [hg] at hf
        simp only [Option.map_some, Option.some.injEq, Prod.mk.injEq] at hf
        exact ⟨fs, fl, hu, hg, hf.1, hf.2⟩
    · cases hf
  split at h
  · rename_i o cells hf
    obtain ⟨fs, fl, hu, hg, rfl, hl⟩ := get hf
    cases hx with
    | agg vs l hr =>
      have := hr fl.offset h.1
      have hlt : fl.offset < vs.length := by omega
      refine Out.pure hi (v := vs.getD fl.offset undef) ?_ this h.2
      simp [Instr.field, run_underlying hu, hg, part, (lkT_one (w := w) hl).1, asAgg, hlt]
  · rename_i o n cells hf
    obtain ⟨fs, fl, hu, hg, rfl, hl⟩ := get hf
    cases hx with
    | agg vs l hr =>
      obtain ⟨k1, k2⟩ := lkT_agg (w := w) hl
      obtain ⟨i, hinf, hsz, _⟩ := info_of_cells (P := P) (t := fl.type) (by omega)
      refine Out.pure hi (v := .agg ((vs.drop fl.offset).take n).toArray) ?_ (.agg _ (by simp; omega) (fun k hk => ?_)) h.2.2
      · have e1 : vs.toArray.extract fl.offset (fl.offset + i.size) = ((vs.drop fl.offset).take n).toArray := by
          have : fl.offset + i.size - fl.offset = n := by omega
          simp [this]
        simp [Instr.field, run_underlying hu, hg, part, k1, asAgg, sizeOf, run_typeInfo w hinf]
        simpa using e1
      · have hkn : k < n := by simp at hk; omega
        have := hr (fl.offset + k) (by omega)
        simp only [List.getD_eq_getElem?_getD] at this ⊢
        rw [List.getElem?_take_of_lt hkn, List.getElem?_take_of_lt hkn, List.getElem?_drop, List.getElem?_drop]
        exact this
  · exact h.elim

/-! ## indexes -/

def arrT (P : Program) (t : TypeId) : Option (Nat × TypeId) := match P.underlying t with | some (.array n e) => some (n, e) | _ => none
theorem arrT_eq {t e : TypeId} {n : Nat} (h : arrT P t = some (n, e)) : P.underlying t = some (.array n e) := by
  unfold arrT at h
  split at h
  · cases h; assumption
  · cases h

def aIndexAddr (P : Program) (t : TypeId) (x i : AV) (K : AV → Prop) : Prop :=
  match i with
  | .sc (.int _ i) => match x with
    | .lst e elems _ _ => sliceT P t = some e ∧ P.cellsOf e ≠ 0 ∧ 0 ≤ i ∧ i < elems.length ∧ K (.cptr (elems.getD i.toNat .any).cells)
    | .msl id off len _ => match sliceT P t with
      | some e => P.cellsOf e ≠ 0 ∧ 0 ≤ i ∧ i < len ∧ K (.ptr id (off + i.toNat * P.cellsOf e))
      | none => False
    | .ptr id off => match arrT P t with
      | some (n, e) => P.cellsOf e ≠ 0 ∧ 0 ≤ i ∧ i < n ∧ K (.ptr id (off + i.toNat * P.cellsOf e))
      | none => False
    | .cptr cells => match arrT P t with
      | some (n, e) => P.cellsOf e ≠ 0 ∧ 0 ≤ i ∧ i < n ∧ K (.cptr (cells.drop (i.toNat * P.cellsOf e)))
      | none => False
    | _ => False
  | _ => False

theorem aIndexAddr_out (hi : Inv P G σ w) {t : TypeId} {x ix : AV} {v vi : Value} (hx : Rep P G x v) (hix : Rep P G ix vi) (h : aIndexAddr P t x ix fun v => K v σ) :
    Out P G K Pn (((do pure (Next.value (← Instr.indexAt t v vi))) : Sem Next).run P w) := by
  unfold aIndexAddr at h
  split at h
  · rename_i k i
    cases hix
    split at h
    · rename_i e elems own nil
      obtain ⟨h1, h2, h3, h4, h5⟩ := h
      have hu := sliceT_eq h1
      obtain ⟨inf, hinf, hsz, _⟩ := info_of_cells (P := P) (t := e) h2
      cases hx with
      | lstN ho => simp at h4; omega
      | lstZ => simp at h4; omega
      | lst vs hl hm hr hc ho =>
        rename_i b off cap
        have hn : i.toNat < elems.length := by omega
        refine Out.pure hi (v := .pointer (some ⟨b, off + i.toNat * P.cellsOf e, none⟩)) ?_ (.cptr (fun k => vs (i.toNat * P.cellsOf e + k)) (fun k hk => ?_) (fun k hk => ?_)) h5
        · simp [Instr.indexAt, asIntOf, run_underlying hu, h3, h4, sizeOf, run_typeInfo w hinf, hsz, Addr.add_lit]
        · rw [hl _ hn] at hk
          rw [Nat.add_assoc]
          exact hm _ (idx_lt hn hk)
        · rw [hl _ hn] at hk
          exact hr _ _ hn hk
    · rename_i id off len cap
      split at h
      · rename_i e he
        obtain ⟨h2, h3, h4, h5⟩ := h
        have hu := sliceT_eq he
        obtain ⟨inf, hinf, hsz, _⟩ := info_of_cells (P := P) (t := e) h2
        cases hx with
        | msl hb =>
          refine Out.pure hi ?_ (.ptr hb) h5
          simp [Instr.indexAt, asIntOf, run_underlying hu, h3, h4, sizeOf, run_typeInfo w hinf, hsz, Addr.add_lit]
      · exact h.elim
    · rename_i id off
      split at h
      · rename_i n e he
        obtain ⟨h2, h3, h4, h5⟩ := h
        have hu := arrT_eq he
        obtain ⟨inf, hinf, hsz, _⟩ := info_of_cells (P := P) (t := e) h2
        cases hx with
        | ptr hb =>
          refine Out.pure hi ?_ (.ptr hb) h5
          simp [Instr.indexAt, asIntOf, run_underlying hu, h3, h4, sizeOf, run_typeInfo w hinf, hsz, Addr.add_lit, Instr.sureAddr]
      · exact h.elim
    · rename_i cells
      split at h
      · rename_i n e he
        obtain ⟨h2, h3, h4, h5⟩ := h
        have hu := arrT_eq he
        obtain ⟨inf, hinf, hsz, _⟩ := info_of_cells (P := P) (t := e) h2
        cases hx with
        | cptr vs hm hr =>
          rename_i b off
          refine Out.pure hi (v := .pointer (some ⟨b, off + i.toNat * P.cellsOf e, none⟩)) ?_ (.cptr (fun k => vs (i.toNat * P.cellsOf e + k)) (fun k hk => ?_) (fun k hk => ?_)) h5
          · simp [Instr.indexAt, asIntOf, run_underlying hu, h3, h4, sizeOf, run_typeInfo w hinf, hsz, Addr.add_lit, Instr.sureAddr]
          · rw [Nat.add_assoc]; exact hm _ (by simp at hk; omega)
          · have := hr (i.toNat * P.cellsOf e + k) (by simp at hk; omega)
            simpa [List.getD_eq_getElem?_getD] using this
      · exact h.elim
    · exact h.elim
  · exact h.elim

/-- An index into a string, or into an array as a value. -/
def aIndex (P : Program) (t : TypeId) (x i : AV) (K : AV → Prop) : Prop :=
  match i, x with
  | .sc (.int _ i), .sc (.string s) => P.underlying t = some .string ∧ 0 ≤ i ∧ i < s.size ∧ K (.sc (.int .u8 (s.data.toList.getD i.toNat 0).toNat))
  | .sc (.int _ i), .agg cells => match arrT P t with
    | some (n, e) => match lkT P e with
      | .one => 0 ≤ i ∧ i < n ∧ i < cells.length ∧ K (cells.getD i.toNat .any)
      | .agg m => m ≠ 0 ∧ 0 ≤ i ∧ i < n ∧ i.toNat * m + m ≤ cells.length ∧ K (.agg ((cells.drop (i.toNat * m)).take m))
      | .bad => False
    | none => False
  | _, _ => False

theorem aIndex_out (hi : Inv P G σ w) {t : TypeId} {x ix : AV} {v vi : Value} (hx : Rep P G x v) (hix : Rep P G ix vi) (h : aIndex P t x ix fun v => K v σ) :
    Out P G K Pn (((do pure (Next.value (← Instr.index t v vi))) : Sem Next).run P w) := by
  unfold aIndex at h
  split at h
  · rename_i k i s
    cases hix
    cases hx
    obtain ⟨hu, h1, h2, h3⟩ := h
    have hlt : i.toNat < s.size := by omega
    refine Out.pure hi (v := .int .u8 (s.data.toList.getD i.toNat 0).toNat) ?_ (.sc _) h3
    have hg : s[i.toNat]? = some (s.data.toList.getD i.toNat 0) := by
      have : s[i.toNat]? = some s[i.toNat] := getElem?_pos s i.toNat hlt
      rw [this]
      congr 1
      have hlt' : i.toNat < s.data.size := hlt
      have e2 : s.data.toList.getD i.toNat 0 = s.data[i.toNat] := by
        rw [List.getD_eq_getElem?_getD, List.getElem?_eq_getElem (by simpa using hlt')]
        simp
      rw [e2]
      rfl
    simp [Instr.index, asIntOf, run_underlying hu, h1, hg]
  · rename_i k i cells
    cases hix
    split at h
    · rename_i n e he
      have hu := arrT_eq he
      split at h
      · rename_i hl
        obtain ⟨h1, h2, h3, h4⟩ := h
        obtain ⟨k1, k2⟩ := lkT_one (w := w) hl
        obtain ⟨inf, hinf, hsz, _⟩ := info_of_cells (P := P) (t := e) (by omega)
        cases hx with
        | agg vs l hr =>
          have hlt : i.toNat < vs.length := by omega
          refine Out.pure hi (v := vs.getD i.toNat undef) ?_ (hr _ (by omega)) h4
          simp [Instr.index, asIntOf, run_underlying hu, h1, h2, asAgg, part, k1, sizeOf, run_typeInfo w hinf, hsz, k2, hlt]
      · rename_i m hl
        obtain ⟨h0, h1, h2, h3, h4⟩ := h
        obtain ⟨k1, k2⟩ := lkT_agg (w := w) hl
        obtain ⟨inf, hinf, hsz, _⟩ := info_of_cells (P := P) (t := e) (by omega)
        cases hx with
        | agg vs l hr =>
          refine Out.pure hi (v := .agg ((vs.drop (i.toNat * m)).take m).toArray) ?_ (.agg _ (by simp; omega) (fun k hk => ?_)) h4
          · have e1 : vs.toArray.extract (i.toNat * m) (i.toNat * m + m) = ((vs.drop (i.toNat * m)).take m).toArray := by
              have : i.toNat * m + m - i.toNat * m = m := by omega
              simp [this]
            simp [Instr.index, asIntOf, run_underlying hu, h1, h2, asAgg, part, k1, sizeOf, run_typeInfo w hinf, hsz, k2]
            try simpa using e1
          · have hkn : k < m := by simp at hk; omega
            have := hr (i.toNat * m + k) (by omega)
            simp only [List.getD_eq_getElem?_getD] at this ⊢
            rw [List.getElem?_take_of_lt hkn, List.getElem?_take_of_lt hkn, List.getElem?_drop, List.getElem?_drop]
            exact this
      · exact h.elim
    · exact h.elim
  · exact h.elim

/-! ## slice expressions -/

/-- A bound of a slice expression. -/
def aBound (x : Option AV) (d : Nat) (K : Nat → Prop) : Prop :=
  match x with
  | none => K d
  | some (.sc (.int _ n)) => 0 ≤ n ∧ K n.toNat
  | _ => False

def aSlice (P : Program) (t : TypeId) (x : AV) (lo hi mx : Option AV) (K : AV → Prop) : Prop :=
  match mx with
  | some _ => False
  | none => match x with
    | .sc (.string s) => P.underlying t = some .string ∧ aBound hi s.size fun h => h ≤ s.size ∧ aBound lo 0 fun l => l ≤ h ∧ K (.sc (.string (s.extract l h)))
    | .lst e elems _ nil => sliceT P t = some e ∧ P.cellsOf e ≠ 0 ∧ aBound hi elems.length fun h => h ≤ elems.length ∧ aBound lo 0 fun l => l ≤ h ∧ K (.lst e ((elems.take h).drop l) .unk nil)
    | _ => False

theorem aSlice_out (hinv : Inv P G σ w) {t : TypeId} {x : AV} {v : Value} {lo hi mx : Option AV} {vlo vhi vmx : Option Value} (hx : Rep P G x v)
    (hlo : (lo = none ∧ vlo = none) ∨ ∃ a b, lo = some a ∧ vlo = some b ∧ Rep P G a b) (hhi : (hi = none ∧ vhi = none) ∨ ∃ a b, hi = some a ∧ vhi = some b ∧ Rep P G a b)
    (hmx : (mx = none ∧ vmx = none) ∨ ∃ a b, mx = some a ∧ vmx = some b ∧ Rep P G a b)
    (h : aSlice P t x lo hi mx fun v => K v σ) :
    Out P G K Pn (((do pure (Next.value (← Instr.sliceAt t v vlo vhi vmx))) : Sem Next).run P w) := by
  unfold aSlice at h
  cases mx with
  | some m => exact h.elim
  | none =>
    obtain ⟨_, rfl⟩ : _ ∧ vmx = none := by
      rcases hmx with h | ⟨a, b, h, _⟩
      · exact h
      · cases h
    -- the bounds' run
    have bound : ∀ (o : Option AV) (vo : Option Value) (d : Nat) (Q : Nat → Prop), ((o = none ∧ vo = none) ∨ ∃ a b, o = some a ∧ vo = some b ∧ Rep P G a b) → aBound o d Q →
        ∃ k, Q k ∧ ((o = none ∧ vo = none ∧ k = d) ∨ ∃ kd n, vo = some (.int kd n) ∧ 0 ≤ n ∧ k = n.toNat) := by
      intro o vo d Q h1 h2
      rcases h1 with ⟨rfl, rfl⟩ | ⟨a, b, rfl, rfl, hr⟩
      · exact ⟨d, h2, .inl ⟨rfl, rfl, rfl⟩⟩
      · unfold aBound at h2
        split at h2
        · rename_i h; cases h
        · rename_i kd n he
          cases he
          cases hr
          exact ⟨n.toNat, h2.2, .inr ⟨kd, n, rfl, h2.1, rfl⟩⟩
        · exact h2.elim
    have runB : ∀ (isS : Bool) (len cap h l : Nat), h ≤ cap → l ≤ h → ((hi = none ∧ vhi = none ∧ h = len) ∨ ∃ kd n, vhi = some (.int kd n) ∧ 0 ≤ n ∧ h = n.toNat) →
        ((lo = none ∧ vlo = none ∧ l = 0) ∨ ∃ kd n, vlo = some (.int kd n) ∧ 0 ≤ n ∧ l = n.toNat) →
        (Instr.sliceBounds isS len cap vlo vhi none).run P w = .ok (l, h, cap) w := by
      intro isS len cap h l hc hl hh hlw
      have sb : ∀ (kd : IntKind) (n : Int) (y : Nat) (code : BoundsCode), 0 ≤ n → n.toNat ≤ y → (Instr.sliceBound (.int kd n) y code).run P w = .ok n.toNat w := by
        intro kd n y code h0 h1
        have : 0 ≤ n ∧ n ≤ (y : Int) := ⟨h0, by omega⟩
        simp [Instr.sliceBound, asIntOf, this]
      rcases hh with ⟨_, rfl, rfl⟩ | ⟨kd, n, rfl, hn0, rfl⟩ <;> rcases hlw with ⟨_, rfl, rfl⟩ | ⟨kd2, n2, rfl, hn2, rfl⟩
      · simp [Instr.sliceBounds]
      · simp [Instr.sliceBounds, sb kd2 n2 _ _ hn2 hl]
      · simp [Instr.sliceBounds, sb kd n _ _ hn0 hc]
      · simp [Instr.sliceBounds, sb kd n _ _ hn0 hc, sb kd2 n2 _ _ hn2 hl]
    simp only at h
    split at h
    · rename_i s
      obtain ⟨hu, h⟩ := h
      obtain ⟨h1, ⟨q1, h⟩, k1⟩ := bound _ _ _ _ hhi h
      obtain ⟨l1, ⟨q2, h⟩, k2⟩ := bound _ _ _ _ hlo h
      cases hx
      refine Out.pure hinv (v := .string (s.extract l1 h1)) ?_ (.sc _) h
      simp [Instr.sliceAt, Instr.slice, run_underlying hu, runB false s.size s.size h1 l1 q1 q2 k1 k2]
    · rename_i e elems own nil
      obtain ⟨he, hsz, hA⟩ := h
      have hu := sliceT_eq he
      obtain ⟨inf, hinf, hsz2, _⟩ := info_of_cells (P := P) (t := e) hsz
      obtain ⟨h1, ⟨q1, hB⟩, k1⟩ := bound _ _ _ _ hhi hA
      clear hA
      obtain ⟨l1, ⟨q2, hC⟩, k2⟩ := bound _ _ _ _ hlo hB
      clear hB
      cases hx with
      | lstN ho =>
        simp only [List.length_nil] at q1
        have hr := runB true 0 0 h1 l1 (by omega) q2 k1 k2
        have e1 : h1 = 0 := by omega
        have e2 : l1 = 0 := by omega
        subst e1 e2
        refine Out.pure hinv (v := .slice none 0 0) ?_ ?_ hC
        · simp [Instr.sliceAt, Instr.slice, run_underlying hu, hr, sizeOf, run_typeInfo w hinf]
        · simpa using Rep.lstN (P := P) (G := G) (e := e) (own := .unk) trivial
      | lstZ =>
        rename_i a cap
        have hr := runB true 0 cap h1 l1 (by simp at q1; omega) q2 k1 k2
        have e1 : h1 = 0 := by simp at q1; omega
        have e2 : l1 = 0 := by omega
        subst e1 e2
        refine Out.pure hinv (v := .slice (some a) 0 cap) ?_ ?_ hC
        · simp [Instr.sliceAt, Instr.slice, run_underlying hu, hr, sizeOf, run_typeInfo w hinf, Addr.add]
        · simpa using Rep.lstZ (P := P) (G := G) (e := e)
      | lst vs hl hm hr hc ho =>
        rename_i b off cap
        have hrun := runB true elems.length cap h1 l1 (by omega) q2 k1 k2
        have hlen : ((elems.take h1).drop l1).length = h1 - l1 := by simp; omega
        have hget : ∀ i, i < h1 - l1 → ((elems.take h1).drop l1).getD i .any = elems.getD (l1 + i) .any := by
          intro i hi'
          simp only [List.getD_eq_getElem?_getD]
          rw [List.getElem?_drop, List.getElem?_take_of_lt (by omega)]
        by_cases hcl : cap = l1
        · subst hcl
          refine Out.pure hinv (v := .slice (some ⟨b, off, none⟩) (h1 - cap) (cap - cap)) ?_ ?_ hC
          · simp [Instr.sliceAt, Instr.slice, run_underlying hu, hrun, sizeOf, run_typeInfo w hinf]
          · exact Rep.lst' vs hlen (fun i hi' => by omega) (fun k hk => by rw [show h1 - cap = 0 by omega] at hk; omega) (fun i j hi' _ => by omega) (by omega) trivial
        · refine Out.pure hinv (v := .slice (some ⟨b, off + l1 * P.cellsOf e, none⟩) (h1 - l1) (cap - l1)) ?_ ?_ hC
          · simp [Instr.sliceAt, Instr.slice, run_underlying hu, hrun, sizeOf, run_typeInfo w hinf, hcl, hsz2, Addr.add_lit]
          · refine Rep.lst' (fun k => vs (l1 * P.cellsOf e + k)) hlen (fun i hi' => ?_) (fun k hk => ?_) (fun i j hi' hj => ?_) (by omega) trivial
            · rw [hget i (by omega)]; exact hl _ (by omega)
            · rw [Nat.add_assoc]
              refine hm _ ?_
              have : (l1 + (h1 - l1)) * P.cellsOf e ≤ elems.length * P.cellsOf e := Nat.mul_le_mul_right _ (by omega)
              rw [Nat.add_mul] at this
              omega
            · rw [hget i (by omega)]
              have := hr (l1 + i) j (by omega) hj
              rw [Nat.add_mul] at this
              simpa [Nat.add_assoc] using this
    · exact h.elim

end Go.AW
