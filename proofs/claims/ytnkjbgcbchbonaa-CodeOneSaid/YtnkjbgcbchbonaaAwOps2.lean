/- A layer of abstract values over the model's machine: own work for this claim, part AwOps2. -/
import Derived.Test.YtnkjbgcbchbonaaAwOps
set_option linter.unusedSimpArgs false
set_option linter.unusedVariables false
namespace Go.AW
open Go Go.RowKit

variable {P : Program} {G : Gh} {σ : AS} {w : World} {K Pn : AV → AS → Prop}

/-- Cells that may be laid in a block. -/
def AV.laid (v : AV) : Bool := v.okc && v.cells.all AV.one

theorem laid_cells {v : AV} {x : Value} (h : Rep P G v x) (hl : v.laid = true) :
    x.cells.size = v.cells.length ∧ ∀ k, k < v.cells.length → Rep P G (v.cells.getD k .any) (x.cells.getD k undef) ∧ (x.cells.getD k undef).oneCell' = true := by
  simp only [AV.laid, Bool.and_eq_true] at hl
  obtain ⟨c1, c2⟩ := h.cells hl.1
  refine ⟨c1, fun k hk => ⟨c2 k hk, (c2 k hk).one ?_⟩⟩
  exact List.all_eq_true.1 hl.2 (v.cells.getD k .any) (by rw [List.getD_eq_getElem?_getD, List.getElem?_eq_getElem hk]; exact List.getElem_mem _)

def zeroAV (P : Program) (t : TypeId) : AV := match (P.info? t).bind (·.zero) with | some v => ofC v | none => .any

theorem zeroAV_run {t : TypeId} (h : (zeroAV P t).laid = true) : ∃ z, (zeroValue t).run P w = .ok z w ∧ Rep P G (zeroAV P t) z := by
  unfold zeroAV at h ⊢
  cases hi : P.info? t with
  | none => simp [hi, AV.laid, AV.okc] at h
  | some i =>
    cases hz : i.zero with
    | none => simp [hi, hz, AV.laid, AV.okc] at h
    | some z =>
      simp only [hi, hz, Option.bind_some]
      exact ⟨z, by simp [zeroValue, Sem.run_bind, run_typeInfo w hi, hz], rep_ofC z⟩

/-- A new named block of a value's cells. -/
theorem newVar_out (hi : Inv P G σ w) (e : TypeId) {v : AV} {x : Value} (hv : Rep P G v x) (hl : v.laid = true) (h : ∀ id, σ id = none → K (.ptr id 0) (σ.set id (.cells e v.cells))) :
    ∃ G' σ', (newVar e x).run P w = .ok ⟨w.heap.size, 0, none⟩ (w.alloc (.cells x.cells e)) ∧ G.Le G' ∧ Inv P G' σ' (w.alloc (.cells x.cells e)) ∧
      Rep P G' (.ptr G.top 0) (.pointer (some ⟨w.heap.size, 0, none⟩)) ∧ K (.ptr G.top 0) σ' := by
  obtain ⟨c1, c2⟩ := laid_cells hv hl
  obtain ⟨G', g1, g2, g3⟩ := hi.allocCells e x.cells v.cells c1 c2
  exact ⟨G', _, by simp [newVar, newRow, Sem.run_bind, run_newObj_alloc, Result.andThen], g1, g3, .ptr g2, h _ hi.fresh⟩

def aAlloc (P : Program) (σ : AS) (e : TypeId) (K : AV → AS → Prop) : Prop :=
  (zeroAV P e).laid = true ∧ ∀ id, σ id = none → K (.ptr id 0) (σ.set id (.cells e (zeroAV P e).cells))

theorem aAlloc_out (hi : Inv P G σ w) {e : TypeId} (h : aAlloc P σ e K) : Out P G K Pn (((do pure (Next.value (← Instr.alloc e true (.tuple #[])))) : Sem Next).run P w) := by
  obtain ⟨h1, h2⟩ := h
  obtain ⟨z, hz, hr⟩ := zeroAV_run (P := P) (G := G) (w := w) h1
  obtain ⟨G', σ', k1, k2, k3, k4, k5⟩ := newVar_out hi e hr h1 h2
  refine Out.value (v := .pointer (some ⟨w.heap.size, 0, none⟩)) ?_ k2 k3 k4 k5
  simp [Instr.alloc, Sem.run_bind, hz, k1]

def aBox (P : Program) (σ : AS) (e : TypeId) (v : AV) (K : AV → AS → Prop) : Prop :=
  v.laid = true ∧ ∀ id, σ id = none → K (.ptr id 0) (σ.set id (.cells e v.cells))

theorem aBox_out (hi : Inv P G σ w) {e : TypeId} {v : AV} {x : Value} (hv : Rep P G v x) (h : aBox P σ e v K) : Out P G K Pn (((do pure (Next.value (← Instr.box e x))) : Sem Next).run P w) := by
  obtain ⟨G', σ', k1, k2, k3, k4, k5⟩ := newVar_out hi e hv h.1 h.2
  refine Out.value (v := .pointer (some ⟨w.heap.size, 0, none⟩)) ?_ k2 k3 k4 k5
  simp [Instr.box, Sem.run_bind, k1]

/-! ## structs and arrays as values -/

/-- Where a part lies: its first cell, how many. -/
def placeT (P : Program) (t : TypeId) (i : Nat) : Option (Nat × Nat) :=
  match P.underlying t with
  | some (.struct fs) => (fs[i]?).map fun f => (f.offset, P.cellsOf f.type)
  | some (.array _ e) => some (i * P.cellsOf e, P.cellsOf e)
  | _ => none

/-- What a field's load is. -/
def fieldT (P : Program) (t : TypeId) (i : Nat) : Option (Nat × LK) :=
  match P.underlying t with
  | some (.struct fs) => (fs[i]?).map fun f => (f.offset, lkT P f.type)
  | _ => none

def splice (cs : List AV) (off : Nat) (vs : List AV) : List AV := cs.take off ++ vs ++ cs.drop (off + vs.length)

def aParts (P : Program) (t : TypeId) : List AV → List (Nat × AV) → (List AV → Prop) → Prop
  | cs, [], K => K cs
  | cs, (i, v) :: r, K => match placeT P t i with
    | some (off, n) => v.okc = true ∧ v.cells.length = n ∧ n ≠ 0 ∧ off + n ≤ cs.length ∧ aParts P t (splice cs off v.cells) r K
    | none => False

theorem foldl_zipIdx (l : List Value) : ∀ (cs : Array Value) (off j : Nat), off + j + l.length ≤ cs.size →
    (l.zipIdx j).foldl (fun cs (p : Value × Nat) => cs.setIfInBounds (off + p.2) p.1) cs = updA cs (off + j) l := by
  induction l with
  | nil => intro cs off j _; rfl
  | cons v r ih =>
    intro cs off j h
    simp only [List.zipIdx_cons, List.foldl_cons, updA]
    rw [ih _ _ _ (by simp at h ⊢; omega)]
    rfl

theorem splice_length {cs vs : List AV} {off : Nat} (h : off + vs.length ≤ cs.length) : (splice cs off vs).length = cs.length := by
  simp [splice]; omega

theorem splice_get {cs vs : List AV} {off k : Nat} (h : off + vs.length ≤ cs.length) : (splice cs off vs).getD k .any = if off ≤ k ∧ k < off + vs.length then vs.getD (k - off) .any else cs.getD k .any := by
  have t : (cs.take off).length = off := by simp; omega
  unfold splice
  simp only [List.getD_eq_getElem?_getD]
  by_cases hc : off ≤ k ∧ k < off + vs.length
  · rw [if_pos hc, List.append_assoc, List.getElem?_append_right (by omega), t, List.getElem?_append_left (by omega)]
  · rw [if_neg hc]
    by_cases hlt : k < off
    · rw [List.append_assoc, List.getElem?_append_left (by omega), List.getElem?_take_of_lt hlt]
    · rw [List.append_assoc, List.getElem?_append_right (by omega), t, List.getElem?_append_right (by omega), List.getElem?_drop]
      congr 2; omega

def RepCells (P : Program) (G : Gh) (cs : List AV) (vs : Array Value) : Prop := vs.size = cs.length ∧ ∀ k, k < cs.length → Rep P G (cs.getD k .any) (vs.getD k undef)

theorem RepCells.splice {cs vs : List AV} {a : Array Value} {l : List Value} (h : RepCells P G cs a) {off : Nat} (hfit : off + vs.length ≤ cs.length) (hl : l.length = vs.length)
    (hr : ∀ k, k < vs.length → Rep P G (vs.getD k .any) (l.getD k undef)) : RepCells P G (splice cs off vs) (updA a off l) := by
  refine ⟨by rw [updA_size, h.1, splice_length hfit], fun k hk => ?_⟩
  rw [splice_length hfit] at hk
  rw [splice_get hfit, updA_get _ _ _ _ (by rw [h.1]; omega), hl]
  split
  · rename_i hc; exact hr _ (by omega)
  · exact h.2 k hk

theorem fill_ok {t : TypeId} (place : Nat → Option (Nat × Nat)) (hp : ∀ i, placeT P t i = place i ∨ placeT P t i = none) : ∀ (parts : List (Nat × AV)) (vparts : List (Nat × Value)) (cs : List AV) (a : Array Value) (K : List AV → Prop),
    vparts.length = parts.length → (∀ i, i < parts.length → (vparts.getD i (0, undef)).1 = (parts.getD i (0, .any)).1 ∧ Rep P G (parts.getD i (0, .any)).2 (vparts.getD i (0, undef)).2) →
    RepCells P G cs a → aParts P t cs parts K → ∃ a' cs', Instr.fill place a vparts = some a' ∧ RepCells P G cs' a' ∧ K cs' := by
  intro parts
  induction parts with
  | nil =>
    intro vparts cs a K hl _ hc h
    have : vparts = [] := List.length_eq_zero_iff.1 (by simpa using hl)
    subst this
    exact ⟨a, cs, rfl, hc, h⟩
  | cons p r ih =>
    intro vparts cs a K hl hrep hc h
    obtain ⟨i, v⟩ := p
    cases vparts with
    | nil => simp at hl
    | cons q vr =>
      obtain ⟨i', x⟩ := q
      have h0 := hrep 0 (by simp)
      simp at h0
      obtain ⟨rfl, hx⟩ := h0
      simp only [aParts] at h
      split at h
      · rename_i off n hpl
        obtain ⟨h1, h2, h3, h4, h5⟩ := h
        obtain ⟨c1, c2⟩ := hx.cells h1
        have hpl' : place i' = some (off, n) := by
          rcases hp i' with h | h
          · rw [← h, hpl]
          · rw [h] at hpl; cases hpl
        have hsz : x.cells.size = n := by omega
        have hfit : ¬ (off + n > a.size) := by rw [hc.1]; omega
        have hf : Array.foldl (fun cs (p : Value × Nat) => cs.setIfInBounds (off + p.2) p.1) a x.cells.zipIdx = updA a off x.cells.toList := by
          have := foldl_zipIdx x.cells.toList a off 0 (by rw [Nat.add_zero, Array.length_toList, hc.1]; omega)
          rw [Nat.add_zero] at this
          rw [← this, ← Array.foldl_toList]
          simp
        have hc' := hc.splice (off := off) (vs := v.cells) (l := x.cells.toList) (by omega) (by simpa using c1) (fun k hk => by
          have := c2 k hk
          simpa [List.getD_eq_getElem?_getD] using this)
        obtain ⟨a', cs', g1, g2, g3⟩ := ih vr _ _ K (by simpa using hl) (fun k hk => by
          have := hrep (k + 1) (by simpa using hk)
          simpa using this) hc' h5
        refine ⟨a', cs', ?_, g2, g3⟩
        simp only [Instr.fill, hpl', hsz, ne_eq, not_true_eq_false, decide_false, Bool.false_or, decide_eq_true_eq, hfit, if_false]
        rw [← g1]
        simp only [Bool.false_eq_true, if_false]
        rw [hf]
      · exact h.elim

end Go.AW
