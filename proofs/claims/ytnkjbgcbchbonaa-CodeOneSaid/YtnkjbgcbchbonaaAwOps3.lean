/- A layer of abstract values over the model's machine: own work for this claim, part AwOps3. -/
import Derived.Test.YtnkjbgcbchbonaaAwOps2
set_option linter.unusedSimpArgs false
set_option linter.unusedVariables false
namespace Go.AW
open Go Go.RowKit

variable {P : Program} {G : Gh} {σ : AS} {w : World} {K Pn : AV → AS → Prop}

def buildT (P : Program) (t : TypeId) : Bool :=
  match P.underlying t with
  | some (.struct fs) => (fs.toList.mapM (fun f => (P.info? f.type).map fun i => (f.offset, i.size))).isSome
  | some (.array _ e) => (P.info? e).isSome
  | _ => false

theorem mapM_places {fs : List Field} {places : List (Nat × Nat)} (h : fs.mapM (fun f => (P.info? f.type).map fun i => (f.offset, i.size)) = some places) :
    places = fs.map fun f => (f.offset, P.cellsOf f.type) := by
  induction fs generalizing places with
  | nil => simp at h; subst h; rfl
  | cons f fs ih =>
    simp only [List.mapM_cons, Option.bind_eq_bind, Option.pure_def] at h
    cases hi : P.info? f.type with
    | none => simp [hi] at h
    | some i =>
      cases hr : fs.mapM (fun f => (P.info? f.type).map fun i => (f.offset, i.size)) with
      | none => simp [hi, hr] at h
      | some rest =>
        simp [hi, hr] at h
        subst h
        rw [ih hr]
        simp [Program.cellsOf, hi]

def aBuild (P : Program) (t : TypeId) (parts : List (Nat × AV)) (K : AV → Prop) : Prop :=
  buildT P t = true ∧ (zeroAV P t).laid = true ∧ aParts P t (zeroAV P t).cells parts fun cs => K (.agg cs)

theorem zeroAV_info {t : TypeId} (h : (zeroAV P t).laid = true) : ∃ i z, P.info? t = some i ∧ i.zero = some z ∧ zeroAV P t = ofC z := by
  unfold zeroAV at h ⊢
  cases hi : P.info? t with
  | none => simp [hi, AV.laid, AV.okc] at h
  | some i =>
    cases hz : i.zero with
    | none => simp [hi, hz, AV.laid, AV.okc] at h
    | some z => exact ⟨i, z, rfl, hz, by simp [hz]⟩

theorem aBuild_out (hi : Inv P G σ w) {t : TypeId} {parts : Array (Nat × Operand)} {s : Fr} {ρ : Operand → Value} (hρ : ∀ x, Rep P G (ev s x) (ρ x))
    (h : aBuild P t (parts.toList.map fun p => (p.1, ev s p.2)) fun v => K v σ) :
    Out P G K Pn (((do pure (Next.value (← Instr.build t (parts.map fun (i, x) => (i, ρ x))))) : Sem Next).run P w) := by
  obtain ⟨h1, h2, h3⟩ := h
  obtain ⟨it, z, hit, hz, hzr⟩ := zeroAV_info h2
  have hrz : Rep P G (zeroAV P t) z := by rw [hzr]; exact rep_ofC z
  have hc := laid_cells hrz h2
  have hrc : RepCells P G (zeroAV P t).cells z.cells := ⟨hc.1, fun k hk => (hc.2 k hk).1⟩
  have hvp : (parts.map fun (i, x) => (i, ρ x)).toList = parts.toList.map fun p => (p.1, ρ p.2) := by simp
  have hparts : ∀ (place : Nat → Option (Nat × Nat)), (∀ i, placeT P t i = place i ∨ placeT P t i = none) →
      ∃ a' cs', Instr.fill place z.cells (parts.map fun (i, x) => (i, ρ x)).toList = some a' ∧ RepCells P G cs' a' ∧ K (.agg cs') σ := by
    intro place hp
    rw [hvp]
    refine fill_ok (K := fun cs => K (.agg cs) σ) place hp _ _ _ _ (by simp) (fun i hi => ?_) hrc h3
    simp at hi
    simp [List.getD_eq_getElem?_getD, hi]
    exact hρ _
  have fin : ∀ a' cs', P.built t (parts.map fun (i, x) => (i, ρ x)).toList = some a' → RepCells P G cs' a' → K (.agg cs') σ →
      Out P G K Pn (((do pure (Next.value (← Instr.build t (parts.map fun (i, x) => (i, ρ x))))) : Sem Next).run P w) := by
    intro a' cs' hb hr hk
    refine Out.pure hi (run_build w t _ a' hb) ?_ hk
    have := Rep.agg (P := P) (G := G) (cells := cs') a'.toList (by simpa using hr.1) (fun i hi => by
      have := hr.2 i hi
      simpa [List.getD_eq_getElem?_getD] using this)
    simpa using this
  unfold buildT at h1
  split at h1
  · rename_i fs hu
    cases hp : fs.toList.mapM (fun f => (P.info? f.type).map fun i => (f.offset, i.size)) with
    | none => rw [hp] at h1; cases h1
    | some places =>
      have hpl := mapM_places hp
      obtain ⟨a', cs', g1, g2, g3⟩ := hparts (places.toArray[·]?) (fun i => by
        left
        simp [placeT, hu, hpl])
      exact fin a' cs' (by simp [Program.built, hit, hu, hz, hp] at g1 ⊢; exact g1) g2 g3
  · rename_i n e hu
    cases hie : P.info? e with
    | none => rw [hie] at h1; cases h1
    | some ie =>
      obtain ⟨a', cs', g1, g2, g3⟩ := hparts (fun i => some (i * ie.size, ie.size)) (fun i => by
        left
        simp [placeT, hu, Program.cellsOf, hie])
      exact fin a' cs' (by simp [Program.built, hit, hu, hz, hie] at g1 ⊢; exact g1) g2 g3
  · cases h1

/-! ## slices that are written out -/

def sliceT (P : Program) (t : TypeId) : Option TypeId := match P.underlying t with | some (.slice e) => some e | _ => none

theorem sliceT_eq {t e : TypeId} (h : sliceT P t = some e) : P.underlying t = some (.slice e) := by
  unfold sliceT at h
  split at h
  · cases h; assumption
  · cases h

/-- The elements of a written slice: each place once, in order. -/
def aElems (n : Nat) : Nat → List (Nat × AV) → Bool
  | k, [] => true
  | k, (i, v) :: r => i == k && v.laid && v.cells.length == n && aElems n (k + 1) r

def aBuildSlice (P : Program) (σ : AS) (t : TypeId) (len : Nat) (parts : List (Nat × AV)) (K : AV → AS → Prop) : Prop :=
  match sliceT P t with
  | some e => parts.length = len ∧ P.cellsOf e ≠ 0 ∧ len * P.cellsOf e ≤ 2 ^ 24 ∧ (zeroAV P e).laid = true ∧ (zeroAV P e).cells.length = P.cellsOf e ∧ aElems (P.cellsOf e) 0 parts = true ∧
      K (.lst e (parts.map (·.2)) .full false) σ
  | none => False

theorem fill_elems {e : TypeId} : ∀ (parts : List (Nat × AV)) (vparts : List (Nat × Value)) (k m : Nat) (a : Array Value),
    vparts.length = parts.length → (∀ i, i < parts.length → (vparts.getD i (0, undef)).1 = (parts.getD i (0, .any)).1 ∧ Rep P G (parts.getD i (0, .any)).2 (vparts.getD i (0, undef)).2) →
    aElems m k parts = true → (k + parts.length) * m = a.size →
    (∀ c, c < k * m → (a.getD c undef).oneCell' = true) →
    ∃ a', Instr.fill (fun i => some (i * m, m)) a vparts = some a' ∧ a'.size = a.size ∧ (∀ c, c < k * m → a'.getD c undef = a.getD c undef) ∧
      (∀ i j, i < parts.length → j < m → Rep P G ((parts.getD i (0, .any)).2.cells.getD j .any) (a'.getD ((k + i) * m + j) undef) ∧ (a'.getD ((k + i) * m + j) undef).oneCell' = true) := by
  intro parts
  induction parts with
  | nil =>
    intro vparts k m a hl _ _ _ _
    have : vparts = [] := List.length_eq_zero_iff.1 (by simpa using hl)
    subst this
    exact ⟨a, rfl, rfl, fun _ _ => rfl, fun i j hi => by simp at hi⟩
  | cons p r ih =>
    intro vparts k m a hl hrep hel hsz hone
    obtain ⟨i, v⟩ := p
    cases vparts with
    | nil => simp at hl
    | cons q vr =>
      obtain ⟨i', x⟩ := q
      have h0 := hrep 0 (by simp)
      simp at h0
      obtain ⟨rfl, hx⟩ := h0
      simp only [aElems, Bool.and_eq_true, beq_iff_eq] at hel
      obtain ⟨⟨⟨rfl, hlaid⟩, hlen⟩, hel⟩ := hel
      obtain ⟨c1, c2⟩ := laid_cells hx hlaid
      have hsx : x.cells.size = m := by omega
      have hfitn : i' * m + m ≤ a.size := by
        rw [← hsz]
        have : (i' + 1) * m ≤ (i' + (((i', v) :: r).length)) * m := Nat.mul_le_mul_right _ (by simp)
        rw [Nat.add_mul] at this
        omega
      have hf : Array.foldl (fun cs (p : Value × Nat) => cs.setIfInBounds (i' * m + p.2) p.1) a x.cells.zipIdx = updA a (i' * m) x.cells.toList := by
        have := foldl_zipIdx x.cells.toList a (i' * m) 0 (by rw [Nat.add_zero, Array.length_toList]; omega)
        rw [Nat.add_zero] at this
        rw [← this, ← Array.foldl_toList]
        simp
      have hget : ∀ c, (updA a (i' * m) x.cells.toList).getD c undef = if i' * m ≤ c ∧ c < i' * m + m then x.cells.getD (c - i' * m) undef else a.getD c undef := by
        intro c
        rw [updA_get _ _ _ _ (by simp; omega)]
        simp only [Array.length_toList, hsx]
        split
        · simp [List.getD_eq_getElem?_getD]
        · rfl
      have hm1 : (i' + 1) * m = i' * m + m := by rw [Nat.add_mul]; omega
      obtain ⟨a', g1, g2, g3, g4⟩ := ih vr (i' + 1) m (updA a (i' * m) x.cells.toList) (by simpa using hl) (fun k hk => by
          have := hrep (k + 1) (by simpa using hk)
          simpa using this) hel (by rw [updA_size, ← hsz]; congr 1; simp; omega) (fun c hc => by
            rw [hget]
            split
            · rename_i hcc
              exact (c2 (c - i' * m) (by omega)).2
            · exact hone c (by omega))
      refine ⟨a', ?_, by rw [g2, updA_size], fun c hc => ?_, fun i j hi hj => ?_⟩
      · simp only [Instr.fill, hsx, ne_eq, not_true_eq_false, decide_false, Bool.false_or, decide_eq_true_eq, show ¬ (i' * m + m > a.size) by omega, if_false, Bool.false_eq_true]
        rw [← g1, hf]
      · rw [g3 c (by omega), hget, if_neg (by omega)]
      · cases i with
        | zero =>
          simp only [Nat.add_zero]
          rw [g3 _ (by omega), hget, if_pos (by omega)]
          have : i' * m + j - i' * m = j := by omega
          rw [this]
          exact c2 j (by omega)
        | succ i =>
          have := g4 i j (by simpa using hi) hj
          rw [show i' + 1 + i = i' + (i + 1) by omega] at this
          simpa using this

theorem aBuildSlice_out (hi : Inv P G σ w) {t : TypeId} {len : Nat} {parts : Array (Nat × Operand)} {s : Fr} {ρ : Operand → Value} (hρ : ∀ x, Rep P G (ev s x) (ρ x))
    (h : aBuildSlice P σ t len (parts.toList.map fun p => (p.1, ev s p.2)) K) :
    Out P G K Pn (((do pure (Next.value (← Instr.buildSlice t len (parts.map fun (i, x) => (i, ρ x))))) : Sem Next).run P w) := by
  unfold aBuildSlice at h
  split at h
  · rename_i e he
    obtain ⟨h1, h2, h3, h4, h5, h6, h7⟩ := h
    have hu := sliceT_eq he
    obtain ⟨it, z, hit, hz, hzr⟩ := zeroAV_info h4
    have hsz : it.size = P.cellsOf e := by simp [Program.cellsOf, hit]
    have hvp : (parts.map fun (i, x) => (i, ρ x)).toList = parts.toList.map fun p => (p.1, ρ p.2) := by simp
    have hlen : parts.toList.length = len := by simpa using h1
    let zero : Array Value := if len * P.cellsOf e = 0 then #[] else z.cells
    let init : Array Value := (Array.range (len * P.cellsOf e)).map (zero[· % zero.size]!)
    obtain ⟨a', g1, g2, _, g4⟩ := fill_elems (P := P) (G := G) (e := e) (parts.toList.map fun p => (p.1, ev s p.2)) (parts.toList.map fun p => (p.1, ρ p.2)) 0 (P.cellsOf e) init (by simp) (fun i hi => by
      simp at hi
      simp [List.getD_eq_getElem?_getD, hi]
      exact hρ _) h6 (by simp at hlen; simp [init, hlen]) (fun c hc => by omega)
    have hsize : a'.size = len * P.cellsOf e := by rw [g2]; simp [init]
    have hrun : (Instr.buildSlice t len (parts.map fun (i, x) => (i, ρ x))).run P w = .ok (.slice (some ⟨w.heap.size, 0, none⟩) len len) (w.alloc (.cells a' e)) := by
      have hsz' : ¬ (len * P.cellsOf e > 2 ^ 24) := by omega
      have g1' : Instr.fill (fun i => some (i * P.cellsOf e, P.cellsOf e)) ((Array.range (len * P.cellsOf e)).map (zero[· % zero.size]!)) (parts.map fun (i, x) => (i, ρ x)).toList = some a' := by rw [hvp]; exact g1
      simp only [Instr.buildSlice, Sem.run_bind, run_underlying hu, Result.andThen, sizeOf, run_typeInfo w hit, Sem.run_pure, hsz, hsz', if_false]
      by_cases h0 : len * P.cellsOf e = 0
      · simp only [zero, h0, if_true] at g1'
        simp [h0, Sem.run_bind, Result.andThen, g1', newRow, run_newObj_alloc]
        simp at g1'
        simp [g1', newRow, run_newObj_alloc, Sem.run_bind, Result.andThen]
      · simp only [zero, h0, if_false] at g1'
        simp only [h0, if_false, Sem.run_bind, zeroValue, run_typeInfo w hit, hz, Result.andThen, Sem.run_pure]
        rw [g1']
        simp [newRow, run_newObj_alloc, Sem.run_bind, Result.andThen]
    let vs : Nat → Value := fun k => a'.getD k undef
    have hidx : ∀ k, k < len * P.cellsOf e → k / P.cellsOf e < len ∧ k % P.cellsOf e < P.cellsOf e ∧ (k / P.cellsOf e) * P.cellsOf e + k % P.cellsOf e = k := fun k hk =>
      ⟨Nat.div_lt_of_lt_mul (by rw [Nat.mul_comm]; exact hk), Nat.mod_lt _ (by omega), by rw [Nat.mul_comm]; exact Nat.div_add_mod k _⟩
    obtain ⟨hle, hinv⟩ := hi.keepNew e a' (len * P.cellsOf e) vs (by omega) (fun k hk => by
      obtain ⟨k1, k2, k3⟩ := hidx k hk
      have := (g4 (k / P.cellsOf e) (k % P.cellsOf e) (by simp at hlen ⊢; omega) k2).2
      rw [Nat.zero_add, k3] at this
      exact ⟨by simp [vs, hsize, hk], this⟩)
    refine Out.value hrun hle hinv ?_ h7
    have hmap : ((parts.toList.map fun p => (p.1, ev s p.2)).map (·.2)).length = len := by simpa using h1
    have hel : ∀ i, i < len → ((((parts.toList.map fun (p : Nat × Operand) => (p.1, ev s p.2)).map (fun (q : Nat × AV) => q.2)).getD i AV.any).cells.length = P.cellsOf e) ∧
        ((parts.toList.map fun (p : Nat × Operand) => (p.1, ev s p.2)).map (fun (q : Nat × AV) => q.2)).getD i AV.any = ((parts.toList.map fun (p : Nat × Operand) => (p.1, ev s p.2)).getD i (0, AV.any)).2 := by
      intro i hi'
      have hlen' : i < (parts.toList.map fun p => (p.1, ev s p.2)).length := by simp at hlen ⊢; omega
      refine ⟨?_, by simp only [List.getD_eq_getElem?_getD, List.getElem?_map, List.getElem?_eq_getElem hlen', Option.map_some, Option.getD_some]⟩
      have key : ∀ (l : List (Nat × AV)) (k : Nat), aElems (P.cellsOf e) k l = true → ∀ i, i < l.length → ((l.map (fun (q : Nat × AV) => q.2)).getD i AV.any).cells.length = P.cellsOf e := by
        intro l
        induction l with
        | nil => intro k _ i hi; simp at hi
        | cons p r ih =>
          intro k hk i hi
          obtain ⟨q, v⟩ := p
          simp only [aElems, Bool.and_eq_true, beq_iff_eq] at hk
          cases i with
          | zero => simpa using hk.1.2
          | succ i => simpa using ih (k + 1) hk.2 i (by simpa using hi)
      exact key _ 0 h6 i hlen'
    refine Rep.lst' vs hmap (fun i hi' => (hel i (by omega)).1) (fun k hk => ?_) (fun i j hi' hj => ?_) (Nat.le_refl _) ⟨_, rfl⟩
    · rw [Gh.keep_in (by omega) (by omega)]; simp
    · rw [(hel i (by omega)).2]
      have := (g4 i j (by simp at hlen ⊢; omega) hj).1
      rw [Nat.zero_add] at this
      exact this.mono hle
  · exact h.elim

end Go.AW
