/- A layer of abstract values over the model's machine: own work for this claim, part AwOps. -/
import Derived.Test.YtknalmoackcpbaaGreatAwCore
import Derived.Laws.StructEq
import Derived.Laws.IdiomStrings
import Derived.MapKept
set_option linter.unusedSimpArgs false
set_option linter.unusedVariables false
namespace Go.AW
open Go Go.RowKit
variable {P : Program} {G : Gh} {σ : AS} {w : World}
abbrev Fr := Nat → AV
def Fr.put (s : Fr) (d : Option Nat) (v : AV) : Fr := match d with | none => s | some d => fun i => if i = d then v else s i
def ofC1 : Value → AV
  | .slice none 0 0 => .nilS
  | v => .sc v
def ofC : Value → AV
  | .slice none 0 0 => .nilS
  | .agg cs => .agg (cs.toList.map ofC1)
  | v => .sc v
theorem rep_ofC1 (v : Value) : Rep P G (ofC1 v) v := by
  unfold ofC1
  split
  · exact .nilS
  · exact .sc _
theorem rep_ofC (v : Value) : Rep P G (ofC v) v := by
  unfold ofC
  split
  · exact .nilS
  · rename_i cs
    have := Rep.agg (P := P) (G := G) (cells := cs.toList.map ofC1) cs.toList (by simp) (fun i hi => by
      simp at hi
      simp [hi]
      exact rep_ofC1 _)
    simpa using this
  · exact .sc _
def ev (s : Fr) : Operand → AV
  | .tmp t => s t
  | .const v => ofC v
  | .global _ => .any
  | .func f => .sc (.func (.func f) #[] #[])
structure Sim (P : Program) (G : Gh) (n : Nat) (ds : List Deferred) (s : Fr) (σ : AS) (a : Act) (w : World) : Prop where
  inv : Inv P G σ w
  size : a.tmps.size = n
  ds : a.defers = ds
  rep : ∀ i, Rep P G (s i) (a.tmps.getD i undef)
theorem Sim.ev {n : Nat} {ds : List Deferred} {s : Fr} {a : Act} (h : Sim P G n ds s σ a w) (x : Operand) : Rep P G (ev s x) (a.eval x) := by
  cases x with
  | tmp t => exact h.rep t
  | const v => exact rep_ofC v
  | global g => exact .any _
  | func f => exact .sc _
theorem Sim.put {n : Nat} {ds : List Deferred} {s : Fr} {a : Act} {G' : Gh} {σ' : AS} {w' : World} (h : Sim P G n ds s σ a w) (hle : G.Le G') (hi : Inv P G' σ' w') (d : Option Nat) (hd : ∀ t, d = some t → t < n)
    {v : AV} {x : Value} (hv : Rep P G' v x) : Sim P G' n ds (s.put d v) σ' (a.put d x) w' := by
  cases d with
  | none => exact ⟨hi, h.size, h.ds, fun i => (h.rep i).mono hle⟩
  | some t =>
    have ht := hd t rfl
    refine ⟨hi, by simp [Act.put, h.size], h.ds, fun i => ?_⟩
    by_cases hit : i = t
    · subst hit
      have : i < a.tmps.size := by rw [h.size]; exact ht
      simp [Fr.put, Act.put, this]
      exact hv
    · simp only [Fr.put, Act.put, hit, if_false]
      have : (a.tmps.setIfInBounds t x).getD i undef = a.tmps.getD i undef := by
        simp [Array.getElem?_setIfInBounds_ne (fun e => hit e.symm)]
      rw [this]
      exact (h.rep i).mono hle
def Out (P : Program) (G : Gh) (K Pn : AV → AS → Prop) : Result Next → Prop
  | .ok (.value v) w' => ∃ G' σ' av, G.Le G' ∧ Inv P G' σ' w' ∧ Rep P G' av v ∧ K av σ'
  | .ok .skip w' => ∃ G' σ' av, G.Le G' ∧ Inv P G' σ' w' ∧ Rep P G' av undef ∧ K av σ'
  | .halt (.panic v) w' => ∃ G' σ' av, G.Le G' ∧ Inv P G' σ' w' ∧ Rep P G' av v ∧ Pn av σ'
  | _ => False
theorem run_v {s : Sem Value} {v : Value} {w' : World} (h : s.run P w = .ok v w') : ((do pure (Next.value (← s))) : Sem Next).run P w = .ok (.value v) w' := by
  simp [Sem.run_bind, h]
theorem run_u {s : Sem Unit} {w' : World} (h : s.run P w = .ok () w') : ((do s; pure Next.skip) : Sem Next).run P w = .ok .skip w' := by
  simp [Sem.run_bind, h]
variable {K Pn : AV → AS → Prop}
theorem Out.value {s : Sem Value} {v : Value} {w' : World} {G' : Gh} {σ' : AS} {av : AV} (h : s.run P w = .ok v w') (hle : G.Le G') (hi : Inv P G' σ' w') (hr : Rep P G' av v) (hk : K av σ') :
    Out P G K Pn (((do pure (Next.value (← s))) : Sem Next).run P w) := by
  rw [run_v h]
  exact ⟨G', σ', av, hle, hi, hr, hk⟩
theorem Out.unit {s : Sem Unit} {w' : World} {G' : Gh} {σ' : AS} {av : AV} (h : s.run P w = .ok () w') (hle : G.Le G') (hi : Inv P G' σ' w') (hr : Rep P G' av undef) (hk : K av σ') :
    Out P G K Pn (((do s; pure Next.skip) : Sem Next).run P w) := by
  rw [run_u h]
  exact ⟨G', σ', av, hle, hi, hr, hk⟩
theorem Out.pure {s : Sem Value} {v : Value} {av : AV} (hi : Inv P G σ w) (h : s.run P w = .ok v w) (hr : Rep P G av v) (hk : K av σ) :
    Out P G K Pn (((do pure (Next.value (← s))) : Sem Next).run P w) := Out.value h (.refl G) hi hr hk
/-! ## types -/
inductive LK where
  | agg (n : Nat) | one | bad
def lkT (P : Program) (t : TypeId) : LK :=
  match P.underlying t with
  | some (.struct _) | some (.array _ _) => .agg (P.cellsOf t)
  | some _ => if P.cellsOf t = 1 then .one else .bad
  | none => .bad
theorem info_of_cells {t : TypeId} (h : P.cellsOf t ≠ 0) : ∃ i, P.info? t = some i ∧ i.size = P.cellsOf t ∧ i.bytes = P.bytesOf t := by
  cases hi : P.info? t with
  | none => simp [Program.cellsOf, hi] at h
  | some i => exact ⟨i, rfl, by simp [Program.cellsOf, hi], by simp [Program.bytesOf, hi]⟩
theorem lkT_one {t : TypeId} (h : lkT P t = .one) : (isAgg t).run P w = .ok false w ∧ P.cellsOf t = 1 := by
  unfold lkT at h
  split at h
  · cases h
  · cases h
  · rename_i d hs ha hu
    have h1 : P.cellsOf t = 1 := by
      by_cases hc : P.cellsOf t = 1
      · exact hc
      · rw [if_neg hc] at h; cases h
    refine ⟨?_, h1⟩
    simp only [isAgg, Sem.run_bind, run_underlying hu, Result.andThen]
    cases d <;> first | rfl | (exfalso; simp at hs ha; done) | skip
  · cases h
theorem lkT_agg {t : TypeId} {n : Nat} (h : lkT P t = .agg n) : (isAgg t).run P w = .ok true w ∧ P.cellsOf t = n := by
  unfold lkT at h
  split at h
  · rename_i hu
    cases h
    exact ⟨by simp [isAgg, Sem.run_bind, run_underlying hu, Result.andThen], rfl⟩
  · rename_i hu
    cases h
    exact ⟨by simp [isAgg, Sem.run_bind, run_underlying hu, Result.andThen], rfl⟩
  · split at h <;> cases h
  · cases h
/-! ## loads -/
def Reads (w : World) (b off : Nat) (vs : Nat → Value) (n : Nat) : Prop := ∀ k, k < n → w.cell? ⟨b, off + k, none⟩ = some (vs k)
theorem run_loadVar_one {t : TypeId} (h : lkT P t = .one) {b off : Nat} {vs : Nat → Value} (hr : Reads w b off vs 1) : (loadVar t ⟨b, off, none⟩).run P w = .ok (vs 0) w := by
  have := hr 0 (by omega)
  simp only [Nat.add_zero] at this
  simp [loadVar, Sem.run_bind, (lkT_one (w := w) h).1, load, Sem.run, this]
theorem run_loadVar_agg {t : TypeId} {n : Nat} (h : lkT P t = .agg n) {b off : Nat} {vs : Nat → Value} (hn : n ≠ 0) (hr : Reads w b off vs n) :
    (loadVar t ⟨b, off, none⟩).run P w = .ok (.agg ((List.range n).map vs).toArray) w := by
  obtain ⟨h1, h2⟩ := lkT_agg (w := w) h
  obtain ⟨i, hi, hi2, _⟩ := info_of_cells (P := P) (t := t) (by omega)
  have h3 := run_loadCells_list (P := P) w ⟨b, off, none⟩ ((List.range n).map vs) (fun j v hv => by
    have hj : j < n := by
      rcases Nat.lt_or_ge j n with h | h
      · exact h
      · rw [List.getElem?_eq_none (by simpa using h)] at hv; cases hv
    rw [Addr.add_lit, hr j hj]
    simpa [hj] using hv)
  simp only [List.length_map, List.length_range] at h3
  simp [loadVar, Sem.run_bind, h1, sizeOf, run_typeInfo w hi, hi2, h2, h3]
def aLoad (P : Program) (σ : AS) (t : TypeId) (x : AV) (K : AV → Prop) : Prop :=
  match x, lkT P t with
  | .ptr id off, .one => match σ id with | some (.cells _ cs) => off < cs.length ∧ K (cs.getD off .any) | _ => False
  | .ptr id off, .agg n => match σ id with | some (.cells _ cs) => n ≠ 0 ∧ off + n ≤ cs.length ∧ K (.agg ((cs.drop off).take n)) | _ => False
  | .cptr cells, .one => 0 < cells.length ∧ K (cells.getD 0 .any)
  | .cptr cells, .agg n => n ≠ 0 ∧ n ≤ cells.length ∧ K (.agg (cells.take n))
  | _, _ => False
theorem cell_of_heap {b off : Nat} {vs : Array Value} {ty : TypeId} {fz : Nat × Nat} (h : w.heap[b]? = some (.cells vs ty fz)) (ho : off < vs.size) : w.cell? ⟨b, off, none⟩ = some (vs.getD off undef) := by
  simp [World.cell?, h, ho]
theorem aLoad_val {K : AV → Prop} (hi : Inv P G σ w) {t : TypeId} {x : AV} {v : Value} (hx : Rep P G x v) (h : aLoad P σ t x K) :
    ∃ a y av, v = .pointer (some a) ∧ (loadVar t a).run P w = .ok y w ∧ Rep P G av y ∧ K av := by
  unfold aLoad at h
  split at h
  · rename_i id off hl
    split at h
    · rename_i ty cs hs
      cases hx with
      | ptr hb =>
        obtain ⟨b', vs, k1, k2, k3, k4⟩ := hi.cells _ _ _ hs
        rw [hb] at k1
        obtain rfl := Option.some.inj k1
        exact ⟨_, vs.getD off undef, _, rfl, run_loadVar_one (vs := fun k => vs.getD (off + k) undef) hl (fun k hk => cell_of_heap k2 (by omega)), (k4 off h.1).1, h.2⟩
    · exact h.elim
  · rename_i id off n hl
    split at h
    · rename_i ty cs hs
      cases hx with
      | ptr hb =>
        obtain ⟨b', vs, k1, k2, k3, k4⟩ := hi.cells _ _ _ hs
        rw [hb] at k1
        obtain rfl := Option.some.inj k1
        refine ⟨_, .agg ((List.range n).map fun k => vs.getD (off + k) undef).toArray, _, rfl, run_loadVar_agg (vs := fun k => vs.getD (off + k) undef) hl h.1 (fun k hk => cell_of_heap k2 (by omega)), .agg _ ?_ ?_, h.2.2⟩
        · simp; omega
        · intro i hi'
          have hin : i < n := by simp at hi'; omega
          have := (k4 (off + i) (by omega)).1
          simp only [List.getD_eq_getElem?_getD] at this ⊢
          rw [List.getElem?_take_of_lt hin, List.getElem?_drop]
          simpa [hin] using this
    · exact h.elim
  · rename_i cells hl
    cases hx with
    | cptr vs hm hr => exact ⟨_, vs 0, _, rfl, run_loadVar_one hl (fun k hk => (hi.mem _ _ _ (hm k (by omega))).1), hr 0 h.1, h.2⟩
  · rename_i cells n hl
    cases hx with
    | cptr vs hm hr =>
      refine ⟨_, .agg ((List.range n).map vs).toArray, _, rfl, run_loadVar_agg hl h.1 (fun k hk => (hi.mem _ _ _ (hm k (by omega))).1), .agg _ ?_ ?_, h.2.2⟩
      · simp; omega
      · intro i hi'
        have hin : i < n := by simp at hi'; omega
        have := hr i (by omega)
        simp only [List.getD_eq_getElem?_getD] at this ⊢
        rw [List.getElem?_take_of_lt hin]
        simpa [hin] using this
  · exact h.elim
theorem aLoad_out (hi : Inv P G σ w) {t : TypeId} {x : AV} {v : Value} (hx : Rep P G x v) (h : aLoad P σ t x fun v => K v σ) :
    Out P G K Pn (((do pure (Next.value (← Instr.loadAt t v))) : Sem Next).run P w) := by
  obtain ⟨a, y, av, rfl, h1, h2, h3⟩ := aLoad_val hi hx h
  refine Out.pure hi (v := y) ?_ h2 h3
  simpa only [Instr.loadAt, Instr.sureAddr, Sem.run_bind, Sem.run_pure, Result.andThen] using h1
/-! ## stores -/
def aStore (P : Program) (σ : AS) (t : TypeId) (x v : AV) (K : AS → Prop) : Prop :=
  match x with
  | .ptr id off => match σ id with
    | some (.cells ty cs) => v.okc = true ∧ v.cells.all AV.one = true ∧ v.cells.length = P.cellsOf t ∧ P.cellsOf t ≠ 0 ∧ off + v.cells.length ≤ cs.length ∧
        K (σ.set id (.cells ty (cs.take off ++ v.cells ++ cs.drop (off + v.cells.length))))
    | _ => False
  | _ => False
theorem aStore_out (hi : Inv P G σ w) {t : TypeId} {x v : AV} {xv vv : Value} (hx : Rep P G x xv) (hv : Rep P G v vv) (h : aStore P σ t x v fun σ' => K .any σ') :
    Out P G K Pn (((do Instr.storeAt t xv vv; pure Next.skip) : Sem Next).run P w) := by
  unfold aStore at h
  split at h
  · rename_i id off
    split at h
    · rename_i ty cs hs
      obtain ⟨h1, h2, h3, h4, h5, h6⟩ := h
      cases hx with
      | ptr hb =>
        rename_i b
        obtain ⟨b', cur, k1, k2, k3, k4⟩ := hi.cells _ _ _ hs
        rw [hb] at k1
        obtain rfl := Option.some.inj k1
        obtain ⟨c1, c2⟩ := hv.cells h1
        obtain ⟨i, hinf, hi2, _⟩ := info_of_cells (P := P) (t := t) h4
        have hone : ∀ k, k < v.cells.length → (vv.cells.getD k undef).oneCell' = true := fun k hk => by
          refine (c2 k hk).one ?_
          have := List.all_eq_true.1 h2 (v.cells.getD k .any) (by
            rw [List.getD_eq_getElem?_getD, List.getElem?_eq_getElem hk]; exact List.getElem_mem _)
          exact this
        have hst := run_storeCells_cells (P := P) b off vv.cells.toList 0 w
          (fun j hj => by rw [Nat.add_zero, cell_of_heap k2 (by simp at hj; omega)]; rfl)
          (fun j hj => by simp [World.frozen?, k2])
          (fun u hu => by
            obtain ⟨k, hk, rfl⟩ := List.getElem_of_mem hu
            have := hone k (by simp at hk; omega)
            simp at hk
            simpa [hk] using this)
        simp only [Nat.add_zero] at hst
        refine Out.unit (w' := w.setCells b off vv.cells.toList) ?_ (.refl G) (hi.store hs off vv.cells.toList v.cells (by simpa using c1) (by simp; omega) (fun k hk => ?_) b hb) (.any _) h6
        · simp only [Instr.storeAt, Instr.sureAddr, Sem.run_bind, Sem.run_pure, Result.andThen]
          simp only [storeVar, Sem.run_bind, sizeOf, run_typeInfo w hinf, Result.andThen, Sem.run_pure, c1, h3, hi2]
          simp [hst]
        · have e1 : vv.cells.toList.getD k undef = vv.cells.getD k undef := by simp [List.getD_eq_getElem?_getD]
          rw [e1]
          exact ⟨c2 k hk, hone k hk⟩
    · exact h.elim
  · exact h.elim
end Go.AW

set_option linter.unusedSimpArgs false
set_option linter.unusedVariables false
namespace Go.AW
open Go Go.RowKit
variable {P : Program} {G : Gh} {σ : AS} {w : World} {K Pn : AV → AS → Prop}
def AV.laid (v : AV) : Bool := v.okc && v.cells.all AV.one
theorem laid_cells {v : AV} {x : Value} (h : Rep P G v x) (hl : v.laid = true) :
    x.cells.size = v.cells.length ∧ ∀ k, k < v.cells.length → Rep P G (v.cells.getD k .any) (x.cells.getD k undef) ∧ (x.cells.getD k undef).oneCell' = true := by
  simp only [AV.laid, Bool.and_eq_true] at hl
  obtain ⟨c1, c2⟩ := h.cells hl.1
  refine ⟨c1, fun k hk => ⟨c2 k hk, (c2 k hk).one ?_⟩⟩
  exact List.all_eq_true.1 hl.2 (v.cells.getD k .any) (by rw [List.getD_eq_getElem?_getD, List.getElem?_eq_getElem hk]; exact List.getElem_mem _)
def zeroAV (P : Program) (t : TypeId) : AV := match (P.info? t).bind (·.zero) with | some v => ofC v | none => .any
theorem zeroAV_run {t : TypeId} (h : (zeroAV P t).laid = true) : ∃ z, (zeroValue t).run P w = .ok z w ∧ Rep P G (zeroAV P t) z := by
  unfold zeroAV at h ⊢
  cases hi : P.info? t with
  | none => simp [hi, AV.laid, AV.okc] at h
  | some i =>
    cases hz : i.zero with
    | none => simp [hi, hz, AV.laid, AV.okc] at h
    | some z =>
      simp only [hi, hz, Option.bind_some]
      exact ⟨z, by simp [zeroValue, Sem.run_bind, run_typeInfo w hi, hz], rep_ofC z⟩
theorem newVar_out (hi : Inv P G σ w) (e : TypeId) {v : AV} {x : Value} (hv : Rep P G v x) (hl : v.laid = true) (h : ∀ id, σ id = none → K (.ptr id 0) (σ.set id (.cells e v.cells))) :
    ∃ G' σ', (newVar e x).run P w = .ok ⟨w.heap.size, 0, none⟩ (w.alloc (.cells x.cells e)) ∧ G.Le G' ∧ Inv P G' σ' (w.alloc (.cells x.cells e)) ∧
      Rep P G' (.ptr G.top 0) (.pointer (some ⟨w.heap.size, 0, none⟩)) ∧ K (.ptr G.top 0) σ' := by
  obtain ⟨c1, c2⟩ := laid_cells hv hl
  obtain ⟨G', g1, g2, g3⟩ := hi.allocCells e x.cells v.cells c1 c2
  exact ⟨G', _, by simp [newVar, newRow, Sem.run_bind, run_newObj_alloc, Result.andThen], g1, g3, .ptr g2, h _ hi.fresh⟩
def aAlloc (P : Program) (σ : AS) (e : TypeId) (K : AV → AS → Prop) : Prop :=
  (zeroAV P e).laid = true ∧ ∀ id, σ id = none → K (.ptr id 0) (σ.set id (.cells e (zeroAV P e).cells))
theorem aAlloc_out (hi : Inv P G σ w) {e : TypeId} (h : aAlloc P σ e K) : Out P G K Pn (((do pure (Next.value (← Instr.alloc e true (.tuple #[])))) : Sem Next).run P w) := by
  obtain ⟨h1, h2⟩ := h
  obtain ⟨z, hz, hr⟩ := zeroAV_run (P := P) (G := G) (w := w) h1
  obtain ⟨G', σ', k1, k2, k3, k4, k5⟩ := newVar_out hi e hr h1 h2
  refine Out.value (v := .pointer (some ⟨w.heap.size, 0, none⟩)) ?_ k2 k3 k4 k5
  simp [Instr.alloc, Sem.run_bind, hz, k1]
def aBox (P : Program) (σ : AS) (e : TypeId) (v : AV) (K : AV → AS → Prop) : Prop :=
  v.laid = true ∧ ∀ id, σ id = none → K (.ptr id 0) (σ.set id (.cells e v.cells))
theorem aBox_out (hi : Inv P G σ w) {e : TypeId} {v : AV} {x : Value} (hv : Rep P G v x) (h : aBox P σ e v K) : Out P G K Pn (((do pure (Next.value (← Instr.box e x))) : Sem Next).run P w) := by
  obtain ⟨G', σ', k1, k2, k3, k4, k5⟩ := newVar_out hi e hv h.1 h.2
  refine Out.value (v := .pointer (some ⟨w.heap.size, 0, none⟩)) ?_ k2 k3 k4 k5
  simp [Instr.box, Sem.run_bind, k1]
/-! ## structs and arrays as values -/
def placeT (P : Program) (t : TypeId) (i : Nat) : Option (Nat × Nat) :=
  match P.underlying t with
  | some (.struct fs) => (fs[i]?).map fun f => (f.offset, P.cellsOf f.type)
  | some (.array _ e) => some (i * P.cellsOf e, P.cellsOf e)
  | _ => none
def fieldT (P : Program) (t : TypeId) (i : Nat) : Option (Nat × LK) :=
  match P.underlying t with
  | some (.struct fs) => (fs[i]?).map fun f => (f.offset, lkT P f.type)
  | _ => none
def splice (cs : List AV) (off : Nat) (vs : List AV) : List AV := cs.take off ++ vs ++ cs.drop (off + vs.length)
def aParts (P : Program) (t : TypeId) : List AV → List (Nat × AV) → (List AV → Prop) → Prop
  | cs, [], K => K cs
  | cs, (i, v) :: r, K => match placeT P t i with
    | some (off, n) => v.okc = true ∧ v.cells.length = n ∧ n ≠ 0 ∧ off + n ≤ cs.length ∧ aParts P t (splice cs off v.cells) r K
    | none => False
theorem foldl_zipIdx (l : List Value) : ∀ (cs : Array Value) (off j : Nat), off + j + l.length ≤ cs.size →
    (l.zipIdx j).foldl (fun cs (p : Value × Nat) => cs.setIfInBounds (off + p.2) p.1) cs = updA cs (off + j) l := by
  induction l with
  | nil => intro cs off j _; rfl
  | cons v r ih =>
    intro cs off j h
    simp only [List.zipIdx_cons, List.foldl_cons, updA]
    rw [ih _ _ _ (by simp at h ⊢; omega)]
    rfl
theorem splice_length {cs vs : List AV} {off : Nat} (h : off + vs.length ≤ cs.length) : (splice cs off vs).length = cs.length := by
  simp [splice]; omega
theorem splice_get {cs vs : List AV} {off k : Nat} (h : off + vs.length ≤ cs.length) : (splice cs off vs).getD k .any = if off ≤ k ∧ k < off + vs.length then vs.getD (k - off) .any else cs.getD k .any := by
  have t : (cs.take off).length = off := by simp; omega
  unfold splice
  simp only [List.getD_eq_getElem?_getD]
  by_cases hc : off ≤ k ∧ k < off + vs.length
  · rw [if_pos hc, List.append_assoc, List.getElem?_append_right (by omega), t, List.getElem?_append_left (by omega)]
  · rw [if_neg hc]
    by_cases hlt : k < off
    · rw [List.append_assoc, List.getElem?_append_left (by omega), List.getElem?_take_of_lt hlt]
    · rw [List.append_assoc, List.getElem?_append_right (by omega), t, List.getElem?_append_right (by omega), List.getElem?_drop]
      congr 2; omega
def RepCells (P : Program) (G : Gh) (cs : List AV) (vs : Array Value) : Prop := vs.size = cs.length ∧ ∀ k, k < cs.length → Rep P G (cs.getD k .any) (vs.getD k undef)
theorem RepCells.splice {cs vs : List AV} {a : Array Value} {l : List Value} (h : RepCells P G cs a) {off : Nat} (hfit : off + vs.length ≤ cs.length) (hl : l.length = vs.length)
    (hr : ∀ k, k < vs.length → Rep P G (vs.getD k .any) (l.getD k undef)) : RepCells P G (splice cs off vs) (updA a off l) := by
  refine ⟨by rw [updA_size, h.1, splice_length hfit], fun k hk => ?_⟩
  rw [splice_length hfit] at hk
  rw [splice_get hfit, updA_get _ _ _ _ (by rw [h.1]; omega), hl]
  split
  · rename_i hc; exact hr _ (by omega)
  · exact h.2 k hk
theorem fill_ok {t : TypeId} (place : Nat → Option (Nat × Nat)) (hp : ∀ i, placeT P t i = place i ∨ placeT P t i = none) : ∀ (parts : List (Nat × AV)) (vparts : List (Nat × Value)) (cs : List AV) (a : Array Value) (K : List AV → Prop),
    vparts.length = parts.length → (∀ i, i < parts.length → (vparts.getD i (0, undef)).1 = (parts.getD i (0, .any)).1 ∧ Rep P G (parts.getD i (0, .any)).2 (vparts.getD i (0, undef)).2) →
    RepCells P G cs a → aParts P t cs parts K → ∃ a' cs', Instr.fill place a vparts = some a' ∧ RepCells P G cs' a' ∧ K cs' := by
  intro parts
  induction parts with
  | nil =>
    intro vparts cs a K hl _ hc h
    have : vparts = [] := List.length_eq_zero_iff.1 (by simpa using hl)
    subst this
    exact ⟨a, cs, rfl, hc, h⟩
  | cons p r ih =>
    intro vparts cs a K hl hrep hc h
    obtain ⟨i, v⟩ := p
    cases vparts with
    | nil => simp at hl
    | cons q vr =>
      obtain ⟨i', x⟩ := q
      have h0 := hrep 0 (by simp)
      simp at h0
      obtain ⟨rfl, hx⟩ := h0
      simp only [aParts] at h
      split at h
      · rename_i off n hpl
        obtain ⟨h1, h2, h3, h4, h5⟩ := h
        obtain ⟨c1, c2⟩ := hx.cells h1
        have hpl' : place i' = some (off, n) := by
          rcases hp i' with h | h
          · rw [← h, hpl]
          · rw [h] at hpl; cases hpl
        have hsz : x.cells.size = n := by omega
        have hfit : ¬ (off + n > a.size) := by rw [hc.1]; omega
        have hf : Array.foldl (fun cs (p : Value × Nat) => cs.setIfInBounds (off + p.2) p.1) a x.cells.zipIdx = updA a off x.cells.toList := by
          have := foldl_zipIdx x.cells.toList a off 0 (by rw [Nat.add_zero, Array.length_toList, hc.1]; omega)
          rw [Nat.add_zero] at this
          rw [← this, ← Array.foldl_toList]
          simp
        have hc' := hc.splice (off := off) (vs := v.cells) (l := x.cells.toList) (by omega) (by simpa using c1) (fun k hk => by
          have := c2 k hk
          simpa [List.getD_eq_getElem?_getD] using this)
        obtain ⟨a', cs', g1, g2, g3⟩ := ih vr _ _ K (by simpa using hl) (fun k hk => by
          have := hrep (k + 1) (by simpa using hk)
          simpa using this) hc' h5
        refine ⟨a', cs', ?_, g2, g3⟩
        simp only [Instr.fill, hpl', hsz, ne_eq, not_true_eq_false, decide_false, Bool.false_or, decide_eq_true_eq, hfit, if_false]
        rw [← g1]
        simp only [Bool.false_eq_true, if_false]
        rw [hf]
      · exact h.elim
end Go.AW

set_option linter.unusedSimpArgs false
set_option linter.unusedVariables false
namespace Go.AW
open Go Go.RowKit
variable {P : Program} {G : Gh} {σ : AS} {w : World} {K Pn : AV → AS → Prop}
def buildT (P : Program) (t : TypeId) : Bool :=
  match P.underlying t with
  | some (.struct fs) => (fs.toList.mapM (fun f => (P.info? f.type).map fun i => (f.offset, i.size))).isSome
  | some (.array _ e) => (P.info? e).isSome
  | _ => false
theorem mapM_places {fs : List Field} {places : List (Nat × Nat)} (h : fs.mapM (fun f => (P.info? f.type).map fun i => (f.offset, i.size)) = some places) :
    places = fs.map fun f => (f.offset, P.cellsOf f.type) := by
  induction fs generalizing places with
  | nil => simp at h; subst h; rfl
  | cons f fs ih =>
    simp only [List.mapM_cons, Option.bind_eq_bind, Option.pure_def] at h
    cases hi : P.info? f.type with
    | none => simp [hi] at h
    | some i =>
      cases hr : fs.mapM (fun f => (P.info? f.type).map fun i => (f.offset, i.size)) with
      | none => simp [hi, hr] at h
      | some rest =>
        simp [hi, hr] at h
        subst h
        rw [ih hr]
        simp [Program.cellsOf, hi]
def aBuild (P : Program) (t : TypeId) (parts : List (Nat × AV)) (K : AV → Prop) : Prop :=
  buildT P t = true ∧ (zeroAV P t).laid = true ∧ aParts P t (zeroAV P t).cells parts fun cs => K (.agg cs)
theorem zeroAV_info {t : TypeId} (h : (zeroAV P t).laid = true) : ∃ i z, P.info? t = some i ∧ i.zero = some z ∧ zeroAV P t = ofC z := by
  unfold zeroAV at h ⊢
  cases hi : P.info? t with
  | none => simp [hi, AV.laid, AV.okc] at h
  | some i =>
    cases hz : i.zero with
    | none => simp [hi, hz, AV.laid, AV.okc] at h
    | some z => exact ⟨i, z, rfl, hz, by simp [hz]⟩
theorem aBuild_out (hi : Inv P G σ w) {t : TypeId} {parts : Array (Nat × Operand)} {s : Fr} {ρ : Operand → Value} (hρ : ∀ x, Rep P G (ev s x) (ρ x))
    (h : aBuild P t (parts.toList.map fun p => (p.1, ev s p.2)) fun v => K v σ) :
    Out P G K Pn (((do pure (Next.value (← Instr.build t (parts.map fun (i, x) => (i, ρ x))))) : Sem Next).run P w) := by
  obtain ⟨h1, h2, h3⟩ := h
  obtain ⟨it, z, hit, hz, hzr⟩ := zeroAV_info h2
  have hrz : Rep P G (zeroAV P t) z := by rw [hzr]; exact rep_ofC z
  have hc := laid_cells hrz h2
  have hrc : RepCells P G (zeroAV P t).cells z.cells := ⟨hc.1, fun k hk => (hc.2 k hk).1⟩
  have hvp : (parts.map fun (i, x) => (i, ρ x)).toList = parts.toList.map fun p => (p.1, ρ p.2) := by simp
  have hparts : ∀ (place : Nat → Option (Nat × Nat)), (∀ i, placeT P t i = place i ∨ placeT P t i = none) →
      ∃ a' cs', Instr.fill place z.cells (parts.map fun (i, x) => (i, ρ x)).toList = some a' ∧ RepCells P G cs' a' ∧ K (.agg cs') σ := by
    intro place hp
    rw [hvp]
    refine fill_ok (K := fun cs => K (.agg cs) σ) place hp _ _ _ _ (by simp) (fun i hi => ?_) hrc h3
    simp at hi
    simp [List.getD_eq_getElem?_getD, hi]
    exact hρ _
  have fin : ∀ a' cs', P.built t (parts.map fun (i, x) => (i, ρ x)).toList = some a' → RepCells P G cs' a' → K (.agg cs') σ →
      Out P G K Pn (((do pure (Next.value (← Instr.build t (parts.map fun (i, x) => (i, ρ x))))) : Sem Next).run P w) := by
    intro a' cs' hb hr hk
    refine Out.pure hi (run_build w t _ a' hb) ?_ hk
    have := Rep.agg (P := P) (G := G) (cells := cs') a'.toList (by simpa using hr.1) (fun i hi => by
      have := hr.2 i hi
      simpa [List.getD_eq_getElem?_getD] using this)
    simpa using this
  unfold buildT at h1
  split at h1
  · rename_i fs hu
    cases hp : fs.toList.mapM (fun f => (P.info? f.type).map fun i => (f.offset, i.size)) with
    | none => rw [hp] at h1; cases h1
    | some places =>
      have hpl := mapM_places hp
      obtain ⟨a', cs', g1, g2, g3⟩ := hparts (places.toArray[·]?) (fun i => by
        left
        simp [placeT, hu, hpl])
      exact fin a' cs' (by simp [Program.built, hit, hu, hz, hp] at g1 ⊢; exact g1) g2 g3
  · rename_i n e hu
    cases hie : P.info? e with
    | none => rw [hie] at h1; cases h1
    | some ie =>
      obtain ⟨a', cs', g1, g2, g3⟩ := hparts (fun i => some (i * ie.size, ie.size)) (fun i => by
        left
        simp [placeT, hu, Program.cellsOf, hie])
      exact fin a' cs' (by simp [Program.built, hit, hu, hz, hie] at g1 ⊢; exact g1) g2 g3
  · cases h1
/-! ## slices that are written out -/
def sliceT (P : Program) (t : TypeId) : Option TypeId := match P.underlying t with | some (.slice e) => some e | _ => none
theorem sliceT_eq {t e : TypeId} (h : sliceT P t = some e) : P.underlying t = some (.slice e) := by
  unfold sliceT at h
  split at h
  · cases h; assumption
  · cases h
def aElems (n : Nat) : Nat → List (Nat × AV) → Bool
  | k, [] => true
  | k, (i, v) :: r => i == k && v.laid && v.cells.length == n && aElems n (k + 1) r
def aBuildSlice (P : Program) (σ : AS) (t : TypeId) (len : Nat) (parts : List (Nat × AV)) (K : AV → AS → Prop) : Prop :=
  match sliceT P t with
  | some e => parts.length = len ∧ P.cellsOf e ≠ 0 ∧ len * P.cellsOf e ≤ 2 ^ 24 ∧ (zeroAV P e).laid = true ∧ (zeroAV P e).cells.length = P.cellsOf e ∧ aElems (P.cellsOf e) 0 parts = true ∧
      K (.lst e (parts.map (·.2)) .full false) σ
  | none => False
theorem fill_elems {e : TypeId} : ∀ (parts : List (Nat × AV)) (vparts : List (Nat × Value)) (k m : Nat) (a : Array Value),
    vparts.length = parts.length → (∀ i, i < parts.length → (vparts.getD i (0, undef)).1 = (parts.getD i (0, .any)).1 ∧ Rep P G (parts.getD i (0, .any)).2 (vparts.getD i (0, undef)).2) →
    aElems m k parts = true → (k + parts.length) * m = a.size →
    (∀ c, c < k * m → (a.getD c undef).oneCell' = true) →
    ∃ a', Instr.fill (fun i => some (i * m, m)) a vparts = some a' ∧ a'.size = a.size ∧ (∀ c, c < k * m → a'.getD c undef = a.getD c undef) ∧
      (∀ i j, i < parts.length → j < m → Rep P G ((parts.getD i (0, .any)).2.cells.getD j .any) (a'.getD ((k + i) * m + j) undef) ∧ (a'.getD ((k + i) * m + j) undef).oneCell' = true) := by
  intro parts
  induction parts with
  | nil =>
    intro vparts k m a hl _ _ _ _
    have : vparts = [] := List.length_eq_zero_iff.1 (by simpa using hl)
    subst this
    exact ⟨a, rfl, rfl, fun _ _ => rfl, fun i j hi => by simp at hi⟩
  | cons p r ih =>
    intro vparts k m a hl hrep hel hsz hone
    obtain ⟨i, v⟩ := p
    cases vparts with
    | nil => simp at hl
    | cons q vr =>
      obtain ⟨i', x⟩ := q
      have h0 := hrep 0 (by simp)
      simp at h0
      obtain ⟨rfl, hx⟩ := h0
      simp only [aElems, Bool.and_eq_true, beq_iff_eq] at hel
      obtain ⟨⟨⟨rfl, hlaid⟩, hlen⟩, hel⟩ := hel
      obtain ⟨c1, c2⟩ := laid_cells hx hlaid
      have hsx : x.cells.size = m := by omega
      have hfitn : i' * m + m ≤ a.size := by
        rw [← hsz]
        have : (i' + 1) * m ≤ (i' + (((i', v) :: r).length)) * m := Nat.mul_le_mul_right _ (by simp)
        rw [Nat.add_mul] at this
        omega
      have hf : Array.foldl (fun cs (p : Value × Nat) => cs.setIfInBounds (i' * m + p.2) p.1) a x.cells.zipIdx = updA a (i' * m) x.cells.toList := by
        have := foldl_zipIdx x.cells.toList a (i' * m) 0 (by rw [Nat.add_zero, Array.length_toList]; omega)
        rw [Nat.add_zero] at this
        rw [← this, ← Array.foldl_toList]
        simp
      have hget : ∀ c, (updA a (i' * m) x.cells.toList).getD c undef = if i' * m ≤ c ∧ c < i' * m + m then x.cells.getD (c - i' * m) undef else a.getD c undef := by
        intro c
        rw [updA_get _ _ _ _ (by simp; omega)]
        simp only [Array.length_toList, hsx]
        split
        · simp [List.getD_eq_getElem?_getD]
        · rfl
      have hm1 : (i' + 1) * m = i' * m + m := by rw [Nat.add_mul]; omega
      obtain ⟨a', g1, g2, g3, g4⟩ := ih vr (i' + 1) m (updA a (i' * m) x.cells.toList) (by simpa using hl) (fun k hk => by
          have := hrep (k + 1) (by simpa using hk)
          simpa using this) hel (by rw [updA_size, ← hsz]; congr 1; simp; omega) (fun c hc => by
            rw [hget]
            split
            · rename_i hcc
              exact (c2 (c - i' * m) (by omega)).2
            · exact hone c (by omega))
      refine ⟨a', ?_, by rw [g2, updA_size], fun c hc => ?_, fun i j hi hj => ?_⟩
      · simp only [Instr.fill, hsx, ne_eq, not_true_eq_false, decide_false, Bool.false_or, decide_eq_true_eq, show ¬ (i' * m + m > a.size) by omega, if_false, Bool.false_eq_true]
        rw [← g1, hf]
      · rw [g3 c (by omega), hget, if_neg (by omega)]
      · cases i with
        | zero =>
          simp only [Nat.add_zero]
          rw [g3 _ (by omega), hget, if_pos (by omega)]
          have : i' * m + j - i' * m = j := by omega
          rw [this]
          exact c2 j (by omega)
        | succ i =>
          have := g4 i j (by simpa using hi) hj
          rw [show i' + 1 + i = i' + (i + 1) by omega] at this
          simpa using this
theorem aBuildSlice_out (hi : Inv P G σ w) {t : TypeId} {len : Nat} {parts : Array (Nat × Operand)} {s : Fr} {ρ : Operand → Value} (hρ : ∀ x, Rep P G (ev s x) (ρ x))
    (h : aBuildSlice P σ t len (parts.toList.map fun p => (p.1, ev s p.2)) K) :
    Out P G K Pn (((do pure (Next.value (← Instr.buildSlice t len (parts.map fun (i, x) => (i, ρ x))))) : Sem Next).run P w) := by
  unfold aBuildSlice at h
  split at h
  · rename_i e he
    obtain ⟨h1, h2, h3, h4, h5, h6, h7⟩ := h
    have hu := sliceT_eq he
    obtain ⟨it, z, hit, hz, hzr⟩ := zeroAV_info h4
    have hsz : it.size = P.cellsOf e := by simp [Program.cellsOf, hit]
    have hvp : (parts.map fun (i, x) => (i, ρ x)).toList = parts.toList.map fun p => (p.1, ρ p.2) := by simp
    have hlen : parts.toList.length = len := by simpa using h1
    let zero : Array Value := if len * P.cellsOf e = 0 then #[] else z.cells
    let init : Array Value := (Array.range (len * P.cellsOf e)).map (zero[· % zero.size]!)
    obtain ⟨a', g1, g2, _, g4⟩ := fill_elems (P := P) (G := G) (e := e) (parts.toList.map fun p => (p.1, ev s p.2)) (parts.toList.map fun p => (p.1, ρ p.2)) 0 (P.cellsOf e) init (by simp) (fun i hi => by
      simp at hi
      simp [List.getD_eq_getElem?_getD, hi]
      exact hρ _) h6 (by simp at hlen; simp [init, hlen]) (fun c hc => by omega)
    have hsize : a'.size = len * P.cellsOf e := by rw [g2]; simp [init]
    have hrun : (Instr.buildSlice t len (parts.map fun (i, x) => (i, ρ x))).run P w = .ok (.slice (some ⟨w.heap.size, 0, none⟩) len len) (w.alloc (.cells a' e)) := by
      have hsz' : ¬ (len * P.cellsOf e > 2 ^ 24) := by omega
      have g1' : Instr.fill (fun i => some (i * P.cellsOf e, P.cellsOf e)) ((Array.range (len * P.cellsOf e)).map (zero[· % zero.size]!)) (parts.map fun (i, x) => (i, ρ x)).toList = some a' := by rw [hvp]; exact g1
      simp only [Instr.buildSlice, Sem.run_bind, run_underlying hu, Result.andThen, sizeOf, run_typeInfo w hit, Sem.run_pure, hsz, hsz', if_false]
      by_cases h0 : len * P.cellsOf e = 0
      · simp only [zero, h0, if_true] at g1'
        simp [h0, Sem.run_bind, Result.andThen, g1', newRow, run_newObj_alloc]
        simp at g1'
        simp [g1', newRow, run_newObj_alloc, Sem.run_bind, Result.andThen]
      · simp only [zero, h0, if_false] at g1'
        simp only [h0, if_false, Sem.run_bind, zeroValue, run_typeInfo w hit, hz, Result.andThen, Sem.run_pure]
        rw [g1']
        simp [newRow, run_newObj_alloc, Sem.run_bind, Result.andThen]
    let vs : Nat → Value := fun k => a'.getD k undef
    have hidx : ∀ k, k < len * P.cellsOf e → k / P.cellsOf e < len ∧ k % P.cellsOf e < P.cellsOf e ∧ (k / P.cellsOf e) * P.cellsOf e + k % P.cellsOf e = k := fun k hk =>
      ⟨Nat.div_lt_of_lt_mul (by rw [Nat.mul_comm]; exact hk), Nat.mod_lt _ (by omega), by rw [Nat.mul_comm]; exact Nat.div_add_mod k _⟩
    obtain ⟨hle, hinv⟩ := hi.keepNew e a' (len * P.cellsOf e) vs (by omega) (fun k hk => by
      obtain ⟨k1, k2, k3⟩ := hidx k hk
      have := (g4 (k / P.cellsOf e) (k % P.cellsOf e) (by simp at hlen ⊢; omega) k2).2
      rw [Nat.zero_add, k3] at this
      exact ⟨by simp [vs, hsize, hk], this⟩)
    refine Out.value hrun hle hinv ?_ h7
    have hmap : ((parts.toList.map fun p => (p.1, ev s p.2)).map (·.2)).length = len := by simpa using h1
    have hel : ∀ i, i < len → ((((parts.toList.map fun (p : Nat × Operand) => (p.1, ev s p.2)).map (fun (q : Nat × AV) => q.2)).getD i AV.any).cells.length = P.cellsOf e) ∧
        ((parts.toList.map fun (p : Nat × Operand) => (p.1, ev s p.2)).map (fun (q : Nat × AV) => q.2)).getD i AV.any = ((parts.toList.map fun (p : Nat × Operand) => (p.1, ev s p.2)).getD i (0, AV.any)).2 := by
      intro i hi'
      have hlen' : i < (parts.toList.map fun p => (p.1, ev s p.2)).length := by simp at hlen ⊢; omega
      refine ⟨?_, by simp only [List.getD_eq_getElem?_getD, List.getElem?_map, List.getElem?_eq_getElem hlen', Option.map_some, Option.getD_some]⟩
      have key : ∀ (l : List (Nat × AV)) (k : Nat), aElems (P.cellsOf e) k l = true → ∀ i, i < l.length → ((l.map (fun (q : Nat × AV) => q.2)).getD i AV.any).cells.length = P.cellsOf e := by
        intro l
        induction l with
        | nil => intro k _ i hi; simp at hi
        | cons p r ih =>
          intro k hk i hi
          obtain ⟨q, v⟩ := p
          simp only [aElems, Bool.and_eq_true, beq_iff_eq] at hk
          cases i with
          | zero => simpa using hk.1.2
          | succ i => simpa using ih (k + 1) hk.2 i (by simpa using hi)
      exact key _ 0 h6 i hlen'
    refine Rep.lst' vs hmap (fun i hi' => (hel i (by omega)).1) (fun k hk => ?_) (fun i j hi' hj => ?_) (Nat.le_refl _) ⟨_, rfl⟩
    · rw [Gh.keep_in (by omega) (by omega)]; simp
    · rw [(hel i (by omega)).2]
      have := (g4 i j (by simp at hlen ⊢; omega) hj).1
      rw [Nat.zero_add] at this
      exact this.mono hle
  · exact h.elim
end Go.AW

set_option linter.unusedSimpArgs false
set_option linter.unusedVariables false
namespace Go.AW
open Go Go.RowKit
variable {P : Program} {G : Gh} {σ : AS} {w : World} {K Pn : AV → AS → Prop}
/-! ## fields -/
def aFieldAddr (P : Program) (t : TypeId) (x : AV) (f : Nat) (K : AV → Prop) : Prop :=
  match placeT P t f, P.underlying t with
  | some (o, n), some (.struct _) => n ≠ 0 ∧ (match x with
    | .ptr id off => K (.ptr id (off + o))
    | .cptr cells => K (.cptr (cells.drop o))
    | _ => False)
  | _, _ => False
theorem aFieldAddr_out (hi : Inv P G σ w) {t : TypeId} {x : AV} {v : Value} {f : Nat} (hx : Rep P G x v) (h : aFieldAddr P t x f fun v => K v σ) :
    Out P G K Pn (((do pure (Next.value (← Instr.fieldAt t v f))) : Sem Next).run P w) := by
  unfold aFieldAddr at h
  split at h
  · rename_i o n fs hp hu
    obtain ⟨hn, h⟩ := h
    simp only [placeT, hu] at hp
    cases hf : fs[f]? with
    | none => rw [hf] at hp; cases hp
    | some fl =>
      rw [hf] at hp
      simp only [Option.map_some, Option.some.injEq, Prod.mk.injEq] at hp
      obtain ⟨rfl, rfl⟩ := hp
      obtain ⟨i, hinf, hsz, _⟩ := info_of_cells (P := P) (t := fl.type) hn
      have hs0 : i.size ≠ 0 := by omega
      have run : ∀ b off : Nat, (Instr.fieldAt t (.pointer (some ⟨b, off, none⟩)) f).run P w = .ok (.pointer (some ⟨b, off + fl.offset, none⟩)) w := fun b off => by
        simp [Instr.fieldAt, run_underlying hu, hf, Instr.sureAddr, fieldPlace, sizeOf, run_typeInfo w hinf, hs0, Addr.add_lit]
      split at h
      · cases hx with
        | ptr hb => exact Out.pure hi (run _ _) (.ptr hb) h
      · rename_i cells
        cases hx with
        | cptr vs hm hr =>
          refine Out.pure hi (run _ _) (.cptr (fun k => vs (fl.offset + k)) (fun k hk => ?_) (fun k hk => ?_)) h
          · rw [Nat.add_assoc]; exact hm _ (by simp at hk; omega)
          · have := hr (fl.offset + k) (by simp at hk; omega)
            simpa [List.getD_eq_getElem?_getD] using this
      · exact h.elim
  · exact h.elim
def aField (P : Program) (t : TypeId) (x : AV) (f : Nat) (K : AV → Prop) : Prop :=
  match fieldT P t f, x with
  | some (o, .one), .agg cells => o < cells.length ∧ K (cells.getD o .any)
  | some (o, .agg n), .agg cells => n ≠ 0 ∧ o + n ≤ cells.length ∧ K (.agg ((cells.drop o).take n))
  | _, _ => False
theorem aField_out (hi : Inv P G σ w) {t : TypeId} {x : AV} {v : Value} {f : Nat} (hx : Rep P G x v) (h : aField P t x f fun v => K v σ) :
    Out P G K Pn (((do pure (Next.value (← Instr.field t v f))) : Sem Next).run P w) := by
  unfold aField at h
  have get : ∀ {o : Nat} {l : LK}, fieldT P t f = some (o, l) → ∃ fs fl, P.underlying t = some (.struct fs) ∧ fs[f]? = some fl ∧ fl.offset = o ∧ lkT P fl.type = l := by
    intro o l hf
    unfold fieldT at hf
    split at hf
    · rename_i fs hu
      cases hg : fs[f]? with
      | none => rw [hg] at hf; cases hf
      | some fl =>
        rw [hg] at hf
        simp only [Option.map_some, Option.some.injEq, Prod.mk.injEq] at hf
        exact ⟨fs, fl, hu, hg, hf.1, hf.2⟩
    · cases hf
  split at h
  · rename_i o cells hf
    obtain ⟨fs, fl, hu, hg, rfl, hl⟩ := get hf
    cases hx with
    | agg vs l hr =>
      have := hr fl.offset h.1
      have hlt : fl.offset < vs.length := by omega
      refine Out.pure hi (v := vs.getD fl.offset undef) ?_ this h.2
      simp [Instr.field, run_underlying hu, hg, part, (lkT_one (w := w) hl).1, asAgg, hlt]
  · rename_i o n cells hf
    obtain ⟨fs, fl, hu, hg, rfl, hl⟩ := get hf
    cases hx with
    | agg vs l hr =>
      obtain ⟨k1, k2⟩ := lkT_agg (w := w) hl
      obtain ⟨i, hinf, hsz, _⟩ := info_of_cells (P := P) (t := fl.type) (by omega)
      refine Out.pure hi (v := .agg ((vs.drop fl.offset).take n).toArray) ?_ (.agg _ (by simp; omega) (fun k hk => ?_)) h.2.2
      · have e1 : vs.toArray.extract fl.offset (fl.offset + i.size) = ((vs.drop fl.offset).take n).toArray := by
          have : fl.offset + i.size - fl.offset = n := by omega
          simp [this]
        simp [Instr.field, run_underlying hu, hg, part, k1, asAgg, sizeOf, run_typeInfo w hinf]
        simpa using e1
      · have hkn : k < n := by simp at hk; omega
        have := hr (fl.offset + k) (by omega)
        simp only [List.getD_eq_getElem?_getD] at this ⊢
        rw [List.getElem?_take_of_lt hkn, List.getElem?_take_of_lt hkn, List.getElem?_drop, List.getElem?_drop]
        exact this
  · exact h.elim
/-! ## indexes -/
def arrT (P : Program) (t : TypeId) : Option (Nat × TypeId) := match P.underlying t with | some (.array n e) => some (n, e) | _ => none
theorem arrT_eq {t e : TypeId} {n : Nat} (h : arrT P t = some (n, e)) : P.underlying t = some (.array n e) := by
  unfold arrT at h
  split at h
  · cases h; assumption
  · cases h
def aIndexAddr (P : Program) (t : TypeId) (x i : AV) (K : AV → Prop) : Prop :=
  match i with
  | .sc (.int _ i) => match x with
    | .lst e elems _ _ => sliceT P t = some e ∧ P.cellsOf e ≠ 0 ∧ 0 ≤ i ∧ i < elems.length ∧ K (.cptr (elems.getD i.toNat .any).cells)
    | .msl id off len _ => match sliceT P t with
      | some e => P.cellsOf e ≠ 0 ∧ 0 ≤ i ∧ i < len ∧ K (.ptr id (off + i.toNat * P.cellsOf e))
      | none => False
    | .ptr id off => match arrT P t with
      | some (n, e) => P.cellsOf e ≠ 0 ∧ 0 ≤ i ∧ i < n ∧ K (.ptr id (off + i.toNat * P.cellsOf e))
      | none => False
    | .cptr cells => match arrT P t with
      | some (n, e) => P.cellsOf e ≠ 0 ∧ 0 ≤ i ∧ i < n ∧ K (.cptr (cells.drop (i.toNat * P.cellsOf e)))
      | none => False
    | _ => False
  | _ => False
theorem aIndexAddr_out (hi : Inv P G σ w) {t : TypeId} {x ix : AV} {v vi : Value} (hx : Rep P G x v) (hix : Rep P G ix vi) (h : aIndexAddr P t x ix fun v => K v σ) :
    Out P G K Pn (((do pure (Next.value (← Instr.indexAt t v vi))) : Sem Next).run P w) := by
  unfold aIndexAddr at h
  split at h
  · rename_i k i
    cases hix
    split at h
    · rename_i e elems own nil
      obtain ⟨h1, h2, h3, h4, h5⟩ := h
      have hu := sliceT_eq h1
      obtain ⟨inf, hinf, hsz, _⟩ := info_of_cells (P := P) (t := e) h2
      cases hx with
      | lstN ho => simp at h4; omega
      | lstZ => simp at h4; omega
      | lst vs hl hm hr hc ho =>
        rename_i b off cap
        have hn : i.toNat < elems.length := by omega
        refine Out.pure hi (v := .pointer (some ⟨b, off + i.toNat * P.cellsOf e, none⟩)) ?_ (.cptr (fun k => vs (i.toNat * P.cellsOf e + k)) (fun k hk => ?_) (fun k hk => ?_)) h5
        · simp [Instr.indexAt, asIntOf, run_underlying hu, h3, h4, sizeOf, run_typeInfo w hinf, hsz, Addr.add_lit]
        · rw [hl _ hn] at hk
          rw [Nat.add_assoc]
          exact hm _ (idx_lt hn hk)
        · rw [hl _ hn] at hk
          exact hr _ _ hn hk
    · rename_i id off len cap
      split at h
      · rename_i e he
        obtain ⟨h2, h3, h4, h5⟩ := h
        have hu := sliceT_eq he
        obtain ⟨inf, hinf, hsz, _⟩ := info_of_cells (P := P) (t := e) h2
        cases hx with
        | msl hb =>
          refine Out.pure hi ?_ (.ptr hb) h5
          simp [Instr.indexAt, asIntOf, run_underlying hu, h3, h4, sizeOf, run_typeInfo w hinf, hsz, Addr.add_lit]
      · exact h.elim
    · rename_i id off
      split at h
      · rename_i n e he
        obtain ⟨h2, h3, h4, h5⟩ := h
        have hu := arrT_eq he
        obtain ⟨inf, hinf, hsz, _⟩ := info_of_cells (P := P) (t := e) h2
        cases hx with
        | ptr hb =>
          refine Out.pure hi ?_ (.ptr hb) h5
          simp [Instr.indexAt, asIntOf, run_underlying hu, h3, h4, sizeOf, run_typeInfo w hinf, hsz, Addr.add_lit, Instr.sureAddr]
      · exact h.elim
    · rename_i cells
      split at h
      · rename_i n e he
        obtain ⟨h2, h3, h4, h5⟩ := h
        have hu := arrT_eq he
        obtain ⟨inf, hinf, hsz, _⟩ := info_of_cells (P := P) (t := e) h2
        cases hx with
        | cptr vs hm hr =>
          rename_i b off
          refine Out.pure hi (v := .pointer (some ⟨b, off + i.toNat * P.cellsOf e, none⟩)) ?_ (.cptr (fun k => vs (i.toNat * P.cellsOf e + k)) (fun k hk => ?_) (fun k hk => ?_)) h5
          · simp [Instr.indexAt, asIntOf, run_underlying hu, h3, h4, sizeOf, run_typeInfo w hinf, hsz, Addr.add_lit, Instr.sureAddr]
          · rw [Nat.add_assoc]; exact hm _ (by simp at hk; omega)
          · have := hr (i.toNat * P.cellsOf e + k) (by simp at hk; omega)
            simpa [List.getD_eq_getElem?_getD] using this
      · exact h.elim
    · exact h.elim
  · exact h.elim
def aIndex (P : Program) (t : TypeId) (x i : AV) (K : AV → Prop) : Prop :=
  match i, x with
  | .sc (.int _ i), .sc (.string s) => P.underlying t = some .string ∧ 0 ≤ i ∧ i < s.size ∧ K (.sc (.int .u8 (s.data.toList.getD i.toNat 0).toNat))
  | .sc (.int _ i), .agg cells => match arrT P t with
    | some (n, e) => match lkT P e with
      | .one => 0 ≤ i ∧ i < n ∧ i < cells.length ∧ K (cells.getD i.toNat .any)
      | .agg m => m ≠ 0 ∧ 0 ≤ i ∧ i < n ∧ i.toNat * m + m ≤ cells.length ∧ K (.agg ((cells.drop (i.toNat * m)).take m))
      | .bad => False
    | none => False
  | _, _ => False
theorem aIndex_out (hi : Inv P G σ w) {t : TypeId} {x ix : AV} {v vi : Value} (hx : Rep P G x v) (hix : Rep P G ix vi) (h : aIndex P t x ix fun v => K v σ) :
    Out P G K Pn (((do pure (Next.value (← Instr.index t v vi))) : Sem Next).run P w) := by
  unfold aIndex at h
  split at h
  · rename_i k i s
    cases hix
    cases hx
    obtain ⟨hu, h1, h2, h3⟩ := h
    have hlt : i.toNat < s.size := by omega
    refine Out.pure hi (v := .int .u8 (s.data.toList.getD i.toNat 0).toNat) ?_ (.sc _) h3
    have hg : s[i.toNat]? = some (s.data.toList.getD i.toNat 0) := by
      have : s[i.toNat]? = some s[i.toNat] := getElem?_pos s i.toNat hlt
      rw [this]
      congr 1
      have hlt' : i.toNat < s.data.size := hlt
      have e2 : s.data.toList.getD i.toNat 0 = s.data[i.toNat] := by
        rw [List.getD_eq_getElem?_getD, List.getElem?_eq_getElem (by simpa using hlt')]
        simp
      rw [e2]
      rfl
    simp [Instr.index, asIntOf, run_underlying hu, h1, hg]
  · rename_i k i cells
    cases hix
    split at h
    · rename_i n e he
      have hu := arrT_eq he
      split at h
      · rename_i hl
        obtain ⟨h1, h2, h3, h4⟩ := h
        obtain ⟨k1, k2⟩ := lkT_one (w := w) hl
        obtain ⟨inf, hinf, hsz, _⟩ := info_of_cells (P := P) (t := e) (by omega)
        cases hx with
        | agg vs l hr =>
          have hlt : i.toNat < vs.length := by omega
          refine Out.pure hi (v := vs.getD i.toNat undef) ?_ (hr _ (by omega)) h4
          simp [Instr.index, asIntOf, run_underlying hu, h1, h2, asAgg, part, k1, sizeOf, run_typeInfo w hinf, hsz, k2, hlt]
      · rename_i m hl
        obtain ⟨h0, h1, h2, h3, h4⟩ := h
        obtain ⟨k1, k2⟩ := lkT_agg (w := w) hl
        obtain ⟨inf, hinf, hsz, _⟩ := info_of_cells (P := P) (t := e) (by omega)
        cases hx with
        | agg vs l hr =>
          refine Out.pure hi (v := .agg ((vs.drop (i.toNat * m)).take m).toArray) ?_ (.agg _ (by simp; omega) (fun k hk => ?_)) h4
          · have e1 : vs.toArray.extract (i.toNat * m) (i.toNat * m + m) = ((vs.drop (i.toNat * m)).take m).toArray := by
              have : i.toNat * m + m - i.toNat * m = m := by omega
              simp [this]
            simp [Instr.index, asIntOf, run_underlying hu, h1, h2, asAgg, part, k1, sizeOf, run_typeInfo w hinf, hsz, k2]
            try simpa using e1
          · have hkn : k < m := by simp at hk; omega
            have := hr (i.toNat * m + k) (by omega)
            simp only [List.getD_eq_getElem?_getD] at this ⊢
            rw [List.getElem?_take_of_lt hkn, List.getElem?_take_of_lt hkn, List.getElem?_drop, List.getElem?_drop]
            exact this
      · exact h.elim
    · exact h.elim
  · exact h.elim
/-! ## slice expressions -/
def aBound (x : Option AV) (d : Nat) (K : Nat → Prop) : Prop :=
  match x with
  | none => K d
  | some (.sc (.int _ n)) => 0 ≤ n ∧ K n.toNat
  | _ => False
def aSlice (P : Program) (t : TypeId) (x : AV) (lo hi mx : Option AV) (K : AV → Prop) : Prop :=
  match mx with
  | some _ => False
  | none => match x with
    | .sc (.string s) => P.underlying t = some .string ∧ aBound hi s.size fun h => h ≤ s.size ∧ aBound lo 0 fun l => l ≤ h ∧ K (.sc (.string (s.extract l h)))
    | .lst e elems _ nil => sliceT P t = some e ∧ P.cellsOf e ≠ 0 ∧ aBound hi elems.length fun h => h ≤ elems.length ∧ aBound lo 0 fun l => l ≤ h ∧ K (.lst e ((elems.take h).drop l) .unk nil)
    | .msl id off len cap => match sliceT P t with
      | some e => P.cellsOf e ≠ 0 ∧ aBound hi len fun h => h ≤ cap ∧ aBound lo 0 fun l => l ≤ h ∧ l < cap ∧ K (.msl id (off + l * P.cellsOf e) (h - l) (cap - l))
      | none => False
    | _ => False
theorem aSlice_out (hinv : Inv P G σ w) {t : TypeId} {x : AV} {v : Value} {lo hi mx : Option AV} {vlo vhi vmx : Option Value} (hx : Rep P G x v)
    (hlo : (lo = none ∧ vlo = none) ∨ ∃ a b, lo = some a ∧ vlo = some b ∧ Rep P G a b) (hhi : (hi = none ∧ vhi = none) ∨ ∃ a b, hi = some a ∧ vhi = some b ∧ Rep P G a b)
    (hmx : (mx = none ∧ vmx = none) ∨ ∃ a b, mx = some a ∧ vmx = some b ∧ Rep P G a b)
    (h : aSlice P t x lo hi mx fun v => K v σ) :
    Out P G K Pn (((do pure (Next.value (← Instr.sliceAt t v vlo vhi vmx))) : Sem Next).run P w) := by
  unfold aSlice at h
  cases mx with
  | some m => exact h.elim
  | none =>
    obtain ⟨_, rfl⟩ : _ ∧ vmx = none := by
      rcases hmx with h | ⟨a, b, h, _⟩
      · exact h
      · cases h
    -- the bounds' run
    have bound : ∀ (o : Option AV) (vo : Option Value) (d : Nat) (Q : Nat → Prop), ((o = none ∧ vo = none) ∨ ∃ a b, o = some a ∧ vo = some b ∧ Rep P G a b) → aBound o d Q →
        ∃ k, Q k ∧ ((o = none ∧ vo = none ∧ k = d) ∨ ∃ kd n, vo = some (.int kd n) ∧ 0 ≤ n ∧ k = n.toNat) := by
      intro o vo d Q h1 h2
      rcases h1 with ⟨rfl, rfl⟩ | ⟨a, b, rfl, rfl, hr⟩
      · exact ⟨d, h2, .inl ⟨rfl, rfl, rfl⟩⟩
      · unfold aBound at h2
        split at h2
        · rename_i h; cases h
        · rename_i kd n he
          cases he
          cases hr
          exact ⟨n.toNat, h2.2, .inr ⟨kd, n, rfl, h2.1, rfl⟩⟩
        · exact h2.elim
    have runB : ∀ (isS : Bool) (len cap h l : Nat), h ≤ cap → l ≤ h → ((hi = none ∧ vhi = none ∧ h = len) ∨ ∃ kd n, vhi = some (.int kd n) ∧ 0 ≤ n ∧ h = n.toNat) →
        ((lo = none ∧ vlo = none ∧ l = 0) ∨ ∃ kd n, vlo = some (.int kd n) ∧ 0 ≤ n ∧ l = n.toNat) →
        (Instr.sliceBounds isS len cap vlo vhi none).run P w = .ok (l, h, cap) w := by
      intro isS len cap h l hc hl hh hlw
      have sb : ∀ (kd : IntKind) (n : Int) (y : Nat) (code : BoundsCode), 0 ≤ n → n.toNat ≤ y → (Instr.sliceBound (.int kd n) y code).run P w = .ok n.toNat w := by
        intro kd n y code h0 h1
        have : 0 ≤ n ∧ n ≤ (y : Int) := ⟨h0, by omega⟩
        simp [Instr.sliceBound, asIntOf, this]
      rcases hh with ⟨_, rfl, rfl⟩ | ⟨kd, n, rfl, hn0, rfl⟩ <;> rcases hlw with ⟨_, rfl, rfl⟩ | ⟨kd2, n2, rfl, hn2, rfl⟩
      · simp [Instr.sliceBounds]
      · simp [Instr.sliceBounds, sb kd2 n2 _ _ hn2 hl]
      · simp [Instr.sliceBounds, sb kd n _ _ hn0 hc]
      · simp [Instr.sliceBounds, sb kd n _ _ hn0 hc, sb kd2 n2 _ _ hn2 hl]
    simp only at h
    split at h
    · rename_i s
      obtain ⟨hu, h⟩ := h
      obtain ⟨h1, ⟨q1, h⟩, k1⟩ := bound _ _ _ _ hhi h
      obtain ⟨l1, ⟨q2, h⟩, k2⟩ := bound _ _ _ _ hlo h
      cases hx
      refine Out.pure hinv (v := .string (s.extract l1 h1)) ?_ (.sc _) h
      simp [Instr.sliceAt, Instr.slice, run_underlying hu, runB false s.size s.size h1 l1 q1 q2 k1 k2]
    · rename_i e elems own nil
      obtain ⟨he, hsz, hA⟩ := h
      have hu := sliceT_eq he
      obtain ⟨inf, hinf, hsz2, _⟩ := info_of_cells (P := P) (t := e) hsz
      obtain ⟨h1, ⟨q1, hB⟩, k1⟩ := bound _ _ _ _ hhi hA
      clear hA
      obtain ⟨l1, ⟨q2, hC⟩, k2⟩ := bound _ _ _ _ hlo hB
      clear hB
      cases hx with
      | lstN ho =>
        simp only [List.length_nil] at q1
        have hr := runB true 0 0 h1 l1 (by omega) q2 k1 k2
        have e1 : h1 = 0 := by omega
        have e2 : l1 = 0 := by omega
        subst e1 e2
        refine Out.pure hinv (v := .slice none 0 0) ?_ ?_ hC
        · simp [Instr.sliceAt, Instr.slice, run_underlying hu, hr, sizeOf, run_typeInfo w hinf]
        · simpa using Rep.lstN (P := P) (G := G) (e := e) (own := .unk) trivial
      | lstZ =>
        rename_i a cap
        have hr := runB true 0 cap h1 l1 (by simp at q1; omega) q2 k1 k2
        have e1 : h1 = 0 := by simp at q1; omega
        have e2 : l1 = 0 := by omega
        subst e1 e2
        refine Out.pure hinv (v := .slice (some a) 0 cap) ?_ ?_ hC
        · simp [Instr.sliceAt, Instr.slice, run_underlying hu, hr, sizeOf, run_typeInfo w hinf, Addr.add]
        · simpa using Rep.lstZ (P := P) (G := G) (e := e)
      | lst vs hl hm hr hc ho =>
        rename_i b off cap
        have hrun := runB true elems.length cap h1 l1 (by omega) q2 k1 k2
        have hlen : ((elems.take h1).drop l1).length = h1 - l1 := by simp; omega
        have hget : ∀ i, i < h1 - l1 → ((elems.take h1).drop l1).getD i .any = elems.getD (l1 + i) .any := by
          intro i hi'
          simp only [List.getD_eq_getElem?_getD]
          rw [List.getElem?_drop, List.getElem?_take_of_lt (by omega)]
        by_cases hcl : cap = l1
        · subst hcl
          refine Out.pure hinv (v := .slice (some ⟨b, off, none⟩) (h1 - cap) (cap - cap)) ?_ ?_ hC
          · simp [Instr.sliceAt, Instr.slice, run_underlying hu, hrun, sizeOf, run_typeInfo w hinf]
          · exact Rep.lst' vs hlen (fun i hi' => by omega) (fun k hk => by rw [show h1 - cap = 0 by omega] at hk; omega) (fun i j hi' _ => by omega) (by omega) trivial
        · refine Out.pure hinv (v := .slice (some ⟨b, off + l1 * P.cellsOf e, none⟩) (h1 - l1) (cap - l1)) ?_ ?_ hC
          · simp [Instr.sliceAt, Instr.slice, run_underlying hu, hrun, sizeOf, run_typeInfo w hinf, hcl, hsz2, Addr.add_lit]
          · refine Rep.lst' (fun k => vs (l1 * P.cellsOf e + k)) hlen (fun i hi' => ?_) (fun k hk => ?_) (fun i j hi' hj => ?_) (by omega) trivial
            · rw [hget i (by omega)]; exact hl _ (by omega)
            · rw [Nat.add_assoc]
              refine hm _ ?_
              have : (l1 + (h1 - l1)) * P.cellsOf e ≤ elems.length * P.cellsOf e := Nat.mul_le_mul_right _ (by omega)
              rw [Nat.add_mul] at this
              omega
            · rw [hget i (by omega)]
              have := hr (l1 + i) j (by omega) hj
              rw [Nat.add_mul] at this
              simpa [Nat.add_assoc] using this
    · rename_i id off len cap
      split at h
      · rename_i e he
        obtain ⟨hsz, hA⟩ := h
        have hu := sliceT_eq he
        obtain ⟨inf, hinf, hsz2, _⟩ := info_of_cells (P := P) (t := e) hsz
        obtain ⟨h1, ⟨q1, hB⟩, k1⟩ := bound _ _ _ _ hhi hA
        clear hA
        obtain ⟨l1, ⟨q2, q3, hC⟩, k2⟩ := bound _ _ _ _ hlo hB
        clear hB
        cases hx with
        | msl hb =>
          rename_i b
          have hrun := runB true len cap h1 l1 q1 q2 k1 k2
          have hcl : ¬ cap = l1 := by omega
          refine Out.pure hinv (v := .slice (some ⟨b, off + l1 * P.cellsOf e, none⟩) (h1 - l1) (cap - l1)) ?_ (.msl hb) hC
          simp [Instr.sliceAt, Instr.slice, run_underlying hu, hrun, sizeOf, run_typeInfo w hinf, hcl, hsz2, Addr.add_lit]
      · exact h.elim
    · exact h.elim
end Go.AW

set_option linter.unusedSimpArgs false
set_option linter.unusedVariables false
namespace Go.AW
open Go Go.RowKit
variable {P : Program} {G : Gh} {σ : AS} {w : World} {K Pn : AV → AS → Prop}
theorem beqd {α : Type} [BEq α] [LawfulBEq α] [DecidableEq α] (a b : α) : (a == b) = decide (a = b) := by
  by_cases h : a = b
  · simp [h]
  · simp [h]
/-! ## arithmetic -/
def intOp (op : BinOp) (k : IntKind) (a b : Int) (K : Value → Prop) : Prop :=
  match op with
  | .add => K (.int k (k.wrap (a + b)))
  | .sub => K (.int k (k.wrap (a - b)))
  | .mul => K (.int k (k.wrap (a * b)))
  | .quo => b ≠ 0 ∧ K (.int k (k.wrap (a.tdiv b)))
  | .rem => b ≠ 0 ∧ K (.int k (a.tmod b))
  | .and => K (.int k (k.wrap (BitVec.ofInt k.bits a &&& BitVec.ofInt k.bits b).toNat))
  | .or => K (.int k (k.wrap (BitVec.ofInt k.bits a ||| BitVec.ofInt k.bits b).toNat))
  | .xor => K (.int k (k.wrap (BitVec.ofInt k.bits a ^^^ BitVec.ofInt k.bits b).toNat))
  | .andNot => K (.int k (k.wrap (BitVec.ofInt k.bits a &&& ~~~(BitVec.ofInt k.bits b)).toNat))
  | .eql => K (.bool (decide (a = b)))
  | .neq => K (.bool (decide (a ≠ b)))
  | .lss => K (.bool (a < b))
  | .leq => K (.bool (a ≤ b))
  | .gtr => K (.bool (b < a))
  | .geq => K (.bool (b ≤ a))
  | _ => False
def shOp (op : BinOp) (k : IntKind) (a b : Int) (K : Value → Prop) : Prop :=
  match op with
  | .shl => 0 ≤ b ∧ K (.int k (k.wrap (a * 2 ^ (min b.toNat k.bits))))
  | .shr => 0 ≤ b ∧ K (.int k (a.fdiv (2 ^ (min b.toNat k.bits))))
  | _ => False
def isShift : BinOp → Bool | .shl | .shr => true | _ => false
def strOp (op : BinOp) (a b : ByteArray) (K : Value → Prop) : Prop :=
  match op with
  | .eql => K (.bool (decide (a.data.toList = b.data.toList)))
  | .neq => K (.bool (decide (a.data.toList ≠ b.data.toList)))
  | .add => a.size + b.size ≤ 9223372036854775807 ∧ K (.string (a ++ b))
  | _ => False
mutual
/-- Are two values the same, by their type? -/
def eqAV (P : Program) : Nat → TypeId → AV → AV → Option Bool
  | 0, _, _, _ => none
  | d + 1, t, x, y => match x, y with
    | .sc (.int k a), .sc (.int k' b) => match P.underlying t with | some (.int _) => if k = k' then some (decide (a = b)) else none | _ => none
    | .sc (.bool a), .sc (.bool b) => match P.underlying t with | some .bool => some (a == b) | _ => none
    | .sc (.string a), .sc (.string b) => match P.underlying t with | some .string => some (decide (a.data.toList = b.data.toList)) | _ => none
    | .agg xs, .agg ys => match P.underlying t with | some (.struct fs) => if P.stoodInHeld t then none else eqFs P d fs.toList xs ys | _ => none
    | _, _ => none
def eqFs (P : Program) : Nat → List Field → List AV → List AV → Option Bool
  | _, [], _, _ => some true
  | d, f :: fs, xs, ys => if f.name = "_" then none else
    match lkT P f.type with
    | .one => if f.offset < xs.length ∧ f.offset < ys.length then
        match eqAV P d f.type (xs.getD f.offset .any) (ys.getD f.offset .any), eqFs P d fs xs ys with
        | some r, some r' => some (r && r')
        | _, _ => none
      else none
    | .agg n => if n ≠ 0 ∧ f.offset + n ≤ xs.length ∧ f.offset + n ≤ ys.length then
        match eqAV P d f.type (.agg ((xs.drop f.offset).take n)) (.agg ((ys.drop f.offset).take n)), eqFs P d fs xs ys with
        | some r, some r' => some (r && r')
        | _, _ => none
      else none
    | .bad => none
end
theorem part_ok {t : TypeId} {xs : List AV} {vs : Array Value} {off : Nat} (h : RepCells P G xs vs) :
    (lkT P t = .one → off < xs.length → (part t vs off).run P w = .ok (vs.getD off undef) w ∧ Rep P G (xs.getD off .any) (vs.getD off undef)) ∧
    (∀ n, lkT P t = .agg n → n ≠ 0 → off + n ≤ xs.length → ∃ v, (part t vs off).run P w = .ok v w ∧ Rep P G (.agg ((xs.drop off).take n)) v) := by
  constructor
  · intro hl ho
    obtain ⟨k1, k2⟩ := lkT_one (w := w) hl
    have hlt : off < vs.size := by rw [h.1]; exact ho
    refine ⟨?_, h.2 off ho⟩
    simp [part, k1, hlt]
  · intro n hl hn ho
    obtain ⟨k1, k2⟩ := lkT_agg (w := w) hl
    obtain ⟨i, hinf, hsz, _⟩ := info_of_cells (P := P) (t := t) (by omega)
    have h1 := h.1
    refine ⟨.agg ((vs.toList.drop off).take n).toArray, ?_, .agg _ (by simp; omega) (fun k hk => ?_)⟩
    · have e1 : vs.extract off (off + i.size) = ((vs.toList.drop off).take n).toArray := by
        have : off + i.size - off = n := by omega
        apply Array.ext'
        simp [this]
      simp [part, k1, sizeOf, run_typeInfo w hinf, e1]
    · have hkn : k < n := by simp at hk; omega
      have := h.2 (off + k) (by omega)
      simp only [List.getD_eq_getElem?_getD] at this ⊢
      rw [List.getElem?_take_of_lt hkn, List.getElem?_take_of_lt hkn, List.getElem?_drop, List.getElem?_drop]
      simpa using this
theorem eq_ok : ∀ (d : Nat), (∀ (t : TypeId) (x y : AV) (r : Bool) (vx vy : Value) (D : Nat), d ≤ D → eqAV P d t x y = some r → Rep P G x vx → Rep P G y vy → (Op.equalIn D t vx vy).run P w = .ok r w) ∧
    (∀ (fs : List Field) (xs ys : List AV) (r : Bool) (vx vy : Array Value) (D : Nat), d ≤ D → eqFs P d fs xs ys = some r → RepCells P G xs vx → RepCells P G ys vy → (Op.eqFields D vx vy fs).run P w = .ok r w) := by
  intro d
  induction d with
  | zero =>
    refine ⟨fun t x y r vx vy D _ h _ _ => by simp [eqAV] at h, fun fs => ?_⟩
    induction fs with
    | nil => intro xs ys r vx vy D _ h _ _; simp [eqFs] at h; subst h; simp [Op.eqFields]
    | cons f fs ih =>
      intro xs ys r vx vy D _ h _ _
      simp only [eqFs] at h
      split at h
      · cases h
      · split at h <;> (try (split at h)) <;> (try cases h) <;> (split at h <;> first | (rename_i h1 h2; simp [eqAV] at h1) | cases h)
  | succ d ih =>
    have hA : ∀ (t : TypeId) (x y : AV) (r : Bool) (vx vy : Value) (D : Nat), d + 1 ≤ D → eqAV P (d + 1) t x y = some r → Rep P G x vx → Rep P G y vy → (Op.equalIn D t vx vy).run P w = .ok r w := by
      intro t x y r vx vy D hD h hx hy
      obtain ⟨D', rfl⟩ : ∃ D', D = D' + 1 := ⟨D - 1, by omega⟩
      unfold eqAV at h
      split at h
      · cases hx; cases hy
        split at h
        · rename_i k1 a k2 b q hu
          split at h
          · rename_i hk; subst hk; cases h; rw [run_equalIn_int w D' t _ _ _ _ hu, beqd]
          · cases h
        · cases h
      · cases hx; cases hy
        split at h
        · rename_i hu; cases h; exact run_equalIn_bool' w D' t _ _ hu
        · cases h
      · cases hx; cases hy
        split at h
        · rename_i hu
          cases h
          rw [run_equalIn_string w D' t _ _ hu, ByteArray.toList_eq, ByteArray.toList_eq, beqd]
        · cases h
      · cases hx with
        | agg vs1 l1 h1 =>
          cases hy with
          | agg vs2 l2 h2 =>
            split at h
            · rename_i fs hu
              split at h
              · cases h
              · rename_i hst
                have hf : P.fieldsOf t = fs := by simp [Program.fieldsOf, hu]
                rw [run_equalIn_agg w D' t _ _ (by rw [hf]; exact hu) (by simpa using hst), hf]
                exact ih.2 fs.toList _ _ r _ _ D' (by omega) h ⟨by simpa using l1, fun k hk => by have := h1 k hk; simpa [List.getD_eq_getElem?_getD] using this⟩
                  ⟨by simpa using l2, fun k hk => by have := h2 k hk; simpa [List.getD_eq_getElem?_getD] using this⟩
            · cases h
      · cases h
    refine ⟨hA, fun fs => ?_⟩
    induction fs with
    | nil => intro xs ys r vx vy D _ h _ _; simp [eqFs] at h; subst h; simp [Op.eqFields]
    | cons f fs ihf =>
      intro xs ys r vx vy D hD h hx hy
      simp only [eqFs] at h
      split at h
      · cases h
      · rename_i hn
        have fin : ∀ (r1 r2 : Bool) (a b : Value), (part f.type vx f.offset).run P w = .ok a w → (part f.type vy f.offset).run P w = .ok b w → (Op.equalIn D f.type a b).run P w = .ok r1 w → eqFs P (d + 1) fs xs ys = some r2 → r = (r1 && r2) →
            (Op.eqFields D vx vy (f :: fs)).run P w = .ok r w := by
          intro r1 r2 a b p1 p2 p3 p4 p5
          have p6 := ihf xs ys r2 vx vy D hD p4 hx hy
          simp only [Op.eqFields, ne_eq, hn, not_false_eq_true, if_true, Sem.run_bind, p1, p2, p3, Result.andThen_ok]
          cases r1
          · simp [p5]
          · simp [p5, p6]
        split at h
        · rename_i hl
          split at h
          · rename_i hlt
            split at h
            · rename_i r1 r2 e1 e2
              cases h
              obtain ⟨q1, q2⟩ := (part_ok (w := w) hx).1 hl hlt.1
              obtain ⟨q3, q4⟩ := (part_ok (w := w) hy).1 hl hlt.2
              exact fin r1 r2 _ _ q1 q3 (hA _ _ _ _ _ _ D hD e1 q2 q4) e2 rfl
            · cases h
          · cases h
        · rename_i n hl
          split at h
          · rename_i hlt
            split at h
            · rename_i r1 r2 e1 e2
              cases h
              obtain ⟨v1, q1, q2⟩ := (part_ok (w := w) hx).2 n hl hlt.1 hlt.2.1
              obtain ⟨v2, q3, q4⟩ := (part_ok (w := w) hy).2 n hl hlt.1 hlt.2.2
              exact fin r1 r2 _ _ q1 q3 (hA _ _ _ _ _ _ D hD e1 q2 q4) e2 rfl
            · cases h
          · cases h
        · cases h
end Go.AW

set_option linter.unusedSimpArgs false
set_option linter.unusedVariables false
namespace Go.AW
open Go Go.RowKit
variable {P : Program} {G : Gh} {σ : AS} {w : World} {K Pn : AV → AS → Prop}
def isNil (P : Program) (t : TypeId) : AV → Option Bool
  | .nilS => match P.underlying t with | some (.slice _) => some true | _ => none
  | .lst _ _ _ nil => match P.underlying t with | some (.slice _) => some nil | _ => none
  | .msl _ _ _ _ => match P.underlying t with | some (.slice _) => some false | _ => none
  | .ptr _ _ | .cptr _ => match P.underlying t with | some (.pointer _) => some false | _ => none
  | .sc (.pointer none) => match P.underlying t with | some (.pointer _) => some true | _ => none
  | .mp _ => match P.underlying t with | some (.map _ _) => some false | _ => none
  | .sc (.map none) => match P.underlying t with | some (.map _ _) => some true | _ => none
  | .ifc _ _ => match P.underlying t with | some (.interface _) => some false | _ => none
  | .fn _ _ _ => match P.underlying t with | some (.func _ _ _) => some false | _ => none
  | .sc (.func _ _ _) => match P.underlying t with | some (.func _ _ _) => some false | _ => none
  | .sc .nilFunc => match P.underlying t with | some (.func _ _ _) => some true | _ => none
  | _ => none
def isNilLit (P : Program) (t : TypeId) : AV → Bool
  | .nilS => match P.underlying t with | some (.slice _) => true | _ => false
  | .sc (.pointer none) => match P.underlying t with | some (.pointer _) => true | _ => false
  | .sc (.map none) => match P.underlying t with | some (.map _ _) => true | _ => false
  | .sc .nilIface => match P.underlying t with | some (.interface _) => true | _ => false
  | .sc .nilFunc => match P.underlying t with | some (.func _ _ _) => true | _ => false
  | _ => false
def aNilCmp (P : Program) (op : BinOp) (t : TypeId) (x y : AV) (K : AV → Prop) : Prop :=
  if isNilLit P t y then match isNil P t x, op with
      | some r, .eql => K (.sc (.bool r))
      | some r, .neq => K (.sc (.bool (!r)))
      | _, _ => False
    else False
def aBin (P : Program) (op : BinOp) (t : TypeId) (x y : AV) (K : AV → Prop) : Prop :=
  match x, y with
  | .sc (.int k a), .sc (.int k' b) => if isShift op then shOp op k a b (fun v => K (.sc v)) else k = k' ∧ intOp op k a b (fun v => K (.sc v))
  | .sc (.string a), .sc (.string b) => strOp op a b (fun v => K (.sc v))
  | .agg xs, .agg ys => match eqAV P 8 t (.agg xs) (.agg ys), op with
    | some r, .eql => P.eqGuardType P.depth t = false ∧ K (.sc (.bool r))
    | some r, .neq => P.eqGuardType P.depth t = false ∧ K (.sc (.bool (!r)))
    | _, _ => False
  | .sc (.bool a), .sc (.bool b) => match P.underlying t, op with
    | some .bool, .eql => K (.sc (.bool (a == b)))
    | some .bool, .neq => K (.sc (.bool (!(a == b))))
    | _, _ => False
  | x, y => aNilCmp P op t x y K
theorem equal_succ (t : TypeId) (x y : Value) : Op.equal t x y = Op.equalIn (9999 + 1) t x y := rfl
theorem binOp_eql {t : TypeId} {x y : Value} (h1 : ∀ k n, x ≠ .int k n) (h2 : ∀ k n, x ≠ .float k n) (h3 : ∀ k a b, x ≠ .complex k a b) (h4 : ∀ s, x ≠ .string s) {r : Bool}
    (h : (Op.equalIn (9999 + 1) t x y).run P w = .ok r w) : (binOp .eql t x y).run P w = .ok (.bool r) w ∧ (binOp .neq t x y).run P w = .ok (.bool (!r)) w := by
  have e1 : binOp .eql t x y = (do pure (Value.bool (← Op.equal t x y))) := by
    cases x <;> first | rfl | (exfalso; first | exact h1 _ _ rfl | exact h2 _ _ rfl | exact h3 _ _ _ rfl | exact h4 _ rfl)
  have e2 : binOp .neq t x y = (do pure (Value.bool (!(← Op.equal t x y)))) := by
    cases x <;> first | rfl | (exfalso; first | exact h1 _ _ rfl | exact h2 _ _ rfl | exact h3 _ _ _ rfl | exact h4 _ rfl)
  rw [e1, e2, equal_succ]
  generalize Op.equalIn (9999 + 1) t x y = q at h ⊢
  constructor
  · rw [Sem.run_bind, h]; rfl
  · rw [Sem.run_bind, h]; rfl
theorem run_guard_pure {op : BinOp} {t : TypeId} {ox oy : Operand} {a b : Value} (h1 : ∀ c, a ≠ .agg c) (h2 : a ≠ .nilIface ∨ b ≠ .nilIface) : (eqGuard op t ox oy a b).run P w = .ok () w := by
  unfold eqGuard
  cases op <;> simp <;> (cases a <;> cases b <;> simp at h1 h2 ⊢)
theorem intOp_ok {op : BinOp} {t : TypeId} {k : IntKind} {a b : Int} {Q : Value → Prop} (hs : isShift op = false) (h : intOp op k a b Q) : ∃ v, (binOp op t (.int k a) (.int k b)).run P w = .ok v w ∧ Q v := by
  cases op <;> first | (simp [isShift] at hs; done) | skip
  all_goals (simp only [intOp] at h)
  all_goals first
    | exact h.elim
    | (refine ⟨_, ?_, h⟩; simp [binOp, Op.intArith, Op.intBits, Op.intCmp, beqd, bne]; done)
    | (refine ⟨_, ?_, h.2⟩; simp [binOp, Op.intDiv, h.1]; done)
    | skip
theorem shOp_ok {op : BinOp} {t : TypeId} {k k' : IntKind} {a b : Int} {Q : Value → Prop} (h : shOp op k a b Q) : ∃ v, (binOp op t (.int k a) (.int k' b)).run P w = .ok v w ∧ Q v := by
  cases op <;> simp only [shOp] at h
  all_goals (refine ⟨_, ?_, h.2⟩; have hb := h.1; simp [binOp, Op.shift, show ¬ b < 0 by omega])
theorem strOp_ok {op : BinOp} {t : TypeId} {a b : ByteArray} {Q : Value → Prop} (h : strOp op a b Q) : ∃ v, (binOp op t (.string a) (.string b)).run P w = .ok v w ∧ Q v := by
  cases op <;> simp only [strOp] at h
  case add =>
    refine ⟨_, ?_, h.2⟩
    have h1 := h.1
    have e : ¬ (IntKind.i64.max < ((a.size + b.size : Nat) : Int)) := by
      have : IntKind.i64.max = 9223372036854775807 := rfl
      rw [this]; omega
    simp only [binOp, Op.stringOp]
    rw [if_neg (by simpa using e)]
    rfl
  case eql => refine ⟨_, ?_, h⟩; simp [binOp, Op.stringOp, ByteArray.toList_eq, beqd]
  case neq => refine ⟨_, ?_, h⟩; simp [binOp, Op.stringOp, ByteArray.toList_eq, beqd]
theorem nil_key {t : TypeId} {x y : AV} {vx vy : Value} (hx : Rep P G x vx) (hy : Rep P G y vy) (hyn : isNilLit P t y = true) {r : Bool} (hr : isNil P t x = some r) :
    (Op.equalIn (9999 + 1) t vx vy).run P w = .ok r w ∧ (∀ c, vx ≠ .agg c) ∧ vx ≠ .nilIface ∧ (∀ k n, vx ≠ .int k n) ∧ (∀ s, vx ≠ .string s) ∧ (∀ k n, vx ≠ .float k n) ∧ (∀ k n m, vx ≠ .complex k n m) := by
  generalize 9999 = d
  have sl : ∀ (e : TypeId) (a : Option Addr) (n c : Nat), P.underlying t = some (.slice e) → (Op.equalIn (d + 1) t (.slice a n c) (.slice none 0 0)).run P w = .ok a.isNone w := by
    intro e a n c hu
    cases a <;> simp [Op.equalIn, run_underlying hu]
  have pt : ∀ (e : TypeId) (a : Option Addr), P.underlying t = some (.pointer e) → (Op.equalIn (d + 1) t (.pointer a) (.pointer none)).run P w = .ok a.isNone w := by
    intro e a hu
    cases a <;> simp [Op.equalIn, run_underlying hu]
  have mp : ∀ (k e : TypeId) (a : Option Nat), P.underlying t = some (.map k e) → (Op.equalIn (d + 1) t (.map a) (.map none)).run P w = .ok a.isNone w := by
    intro k e a hu
    cases a <;> simp [Op.equalIn, run_underlying hu]
  have ifc : ∀ (ms : Array (String × TypeId)) (u : TypeId) (v : Value), P.underlying t = some (.interface ms) → (Op.equalIn (d + 1) t (.iface u v) .nilIface).run P w = .ok false w := by
    intro ms u v hu
    simp [Op.equalIn, run_underlying hu]
  have fn : ∀ (ps rs : Array TypeId) (va : Bool) (f : Fn) (a b : Array Value), P.underlying t = some (.func ps rs va) → (Op.equalIn (d + 1) t (.func f a b) .nilFunc).run P w = .ok false w := by
    intro ps rs va f a b hu
    simp [Op.equalIn, run_underlying hu]
  have fn0 : ∀ (ps rs : Array TypeId) (va : Bool), P.underlying t = some (.func ps rs va) → (Op.equalIn (d + 1) t .nilFunc .nilFunc).run P w = .ok true w := by
    intro ps rs va hu
    simp [Op.equalIn, run_underlying hu]
  unfold isNilLit at hyn
  split at hyn
  · cases hy
    split at hyn
    · rename_i e hu
      unfold isNil at hr
      split at hr <;> (try simp only [hu] at hr) <;> first | (cases hr; done) | skip
      · cases hr; cases hx; exact ⟨sl _ _ _ _ hu, by simp⟩
      · cases hr
        cases hx
        · exact ⟨sl _ _ _ _ hu, by simp⟩
        · exact ⟨sl _ _ _ _ hu, by simp⟩
        · exact ⟨sl _ _ _ _ hu, by simp⟩
      · cases hr; cases hx; exact ⟨sl _ _ _ _ hu, by simp⟩
    · cases hyn
  · cases hy
    split at hyn
    · rename_i e hu
      unfold isNil at hr
      split at hr <;> (try simp only [hu] at hr) <;> first | (cases hr; done) | skip
      all_goals (cases hr; cases hx; exact ⟨pt _ _ hu, by simp⟩)
    · cases hyn
  · cases hy
    split at hyn
    · rename_i k e hu
      unfold isNil at hr
      split at hr <;> (try simp only [hu] at hr) <;> first | (cases hr; done) | skip
      all_goals (cases hr; cases hx; exact ⟨mp _ _ _ hu, by simp⟩)
    · cases hyn
  · cases hy
    split at hyn
    · rename_i ms hu
      unfold isNil at hr
      split at hr <;> (try simp only [hu] at hr) <;> first | (cases hr; done) | skip
      all_goals (cases hr; cases hx; exact ⟨ifc _ _ _ hu, by simp⟩)
    · cases hyn
  · cases hy
    split at hyn
    · rename_i ps rs va hu
      unfold isNil at hr
      split at hr <;> (try simp only [hu] at hr) <;> first | (cases hr; done) | skip
      all_goals (cases hr; cases hx; first | exact ⟨fn _ _ _ _ _ _ hu, by simp⟩ | exact ⟨fn0 _ _ _ hu, by simp⟩)
    · cases hyn
  · cases hyn
theorem aBin_out (hi : Inv P G σ w) {op : BinOp} {t : TypeId} {ox oy : Operand} {x y : AV} {vx vy : Value} (hx : Rep P G x vx) (hy : Rep P G y vy) (h : aBin P op t x y fun v => K v σ) :
    Out P G K Pn (((do pure (Next.value (← (do eqGuard op t ox oy vx vy; binOp op t vx vy)))) : Sem Next).run P w) := by
  have fin : ∀ (v : Value) (av : AV), (eqGuard op t ox oy vx vy).run P w = .ok () w → (binOp op t vx vy).run P w = .ok v w → Rep P G av v → K av σ →
      Out P G K Pn (((do pure (Next.value (← (do eqGuard op t ox oy vx vy; binOp op t vx vy)))) : Sem Next).run P w) :=
    fun v av h1 h2 h3 h4 => Out.pure hi (by rw [Sem.run_bind, h1]; exact h2) h3 h4
  unfold aBin at h
  split at h
  · rename_i k a k' b
    cases hx; cases hy
    split at h
    · obtain ⟨v, h1, h2⟩ := shOp_ok (P := P) (w := w) (t := t) (k' := k') h
      exact fin v _ (run_guard_pure (by simp) (by simp)) h1 (.sc _) h2
    · rename_i hs
      obtain ⟨rfl, h⟩ := h
      obtain ⟨v, h1, h2⟩ := intOp_ok (P := P) (w := w) (t := t) (by simpa using hs) h
      exact fin v _ (run_guard_pure (by simp) (by simp)) h1 (.sc _) h2
  · cases hx; cases hy
    obtain ⟨v, h1, h2⟩ := strOp_ok (P := P) (w := w) (t := t) h
    exact fin v _ (run_guard_pure (by simp) (by simp)) h1 (.sc _) h2
  · rename_i xs ys
    have hx' := hx
    have hy' := hy
    cases hx with
    | agg vs1 l1 h1 =>
      cases hy with
      | agg vs2 l2 h2 =>
        split at h
        · rename_i r he
          have := (eq_ok (P := P) (G := G) (w := w) 8).1 t _ _ r _ _ 10000 (by omega) he hx' hy'
          exact fin (.bool r) _ (run_eqGuard_agg w _ t _ _ _ _ h.1) (by rw [run_eql_struct, this]; rfl) (.sc _) h.2
        · rename_i r he
          have := (eq_ok (P := P) (G := G) (w := w) 8).1 t _ _ r _ _ 10000 (by omega) he hx' hy'
          exact fin (.bool (!r)) _ (run_eqGuard_agg w _ t _ _ _ _ h.1) (by rw [run_neq_struct, this]; rfl) (.sc _) h.2
        · exact h.elim
  · rename_i a b
    cases hx; cases hy
    split at h
    · rename_i hu
      exact fin _ _ (run_guard_pure (by simp) (by simp)) (binOp_eql (by simp) (by simp) (by simp) (by simp) (run_equalIn_bool' w 9999 t a b hu)).1 (.sc _) h
    · rename_i hu
      exact fin _ _ (run_guard_pure (by simp) (by simp)) (binOp_eql (by simp) (by simp) (by simp) (by simp) (run_equalIn_bool' w 9999 t a b hu)).2 (.sc _) h
    · exact h.elim
  · unfold aNilCmp at h
    split at h
    · rename_i hyn
      have key : ∀ r, isNil P t x = some r → (Op.equalIn (9999 + 1) t vx vy).run P w = .ok r w ∧ (∀ c, vx ≠ .agg c) ∧ vx ≠ .nilIface ∧ (∀ k n, vx ≠ .int k n) ∧ (∀ s, vx ≠ .string s) ∧ (∀ k n, vx ≠ .float k n) ∧ (∀ k n m, vx ≠ .complex k n m) := by
        intro r hr
        exact nil_key hx hy hyn hr
      split at h
      · rename_i r he
        obtain ⟨k1, k2, k3, k4, k5, k6, k7⟩ := key r he
        exact fin _ _ (run_guard_pure k2 (.inl k3)) (binOp_eql k4 k6 k7 k5 k1).1 (.sc _) h
      · rename_i r he
        obtain ⟨k1, k2, k3, k4, k5, k6, k7⟩ := key r he
        exact fin _ _ (run_guard_pure k2 (.inl k3)) (binOp_eql k4 k6 k7 k5 k1).2 (.sc _) h
      · exact h.elim
    · exact h.elim
end Go.AW

set_option linter.unusedSimpArgs false
set_option linter.unusedVariables false
namespace Go.AW
open Go Go.RowKit
variable {P : Program} {G : Gh} {σ : AS} {w : World} {K Pn : AV → AS → Prop}
def aUn (op : UnOp) (x : AV) (K : AV → Prop) : Prop :=
  match op, x with
  | .not, .sc (.bool b) => K (.sc (.bool (!b)))
  | .neg, .sc (.int k n) => K (.sc (.int k (k.wrap (0 - n))))
  | .xor, .sc (.int k n) => K (.sc (.int k (k.wrap (BitVec.ofInt k.bits (if k.signed then -1 else k.max) ^^^ BitVec.ofInt k.bits n).toNat)))
  | _, _ => False
theorem aUn_out (hi : Inv P G σ w) {op : UnOp} {x : AV} {v : Value} (hx : Rep P G x v) (h : aUn op x fun v => K v σ) :
    Out P G K Pn (((do pure (Next.value (← Op.unary op v))) : Sem Next).run P w) := by
  unfold aUn at h
  split at h
  · cases hx; exact Out.pure hi rfl (.sc _) h
  · cases hx; exact Out.pure hi rfl (.sc _) h
  · cases hx; exact Out.pure hi rfl (.sc _) h
  · exact h.elim
def aExtract (x : AV) (i : Nat) (K : AV → Prop) : Prop :=
  match x with
  | .tup vs => i < vs.length ∧ K (vs.getD i .any)
  | _ => False
theorem aExtract_out (hi : Inv P G σ w) {x : AV} {v : Value} {i : Nat} (hx : Rep P G x v) (h : aExtract x i fun v => K v σ) :
    Out P G K Pn (((do pure (Next.value (← Instr.extract v i))) : Sem Next).run P w) := by
  unfold aExtract at h
  split at h
  · cases hx with
    | tup vs l hr =>
      have hlt : i < vs.length := by omega
      refine Out.pure hi (v := vs.getD i undef) ?_ (hr i h.1) h.2
      simp [Instr.extract, hlt]
  · exact h.elim
def aNilCheck (x : AV) (K : AV → Prop) : Prop :=
  match x with
  | .ptr _ _ | .cptr _ | .fn (.func _) _ _ | .mp _ => K x
  | .sc (.func (.func _) _ _) => K x
  | .ifc _ _ => K x
  | _ => False
theorem aNilCheck_out (hi : Inv P G σ w) {x : Operand} {ρ : Operand → Value} {xa : AV} {o : Oper} (ho : o.op = .nilCheck x) (hx : Rep P G xa (ρ x)) (h : aNilCheck xa fun v => K v σ) :
    Out P G K Pn ((execOp ρ o).run P w) := by
  have key : (execOp ρ o).run P w = .ok (.value (ρ x)) w := by
    unfold execOp
    simp only [ho]
    unfold aNilCheck at h
    split at h <;> first | exact h.elim | (generalize ρ x = v at hx; cases hx; simp)
  rw [key]
  refine ⟨G, σ, xa, .refl G, hi, hx, ?_⟩
  unfold aNilCheck at h
  split at h <;> first | exact h | exact h.elim
/-! ## conversions -/
def u8 (b : UInt8) : AV := .sc (.int .u8 b.toNat)
def unU8 : AV → Option UInt8
  | .sc (.int .u8 n) => if 0 ≤ n ∧ n < 256 then some (UInt8.ofNat n.toNat) else none
  | _ => none
def allU8 (l : List AV) : Option (List UInt8) := l.mapM unU8
theorem allU8_spec {l : List AV} {bs : List UInt8} (h : allU8 l = some bs) : l.length = bs.length ∧ ∀ i, i < l.length → l.getD i .any = u8 (bs.getD i 0) := by
  induction l generalizing bs with
  | nil => simp [allU8] at h; subst h; simp
  | cons a l ih =>
    simp only [allU8, List.mapM_cons, Option.bind_eq_bind, Option.pure_def] at h
    cases ha : unU8 a with
    | none => simp [ha] at h
    | some b =>
      cases hl : l.mapM unU8 with
      | none => simp [ha, hl] at h
      | some r =>
        simp [ha, hl] at h
        subst h
        obtain ⟨h1, h2⟩ := ih hl
        refine ⟨by simp [h1], fun i hi => ?_⟩
        cases i with
        | zero =>
          simp
          unfold unU8 at ha
          split at ha
          · rename_i n
            split at ha
            · rename_i hn
              cases ha
              simp only [u8]
              congr 2
              rw [UInt8.toNat_ofNat']
              omega
            · cases ha
          · cases ha
        | succ i => simpa using h2 i (by simpa using hi)
def aConvert (P : Program) (src dst : TypeId) (x : AV) (K : AV → Prop) : Prop :=
  match P.underlying src, P.underlying dst, x with
  | some _, some (.int k), .sc (.int _ n) => K (.sc (.int k (k.wrap n)))
  | some _, some .string, .sc (.string s) => K (.sc (.string s))
  | some (.slice e), some .string, .nilS => P.underlying e = some (.int .u8) ∧ K (.sc (.string .empty))
  | some (.slice e), some .string, .lst e' elems _ _ => P.underlying e = some (.int .u8) ∧ P.cellsOf e' = 1 ∧ (match allU8 elems with | some bs => K (.sc (.string ⟨bs.toArray⟩)) | none => False)
  | some .string, some (.slice e), .sc (.string s) => P.underlying e = some (.int .u8) ∧ P.cellsOf e = 1 ∧ s.size ≤ 140737488355328 ∧ K (.lst e (s.data.toList.map u8) .unk false)
  | _, _, _ => False
theorem aConvert_out (hi : Inv P G σ w) {src dst : TypeId} {x : AV} {v : Value} (hx : Rep P G x v) (h : aConvert P src dst x fun v => K v σ) :
    Out P G K Pn (((do pure (Next.value (← convert src dst v))) : Sem Next).run P w) := by
  unfold aConvert at h
  split at h
  · rename_i d k kk n hs hd
    cases hx
    refine Out.pure hi (v := .int k (k.wrap n)) ?_ (.sc _) h
    unfold convert
    rw [Sem.run_bind, run_underlying hs, Result.andThen_ok, Sem.run_bind, run_underlying hd, Result.andThen_ok]
    cases d <;> rfl
  · rename_i d s hs hd
    cases hx
    refine Out.pure hi (v := .string s) ?_ (.sc _) h
    unfold convert
    rw [Sem.run_bind, run_underlying hs, Result.andThen_ok, Sem.run_bind, run_underlying hd, Result.andThen_ok]
    cases d <;> rfl
  · rename_i e hs hd
    obtain ⟨he, h⟩ := h
    cases hx
    refine Out.pure hi (v := .string .empty) ?_ (.sc _) h
    rw [run_convert_bytes_string w src dst e none 0 0 hs he hd]
    simp [Conv.bytesToString]
  · rename_i e e' elems own nil hs hd
    obtain ⟨he, hc1, h⟩ := h
    split at h
    · rename_i bs hbs
      obtain ⟨b1, b2⟩ := allU8_spec hbs
      cases hx with
      | lstN ho =>
        have : bs = [] := List.length_eq_zero_iff.1 (by simpa using b1.symm)
        subst this
        refine Out.pure hi (v := .string .empty) ?_ (.sc _) h
        rw [run_convert_bytes_string w src dst e none 0 0 hs he hd]
        simp [Conv.bytesToString]
      | lstZ =>
        have : bs = [] := List.length_eq_zero_iff.1 (by simpa using b1.symm)
        subst this
        refine Out.pure hi (v := .string .empty) ?_ (.sc _) h
        rw [run_convert_bytes_string w src dst e _ 0 _ hs he hd]
        simp [Conv.bytesToString, loadCells, loadCellsFrom, Result.andThen]
      | lst vs hl hm hr hc ho =>
        rename_i b off cap
        refine Out.pure hi (v := .string ⟨bs.toArray⟩) ?_ (.sc _) h
        rw [b1]
        refine run_convert_bytes_back w src dst e ⟨b, off, none⟩ cap bs hs he hd (fun j hj => ?_)
        have hj' : j < elems.length := by omega
        have h1 := hr j 0 hj' (by omega)
        rw [b2 j hj'] at h1
        simp only [hc1, Nat.mul_one, Nat.add_zero] at h1
        have h2 := (hi.mem _ _ _ (hm j (by rw [hc1, Nat.mul_one]; exact hj'))).1
        rw [Addr.add_lit, h2]
        have e1 : (u8 (bs.getD j 0)).cells.getD 0 AV.any = .sc (.int .u8 (bs.getD j 0).toNat) := rfl
        rw [e1] at h1
        generalize hvj : vs j = vj at h1
        cases h1
        simp [List.getD_eq_getElem?_getD, List.getElem?_eq_getElem hj]
    · exact h.elim
  · rename_i e s hs hd
    obtain ⟨he, hc1, hmax, h⟩ := h
    cases hx
    have hrun := run_bytes_of_string (P := P) w src dst e s hs hd he
    have hcapge := grownCap_ge w s.size 0 e
    have hrow : ∀ k, k < s.size → (bytesRow s (grownCap w s.size 0 e))[k]? = some (.int .u8 (s.data.toList.getD k 0).toNat) := by
      intro k hk
      have hk' : k < s.data.size := hk
      unfold bytesRow
      rw [Array.getElem?_append_left (by simpa using hk')]
      simp [hk', Array.getElem?_eq_getElem hk']
    have hsz : s.size ≤ (bytesRow s (grownCap w s.size 0 e)).size := by
      unfold bytesRow
      rw [Array.size_append]
      have : (s.data.map fun b => Value.int .u8 b.toNat).size = s.size := by rw [Array.size_map]; rfl
      omega
    obtain ⟨hle, hinv⟩ : G.Le (G.keep w.heap.size 0 s.size fun k => .int .u8 (s.data.toList.getD k 0).toNat) ∧ Inv P (G.keep w.heap.size 0 s.size fun k => .int .u8 (s.data.toList.getD k 0).toNat) σ _ :=
      hi.drew.keepNew' e (bytesRow s (grownCap w s.size 0 e)) ((bytesRow s (grownCap w s.size 0 e)).size, (bytesRow s (grownCap w s.size 0 e)).size + 1) s.size (fun k => .int .u8 (s.data.toList.getD k 0).toNat) hsz (fun k hk => ⟨hrow k hk, rfl⟩)
    refine Out.value hrun hle hinv ?_ h
    refine Rep.lst' (fun k => .int .u8 (s.data.toList.getD k 0).toNat) (by rw [List.length_map, Array.length_toList]; rfl) (fun i hi' => ?_) (fun k hk => ?_) (fun i j hi' hj => ?_) hcapge trivial
    · simp only [List.length_map] at hi'
      simp only [List.getD_eq_getElem?_getD, List.getElem?_map, List.getElem?_eq_getElem hi']
      rw [hc1]; rfl
    · rw [hc1, Nat.mul_one] at hk
      rw [Gh.keep_in (by omega) (by omega)]; simp
    · simp only [List.length_map] at hi'
      have : j = 0 := by omega
      subst this
      rw [hc1, Nat.mul_one, Nat.add_zero]
      simp only [List.getD_eq_getElem?_getD, List.getElem?_map, List.getElem?_eq_getElem hi']
      exact .sc _
  · exact h.elim
end Go.AW

set_option linter.unusedSimpArgs false
set_option linter.unusedVariables false
namespace Go.AW
open Go Go.RowKit
variable {P : Program} {G : Gh} {σ : AS} {w : World} {K Pn : AV → AS → Prop}
/-! ## len -/
def aLen (P : Program) (σ : AS) (t : TypeId) (x : AV) (K : AV → Prop) : Prop :=
  match P.underlying t, x with
  | some (.slice _), .lst _ elems _ _ => K (.sc (.int .i64 elems.length))
  | some (.slice _), .nilS => K (.sc (.int .i64 0))
  | some (.slice _), .msl _ _ n _ => K (.sc (.int .i64 n))
  | some .string, .sc (.string s) => K (.sc (.int .i64 s.data.toList.length))
  | some (.array n _), _ => K (.sc (.int .i64 n))
  | some (.map _ _), .mp id => match σ id with | some (.map es) => K (.sc (.int .i64 es.length)) | _ => False
  | some (.map _ _), .sc (.map none) => K (.sc (.int .i64 0))
  | _, _ => False
theorem aLen_out (hi : Inv P G σ w) {t ty : TypeId} {x : AV} {v : Value} (hx : Rep P G x v) (h : aLen P σ t x fun v => K v σ) :
    Out P G K Pn (((do pure (Next.value (← Builtin.len_ #[t] ty #[v]))) : Sem Next).run P w) := by
  unfold aLen at h
  split at h
  · rename_i e e' elems own nil hu
    have : ∃ a c, v = .slice a elems.length c := by cases hx <;> exact ⟨_, _, rfl⟩
    obtain ⟨a, c, rfl⟩ := this
    exact Out.pure hi (by simp [Builtin.len_, run_underlying hu, goInt]) (.sc _) h
  · rename_i e hu
    cases hx
    exact Out.pure hi (by simp [Builtin.len_, run_underlying hu, goInt]) (.sc _) h
  · rename_i e id off n c hu
    cases hx
    exact Out.pure hi (by simp [Builtin.len_, run_underlying hu, goInt]) (.sc _) h
  · rename_i s hu
    cases hx
    refine Out.pure hi (v := .int .i64 s.data.toList.length) (by simp [Builtin.len_, run_underlying hu, goInt]) (.sc _) h
  · rename_i n e hu
    exact Out.pure hi (by simp [Builtin.len_, run_underlying hu, goInt]) (.sc _) h
  · rename_i k e id hu
    split at h
    · rename_i es hs
      obtain ⟨b, ms, c, k1, k2, k3, k4⟩ := hi.maps _ _ hs
      cases hx with
      | mp hb =>
        rw [hb] at k1
        obtain rfl := Option.some.inj k1
        refine Out.pure hi (v := .int .i64 es.length) ?_ (.sc _) h
        simp [Builtin.len_, run_underlying hu, getObj, Sem.run, k2, goInt, k3]
    · exact h.elim
  · rename_i k e hu
    cases hx
    exact Out.pure hi (by simp [Builtin.len_, run_underlying hu, goInt]) (.sc _) h
  · exact h.elim
/-! ## append -/
def srcElems (P : Program) (e tx : TypeId) (x : AV) : Option (List AV) :=
  match P.underlying tx, x with
  | some (.slice _), .lst e' xs _ _ => if e' = e then some xs else none
  | some (.slice _), .nilS => some []
  | some .string, .sc (.string s) => if P.cellsOf e = 1 then some (s.data.toList.map u8) else none
  | some (.int _), .sc (.int _ n) => if 0 ≤ n ∧ n ≤ 1000000 ∧ P.bytesOf e ≤ 1000 then some (List.replicate n.toNat (zeroAV P e)) else none
  | _, _ => none
theorem zeros_get {z : Value} {m : Nat} (hz : z.cells.size = m) (n : Nat) (i j : Nat) (hi : i < n) (hj : j < m) : ((Builtin.zeroCells z.cells n).toList).getD (i * m + j) undef = z.cells.getD j undef := by
  have hlt : i * m + j < n * m := by
    have : (i + 1) * m ≤ n * m := Nat.mul_le_mul_right m hi
    rw [Nat.add_mul] at this; omega
  have e1 : (i * m + j) % m = j := by rw [Nat.add_comm, Nat.add_mul_mod_self_right, Nat.mod_eq_of_lt hj]
  have hjs : j < z.cells.size := by omega
  have e2 : z.cells[j]! = z.cells[j] := by simp [getElem!_def, hjs]
  simp [Builtin.zeroCells, hz, hlt, e1, hjs, e2, Array.getD]
  omega
theorem src_ok (hi : Inv P G σ w) {e tx : TypeId} {x : AV} {vx : Value} {xs : List AV} (hz1 : (zeroAV P e).laid = true) (hz2 : (zeroAV P e).cells.length = P.cellsOf e) (hx : Rep P G x vx) (h : srcElems P e tx x = some xs) :
    ∃ news, SrcG P e tx vx xs.length news w ∧ News P G e xs news := by
  suffices hsuf : (∃ news, Src P (P.cellsOf e) tx vx xs.length news w ∧ News P G e xs news) ∨ ∃ news i, P.info? e = some i ∧ ZSrc P i tx vx xs.length news ∧ News P G e xs news by
    rcases hsuf with ⟨news, h1, h2⟩ | ⟨news, i, h1, h2, h3⟩
    · exact ⟨news, .inl h1, h2⟩
    · exact ⟨news, .inr ⟨i, h1, h2⟩, h3⟩
  unfold srcElems at h
  split at h
  · rename_i e1 e' ys own nil hu
    split at h
    · rename_i he
      subst he
      cases h
      cases hx with
      | lstN ho => exact .inl ⟨[], Src.ofNil w hu 0, by simp, by simp, by simp⟩
      | lstZ => exact .inl ⟨[], Src.ofSlice w hu _ 0 _ [] (by simp) (by simp) (by simp), by simp, by simp, by simp⟩
      | lst vs hl hm hr hc ho =>
        rename_i b off cap
        refine .inl ⟨(List.range (xs.length * P.cellsOf e')).map vs, Src.ofSlice w hu ⟨b, off, none⟩ xs.length cap _ (by simp) (fun j u hu' => ?_) (fun u hu' => ?_), by simp, hl, fun i j hi' hj => ?_⟩
        · have hj : j < xs.length * P.cellsOf e' := by
            rcases Nat.lt_or_ge j (xs.length * P.cellsOf e') with h | h
            · exact h
            · rw [List.getElem?_eq_none (by simpa using h)] at hu'; cases hu'
          simp [hj] at hu'
          subst hu'
          rw [Addr.add_lit]
          exact (hi.mem _ _ _ (hm j hj)).1
        · simp at hu'
          obtain ⟨j, hj, rfl⟩ := hu'
          exact (hi.mem _ _ _ (hm j hj)).2
        · have := hr i j hi' hj
          have hlt := idx_lt hi' hj
          simpa [List.getD_eq_getElem?_getD, hlt] using this
    · cases h
  · rename_i e1 hu
    cases h
    cases hx
    exact .inl ⟨[], Src.ofNil w hu 0, by simp, by simp, by simp⟩
  · rename_i s hu
    split at h
    · rename_i hc1
      cases h
      cases hx
      have hlen : (s.data.toList.map u8).length = s.size := by rw [List.length_map, Array.length_toList]; rfl
      refine .inl ⟨byteCells s, ?_, ?_, fun i hi' => ?_, fun i j hi' hj => ?_⟩
      · rw [hc1, hlen]; exact Src.ofString w hu s
      · rw [byteCells_length, hlen, hc1, Nat.mul_one]
      · simp only [List.length_map] at hi'
        simp only [List.getD_eq_getElem?_getD, List.getElem?_map, List.getElem?_eq_getElem hi']
        rw [hc1]; rfl
      · simp only [List.length_map] at hi'
        have : j = 0 := by omega
        subst this
        rw [hc1, Nat.mul_one, Nat.add_zero]
        simp only [byteCells, List.getD_eq_getElem?_getD, List.getElem?_map, List.getElem?_eq_getElem hi']
        exact .sc _
    · cases h
  · rename_i k k' n hu
    split at h
    · rename_i hc
      cases h
      cases hx
      obtain ⟨hc0, hc1, hc2⟩ := hc
      obtain ⟨it, z, hit, hz, hzr⟩ := zeroAV_info hz1
      have hsz : it.size = P.cellsOf e := by simp [Program.cellsOf, hit]
      have hby : it.bytes = P.bytesOf e := by simp [Program.bytesOf, hit]
      obtain ⟨z1, z2⟩ := laid_cells (rep_ofC (P := P) (G := G) z) (by rw [← hzr]; exact hz1)
      rw [← hzr, hz2] at z1 z2
      obtain ⟨N, rfl⟩ : ∃ N : Nat, n = N := ⟨n.toNat, by omega⟩
      simp only [Int.toNat_natCast, List.length_replicate]
      have hlen : ((Builtin.zeroCells z.cells N).toList).length = N * P.cellsOf e := by simp [Builtin.zeroCells, z1]
      have hnews : (if N * it.size = 0 then [] else (Builtin.zeroCells z.cells N).toList) = (Builtin.zeroCells z.cells N).toList := by
        by_cases h0 : N * it.size = 0
        · rw [if_pos h0]
          rw [hsz] at h0
          rw [h0] at hlen
          exact (List.length_eq_zero_iff.1 hlen).symm
        · rw [if_neg h0]
      refine .inr ⟨(Builtin.zeroCells z.cells N).toList, it, hit, ⟨⟨k, hu⟩, ⟨k', rfl⟩, ⟨by omega, by omega⟩, ⟨z, hz, hnews.symm⟩, by rw [hlen, hsz], fun u hu' => ?_⟩, by simp [hlen], fun i hi' => ?_, fun i j hi' hj => ?_⟩
      · obtain ⟨p, hp, rfl⟩ := List.getElem_of_mem hu'
        rw [hlen] at hp
        have hpos : 0 < P.cellsOf e := by
          rcases Nat.eq_zero_or_pos (P.cellsOf e) with h | h
          · rw [h] at hp; omega
          · exact h
        have hm1 : p % P.cellsOf e < P.cellsOf e := Nat.mod_lt _ hpos
        have hm2 : p / P.cellsOf e < N := Nat.div_lt_of_lt_mul (by rw [Nat.mul_comm]; exact hp)
        have hm3 : (p / P.cellsOf e) * P.cellsOf e + p % P.cellsOf e = p := by rw [Nat.mul_comm]; exact Nat.div_add_mod p _
        have hg := zeros_get z1 N _ _ hm2 hm1
        rw [hm3] at hg
        have he : (Builtin.zeroCells z.cells N).toList[p] = (Builtin.zeroCells z.cells N).toList.getD p undef := by
          rw [List.getD_eq_getElem?_getD, List.getElem?_eq_getElem (by rw [hlen]; exact hp)]; rfl
        rw [he, hg]
        exact (z2 _ hm1).2
      · simp only [List.length_replicate] at hi'
        rw [List.getD_eq_getElem?_getD, List.getElem?_replicate, if_pos hi']
        exact hz2
      · simp only [List.length_replicate] at hi'
        rw [zeros_get z1 N i j hi' hj]
        have hg : (List.replicate N (zeroAV P e)).getD i .any = zeroAV P e := by rw [List.getD_eq_getElem?_getD, List.getElem?_replicate, if_pos hi']; rfl
        rw [hg]
        exact (z2 j hj).1
    · cases h
  · cases h
def aAppend (P : Program) (σ : AS) (t tx : TypeId) (s x : AV) (K : AV → AS → Prop) : Prop :=
  match sliceT P t with
  | some e => P.cellsOf e ≠ 0 ∧ (zeroAV P e).laid = true ∧ (zeroAV P e).cells.length = P.cellsOf e ∧ (match srcElems P e tx x with
    | some xs => match s with
      | .nilS => xs.length * P.bytesOf e ≤ roomB (P.bytesOf e) ∧ xs.length ≤ 140737488355328 ∧ ∀ tk, σ tk = none → K (.lst e xs (.tok tk) xs.isEmpty) (σ.set tk (.tok xs.length))
      | .lst e' elems .full nil => e' = e ∧ (elems.length + xs.length) * P.bytesOf e ≤ roomB (P.bytesOf e) ∧ elems.length + xs.length ≤ 140737488355328 ∧
          ∀ tk, σ tk = none → K (.lst e (elems ++ xs) (.tok tk) (nil && xs.isEmpty)) (σ.set tk (.tok (elems.length + xs.length)))
      | .lst e' elems (.tok tk) nil => e' = e ∧ (elems.length + xs.length) * P.bytesOf e ≤ roomB (P.bytesOf e) ∧ elems.length + xs.length ≤ 140737488355328 ∧ σ tk = some (.tok elems.length) ∧
          K (.lst e (elems ++ xs) (.tok tk) (nil && xs.isEmpty)) (σ.set tk (.tok (elems.length + xs.length)))
      | _ => False
    | none => False)
  | none => False
theorem Rep.mint (hi : Inv P G σ w) {e : TypeId} {elems : List AV} {nil : Bool} {v : Value} (h : Rep P G (.lst e elems .full nil) v) :
    ∃ r, G.Le (G.mint r) ∧ Inv P (G.mint r) (σ.set G.top (.tok elems.length)) w ∧ Rep P (G.mint r) (.lst e elems (.tok G.top) nil) v := by
  cases h with
  | lstN ho =>
    obtain ⟨h1, h2⟩ := hi.mint none 0 e (fun _ => rfl)
    exact ⟨_, h1, h2, .lstN ⟨⟨none, 0, 0, e⟩, by simp [Gh.mint], rfl, Nat.le_refl _, fun _ => rfl⟩⟩
  | lst vs hl hm hr hc ho =>
    rename_i b off cap
    obtain ⟨a, ha⟩ := ho
    simp only [Value.slice.injEq] at ha
    obtain ⟨_, _, rfl⟩ := ha
    obtain ⟨h1, h2⟩ := hi.mint (some (b, off)) elems.length e (fun hh => by cases hh)
    refine ⟨_, h1, h2, .lst vs hl hm (fun i j a b => (hr i j a b).mono h1) hc ⟨⟨some (b, off), elems.length, elems.length, e⟩, by simp [Gh.mint], rfl, Nat.le_refl _, fun _ => rfl⟩⟩
theorem aAppend_out (hi : Inv P G σ w) {t tx ty : TypeId} {s x : AV} {vs vx : Value} (hs : Rep P G s vs) (hx : Rep P G x vx) (h : aAppend P σ t tx s x K) :
    Out P G K Pn (((do pure (Next.value (← Builtin.append_ #[t, tx] ty #[vs, vx]))) : Sem Next).run P w) := by
  unfold aAppend at h
  split at h
  · rename_i e he
    obtain ⟨hc0, hz1, hz2, h⟩ := h
    have hu := sliceT_eq he
    obtain ⟨it, z, hit, hz, hzr⟩ := zeroAV_info hz1
    have hrz : Rep P G (zeroAV P e) z := by rw [hzr]; exact rep_ofC z
    have hzs : z.cells.size = P.cellsOf e := by rw [← hz2]; exact (laid_cells hrz hz1).1
    split at h
    · rename_i xs hxs
      -- the case with a token
      have tokened : ∀ (G : Gh) (σ : AS) (elems : List AV) (tk : Nat) (nil : Bool), Inv P G σ w → Rep P G x vx → Rep P G (.lst e elems (.tok tk) nil) vs → σ tk = some (.tok elems.length) →
          (elems.length + xs.length) * P.bytesOf e ≤ roomB (P.bytesOf e) → elems.length + xs.length ≤ 140737488355328 →
          ∃ v' w' G', (Builtin.append_ #[t, tx] ty #[vs, vx]).run P w = .ok v' w' ∧ G.Le G' ∧ Inv P G' (σ.set tk (.tok (elems.length + xs.length))) w' ∧ Rep P G' (.lst e (elems ++ xs) (.tok tk) (nil && xs.isEmpty)) v' := by
        intro G σ elems tk nil hi hx hs htk h1 h2
        obtain ⟨news, s1, s2⟩ := src_ok hi hz1 hz2 hx hxs
        exact hi.append hu hit hz hzs (by omega) hs htk s1 s2 h1 h2
      have fulled : ∀ (elems : List AV) (nil : Bool), Rep P G (.lst e elems .full nil) vs → (elems.length + xs.length) * P.bytesOf e ≤ roomB (P.bytesOf e) → elems.length + xs.length ≤ 140737488355328 →
          (∀ tk, σ tk = none → K (.lst e (elems ++ xs) (.tok tk) (nil && xs.isEmpty)) (σ.set tk (.tok (elems.length + xs.length)))) →
          Out P G K Pn (((do pure (Next.value (← Builtin.append_ #[t, tx] ty #[vs, vx]))) : Sem Next).run P w) := by
        intro elems nil hs h1 h2 h3
        obtain ⟨r, m1, m2, m3⟩ := hs.mint hi
        obtain ⟨v', w', G', q1, q2, q3, q4⟩ := tokened (G.mint r) _ elems G.top nil m2 (hx.mono m1) m3 (by simp) h1 h2
        rw [AS.set_set] at q3
        exact Out.value q1 (m1.trans q2) q3 q4 (h3 _ hi.fresh)
      split at h
      · obtain ⟨h1, h2, h3⟩ := h
        cases hs
        have := fulled [] true (.lstN ⟨none, rfl⟩) (by simpa using h1) (by simpa using h2)
        simp only [List.nil_append, List.length_nil, Nat.zero_add, Bool.true_and] at this
        exact this h3
      · rename_i e' elems nil
        obtain ⟨rfl, h1, h2, h3⟩ := h
        exact fulled elems nil hs h1 h2 h3
      · rename_i e' elems tk nil
        obtain ⟨rfl, h1, h2, h3, h4⟩ := h
        obtain ⟨v', w', G', q1, q2, q3, q4⟩ := tokened G σ elems tk nil hi hx hs h3 h1 h2
        exact Out.value q1 q2 q3 q4 h4
      · exact h.elim
    · exact h.elim
  · exact h.elim
/-! ## copy -/
def copyCells (P : Program) (σ : AS) (e : TypeId) (x : AV) : Option (Nat × List AV) :=
  match x with
  | .msl id off len _ => match σ id with
    | some (.cells _ cs) => if off + len * P.cellsOf e ≤ cs.length then some (len, (cs.drop off).take (len * P.cellsOf e)) else none
    | _ => none
  | .lst e' xs _ _ => if e' = e ∧ P.cellsOf e = 1 ∧ xs.all AV.one = true then some (xs.length, xs) else none
  | _ => none
def aCopy (P : Program) (σ : AS) (t : TypeId) (x y : AV) (K : AV → AS → Prop) : Prop :=
  match sliceT P t with
  | some e => match x with
    | .msl id off len _ => match σ id with
      | some (.cells ty cs) => P.cellsOf e ≠ 0 ∧ off + len * P.cellsOf e ≤ cs.length ∧ (match copyCells P σ e y with
        | some (m, av) => K (.sc (.int .i64 (Nat.min m len : Nat))) (σ.set id (.cells ty (cs.take off ++ av.take (Nat.min m len * P.cellsOf e) ++ cs.drop (off + (av.take (Nat.min m len * P.cellsOf e)).length))))
        | none => False)
      | _ => False
    | _ => False
  | none => False
theorem one_cells {v : AV} (h : v.one = true) : v.cells = [v] := by
  cases v <;> first | rfl | (simp [AV.one] at h)
theorem copySrc_ok (hi : Inv P G σ w) {e : TypeId} {y : AV} {vy : Value} {m : Nat} {av : List AV} (hy : Rep P G y vy) (h : copyCells P σ e y = some (m, av)) :
    (Builtin.lenOf vy).run P w = .ok m w ∧ av.length = m * P.cellsOf e ∧ ∀ n, n ≤ m → ∃ vs : List Value, vs.length = n * P.cellsOf e ∧ (Builtin.firstCells (P.cellsOf e) n vy).run P w = .ok vs.toArray w ∧
      ∀ k, k < n * P.cellsOf e → Rep P G (av.getD k .any) (vs.getD k undef) ∧ (vs.getD k undef).oneCell' = true := by
  have mk : ∀ (a : Addr) (f : Nat → Value) (n : Nat), (∀ k, k < n * P.cellsOf e → w.cell? (a.add k) = some (f k) ∧ Rep P G (av.getD k .any) (f k) ∧ (f k).oneCell' = true) →
      ∃ vs : List Value, vs.length = n * P.cellsOf e ∧ (loadCells a (n * P.cellsOf e)).run P w = .ok vs.toArray w ∧ ∀ k, k < n * P.cellsOf e → Rep P G (av.getD k .any) (vs.getD k undef) ∧ (vs.getD k undef).oneCell' = true := by
    intro a f n hf
    refine ⟨(List.range (n * P.cellsOf e)).map f, by simp, run_loadCells w a _ f (fun j hj => (hf j hj).1), fun k hk => ?_⟩
    have : ((List.range (n * P.cellsOf e)).map f).getD k undef = f k := by simp [List.getD_eq_getElem?_getD, hk]
    rw [this]
    exact (hf k hk).2
  unfold copyCells at h
  split at h
  · rename_i id off len cap
    split at h
    · rename_i ty cs hs
      split at h
      · rename_i hfit
        cases h
        obtain ⟨b, cur, k1, k2, k3, k4⟩ := hi.cells _ _ _ hs
        cases hy with
        | msl hb =>
          rw [hb] at k1
          obtain rfl := Option.some.inj k1
          refine ⟨by simp [Builtin.lenOf], by simp; omega, fun n hn => ?_⟩
          have hle : n * P.cellsOf e ≤ m * P.cellsOf e := Nat.mul_le_mul_right _ hn
          obtain ⟨vs, q1, q2, q3⟩ := mk ⟨_, off, none⟩ (fun k => cur.getD (off + k) undef) n (fun k hk => by
            rw [Addr.add_lit]
            refine ⟨cell_of_heap k2 (by omega), ?_, (k4 _ (by omega)).2⟩
            have e1 : ((cs.drop off).take (m * P.cellsOf e)).getD k .any = cs.getD (off + k) .any := by
              simp only [List.getD_eq_getElem?_getD]
              rw [List.getElem?_take_of_lt (by omega), List.getElem?_drop]
            rw [e1]
            exact (k4 _ (by omega)).1)
          exact ⟨vs, q1, by simpa [Builtin.firstCells] using q2, q3⟩
      · cases h
    · cases h
  · rename_i e' xs own nil
    split at h
    · rename_i hc
      obtain ⟨rfl, hc1, ho⟩ := hc
      cases h
      cases hy with
      | lstN ho' => exact ⟨by simp [Builtin.lenOf], by simp, fun n hn => ⟨[], by simp at hn; simp [hn], by simp [Builtin.firstCells], fun k hk => by simp at hn; simp [hn] at hk⟩⟩
      | lstZ =>
        refine ⟨by simp [Builtin.lenOf], by simp, fun n hn => ⟨[], by simp at hn; simp [hn], ?_, fun k hk => by simp at hn; simp [hn] at hk⟩⟩
        simp at hn
        subst hn
        simp [Builtin.firstCells, loadCells, loadCellsFrom]
      | lst vs hl hm hr hcap hown =>
        rename_i b off cap
        refine ⟨by simp [Builtin.lenOf], by simp [hc1], fun n hn => ?_⟩
        obtain ⟨vs', q1, q2, q3⟩ := mk ⟨b, off, none⟩ vs n (fun k hk => by
          rw [Addr.add_lit]
          rw [hc1, Nat.mul_one] at hk
          have hx : (av.getD k .any).one = true := by
            rw [List.getD_eq_getElem?_getD, List.getElem?_eq_getElem (by omega)]
            exact List.all_eq_true.1 ho _ (List.getElem_mem _)
          have := hr k 0 (by omega) (by omega)
          rw [one_cells hx, hc1, Nat.mul_one, Nat.add_zero] at this
          obtain ⟨g1, g2⟩ := hi.mem _ _ _ (hm k (by rw [hc1, Nat.mul_one]; omega))
          exact ⟨g1, by simpa using this, g2⟩)
        exact ⟨vs', q1, by simpa [Builtin.firstCells] using q2, q3⟩
    · cases h
  · cases h
theorem aCopy_out (hi : Inv P G σ w) {t tx ty : TypeId} {x y : AV} {vx vy : Value} (hx : Rep P G x vx) (hy : Rep P G y vy) (h : aCopy P σ t x y K) :
    Out P G K Pn (((do pure (Next.value (← Builtin.copy_ #[t, tx] ty #[vx, vy]))) : Sem Next).run P w) := by
  unfold aCopy at h
  split at h
  · rename_i e he
    split at h
    · rename_i id off len cap
      split at h
      · rename_i ty' cs hs
        obtain ⟨hc0, hfit, h⟩ := h
        split at h
        · rename_i m av hsrc
          have hu := sliceT_eq he
          obtain ⟨inf, hinf, hsz, _⟩ := info_of_cells (P := P) (t := e) hc0
          obtain ⟨hlen, hal, hcells⟩ := copySrc_ok hi hy hsrc
          obtain ⟨vs, q1, q2, q3⟩ := hcells (Nat.min m len) (Nat.min_le_left _ _)
          have hn1 : Nat.min m len * P.cellsOf e ≤ len * P.cellsOf e := Nat.mul_le_mul_right _ (Nat.min_le_right _ _)
          have hn2 : Nat.min m len * P.cellsOf e ≤ m * P.cellsOf e := Nat.mul_le_mul_right _ (Nat.min_le_left _ _)
          cases hx with
          | msl hb =>
            rename_i b
            obtain ⟨b', cur, k1, k2, k3, k4⟩ := hi.cells _ _ _ hs
            rw [hb] at k1
            obtain rfl := Option.some.inj k1
            have hst := run_storeCells_cells (P := P) b off vs 0 w
              (fun j hj => by rw [Nat.add_zero, cell_of_heap k2 (by omega)]; rfl)
              (fun j hj => by simp [World.frozen?, k2])
              (fun u hu' => by
                obtain ⟨k, hk, rfl⟩ := List.getElem_of_mem hu'
                have := (q3 k (by omega)).2
                simpa [List.getD_eq_getElem?_getD, hk] using this)
            simp only [Nat.add_zero] at hst
            refine Out.value (v := goInt (Nat.min m len : Nat)) (w' := w.setCells b off vs) ?_ (.refl G) (hi.store hs off vs (av.take (Nat.min m len * P.cellsOf e)) (by simp; omega) (by omega) (fun k hk => ?_) b hb) (.sc _) h
            · rw [← hsz] at q2
              simp [Builtin.copy_, run_underlying hu, hlen, sizeOf, run_typeInfo w hinf, q2, hst]
            · simp only [List.length_take] at hk
              have hk' : k < Nat.min m len * P.cellsOf e := by omega
              have e1 : (av.take (Nat.min m len * P.cellsOf e)).getD k .any = av.getD k .any := by
                simp only [List.getD_eq_getElem?_getD]
                rw [List.getElem?_take_of_lt hk']
              rw [e1]
              exact q3 k hk'
        · exact h.elim
      · exact h.elim
    · exact h.elim
  · exact h.elim
def aBuiltin (P : Program) (σ : AS) (b : Builtin) (ts : List TypeId) (args : List AV) (K : AV → AS → Prop) : Prop :=
  match b, ts, args with
  | .len, [t], [x] => aLen P σ t x fun v => K v σ
  | .append, [t, tx], [s, x] => aAppend P σ t tx s x K
  | .copy, [t, _], [x, y] => aCopy P σ t x y K
  | .min, _, [.sc (.int k a), .sc (.int k' b)] => K (.sc (.int k (if b < a then b else a))) σ
  | .max, _, [.sc (.int k a), .sc (.int k' b)] => K (.sc (.int k (if a < b then b else a))) σ
  | _, _, _ => False
theorem two_of {α : Type} {a : Array α} {x y : α} (h : a.toList = [x, y]) : a = #[x, y] := by
  apply Array.ext'; rw [h]
theorem one_of {α : Type} {a : Array α} {x : α} (h : a.toList = [x]) : a = #[x] := by
  apply Array.ext'; rw [h]
theorem aBuiltin_out (hi : Inv P G σ w) {b : Builtin} {ts : Array TypeId} {ty : TypeId} {cs : Array Bool} {args : Array Operand} {s : Fr} {ρ : Operand → Value} (hρ : ∀ x, Rep P G (ev s x) (ρ x))
    (h : aBuiltin P σ b ts.toList (args.toList.map (ev s)) K) : Out P G K Pn ((builtin b ts ty cs (args.map ρ)).run P w) := by
  unfold aBuiltin at h
  split at h
  · rename_i t x h1 h2
    obtain rfl := one_of h1
    obtain ⟨o, rfl⟩ : ∃ o, args = #[o] := by
      cases hl : args.toList with
      | nil => rw [hl] at h2; simp at h2
      | cons o r =>
        rw [hl] at h2
        simp at h2
        obtain ⟨_, rfl⟩ := h2
        exact ⟨o, one_of hl⟩
    simp at h2
    subst h2
    have e : (#[o] : Array Operand).map ρ = #[ρ o] := by simp
    rw [e]
    exact aLen_out (ty := ty) hi (hρ o) h
  · rename_i t tx a x h1 h2
    obtain rfl := two_of h1
    obtain ⟨o1, o2, rfl⟩ : ∃ o1 o2, args = #[o1, o2] := by
      cases hl : args.toList with
      | nil => rw [hl] at h2; simp at h2
      | cons o r =>
        cases r with
        | nil => rw [hl] at h2; simp at h2
        | cons o' r =>
          rw [hl] at h2
          simp at h2
          obtain ⟨_, _, rfl⟩ := h2
          exact ⟨o, o', two_of hl⟩
    simp at h2
    obtain ⟨rfl, rfl⟩ := h2
    have e : (#[o1, o2] : Array Operand).map ρ = #[ρ o1, ρ o2] := by simp
    rw [e]
    exact aAppend_out (ty := ty) hi (hρ o1) (hρ o2) h
  · rename_i t tx a x h1 h2
    obtain rfl := two_of h1
    obtain ⟨o1, o2, rfl⟩ : ∃ o1 o2, args = #[o1, o2] := by
      cases hl : args.toList with
      | nil => rw [hl] at h2; simp at h2
      | cons o r =>
        cases r with
        | nil => rw [hl] at h2; simp at h2
        | cons o' r =>
          rw [hl] at h2
          simp at h2
          obtain ⟨_, _, rfl⟩ := h2
          exact ⟨o, o', two_of hl⟩
    simp at h2
    obtain ⟨rfl, rfl⟩ := h2
    have e : (#[o1, o2] : Array Operand).map ρ = #[ρ o1, ρ o2] := by simp
    rw [e]
    exact aCopy_out (ty := ty) hi (hρ o1) (hρ o2) h
  all_goals first | exact h.elim | skip
  all_goals
    rename_i k a k' b' h2
    obtain ⟨o1, o2, rfl⟩ : ∃ o1 o2, args = #[o1, o2] := by
      cases hl : args.toList with
      | nil => rw [hl] at h2; simp at h2
      | cons o r =>
        cases r with
        | nil => rw [hl] at h2; simp at h2
        | cons o' r =>
          rw [hl] at h2
          simp at h2
          obtain ⟨_, _, rfl⟩ := h2
          exact ⟨o, o', two_of hl⟩
    simp at h2
    obtain ⟨e1, e2⟩ := h2
    have r1 := hρ o1
    have r2 := hρ o2
    rw [e1] at r1
    rw [e2] at r2
    have e : (#[o1, o2] : Array Operand).map ρ = #[ρ o1, ρ o2] := by simp
    rw [e]
    generalize ρ o1 = v1 at r1 ⊢
    generalize ρ o2 = v2 at r2 ⊢
    cases r1
    cases r2
  · exact Out.pure hi (s := Builtin.min_ ts ty #[.int k a, .int k' b']) (by simp [Builtin.min_, Builtin.min2]) (.sc _) h
  · exact Out.pure hi (s := Builtin.max_ ts ty #[.int k a, .int k' b']) (by simp [Builtin.max_, Builtin.max2]) (.sc _) h
end Go.AW

set_option linter.unusedSimpArgs false
set_option linter.unusedVariables false
namespace Go.AW
open Go Go.RowKit
variable {P : Program} {G : Gh} {σ : AS} {w : World} {K Pn : AV → AS → Prop}
/-! ## texts gone through; slices that are made -/
theorem Inv.allocIt (h : Inv P G σ w) (o : Obj) (blk : ABlk) (hblk : blk.isIter = true) (hok : ItOk (G.bind w.heap.size) (w.alloc o) blk w.heap.size) :
    ∃ G', G.Le G' ∧ G'.inj G.top = some w.heap.size ∧ Inv P G' (σ.set G.top blk) (w.alloc o) := by
  have hle := G.bind_le w.heap.size (h.top _ (Nat.le_refl _)).1
  have hb := h.bind o
  refine ⟨_, hle, by simp [Gh.bind], hb.below, hb.base, hb.mem, hb.top, (fun i b e => ⟨(hb.injB i b e).1, (hb.injB i b e).2.1, fun ty cs hn => (hb.injB i b e).2.2 ty cs (by
    by_cases hi : i = G.top
    · subst hi; simp [AS.set] at hn; subst hn; cases hblk
    · simpa [AS.set, hi] using hn)⟩), hb.inj1, ?_, ?_, ?_, ?_, hb.own⟩
  · intro i ty cs e
    by_cases hi : i = G.top
    · simp [AS.set, hi] at e; subst e; cases hblk
    · simp [AS.set, hi] at e; exact hb.cells i ty cs e
  · intro i es e
    by_cases hi : i = G.top
    · simp [AS.set, hi] at e; subst e; cases hblk
    · simp [AS.set, hi] at e; exact hb.maps i es e
  · intro i s p e
    by_cases hi : i = G.top
    · subst hi
      simp [AS.set] at e
      subst e
      exact ⟨w.heap.size, by simp [Gh.bind], hok⟩
    · simp [AS.set, hi] at e; exact hb.iters i s p e
  · intro i n e
    by_cases hi : i = G.top
    · simp [AS.set, hi] at e; subst e; cases hblk
    · simp [AS.set, hi] at e; exact hb.tok i n e
theorem Inv.setIt (h : Inv P G σ w) {id b : Nat} {o0 : Obj} (hb : G.inj id = some b) (hw : w.heap[b]? = some o0) (hc0 : ∀ c e f, o0 ≠ .cells c e f) (hm0 : ∀ ms cl, o0 ≠ .map ms cl) (o : Obj) (blk : ABlk) (hblk : blk.isIter = true)
    (hok : ItOk G { w with heap := w.heap.setIfInBounds b o } blk b) :
    Inv P G (σ.set id blk) { w with heap := w.heap.setIfInBounds b o } := by
  have hlt := lt_of_heap hw
  have hB := h.injB id b hb
  have other : ∀ k, k ≠ b → (w.heap.setIfInBounds b o)[k]? = w.heap[k]? := fun k hk => Array.getElem?_setIfInBounds_ne (fun e => hk e.symm)
  have same : (w.heap.setIfInBounds b o)[b]? = some o := by simp [hlt]
  have hmem : ∀ o, G.mem b o = none := by
    intro o'
    cases hm : G.mem b o' with
    | none => rfl
    | some v =>
      have := (h.mem b o' v hm).1
      simp only [World.cell?, hw] at this
      cases o0 with
      | cells c e f => exact absurd rfl (hc0 c e f)
      | _ => simp at this
  refine ⟨⟨h.below.os, h.below.tape, h.below.output, by simpa using h.below.size, fun k hk => by
    have hkb : k ≠ b := by have := hB.1; omega
    rw [show ({ w with heap := w.heap.setIfInBounds b o } : World).heap[k]? = (w.heap.setIfInBounds b o)[k]? from rfl, other k hkb]
    exact h.below.block k hk⟩, h.base, ?_, h.top, ?_, h.inj1, ?_, ?_, ?_, ?_, ?_⟩
  · intro b' o v em
    have hne : b' ≠ b := by intro e'; subst e'; rw [hmem o] at em; cases em
    exact ⟨by rw [World.cell?_of_block (w := w) (other b' hne)]; exact (h.mem b' o v em).1, (h.mem b' o v em).2⟩
  · intro j c ej
    have := h.injB j c ej
    refine ⟨this.1, by simpa using this.2.1, fun ty' cs' hn => ?_⟩
    by_cases hj : j = id
    · subst hj; simp [AS.set] at hn; subst hn; cases hblk
    · exact this.2.2 ty' cs' (by simpa [AS.set, hj] using hn)
  · intro j ty' cs' ej
    have hj : j ≠ id := by intro e'; subst e'; simp [AS.set] at ej; subst ej; cases hblk
    simp [AS.set, hj] at ej
    obtain ⟨c, vs', k1, k2, k3⟩ := h.cells j ty' cs' ej
    have hne : c ≠ b := fun e' => hj (h.inj1 j id b (e' ▸ k1) hb)
    exact ⟨c, vs', k1, by rw [other c hne]; exact k2, k3⟩
  · intro j es' ej
    have hj : j ≠ id := by intro e'; subst e'; simp [AS.set] at ej; subst ej; cases hblk
    simp [AS.set, hj] at ej
    obtain ⟨c, ms2, cl, k1, k2, k3⟩ := h.maps j es' ej
    have hne : c ≠ b := fun e' => hj (h.inj1 j id b (e' ▸ k1) hb)
    exact ⟨c, ms2, cl, k1, by rw [other c hne]; exact k2, k3⟩
  · intro j s p ej
    by_cases hj : j = id
    · subst hj
      simp [AS.set] at ej
      subst ej
      exact ⟨b, hb, hok⟩
    · simp [AS.set, hj] at ej
      obtain ⟨c, k1, k2⟩ := h.iters j s p ej
      have hne : c ≠ b := fun e' => hj (h.inj1 j id b (e' ▸ k1) hb)
      exact ⟨c, k1, k2.keep (fun _ _ h => h) (fun o ho => by rw [other c hne]; exact ho) (fun m ms cl hm => by rw [other m (fun e => by subst e; rw [hw] at hm; exact hm0 _ _ (Option.some.inj hm))]; exact hm)⟩
  · intro j n ej
    have hj : j ≠ id := by intro e'; subst e'; simp [AS.set] at ej; subst ej; cases hblk
    simp [AS.set, hj] at ej
    exact h.tok j n ej
  · intro t r et
    obtain ⟨k1, k2, k3⟩ := h.own t r et
    refine ⟨k1, k2, fun c o ea k hk1 hk2 => ?_⟩
    obtain ⟨m1, m2, m3, m4, m5, m6, m7⟩ := k3 c o ea k hk1 hk2
    have hne : c ≠ b := fun e' => m4 id (e' ▸ hb)
    refine ⟨?_, ?_, m3, m4, m5, by simpa using m6, m7⟩
    · rw [World.cell?_of_block (w := w) (other c hne)]; exact m1
    · rw [World.frozen?_of_block (w := w) (other c hne)]; exact m2
def aRange (P : Program) (σ : AS) (t : TypeId) (x : AV) (K : AV → AS → Prop) : Prop :=
  match x with
  | .sc (.string b) => P.underlying t = some .string ∧ ∀ id, σ id = none → K (.ptr id 0) (σ.set id (.siter b 0))
  | .mp mid => (match P.underlying t, σ mid with
    | some (.map _ _), some (.map es) => ∀ id, σ id = none → K (.ptr id 0) (σ.set id (.miter mid es.length []))
    | _, _ => False)
  | _ => False
def nextS (id : Nat) (b : ByteArray) (pos : Nat) (σ : AS) (K : AV → AS → Prop) : Prop :=
  if pos < b.size then K (.tup [.sc (.bool true), .sc (.int .i64 pos), .sc (.int .i32 (Utf8.decode b pos).1)]) (σ.set id (.siter b (pos + (Utf8.decode b pos).2))) else K (.tup [.sc (.bool false)]) σ
def nextM (id mid n0 : Nat) (done : List Nat) (σ : AS) (K : AV → AS → Prop) : Prop :=
  match σ mid with
  | some (.map es) => es.length = n0 ∧ ((∀ k, k < n0 → k ∈ done) → K (.tup [.sc (.bool false)]) σ) ∧
      ∀ k, k < n0 → k ∉ done → K (.tup [.sc (.bool true), (es.getD k (.any, .any)).1, (es.getD k (.any, .any)).2]) (σ.set id (.miter mid n0 (k :: done)))
  | _ => False
def aNext (σ : AS) (x : AV) (str : Bool) (K : AV → AS → Prop) : Prop :=
  match x, str with
  | .ptr id off, false => off = 0 ∧ (match σ id with
    | some (.miter mid n0 done) => nextM id mid n0 done σ K
    | _ => False)
  | .ptr id off, true => off = 0 ∧ (match σ id with
    | some (.siter b pos) => nextS id b pos σ K
    | _ => False)
  | _, _ => False
theorem aRange_out (hi : Inv P G σ w) {t : TypeId} {x : AV} {v : Value} (hx : Rep P G x v) (h : aRange P σ t x K) :
    Out P G K Pn (((do pure (Next.value (← Instr.range t v))) : Sem Next).run P w) := by
  unfold aRange at h
  split at h
  · rename_i b
    cases hx
    obtain ⟨G', g1, g2, g3⟩ := hi.allocIt (.stringIter b 0) (.siter b 0) rfl (heap_alloc_new w _)
    refine Out.value (v := .pointer (some ⟨w.heap.size, 0, none⟩)) ?_ g1 g3 (.ptr g2) (h.2 _ hi.fresh)
    simp [Instr.range, run_underlying h.1, run_newObj_alloc, Sem.run_bind, Result.andThen]
  · rename_i mid
    split at h
    · rename_i kt et es hu hσ
      obtain ⟨m, ms, clock, h1, h2, ⟨h3, h4⟩, h5⟩ := hi.maps mid es hσ
      cases hx with
      | mp hb =>
        rw [h1] at hb
        obtain rfl := Option.some.inj hb
        have hlt := lt_of_heap h2
        obtain ⟨G', g1, g2, g3⟩ := hi.allocIt (.mapIter (some m) clock #[] clock) (.miter mid es.length []) rfl
          ⟨m, clock, #[], clock, ms, clock, heap_alloc_new w _, (G.bind_le w.heap.size (hi.top _ (Nat.le_refl _)).1).inj _ _ h1, by rw [heap_alloc_lt w _ hlt]; exact h2,
            by omega, Nat.le_refl _, Nat.le_refl _, h4, fun k e hk => ⟨fun _ => h4.1 k e hk, fun _ => by have := (Array.getElem?_eq_some_iff.1 hk).1; omega⟩, fun k e hk _ => by simp, by simp, by simp, by omega, by simp⟩
        refine Out.value (v := .pointer (some ⟨w.heap.size, 0, none⟩)) ?_ g1 g3 (.ptr g2) (h _ hi.fresh)
        simp [Instr.range, run_underlying hu, run_newObj_alloc, Sem.run_bind, Result.andThen, MapKept.run_getObj_map h2]
    · exact h.elim
  · exact h.elim
theorem run_choose_map {n : Nat} (hn : 0 < n) : ∃ i w', (choose (.mapNext n)).run P w = .ok i w' ∧ i < n ∧ (w' = w ∨ w' = w.drew) := by
  by_cases h1 : n ≤ 1
  · exact ⟨0, w, by simp [choose, Sem.run, Question.forced, h1], hn, .inl rfl⟩
  · exact ⟨_, w.drew, by simp [choose, Sem.run, Question.forced, h1]; rfl, by simp [Question.cut]; exact Nat.mod_lt _ hn, .inr rfl⟩
theorem cand_old {ms : Array MapEntry} {seen : Array Nat} {since : Nat} (hall : ∀ e, e ∈ ms → e.born < since) :
    (ms.filter fun e => !seen.contains e.born).filter (fun e => decide (e.born < since)) = (ms.filter fun e => !seen.contains e.born) ∧
    (ms.filter fun e => !seen.contains e.born).filter (fun e => decide (e.born ≥ since)) = #[] := by
  constructor
  · rw [Array.filter_eq_self]
    intro e he
    have := hall e (Array.mem_filter.1 he).1
    simpa using this
  · rw [Array.filter_eq_empty_iff]
    intro e he
    have := hall e (Array.mem_filter.1 he).1
    simp; omega
theorem run_next_done {t : TypeId} {c m since last clock : Nat} {seen : Array Nat} {ms : Array MapEntry} (h2 : w.heap[c]? = some (.mapIter (some m) since seen last)) (h4 : w.heap[m]? = some (.map ms clock))
    (hguard : (!seen.isEmpty && !ms.isEmpty && ms.all fun e => decide (e.born ≥ last)) = false) (hall : ∀ e, e ∈ ms → e.born < since) (hL : (ms.filter fun e => !seen.contains e.born).isEmpty = true) :
    (Instr.next (.pointer (some ⟨c, 0, none⟩)) false t).run P w = .ok (.tuple #[.bool false]) w := by
  have hget : (getObj c).run P w = .ok (.mapIter (some m) since seen last) w := by simp [getObj, Sem.run, h2]
  have hgm : (getObj m).run P w = .ok (.map ms clock) w := MapKept.run_getObj_map h4
  obtain ⟨e1, e2⟩ := cand_old (seen := seen) hall
  rw [Array.isEmpty_iff] at hL
  have hf : (Question.mapNext 1).forced = true := rfl
  simp only [Instr.next, Sem.run_bind, hget, Result.andThen_ok, hgm]
  rw [hguard]
  simp only [e1, e2, hL]
  simp [hf, Sem.run_bind, Result.andThen]
theorem run_next_some {t : TypeId} {c m since last clock : Nat} {seen : Array Nat} {ms : Array MapEntry} (h2 : w.heap[c]? = some (.mapIter (some m) since seen last)) (h4 : w.heap[m]? = some (.map ms clock))
    (hguard : (!seen.isEmpty && !ms.isEmpty && ms.all fun e => decide (e.born ≥ last)) = false) (hall : ∀ e, e ∈ ms → e.born < since) (hL : (ms.filter fun e => !seen.contains e.born).isEmpty = false) :
    ∃ e w', (w' = w ∨ w' = w.drew) ∧ e ∈ (ms.filter fun e => !seen.contains e.born) ∧
      (Instr.next (.pointer (some ⟨c, 0, none⟩)) false t).run P w = .ok (.tuple #[.bool true, e.key, e.val]) { w' with heap := w'.heap.setIfInBounds c (.mapIter (some m) since (seen.push e.born) clock) } := by
  have hget : (getObj c).run P w = .ok (.mapIter (some m) since seen last) w := by simp [getObj, Sem.run, h2]
  have hgm : (getObj m).run P w = .ok (.map ms clock) w := MapKept.run_getObj_map h4
  obtain ⟨e1, e2⟩ := cand_old (seen := seen) hall
  generalize hl : (ms.filter fun e => !seen.contains e.born) = left at *
  have hpos : 0 < left.size := by
    rcases Nat.eq_zero_or_pos left.size with h | h
    · rw [Array.size_eq_zero_iff] at h; subst h; simp at hL
    · exact h
  obtain ⟨i, w', hch, hlt, hw'⟩ := run_choose_map (P := P) (w := w) hpos
  have hh : w'.heap = w.heap := by rcases hw' with rfl | rfl <;> rfl
  refine ⟨left[i], w', hw', Array.getElem_mem hlt, ?_⟩
  have hset : ∀ o, (setObj c o).run P w' = .ok () { w' with heap := w'.heap.setIfInBounds c o } := fun o => by simp [setObj, Sem.run, hh, h2]
  simp only [Instr.next, Sem.run_bind, hget, Result.andThen_ok, hgm]
  rw [hguard]
  simp only [hl, e1, e2, hL]
  have hch' : (if (Question.mapNext left.size).forced = true then Result.ok 0 w else Result.ok ((Question.mapNext left.size).cut (w.tape w.drawn (Question.mapNext left.size))) w.drew : Result Nat) = Result.ok i w' := by
    rw [← hch]; simp [choose, Sem.run]
  simp [Sem.run_bind, Result.andThen]
  rw [hch']
  simp [hlt, Sem.run_bind, Result.andThen, hset]
theorem aNext_out (hi : Inv P G σ w) {x : AV} {v : Value} {str : Bool} {t : TypeId} (hx : Rep P G x v) (h : aNext σ x str K) :
    Out P G K Pn (((do pure (Next.value (← Instr.next v str t))) : Sem Next).run P w) := by
  unfold aNext at h
  split at h
  · rename_i id off
    obtain ⟨rfl, h⟩ := h
    split at h
    · rename_i mid n0 done hσ
      obtain ⟨c, h1, m, since, seen, last, ms, clock, h2, h3, h4, h5, h6, h7, h8, h9, h10, h11, h12, h13, h14⟩ := hi.iters id _ rfl hσ
      cases hx with
      | ptr hb =>
        rw [h1] at hb
        obtain rfl := Option.some.inj hb
        unfold nextM at h
        split at h
        · rename_i es hσm
          obtain ⟨hn, k1, k2⟩ := h
          obtain ⟨m', ms', clock', q1, q2, ⟨q3, q4⟩, q5⟩ := hi.maps mid es hσm
          rw [h3] at q1
          obtain rfl := Option.some.inj q1
          rw [h4] at q2
          cases q2
          have hall : ∀ e, e ∈ ms → e.born < since := by
            intro e he
            obtain ⟨k, hk, rfl⟩ := Array.getElem_of_mem he
            have hg : ms[k]? = some ms[k] := Array.getElem?_eq_getElem hk
            exact (h9 k _ hg).1 (by omega)
          have hguard : (!seen.isEmpty && !ms.isEmpty && ms.all fun e => decide (e.born ≥ last)) = false := by
            cases hse : seen.isEmpty with
            | true => simp
            | false =>
              have hp := h12 hse
              have h0 : 0 < ms.size := by omega
              have hlt := hall ms[0] (Array.getElem_mem h0)
              rw [Bool.and_eq_false_iff]
              right
              rw [Bool.eq_false_iff]
              intro hc
              have := (Array.all_eq_true.1 hc) 0 h0
              simp at this
              omega
          by_cases hL : (ms.filter fun e => !seen.contains e.born).isEmpty = true
          · have hrun := run_next_done (P := P) (t := t) h2 h4 hguard hall hL
            refine Out.value hrun (.refl G) hi ?_ (k1 fun k hk => ?_)
            · refine .tup [.bool false] rfl fun i hi' => ?_
              match i, hi' with
              | 0, _ => exact .sc _
            · have hk' : k < ms.size := by omega
              have hg : ms[k]? = some ms[k] := Array.getElem?_eq_getElem hk'
              refine (h10 k _ hg hk).1 ?_
              rw [Array.isEmpty_iff] at hL
              have := Array.filter_eq_empty_iff.1 hL ms[k] (Array.getElem_mem hk')
              simpa using this
          · obtain ⟨e, w', hw', hmem, hrun⟩ := run_next_some (P := P) (t := t) h2 h4 hguard hall (by simpa using hL)
            rw [Array.mem_filter] at hmem
            obtain ⟨hme, hns⟩ := hmem
            obtain ⟨k, hk, rfl⟩ := Array.getElem_of_mem hme
            have hg : ms[k]? = some ms[k] := Array.getElem?_eq_getElem hk
            have hkn : k < n0 := by omega
            have hkd : k ∉ done := fun hd => by
              have := (h10 k _ hg hkn).2 hd
              rw [this] at hns; simp at hns
            have hh : w'.heap = w.heap := by rcases hw' with rfl | rfl <;> rfl
            have hi' : Inv P G σ w' := by
              rcases hw' with rfl | rfl
              · exact hi
              · exact hi.drew
            have hlt := lt_of_heap h2
            have hcm : m ≠ c := by rintro rfl; rw [h2] at h4; cases h4
            obtain ⟨me, r1, r2, r3⟩ := q5 k (by omega)
            rw [hg] at r1
            obtain rfl := Option.some.inj r1
            refine Out.value hrun (.refl G) (hi'.setIt h1 (by rw [hh]; exact h2) (by simp) (by simp) _ (.miter mid n0 (k :: done)) rfl ?_) ?_ (k2 k hkn hkd)
            · refine ⟨m, since, seen.push ms[k].born, clock, ms, clock, ?_, h3, ?_, h5, by omega, Nat.le_refl _, h8, h9, ?_, ?_, (fun _ => by omega), by omega, ?_⟩
              · show (w'.heap.setIfInBounds c _)[c]? = _
                rw [hh]; simp [hlt]
              · show (w'.heap.setIfInBounds c _)[m]? = _
                rw [hh, Array.getElem?_setIfInBounds_ne (fun e => hcm e.symm)]
                exact h4
              · intro k' e' hk' hkn'
                rw [Array.contains_iff_mem, Array.mem_push, List.mem_cons, ← Array.contains_iff_mem, h10 k' e' hk' hkn']
                constructor
                · rintro (h | h)
                  · exact .inr h
                  · exact .inl (h8.2 _ _ _ _ hk' hg h)
                · rintro (rfl | h)
                  · rw [hg] at hk'; cases hk'; exact .inr rfl
                  · exact .inl h
              · intro x hx
                rcases Array.mem_push.1 hx with hx | rfl
                · exact h11 x hx
                · exact hall _ hme
              · intro k' hk'
                simp at hk'
                subst hk'
                exact ⟨ms[k], hg, by simp⟩
            · refine .tup [.bool true, ms[k].key, ms[k].val] rfl fun i hi' => ?_
              match i, hi' with
              | 0, _ => exact .sc _
              | 1, _ => exact r2
              | 2, _ => exact r3
        · exact h.elim
    · exact h.elim
  · rename_i id off
    obtain ⟨rfl, h⟩ := h
    split at h
    · rename_i b pos hσ
      obtain ⟨c, h1, h2⟩ := hi.iters id _ rfl hσ
      have h2 : w.heap[c]? = some (.stringIter b pos) := h2
      cases hx with
      | ptr hb =>
        rw [h1] at hb
        obtain rfl := Option.some.inj hb
        unfold nextS at h
        have hget : (getObj c).run P w = .ok (.stringIter b pos) w := by simp [getObj, Sem.run, h2]
        by_cases hp : pos < b.size
        · rw [if_pos hp] at h
          have hset : ∀ o, (setObj c o).run P w = .ok () { w with heap := w.heap.setIfInBounds c o } := fun o => by simp [setObj, Sem.run, h2]
          have hlt := lt_of_heap h2
          refine Out.value (v := .tuple #[.bool true, .int .i64 pos, .int .i32 (Utf8.decode b pos).1]) (G' := G) ?_ (.refl G) (hi.setIt h1 h2 (by simp) (by simp) (.stringIter b (pos + (Utf8.decode b pos).2)) (.siter b (pos + (Utf8.decode b pos).2)) rfl (by show ({ w with heap := w.heap.setIfInBounds c (.stringIter b (pos + (Utf8.decode b pos).2)) } : World).heap[c]? = _; simp [hlt])) ?_ h
          · simp [Instr.next, Sem.run_bind, hget, Result.andThen, hp, hset, goInt]
          · refine .tup [.bool true, .int .i64 pos, .int .i32 (Utf8.decode b pos).1] rfl fun i hi' => ?_
            match i, hi' with
            | 0, _ => exact .sc _
            | 1, _ => exact .sc _
            | 2, _ => exact .sc _
        · rw [if_neg hp] at h
          refine Out.value (v := .tuple #[.bool false]) (G' := G) ?_ (.refl G) hi ?_ h
          · simp [Instr.next, Sem.run_bind, hget, Result.andThen, hp]
          · refine .tup [.bool false] rfl fun i hi' => ?_
            match i, hi' with
            | 0, _ => exact .sc _
    · exact h.elim
  · exact h.elim
def aEntry (σ : AS) (x : AV) (K : AV → Prop) : Prop :=
  match x with
  | .ptr id off => off = 0 ∧ (match σ id with
    | some (.miter mid n0 (k :: _)) => (match σ mid with
      | some (.map es) => es.length = n0 ∧ K (.tup [(es.getD k (.any, .any)).1, (es.getD k (.any, .any)).2])
      | _ => False)
    | _ => False)
  | _ => False
theorem aEntry_out (hi : Inv P G σ w) {x : AV} {v : Value} (hx : Rep P G x v) (h : aEntry σ x fun v => K v σ) :
    Out P G K Pn (((do pure (Next.value (← Instr.entry v))) : Sem Next).run P w) := by
  unfold aEntry at h
  split at h
  · rename_i id off
    obtain ⟨rfl, h⟩ := h
    split at h
    · rename_i mid n0 k rest hσ
      obtain ⟨c, h1, m, since, seen, last, ms, clock, h2, h3, h4, h5, h6, h7, h8, h9, h10, h11, h12, h13, h14⟩ := hi.iters id _ rfl hσ
      cases hx with
      | ptr hb =>
        rw [h1] at hb
        obtain rfl := Option.some.inj hb
        split at h
        · rename_i es hσm
          obtain ⟨hn, hk⟩ := h
          obtain ⟨m', ms', clock', q1, q2, ⟨q3, q4⟩, q5⟩ := hi.maps mid es hσm
          rw [h3] at q1
          obtain rfl := Option.some.inj q1
          rw [h4] at q2
          cases q2
          obtain ⟨e, g1, g2⟩ := h14 k rfl
          have hlt : k < ms.size := (Array.getElem?_eq_some_iff.1 g1).1
          have hcl : clock = last := by omega
          obtain ⟨me, r1, r2, r3⟩ := q5 k (by omega)
          rw [g1] at r1
          obtain rfl := Option.some.inj r1
          have hget : (getObj c).run P w = .ok (.mapIter (some m) since seen last) w := by simp [getObj, Sem.run, h2]
          have hgm : (getObj m).run P w = .ok (.map ms clock) w := MapKept.run_getObj_map h4
          have hfind : ms.find? (fun x => x.born == e.born) = some e := by
            cases hf : ms.find? (fun x => x.born == e.born) with
            | none =>
              have := Array.find?_eq_none.1 hf e (Array.mem_of_getElem? g1)
              simp at this
            | some y =>
              have hp := Array.find?_some hf
              have hmem := Array.mem_of_find?_eq_some hf
              obtain ⟨j, hj, hje⟩ := Array.getElem_of_mem hmem
              have hg : ms[j]? = some y := by rw [Array.getElem?_eq_getElem hj, hje]
              have := h8.2 j k y e hg g1 (by simpa using hp)
              subst this
              rw [g1] at hg
              exact hg.symm ▸ rfl
          refine Out.value (v := .tuple #[e.key, e.val]) (G' := G) ?_ (.refl G) hi ?_ hk
          · simp [Instr.entry, Sem.run_bind, hget, Result.andThen, g2, hgm, hcl, hfind]
          · refine .tup [e.key, e.val] rfl fun i hi' => ?_
            match i, hi' with
            | 0, _ => exact r2
            | 1, _ => exact r3
        · exact h.elim
    · exact h.elim
  · exact h.elim
def flatZ (n : Nat) (v : AV) : List AV := (List.replicate n v).flatMap (·.cells)
theorem flatZ_get {v : AV} : ∀ (n : Nat), (flatZ n v).length = n * v.cells.length ∧ ∀ i j, i < n → j < v.cells.length → (flatZ n v).getD (i * v.cells.length + j) .any = v.cells.getD j .any := by
  intro n
  induction n with
  | zero => exact ⟨by simp [flatZ], fun i j hi _ => by omega⟩
  | succ n ih =>
    have e : flatZ (n + 1) v = v.cells ++ flatZ n v := by simp [flatZ, List.replicate_succ]
    rw [e]
    refine ⟨by rw [List.length_append, ih.1, Nat.add_mul]; omega, fun i j hi hj => ?_⟩
    cases i with
    | zero => rw [Nat.zero_mul, Nat.zero_add, getD_append_left _ _ _ hj]
    | succ i =>
      have : (i + 1) * v.cells.length + j = v.cells.length + (i * v.cells.length + j) := by rw [Nat.add_mul]; omega
      rw [this, getD_append_right _ _ _ (by omega)]
      have e2 : v.cells.length + (i * v.cells.length + j) - v.cells.length = i * v.cells.length + j := by omega
      rw [e2]
      exact ih.2 i j (by omega) hj
def aMakeSlice (P : Program) (σ : AS) (t : TypeId) (len cap : AV) (K : AV → AS → Prop) : Prop :=
  match sliceT P t, len, cap with
  | some e, .sc (.int _ n), .sc (.int _ c) => n = c ∧ 0 ≤ n ∧ n ≤ 1000000 ∧ P.cellsOf e ≠ 0 ∧ (P.bytesOf e : Int) * n ≤ 8000000 ∧ (zeroAV P e).laid = true ∧ (zeroAV P e).cells.length = P.cellsOf e ∧
      ∀ id, σ id = none → K (.msl id 0 n.toNat n.toNat) (σ.set id (.cells e (flatZ n.toNat (zeroAV P e))))
  | _, _, _ => False
theorem wrap_i64_small {n : Int} (h0 : 0 ≤ n) (h1 : n ≤ 1000000) : IntKind.i64.wrap n = n := by
  simp [IntKind.wrap, IntKind.bits, IntKind.signed]; split <;> omega
theorem zero_get {z : Value} {e : TypeId} {m : Nat} (hz : z.cells.size = m) (n : Nat) {zero : Array Value} (hzero : zero = if n * m = 0 then #[] else z.cells) (i j : Nat) (hi : i < n) (hj : j < m) :
    (((Array.range (n * m)).map (zero[· % zero.size]!))).getD (i * m + j) undef = z.cells.getD j undef := by
  have hlt : i * m + j < n * m := by
    have : (i + 1) * m ≤ n * m := Nat.mul_le_mul_right m hi
    rw [Nat.add_mul] at this; omega
  have h0 : ¬ n * m = 0 := by omega
  rw [if_neg h0] at hzero
  subst hzero
  have e1 : (i * m + j) % z.cells.size = j := by rw [hz, Nat.add_comm, Nat.add_mul_mod_self_right, Nat.mod_eq_of_lt hj]
  have hjs : j < z.cells.size := by omega
  have e2 : z.cells[j]! = z.cells[j] := by simp [getElem!_def, hjs]
  simp [Array.getD, hlt, e1, hjs, e2]
theorem aMakeSlice_out (hi : Inv P G σ w) {t : TypeId} {len cap : AV} {vl vc : Value} (hl : Rep P G len vl) (hc : Rep P G cap vc) (h : aMakeSlice P σ t len cap K) :
    Out P G K Pn (((do pure (Next.value (← Instr.makeSlice t vl vc))) : Sem Next).run P w) := by
  unfold aMakeSlice at h
  split at h
  · rename_i e k1 n k2 c he
    obtain ⟨rfl, h0, h1, h2, h3, h4, h5, h7⟩ := h
    cases hl
    cases hc
    have hu := sliceT_eq he
    obtain ⟨it, z, hit, hz, hzr⟩ := zeroAV_info h4
    have hsz : it.size = P.cellsOf e := by simp [Program.cellsOf, hit]
    have hby : it.bytes = P.bytesOf e := by simp [Program.bytesOf, hit]
    have hw : IntKind.i64.wrap n = n := wrap_i64_small h0 h1
    obtain ⟨z1, z2⟩ := laid_cells (rep_ofC (P := P) (G := G) z) (by rw [← hzr]; exact h4)
    rw [← hzr, h5] at z1 z2
    obtain ⟨N, rfl⟩ : ∃ N : Nat, n = N := ⟨n.toNat, by omega⟩
    simp only [Int.toNat_natCast] at h7
    have b1 : (N : Int) * P.bytesOf e ≤ 8000000 := by rw [Int.mul_comm]; exact h3
    have b2 : ((N * P.bytesOf e : Nat) : Int) ≤ 8000000 := by rw [Int.natCast_mul]; exact b1
    have hroom : ¬ (N * P.bytesOf e > roomBytes) := by unfold roomBytes; omega
    have hbig : ¬ ((2 : Int) ^ 48 < (P.bytesOf e : Int) * N) := by omega
    have hneg : ¬ ((N : Int) < 0) := by omega
    let zero : Array Value := if N * P.cellsOf e = 0 then #[] else z.cells
    let init : Array Value := (Array.range (N * P.cellsOf e)).map (zero[· % zero.size]!)
    have hrun : (Instr.makeSlice t (.int k1 N) (.int k2 N)).run P w = .ok (.slice (some ⟨w.heap.size, 0, none⟩) N N) (w.alloc (.cells init e)) := by
      simp only [Instr.makeSlice, Sem.run_bind, run_underlying hu, Result.andThen_ok, asInt, asIntOf, Sem.run_pure, run_typeInfo w hit, hw, hby]
      simp only [askRoom, Int.toNat_natCast, hroom, if_false, Sem.run_pure, Result.andThen_ok, sizeOf, Sem.run_bind, run_typeInfo w hit, hsz]
      have hbig' : ¬ ((281474976710656 : Int) < (P.bytesOf e : Int) * N) := by omega
      simp [hneg, hbig', Sem.run_bind, Result.andThen, run_typeInfo w hit, hsz]
      by_cases hn0 : N * P.cellsOf e = 0
      · simp [hn0, zero, init, newRow, run_newObj_alloc, Sem.run_bind, Result.andThen]
      · simp [hn0, zero, init, zeroValue, run_typeInfo w hit, hz, newRow, run_newObj_alloc, Sem.run_bind, Result.andThen]
    have hidx : ∀ k, k < N * P.cellsOf e → k / P.cellsOf e < N ∧ k % P.cellsOf e < P.cellsOf e ∧ (k / P.cellsOf e) * P.cellsOf e + k % P.cellsOf e = k := fun k hk =>
      ⟨Nat.div_lt_of_lt_mul (by rw [Nat.mul_comm]; exact hk), Nat.mod_lt _ (by omega), by rw [Nat.mul_comm]; exact Nat.div_add_mod k _⟩
    have f1 := (flatZ_get (v := zeroAV P e) N).1
    rw [h5] at f1
    obtain ⟨G', hle, hinj, hinv⟩ := hi.allocCells e init (flatZ N (zeroAV P e)) (by rw [f1]; simp [init]) (fun k hk => by
      rw [f1] at hk
      obtain ⟨k1, k2, k3⟩ := hidx k hk
      have h8 := (flatZ_get (v := zeroAV P e) N).2 _ _ k1 (by rw [h5]; exact k2)
      rw [h5, k3] at h8
      rw [h8]
      have h9 := zero_get (z := z) (e := e) z1 N (zero := zero) rfl _ _ k1 k2
      rw [k3] at h9
      rw [show init.getD k undef = _ from h9]
      exact z2 _ k2)
    exact Out.value hrun hle hinv (.msl hinj) (h7 _ hi.fresh)
  · exact h.elim
end Go.AW
