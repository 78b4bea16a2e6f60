/- A layer of abstract values over the model's machine: own work for this claim, part AwOps. -/
import Derived.Test.YtnkjbgcbchbonaaAwApp
set_option linter.unusedSimpArgs false
set_option linter.unusedVariables false
namespace Go.AW
open Go Go.RowKit

variable {P : Program} {G : Gh} {σ : AS} {w : World}

abbrev Fr := Nat → AV
def Fr.put (s : Fr) (d : Option Nat) (v : AV) : Fr := match d with | none => s | some d => fun i => if i = d then v else s i

def ofC1 : Value → AV
  | .slice none 0 0 => .nilS
  | v => .sc v
def ofC : Value → AV
  | .slice none 0 0 => .nilS
  | .agg cs => .agg (cs.toList.map ofC1)
  | v => .sc v

theorem rep_ofC1 (v : Value) : Rep P G (ofC1 v) v := by
  unfold ofC1
  split
  · exact .nilS
  · exact .sc _
theorem rep_ofC (v : Value) : Rep P G (ofC v) v := by
  unfold ofC
  split
  · exact .nilS
  · rename_i cs
    have := Rep.agg (P := P) (G := G) (cells := cs.toList.map ofC1) cs.toList (by simp) (fun i hi => by
      simp at hi
      simp [hi]
      exact rep_ofC1 _)
    simpa using this
  · exact .sc _

def ev (s : Fr) : Operand → AV
  | .tmp t => s t
  | .const v => ofC v
  | .global _ => .any
  | .func f => .sc (.func (.func f) #[] #[])

/-- The world and the frame bear what the abstract ones say. -/
structure Sim (P : Program) (G : Gh) (n : Nat) (ds : List Deferred) (s : Fr) (σ : AS) (a : Act) (w : World) : Prop where
  inv : Inv P G σ w
  size : a.tmps.size = n
  ds : a.defers = ds
  rep : ∀ i, Rep P G (s i) (a.tmps.getD i undef)

theorem Sim.ev {n : Nat} {ds : List Deferred} {s : Fr} {a : Act} (h : Sim P G n ds s σ a w) (x : Operand) : Rep P G (ev s x) (a.eval x) := by
  cases x with
  | tmp t => exact h.rep t
  | const v => exact rep_ofC v
  | global g => exact .any _
  | func f => exact .sc _

theorem Sim.put {n : Nat} {ds : List Deferred} {s : Fr} {a : Act} {G' : Gh} {σ' : AS} {w' : World} (h : Sim P G n ds s σ a w) (hle : G.Le G') (hi : Inv P G' σ' w') (d : Option Nat) (hd : ∀ t, d = some t → t < n)
    {v : AV} {x : Value} (hv : Rep P G' v x) : Sim P G' n ds (s.put d v) σ' (a.put d x) w' := by
  cases d with
  | none => exact ⟨hi, h.size, h.ds, fun i => (h.rep i).mono hle⟩
  | some t =>
    have ht := hd t rfl
    refine ⟨hi, by simp [Act.put, h.size], h.ds, fun i => ?_⟩
    by_cases hit : i = t
    · subst hit
      have : i < a.tmps.size := by rw [h.size]; exact ht
      simp [Fr.put, Act.put, this]
      exact hv
    · simp only [Fr.put, Act.put, hit, if_false]
      have : (a.tmps.setIfInBounds t x).getD i undef = a.tmps.getD i undef := by
        simp [Array.getElem?_setIfInBounds_ne (fun e => hit e.symm)]
      rw [this]
      exact (h.rep i).mono hle

/-- What an operation leaves. -/
def Out (P : Program) (G : Gh) (K Pn : AV → AS → Prop) : Result Next → Prop
  | .ok (.value v) w' => ∃ G' σ' av, G.Le G' ∧ Inv P G' σ' w' ∧ Rep P G' av v ∧ K av σ'
  | .ok .skip w' => ∃ G' σ' av, G.Le G' ∧ Inv P G' σ' w' ∧ Rep P G' av undef ∧ K av σ'
  | .halt (.panic v) w' => ∃ G' σ' av, G.Le G' ∧ Inv P G' σ' w' ∧ Rep P G' av v ∧ Pn av σ'
  | _ => False

theorem run_v {s : Sem Value} {v : Value} {w' : World} (h : s.run P w = .ok v w') : ((do pure (Next.value (← s))) : Sem Next).run P w = .ok (.value v) w' := by
  simp [Sem.run_bind, h]
theorem run_u {s : Sem Unit} {w' : World} (h : s.run P w = .ok () w') : ((do s; pure Next.skip) : Sem Next).run P w = .ok .skip w' := by
  simp [Sem.run_bind, h]

variable {K Pn : AV → AS → Prop}

theorem Out.value {s : Sem Value} {v : Value} {w' : World} {G' : Gh} {σ' : AS} {av : AV} (h : s.run P w = .ok v w') (hle : G.Le G') (hi : Inv P G' σ' w') (hr : Rep P G' av v) (hk : K av σ') :
    Out P G K Pn (((do pure (Next.value (← s))) : Sem Next).run P w) := by
  rw [run_v h]
  exact ⟨G', σ', av, hle, hi, hr, hk⟩
theorem Out.unit {s : Sem Unit} {w' : World} {G' : Gh} {σ' : AS} {av : AV} (h : s.run P w = .ok () w') (hle : G.Le G') (hi : Inv P G' σ' w') (hr : Rep P G' av undef) (hk : K av σ') :
    Out P G K Pn (((do s; pure Next.skip) : Sem Next).run P w) := by
  rw [run_u h]
  exact ⟨G', σ', av, hle, hi, hr, hk⟩
theorem Out.pure {s : Sem Value} {v : Value} {av : AV} (hi : Inv P G σ w) (h : s.run P w = .ok v w) (hr : Rep P G av v) (hk : K av σ) :
    Out P G K Pn (((do pure (Next.value (← s))) : Sem Next).run P w) := Out.value h (.refl G) hi hr hk

/-! ## types -/

inductive LK where
  | agg (n : Nat) | one | bad
def lkT (P : Program) (t : TypeId) : LK :=
  match P.underlying t with
  | some (.struct _) | some (.array _ _) => .agg (P.cellsOf t)
  | some _ => if P.cellsOf t = 1 then .one else .bad
  | none => .bad

theorem info_of_cells {t : TypeId} (h : P.cellsOf t ≠ 0) : ∃ i, P.info? t = some i ∧ i.size = P.cellsOf t ∧ i.bytes = P.bytesOf t := by
  cases hi : P.info? t with
  | none => simp [Program.cellsOf, hi] at h
  | some i => exact ⟨i, rfl, by simp [Program.cellsOf, hi], by simp [Program.bytesOf, hi]⟩

theorem lkT_one {t : TypeId} (h : lkT P t = .one) : (isAgg t).run P w = .ok false w ∧ P.cellsOf t = 1 := by
  unfold lkT at h
  split at h
  · cases h
  · cases h
  · rename_i d hs ha hu
    have h1 : P.cellsOf t = 1 := by
      by_cases hc : P.cellsOf t = 1
      · exact hc
      · rw [if_neg hc] at h; cases h
    refine ⟨?_, h1⟩
    simp only [isAgg, Sem.run_bind, run_underlying hu, Result.andThen]
    cases d <;> first | rfl | (exfalso; simp at hs ha; done) | skip
  · cases h

theorem lkT_agg {t : TypeId} {n : Nat} (h : lkT P t = .agg n) : (isAgg t).run P w = .ok true w ∧ P.cellsOf t = n := by
  unfold lkT at h
  split at h
  · rename_i hu
    cases h
    exact ⟨by simp [isAgg, Sem.run_bind, run_underlying hu, Result.andThen], rfl⟩
  · rename_i hu
    cases h
    exact ⟨by simp [isAgg, Sem.run_bind, run_underlying hu, Result.andThen], rfl⟩
  · split at h <;> cases h
  · cases h

/-! ## loads -/

/-- n cells behind an address. -/
def Reads (w : World) (b off : Nat) (vs : Nat → Value) (n : Nat) : Prop := ∀ k, k < n → w.cell? ⟨b, off + k, none⟩ = some (vs k)

theorem run_loadVar_one {t : TypeId} (h : lkT P t = .one) {b off : Nat} {vs : Nat → Value} (hr : Reads w b off vs 1) : (loadVar t ⟨b, off, none⟩).run P w = .ok (vs 0) w := by
  have := hr 0 (by omega)
  simp only [Nat.add_zero] at this
  simp [loadVar, Sem.run_bind, (lkT_one (w := w) h).1, load, Sem.run, this]

theorem run_loadVar_agg {t : TypeId} {n : Nat} (h : lkT P t = .agg n) {b off : Nat} {vs : Nat → Value} (hn : n ≠ 0) (hr : Reads w b off vs n) :
    (loadVar t ⟨b, off, none⟩).run P w = .ok (.agg ((List.range n).map vs).toArray) w := by
  obtain ⟨h1, h2⟩ := lkT_agg (w := w) h
  obtain ⟨i, hi, hi2, _⟩ := info_of_cells (P := P) (t := t) (by omega)
  have h3 := run_loadCells_list (P := P) w ⟨b, off, none⟩ ((List.range n).map vs) (fun j v hv => by
    have hj : j < n := by
      rcases Nat.lt_or_ge j n with h | h
      · exact h
      · rw [List.getElem?_eq_none (by simpa using h)] at hv; cases hv
    rw [Addr.add_lit, hr j hj]
    simpa [hj] using hv)
  simp only [List.length_map, List.length_range] at h3
  simp [loadVar, Sem.run_bind, h1, sizeOf, run_typeInfo w hi, hi2, h2, h3]

def aLoad (P : Program) (σ : AS) (t : TypeId) (x : AV) (K : AV → Prop) : Prop :=
  match x, lkT P t with
  | .ptr id off, .one => match σ id with | some (.cells _ cs) => off < cs.length ∧ K (cs.getD off .any) | _ => False
  | .ptr id off, .agg n => match σ id with | some (.cells _ cs) => n ≠ 0 ∧ off + n ≤ cs.length ∧ K (.agg ((cs.drop off).take n)) | _ => False
  | .cptr cells, .one => 0 < cells.length ∧ K (cells.getD 0 .any)
  | .cptr cells, .agg n => n ≠ 0 ∧ n ≤ cells.length ∧ K (.agg (cells.take n))
  | _, _ => False

theorem cell_of_heap {b off : Nat} {vs : Array Value} {ty : TypeId} {fz : Nat × Nat} (h : w.heap[b]? = some (.cells vs ty fz)) (ho : off < vs.size) : w.cell? ⟨b, off, none⟩ = some (vs.getD off undef) := by
  simp [World.cell?, h, ho]

theorem aLoad_val {K : AV → Prop} (hi : Inv P G σ w) {t : TypeId} {x : AV} {v : Value} (hx : Rep P G x v) (h : aLoad P σ t x K) :
    ∃ a y av, v = .pointer (some a) ∧ (loadVar t a).run P w = .ok y w ∧ Rep P G av y ∧ K av := by
  unfold aLoad at h
  split at h
  · rename_i id off hl
    split at h
    · rename_i ty cs hs
      cases hx with
      | ptr hb =>
        obtain ⟨b', vs, k1, k2, k3, k4⟩ := hi.cells _ _ _ hs
        rw [hb] at k1
        obtain rfl := Option.some.inj k1
        exact ⟨_, vs.getD off undef, _, rfl, run_loadVar_one (vs := fun k => vs.getD (off + k) undef) hl (fun k hk => cell_of_heap k2 (by omega)), (k4 off h.1).1, h.2⟩
    · exact h.elim
  · rename_i id off n hl
    split at h
    · rename_i ty cs hs
      cases hx with
      | ptr hb =>
        obtain ⟨b', vs, k1, k2, k3, k4⟩ := hi.cells _ _ _ hs
        rw [hb] at k1
        obtain rfl := Option.some.inj k1
        refine ⟨_, .agg ((List.range n).map fun k => vs.getD (off + k) undef).toArray, _, rfl, run_loadVar_agg (vs := fun k => vs.getD (off + k) undef) hl h.1 (fun k hk => cell_of_heap k2 (by omega)), .agg _ ?_ ?_, h.2.2⟩
        · simp; omega
        · intro i hi'
          have hin : i < n := by simp at hi'; omega
          have := (k4 (off + i) (by omega)).1
          simp only [List.getD_eq_getElem?_getD] at this ⊢
          rw [List.getElem?_take_of_lt hin, List.getElem?_drop]
          simpa [hin] using this
    · exact h.elim
  · rename_i cells hl
    cases hx with
    | cptr vs hm hr => exact ⟨_, vs 0, _, rfl, run_loadVar_one hl (fun k hk => (hi.mem _ _ _ (hm k (by omega))).1), hr 0 h.1, h.2⟩
  · rename_i cells n hl
    cases hx with
    | cptr vs hm hr =>
      refine ⟨_, .agg ((List.range n).map vs).toArray, _, rfl, run_loadVar_agg hl h.1 (fun k hk => (hi.mem _ _ _ (hm k (by omega))).1), .agg _ ?_ ?_, h.2.2⟩
      · simp; omega
      · intro i hi'
        have hin : i < n := by simp at hi'; omega
        have := hr i (by omega)
        simp only [List.getD_eq_getElem?_getD] at this ⊢
        rw [List.getElem?_take_of_lt hin]
        simpa [hin] using this
  · exact h.elim

theorem aLoad_out (hi : Inv P G σ w) {t : TypeId} {x : AV} {v : Value} (hx : Rep P G x v) (h : aLoad P σ t x fun v => K v σ) :
    Out P G K Pn (((do pure (Next.value (← Instr.loadAt t v))) : Sem Next).run P w) := by
  obtain ⟨a, y, av, rfl, h1, h2, h3⟩ := aLoad_val hi hx h
  refine Out.pure hi (v := y) ?_ h2 h3
  simpa only [Instr.loadAt, Instr.sureAddr, Sem.run_bind, Sem.run_pure, Result.andThen] using h1

/-! ## stores -/

def aStore (P : Program) (σ : AS) (t : TypeId) (x v : AV) (K : AS → Prop) : Prop :=
  match x with
  | .ptr id off => match σ id with
    | some (.cells ty cs) => v.okc = true ∧ v.cells.all AV.one = true ∧ v.cells.length = P.cellsOf t ∧ P.cellsOf t ≠ 0 ∧ off + v.cells.length ≤ cs.length ∧
        K (σ.set id (.cells ty (cs.take off ++ v.cells ++ cs.drop (off + v.cells.length))))
    | _ => False
  | _ => False

theorem aStore_out (hi : Inv P G σ w) {t : TypeId} {x v : AV} {xv vv : Value} (hx : Rep P G x xv) (hv : Rep P G v vv) (h : aStore P σ t x v fun σ' => K .any σ') :
    Out P G K Pn (((do Instr.storeAt t xv vv; pure Next.skip) : Sem Next).run P w) := by
  unfold aStore at h
  split at h
  · rename_i id off
    split at h
    · rename_i ty cs hs
      obtain ⟨h1, h2, h3, h4, h5, h6⟩ := h
      cases hx with
      | ptr hb =>
        rename_i b
        obtain ⟨b', cur, k1, k2, k3, k4⟩ := hi.cells _ _ _ hs
        rw [hb] at k1
        obtain rfl := Option.some.inj k1
        obtain ⟨c1, c2⟩ := hv.cells h1
        obtain ⟨i, hinf, hi2, _⟩ := info_of_cells (P := P) (t := t) h4
        have hone : ∀ k, k < v.cells.length → (vv.cells.getD k undef).oneCell' = true := fun k hk => by
          refine (c2 k hk).one ?_
          have := List.all_eq_true.1 h2 (v.cells.getD k .any) (by
            rw [List.getD_eq_getElem?_getD, List.getElem?_eq_getElem hk]; exact List.getElem_mem _)
          exact this
        have hst := run_storeCells_cells (P := P) b off vv.cells.toList 0 w
          (fun j hj => by rw [Nat.add_zero, cell_of_heap k2 (by simp at hj; omega)]; rfl)
          (fun j hj => by simp [World.frozen?, k2])
          (fun u hu => by
            obtain ⟨k, hk, rfl⟩ := List.getElem_of_mem hu
            have := hone k (by simp at hk; omega)
            simp at hk
            simpa [hk] using this)
        simp only [Nat.add_zero] at hst
        refine Out.unit (w' := w.setCells b off vv.cells.toList) ?_ (.refl G) (hi.store hs off vv.cells.toList v.cells (by simpa using c1) (by simp; omega) (fun k hk => ?_) b hb) (.any _) h6
        · simp only [Instr.storeAt, Instr.sureAddr, Sem.run_bind, Sem.run_pure, Result.andThen]
          simp only [storeVar, Sem.run_bind, sizeOf, run_typeInfo w hinf, Result.andThen, Sem.run_pure, c1, h3, hi2]
          simp [hst]
        · have e1 : vv.cells.toList.getD k undef = vv.cells.getD k undef := by simp [List.getD_eq_getElem?_getD]
          rw [e1]
          exact ⟨c2 k hk, hone k hk⟩
    · exact h.elim
  · exact h.elim

end Go.AW
