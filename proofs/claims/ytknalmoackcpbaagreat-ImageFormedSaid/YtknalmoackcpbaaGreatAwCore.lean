/- A layer of abstract values over the model's machine: own work for this claim, part AwCore. -/
import Derived.WalkKit
import Derived.Deep.AppendSrc
import Derived.Defers
/-
  The layer AW: abstract values (slices as plain lists), an abstract heap, and what it means that a world bears them.
-/

set_option linter.unusedSimpArgs false
set_option linter.unusedVariables false
namespace Go.AW
open Go Go.RowKit
inductive Own where
  | unk | full | tok (t : Nat)
inductive AV where
  | any
  | sc (v : Value)
  | ptr (id off : Nat)
  | cptr (cells : List AV)
  | nilS
  | lst (e : TypeId) (elems : List AV) (own : Own) (nil : Bool)
  | msl (id off len cap : Nat)
  | mp (id : Nat)
  | fn (f : Fn) (first captured : List AV)
  | ifc (t : TypeId) (v : AV)
  | agg (cells : List AV)
  | tup (vs : List AV)
def AV.cells : AV → List AV
  | .agg cs => cs
  | v => [v]
def AV.okc : AV → Bool
  | .any | .tup _ => false
  | .sc (.agg _) | .sc (.tuple _) => false
  | _ => true
def AV.one : AV → Bool
  | .any | .tup _ | .agg _ => false
  | .sc (.agg _) | .sc (.tuple _) => false
  | _ => true
inductive ABlk where
  | cells (ty : TypeId) (cs : List AV)
  | tok (len : Nat)
  | map (es : List (AV × AV))
  | siter (s : ByteArray) (pos : Nat)
  | miter (mid n0 : Nat) (done : List Nat)
def ABlk.isIter : ABlk → Bool
  | .siter _ _ | .miter _ _ _ => true
  | _ => false
abbrev AS := Nat → Option ABlk
def AS.set (σ : AS) (i : Nat) (b : ABlk) : AS := fun j => if j = i then some b else σ j
def AS.le (σ0 σ : AS) : Prop := ∀ i b, σ0 i = some b → σ i = some b
theorem AS.le_refl (σ : AS) : AS.le σ σ := fun _ _ h => h
theorem AS.le_trans {a b c : AS} (h : AS.le a b) (k : AS.le b c) : AS.le a c := fun i x e => k i x (h i x e)
theorem AS.le_set {σ0 σ : AS} {i : Nat} {b : ABlk} (h : AS.le σ0 σ) (hi : σ0 i = none) : AS.le σ0 (σ.set i b) := by
  intro j x e
  by_cases hj : j = i
  · subst hj; rw [hi] at e; cases e
  · simp only [AS.set, hj, if_false]; exact h j x e
@[simp] theorem AS.set_same (σ : AS) (i : Nat) (b : ABlk) : (σ.set i b) i = some b := by simp [AS.set]
theorem AS.set_ne (σ : AS) {i j : Nat} (b : ABlk) (h : j ≠ i) : (σ.set i b) j = σ j := by simp [AS.set, h]
@[simp] theorem AS.set_set (σ : AS) (i : Nat) (b c : ABlk) : (σ.set i b).set i c = σ.set i c := by
  funext j; by_cases h : j = i <;> simp [AS.set, h]
theorem AS.set_id (σ : AS) (i : Nat) (b : ABlk) (h : σ i = some b) : σ.set i b = σ := by
  funext j; by_cases e : j = i
  · subst e; simp [AS.set, h]
  · simp [AS.set, e]
structure OR where
  a : Option (Nat × Nat)
  len : Nat
  cap : Nat
  ety : TypeId
def OR.val (r : OR) : Value := .slice (r.a.map fun p => ⟨p.1, p.2, none⟩) r.len r.cap
structure Gh where
  W0 : World
  B : Nat
  mem : Nat → Nat → Option Value
  inj : Nat → Option Nat
  own : Nat → Option OR
  top : Nat
structure Gh.Le (G G' : Gh) : Prop where
  W0 : G'.W0 = G.W0
  B : G'.B = G.B
  mem : ∀ b o v, G.mem b o = some v → G'.mem b o = some v
  inj : ∀ i b, G.inj i = some b → G'.inj i = some b
  own : ∀ t r, G.own t = some r → ∃ r', G'.own t = some r' ∧ r'.ety = r.ety ∧ (r' = r ∨ r.len < r'.len)
theorem Gh.Le.refl (G : Gh) : G.Le G := ⟨rfl, rfl, fun _ _ _ h => h, fun _ _ h => h, fun _ r h => ⟨r, h, rfl, .inl rfl⟩⟩
theorem Gh.Le.trans {A B C : Gh} (h : A.Le B) (k : B.Le C) : A.Le C where
  W0 := k.W0.trans h.W0
  B := k.B.trans h.B
  mem b o v e := k.mem b o v (h.mem b o v e)
  inj i b e := k.inj i b (h.inj i b e)
  own t r e := by
    obtain ⟨r1, h1, h2, h3⟩ := h.own t r e
    obtain ⟨r2, k1, k2, k3⟩ := k.own t r1 h1
    refine ⟨r2, k1, k2.trans h2, ?_⟩
    rcases h3 with rfl | h3
    · exact k3
    · rcases k3 with rfl | k3
      · exact .inr h3
      · exact .inr (Nat.lt_trans h3 k3)
def OwnOk (G : Gh) (own : Own) (e : TypeId) (n : Nat) (v : Value) : Prop :=
  match own with
  | .unk => True
  | .full => ∃ a, v = .slice a n n
  | .tok t => ∃ r, G.own t = some r ∧ r.ety = e ∧ n ≤ r.len ∧ (n = r.len → r.val = v)
theorem OwnOk.mono {G G' : Gh} (hle : G.Le G') {own : Own} {e : TypeId} {n : Nat} {v : Value} (h : OwnOk G own e n v) : OwnOk G' own e n v := by
  cases own with
  | unk => trivial
  | full => exact h
  | tok t =>
    obtain ⟨r, h1, h2, h3, h4⟩ := h
    obtain ⟨r', k1, k2, k3⟩ := hle.own t r h1
    rcases k3 with rfl | k3
    · exact ⟨r', k1, h2, h3, h4⟩
    · exact ⟨r', k1, k2.trans h2, by omega, by omega⟩
inductive Rep (P : Program) (G : Gh) : AV → Value → Prop
  | any (v : Value) : Rep P G .any v
  | sc (v : Value) : Rep P G (.sc v) v
  | ptr {id off b : Nat} (h : G.inj id = some b) : Rep P G (.ptr id off) (.pointer (some ⟨b, off, none⟩))
  | cptr {cells : List AV} {b off : Nat} (vs : Nat → Value) (hm : ∀ i, i < cells.length → G.mem b (off + i) = some (vs i))
      (hr : ∀ i, i < cells.length → Rep P G (cells.getD i .any) (vs i)) : Rep P G (.cptr cells) (.pointer (some ⟨b, off, none⟩))
  | nilS : Rep P G .nilS (.slice none 0 0)
  | lstN {e : TypeId} {own : Own} (ho : OwnOk G own e 0 (.slice none 0 0)) : Rep P G (.lst e [] own true) (.slice none 0 0)
  | lst {e : TypeId} {elems : List AV} {own : Own} {b off cap : Nat} (vs : Nat → Value)
      (hl : ∀ i, i < elems.length → (elems.getD i .any).cells.length = P.cellsOf e)
      (hm : ∀ k, k < elems.length * P.cellsOf e → G.mem b (off + k) = some (vs k))
      (hr : ∀ i j, i < elems.length → j < P.cellsOf e → Rep P G ((elems.getD i .any).cells.getD j .any) (vs (i * P.cellsOf e + j)))
      (hc : elems.length ≤ cap)
      (ho : OwnOk G own e elems.length (.slice (some ⟨b, off, none⟩) elems.length cap)) :
      Rep P G (.lst e elems own false) (.slice (some ⟨b, off, none⟩) elems.length cap)
  | lstZ {e : TypeId} {a : Addr} {cap : Nat} : Rep P G (.lst e [] .unk false) (.slice (some a) 0 cap)
  | msl {id off len cap b : Nat} (h : G.inj id = some b) : Rep P G (.msl id off len cap) (.slice (some ⟨b, off, none⟩) len cap)
  | mp {id b : Nat} (h : G.inj id = some b) : Rep P G (.mp id) (.map (some b))
  | fn {f : Fn} {first captured : List AV} (vf vc : List Value) (lf : vf.length = first.length) (lc : vc.length = captured.length)
      (hf : ∀ i, i < first.length → Rep P G (first.getD i .any) (vf.getD i undef)) (hc : ∀ i, i < captured.length → Rep P G (captured.getD i .any) (vc.getD i undef)) :
      Rep P G (.fn f first captured) (.func f vf.toArray vc.toArray)
  | ifc {t : TypeId} {v : AV} {x : Value} (h : Rep P G v x) : Rep P G (.ifc t v) (.iface t x)
  | agg {cells : List AV} (vs : List Value) (l : vs.length = cells.length) (h : ∀ i, i < cells.length → Rep P G (cells.getD i .any) (vs.getD i undef)) : Rep P G (.agg cells) (.agg vs.toArray)
  | tup {cells : List AV} (vs : List Value) (l : vs.length = cells.length) (h : ∀ i, i < cells.length → Rep P G (cells.getD i .any) (vs.getD i undef)) : Rep P G (.tup cells) (.tuple vs.toArray)
theorem Rep.mono {P : Program} {G G' : Gh} (hle : G.Le G') {a : AV} {v : Value} (h : Rep P G a v) : Rep P G' a v := by
  induction h with
  | any v => exact .any v
  | sc v => exact .sc v
  | ptr h => exact .ptr (hle.inj _ _ h)
  | cptr vs hm _ ih => exact .cptr vs (fun i hi => hle.mem _ _ _ (hm i hi)) ih
  | nilS => exact .nilS
  | lstN ho => exact .lstN (ho.mono hle)
  | lst vs hl hm _ hc ho ih => exact .lst vs hl (fun k hk => hle.mem _ _ _ (hm k hk)) ih hc (ho.mono hle)
  | lstZ => exact .lstZ
  | msl h => exact .msl (hle.inj _ _ h)
  | mp h => exact .mp (hle.inj _ _ h)
  | fn vf vc lf lc _ _ i1 i2 => exact .fn vf vc lf lc i1 i2
  | ifc _ ih => exact .ifc ih
  | agg vs l _ ih => exact .agg vs l ih
  | tup vs l _ ih => exact .tup vs l ih
def StampB (ms : Array MapEntry) (clock : Nat) : Prop :=
  (∀ (k : Nat) (e : MapEntry), ms[k]? = some e → e.born < clock) ∧ (∀ (k k' : Nat) (e e' : MapEntry), ms[k]? = some e → ms[k']? = some e' → e.born = e'.born → k = k')
def ItOk (G : Gh) (w : World) : ABlk → Nat → Prop
  | .siter s pos, b => w.heap[b]? = some (.stringIter s pos)
  | .miter mid n0 done, b => ∃ (m since : Nat) (seen : Array Nat) (last : Nat) (ms : Array MapEntry) (clock : Nat), w.heap[b]? = some (.mapIter (some m) since seen last) ∧ G.inj mid = some m ∧ w.heap[m]? = some (.map ms clock) ∧
      n0 ≤ ms.size ∧ since ≤ last ∧ last ≤ clock ∧ StampB ms clock ∧ (∀ (k : Nat) (e : MapEntry), ms[k]? = some e → (k < n0 ↔ e.born < since)) ∧
      (∀ (k : Nat) (e : MapEntry), ms[k]? = some e → k < n0 → (seen.contains e.born = true ↔ k ∈ done)) ∧ (∀ x ∈ seen, x < since) ∧ (seen.isEmpty = false → 0 < n0) ∧ ms.size + last = n0 + clock ∧
      (∀ k, done.head? = some k → ∃ e : MapEntry, ms[k]? = some e ∧ seen.back? = some e.born)
  | _, _ => True
theorem ItOk.keep {G G' : Gh} {w w' : World} {s : ABlk} {b : Nat} (h : ItOk G w s b) (hG : ∀ i b, G.inj i = some b → G'.inj i = some b) (hb : ∀ o, w.heap[b]? = some o → w'.heap[b]? = some o)
    (hm : ∀ (m : Nat) (ms : Array MapEntry) (cl : Nat), w.heap[m]? = some (.map ms cl) → w'.heap[m]? = some (.map ms cl)) : ItOk G' w' s b := by
  cases s with
  | siter s pos => exact hb _ h
  | miter mid n0 done =>
    obtain ⟨m, since, seen, last, ms, clock, h1, h2, h3, h4⟩ := h
    exact ⟨m, since, seen, last, ms, clock, hb _ h1, hG _ _ h2, hm _ _ _ h3, h4⟩
  | cells ty cs => trivial
  | tok n => trivial
  | map es => trivial
structure Inv (P : Program) (G : Gh) (σ : AS) (w : World) : Prop where
  below : Below G.B G.W0 w
  base : G.B ≤ G.W0.heap.size
  mem : ∀ b o v, G.mem b o = some v → w.cell? ⟨b, o, none⟩ = some v ∧ v.oneCell' = true
  top : ∀ i, G.top ≤ i → G.inj i = none ∧ G.own i = none
  injB : ∀ i b, G.inj i = some b → G.B ≤ b ∧ b < w.heap.size ∧ (∀ ty cs, σ i = some (.cells ty cs) → ∀ o, G.mem b o = none)
  inj1 : ∀ i j b, G.inj i = some b → G.inj j = some b → i = j
  cells : ∀ i ty cs, σ i = some (.cells ty cs) → ∃ b vs, G.inj i = some b ∧ w.heap[b]? = some (.cells vs ty (0, 0)) ∧ vs.size = cs.length ∧
    ∀ k, k < cs.length → Rep P G (cs.getD k .any) (vs.getD k undef) ∧ (vs.getD k undef).oneCell' = true
  maps : ∀ i es, σ i = some (.map es) → ∃ b ms clock, G.inj i = some b ∧ w.heap[b]? = some (.map ms clock) ∧ (ms.size = es.length ∧ StampB ms clock) ∧
    ∀ k, k < es.length → ∃ m, ms[k]? = some m ∧ Rep P G (es.getD k (.any, .any)).1 m.key ∧ Rep P G (es.getD k (.any, .any)).2 m.val
  iters : ∀ i (s : ABlk), s.isIter = true → σ i = some s → ∃ b, G.inj i = some b ∧ ItOk G w s b
  tok : ∀ i n, σ i = some (.tok n) → ∃ r, G.own i = some r ∧ r.len = n
  own : ∀ t r, G.own t = some r → r.len ≤ r.cap ∧ (r.a = none → r.cap = 0) ∧ ∀ b o, r.a = some (b, o) → ∀ k, r.len * P.cellsOf r.ety ≤ k → k < r.cap * P.cellsOf r.ety →
    (w.cell? ⟨b, o + k, none⟩).isSome = true ∧ w.frozen? ⟨b, o + k, none⟩ = false ∧ G.mem b (o + k) = none ∧ (∀ i, G.inj i ≠ some b) ∧ G.B ≤ b ∧ b < w.heap.size ∧
    (∀ t' r' o', t' ≠ t → G.own t' = some r' → r'.a = some (b, o') → r'.cap * P.cellsOf r'.ety ≤ r'.len * P.cellsOf r'.ety)
theorem Inv.weaken {P : Program} {G : Gh} {σ σ0 : AS} {w : World} (h : Inv P G σ w) (hle : AS.le σ0 σ) : Inv P G σ0 w where
  below := h.below
  base := h.base
  mem := h.mem
  top := h.top
  injB i b e := ⟨(h.injB i b e).1, (h.injB i b e).2.1, fun ty cs hn => (h.injB i b e).2.2 ty cs (hle _ _ hn)⟩
  inj1 := h.inj1
  cells i ty cs e := h.cells i ty cs (hle _ _ e)
  maps i es e := h.maps i es (hle _ _ e)
  iters i s p e := h.iters i s p (hle _ _ e)
  tok i n e := h.tok i n (hle _ _ e)
  own := h.own
theorem Rep.cells {P : Program} {G : Gh} {a : AV} {v : Value} (h : Rep P G a v) (ho : a.okc = true) :
    v.cells.size = a.cells.length ∧ ∀ k, k < a.cells.length → Rep P G (a.cells.getD k .any) (v.cells.getD k undef) := by
  have single : ∀ (a : AV) (v : Value), a.cells = [a] → v.cells = #[v] → Rep P G a v →
      v.cells.size = a.cells.length ∧ ∀ k, k < a.cells.length → Rep P G (a.cells.getD k .any) (v.cells.getD k undef) := by
    intro a v h1 h2 h3
    rw [h1, h2]
    refine ⟨rfl, fun k hk => ?_⟩
    have : k = 0 := by simp at hk; exact hk
    subst this
    simpa using h3
  cases h with
  | any v => simp [AV.okc] at ho
  | sc v =>
    refine single _ _ rfl ?_ (.sc v)
    cases v <;> first | rfl | simp [AV.okc] at ho
  | agg vs l h =>
    refine ⟨by simp [Value.cells, AV.cells, l], fun k hk => ?_⟩
    have := h k hk
    simpa [Value.cells, AV.cells] using this
  | tup vs l h => simp [AV.okc] at ho
  | ptr h => exact single _ _ rfl rfl (.ptr h)
  | cptr vs hm hr => exact single _ _ rfl rfl (.cptr vs hm hr)
  | nilS => exact single _ _ rfl rfl .nilS
  | lstN h => exact single _ _ rfl rfl (.lstN h)
  | lst vs hl hm hr hc hq => exact single _ _ rfl rfl (.lst vs hl hm hr hc hq)
  | lstZ => exact single _ _ rfl rfl .lstZ
  | msl h => exact single _ _ rfl rfl (.msl h)
  | mp h => exact single _ _ rfl rfl (.mp h)
  | fn vf vc lf lc hf hc => exact single _ _ rfl rfl (.fn vf vc lf lc hf hc)
  | ifc h => exact single _ _ rfl rfl (.ifc h)
theorem Rep.one {P : Program} {G : Gh} {a : AV} {v : Value} (h : Rep P G a v) (ho : a.one = true) : v.oneCell' = true := by
  cases h <;> first | rfl | (simp [AV.one] at ho; done) | skip
  case sc => cases v <;> first | rfl | simp [AV.one] at ho
end Go.AW

set_option linter.unusedSimpArgs false
set_option linter.unusedVariables false
namespace Go.AW
open Go Go.RowKit
variable {P : Program} {G : Gh} {σ : AS} {w : World}
theorem Inv.fresh (h : Inv P G σ w) : σ G.top = none := by
  have ht := h.top G.top (Nat.le_refl _)
  cases e : σ G.top with
  | none => rfl
  | some b =>
    cases b with
    | cells ty cs => obtain ⟨b, _, h1, _⟩ := h.cells _ _ _ e; rw [ht.1] at h1; cases h1
    | map es => obtain ⟨b, _, _, h1, _⟩ := h.maps _ _ e; rw [ht.1] at h1; cases h1
    | siter s p => obtain ⟨b, h1, _⟩ := h.iters _ _ rfl e; rw [ht.1] at h1; cases h1
    | miter m n d => obtain ⟨b, h1, _⟩ := h.iters _ _ rfl e; rw [ht.1] at h1; cases h1
    | tok n => obtain ⟨r, h1, _⟩ := h.tok _ _ e; rw [ht.2] at h1; cases h1
theorem Inv.Bsize (h : Inv P G σ w) : G.B ≤ w.heap.size := Nat.le_trans h.base h.below.size
theorem Inv.memlt (h : Inv P G σ w) {b o : Nat} {v : Value} (e : G.mem b o = some v) : b < w.heap.size := by
  have h1 := (h.mem b o v e).1
  rcases Nat.lt_or_ge b w.heap.size with h2 | h2
  · exact h2
  · simp [World.cell?, Array.getElem?_eq_none h2] at h1
theorem Inv.drew (h : Inv P G σ w) : Inv P G σ w.drew where
  below := h.below.drew
  base := h.base
  mem := h.mem
  top := h.top
  injB := h.injB
  inj1 := h.inj1
  cells := h.cells
  maps := h.maps
  iters := h.iters
  tok := h.tok
  own := h.own
theorem heap_alloc_lt (w : World) (o : Obj) {k : Nat} (h : k < w.heap.size) : (w.alloc o).heap[k]? = w.heap[k]? := Below.heap_alloc w o k h
theorem heap_alloc_new (w : World) (o : Obj) : (w.alloc o).heap[w.heap.size]? = some o := by
  show (w.heap.push o)[w.heap.size]? = _
  simp
theorem lt_of_heap {w : World} {b : Nat} {o : Obj} (h : w.heap[b]? = some o) : b < w.heap.size := by
  rcases Nat.lt_or_ge b w.heap.size with h1 | h1
  · exact h1
  · rw [Array.getElem?_eq_none h1] at h; cases h
theorem cell_alloc {w : World} {a : Addr} (o : Obj) (h : a.block < w.heap.size) : (w.alloc o).cell? a = w.cell? a :=
  World.cell?_of_block (heap_alloc_lt w o h)
theorem frozen_alloc {w : World} {a : Addr} (o : Obj) (h : a.block < w.heap.size) : (w.alloc o).frozen? a = w.frozen? a :=
  World.frozen?_of_block (heap_alloc_lt w o h)
theorem Inv.alloc (h : Inv P G σ w) (o : Obj) : Inv P G σ (w.alloc o) where
  below := h.below.alloc h.Bsize o
  base := h.base
  mem b of v e := ⟨by rw [cell_alloc o (h.memlt e)]; exact (h.mem b of v e).1, (h.mem b of v e).2⟩
  top := h.top
  injB i b e := ⟨(h.injB i b e).1, by have := (h.injB i b e).2.1; simp; omega, (h.injB i b e).2.2⟩
  inj1 := h.inj1
  cells i ty cs e := by
    obtain ⟨b, vs, h1, h2, h3⟩ := h.cells i ty cs e
    exact ⟨b, vs, h1, by rw [heap_alloc_lt w o (lt_of_heap h2)]; exact h2, h3⟩
  maps i es e := by
    obtain ⟨b, ms, c, h1, h2, h3⟩ := h.maps i es e
    exact ⟨b, ms, c, h1, by rw [heap_alloc_lt w o (lt_of_heap h2)]; exact h2, h3⟩
  iters i s p e := by
    obtain ⟨b, h1, h2⟩ := h.iters i s p e
    exact ⟨b, h1, h2.keep (fun _ _ h => h) (fun _ ho => by rw [heap_alloc_lt w o (lt_of_heap ho)]; exact ho) (fun _ _ _ ho => by rw [heap_alloc_lt w o (lt_of_heap ho)]; exact ho)⟩
  tok := h.tok
  own t r e := by
    obtain ⟨h1, h2, h3⟩ := h.own t r e
    refine ⟨h1, h2, fun b of ea k hk1 hk2 => ?_⟩
    obtain ⟨k1, k2, k3, k4, k5, k6, k7⟩ := h3 b of ea k hk1 hk2
    refine ⟨?_, ?_, k3, k4, k5, by simp; omega, k7⟩
    · rw [cell_alloc o k6]; exact k1
    · rw [frozen_alloc o k6]; exact k2
def Gh.bind (G : Gh) (b : Nat) : Gh := { G with inj := fun j => if j = G.top then some b else G.inj j, top := G.top + 1 }
theorem Gh.bind_le (G : Gh) (b : Nat) (ht : G.inj G.top = none) : G.Le (G.bind b) where
  W0 := rfl
  B := rfl
  mem _ _ _ h := h
  inj i c h := by
    have : i ≠ G.top := by intro e; subst e; rw [ht] at h; cases h
    simp [Gh.bind, this, h]
  own t r h := ⟨r, h, rfl, .inl rfl⟩
theorem Inv.bind (h : Inv P G σ w) (o : Obj) : Inv P (G.bind w.heap.size) σ (w.alloc o) := by
  have h' := h.alloc o
  have hle := G.bind_le w.heap.size (h.top _ (Nat.le_refl _)).1
  refine ⟨h'.below, h'.base, h'.mem, ?_, ?_, ?_, ?_, ?_, ?_, h'.tok, ?_⟩
  · intro i hi
    have : i ≠ G.top := by simp [Gh.bind] at hi; omega
    have := h.top i (by simp [Gh.bind] at hi; omega)
    simp [Gh.bind, *]
  · intro i b e
    by_cases hi : i = G.top
    · simp [Gh.bind, hi] at e
      subst e
      refine ⟨h.Bsize, by simp, fun _ _ _ of => ?_⟩
      cases hm : G.mem w.heap.size of with
      | none => exact hm
      | some v => have := h.memlt hm; omega
    · simp [Gh.bind, hi] at e
      exact h'.injB i b e
  · intro i j b e1 e2
    by_cases hi : i = G.top <;> by_cases hj : j = G.top
    · omega
    · simp [Gh.bind, hi, hj] at e1 e2
      have := (h.injB j b e2).2.1; omega
    · simp [Gh.bind, hi, hj] at e1 e2
      have := (h.injB i b e1).2.1; omega
    · simp [Gh.bind, hi, hj] at e1 e2
      exact h.inj1 i j b e1 e2
  · intro i ty cs e
    obtain ⟨b, vs, h1, h2, h3, h4⟩ := h'.cells i ty cs e
    exact ⟨b, vs, hle.inj _ _ h1, h2, h3, fun k hk => ⟨(h4 k hk).1.mono hle, (h4 k hk).2⟩⟩
  · intro i es e
    obtain ⟨b, ms, c, h1, h2, h3, h4⟩ := h'.maps i es e
    refine ⟨b, ms, c, hle.inj _ _ h1, h2, h3, fun k hk => ?_⟩
    obtain ⟨m, k1, k2, k3⟩ := h4 k hk
    exact ⟨m, k1, k2.mono hle, k3.mono hle⟩
  · intro i s p e
    obtain ⟨b, h1, h2⟩ := h'.iters i s p e
    exact ⟨b, hle.inj _ _ h1, h2.keep hle.inj (fun _ h => h) (fun _ _ _ h => h)⟩
  · intro t r e
    obtain ⟨h1, h2, h3⟩ := h'.own t r e
    refine ⟨h1, h2, fun b of ea k hk1 hk2 => ?_⟩
    obtain ⟨k1, k2, k3, k4, k5, k6, k7⟩ := h3 b of ea k hk1 hk2
    have k6' := ((h.own t r e).2.2 b of ea k hk1 hk2).2.2.2.2.2.1
    refine ⟨k1, k2, k3, fun i => ?_, k5, k6, k7⟩
    by_cases hi : i = G.top
    · simp [Gh.bind, hi]; omega
    · simp [Gh.bind, hi]; exact k4 i
theorem Inv.allocCells (h : Inv P G σ w) (ty : TypeId) (vs : Array Value) (cs : List AV) (hl : vs.size = cs.length)
    (hr : ∀ k, k < cs.length → Rep P G (cs.getD k .any) (vs.getD k undef) ∧ (vs.getD k undef).oneCell' = true) :
    ∃ G', G.Le G' ∧ G'.inj G.top = some w.heap.size ∧ Inv P G' (σ.set G.top (.cells ty cs)) (w.alloc (.cells vs ty)) := by
  have hle := G.bind_le w.heap.size (h.top _ (Nat.le_refl _)).1
  have hb := h.bind (.cells vs ty)
  refine ⟨_, hle, by simp [Gh.bind], ?_⟩
  refine ⟨hb.below, hb.base, hb.mem, hb.top, ?_, hb.inj1, ?_, ?_, ?_, ?_, hb.own⟩
  · intro i b e
    have h1 := hb.injB i b e
    refine ⟨h1.1, h1.2.1, fun ty' cs' hn => ?_⟩
    by_cases hi : i = G.top
    · subst hi
      simp [Gh.bind] at e
      subst e
      intro of
      cases hm : G.mem w.heap.size of with
      | none => exact hm
      | some v => have := h.memlt hm; omega
    · exact h1.2.2 ty' cs' (by simpa [AS.set, hi] using hn)
  · intro i ty' cs' e
    by_cases hi : i = G.top
    · subst hi
      simp [AS.set] at e
      obtain ⟨rfl, rfl⟩ := e
      exact ⟨w.heap.size, vs, by simp [Gh.bind], heap_alloc_new w _, hl, fun k hk => ⟨(hr k hk).1.mono hle, (hr k hk).2⟩⟩
    · simp [AS.set, hi] at e; exact hb.cells i ty' cs' e
  · intro i es e
    by_cases hi : i = G.top
    · simp [AS.set, hi] at e
    · simp [AS.set, hi] at e; exact hb.maps i es e
  · intro i s p e
    by_cases hi : i = G.top
    · simp [AS.set, hi] at e; subst e; cases p
    · simp [AS.set, hi] at e; exact hb.iters i s p e
  · intro i n e
    by_cases hi : i = G.top
    · simp [AS.set, hi] at e
    · simp [AS.set, hi] at e; exact hb.tok i n e
def Gh.keep (G : Gh) (b off n : Nat) (vs : Nat → Value) : Gh :=
  { G with mem := fun b' o => if b' = b ∧ off ≤ o ∧ o < off + n then some (vs (o - off)) else G.mem b' o }
theorem Gh.keep_in {b off n o : Nat} {vs : Nat → Value} (h1 : off ≤ o) (h2 : o < off + n) : (G.keep b off n vs).mem b o = some (vs (o - off)) := if_pos ⟨rfl, h1, h2⟩
theorem Gh.keep_out {b off n b' o : Nat} {vs : Nat → Value} (h : ¬ (b' = b ∧ off ≤ o ∧ o < off + n)) : (G.keep b off n vs).mem b' o = G.mem b' o := if_neg h
theorem Inv.keepNew' (h : Inv P G σ w) (ty : TypeId) (cur : Array Value) (fz : Nat × Nat) (n : Nat) (vs : Nat → Value) (_hn : n ≤ cur.size) (hv : ∀ k, k < n → cur[k]? = some (vs k) ∧ (vs k).oneCell' = true) :
    G.Le (G.keep w.heap.size 0 n vs) ∧ Inv P (G.keep w.heap.size 0 n vs) σ (w.alloc (.cells cur ty fz)) := by
  have hle : G.Le (G.keep w.heap.size 0 n vs) := by
    refine ⟨rfl, rfl, fun b o v e => ?_, fun _ _ e => e, fun t r e => ⟨r, e, rfl, .inl rfl⟩⟩
    have := h.memlt e
    simp only [Gh.keep]
    rw [if_neg (by omega)]
    exact e
  have h' := h.alloc (.cells cur ty fz)
  refine ⟨hle, h'.below, h'.base, ?_, h.top, ?_, h.inj1, ?_, ?_, h'.iters, h'.tok, ?_⟩
  · intro b o v e
    by_cases hc : b = w.heap.size ∧ 0 ≤ o ∧ o < 0 + n
    · simp only [Gh.keep] at e
      rw [if_pos hc] at e
      obtain ⟨rfl, _, ho⟩ := hc
      simp at e
      subst e
      have := hv o (by omega)
      refine ⟨?_, this.2⟩
      simp only [World.cell?, heap_alloc_new]
      simpa using this.1
    · simp only [Gh.keep] at e
      rw [if_neg hc] at e
      exact h'.mem b o v e
  · intro i b e
    have h1 := h.injB i b e
    refine ⟨h1.1, by simp; omega, fun ty' cs' hs o => ?_⟩
    simp only [Gh.keep]
    rw [if_neg (by omega)]
    exact h1.2.2 ty' cs' hs o
  · intro i ty' cs e
    obtain ⟨b, vs', h1, h2, h3, h4⟩ := h'.cells i ty' cs e
    exact ⟨b, vs', h1, h2, h3, fun k hk => ⟨(h4 k hk).1.mono hle, (h4 k hk).2⟩⟩
  · intro i es e
    obtain ⟨b, ms, c, h1, h2, h3, h4⟩ := h'.maps i es e
    refine ⟨b, ms, c, h1, h2, h3, fun k hk => ?_⟩
    obtain ⟨m, k1, k2, k3⟩ := h4 k hk
    exact ⟨m, k1, k2.mono hle, k3.mono hle⟩
  · intro t r e
    obtain ⟨h1, h2, h3⟩ := h'.own t r e
    refine ⟨h1, h2, fun b of ea k hk1 hk2 => ?_⟩
    obtain ⟨k1, k2, k3, k4, k5, k6, k7⟩ := h3 b of ea k hk1 hk2
    have k6' := ((h.own t r e).2.2 b of ea k hk1 hk2).2.2.2.2.2.1
    refine ⟨k1, k2, ?_, k4, k5, k6, k7⟩
    simp only [Gh.keep]
    rw [if_neg (by omega)]
    exact k3
theorem Inv.keepNew (h : Inv P G σ w) (ty : TypeId) (cur : Array Value) (n : Nat) (vs : Nat → Value) (hn : n ≤ cur.size) (hv : ∀ k, k < n → cur[k]? = some (vs k) ∧ (vs k).oneCell' = true) :
    G.Le (G.keep w.heap.size 0 n vs) ∧ Inv P (G.keep w.heap.size 0 n vs) σ (w.alloc (.cells cur ty)) := h.keepNew' ty cur (0, 0) n vs hn hv
/-! stores -/
def updA (cur : Array Value) : Nat → List Value → Array Value
  | _, [] => cur
  | o, v :: r => updA (cur.setIfInBounds o v) (o + 1) r
theorem updA_size (vs : List Value) : ∀ (cur : Array Value) (o : Nat), (updA cur o vs).size = cur.size := by
  induction vs with
  | nil => intro cur o; rfl
  | cons v r ih => intro cur o; simp [updA, ih]
theorem updA_get (vs : List Value) : ∀ (cur : Array Value) (o k : Nat), o + vs.length ≤ cur.size →
    (updA cur o vs).getD k undef = if o ≤ k ∧ k < o + vs.length then vs.getD (k - o) undef else cur.getD k undef := by
  induction vs with
  | nil =>
    intro cur o k _
    rw [if_neg (by simp only [List.length_nil]; omega)]
    rfl
  | cons v r ih =>
    intro cur o k h
    simp only [List.length_cons] at h
    simp only [updA]
    rw [ih _ _ _ (by simp; omega)]
    by_cases h1 : o + 1 ≤ k ∧ k < o + 1 + r.length
    · rw [if_pos h1, if_pos (by simp only [List.length_cons]; omega)]
      have : k - o = (k - (o + 1)) + 1 := by omega
      rw [this]
      simp
    · rw [if_neg h1]
      by_cases h2 : k = o
      · subst h2
        rw [if_pos (by simp only [List.length_cons]; omega)]
        have : k < cur.size := by omega
        simp [this]
      · rw [if_neg (by simp only [List.length_cons]; omega)]
        simp [Array.getElem?_setIfInBounds_ne (fun e => h2 e.symm)]
theorem heap_setCells (b : Nat) (vs : List Value) : ∀ (w : World) (o : Nat) (cur : Array Value) (ty : TypeId) (fz : Nat × Nat), w.heap[b]? = some (.cells cur ty fz) →
    (w.setCells b o vs).heap[b]? = some (.cells (updA cur o vs) ty fz) := by
  induction vs with
  | nil => intro w o cur ty fz h; exact h
  | cons v r ih =>
    intro w o cur ty fz h
    refine ih _ _ _ _ _ ?_
    simp only [World.setCell, Array.getElem?_modify, h, if_true, Option.map_some]
    rfl
theorem heap_setCells_other (b : Nat) (vs : List Value) : ∀ (w : World) (o : Nat) (k : Nat), k ≠ b → (w.setCells b o vs).heap[k]? = w.heap[k]? := by
  induction vs with
  | nil => intro w o k h; rfl
  | cons v r ih =>
    intro w o k h
    rw [show w.setCells b o (v :: r) = (w.setCell ⟨b, o, none⟩ v).setCells b (o + 1) r from rfl, ih _ _ _ h]
    exact Below.heap_setCell w _ v k h
theorem size_setCells (b : Nat) (vs : List Value) : ∀ (w : World) (o : Nat), (w.setCells b o vs).heap.size = w.heap.size := by
  induction vs with
  | nil => intro w o; rfl
  | cons v r ih =>
    intro w o
    rw [show w.setCells b o (v :: r) = (w.setCell ⟨b, o, none⟩ v).setCells b (o + 1) r from rfl, ih]
    simp
theorem below_setCells {B : Nat} {a : World} (b : Nat) (vs : List Value) : ∀ (w : World) (o : Nat), Below B a w → B ≤ b → Below B a (w.setCells b o vs) := by
  induction vs with
  | nil => intro w o h _; exact h
  | cons v r ih =>
    intro w o h hb
    exact ih _ _ (h.setCell (p := ⟨b, o, none⟩) hb v) hb
theorem Inv.store (h : Inv P G σ w) {i : Nat} {ty : TypeId} {cs : List AV} (e : σ i = some (.cells ty cs)) (off : Nat) (vs : List Value) (av : List AV)
    (hl : vs.length = av.length) (hfit : off + vs.length ≤ cs.length) (hr : ∀ k, k < av.length → Rep P G (av.getD k .any) (vs.getD k undef) ∧ (vs.getD k undef).oneCell' = true)
    (b : Nat) (hb : G.inj i = some b) :
    Inv P G (σ.set i (.cells ty (cs.take off ++ av ++ cs.drop (off + av.length)))) (w.setCells b off vs) := by
  obtain ⟨b', cur, h1, h2, h3, h4⟩ := h.cells i ty cs e
  rw [hb] at h1
  obtain rfl := Option.some.inj h1
  have hB := h.injB i b hb
  have other : ∀ k, k ≠ b → (w.setCells b off vs).heap[k]? = w.heap[k]? := heap_setCells_other b vs w off
  have hlen : (cs.take off ++ av ++ cs.drop (off + av.length)).length = cs.length := by simp; omega
  refine ⟨below_setCells b vs w off h.below hB.1, h.base, ?_, h.top, ?_, h.inj1, ?_, ?_, ?_, ?_, ?_⟩
  · intro b' o v em
    have hne : b' ≠ b := by intro e'; subst e'; rw [hB.2.2 _ _ e o] at em; cases em
    exact ⟨by rw [World.cell?_of_block (w := w) (other b' hne)]; exact (h.mem b' o v em).1, (h.mem b' o v em).2⟩
  · intro j c ej
    have := h.injB j c ej
    refine ⟨this.1, by rw [size_setCells]; exact this.2.1, fun ty' cs' hn => ?_⟩
    by_cases hj : j = i
    · subst hj; exact this.2.2 _ _ e
    · exact this.2.2 ty' cs' (by simpa [AS.set, hj] using hn)
  · intro j ty' cs' ej
    by_cases hj : j = i
    · subst hj
      simp [AS.set] at ej
      obtain ⟨rfl, rfl⟩ := ej
      refine ⟨b, _, hb, heap_setCells b vs w off cur _ _ h2, ?_, ?_⟩
      · rw [updA_size, h3]; simp; omega
      · intro k hk
        rw [updA_get _ _ _ _ (by omega)]
        have hk' : k < cs.length := by simp at hk; omega
        by_cases hc : off ≤ k ∧ k < off + vs.length
        · rw [if_pos hc]
          have := hr (k - off) (by omega)
          have e1 : (cs.take off ++ (av ++ cs.drop (off + av.length))).getD k .any = av.getD (k - off) .any := by
            have t : (cs.take off).length = off := by simp; omega
            simp only [List.getD_eq_getElem?_getD]
            rw [List.getElem?_append_right (by omega), t, List.getElem?_append_left (by omega)]
          rw [e1]
          exact this
        · rw [if_neg hc]
          have := h4 k hk'
          have e1 : (cs.take off ++ (av ++ cs.drop (off + av.length))).getD k .any = cs.getD k .any := by
            have t : (cs.take off).length = off := by simp; omega
            simp only [List.getD_eq_getElem?_getD]
            by_cases hlt : k < off
            · rw [List.getElem?_append_left (by omega), List.getElem?_take_of_lt hlt]
            · rw [List.getElem?_append_right (by omega), t, List.getElem?_append_right (by omega), List.getElem?_drop]
              congr 2; omega
          rw [e1]
          exact this
    · simp [AS.set, hj] at ej
      obtain ⟨c, vs', k1, k2, k3⟩ := h.cells j ty' cs' ej
      have hne : c ≠ b := fun e' => hj (h.inj1 j i b (e' ▸ k1) hb)
      exact ⟨c, vs', k1, by rw [other c hne]; exact k2, k3⟩
  · intro j es ej
    have hj : j ≠ i := by intro e'; subst e'; simp [AS.set] at ej
    simp [AS.set, hj] at ej
    obtain ⟨c, ms, cl, k1, k2, k3⟩ := h.maps j es ej
    have hne : c ≠ b := fun e' => hj (h.inj1 j i b (e' ▸ k1) hb)
    exact ⟨c, ms, cl, k1, by rw [other c hne]; exact k2, k3⟩
  · intro j s p ej
    have hj : j ≠ i := by intro e'; subst e'; simp [AS.set] at ej; subst ej; cases p
    simp [AS.set, hj] at ej
    obtain ⟨c, k1, k2⟩ := h.iters j s p ej
    have hne : c ≠ b := fun e' => hj (h.inj1 j i b (e' ▸ k1) hb)
    exact ⟨c, k1, k2.keep (fun _ _ h => h) (fun o ho => by rw [other c hne]; exact ho) (fun m ms cl hm => by rw [other m (fun e => by subst e; rw [h2] at hm; cases hm)]; exact hm)⟩
  · intro j n ej
    have hj : j ≠ i := by intro e'; subst e'; simp [AS.set] at ej
    simp [AS.set, hj] at ej
    exact h.tok j n ej
  · intro t r et
    obtain ⟨k1, k2, k3⟩ := h.own t r et
    refine ⟨k1, k2, fun c o ea k hk1 hk2 => ?_⟩
    obtain ⟨m1, m2, m3, m4, m5, m6, m7⟩ := k3 c o ea k hk1 hk2
    have hne : c ≠ b := fun e' => m4 i (e' ▸ hb)
    refine ⟨?_, ?_, m3, m4, m5, by rw [size_setCells]; exact m6, m7⟩
    · rw [World.cell?_of_block (w := w) (other c hne)]; exact m1
    · rw [World.frozen?_of_block (w := w) (other c hne)]; exact m2
end Go.AW

set_option linter.unusedSimpArgs false
set_option linter.unusedVariables false
namespace Go.AW
open Go Go.RowKit
variable {P : Program} {G : Gh} {σ : AS} {w : World}
def Gh.mint (G : Gh) (r : OR) : Gh := { G with own := fun j => if j = G.top then some r else G.own j, top := G.top + 1 }
theorem Gh.mint_le (G : Gh) (r : OR) (ht : G.own G.top = none) : G.Le (G.mint r) where
  W0 := rfl
  B := rfl
  mem _ _ _ h := h
  inj _ _ h := h
  own t r' h := by
    have : t ≠ G.top := by intro e; subst e; rw [ht] at h; cases h
    exact ⟨r', by simp [Gh.mint, this, h], rfl, .inl rfl⟩
theorem Inv.mint (h : Inv P G σ w) (a : Option (Nat × Nat)) (n : Nat) (e : TypeId) (ha : a = none → n = 0) :
    G.Le (G.mint ⟨a, n, n, e⟩) ∧ Inv P (G.mint ⟨a, n, n, e⟩) (σ.set G.top (.tok n)) w := by
  have ht := h.top _ (Nat.le_refl _)
  have hle := G.mint_le ⟨a, n, n, e⟩ ht.2
  refine ⟨hle, h.below, h.base, h.mem, ?_, fun i b e => ⟨(h.injB i b e).1, (h.injB i b e).2.1, fun ty cs hn => (h.injB i b e).2.2 ty cs (by
    by_cases hi : i = G.top
    · subst hi; simp [AS.set] at hn
    · simpa [AS.set, hi] using hn)⟩, h.inj1, ?_, ?_, ?_, ?_, ?_⟩
  · intro i hi
    have : i ≠ G.top := by simp [Gh.mint] at hi; omega
    have := h.top i (by simp [Gh.mint] at hi; omega)
    simp [Gh.mint, *]
  · intro i ty cs ei
    have hi : i ≠ G.top := by intro e'; subst e'; simp [AS.set] at ei
    simp [AS.set, hi] at ei
    obtain ⟨b, vs, h1, h2, h3, h4⟩ := h.cells i ty cs ei
    exact ⟨b, vs, h1, h2, h3, fun k hk => ⟨(h4 k hk).1.mono hle, (h4 k hk).2⟩⟩
  · intro i es ei
    have hi : i ≠ G.top := by intro e'; subst e'; simp [AS.set] at ei
    simp [AS.set, hi] at ei
    obtain ⟨b, ms, c, h1, h2, h3, h4⟩ := h.maps i es ei
    refine ⟨b, ms, c, h1, h2, h3, fun k hk => ?_⟩
    obtain ⟨m, k1, k2, k3⟩ := h4 k hk
    exact ⟨m, k1, k2.mono hle, k3.mono hle⟩
  · intro i s p ei
    have hi : i ≠ G.top := by intro e'; subst e'; simp [AS.set] at ei; subst ei; cases p
    simp [AS.set, hi] at ei
    exact h.iters i s p ei
  · intro i m ei
    by_cases hi : i = G.top
    · simp [AS.set, hi] at ei
      subst ei
      exact ⟨⟨a, n, n, e⟩, by simp [Gh.mint, hi], rfl⟩
    · simp [AS.set, hi] at ei
      obtain ⟨r, h1, h2⟩ := h.tok i m ei
      exact ⟨r, by simp [Gh.mint, hi, h1], h2⟩
  · intro t r et
    by_cases hi : t = G.top
    · simp [Gh.mint, hi] at et
      subst et
      refine ⟨Nat.le_refl _, ha, fun b o _ k hk1 hk2 => ?_⟩
      simp at hk1 hk2; omega
    · simp [Gh.mint, hi] at et
      obtain ⟨h1, h2, h3⟩ := h.own t r et
      refine ⟨h1, h2, fun b o ea k hk1 hk2 => ?_⟩
      obtain ⟨k1, k2, k3, k4, k5, k6, k7⟩ := h3 b o ea k hk1 hk2
      refine ⟨k1, k2, k3, k4, k5, k6, fun t' r' o' hne et' ea' => ?_⟩
      by_cases hi' : t' = G.top
      · simp [Gh.mint, hi'] at et'
        subst et'; exact Nat.le_refl _
      · simp [Gh.mint, hi'] at et'
        exact k7 t' r' o' hne et' ea'
def Gh.grow (G : Gh) (t : Nat) (r : OR) (b off n : Nat) (vs : Nat → Value) : Gh :=
  { G.keep b off n vs with own := fun j => if j = t then some r else G.own j }
def Gh.setOwn (G : Gh) (t : Nat) (r : OR) : Gh := { G with own := fun j => if j = t then some r else G.own j }
theorem Inv.setOwn (h : Inv P G σ w) (tk : Nat) (r' r : OR) (hr : G.own tk = some r) (hety : r'.ety = r.ety) (hlen : r' = r ∨ r.len < r'.len) (hlc : r'.len ≤ r'.cap) (hn : r'.a = none → r'.cap = 0)
    (hreg : ∀ b o, r'.a = some (b, o) → ∀ k, r'.len * P.cellsOf r'.ety ≤ k → k < r'.cap * P.cellsOf r'.ety →
      (w.cell? ⟨b, o + k, none⟩).isSome = true ∧ w.frozen? ⟨b, o + k, none⟩ = false ∧ G.mem b (o + k) = none ∧ (∀ i, G.inj i ≠ some b) ∧ G.B ≤ b ∧ b < w.heap.size ∧
      (∀ t2 r2 o2, t2 ≠ tk → G.own t2 = some r2 → r2.a = some (b, o2) → r2.cap * P.cellsOf r2.ety ≤ r2.len * P.cellsOf r2.ety))
    (hoth : ∀ t2 r2 b o, t2 ≠ tk → G.own t2 = some r2 → r2.a = some (b, o) → ∀ k, r2.len * P.cellsOf r2.ety ≤ k → k < r2.cap * P.cellsOf r2.ety → ∀ o', r'.a = some (b, o') → r'.cap * P.cellsOf r'.ety ≤ r'.len * P.cellsOf r'.ety) :
    G.Le (G.setOwn tk r') ∧ Inv P (G.setOwn tk r') (σ.set tk (.tok r'.len)) w := by
  have hle : G.Le (G.setOwn tk r') := by
    refine ⟨rfl, rfl, fun _ _ _ e => e, fun _ _ e => e, fun t q e => ?_⟩
    by_cases ht : t = tk
    · subst ht
      rw [hr] at e
      obtain rfl := Option.some.inj e
      exact ⟨r', by simp [Gh.setOwn], hety, hlen⟩
    · exact ⟨q, by simp [Gh.setOwn, ht, e], rfl, .inl rfl⟩
  refine ⟨hle, h.below, h.base, h.mem, ?_, fun i b e => ⟨(h.injB i b e).1, (h.injB i b e).2.1, fun ty cs hn => (h.injB i b e).2.2 ty cs (by
    by_cases hi : i = tk
    · subst hi; simp [AS.set] at hn
    · simpa [AS.set, hi] using hn)⟩, h.inj1, ?_, ?_, ?_, ?_, ?_⟩
  · intro i hi
    have := h.top i hi
    have hne : i ≠ tk := by intro e'; subst e'; rw [hr] at this; cases this.2
    exact ⟨this.1, by simp [Gh.setOwn, hne, this.2]⟩
  · intro i ty cs ei
    have hi : i ≠ tk := by intro e'; subst e'; simp [AS.set] at ei
    simp [AS.set, hi] at ei
    obtain ⟨b, vs, h1, h2, h3, h4⟩ := h.cells i ty cs ei
    exact ⟨b, vs, h1, h2, h3, fun k hk => ⟨(h4 k hk).1.mono hle, (h4 k hk).2⟩⟩
  · intro i es ei
    have hi : i ≠ tk := by intro e'; subst e'; simp [AS.set] at ei
    simp [AS.set, hi] at ei
    obtain ⟨b, ms, c, h1, h2, h3, h4⟩ := h.maps i es ei
    refine ⟨b, ms, c, h1, h2, h3, fun k hk => ?_⟩
    obtain ⟨m, k1, k2, k3⟩ := h4 k hk
    exact ⟨m, k1, k2.mono hle, k3.mono hle⟩
  · intro i s p ei
    have hi : i ≠ tk := by intro e'; subst e'; simp [AS.set] at ei; subst ei; cases p
    simp [AS.set, hi] at ei
    exact h.iters i s p ei
  · intro i m ei
    by_cases hi : i = tk
    · subst hi
      simp [AS.set] at ei
      exact ⟨r', by simp [Gh.setOwn], ei⟩
    · simp [AS.set, hi] at ei
      obtain ⟨q, h1, h2⟩ := h.tok i m ei
      exact ⟨q, by simp [Gh.setOwn, hi, h1], h2⟩
  · intro t q et
    by_cases hi : t = tk
    · subst hi
      have : q = r' := by simp [Gh.setOwn] at et; exact et.symm
      subst this
      refine ⟨hlc, hn, fun b o ea k hk1 hk2 => ?_⟩
      obtain ⟨k1, k2, k3, k4, k5, k6, k7⟩ := hreg b o ea k hk1 hk2
      exact ⟨k1, k2, k3, k4, k5, k6, fun t2 r2 o2 hne e2 ea2 => k7 t2 r2 o2 hne (by simpa [Gh.setOwn, hne] using e2) ea2⟩
    · simp [Gh.setOwn, hi] at et
      obtain ⟨h1, h2, h3⟩ := h.own t q et
      refine ⟨h1, h2, fun b o ea k hk1 hk2 => ?_⟩
      obtain ⟨k1, k2, k3, k4, k5, k6, k7⟩ := h3 b o ea k hk1 hk2
      refine ⟨k1, k2, k3, k4, k5, k6, fun t2 r2 o2 hne e2 ea2 => ?_⟩
      by_cases ht2 : t2 = tk
      · subst ht2
        have : r2 = r' := by simp [Gh.setOwn] at e2; exact e2.symm
        subst this
        exact hoth t q b o hi et ea k hk1 hk2 o2 ea2
      · exact k7 t2 r2 o2 hne (by simpa [Gh.setOwn, ht2] using e2) ea2
theorem idx_lt {i n j sz : Nat} (hi : i < n) (hj : j < sz) : i * sz + j < n * sz := by
  have : (i + 1) * sz ≤ n * sz := Nat.mul_le_mul_right _ hi
  rw [Nat.add_mul] at this
  omega
theorem idx_ge {i n j sz : Nat} (hi : n ≤ i) : n * sz ≤ i * sz + j := by
  have : n * sz ≤ i * sz := Nat.mul_le_mul_right _ hi
  omega
theorem getD_append_left {α : Type} (l r : List α) (d : α) {i : Nat} (h : i < l.length) : (l ++ r).getD i d = l.getD i d := by
  simp only [List.getD_eq_getElem?_getD, List.getElem?_append_left h]
theorem getD_append_right {α : Type} (l r : List α) (d : α) {i : Nat} (h : l.length ≤ i) : (l ++ r).getD i d = r.getD (i - l.length) d := by
  simp only [List.getD_eq_getElem?_getD, List.getElem?_append_right h]
theorem nextslicecap_le4 {need old : Nat} (h : old < need) : Builtin.nextslicecap need old ≤ 512 ∨ 4 * Builtin.nextslicecap need old ≤ 5 * need + 768 := by
  have hg' : ∀ (r c : Nat), c ≤ need → 4 * Builtin.growBy need r c ≤ 5 * need + 768 := by
    intro r
    induction r with
    | zero => intro c hc; simp [Builtin.growBy]; omega
    | succ r ih =>
      intro c hc
      simp only [Builtin.growBy]
      split
      · omega
      · by_cases h4 : c + (c + 768) / 4 ≤ need
        · exact ih _ h4
        · cases r with
          | zero => simp [Builtin.growBy]; omega
          | succ r => simp only [Builtin.growBy]; rw [if_pos (by omega)]; omega
  unfold Builtin.nextslicecap
  split
  · right; omega
  · split
    · left; omega
    · right; exact hg' 4 old (by omega)
theorem nextslicecap_le {need old : Nat} (h : old < need) : Builtin.nextslicecap need old ≤ 2 * need := by
  have hg : ∀ (r c : Nat), c ≤ need → Builtin.growBy need r c ≤ 2 * need + 192 := by
    intro r
    induction r with
    | zero => intro c hc; simp [Builtin.growBy]; omega
    | succ r ih =>
      intro c hc
      simp only [Builtin.growBy]
      split
      · omega
      · rename_i h1
        by_cases h2 : c + (c + 768) / 4 ≤ need
        · exact ih _ h2
        · cases r with
          | zero => simp [Builtin.growBy]; omega
          | succ r => simp only [Builtin.growBy]; rw [if_pos (by omega)]; omega
  unfold Builtin.nextslicecap
  split
  · omega
  · split
    · omega
    · rename_i h1 h2
      -- from 256 on: c + (c + 768) / 4 <= 2 c
      have hg' : ∀ (r c : Nat), 256 ≤ c → c ≤ need → Builtin.growBy need r c ≤ 2 * need := by
        intro r
        induction r with
        | zero => intro c _ hc; simp [Builtin.growBy]; omega
        | succ r ih =>
          intro c h3 hc
          simp only [Builtin.growBy]
          split
          · omega
          · by_cases h4 : c + (c + 768) / 4 ≤ need
            · exact ih _ (by omega) h4
            · cases r with
              | zero => simp [Builtin.growBy]; omega
              | succ r => simp only [Builtin.growBy]; rw [if_pos (by omega)]; omega
      exact hg' 4 old (by omega) (by omega)
def roomB (b : Nat) : Nat := if b = 1 then 140737488355328 else if b ≤ 100000 then 220000000000000 else 140737488355328
theorem roomB_ok {need old b : Nat} (h : old < need) (hr : need * b ≤ roomB b) : Builtin.nextslicecap need old * b ≤ 281474976710656 := by
  have two : need * b ≤ 140737488355328 → Builtin.nextslicecap need old * b ≤ 281474976710656 := by
    intro hh
    have h2 : Builtin.nextslicecap need old * b ≤ (2 * need) * b := Nat.mul_le_mul_right _ (nextslicecap_le h)
    rw [Nat.mul_assoc] at h2
    omega
  unfold roomB at hr
  split at hr
  · exact two hr
  · split at hr
    · rename_i hb
      rcases nextslicecap_le4 h with h1 | h1
      · have h2 : Builtin.nextslicecap need old * b ≤ 512 * b := Nat.mul_le_mul_right _ h1
        omega
      · have h2 : 4 * Builtin.nextslicecap need old * b ≤ (5 * need + 768) * b := Nat.mul_le_mul_right _ h1
        rw [Nat.add_mul, Nat.mul_assoc, Nat.mul_assoc] at h2
        omega
    · exact two hr
structure News (P : Program) (G : Gh) (e : TypeId) (xs : List AV) (news : List Value) : Prop where
  len : news.length = xs.length * P.cellsOf e
  el : ∀ i, i < xs.length → (xs.getD i .any).cells.length = P.cellsOf e
  rep : ∀ i j, i < xs.length → j < P.cellsOf e → Rep P G ((xs.getD i .any).cells.getD j .any) (news.getD (i * P.cellsOf e + j) undef)
theorem News.mono {G G' : Gh} {e : TypeId} {xs : List AV} {news : List Value} (h : News P G e xs news) (hle : G.Le G') : News P G' e xs news :=
  ⟨h.len, h.el, fun i j hi hj => (h.rep i j hi hj).mono hle⟩
theorem rep_join {G : Gh} {e : TypeId} {elems xs : List AV} {news : List Value} (vs : Nat → Value)
    (hl : ∀ i, i < elems.length → (elems.getD i .any).cells.length = P.cellsOf e)
    (hr : ∀ i j, i < elems.length → j < P.cellsOf e → Rep P G ((elems.getD i .any).cells.getD j .any) (vs (i * P.cellsOf e + j)))
    (hn : News P G e xs news) :
    (∀ i, i < (elems ++ xs).length → ((elems ++ xs).getD i .any).cells.length = P.cellsOf e) ∧
    (∀ i j, i < (elems ++ xs).length → j < P.cellsOf e → Rep P G (((elems ++ xs).getD i .any).cells.getD j .any)
      ((fun k => if k < elems.length * P.cellsOf e then vs k else news.getD (k - elems.length * P.cellsOf e) undef) (i * P.cellsOf e + j))) := by
  constructor
  · intro i hi
    by_cases h : i < elems.length
    · rw [getD_append_left _ _ _ h]; exact hl i h
    · rw [getD_append_right _ _ _ (by omega)]; exact hn.el _ (by simp at hi; omega)
  · intro i j hi hj
    by_cases h : i < elems.length
    · rw [getD_append_left _ _ _ h]
      simp only
      rw [if_pos (idx_lt h hj)]
      exact hr i j h hj
    · rw [getD_append_right _ _ _ (by omega)]
      simp only
      rw [if_neg (by have := idx_ge (j := j) (sz := P.cellsOf e) (Nat.le_of_not_lt h); omega)]
      have := hn.rep (i - elems.length) j (by simp at hi; omega) hj
      have e1 : i * P.cellsOf e + j - elems.length * P.cellsOf e = (i - elems.length) * P.cellsOf e + j := by
        have h2 : elems.length * P.cellsOf e ≤ i * P.cellsOf e := Nat.mul_le_mul_right _ (by omega)
        rw [Nat.sub_mul]; omega
      rw [e1]
      exact this
theorem Rep.lst' {G : Gh} {e : TypeId} {elems : List AV} {own : Own} {b off cap n : Nat} (vs : Nat → Value) (hn : elems.length = n)
      (hl : ∀ i, i < elems.length → (elems.getD i .any).cells.length = P.cellsOf e)
      (hm : ∀ k, k < n * P.cellsOf e → G.mem b (off + k) = some (vs k))
      (hr : ∀ i j, i < elems.length → j < P.cellsOf e → Rep P G ((elems.getD i .any).cells.getD j .any) (vs (i * P.cellsOf e + j)))
      (hc : n ≤ cap) (ho : OwnOk G own e n (.slice (some ⟨b, off, none⟩) n cap)) : Rep P G (.lst e elems own false) (.slice (some ⟨b, off, none⟩) n cap) := by
  subst hn
  exact .lst vs hl hm hr hc ho
structure ZSrc (P : Program) (i : TypeInfo) (tx : TypeId) (x : Value) (n : Nat) (news : List Value) : Prop where
  kind : ∃ k, P.underlying tx = some (.int k)
  val : ∃ k, x = .int k n
  small : n ≤ 1000000 ∧ i.bytes ≤ 1000
  zero : ∃ z, i.zero = some z ∧ news = (if n * i.size = 0 then [] else (Builtin.zeroCells z.cells n).toList)
  newsLen : news.length = n * i.size
  one : ∀ u ∈ news, u.oneCell' = true
def SrcG (P : Program) (e : TypeId) (tx : TypeId) (x : Value) (n : Nat) (news : List Value) (w : World) : Prop :=
  Src P (P.cellsOf e) tx x n news w ∨ ∃ i, P.info? e = some i ∧ ZSrc P i tx x n news
theorem SrcG.one {e tx : TypeId} {x : Value} {n : Nat} {news : List Value} (h : SrcG P e tx x n news w) : ∀ u ∈ news, u.oneCell' = true := by
  rcases h with h | ⟨_, _, h⟩
  · exact h.one
  · exact h.one
theorem wrap_small {n : Nat} (h : n ≤ 1000000) : IntKind.i64.wrap (n : Int) = n := by
  simp [IntKind.wrap, IntKind.bits, IntKind.signed]; split <;> omega
theorem app_zero {t tx ty e : TypeId} {i : TypeInfo} (ht : P.underlying t = some (.slice e)) (hi : P.info? e = some i) {x : Value} (h : SrcG P e tx x 0 [] w) :
    (Builtin.append_ #[t, tx] ty #[.slice none 0 0, x]).run P w = .ok (.slice none 0 0) w := by
  rcases h with h | ⟨i', hi', h⟩
  · have hsize : i.size = P.cellsOf e := by simp [Program.cellsOf, hi]
    rw [← hsize] at h
    have hl0 : ∀ w', (Builtin.lenOf x).run P w' = .ok 0 w' := h.len
    have hc0 : (Builtin.firstCells i.size 0 x).run P w = .ok #[] w := h.cells
    rcases h.kind with ⟨e', hk⟩ | hk <;> simp [Builtin.append_, run_underlying ht, run_underlying hk, sizeOf, typeInfo, hi, hl0, hc0]
  · rw [hi] at hi'
    obtain rfl := Option.some.inj hi'
    obtain ⟨k, hk⟩ := h.kind
    obtain ⟨k', rfl⟩ := h.val
    have hw := wrap_small (n := 0) (by omega)
    simp only [Int.natCast_zero] at hw
    simp [Builtin.append_, run_underlying ht, run_underlying hk, sizeOf, typeInfo, hi, asInt, asIntOf, hw]
theorem app_room (w : World) (t tx ty e : TypeId) (i : TypeInfo) (ht : P.underlying t = some (.slice e)) (hi : P.info? e = some i) (b off sLen sCap : Nat) (x : Value) (n : Nat) (news : List Value) (hs : SrcG P e tx x n news w)
    (hroom : sLen + n ≤ sCap) (hc : ∀ j, j < news.length → (w.cell? ⟨b, off + sLen * i.size + j, none⟩).isSome = true) (hf : ∀ j, j < news.length → w.frozen? ⟨b, off + sLen * i.size + j, none⟩ = false) :
    (Builtin.append_ #[t, tx] ty #[.slice (some ⟨b, off, none⟩) sLen sCap, x]).run P w = .ok (.slice (some ⟨b, off, none⟩) (sLen + n) sCap) (w.setCells b (off + sLen * i.size) news) := by
  rcases hs with hs | ⟨i', hi', hs⟩
  · have hsize : i.size = P.cellsOf e := by simp [Program.cellsOf, hi]
    rw [← hsize] at hs
    exact run_append_room_src w t tx ty e i ht hi b off sLen sCap x n news hs hroom hc hf
  · rw [hi] at hi'
    obtain rfl := Option.some.inj hi'
    have hst := run_storeCells_cells (P := P) b (off + sLen * i.size) news 0 w (by simpa using hc) (by simpa using hf) hs.one
    simp only [Nat.add_zero] at hst
    obtain ⟨k, hk⟩ := hs.kind
    obtain ⟨k', rfl⟩ := hs.val
    obtain ⟨z, hz, hnews⟩ := hs.zero
    have hw := wrap_small hs.small.1
    have hneg : ¬ ((n : Int) < 0) := by omega
    have hbig : ¬ ((281474976710656 : Int) < (n : Int) * (i.bytes : Int)) := by
      have h1 : n * i.bytes ≤ 1000000 * 1000 := Nat.mul_le_mul hs.small.1 hs.small.2
      have h2 : ((n : Int) * (i.bytes : Int)) = ((n * i.bytes : Nat) : Int) := by push_cast; rfl
      omega
    by_cases h0 : n * i.size = 0
    · rw [if_pos h0] at hnews
      subst hnews
      simp [Builtin.append_, run_underlying ht, run_underlying hk, sizeOf, typeInfo, hi, asInt, asIntOf, hw, hneg, hbig, hroom, h0, Addr.add_lit, hst]
    · rw [if_neg h0] at hnews
      subst hnews
      simp [Builtin.append_, run_underlying ht, run_underlying hk, sizeOf, typeInfo, zeroValue, hz, hi, asInt, asIntOf, hw, hneg, hbig, hroom, h0, Addr.add_lit, hst]
theorem app_grow (w : World) (t tx ty e : TypeId) (i : TypeInfo) (z : Value) (ht : P.underlying t = some (.slice e)) (hi : P.info? e = some i) (hz : i.zero = some z) (base : Option Addr) (sLen sCap : Nat) (olds : List Value)
    (hold : (Builtin.firstCells i.size sLen (.slice base sLen sCap)).run P w.drew = .ok olds.toArray w.drew) (x : Value) (n : Nat) (news : List Value) (hs : SrcG P e tx x n news w)
    (hg : sCap < sLen + n) (h63 : ((sLen + n : Nat) : Int) ≤ 9223372036854775807) (hfit : Builtin.nextslicecap (sLen + n) sCap * i.bytes ≤ 281474976710656) :
    (Builtin.append_ #[t, tx] ty #[.slice base sLen sCap, x]).run P w =
      .ok (.slice (some ⟨w.heap.size, 0, none⟩) (sLen + n) (grownCap w (sLen + n) sCap e))
        (w.drew.alloc (.cells ((olds ++ news).toArray ++ Builtin.zeroCells z.cells (grownCap w (sLen + n) sCap e - (sLen + n))) e)) := by
  rcases hs with hs | ⟨i', hi', hs⟩
  · have hsize : i.size = P.cellsOf e := by simp [Program.cellsOf, hi]
    rw [← hsize] at hs
    exact run_append_grow_src w t tx ty e i z ht hi hz base sLen sCap olds hold x n news hs hg h63 hfit
  · rw [hi] at hi'
    obtain rfl := Option.some.inj hi'
    obtain ⟨k, hk⟩ := hs.kind
    obtain ⟨k', rfl⟩ := hs.val
    obtain ⟨z', hz', hnews⟩ := hs.zero
    rw [hz] at hz'
    obtain rfl := Option.some.inj hz'
    have hw := wrap_small hs.small.1
    have hneg : ¬ ((n : Int) < 0) := by omega
    have hbig : ¬ ((281474976710656 : Int) < (n : Int) * (i.bytes : Int)) := by
      have h1 : n * i.bytes ≤ 1000000 * 1000 := Nat.mul_le_mul hs.small.1 hs.small.2
      have h2 : ((n : Int) * (i.bytes : Int)) = ((n * i.bytes : Nat) : Int) := by push_cast; rfl
      omega
    have hn : ¬ (sLen + n ≤ sCap) := by omega
    have h63' : ¬ (9223372036854775807 < ((sLen : Int) + (n : Int))) := by omega
    have h48' : ¬ (281474976710656 < Builtin.nextslicecap (sLen + n) sCap * i.bytes) := by omega
    by_cases h0 : n * i.size = 0
    · rw [if_pos h0] at hnews
      subst hnews
      simp [Builtin.append_, run_underlying ht, run_underlying hk, sizeOf, typeInfo, zeroValue, hi, hz, asInt, asIntOf, hw, hneg, hbig, hn, h63', h48', h0, Question.forced, hold, newRow, grownCap]
    · rw [if_neg h0] at hnews
      subst hnews
      simp [Builtin.append_, run_underlying ht, run_underlying hk, sizeOf, typeInfo, zeroValue, hi, hz, asInt, asIntOf, hw, hneg, hbig, hn, h63', h48', h0, Question.forced, hold, newRow, grownCap]
      congr 2
      apply Array.ext'
      simp [List.append_assoc]
theorem Inv.append (h : Inv P G σ w) {t tx ty e : TypeId} {i : TypeInfo} {z : Value} (ht : P.underlying t = some (.slice e)) (hi : P.info? e = some i) (hz : i.zero = some z) (hzs : z.cells.size = P.cellsOf e) (hsz : 0 < P.cellsOf e)
    {tk : Nat} {elems : List AV} {nil : Bool} {v x : Value} (hv : Rep P G (.lst e elems (.tok tk) nil) v) (htk : σ tk = some (.tok elems.length))
    {xs : List AV} {news : List Value} (hsrc : SrcG P e tx x xs.length news w) (hn : News P G e xs news)
    (hroom : (elems.length + xs.length) * P.bytesOf e ≤ roomB (P.bytesOf e)) (hmax : elems.length + xs.length ≤ 140737488355328) :
    ∃ v' w' G', (Builtin.append_ #[t, tx] ty #[v, x]).run P w = .ok v' w' ∧ G.Le G' ∧ Inv P G' (σ.set tk (.tok (elems.length + xs.length))) w' ∧
      Rep P G' (.lst e (elems ++ xs) (.tok tk) (nil && xs.isEmpty)) v' := by
  have hsize : i.size = P.cellsOf e := by simp [Program.cellsOf, hi]
  have hbytes : i.bytes = P.bytesOf e := by simp [Program.bytesOf, hi]
  have h63 : ((elems.length + xs.length : Nat) : Int) ≤ 9223372036854775807 := by omega
  have hcapfit : ∀ old, old < elems.length + xs.length → Builtin.nextslicecap (elems.length + xs.length) old * i.bytes ≤ 281474976710656 := by
    intro old ho
    rw [hbytes]
    exact roomB_ok ho hroom
  -- what the slice is
  have hval : ∃ (a : Option (Nat × Nat)) (cap : Nat) (vs : Nat → Value), v = .slice (a.map fun p => ⟨p.1, p.2, none⟩) elems.length cap ∧ (a = none → elems = [] ∧ cap = 0) ∧ (nil = true ↔ a = none) ∧
      (∀ i, i < elems.length → (elems.getD i .any).cells.length = P.cellsOf e) ∧
      (∀ b off, a = some (b, off) → ∀ k, k < elems.length * P.cellsOf e → G.mem b (off + k) = some (vs k)) ∧
      (∀ i j, i < elems.length → j < P.cellsOf e → Rep P G ((elems.getD i .any).cells.getD j .any) (vs (i * P.cellsOf e + j))) ∧
      elems.length ≤ cap ∧ OwnOk G (.tok tk) e elems.length v := by
    cases hv with
    | lstN ho => exact ⟨none, 0, fun _ => undef, rfl, fun _ => ⟨rfl, rfl⟩, (by simp), (fun i hi => (by simp at hi)), (fun _ _ hh => (by cases hh)), (fun i j hi => (by simp at hi)), Nat.le_refl _, ho⟩
    | lst vs hl hm hr hc ho => exact ⟨some (_, _), _, vs, rfl, (fun hh => (by cases hh)), (by simp), hl, (fun b off hh k hk => (by cases hh; exact hm k hk)), hr, hc, ho⟩
  obtain ⟨a, cap, vs, rfl, hnone, hnil, hl, hm, hr, hc, r, hr1, hr2, hr3, hr4⟩ := hval
  obtain ⟨r', hr5, hr6⟩ := h.tok tk _ htk
  rw [hr1] at hr5
  obtain rfl := Option.some.inj hr5
  have hrv := hr4 hr6.symm
  have hrv' : r.a = a ∧ r.cap = cap := by
    simp only [OR.val, Value.slice.injEq] at hrv
    refine ⟨?_, hrv.2.2⟩
    have := hrv.1
    cases ha : r.a <;> cases hb : a <;> simp [ha, hb] at this
    · rfl
    · rename_i p q; obtain ⟨e1, e2⟩ := this; congr 1; exact Prod.ext e1 e2
  obtain ⟨hown1, hown2, hown3⟩ := h.own tk r hr1
  rw [hrv'.1, hrv'.2, hr6, hr2] at hown3
  -- the new elements
  by_cases hfit : elems.length + xs.length ≤ cap
  · -- there is room
    cases ha : a with
    | none =>
      obtain ⟨h1, h2⟩ := hnone ha
      have hx0 : xs = [] := by have : xs.length = 0 := by omega
                               exact List.length_eq_zero_iff.1 this
      subst h1 h2 hx0
      have hn0 : news = [] := by have := hn.len; simp at this; exact this
      subst hn0
      have hrun : (Builtin.append_ #[t, tx] ty #[.slice none 0 0, x]).run P w = .ok (.slice none 0 0) w := app_zero ht hi hsrc
      refine ⟨_, _, G, hrun, .refl G, ?_, ?_⟩
      · have : σ.set tk (.tok 0) = σ := AS.set_id _ _ _ (by simpa using htk)
        simpa [this] using h
      · have : nil = true := hnil.2 ha
        subst this
        exact .lstN ⟨r, hr1, hr2, by omega, fun _ => by rw [hrv]; simp [ha]⟩
    | some p =>
      obtain ⟨b, off⟩ := p
      subst ha
      have hlen2 : news.length = xs.length * P.cellsOf e := hn.len
      have hreg : ∀ j, j < news.length → elems.length * P.cellsOf e + j < cap * P.cellsOf e := by
        intro j hj
        have : (elems.length + xs.length) * P.cellsOf e ≤ cap * P.cellsOf e := Nat.mul_le_mul_right _ hfit
        rw [Nat.add_mul] at this
        omega
      have hrun := app_room (P := P) w t tx ty e i ht hi b off elems.length cap x xs.length news hsrc hfit
        (fun j hj => by
          have := (hown3 b off rfl (elems.length * P.cellsOf e + j) (by omega) (hreg j hj)).1
          rw [hsize, Nat.add_assoc]; exact this)
        (fun j hj => by
          have := (hown3 b off rfl (elems.length * P.cellsOf e + j) (by omega) (hreg j hj)).2.1
          rw [hsize, Nat.add_assoc]; exact this)
      rw [hsize] at hrun
      have hnilf : nil = false := by
        cases nil with
        | false => rfl
        | true => have := hnil.1 rfl; cases this
      subst hnilf
      by_cases hx0 : xs = []
      · subst hx0
        have hn0 : news = [] := by have := hn.len; simp at this; exact this
        subst hn0
        refine ⟨_, _, G, hrun, .refl G, ?_, ?_⟩
        · have : σ.set tk (.tok (elems.length + 0)) = σ := AS.set_id _ _ _ (by simpa using htk)
          show Inv P G (σ.set tk (.tok (elems.length + 0))) w
          rw [this]; exact h
        · simp only [List.append_nil, List.length_nil, Nat.add_zero, Bool.false_and]
          exact .lst vs hl (hm b off rfl) hr hc ⟨r, hr1, hr2, by omega, fun _ => hrv⟩
      · have hxpos : 0 < xs.length := List.length_pos_iff.2 hx0
        have hnpos : 0 < news.length := by rw [hlen2]; exact Nat.mul_pos hxpos hsz
        obtain ⟨_, _, _, hinjb, hBb, hbw, huniq⟩ := hown3 b off rfl (elems.length * P.cellsOf e) (Nat.le_refl _) (by have := hreg 0 hnpos; omega)
        let G' := G.grow tk ⟨some (b, off), elems.length + xs.length, cap, e⟩ b (off + elems.length * P.cellsOf e) news.length (fun k => news.getD k undef)
        have hmemfree : ∀ k, elems.length * P.cellsOf e ≤ k → k < cap * P.cellsOf e → G.mem b (off + k) = none := fun k h1 h2 => (hown3 b off rfl k h1 h2).2.2.1
        have hle : G.Le G' := by
          refine ⟨rfl, rfl, fun b' o v em => ?_, fun _ _ hh => hh, fun t' r' et => ?_⟩
          · show (if b' = b ∧ off + elems.length * P.cellsOf e ≤ o ∧ o < off + elems.length * P.cellsOf e + news.length then _ else G.mem b' o) = some v
            rw [if_neg]
            · exact em
            · rintro ⟨rfl, h1, h2⟩
              have := hmemfree (o - off) (by omega) (by have := hreg (o - off - elems.length * P.cellsOf e) (by omega); omega)
              rw [show off + (o - off) = o by omega, em] at this
              cases this
          · by_cases htt : t' = tk
            · subst htt
              rw [hr1] at et
              obtain rfl := Option.some.inj et
              exact ⟨⟨some (b, off), elems.length + xs.length, cap, e⟩, by simp [G', Gh.grow], hr2.symm, .inr (by simp; omega)⟩
            · exact ⟨r', by simp [G', Gh.grow, htt, et], rfl, .inl rfl⟩
        have hother := heap_setCells_other b news w (off + elems.length * P.cellsOf e)
        have hcellout : ∀ c o, (c = b → o < off + elems.length * P.cellsOf e ∨ off + elems.length * P.cellsOf e + news.length ≤ o) → (w.setCells b (off + elems.length * P.cellsOf e) news).cell? ⟨c, o, none⟩ = w.cell? ⟨c, o, none⟩ :=
          fun c o hco => World.cell?_setCells_out b news _ w ⟨c, o, none⟩ (fun hb _ => hco hb)
        refine ⟨_, _, G', hrun, hle, ?_, ?_⟩
        · refine ⟨below_setCells b news w _ h.below hBb, h.base, ?_, ?_, ?_, h.inj1, ?_, ?_, ?_, ?_, ?_⟩
          · intro b' o v em
            by_cases hc' : b' = b ∧ off + elems.length * P.cellsOf e ≤ o ∧ o < off + elems.length * P.cellsOf e + news.length
            · have em' : some (news.getD (o - (off + elems.length * P.cellsOf e)) undef) = some v := by
                have : G'.mem b' o = some (news.getD (o - (off + elems.length * P.cellsOf e)) undef) := if_pos hc'
                rw [← this]; exact em
              obtain rfl := Option.some.inj em'
              obtain ⟨rfl, h1, h2⟩ := hc'
              have hin := World.cell?_setCells_in b' news (off + elems.length * P.cellsOf e) w (fun j hj => by
                have := (hown3 b' off rfl (elems.length * P.cellsOf e + j) (by omega) (hreg j hj)).1
                rw [Nat.add_assoc]; exact this) (o - (off + elems.length * P.cellsOf e)) (by omega)
              rw [show off + elems.length * P.cellsOf e + (o - (off + elems.length * P.cellsOf e)) = o by omega] at hin
              have eg : news.getD (o - (off + elems.length * P.cellsOf e)) undef = news[o - (off + elems.length * P.cellsOf e)]'(by omega) := by
                simp [List.getD_eq_getElem?_getD, List.getElem?_eq_getElem (show o - (off + elems.length * P.cellsOf e) < news.length by omega)]
              rw [eg]
              exact ⟨hin, hsrc.one _ (List.getElem_mem _)⟩
            · have em' : G.mem b' o = some v := by
                have : G'.mem b' o = G.mem b' o := if_neg hc'
                rw [← this]; exact em
              refine ⟨?_, (h.mem b' o v em').2⟩
              rw [hcellout b' o (fun hb => by subst hb; omega)]
              exact (h.mem b' o v em').1
          · intro j hj
            have := h.top j hj
            have hne : j ≠ tk := by intro e'; subst e'; rw [hr1] at this; cases this.2
            exact ⟨this.1, by simp [G', Gh.grow, hne, this.2]⟩
          · intro j c ej
            have := h.injB j c ej
            refine ⟨this.1, by rw [size_setCells]; exact this.2.1, fun ty' cs' hn o => ?_⟩
            have hcb : c ≠ b := fun e' => hinjb j (e' ▸ ej)
            show (if c = b ∧ _ then _ else G.mem c o) = none
            rw [if_neg (fun hh => hcb hh.1)]
            exact this.2.2 ty' cs' (by
              by_cases hj : j = tk
              · subst hj; simp [AS.set] at hn
              · simpa [AS.set, hj] using hn) o
          · intro j ty' cs ej
            have hjt : j ≠ tk := by intro e'; subst e'; simp [AS.set] at ej
            simp [AS.set, hjt] at ej
            obtain ⟨c, vs', k1, k2, k3, k4⟩ := h.cells j ty' cs ej
            have hcb : c ≠ b := fun e' => hinjb j (e' ▸ k1)
            exact ⟨c, vs', k1, by rw [hother c hcb]; exact k2, k3, fun k hk => ⟨(k4 k hk).1.mono hle, (k4 k hk).2⟩⟩
          · intro j es ej
            have hjt : j ≠ tk := by intro e'; subst e'; simp [AS.set] at ej
            simp [AS.set, hjt] at ej
            obtain ⟨c, ms, cl, k1, k2, k3, k4⟩ := h.maps j es ej
            have hcb : c ≠ b := fun e' => hinjb j (e' ▸ k1)
            refine ⟨c, ms, cl, k1, by rw [hother c hcb]; exact k2, k3, fun k hk => ?_⟩
            obtain ⟨m, m1, m2, m3⟩ := k4 k hk
            exact ⟨m, m1, m2.mono hle, m3.mono hle⟩
          · intro j s p ej
            have hjt : j ≠ tk := by intro e'; subst e'; simp [AS.set] at ej; subst ej; cases p
            simp [AS.set, hjt] at ej
            obtain ⟨c, k1, k2⟩ := h.iters j s p ej
            have hcb : c ≠ b := fun e' => hinjb j (e' ▸ k1)
            exact ⟨c, k1, k2.keep (fun _ _ h => h) (fun o ho => by rw [hother c hcb]; exact ho) (fun m ms cl hmm => by rw [hother m (fun e => by subst e; have q := (hown3 _ off rfl (elems.length * P.cellsOf _ + 0) (by omega) (hreg 0 hnpos)).1; simp [World.cell?, hmm] at q)]; exact hmm)⟩
          · intro j m ej
            by_cases hjt : j = tk
            · subst hjt
              simp [AS.set] at ej
              exact ⟨⟨some (b, off), elems.length + xs.length, cap, e⟩, by simp [G', Gh.grow], ej⟩
            · simp [AS.set, hjt] at ej
              obtain ⟨r', k1, k2⟩ := h.tok j m ej
              exact ⟨r', by simp [G', Gh.grow, hjt, k1], k2⟩
          · intro t' r' et
            by_cases htt : t' = tk
            · subst htt
              have : r' = ⟨some (b, off), elems.length + xs.length, cap, e⟩ := by simp [G', Gh.grow] at et; exact et.symm
              subst this
              refine ⟨hfit, fun hh => (by cases hh), fun c o ea k hk1 hk2 => ?_⟩
              cases ea
              simp only at hk1 hk2
              have hk1' : elems.length * P.cellsOf e + news.length ≤ k := by rw [hlen2, ← Nat.add_mul]; exact hk1
              obtain ⟨q1, q2, q3, q4, q5, q6, q7⟩ := hown3 b off rfl k (by omega) hk2
              refine ⟨?_, ?_, ?_, q4, q5, by rw [size_setCells]; exact q6, fun t2 r2 o2 hne2 et2 ea2 => ?_⟩
              · rw [hcellout b _ (fun _ => by omega)]; exact q1
              · rw [World.frozen?_setCells]; exact q2
              · show (if b = b ∧ _ then _ else G.mem b (off + k)) = none
                rw [if_neg (by omega)]; exact q3
              · simp [G', Gh.grow, hne2] at et2
                exact q7 t2 r2 o2 hne2 et2 ea2
            · simp [G', Gh.grow, htt] at et
              obtain ⟨k1, k2, k3⟩ := h.own t' r' et
              refine ⟨k1, k2, fun c o ea k hk1 hk2 => ?_⟩
              obtain ⟨q1, q2, q3, q4, q5, q6, q7⟩ := k3 c o ea k hk1 hk2
              have hcb : c ≠ b := by
                intro e'
                subst e'
                have := q7 tk r off (fun h => htt h.symm) hr1 (by rw [hrv'.1])
                rw [hrv'.2, hr6, hr2] at this
                have := hreg 0 hnpos
                omega
              refine ⟨?_, ?_, ?_, q4, q5, by rw [size_setCells]; exact q6, fun t2 r2 o2 hne2 et2 ea2 => ?_⟩
              · rw [hcellout c _ (fun hb => absurd hb hcb)]; exact q1
              · rw [World.frozen?_setCells]; exact q2
              · show (if c = b ∧ _ then _ else G.mem c (o + k)) = none
                rw [if_neg (fun hh => hcb hh.1)]; exact q3
              · by_cases ht2 : t2 = tk
                · subst ht2
                  simp [G', Gh.grow] at et2
                  subst et2
                  simp only [Option.some.injEq, Prod.mk.injEq] at ea2
                  exact absurd ea2.1.symm hcb
                · simp [G', Gh.grow, ht2] at et2
                  exact q7 t2 r2 o2 hne2 et2 ea2
        · have hj := rep_join (P := P) (G := G') (e := e) vs hl (fun i j h1 h2 => (hr i j h1 h2).mono hle) (hn.mono hle)
          have hx1 : xs.isEmpty = false := by simp [hx0]
          rw [Bool.false_and]
          have hlen3 : (elems ++ xs).length = elems.length + xs.length := List.length_append
          rw [← hlen3]
          refine .lst (fun k => if k < elems.length * P.cellsOf e then vs k else news.getD (k - elems.length * P.cellsOf e) undef) hj.1 (fun k hk => ?_) hj.2 (by omega) ⟨⟨some (b, off), elems.length + xs.length, cap, e⟩, by simp [G', Gh.grow], rfl, by simp, fun _ => by simp [OR.val]⟩
          rw [hlen3, Nat.add_mul, ← hlen2] at hk
          show (if b = b ∧ _ then _ else G.mem b (off + k)) = _
          by_cases hk2 : k < elems.length * P.cellsOf e
          · rw [if_neg (by omega), if_pos hk2]; exact hm b off rfl k hk2
          · rw [if_pos (by omega), if_neg hk2]
            congr 2; omega
  · -- a new row
    have hx1 : xs.isEmpty = false := by
      cases xs with
      | nil => simp at hfit; omega
      | cons _ _ => rfl
    let olds := (List.range (elems.length * P.cellsOf e)).map vs
    have hlo : olds.length = elems.length * P.cellsOf e := by simp [olds]
    have hold : (Builtin.firstCells i.size elems.length (.slice (a.map fun p => ⟨p.1, p.2, none⟩) elems.length cap)).run P w.drew = .ok olds.toArray w.drew := by
      cases ha : a with
      | none =>
        obtain ⟨h1, h2⟩ := hnone ha
        subst h1 h2
        simp [olds, Builtin.firstCells]
      | some p =>
        obtain ⟨b, off⟩ := p
        subst ha
        refine run_firstCells_some (P := P) w.drew i.size elems.length ⟨b, off, none⟩ elems.length cap olds (by rw [hsize]; exact hlo) (fun j u hu => ?_)
        have hj : j < elems.length * P.cellsOf e := by
          rcases Nat.lt_or_ge j (elems.length * P.cellsOf e) with h1 | h1
          · exact h1
          · rw [List.getElem?_eq_none (by rw [hlo]; exact h1)] at hu; cases hu
        have : u = vs j := by
          have : olds[j]? = some (vs j) := by simp [olds, hj]
          rw [this] at hu
          exact (Option.some.inj hu).symm
        subst this
        rw [Addr.add_lit]
        exact (h.mem b (off + j) (vs j) (hm b off rfl j hj)).1
    have hrun := app_grow (P := P) w t tx ty e i z ht hi hz (a.map fun p => ⟨p.1, p.2, none⟩) elems.length cap olds hold x xs.length news hsrc (by omega) h63 (hcapfit cap (by omega))
    have hcapge := grownCap_ge w (elems.length + xs.length) cap e
    let nv : Nat → Value := fun k => if k < elems.length * P.cellsOf e then vs k else news.getD (k - elems.length * P.cellsOf e) undef
    let nc := grownCap w (elems.length + xs.length) cap e
    let row : Array Value := (olds ++ news).toArray ++ Builtin.zeroCells z.cells (nc - (elems.length + xs.length))
    have hlon : (olds ++ news).length = (elems.length + xs.length) * P.cellsOf e := by rw [List.length_append, hlo, hn.len, Nat.add_mul]
    have hnv : ∀ k, k < (elems.length + xs.length) * P.cellsOf e → (olds ++ news)[k]? = some (nv k) := by
      intro k hk
      by_cases h1 : k < elems.length * P.cellsOf e
      · rw [List.getElem?_append_left (by rw [hlo]; exact h1)]
        simp [olds, nv, h1]
      · rw [List.getElem?_append_right (by rw [hlo]; omega), hlo]
        have : k - elems.length * P.cellsOf e < news.length := by rw [hn.len]; rw [Nat.add_mul] at hk; omega
        simp [nv, h1, List.getD_eq_getElem?_getD, List.getElem?_eq_getElem this]
    have hrowget : ∀ k, k < (elems.length + xs.length) * P.cellsOf e → row[k]? = some (nv k) ∧ (nv k).oneCell' = true := by
      intro k hk
      constructor
      · show ((olds ++ news).toArray ++ _)[k]? = _
        rw [Array.getElem?_append_left (by rw [List.size_toArray, hlon]; exact hk), List.getElem?_toArray]
        exact hnv k hk
      · by_cases h1 : k < elems.length * P.cellsOf e
        · simp only [nv, if_pos h1]
          cases ha : a with
          | none => obtain ⟨h2, _⟩ := hnone ha; subst h2; simp at h1
          | some p => obtain ⟨b, off⟩ := p; exact (h.mem b (off + k) (vs k) (hm b off ha k h1)).2
        · simp only [nv, if_neg h1]
          have : k - elems.length * P.cellsOf e < news.length := by rw [hn.len]; rw [Nat.add_mul] at hk; omega
          rw [List.getD_eq_getElem?_getD, List.getElem?_eq_getElem this]
          exact hsrc.one _ (List.getElem_mem _)
    have hrows : (elems.length + xs.length) * P.cellsOf e ≤ row.size := by
      show _ ≤ (((olds ++ news).toArray ++ _ : Array Value)).size
      rw [Array.size_append, List.size_toArray, hlon]; omega
    have hrows2 : row.size = nc * P.cellsOf e := by
      show (((olds ++ news).toArray ++ _ : Array Value)).size = _
      rw [Array.size_append, List.size_toArray, hlon, size_zeroCells, hzs, ← Nat.add_mul]
      congr 1
      show _ + (grownCap w (elems.length + xs.length) cap e - _) = grownCap w (elems.length + xs.length) cap e
      omega
    obtain ⟨hle1, hinv1⟩ : G.Le (G.keep w.heap.size 0 ((elems.length + xs.length) * P.cellsOf e) nv) ∧ Inv P (G.keep w.heap.size 0 ((elems.length + xs.length) * P.cellsOf e) nv) σ (w.drew.alloc (.cells row e)) :=
      h.drew.keepNew e row ((elems.length + xs.length) * P.cellsOf e) nv hrows hrowget
    have hxpos : 0 < xs.length := by
      cases xs with
      | nil => simp at hx1
      | cons _ _ => simp
    obtain ⟨hle2, hinv2⟩ := hinv1.setOwn tk ⟨some (w.heap.size, 0), elems.length + xs.length, nc, e⟩ r hr1 hr2.symm (.inr (by simp; omega)) hcapge (fun hh => by cases hh)
      (fun b o ea k hk1 hk2 => by
        cases ea
        simp only [Nat.zero_add] at hk1 hk2 ⊢
        have hkr : k < row.size := by rw [hrows2]; exact hk2
        refine ⟨?_, ?_, ?_, ?_, h.Bsize, by simp, ?_⟩
        · simp only [World.cell?, show w.heap.size = w.drew.heap.size from rfl, heap_alloc_new]
          simp [hkr]
        · simp only [World.frozen?, show w.heap.size = w.drew.heap.size from rfl, heap_alloc_new]
          simp
        · rw [Gh.keep_out (by omega)]
          cases hm2 : G.mem w.heap.size k with
          | none => rfl
          | some v => have := h.memlt hm2; omega
        · intro j ej
          have := (h.injB j _ ej).2.1
          omega
        · intro t' r' o' hne et ea2
          obtain ⟨q1, q2, q3⟩ := h.own t' r' et
          rcases Nat.lt_or_ge (r'.len * P.cellsOf r'.ety) (r'.cap * P.cellsOf r'.ety) with hlt | hge
          · have := (q3 _ _ ea2 _ (Nat.le_refl _) hlt).2.2.2.2.2.1
            omega
          · exact hge)
      (fun t2 r2 b2 o2 hne et ea k hk1 hk2 o' ea2 => by
        cases ea2
        have := ((h.own t2 r2 et).2.2 _ _ ea k hk1 hk2).2.2.2.2.2.1
        omega)
    refine ⟨_, _, _, hrun, hle1.trans hle2, hinv2, ?_⟩
    have hle := hle1.trans hle2
    have hj := rep_join (P := P) (G := _) (e := e) vs hl (fun i j h1 h2 => (hr i j h1 h2).mono hle) (hn.mono hle)
    rw [hx1, Bool.and_false]
    have hlen3 : (elems ++ xs).length = elems.length + xs.length := List.length_append
    refine Rep.lst' nv hlen3 hj.1 (fun k hk => ?_) hj.2 hcapge
      ⟨⟨some (w.heap.size, 0), elems.length + xs.length, nc, e⟩, by simp [Gh.setOwn], rfl, by simp, fun _ => by simp [OR.val, nc]⟩
    refine hle2.mem _ _ _ ?_
    rw [Gh.keep_in (by omega) (by omega)]
    simp
end Go.AW
