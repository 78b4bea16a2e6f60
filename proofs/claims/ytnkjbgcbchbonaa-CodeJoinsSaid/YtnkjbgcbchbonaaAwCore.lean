/- A layer of abstract values over the model's machine: own work for this claim, part AwCore. -/
/-
  The layer AW: abstract values (slices as plain lists), an abstract heap, and what it means that a world bears them.
-/
import Derived.WalkKit
import Derived.Deep.AppendSrc
import Derived.Defers
set_option linter.unusedSimpArgs false
set_option linter.unusedVariables false
namespace Go.AW
open Go Go.RowKit

/-- Who may append to a slice: nobody knows; it has no room; the owner of token t, while the token's length is the slice's. -/
inductive Own where
  | unk | full | tok (t : Nat)

inductive AV where
  | any
  | sc (v : Value)
  | ptr (id off : Nat)
  | cptr (cells : List AV)
  | nilS
  | lst (e : TypeId) (elems : List AV) (own : Own) (nil : Bool)
  | msl (id off len cap : Nat)
  | mp (id : Nat)
  | fn (f : Fn) (first captured : List AV)
  | ifc (t : TypeId) (v : AV)
  | agg (cells : List AV)
  | tup (vs : List AV)

instance : Inhabited AV := ⟨.any⟩

/-- The cells of a value that is laid in memory. -/
def AV.cells : AV → List AV
  | .agg cs => cs
  | v => [v]

/-- A value whose cells are known to be as many as the value's own. -/
def AV.okc : AV → Bool
  | .any | .tup _ => false
  | .sc (.agg _) | .sc (.tuple _) => false
  | _ => true

/-- A value of one cell. -/
def AV.one : AV → Bool
  | .any | .tup _ | .agg _ => false
  | .sc (.agg _) | .sc (.tuple _) => false
  | _ => true

inductive ABlk where
  | cells (ty : TypeId) (cs : List AV)
  | tok (len : Nat)
  | map (es : List (AV × AV))
  | siter (s : ByteArray) (pos : Nat)
  | miter (mid n0 : Nat) (done : List Nat)

/-- A block that is an iterator's. -/
def ABlk.isIter : ABlk → Bool
  | .siter _ _ | .miter _ _ _ => true
  | _ => false

abbrev AS := Nat → Option ABlk
def AS.set (σ : AS) (i : Nat) (b : ABlk) : AS := fun j => if j = i then some b else σ j
def AS.le (σ0 σ : AS) : Prop := ∀ i b, σ0 i = some b → σ i = some b

theorem AS.le_refl (σ : AS) : AS.le σ σ := fun _ _ h => h
theorem AS.le_trans {a b c : AS} (h : AS.le a b) (k : AS.le b c) : AS.le a c := fun i x e => k i x (h i x e)
theorem AS.le_set {σ0 σ : AS} {i : Nat} {b : ABlk} (h : AS.le σ0 σ) (hi : σ0 i = none) : AS.le σ0 (σ.set i b) := by
  intro j x e
  by_cases hj : j = i
  · subst hj; rw [hi] at e; cases e
  · simp only [AS.set, hj, if_false]; exact h j x e
@[simp] theorem AS.set_same (σ : AS) (i : Nat) (b : ABlk) : (σ.set i b) i = some b := by simp [AS.set]
theorem AS.set_ne (σ : AS) {i j : Nat} (b : ABlk) (h : j ≠ i) : (σ.set i b) j = σ j := by simp [AS.set, h]
@[simp] theorem AS.set_set (σ : AS) (i : Nat) (b c : ABlk) : (σ.set i b).set i c = σ.set i c := by
  funext j; by_cases h : j = i <;> simp [AS.set, h]
theorem AS.set_id (σ : AS) (i : Nat) (b : ABlk) (h : σ i = some b) : σ.set i b = σ := by
  funext j; by_cases e : j = i
  · subst e; simp [AS.set, h]
  · simp [AS.set, e]

/-- What a token owns: where its slice begins, how much of it is used, how much there is. -/
structure OR where
  a : Option (Nat × Nat)
  len : Nat
  cap : Nat
  ety : TypeId

def OR.val (r : OR) : Value := .slice (r.a.map fun p => ⟨p.1, p.2, none⟩) r.len r.cap

/-- The ghost: memory that stays as it is; where abstract blocks lie; what tokens own. -/
structure Gh where
  W0 : World
  B : Nat
  mem : Nat → Nat → Option Value
  inj : Nat → Option Nat
  own : Nat → Option OR
  top : Nat

structure Gh.Le (G G' : Gh) : Prop where
  W0 : G'.W0 = G.W0
  B : G'.B = G.B
  mem : ∀ b o v, G.mem b o = some v → G'.mem b o = some v
  inj : ∀ i b, G.inj i = some b → G'.inj i = some b
  own : ∀ t r, G.own t = some r → ∃ r', G'.own t = some r' ∧ r'.ety = r.ety ∧ (r' = r ∨ r.len < r'.len)

theorem Gh.Le.refl (G : Gh) : G.Le G := ⟨rfl, rfl, fun _ _ _ h => h, fun _ _ h => h, fun _ r h => ⟨r, h, rfl, .inl rfl⟩⟩
theorem Gh.Le.trans {A B C : Gh} (h : A.Le B) (k : B.Le C) : A.Le C where
  W0 := k.W0.trans h.W0
  B := k.B.trans h.B
  mem b o v e := k.mem b o v (h.mem b o v e)
  inj i b e := k.inj i b (h.inj i b e)
  own t r e := by
    obtain ⟨r1, h1, h2, h3⟩ := h.own t r e
    obtain ⟨r2, k1, k2, k3⟩ := k.own t r1 h1
    refine ⟨r2, k1, k2.trans h2, ?_⟩
    rcases h3 with rfl | h3
    · exact k3
    · rcases k3 with rfl | k3
      · exact .inr h3
      · exact .inr (Nat.lt_trans h3 k3)

def OwnOk (G : Gh) (own : Own) (e : TypeId) (n : Nat) (v : Value) : Prop :=
  match own with
  | .unk => True
  | .full => ∃ a, v = .slice a n n
  | .tok t => ∃ r, G.own t = some r ∧ r.ety = e ∧ n ≤ r.len ∧ (n = r.len → r.val = v)

theorem OwnOk.mono {G G' : Gh} (hle : G.Le G') {own : Own} {e : TypeId} {n : Nat} {v : Value} (h : OwnOk G own e n v) : OwnOk G' own e n v := by
  cases own with
  | unk => trivial
  | full => exact h
  | tok t =>
    obtain ⟨r, h1, h2, h3, h4⟩ := h
    obtain ⟨r', k1, k2, k3⟩ := hle.own t r h1
    rcases k3 with rfl | k3
    · exact ⟨r', k1, h2, h3, h4⟩
    · exact ⟨r', k1, k2.trans h2, by omega, by omega⟩

/-- The world bears the value v as the abstract value says. -/
inductive Rep (P : Program) (G : Gh) : AV → Value → Prop
  | any (v : Value) : Rep P G .any v
  | sc (v : Value) : Rep P G (.sc v) v
  | ptr {id off b : Nat} (h : G.inj id = some b) : Rep P G (.ptr id off) (.pointer (some ⟨b, off, none⟩))
  | cptr {cells : List AV} {b off : Nat} (vs : Nat → Value) (hm : ∀ i, i < cells.length → G.mem b (off + i) = some (vs i))
      (hr : ∀ i, i < cells.length → Rep P G (cells.getD i .any) (vs i)) : Rep P G (.cptr cells) (.pointer (some ⟨b, off, none⟩))
  | nilS : Rep P G .nilS (.slice none 0 0)
  | lstN {e : TypeId} {own : Own} (ho : OwnOk G own e 0 (.slice none 0 0)) : Rep P G (.lst e [] own true) (.slice none 0 0)
  | lst {e : TypeId} {elems : List AV} {own : Own} {b off cap : Nat} (vs : Nat → Value)
      (hl : ∀ i, i < elems.length → (elems.getD i .any).cells.length = P.cellsOf e)
      (hm : ∀ k, k < elems.length * P.cellsOf e → G.mem b (off + k) = some (vs k))
      (hr : ∀ i j, i < elems.length → j < P.cellsOf e → Rep P G ((elems.getD i .any).cells.getD j .any) (vs (i * P.cellsOf e + j)))
      (hc : elems.length ≤ cap)
      (ho : OwnOk G own e elems.length (.slice (some ⟨b, off, none⟩) elems.length cap)) :
      Rep P G (.lst e elems own false) (.slice (some ⟨b, off, none⟩) elems.length cap)
  | lstZ {e : TypeId} {a : Addr} {cap : Nat} : Rep P G (.lst e [] .unk false) (.slice (some a) 0 cap)
  | msl {id off len cap b : Nat} (h : G.inj id = some b) : Rep P G (.msl id off len cap) (.slice (some ⟨b, off, none⟩) len cap)
  | mp {id b : Nat} (h : G.inj id = some b) : Rep P G (.mp id) (.map (some b))
  | fn {f : Fn} {first captured : List AV} (vf vc : List Value) (lf : vf.length = first.length) (lc : vc.length = captured.length)
      (hf : ∀ i, i < first.length → Rep P G (first.getD i .any) (vf.getD i undef)) (hc : ∀ i, i < captured.length → Rep P G (captured.getD i .any) (vc.getD i undef)) :
      Rep P G (.fn f first captured) (.func f vf.toArray vc.toArray)
  | ifc {t : TypeId} {v : AV} {x : Value} (h : Rep P G v x) : Rep P G (.ifc t v) (.iface t x)
  | agg {cells : List AV} (vs : List Value) (l : vs.length = cells.length) (h : ∀ i, i < cells.length → Rep P G (cells.getD i .any) (vs.getD i undef)) : Rep P G (.agg cells) (.agg vs.toArray)
  | tup {cells : List AV} (vs : List Value) (l : vs.length = cells.length) (h : ∀ i, i < cells.length → Rep P G (cells.getD i .any) (vs.getD i undef)) : Rep P G (.tup cells) (.tuple vs.toArray)

theorem Rep.mono {P : Program} {G G' : Gh} (hle : G.Le G') {a : AV} {v : Value} (h : Rep P G a v) : Rep P G' a v := by
  induction h with
  | any v => exact .any v
  | sc v => exact .sc v
  | ptr h => exact .ptr (hle.inj _ _ h)
  | cptr vs hm _ ih => exact .cptr vs (fun i hi => hle.mem _ _ _ (hm i hi)) ih
  | nilS => exact .nilS
  | lstN ho => exact .lstN (ho.mono hle)
  | lst vs hl hm _ hc ho ih => exact .lst vs hl (fun k hk => hle.mem _ _ _ (hm k hk)) ih hc (ho.mono hle)
  | lstZ => exact .lstZ
  | msl h => exact .msl (hle.inj _ _ h)
  | mp h => exact .mp (hle.inj _ _ h)
  | fn vf vc lf lc _ _ i1 i2 => exact .fn vf vc lf lc i1 i2
  | ifc _ ih => exact .ifc ih
  | agg vs l _ ih => exact .agg vs l ih
  | tup vs l _ ih => exact .tup vs l ih

/-- A map's entries: when they were put in. -/
def StampB (ms : Array MapEntry) (clock : Nat) : Prop :=
  (∀ (k : Nat) (e : MapEntry), ms[k]? = some e → e.born < clock) ∧ (∀ (k k' : Nat) (e e' : MapEntry), ms[k]? = some e → ms[k']? = some e' → e.born = e'.born → k = k')

/-- What an iterator is. -/
def ItOk (G : Gh) (w : World) : ABlk → Nat → Prop
  | .siter s pos, b => w.heap[b]? = some (.stringIter s pos)
  | .miter mid n0 done, b => ∃ (m since : Nat) (seen : Array Nat) (last : Nat) (ms : Array MapEntry) (clock : Nat), w.heap[b]? = some (.mapIter (some m) since seen last) ∧ G.inj mid = some m ∧ w.heap[m]? = some (.map ms clock) ∧
      n0 ≤ ms.size ∧ since ≤ last ∧ last ≤ clock ∧ StampB ms clock ∧ (∀ (k : Nat) (e : MapEntry), ms[k]? = some e → (k < n0 ↔ e.born < since)) ∧
      (∀ (k : Nat) (e : MapEntry), ms[k]? = some e → k < n0 → (seen.contains e.born = true ↔ k ∈ done)) ∧ (∀ x ∈ seen, x < since) ∧ (seen.isEmpty = false → 0 < n0) ∧ ms.size + last = n0 + clock ∧
      (∀ k, done.head? = some k → ∃ e : MapEntry, ms[k]? = some e ∧ seen.back? = some e.born)
  | _, _ => True

theorem ItOk.keep {G G' : Gh} {w w' : World} {s : ABlk} {b : Nat} (h : ItOk G w s b) (hG : ∀ i b, G.inj i = some b → G'.inj i = some b) (hb : ∀ o, w.heap[b]? = some o → w'.heap[b]? = some o)
    (hm : ∀ (m : Nat) (ms : Array MapEntry) (cl : Nat), w.heap[m]? = some (.map ms cl) → w'.heap[m]? = some (.map ms cl)) : ItOk G' w' s b := by
  cases s with
  | siter s pos => exact hb _ h
  | miter mid n0 done =>
    obtain ⟨m, since, seen, last, ms, clock, h1, h2, h3, h4⟩ := h
    exact ⟨m, since, seen, last, ms, clock, hb _ h1, hG _ _ h2, hm _ _ _ h3, h4⟩
  | cells ty cs => trivial
  | tok n => trivial
  | map es => trivial

/-- What holds between the ghost, the abstract heap and the world. -/
structure Inv (P : Program) (G : Gh) (σ : AS) (w : World) : Prop where
  below : Below G.B G.W0 w
  base : G.B ≤ G.W0.heap.size
  mem : ∀ b o v, G.mem b o = some v → w.cell? ⟨b, o, none⟩ = some v ∧ v.oneCell' = true
  top : ∀ i, G.top ≤ i → G.inj i = none ∧ G.own i = none
  injB : ∀ i b, G.inj i = some b → G.B ≤ b ∧ b < w.heap.size ∧ (∀ ty cs, σ i = some (.cells ty cs) → ∀ o, G.mem b o = none)
  inj1 : ∀ i j b, G.inj i = some b → G.inj j = some b → i = j
  cells : ∀ i ty cs, σ i = some (.cells ty cs) → ∃ b vs, G.inj i = some b ∧ w.heap[b]? = some (.cells vs ty (0, 0)) ∧ vs.size = cs.length ∧
    ∀ k, k < cs.length → Rep P G (cs.getD k .any) (vs.getD k undef) ∧ (vs.getD k undef).oneCell' = true
  maps : ∀ i es, σ i = some (.map es) → ∃ b ms clock, G.inj i = some b ∧ w.heap[b]? = some (.map ms clock) ∧ (ms.size = es.length ∧ StampB ms clock) ∧
    ∀ k, k < es.length → ∃ m, ms[k]? = some m ∧ Rep P G (es.getD k (.any, .any)).1 m.key ∧ Rep P G (es.getD k (.any, .any)).2 m.val
  iters : ∀ i (s : ABlk), s.isIter = true → σ i = some s → ∃ b, G.inj i = some b ∧ ItOk G w s b
  tok : ∀ i n, σ i = some (.tok n) → ∃ r, G.own i = some r ∧ r.len = n
  own : ∀ t r, G.own t = some r → r.len ≤ r.cap ∧ (r.a = none → r.cap = 0) ∧ ∀ b o, r.a = some (b, o) → ∀ k, r.len * P.cellsOf r.ety ≤ k → k < r.cap * P.cellsOf r.ety →
    (w.cell? ⟨b, o + k, none⟩).isSome = true ∧ w.frozen? ⟨b, o + k, none⟩ = false ∧ G.mem b (o + k) = none ∧ (∀ i, G.inj i ≠ some b) ∧ G.B ≤ b ∧ b < w.heap.size ∧
    (∀ t' r' o', t' ≠ t → G.own t' = some r' → r'.a = some (b, o') → r'.cap * P.cellsOf r'.ety ≤ r'.len * P.cellsOf r'.ety)

theorem Inv.weaken {P : Program} {G : Gh} {σ σ0 : AS} {w : World} (h : Inv P G σ w) (hle : AS.le σ0 σ) : Inv P G σ0 w where
  below := h.below
  base := h.base
  mem := h.mem
  top := h.top
  injB i b e := ⟨(h.injB i b e).1, (h.injB i b e).2.1, fun ty cs hn => (h.injB i b e).2.2 ty cs (hle _ _ hn)⟩
  inj1 := h.inj1
  cells i ty cs e := h.cells i ty cs (hle _ _ e)
  maps i es e := h.maps i es (hle _ _ e)
  iters i s p e := h.iters i s p (hle _ _ e)
  tok i n e := h.tok i n (hle _ _ e)
  own := h.own

/-- The value's cells. -/
theorem Rep.cells {P : Program} {G : Gh} {a : AV} {v : Value} (h : Rep P G a v) (ho : a.okc = true) :
    v.cells.size = a.cells.length ∧ ∀ k, k < a.cells.length → Rep P G (a.cells.getD k .any) (v.cells.getD k undef) := by
  have single : ∀ (a : AV) (v : Value), a.cells = [a] → v.cells = #[v] → Rep P G a v →
      v.cells.size = a.cells.length ∧ ∀ k, k < a.cells.length → Rep P G (a.cells.getD k .any) (v.cells.getD k undef) := by
    intro a v h1 h2 h3
    rw [h1, h2]
    refine ⟨rfl, fun k hk => ?_⟩
    have : k = 0 := by simp at hk; exact hk
    subst this
    simpa using h3
  cases h with
  | any v => simp [AV.okc] at ho
  | sc v =>
    refine single _ _ rfl ?_ (.sc v)
    cases v <;> first | rfl | simp [AV.okc] at ho
  | agg vs l h =>
    refine ⟨by simp [Value.cells, AV.cells, l], fun k hk => ?_⟩
    have := h k hk
    simpa [Value.cells, AV.cells] using this
  | tup vs l h => simp [AV.okc] at ho
  | ptr h => exact single _ _ rfl rfl (.ptr h)
  | cptr vs hm hr => exact single _ _ rfl rfl (.cptr vs hm hr)
  | nilS => exact single _ _ rfl rfl .nilS
  | lstN h => exact single _ _ rfl rfl (.lstN h)
  | lst vs hl hm hr hc hq => exact single _ _ rfl rfl (.lst vs hl hm hr hc hq)
  | lstZ => exact single _ _ rfl rfl .lstZ
  | msl h => exact single _ _ rfl rfl (.msl h)
  | mp h => exact single _ _ rfl rfl (.mp h)
  | fn vf vc lf lc hf hc => exact single _ _ rfl rfl (.fn vf vc lf lc hf hc)
  | ifc h => exact single _ _ rfl rfl (.ifc h)

theorem Rep.one {P : Program} {G : Gh} {a : AV} {v : Value} (h : Rep P G a v) (ho : a.one = true) : v.oneCell' = true := by
  cases h <;> first | rfl | (simp [AV.one] at ho; done) | skip
  case sc => cases v <;> first | rfl | simp [AV.one] at ho

end Go.AW
