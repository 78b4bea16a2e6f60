/- A layer of abstract values over the model's machine: own work for this claim, part AwMem. -/
import Derived.Test.YtnkjbgcbchbonaaAwCore
set_option linter.unusedSimpArgs false
set_option linter.unusedVariables false
namespace Go.AW
open Go Go.RowKit

variable {P : Program} {G : Gh} {σ : AS} {w : World}

theorem Inv.fresh (h : Inv P G σ w) : σ G.top = none := by
  have ht := h.top G.top (Nat.le_refl _)
  cases e : σ G.top with
  | none => rfl
  | some b =>
    cases b with
    | cells ty cs => obtain ⟨b, _, h1, _⟩ := h.cells _ _ _ e; rw [ht.1] at h1; cases h1
    | map es => obtain ⟨b, _, _, h1, _⟩ := h.maps _ _ e; rw [ht.1] at h1; cases h1
    | siter s p => obtain ⟨b, h1, _⟩ := h.iters _ _ rfl e; rw [ht.1] at h1; cases h1
    | miter m n d => obtain ⟨b, h1, _⟩ := h.iters _ _ rfl e; rw [ht.1] at h1; cases h1
    | tok n => obtain ⟨r, h1, _⟩ := h.tok _ _ e; rw [ht.2] at h1; cases h1

theorem Inv.Bsize (h : Inv P G σ w) : G.B ≤ w.heap.size := Nat.le_trans h.base h.below.size

theorem Inv.memlt (h : Inv P G σ w) {b o : Nat} {v : Value} (e : G.mem b o = some v) : b < w.heap.size := by
  have h1 := (h.mem b o v e).1
  rcases Nat.lt_or_ge b w.heap.size with h2 | h2
  · exact h2
  · simp [World.cell?, Array.getElem?_eq_none h2] at h1

/-- A draw. -/
theorem Inv.drew (h : Inv P G σ w) : Inv P G σ w.drew where
  below := h.below.drew
  base := h.base
  mem := h.mem
  top := h.top
  injB := h.injB
  inj1 := h.inj1
  cells := h.cells
  maps := h.maps
  iters := h.iters
  tok := h.tok
  own := h.own

theorem heap_alloc_lt (w : World) (o : Obj) {k : Nat} (h : k < w.heap.size) : (w.alloc o).heap[k]? = w.heap[k]? := Below.heap_alloc w o k h
theorem heap_alloc_new (w : World) (o : Obj) : (w.alloc o).heap[w.heap.size]? = some o := by
  show (w.heap.push o)[w.heap.size]? = _
  simp
theorem lt_of_heap {w : World} {b : Nat} {o : Obj} (h : w.heap[b]? = some o) : b < w.heap.size := by
  rcases Nat.lt_or_ge b w.heap.size with h1 | h1
  · exact h1
  · rw [Array.getElem?_eq_none h1] at h; cases h
theorem cell_alloc {w : World} {a : Addr} (o : Obj) (h : a.block < w.heap.size) : (w.alloc o).cell? a = w.cell? a :=
  World.cell?_of_block (heap_alloc_lt w o h)
theorem frozen_alloc {w : World} {a : Addr} (o : Obj) (h : a.block < w.heap.size) : (w.alloc o).frozen? a = w.frozen? a :=
  World.frozen?_of_block (heap_alloc_lt w o h)

/-- A new block that nobody names. -/
theorem Inv.alloc (h : Inv P G σ w) (o : Obj) : Inv P G σ (w.alloc o) where
  below := h.below.alloc h.Bsize o
  base := h.base
  mem b of v e := ⟨by rw [cell_alloc o (h.memlt e)]; exact (h.mem b of v e).1, (h.mem b of v e).2⟩
  top := h.top
  injB i b e := ⟨(h.injB i b e).1, by have := (h.injB i b e).2.1; simp; omega, (h.injB i b e).2.2⟩
  inj1 := h.inj1
  cells i ty cs e := by
    obtain ⟨b, vs, h1, h2, h3⟩ := h.cells i ty cs e
    exact ⟨b, vs, h1, by rw [heap_alloc_lt w o (lt_of_heap h2)]; exact h2, h3⟩
  maps i es e := by
    obtain ⟨b, ms, c, h1, h2, h3⟩ := h.maps i es e
    exact ⟨b, ms, c, h1, by rw [heap_alloc_lt w o (lt_of_heap h2)]; exact h2, h3⟩
  iters i s p e := by
    obtain ⟨b, h1, h2⟩ := h.iters i s p e
    exact ⟨b, h1, h2.keep (fun _ _ h => h) (fun _ ho => by rw [heap_alloc_lt w o (lt_of_heap ho)]; exact ho) (fun _ _ _ ho => by rw [heap_alloc_lt w o (lt_of_heap ho)]; exact ho)⟩
  tok := h.tok
  own t r e := by
    obtain ⟨h1, h2, h3⟩ := h.own t r e
    refine ⟨h1, h2, fun b of ea k hk1 hk2 => ?_⟩
    obtain ⟨k1, k2, k3, k4, k5, k6, k7⟩ := h3 b of ea k hk1 hk2
    refine ⟨?_, ?_, k3, k4, k5, by simp; omega, k7⟩
    · rw [cell_alloc o k6]; exact k1
    · rw [frozen_alloc o k6]; exact k2

/-- The ghost with one more name for a block. -/
def Gh.bind (G : Gh) (b : Nat) : Gh := { G with inj := fun j => if j = G.top then some b else G.inj j, top := G.top + 1 }

theorem Gh.bind_le (G : Gh) (b : Nat) (ht : G.inj G.top = none) : G.Le (G.bind b) where
  W0 := rfl
  B := rfl
  mem _ _ _ h := h
  inj i c h := by
    have : i ≠ G.top := by intro e; subst e; rw [ht] at h; cases h
    simp [Gh.bind, this, h]
  own t r h := ⟨r, h, rfl, .inl rfl⟩

/-- The newest block gets a name. -/
theorem Inv.bind (h : Inv P G σ w) (o : Obj) : Inv P (G.bind w.heap.size) σ (w.alloc o) := by
  have h' := h.alloc o
  have hle := G.bind_le w.heap.size (h.top _ (Nat.le_refl _)).1
  refine ⟨h'.below, h'.base, h'.mem, ?_, ?_, ?_, ?_, ?_, ?_, h'.tok, ?_⟩
  · intro i hi
    have : i ≠ G.top := by simp [Gh.bind] at hi; omega
    have := h.top i (by simp [Gh.bind] at hi; omega)
    simp [Gh.bind, *]
  · intro i b e
    by_cases hi : i = G.top
    · simp [Gh.bind, hi] at e
      subst e
      refine ⟨h.Bsize, by simp, fun _ _ _ of => ?_⟩
      cases hm : G.mem w.heap.size of with
      | none => exact hm
      | some v => have := h.memlt hm; omega
    · simp [Gh.bind, hi] at e
      exact h'.injB i b e
  · intro i j b e1 e2
    by_cases hi : i = G.top <;> by_cases hj : j = G.top
    · omega
    · simp [Gh.bind, hi, hj] at e1 e2
      have := (h.injB j b e2).2.1; omega
    · simp [Gh.bind, hi, hj] at e1 e2
      have := (h.injB i b e1).2.1; omega
    · simp [Gh.bind, hi, hj] at e1 e2
      exact h.inj1 i j b e1 e2
  · intro i ty cs e
    obtain ⟨b, vs, h1, h2, h3, h4⟩ := h'.cells i ty cs e
    exact ⟨b, vs, hle.inj _ _ h1, h2, h3, fun k hk => ⟨(h4 k hk).1.mono hle, (h4 k hk).2⟩⟩
  · intro i es e
    obtain ⟨b, ms, c, h1, h2, h3, h4⟩ := h'.maps i es e
    refine ⟨b, ms, c, hle.inj _ _ h1, h2, h3, fun k hk => ?_⟩
    obtain ⟨m, k1, k2, k3⟩ := h4 k hk
    exact ⟨m, k1, k2.mono hle, k3.mono hle⟩
  · intro i s p e
    obtain ⟨b, h1, h2⟩ := h'.iters i s p e
    exact ⟨b, hle.inj _ _ h1, h2.keep hle.inj (fun _ h => h) (fun _ _ _ h => h)⟩
  · intro t r e
    obtain ⟨h1, h2, h3⟩ := h'.own t r e
    refine ⟨h1, h2, fun b of ea k hk1 hk2 => ?_⟩
    obtain ⟨k1, k2, k3, k4, k5, k6, k7⟩ := h3 b of ea k hk1 hk2
    have k6' := ((h.own t r e).2.2 b of ea k hk1 hk2).2.2.2.2.2.1
    refine ⟨k1, k2, k3, fun i => ?_, k5, k6, k7⟩
    by_cases hi : i = G.top
    · simp [Gh.bind, hi]; omega
    · simp [Gh.bind, hi]; exact k4 i

/-- A new block of cells, named. -/
theorem Inv.allocCells (h : Inv P G σ w) (ty : TypeId) (vs : Array Value) (cs : List AV) (hl : vs.size = cs.length)
    (hr : ∀ k, k < cs.length → Rep P G (cs.getD k .any) (vs.getD k undef) ∧ (vs.getD k undef).oneCell' = true) :
    ∃ G', G.Le G' ∧ G'.inj G.top = some w.heap.size ∧ Inv P G' (σ.set G.top (.cells ty cs)) (w.alloc (.cells vs ty)) := by
  have hle := G.bind_le w.heap.size (h.top _ (Nat.le_refl _)).1
  have hb := h.bind (.cells vs ty)
  refine ⟨_, hle, by simp [Gh.bind], ?_⟩
  refine ⟨hb.below, hb.base, hb.mem, hb.top, ?_, hb.inj1, ?_, ?_, ?_, ?_, hb.own⟩
  · intro i b e
    have h1 := hb.injB i b e
    refine ⟨h1.1, h1.2.1, fun ty' cs' hn => ?_⟩
    by_cases hi : i = G.top
    · subst hi
      simp [Gh.bind] at e
      subst e
      intro of
      cases hm : G.mem w.heap.size of with
      | none => exact hm
      | some v => have := h.memlt hm; omega
    · exact h1.2.2 ty' cs' (by simpa [AS.set, hi] using hn)
  · intro i ty' cs' e
    by_cases hi : i = G.top
    · subst hi
      simp [AS.set] at e
      obtain ⟨rfl, rfl⟩ := e
      exact ⟨w.heap.size, vs, by simp [Gh.bind], heap_alloc_new w _, hl, fun k hk => ⟨(hr k hk).1.mono hle, (hr k hk).2⟩⟩
    · simp [AS.set, hi] at e; exact hb.cells i ty' cs' e
  · intro i es e
    by_cases hi : i = G.top
    · simp [AS.set, hi] at e
    · simp [AS.set, hi] at e; exact hb.maps i es e
  · intro i s p e
    by_cases hi : i = G.top
    · simp [AS.set, hi] at e; subst e; cases p
    · simp [AS.set, hi] at e; exact hb.iters i s p e
  · intro i n e
    by_cases hi : i = G.top
    · simp [AS.set, hi] at e
    · simp [AS.set, hi] at e; exact hb.tok i n e

/-- The ghost with more memory that stays. -/
def Gh.keep (G : Gh) (b off n : Nat) (vs : Nat → Value) : Gh :=
  { G with mem := fun b' o => if b' = b ∧ off ≤ o ∧ o < off + n then some (vs (o - off)) else G.mem b' o }

theorem Gh.keep_in {b off n o : Nat} {vs : Nat → Value} (h1 : off ≤ o) (h2 : o < off + n) : (G.keep b off n vs).mem b o = some (vs (o - off)) := if_pos ⟨rfl, h1, h2⟩
theorem Gh.keep_out {b off n b' o : Nat} {vs : Nat → Value} (h : ¬ (b' = b ∧ off ≤ o ∧ o < off + n)) : (G.keep b off n vs).mem b' o = G.mem b' o := if_neg h

/-- The newest block stays as it is, up to n cells. -/
theorem Inv.keepNew' (h : Inv P G σ w) (ty : TypeId) (cur : Array Value) (fz : Nat × Nat) (n : Nat) (vs : Nat → Value) (_hn : n ≤ cur.size) (hv : ∀ k, k < n → cur[k]? = some (vs k) ∧ (vs k).oneCell' = true) :
    G.Le (G.keep w.heap.size 0 n vs) ∧ Inv P (G.keep w.heap.size 0 n vs) σ (w.alloc (.cells cur ty fz)) := by
  have hle : G.Le (G.keep w.heap.size 0 n vs) := by
    refine ⟨rfl, rfl, fun b o v e => ?_, fun _ _ e => e, fun t r e => ⟨r, e, rfl, .inl rfl⟩⟩
    have := h.memlt e
    simp only [Gh.keep]
    rw [if_neg (by omega)]
    exact e
  have h' := h.alloc (.cells cur ty fz)
  refine ⟨hle, h'.below, h'.base, ?_, h.top, ?_, h.inj1, ?_, ?_, h'.iters, h'.tok, ?_⟩
  · intro b o v e
    by_cases hc : b = w.heap.size ∧ 0 ≤ o ∧ o < 0 + n
    · simp only [Gh.keep] at e
      rw [if_pos hc] at e
      obtain ⟨rfl, _, ho⟩ := hc
      simp at e
      subst e
      have := hv o (by omega)
      refine ⟨?_, this.2⟩
      simp only [World.cell?, heap_alloc_new]
      simpa using this.1
    · simp only [Gh.keep] at e
      rw [if_neg hc] at e
      exact h'.mem b o v e
  · intro i b e
    have h1 := h.injB i b e
    refine ⟨h1.1, by simp; omega, fun ty' cs' hs o => ?_⟩
    simp only [Gh.keep]
    rw [if_neg (by omega)]
    exact h1.2.2 ty' cs' hs o
  · intro i ty' cs e
    obtain ⟨b, vs', h1, h2, h3, h4⟩ := h'.cells i ty' cs e
    exact ⟨b, vs', h1, h2, h3, fun k hk => ⟨(h4 k hk).1.mono hle, (h4 k hk).2⟩⟩
  · intro i es e
    obtain ⟨b, ms, c, h1, h2, h3, h4⟩ := h'.maps i es e
    refine ⟨b, ms, c, h1, h2, h3, fun k hk => ?_⟩
    obtain ⟨m, k1, k2, k3⟩ := h4 k hk
    exact ⟨m, k1, k2.mono hle, k3.mono hle⟩
  · intro t r e
    obtain ⟨h1, h2, h3⟩ := h'.own t r e
    refine ⟨h1, h2, fun b of ea k hk1 hk2 => ?_⟩
    obtain ⟨k1, k2, k3, k4, k5, k6, k7⟩ := h3 b of ea k hk1 hk2
    have k6' := ((h.own t r e).2.2 b of ea k hk1 hk2).2.2.2.2.2.1
    refine ⟨k1, k2, ?_, k4, k5, k6, k7⟩
    simp only [Gh.keep]
    rw [if_neg (by omega)]
    exact k3

theorem Inv.keepNew (h : Inv P G σ w) (ty : TypeId) (cur : Array Value) (n : Nat) (vs : Nat → Value) (hn : n ≤ cur.size) (hv : ∀ k, k < n → cur[k]? = some (vs k) ∧ (vs k).oneCell' = true) :
    G.Le (G.keep w.heap.size 0 n vs) ∧ Inv P (G.keep w.heap.size 0 n vs) σ (w.alloc (.cells cur ty)) := h.keepNew' ty cur (0, 0) n vs hn hv

/-! stores -/

def updA (cur : Array Value) : Nat → List Value → Array Value
  | _, [] => cur
  | o, v :: r => updA (cur.setIfInBounds o v) (o + 1) r

theorem updA_size (vs : List Value) : ∀ (cur : Array Value) (o : Nat), (updA cur o vs).size = cur.size := by
  induction vs with
  | nil => intro cur o; rfl
  | cons v r ih => intro cur o; simp [updA, ih]

theorem updA_get (vs : List Value) : ∀ (cur : Array Value) (o k : Nat), o + vs.length ≤ cur.size →
    (updA cur o vs).getD k undef = if o ≤ k ∧ k < o + vs.length then vs.getD (k - o) undef else cur.getD k undef := by
  induction vs with
  | nil =>
    intro cur o k _
    rw [if_neg (by simp only [List.length_nil]; omega)]
    rfl
  | cons v r ih =>
    intro cur o k h
    simp only [List.length_cons] at h
    simp only [updA]
    rw [ih _ _ _ (by simp; omega)]
    by_cases h1 : o + 1 ≤ k ∧ k < o + 1 + r.length
    · rw [if_pos h1, if_pos (by simp only [List.length_cons]; omega)]
      have : k - o = (k - (o + 1)) + 1 := by omega
      rw [this]
      simp
    · rw [if_neg h1]
      by_cases h2 : k = o
      · subst h2
        rw [if_pos (by simp only [List.length_cons]; omega)]
        have : k < cur.size := by omega
        simp [this]
      · rw [if_neg (by simp only [List.length_cons]; omega)]
        simp [Array.getElem?_setIfInBounds_ne (fun e => h2 e.symm)]

theorem heap_setCells (b : Nat) (vs : List Value) : ∀ (w : World) (o : Nat) (cur : Array Value) (ty : TypeId) (fz : Nat × Nat), w.heap[b]? = some (.cells cur ty fz) →
    (w.setCells b o vs).heap[b]? = some (.cells (updA cur o vs) ty fz) := by
  induction vs with
  | nil => intro w o cur ty fz h; exact h
  | cons v r ih =>
    intro w o cur ty fz h
    refine ih _ _ _ _ _ ?_
    simp only [World.setCell, Array.getElem?_modify, h, if_true, Option.map_some]
    rfl

theorem heap_setCells_other (b : Nat) (vs : List Value) : ∀ (w : World) (o : Nat) (k : Nat), k ≠ b → (w.setCells b o vs).heap[k]? = w.heap[k]? := by
  induction vs with
  | nil => intro w o k h; rfl
  | cons v r ih =>
    intro w o k h
    rw [show w.setCells b o (v :: r) = (w.setCell ⟨b, o, none⟩ v).setCells b (o + 1) r from rfl, ih _ _ _ h]
    exact Below.heap_setCell w _ v k h

theorem size_setCells (b : Nat) (vs : List Value) : ∀ (w : World) (o : Nat), (w.setCells b o vs).heap.size = w.heap.size := by
  induction vs with
  | nil => intro w o; rfl
  | cons v r ih =>
    intro w o
    rw [show w.setCells b o (v :: r) = (w.setCell ⟨b, o, none⟩ v).setCells b (o + 1) r from rfl, ih]
    simp

theorem below_setCells {B : Nat} {a : World} (b : Nat) (vs : List Value) : ∀ (w : World) (o : Nat), Below B a w → B ≤ b → Below B a (w.setCells b o vs) := by
  induction vs with
  | nil => intro w o h _; exact h
  | cons v r ih =>
    intro w o h hb
    exact ih _ _ (h.setCell (p := ⟨b, o, none⟩) hb v) hb

/-- A store into a named block. -/
theorem Inv.store (h : Inv P G σ w) {i : Nat} {ty : TypeId} {cs : List AV} (e : σ i = some (.cells ty cs)) (off : Nat) (vs : List Value) (av : List AV)
    (hl : vs.length = av.length) (hfit : off + vs.length ≤ cs.length) (hr : ∀ k, k < av.length → Rep P G (av.getD k .any) (vs.getD k undef) ∧ (vs.getD k undef).oneCell' = true)
    (b : Nat) (hb : G.inj i = some b) :
    Inv P G (σ.set i (.cells ty (cs.take off ++ av ++ cs.drop (off + av.length)))) (w.setCells b off vs) := by
  obtain ⟨b', cur, h1, h2, h3, h4⟩ := h.cells i ty cs e
  rw [hb] at h1
  obtain rfl := Option.some.inj h1
  have hB := h.injB i b hb
  have other : ∀ k, k ≠ b → (w.setCells b off vs).heap[k]? = w.heap[k]? := heap_setCells_other b vs w off
  have hlen : (cs.take off ++ av ++ cs.drop (off + av.length)).length = cs.length := by simp; omega
  refine ⟨below_setCells b vs w off h.below hB.1, h.base, ?_, h.top, ?_, h.inj1, ?_, ?_, ?_, ?_, ?_⟩
  · intro b' o v em
    have hne : b' ≠ b := by intro e'; subst e'; rw [hB.2.2 _ _ e o] at em; cases em
    exact ⟨by rw [World.cell?_of_block (w := w) (other b' hne)]; exact (h.mem b' o v em).1, (h.mem b' o v em).2⟩
  · intro j c ej
    have := h.injB j c ej
    refine ⟨this.1, by rw [size_setCells]; exact this.2.1, fun ty' cs' hn => ?_⟩
    by_cases hj : j = i
    · subst hj; exact this.2.2 _ _ e
    · exact this.2.2 ty' cs' (by simpa [AS.set, hj] using hn)
  · intro j ty' cs' ej
    by_cases hj : j = i
    · subst hj
      simp [AS.set] at ej
      obtain ⟨rfl, rfl⟩ := ej
      refine ⟨b, _, hb, heap_setCells b vs w off cur _ _ h2, ?_, ?_⟩
      · rw [updA_size, h3]; simp; omega
      · intro k hk
        rw [updA_get _ _ _ _ (by omega)]
        have hk' : k < cs.length := by simp at hk; omega
        by_cases hc : off ≤ k ∧ k < off + vs.length
        · rw [if_pos hc]
          have := hr (k - off) (by omega)
          have e1 : (cs.take off ++ (av ++ cs.drop (off + av.length))).getD k .any = av.getD (k - off) .any := by
            have t : (cs.take off).length = off := by simp; omega
            simp only [List.getD_eq_getElem?_getD]
            rw [List.getElem?_append_right (by omega), t, List.getElem?_append_left (by omega)]
          rw [e1]
          exact this
        · rw [if_neg hc]
          have := h4 k hk'
          have e1 : (cs.take off ++ (av ++ cs.drop (off + av.length))).getD k .any = cs.getD k .any := by
            have t : (cs.take off).length = off := by simp; omega
            simp only [List.getD_eq_getElem?_getD]
            by_cases hlt : k < off
            · rw [List.getElem?_append_left (by omega), List.getElem?_take_of_lt hlt]
            · rw [List.getElem?_append_right (by omega), t, List.getElem?_append_right (by omega), List.getElem?_drop]
              congr 2; omega
          rw [e1]
          exact this
    · simp [AS.set, hj] at ej
      obtain ⟨c, vs', k1, k2, k3⟩ := h.cells j ty' cs' ej
      have hne : c ≠ b := fun e' => hj (h.inj1 j i b (e' ▸ k1) hb)
      exact ⟨c, vs', k1, by rw [other c hne]; exact k2, k3⟩
  · intro j es ej
    have hj : j ≠ i := by intro e'; subst e'; simp [AS.set] at ej
    simp [AS.set, hj] at ej
    obtain ⟨c, ms, cl, k1, k2, k3⟩ := h.maps j es ej
    have hne : c ≠ b := fun e' => hj (h.inj1 j i b (e' ▸ k1) hb)
    exact ⟨c, ms, cl, k1, by rw [other c hne]; exact k2, k3⟩
  · intro j s p ej
    have hj : j ≠ i := by intro e'; subst e'; simp [AS.set] at ej; subst ej; cases p
    simp [AS.set, hj] at ej
    obtain ⟨c, k1, k2⟩ := h.iters j s p ej
    have hne : c ≠ b := fun e' => hj (h.inj1 j i b (e' ▸ k1) hb)
    exact ⟨c, k1, k2.keep (fun _ _ h => h) (fun o ho => by rw [other c hne]; exact ho) (fun m ms cl hm => by rw [other m (fun e => by subst e; rw [h2] at hm; cases hm)]; exact hm)⟩
  · intro j n ej
    have hj : j ≠ i := by intro e'; subst e'; simp [AS.set] at ej
    simp [AS.set, hj] at ej
    exact h.tok j n ej
  · intro t r et
    obtain ⟨k1, k2, k3⟩ := h.own t r et
    refine ⟨k1, k2, fun c o ea k hk1 hk2 => ?_⟩
    obtain ⟨m1, m2, m3, m4, m5, m6, m7⟩ := k3 c o ea k hk1 hk2
    have hne : c ≠ b := fun e' => m4 i (e' ▸ hb)
    refine ⟨?_, ?_, m3, m4, m5, by rw [size_setCells]; exact m6, m7⟩
    · rw [World.cell?_of_block (w := w) (other c hne)]; exact m1
    · rw [World.frozen?_of_block (w := w) (other c hne)]; exact m2

end Go.AW
