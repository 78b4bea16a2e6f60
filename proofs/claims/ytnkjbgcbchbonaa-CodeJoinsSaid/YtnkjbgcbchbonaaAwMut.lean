/- A layer of abstract values over the model's machine: own work for this claim, part AwMut. -/
import Derived.Test.YtnkjbgcbchbonaaAwAuto
set_option linter.unusedSimpArgs false
set_option linter.unusedVariables false
namespace Go.AW
open Go Go.RowKit

variable {P : Program} {n : Nat} {ds : List Deferred} {Q : AQ} {s : Fr} {σ : AS}

/-! ## an operation, by what it brings about -/

/-- What an operation does, said by what may follow. -/
def SOp (P : Program) (n : Nat) (ds : List Deferred) (Q : AQ) (o : Oper) (s : Fr) (σ : AS) (K : Fr → AS → Prop) : Prop :=
  ∀ (G0 G : Gh) (a : Act) (w : World), G0.Le G → Sim P G n ds s σ a w → ∀ next : Act → World → Prop,
    (∀ G' s' σ' a' w', G0.Le G' → Sim P G' n ds s' σ' a' w' → K s' σ' → next a' w') → o.wp P a w next (LQ P n ds Q G0)

theorem SOp.step {o : Oper} {K : Fr → AS → Prop} (h : stepOp P n o s σ K Q) : SOp P n ds Q o s σ K :=
  fun _ _ _ _ hle hs _ hn => stepOp_ok o h hle hs hn

theorem SOp.of_out {o : Oper} {K : Fr → AS → Prop} (hd : match o.dst with | none => True | some d => d < n)
    (h : ∀ (G : Gh) (a : Act) (w : World), Sim P G n ds s σ a w → Out P G (fun v σ' => K (s.put o.dst v) σ') (fun v σ' => Q (.panic v) s σ') ((execOp a.eval o).run P w)) : SOp P n ds Q o s σ K := by
  intro G0 G a w hle hs next hn
  have hd' : ∀ t, o.dst = some t → t < n := by intro t ht; rw [ht] at hd; exact hd
  have := h G a w hs
  unfold Oper.wp
  generalize (execOp a.eval o).run P w = r at this ⊢
  cases r with
  | ok nx w' =>
    cases nx <;> simp only [Out] at this <;> first | exact this.elim | skip
    · obtain ⟨G', σ', av, g1, g2, g3, g4⟩ := this
      exact hn G' _ _ _ _ (hle.trans g1) (hs.put g1 g2 o.dst hd' g3) g4
    · obtain ⟨G', σ', av, g1, g2, g3, g4⟩ := this
      exact hn G' _ _ _ _ (hle.trans g1) (hs.put g1 g2 o.dst hd' g3) g4
  | halt x w' =>
    cases x <;> simp only [Out] at this <;> first | exact this.elim | skip
    obtain ⟨G', σ', av, g1, g2, g3, g4⟩ := this
    exact ⟨rfl, rfl, G', s, σ', av, hle.trans g1, ⟨g2, hs.size, hs.ds, fun i => (hs.rep i).mono g1⟩, g3, g4⟩

/-- Operations one behind the other, each by its text or by what it brings about. -/
def sOps (P : Program) (n : Nat) (ds : List Deferred) (ops : Array Oper) (Q : AQ) : List Oper → Fr → AS → Prop
  | [], s, σ => Q .normal s σ
  | o :: r, s, σ => (o.guard = none ∧ SOp P n ds Q o s σ (sOps P n ds ops Q r)) ∨ guardOp P n ops o s σ (sOps P n ds ops Q r) Q

theorem sOps.sp {ops : Array Oper} {o : Oper} {r : List Oper} (hg : o.guard = none) (h : SOp P n ds Q o s σ (sOps P n ds ops Q r)) : sOps P n ds ops Q (o :: r) s σ := .inl ⟨hg, h⟩

theorem sOps.pre {ops : Array Oper} : ∀ (l r : List Oper) (s : Fr) (σ : AS), awpOps P n ops (thenQ (sOps P n ds ops Q r) Q) l s σ → sOps P n ds ops Q (l ++ r) s σ := by
  intro l
  induction l with
  | nil => intro r s σ h; exact h
  | cons o l ih =>
    intro r s σ h
    refine .inr ?_
    have h' : guardOp P n ops o s σ (awpOps P n ops (thenQ (sOps P n ds ops Q r) Q) l) (thenQ (sOps P n ds ops Q r) Q) := h
    rw [guardOp_eq] at h' ⊢
    exact gop_mono (fun v σ' h5 => ih r _ _ h5) (fun _ _ h => h) h'

theorem sOps.rest {ops : Array Oper} {r : List Oper} (h : awpOps P n ops Q r s σ) : sOps P n ds ops Q r s σ := by
  have e : thenQ (sOps P n ds ops Q []) Q = Q := by funext e s σ; cases e <;> rfl
  have := sOps.pre (ds := ds) (Q := Q) (ops := ops) r [] s σ (by rw [e]; exact h)
  simpa using this

/-- The first k operations by their text. -/
theorem sOps.first {ops : Array Oper} {l : List Oper} (k : Nat) (h : awpOps P n ops (thenQ (sOps P n ds ops Q (l.drop k)) Q) (l.take k) s σ) : sOps P n ds ops Q l s σ := by
  have := sOps.pre (ds := ds) (Q := Q) (ops := ops) (l.take k) (l.drop k) s σ h
  rwa [List.take_append_drop] at this

theorem sOps_ok {ops : Array Oper} {G0 : Gh} : ∀ (l : List Oper) (G : Gh) (s : Fr) (σ : AS) (a : Act) (w : World), sOps P n ds ops Q l s σ → G0.Le G → Sim P G n ds s σ a w →
    wpList P ops (LQ P n ds Q G0) l a w := by
  intro l
  induction l with
  | nil => intro G s σ a w h hle hs; exact ⟨G, s, σ, hle, hs, h⟩
  | cons o rest ih =>
    intro G s σ a w h hle hs
    unfold wpList
    rcases h with ⟨hg, h⟩ | h
    · have hw : Region.wanted o (yielded ops a.tmps) = true := by simp [Region.wanted, hg]
      rw [if_pos hw]
      exact .inl (h G0 G a w hle hs _ (fun G' s' σ' a' w' h1 h2 h3 => ih G' s' σ' a' w' h3 h1 h2))
    · have := guardOp_ok o h hle hs (next := wpList P ops (LQ P n ds Q G0) rest) (fun G' s' σ' a' w' h1 h2 h3 => ih G' s' σ' a' w' h3 h1 h2)
      by_cases hw : Region.wanted o (yielded ops a.tmps) = true
      · rw [if_pos hw] at this ⊢; exact .inl this
      · rw [if_neg hw] at this ⊢; exact this

theorem AWp.regionS {id : Nat} {l : List Oper} (h : sOps P n ds l.toArray Q l s σ) : AWp P n ds (.region id l.toArray false) Q s σ :=
  fun G0 G a w h1 h2 => wp_region_lit (sOps_ok l G s σ a w h h1 h2)

@[congr] theorem sOps_congr {ops : Array Oper} {l : List Oper} {s s' : Fr} {σ σ' : AS} (h1 : s = s') (h2 : σ = σ') : sOps P n ds ops Q l s σ = sOps P n ds ops Q l s' σ' := by subst h1 h2; rfl

/-! ## a slice that is written to -/

def flatC (l : List AV) : List AV := l.flatMap (·.cells)
@[simp] theorem flatC_nil : flatC [] = [] := rfl
@[simp] theorem flatC_cons (v : AV) (r : List AV) : flatC (v :: r) = v.cells ++ flatC r := rfl
theorem flatC_get {m : Nat} : ∀ (l : List AV), (∀ v ∈ l, v.cells.length = m) → (flatC l).length = l.length * m ∧ ∀ i j, i < l.length → j < m → (flatC l).getD (i * m + j) .any = (l.getD i .any).cells.getD j .any := by
  intro l
  induction l with
  | nil => intro _; exact ⟨by simp, fun i j hi => by simp at hi⟩
  | cons v r ih =>
    intro h
    obtain ⟨h1, h2⟩ := ih fun v hv => h v (by simp [hv])
    have h0 := h v (by simp)
    refine ⟨by simp [h1, h0, Nat.add_mul]; omega, fun i j hi hj => ?_⟩
    cases i with
    | zero => simp only [flatC_cons]; rw [getD_append_left _ _ _ (by omega)]; simp
    | succ i =>
      simp only [flatC_cons]
      have : (i + 1) * m + j = v.cells.length + (i * m + j) := by rw [h0, Nat.add_mul]; omega
      rw [this, getD_append_right _ _ _ (by omega)]
      have e : v.cells.length + (i * m + j) - v.cells.length = i * m + j := by omega
      rw [e, h2 i j (by simpa using hi) hj]
      simp

def aBuildSliceM (P : Program) (σ : AS) (t : TypeId) (len : Nat) (parts : List (Nat × AV)) (K : AV → AS → Prop) : Prop :=
  match sliceT P t with
  | some e => parts.length = len ∧ P.cellsOf e ≠ 0 ∧ len * P.cellsOf e ≤ 2 ^ 24 ∧ (zeroAV P e).laid = true ∧ (zeroAV P e).cells.length = P.cellsOf e ∧ aElems (P.cellsOf e) 0 parts = true ∧
      ∀ id, σ id = none → K (.msl id 0 len len) (σ.set id (.cells e (flatC (parts.map (·.2)))))
  | none => False

theorem aElems_len {m : Nat} : ∀ (l : List (Nat × AV)) (k : Nat), aElems m k l = true → ∀ v ∈ l.map (·.2), v.cells.length = m := by
  intro l
  induction l with
  | nil => intro k _ v hv; simp at hv
  | cons p r ih =>
    intro k hk v hv
    obtain ⟨q, x⟩ := p
    simp only [aElems, Bool.and_eq_true, beq_iff_eq] at hk
    simp only [List.map_cons, List.mem_cons] at hv
    rcases hv with rfl | hv
    · exact hk.1.2
    · exact ih (k + 1) hk.2 v hv

theorem aBuildSliceM_out {G : Gh} {w : World} {K Pn : AV → AS → Prop} (hi : Inv P G σ w) {t : TypeId} {len : Nat} {parts : Array (Nat × Operand)} {s : Fr} {ρ : Operand → Value} (hρ : ∀ x, Rep P G (ev s x) (ρ x))
    (h : aBuildSliceM P σ t len (parts.toList.map fun p => (p.1, ev s p.2)) K) :
    Out P G K Pn (((do pure (Next.value (← Instr.buildSlice t len (parts.map fun (i, x) => (i, ρ x))))) : Sem Next).run P w) := by
  unfold aBuildSliceM at h
  split at h
  · rename_i e he
    obtain ⟨h1, h2, h3, h4, h5, h6, h7⟩ := h
    have hu := sliceT_eq he
    obtain ⟨it, z, hit, hz, hzr⟩ := zeroAV_info h4
    have hsz : it.size = P.cellsOf e := by simp [Program.cellsOf, hit]
    have hvp : (parts.map fun (i, x) => (i, ρ x)).toList = parts.toList.map fun p => (p.1, ρ p.2) := by simp
    have hlen : parts.toList.length = len := by simpa using h1
    let zero : Array Value := if len * P.cellsOf e = 0 then #[] else z.cells
    let init : Array Value := (Array.range (len * P.cellsOf e)).map (zero[· % zero.size]!)
    obtain ⟨a', g1, g2, _, g4⟩ := fill_elems (P := P) (G := G) (e := e) (parts.toList.map fun p => (p.1, ev s p.2)) (parts.toList.map fun p => (p.1, ρ p.2)) 0 (P.cellsOf e) init (by simp) (fun i hi => by
      simp at hi
      simp [List.getD_eq_getElem?_getD, hi]
      exact hρ _) h6 (by simp at hlen; simp [init, hlen]) (fun c hc => by omega)
    have hsize : a'.size = len * P.cellsOf e := by rw [g2]; simp [init]
    have hrun : (Instr.buildSlice t len (parts.map fun (i, x) => (i, ρ x))).run P w = .ok (.slice (some ⟨w.heap.size, 0, none⟩) len len) (w.alloc (.cells a' e)) := by
      have hsz' : ¬ (len * P.cellsOf e > 2 ^ 24) := by omega
      have g1' : Instr.fill (fun i => some (i * P.cellsOf e, P.cellsOf e)) ((Array.range (len * P.cellsOf e)).map (zero[· % zero.size]!)) (parts.map fun (i, x) => (i, ρ x)).toList = some a' := by rw [hvp]; exact g1
      simp only [Instr.buildSlice, Sem.run_bind, run_underlying hu, Result.andThen, sizeOf, run_typeInfo w hit, Sem.run_pure, hsz, hsz', if_false]
      by_cases h0 : len * P.cellsOf e = 0
      · simp only [zero, h0, if_true] at g1'
        simp [h0, Sem.run_bind, Result.andThen, g1', newRow, run_newObj_alloc]
        simp at g1'
        simp [g1', newRow, run_newObj_alloc, Sem.run_bind, Result.andThen]
      · simp only [zero, h0, if_false] at g1'
        simp only [h0, if_false, Sem.run_bind, zeroValue, run_typeInfo w hit, hz, Result.andThen, Sem.run_pure]
        rw [g1']
        simp [newRow, run_newObj_alloc, Sem.run_bind, Result.andThen]
    have hidx : ∀ k, k < len * P.cellsOf e → k / P.cellsOf e < len ∧ k % P.cellsOf e < P.cellsOf e ∧ (k / P.cellsOf e) * P.cellsOf e + k % P.cellsOf e = k := fun k hk =>
      ⟨Nat.div_lt_of_lt_mul (by rw [Nat.mul_comm]; exact hk), Nat.mod_lt _ (by omega), by rw [Nat.mul_comm]; exact Nat.div_add_mod k _⟩
    obtain ⟨f1, f2⟩ := flatC_get (m := P.cellsOf e) ((parts.toList.map fun p => (p.1, ev s p.2)).map (·.2)) (aElems_len _ 0 h6)
    have hml : ((parts.toList.map fun p => (p.1, ev s p.2)).map (·.2)).length = len := by simpa using h1
    rw [hml] at f1 f2
    obtain ⟨G', hle, hinj, hinv⟩ := hi.allocCells e a' (flatC ((parts.toList.map fun p => (p.1, ev s p.2)).map (·.2))) (by rw [hsize, f1]) (fun k hk => by
      rw [f1] at hk
      obtain ⟨k1, k2, k3⟩ := hidx k hk
      have h8 := f2 _ _ k1 k2
      rw [k3] at h8
      rw [h8]
      have := g4 (k / P.cellsOf e) (k % P.cellsOf e) (by simp at hlen ⊢; omega) k2
      rw [Nat.zero_add, k3] at this
      refine ⟨?_, this.2⟩
      have h9 := this.1
      have hlt : k / P.cellsOf e < (parts.toList.map fun p => (p.1, ev s p.2)).length := by simp at hlen ⊢; omega
      have e9 : ((parts.toList.map fun p => (p.1, ev s p.2)).map (·.2)).getD (k / P.cellsOf e) AV.any = ((parts.toList.map fun p => (p.1, ev s p.2)).getD (k / P.cellsOf e) (0, AV.any)).2 := by
        simp only [List.getD_eq_getElem?_getD, List.getElem?_map, List.getElem?_eq_getElem hlt, Option.map_some, Option.getD_some]
      rw [e9]
      exact h9)
    exact Out.value hrun hle hinv (.msl hinj) (h7 _ hi.fresh)
  · exact h.elim

theorem SOp.buildM {d t m : Nat} {ps : Array (Nat × Operand)} {ty : TypeId} {pos : String} {af : Array Edge} {g : Option (Nat × Bool)} {K : Fr → AS → Prop} (hd : d < n)
    (h : aBuildSliceM P σ t m (ps.toList.map fun p => (p.1, ev s p.2)) (fun v σ' => K (s.put (some d) v) σ')) : SOp P n ds Q ⟨some d, .buildSlice t m ps, ty, pos, af, g⟩ s σ K :=
  SOp.of_out hd fun G a w hs => aBuildSliceM_out hs.inv hs.ev h

/-- What is not written to any more is a list. -/
theorem AWp.freeze {c : Code} (i id : Nat) {e : TypeId} {m : Nat} (es : List AV) {cs : List AV} (hs : s i = .msl id 0 m m) (h0 : σ id = none) (hm : es.length = m) (hl : ∀ v ∈ es, v.cells.length = P.cellsOf e) (hc : cs = flatC es)
    (h : AWp P n ds c Q (s.put (some i) (.lst e es .full false)) σ) : AWp P n ds c Q s (σ.set id (.cells e cs)) := by
  subst hc hm
  intro G0 G a w h1 h2
  have hi := h2.inv
  have hri := h2.rep i
  rw [hs] at hri
  obtain ⟨b, vs, k1, k2, k3, k4⟩ := hi.cells id e (flatC es) (by simp [AS.set])
  generalize hv : a.tmps.getD i undef = v at hri
  cases hri with
  | msl hb =>
    rename_i b'
    rw [k1] at hb
    obtain rfl := Option.some.inj hb
    obtain ⟨f1, f2⟩ := flatC_get (m := P.cellsOf e) es hl
    have hfree : ∀ o, G.mem b o = none := (hi.injB id b k1).2.2 e (flatC es) (by simp [AS.set])
    have hle : G.Le (G.keep b 0 (flatC es).length (fun k => vs.getD k undef)) := by
      refine ⟨rfl, rfl, fun b' o v em => ?_, fun _ _ e => e, fun t r e => ⟨r, e, rfl, .inl rfl⟩⟩
      rw [Gh.keep_out]
      · exact em
      · rintro ⟨rfl, _⟩; rw [hfree o] at em; cases em
    have old : ∀ j x, σ j = some x → j ≠ id ∧ (σ.set id (.cells e (flatC es))) j = some x := by
      intro j x ej
      have : j ≠ id := by intro e'; subst e'; rw [h0] at ej; cases ej
      exact ⟨this, by simp [AS.set, this, ej]⟩
    refine h G0 _ a w (h1.trans hle) ⟨?_, h2.size, h2.ds, fun j => ?_⟩
    · refine ⟨hi.below, hi.base, ?_, hi.top, ?_, hi.inj1, ?_, ?_, ?_, ?_, ?_⟩
      · intro b' o v em
        by_cases hc : b' = b ∧ 0 ≤ o ∧ o < 0 + (flatC es).length
        · obtain ⟨rfl, h3, h4⟩ := hc
          rw [Gh.keep_in h3 h4] at em
          obtain rfl := Option.some.inj em
          have ho : o < vs.size := by omega
          refine ⟨?_, (k4 o (by omega)).2⟩
          simp [World.cell?, k2, ho]
        · rw [Gh.keep_out hc] at em
          exact hi.mem b' o v em
      · intro j c ej
        have := hi.injB j c ej
        refine ⟨this.1, this.2.1, fun ty cs' hn o => ?_⟩
        obtain ⟨hne, hset⟩ := old j _ hn
        have hcb : c ≠ b := fun e' => hne (hi.inj1 j id b (e' ▸ ej) k1)
        rw [Gh.keep_out (fun hh => hcb hh.1)]
        exact this.2.2 ty cs' hset o
      · intro j ty cs' ej
        obtain ⟨c, vs', m1, m2, m3, m4⟩ := hi.cells j ty cs' (old j _ ej).2
        exact ⟨c, vs', m1, m2, m3, fun k hk => ⟨(m4 k hk).1.mono hle, (m4 k hk).2⟩⟩
      · intro j es' ej
        obtain ⟨c, ms, cl, m1, m2, m3, m4⟩ := hi.maps j es' (old j _ ej).2
        refine ⟨c, ms, cl, m1, m2, m3, fun k hk => ?_⟩
        obtain ⟨q, q1, q2, q3⟩ := m4 k hk
        exact ⟨q, q1, q2.mono hle, q3.mono hle⟩
      · intro j s' p ej
        exact hi.iters j s' p (old j _ ej).2
      · intro j m ej
        exact hi.tok j m (old j _ ej).2
      · intro t r et
        obtain ⟨m1, m2, m3⟩ := hi.own t r et
        refine ⟨m1, m2, fun c o ea k hk1 hk2 => ?_⟩
        obtain ⟨q1, q2, q3, q4, q5, q6, q7⟩ := m3 c o ea k hk1 hk2
        refine ⟨q1, q2, ?_, q4, q5, q6, q7⟩
        rw [Gh.keep_out (fun hh => q4 id (by rw [k1, hh.1]))]
        exact q3
    · by_cases hj : j = i
      · subst hj
        rw [put_app, if_pos rfl, hv]
        have hlen : (flatC es).length = es.length * P.cellsOf e := f1
        refine Rep.lst (fun k => vs.getD k undef) (fun i hi => hl _ ?_) (fun k hk => ?_) (fun i j hi hj => ?_) (Nat.le_refl _) ⟨_, rfl⟩
        · rw [List.getD_eq_getElem?_getD, List.getElem?_eq_getElem hi]; exact List.getElem_mem hi
        · rw [Gh.keep_in (by omega) (by omega)]; simp
        · have := (k4 (i * P.cellsOf e + j) (by
            rw [hlen]
            calc i * P.cellsOf e + j < i * P.cellsOf e + P.cellsOf e := by omega
              _ = (i + 1) * P.cellsOf e := by rw [Nat.add_mul]; omega
              _ ≤ es.length * P.cellsOf e := Nat.mul_le_mul_right _ hi)).1
          rw [f2 i j hi hj] at this
          exact this.mono hle
      · rw [put_app, if_neg hj]
        exact (h2.rep j).mono hle

/-! ## what is told of a block, told anew -/

theorem Inv.retell {G : Gh} {w : World} (hi : Inv P G σ w) {id b : Nat} {ty : TypeId} {cs cs' : List AV} {vs : Array Value} (hσ : σ id = some (.cells ty cs)) (hb : G.inj id = some b) (hw : w.heap[b]? = some (.cells vs ty (0, 0)))
    (hl : cs'.length = cs.length) (hk : ∀ k, k < cs'.length → Rep P G (cs'.getD k .any) (vs.getD k undef)) : Inv P G (σ.set id (.cells ty cs')) w := by
  have other : ∀ j, j ≠ id → (σ.set id (.cells ty cs')) j = σ j := fun j hj => by simp [AS.set, hj]
  refine { below := hi.below, base := hi.base, mem := hi.mem, top := hi.top, injB := fun i b e => ⟨(hi.injB i b e).1, (hi.injB i b e).2.1, fun ty' ds' hn => by
    by_cases hj : i = id
    · subst hj; exact (hi.injB i b e).2.2 ty cs hσ
    · exact (hi.injB i b e).2.2 ty' ds' (by rw [← other i hj]; exact hn)⟩, inj1 := hi.inj1, own := hi.own, cells := ?_, maps := ?_, iters := ?_, tok := ?_ }
  · intro j ty' ds' e
    by_cases hj : j = id
    · subst hj
      simp only [AS.set, if_true] at e
      cases e
      obtain ⟨b', vs', g1, g2, g3, g4⟩ := hi.cells j ty cs hσ
      rw [hb] at g1
      cases g1
      rw [hw] at g2
      cases g2
      exact ⟨b, vs, hb, hw, by omega, fun k hk' => ⟨hk k hk', (g4 k (by omega)).2⟩⟩
    · exact hi.cells j ty' ds' (by rw [← other j hj]; exact e)
  · intro j es e
    by_cases hj : j = id
    · subst hj; simp [AS.set] at e
    · exact hi.maps j es (by rw [← other j hj]; exact e)
  · intro j es p e
    by_cases hj : j = id
    · subst hj; simp [AS.set] at e; subst e; cases p
    · exact hi.iters j es p (by rw [← other j hj]; exact e)
  · intro j m e
    by_cases hj : j = id
    · subst hj; simp [AS.set] at e
    · exact hi.tok j m (by rw [← other j hj]; exact e)

/-- A slice in a block's cell gets a token. -/
theorem AWp.mintC {c : Code} (id k : Nat) {ty : TypeId} {cs : List AV} (e : TypeId) (es : List AV) (nil : Bool) (hσ : σ id = some (.cells ty cs)) (hk : k < cs.length)
    (hs : cs.getD k .any = .lst e es .full nil ∨ (cs.getD k .any = .nilS ∧ es = [] ∧ nil = true))
    (h : ∀ tk, σ tk = none → AWp P n ds c Q s ((σ.set id (.cells ty (cs.set k (.lst e es (.tok tk) nil)))).set tk (.tok es.length))) : AWp P n ds c Q s σ := by
  intro G0 G a w h1 h2
  have hi := h2.inv
  obtain ⟨b, vs, g1, g2, g3, g4⟩ := hi.cells id ty cs hσ
  have hr : Rep P G (.lst e es .full nil) (vs.getD k undef) := by
    have := (g4 k hk).1
    rcases hs with hs | ⟨hs, rfl, rfl⟩
    · rw [hs] at this; exact this
    · rw [hs] at this
      generalize vs.getD k undef = v at this ⊢
      cases this
      exact .lstN ⟨none, rfl⟩
  obtain ⟨r, m1, m2, m3⟩ := hr.mint hi
  have hne : id ≠ G.top := by
    intro e'; subst e'
    rw [hi.fresh] at hσ; cases hσ
  have hσ' : (σ.set G.top (.tok es.length)) id = some (.cells ty cs) := by simp [AS.set, hne, hσ]
  have hre := m2.retell (cs' := cs.set k (.lst e es (.tok G.top) nil)) hσ' (m1.inj _ _ g1) g2 (by simp) (fun j hj => by
    simp at hj
    by_cases hjk : j = k
    · subst hjk
      rw [List.getD_eq_getElem?_getD, List.getElem?_set_self hk]
      exact m3
    · rw [List.getD_eq_getElem?_getD, List.getElem?_set_ne (fun e => hjk e.symm), ← List.getD_eq_getElem?_getD]
      exact ((g4 j hj).1).mono m1)
  rw [AS.set_comm (fun e => hne e.symm)] at hre
  exact h G.top hi.fresh G0 _ a w (h1.trans m1) ⟨hre, h2.size, h2.ds, fun j => (h2.rep j).mono m1⟩

/-- What is not written to any more is a list. -/
theorem Inv.freeze {G : Gh} {w : World} {id : Nat} {e : TypeId} {m : Nat} {es : List AV} (hi : Inv P G (σ.set id (.cells e (flatC es))) w) (h0 : σ id = none) (hm : es.length = m) (hl : ∀ v ∈ es, v.cells.length = P.cellsOf e) :
    ∃ G', G.Le G' ∧ Inv P G' σ w ∧ ∀ y, Rep P G (.msl id 0 m m) y → Rep P G' (.lst e es .full false) y := by
  subst hm
  obtain ⟨b, vs, k1, k2, k3, k4⟩ := hi.cells id e (flatC es) (by simp [AS.set])
  obtain ⟨f1, f2⟩ := flatC_get (m := P.cellsOf e) es hl
  have hfree : ∀ o, G.mem b o = none := (hi.injB id b k1).2.2 e (flatC es) (by simp [AS.set])
  have hle : G.Le (G.keep b 0 (flatC es).length (fun k => vs.getD k undef)) := by
    refine ⟨rfl, rfl, fun b' o v em => ?_, fun _ _ e => e, fun t r e => ⟨r, e, rfl, .inl rfl⟩⟩
    rw [Gh.keep_out]
    · exact em
    · rintro ⟨rfl, _⟩; rw [hfree o] at em; cases em
  have old : ∀ j x, σ j = some x → j ≠ id ∧ (σ.set id (.cells e (flatC es))) j = some x := by
    intro j x ej
    have : j ≠ id := by intro e'; subst e'; rw [h0] at ej; cases ej
    exact ⟨this, by simp [AS.set, this, ej]⟩
  refine ⟨_, hle, ⟨hi.below, hi.base, ?_, hi.top, ?_, hi.inj1, ?_, ?_, ?_, ?_, ?_⟩, ?_⟩
  · intro b' o v em
    by_cases hc : b' = b ∧ 0 ≤ o ∧ o < 0 + (flatC es).length
    · obtain ⟨rfl, h3, h4⟩ := hc
      rw [Gh.keep_in h3 h4] at em
      obtain rfl := Option.some.inj em
      have ho : o < vs.size := by omega
      refine ⟨?_, (k4 o (by omega)).2⟩
      simp [World.cell?, k2, ho]
    · rw [Gh.keep_out hc] at em
      exact hi.mem b' o v em
  · intro j c ej
    have := hi.injB j c ej
    refine ⟨this.1, this.2.1, fun ty cs' hn o => ?_⟩
    obtain ⟨hne, hset⟩ := old j _ hn
    have hcb : c ≠ b := fun e' => hne (hi.inj1 j id b (e' ▸ ej) k1)
    rw [Gh.keep_out (fun hh => hcb hh.1)]
    exact this.2.2 ty cs' hset o
  · intro j ty cs' ej
    obtain ⟨c, vs', m1, m2, m3, m4⟩ := hi.cells j ty cs' (old j _ ej).2
    exact ⟨c, vs', m1, m2, m3, fun k hk => ⟨(m4 k hk).1.mono hle, (m4 k hk).2⟩⟩
  · intro j es' ej
    obtain ⟨c, ms, cl, m1, m2, m3, m4⟩ := hi.maps j es' (old j _ ej).2
    refine ⟨c, ms, cl, m1, m2, m3, fun k hk => ?_⟩
    obtain ⟨q, q1, q2, q3⟩ := m4 k hk
    exact ⟨q, q1, q2.mono hle, q3.mono hle⟩
  · intro j s' p ej
    exact hi.iters j s' p (old j _ ej).2
  · intro j m ej
    exact hi.tok j m (old j _ ej).2
  · intro t r et
    obtain ⟨m1, m2, m3⟩ := hi.own t r et
    refine ⟨m1, m2, fun c o ea k hk1 hk2 => ?_⟩
    obtain ⟨q1, q2, q3, q4, q5, q6, q7⟩ := m3 c o ea k hk1 hk2
    refine ⟨q1, q2, ?_, q4, q5, q6, q7⟩
    rw [Gh.keep_out (fun hh => q4 id (by rw [k1, hh.1]))]
    exact q3
  · intro y hy
    cases hy with
    | msl hb =>
      rw [k1] at hb
      obtain rfl := Option.some.inj hb
      have hlen : (flatC es).length = es.length * P.cellsOf e := f1
      refine Rep.lst (fun k => vs.getD k undef) (fun i hi => hl _ ?_) (fun k hk => ?_) (fun i j hi hj => ?_) (Nat.le_refl _) ⟨_, rfl⟩
      · rw [List.getD_eq_getElem?_getD, List.getElem?_eq_getElem hi]; exact List.getElem_mem hi
      · rw [Gh.keep_in (by omega) (by omega)]; simp
      · have := (k4 (i * P.cellsOf e + j) (by
          rw [hlen]
          calc i * P.cellsOf e + j < i * P.cellsOf e + P.cellsOf e := by omega
            _ = (i + 1) * P.cellsOf e := by rw [Nat.add_mul]; omega
            _ ≤ es.length * P.cellsOf e := Nat.mul_le_mul_right _ hi)).1
        rw [f2 i j hi hj] at this
        exact this.mono hle

/-- .. wherever the slot tells it. -/
theorem AWp.freezeW {c : Code} (i id : Nat) {e : TypeId} {m : Nat} (es : List AV) {cs : List AV} (v' : AV) (h0 : σ id = none) (hm : es.length = m) (hl : ∀ v ∈ es, v.cells.length = P.cellsOf e) (hc : cs = flatC es)
    (hv : ∀ (G G' : Gh) (x : Value), G.Le G' → (∀ y, Rep P G (.msl id 0 m m) y → Rep P G' (.lst e es .full false) y) → Rep P G (s i) x → Rep P G' v' x)
    (h : AWp P n ds c Q (s.put (some i) v') σ) : AWp P n ds c Q s (σ.set id (.cells e cs)) := by
  subst hc
  intro G0 G a w h1 h2
  obtain ⟨G', hle, hi, conv⟩ := h2.inv.freeze h0 hm hl
  refine h G0 _ a w (h1.trans hle) ⟨hi, h2.size, h2.ds, fun j => ?_⟩
  by_cases hj : j = i
  · subst hj
    rw [put_app, if_pos rfl]
    exact hv _ _ _ hle conv (h2.rep j)
  · rw [put_app, if_neg hj]
    exact (h2.rep j).mono hle

/-- .. and what a call is handed. -/
theorem ACalls.frz {f : FuncId} {as as' : List AV} {R Rp : AV → AS → Prop} (id : Nat) {e : TypeId} {m : Nat} (es : List AV) {cs : List AV} (h : ACalls P f as' σ R Rp) (h0 : σ id = none) (hm : es.length = m) (hl : ∀ v ∈ es, v.cells.length = P.cellsOf e) (hc : cs = flatC es)
    (hv : ∀ (G G' : Gh) (xs : Array Value), G.Le G' → (∀ y, Rep P G (.msl id 0 m m) y → Rep P G' (.lst e es .full false) y) → RepL P G as xs → RepL P G' as' xs) : ACalls P f as (σ.set id (.cells e cs)) R Rp := by
  subst hc
  refine ⟨h.body, fun G w vals hi hr => ?_⟩
  obtain ⟨G', hle, hi', conv⟩ := hi.freeze h0 hm hl
  refine (h.run G' w vals hi' (hv _ _ _ hle conv hr)).mono fun e w' he => ?_
  unfold EndOk at he ⊢
  split at he
  · obtain ⟨G2, σ', r, g1, g2, g3, g4⟩ := he
    exact ⟨G2, σ', r, hle.trans g1, g2, g3, g4⟩
  · obtain ⟨x, y, G2, σ', r, g1, g2, g3, g4⟩ := he
    exact ⟨x, y, G2, σ', r, hle.trans g1, g2, g3, g4⟩
  · exact he.elim

/-- A block's cells, told less of. -/
theorem AWp.wkC {c : Code} (id : Nat) {ty : TypeId} {cs : List AV} (cs' : List AV) (hσ : σ id = some (.cells ty cs)) (hl : cs'.length = cs.length) (hk : ∀ k, k < cs'.length → AV.Wk P (cs.getD k .any) (cs'.getD k .any))
    (h : AWp P n ds c Q s (σ.set id (.cells ty cs'))) : AWp P n ds c Q s σ := by
  intro G0 G a w h1 h2
  obtain ⟨b, vs, g1, g2, g3, g4⟩ := h2.inv.cells id ty cs hσ
  exact h G0 G a w h1 ⟨h2.inv.retell hσ g1 g2 hl (fun k hk' => hk k hk' _ _ (g4 k (by omega)).1), h2.size, h2.ds, h2.rep⟩

/-- Lists whose elements are told less of. -/
theorem Wk_snoc {P : Program} {e : TypeId} {l : List AV} {x x' : AV} {o : Own} {nl : Bool} (h : AV.Wk P x x') (hc : x.cells = [x]) (hc' : x'.cells = [x']) : AV.Wk P (.lst e (l ++ [x]) o nl) (.lst e (l ++ [x']) o nl) := by
  intro G v hv
  have getL : ∀ (y : AV) i, i < l.length → (l ++ [y]).getD i .any = l.getD i .any := fun y i hi => by
    simp [List.getD_eq_getElem?_getD, List.getElem?_append_left hi]
  have getX : ∀ (y : AV), (l ++ [y]).getD l.length .any = y := fun y => by simp
  generalize hL : l ++ [x] = L at hv
  cases hv with
  | lstN ho => simp at hL
  | lstZ => simp at hL
  | lst vs hl hm hr hcap ho =>
    subst hL
    have hlen : (l ++ [x]).length = (l ++ [x']).length := by simp
    rw [hlen] at hcap ho ⊢
    refine .lst vs (fun i hi => ?_) (fun k hk => hm k (by rw [hlen]; exact hk)) (fun i j hi hj => ?_) hcap ho
    · have h1 := hl i (by rw [hlen]; exact hi)
      simp at hi
      by_cases hlt : i < l.length
      · rw [getL _ i hlt] at h1 ⊢; exact h1
      · obtain rfl : i = l.length := by omega
        rw [getX] at h1 ⊢
        rw [hc'] ; rw [hc] at h1; exact h1
    · have h1 := hr i j (by rw [hlen]; exact hi) hj
      have h2 := hl i (by rw [hlen]; exact hi)
      simp at hi
      by_cases hlt : i < l.length
      · rw [getL _ i hlt] at h1 ⊢; exact h1
      · obtain rfl : i = l.length := by omega
        rw [getX] at h1 h2 ⊢
        rw [hc] at h1 h2
        rw [hc']
        simp at h2
        obtain rfl : j = 0 := by omega
        exact h _ _ h1


/-- A block whose end is marked. -/
theorem Inv.marked {G : Gh} {w : World} {b n : Nat} {vs : Array Value} {e : TypeId} (h : Inv P G σ w) (hw : w.heap[b]? = some (.cells vs e (0, 0))) (hB : G.B ≤ b) (hσ : ∀ i ty cs, σ i = some (.cells ty cs) → G.inj i ≠ some b)
    (hown : ∀ t r c o, G.own t = some r → r.a = some (c, o) → r.len * P.cellsOf r.ety < r.cap * P.cellsOf r.ety → c ≠ b) :
    Inv P G σ { w with heap := w.heap.setIfInBounds b (.cells vs e (n, n + 1)) } := by
  have hlt := lt_of_heap hw
  have other : ∀ k, k ≠ b → (w.heap.setIfInBounds b (.cells vs e (n, n + 1)))[k]? = w.heap[k]? := fun k hk => Array.getElem?_setIfInBounds_ne (fun e => hk e.symm)
  have same : (w.heap.setIfInBounds b (.cells vs e (n, n + 1)))[b]? = some (.cells vs e (n, n + 1)) := by simp [hlt]
  refine ⟨⟨h.below.os, h.below.tape, h.below.output, by simpa using h.below.size, fun k hk => by
    have hkb : k ≠ b := by omega
    rw [show ({ w with heap := w.heap.setIfInBounds b (.cells vs e (n, n + 1)) } : World).heap[k]? = (w.heap.setIfInBounds b (.cells vs e (n, n + 1)))[k]? from rfl, other k hkb]
    exact h.below.block k hk⟩, h.base, ?_, h.top, ?_, h.inj1, ?_, ?_, ?_, h.tok, ?_⟩
  · intro b' o v em
    refine ⟨?_, (h.mem b' o v em).2⟩
    have h1 := (h.mem b' o v em).1
    by_cases hb : b' = b
    · subst hb
      simp only [World.cell?, hw] at h1
      simp only [World.cell?, same]
      exact h1
    · rw [World.cell?_of_block (w := w) (other b' hb)]; exact h1
  · intro j c ej
    have := h.injB j c ej
    exact ⟨this.1, by simpa using this.2.1, this.2.2⟩
  · intro j ty' cs' ej
    obtain ⟨c, vs', k1, k2, k3⟩ := h.cells j ty' cs' ej
    have hne : c ≠ b := fun e' => hσ j ty' cs' ej (e' ▸ k1)
    exact ⟨c, vs', k1, by rw [other c hne]; exact k2, k3⟩
  · intro j es' ej
    obtain ⟨c, ms2, cl, k1, k2, k3⟩ := h.maps j es' ej
    have hne : c ≠ b := by rintro rfl; rw [hw] at k2; cases k2
    exact ⟨c, ms2, cl, k1, by rw [other c hne]; exact k2, k3⟩
  · intro j s p ej
    obtain ⟨c, k1, k2⟩ := h.iters j s p ej
    refine ⟨c, k1, k2.keep (fun _ _ h => h) (fun o ho => ?_) (fun m ms cl hm => by rw [other m (fun e => by subst e; rw [hw] at hm; cases hm)]; exact hm)⟩
    by_cases hb : c = b
    · subst hb
      exfalso
      cases s with
      | siter q z => have : w.heap[c]? = some (.stringIter q z) := k2; rw [hw] at this; cases this
      | miter q z d => obtain ⟨m, since, seen, last, ms, clock, q1, _⟩ := k2; rw [hw] at q1; cases q1
      | cells _ _ => cases p
      | tok _ => cases p
      | map _ => cases p
    · rw [other c hb]; exact ho
  · intro t r et
    obtain ⟨k1, k2, k3⟩ := h.own t r et
    refine ⟨k1, k2, fun c o ea k hk1 hk2 => ?_⟩
    obtain ⟨m1, m2, m3, m4, m5, m6, m7⟩ := k3 c o ea k hk1 hk2
    have hne : c ≠ b := hown t r c o et ea (by omega)
    refine ⟨?_, ?_, m3, m4, m5, by simpa using m6, m7⟩
    · rw [World.cell?_of_block (w := w) (other c hne)]; exact m1
    · rw [World.frozen?_of_block (w := w) (other c hne)]; exact m2

/-- A constant text's bytes: a slice that is built and converted to itself. -/
theorem SOp.convF {d src dst : Nat} {x : Operand} {ty : TypeId} {pos : String} {af : Array Edge} {g : Option (Nat × Bool)} {K : Fr → AS → Prop} (hd : d < n) (id : Nat) {e : TypeId} {m : Nat} (es : List AV) {cs : List AV} (h0 : σ id = none)
    (hs : P.underlying src = some (.slice e)) (hsd : src = dst) (he : P.underlying e = some (.int .u8)) (hx : ev s x = .msl id 0 m m) (hm : es.length = m) (hl : ∀ v ∈ es, v.cells.length = P.cellsOf e) (hc : cs = flatC es)
    (h : K (s.put (some d) (.lst e es .full false)) σ) : SOp P n ds Q ⟨some d, .convert src dst x, ty, pos, af, g⟩ s (σ.set id (.cells e cs)) K := by
  subst hc hsd
  refine SOp.of_out hd fun G a w hsim => ?_
  have hrx := hsim.ev x
  rw [hx] at hrx
  have hi := hsim.inv
  obtain ⟨b, vs, k1, k2, k3, k4⟩ := hi.cells id e (flatC es) (by simp [AS.set])
  obtain ⟨G', hle, hi', conv⟩ := hi.freeze h0 hm hl
  have hv := conv _ hrx
  generalize hxv : a.eval x = xv at hrx hv
  cases hrx with
  | msl hb =>
    rw [k1] at hb
    obtain rfl := Option.some.inj hb
    have hinj := hle.inj _ _ k1
    have hlt := lt_of_heap k2
    have hmk : Inv P G' σ { w with heap := w.heap.setIfInBounds b (.cells vs e (vs.size, vs.size + 1)) } := by
      refine hi'.marked k2 (hi'.injB id b hinj).1 (fun i ty cs hs' hc' => ?_) (fun t r c o et ea hr hcb => ?_)
      · have := hi'.inj1 i id b hc' hinj
        subst this
        rw [h0] at hs'; cases hs'
      · subst hcb
        have := (hi'.own t r et).2.2 c o ea (r.len * P.cellsOf r.ety) (Nat.le_refl _) hr
        exact this.2.2.2.1 id hinj
    have hrun : (convert src src (.slice (some ⟨b, 0, none⟩) m m)).run P w = .ok (.slice (some ⟨b, 0, none⟩) m m) { w with heap := w.heap.setIfInBounds b (.cells vs e (vs.size, vs.size + 1)) } := by
      have hsh : w.shape? b = some (e, vs.size) := by simp [World.shape?, k2]
      have hfr : w.freeze ⟨b, vs.size, none⟩ 1 = { w with heap := w.heap.setIfInBounds b (.cells vs e (vs.size, vs.size + 1)) } := by
        unfold World.freeze
        rw [if_neg (by decide)]
        have hg : w.heap[b] = .cells vs e (0, 0) := by
          have := k2
          rw [Array.getElem?_eq_getElem hlt] at this
          exact Option.some.inj this
        congr 1
        apply Array.ext
        · simp
        · intro i h1 h2
          by_cases hib : b = i
          · subst hib
            simp [Array.getElem_modify, hg]
          · rw [Array.getElem_modify, if_neg hib]
            exact (Array.getElem_setIfInBounds_ne (by simpa using h1) hib).symm
      simp [convert, run_underlying hs, run_underlying he, markStringish, shape, freeze, Sem.run_bind, Result.andThen, Sem.run, hsh, hfr]
    show Out P G _ _ (((do pure (Next.value (← convert src src (a.eval x)))) : Sem Next).run P w)
    rw [hxv]
    exact Out.value hrun hle hmk hv h

end Go.AW
