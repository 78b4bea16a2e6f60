/- A layer of abstract values over the model's machine: own work for this claim, part AwMut. -/
import Derived.Test.YthpmabablfkekaaAwSimp
import Derived.MapKept
import Derived.Recover
set_option linter.unusedSimpArgs false
set_option linter.unusedVariables false
namespace Go.AW
open Go Go.RowKit

variable {P : Program} {n : Nat} {ds : List Deferred} {Q : AQ} {s : Fr} {σ : AS}

/-! ## an operation, by what it brings about -/

/-- What an operation does, said by what may follow. -/
def SOp (P : Program) (n : Nat) (ds : List Deferred) (Q : AQ) (o : Oper) (s : Fr) (σ : AS) (K : Fr → AS → Prop) : Prop :=
  ∀ (G0 G : Gh) (a : Act) (w : World), G0.Le G → Sim P G n ds s σ a w → ∀ next : Act → World → Prop,
    (∀ G' s' σ' a' w', G0.Le G' → Sim P G' n ds s' σ' a' w' → K s' σ' → next a' w') → o.wp P a w next (LQ P n ds Q G0)

theorem SOp.step {o : Oper} {K : Fr → AS → Prop} (h : stepOp P n o s σ K Q) : SOp P n ds Q o s σ K :=
  fun _ _ _ _ hle hs _ hn => stepOp_ok o h hle hs hn

theorem SOp.of_out {o : Oper} {K : Fr → AS → Prop} (hd : match o.dst with | none => True | some d => d < n)
    (h : ∀ (G : Gh) (a : Act) (w : World), Sim P G n ds s σ a w → Out P G (fun v σ' => K (s.put o.dst v) σ') (fun v σ' => Q (.panic v) s σ') ((execOp a.eval o).run P w)) : SOp P n ds Q o s σ K := by
  intro G0 G a w hle hs next hn
  have hd' : ∀ t, o.dst = some t → t < n := by intro t ht; rw [ht] at hd; exact hd
  have := h G a w hs
  unfold Oper.wp
  generalize (execOp a.eval o).run P w = r at this ⊢
  cases r with
  | ok nx w' =>
    cases nx <;> simp only [Out] at this <;> first | exact this.elim | skip
    · obtain ⟨G', σ', av, g1, g2, g3, g4⟩ := this
      exact hn G' _ _ _ _ (hle.trans g1) (hs.put g1 g2 o.dst hd' g3) g4
    · obtain ⟨G', σ', av, g1, g2, g3, g4⟩ := this
      exact hn G' _ _ _ _ (hle.trans g1) (hs.put g1 g2 o.dst hd' g3) g4
  | halt x w' =>
    cases x <;> simp only [Out] at this <;> first | exact this.elim | skip
    obtain ⟨G', σ', av, g1, g2, g3, g4⟩ := this
    exact ⟨rfl, rfl, G', s, σ', av, hle.trans g1, ⟨g2, hs.size, hs.ds, fun i => (hs.rep i).mono g1⟩, g3, g4⟩

/-- Operations one behind the other, each by its text or by what it brings about. -/
def sOps (P : Program) (n : Nat) (ds : List Deferred) (ops : Array Oper) (Q : AQ) : List Oper → Fr → AS → Prop
  | [], s, σ => Q .normal s σ
  | o :: r, s, σ => (o.guard = none ∧ SOp P n ds Q o s σ (sOps P n ds ops Q r)) ∨ guardOp P n ops o s σ (sOps P n ds ops Q r) Q

theorem sOps.sp {ops : Array Oper} {o : Oper} {r : List Oper} (hg : o.guard = none) (h : SOp P n ds Q o s σ (sOps P n ds ops Q r)) : sOps P n ds ops Q (o :: r) s σ := .inl ⟨hg, h⟩

theorem sOps.pre {ops : Array Oper} : ∀ (l r : List Oper) (s : Fr) (σ : AS), awpOps P n ops (thenQ (sOps P n ds ops Q r) Q) l s σ → sOps P n ds ops Q (l ++ r) s σ := by
  intro l
  induction l with
  | nil => intro r s σ h; exact h
  | cons o l ih =>
    intro r s σ h
    refine .inr ?_
    have h' : guardOp P n ops o s σ (awpOps P n ops (thenQ (sOps P n ds ops Q r) Q) l) (thenQ (sOps P n ds ops Q r) Q) := h
    rw [guardOp_eq] at h' ⊢
    exact gop_mono (fun v σ' h5 => ih r _ _ h5) (fun _ _ h => h) h'

theorem sOps.rest {ops : Array Oper} {r : List Oper} (h : awpOps P n ops Q r s σ) : sOps P n ds ops Q r s σ := by
  have e : thenQ (sOps P n ds ops Q []) Q = Q := by funext e s σ; cases e <;> rfl
  have := sOps.pre (ds := ds) (Q := Q) (ops := ops) r [] s σ (by rw [e]; exact h)
  simpa using this

/-- The first k operations by their text. -/
theorem sOps.first {ops : Array Oper} {l : List Oper} (k : Nat) (h : awpOps P n ops (thenQ (sOps P n ds ops Q (l.drop k)) Q) (l.take k) s σ) : sOps P n ds ops Q l s σ := by
  have := sOps.pre (ds := ds) (Q := Q) (ops := ops) (l.take k) (l.drop k) s σ h
  rwa [List.take_append_drop] at this

theorem sOps_ok {ops : Array Oper} {G0 : Gh} : ∀ (l : List Oper) (G : Gh) (s : Fr) (σ : AS) (a : Act) (w : World), sOps P n ds ops Q l s σ → G0.Le G → Sim P G n ds s σ a w →
    wpList P ops (LQ P n ds Q G0) l a w := by
  intro l
  induction l with
  | nil => intro G s σ a w h hle hs; exact ⟨G, s, σ, hle, hs, h⟩
  | cons o rest ih =>
    intro G s σ a w h hle hs
    unfold wpList
    rcases h with ⟨hg, h⟩ | h
    · have hw : Region.wanted o (yielded ops a.tmps) = true := by simp [Region.wanted, hg]
      rw [if_pos hw]
      exact .inl (h G0 G a w hle hs _ (fun G' s' σ' a' w' h1 h2 h3 => ih G' s' σ' a' w' h3 h1 h2))
    · have := guardOp_ok o h hle hs (next := wpList P ops (LQ P n ds Q G0) rest) (fun G' s' σ' a' w' h1 h2 h3 => ih G' s' σ' a' w' h3 h1 h2)
      by_cases hw : Region.wanted o (yielded ops a.tmps) = true
      · rw [if_pos hw] at this ⊢; exact .inl this
      · rw [if_neg hw] at this ⊢; exact this

theorem AWp.regionS {id : Nat} {l : List Oper} (h : sOps P n ds l.toArray Q l s σ) : AWp P n ds (.region id l.toArray false) Q s σ :=
  fun G0 G a w h1 h2 => wp_region_lit (sOps_ok l G s σ a w h h1 h2)

@[congr] theorem sOps_congr {ops : Array Oper} {l : List Oper} {s s' : Fr} {σ σ' : AS} (h1 : s = s') (h2 : σ = σ') : sOps P n ds ops Q l s σ = sOps P n ds ops Q l s' σ' := by subst h1 h2; rfl

/-! ## a slice that is written to -/

def flatC (l : List AV) : List AV := l.flatMap (·.cells)
@[simp] theorem flatC_nil : flatC [] = [] := rfl
@[simp] theorem flatC_cons (v : AV) (r : List AV) : flatC (v :: r) = v.cells ++ flatC r := rfl
theorem flatC_get {m : Nat} : ∀ (l : List AV), (∀ v ∈ l, v.cells.length = m) → (flatC l).length = l.length * m ∧ ∀ i j, i < l.length → j < m → (flatC l).getD (i * m + j) .any = (l.getD i .any).cells.getD j .any := by
  intro l
  induction l with
  | nil => intro _; exact ⟨by simp, fun i j hi => by simp at hi⟩
  | cons v r ih =>
    intro h
    obtain ⟨h1, h2⟩ := ih fun v hv => h v (by simp [hv])
    have h0 := h v (by simp)
    refine ⟨by simp [h1, h0, Nat.add_mul]; omega, fun i j hi hj => ?_⟩
    cases i with
    | zero => simp only [flatC_cons]; rw [getD_append_left _ _ _ (by omega)]; simp
    | succ i =>
      simp only [flatC_cons]
      have : (i + 1) * m + j = v.cells.length + (i * m + j) := by rw [h0, Nat.add_mul]; omega
      rw [this, getD_append_right _ _ _ (by omega)]
      have e : v.cells.length + (i * m + j) - v.cells.length = i * m + j := by omega
      rw [e, h2 i j (by simpa using hi) hj]
      simp

def aBuildSliceM (P : Program) (σ : AS) (t : TypeId) (len : Nat) (parts : List (Nat × AV)) (K : AV → AS → Prop) : Prop :=
  match sliceT P t with
  | some e => parts.length = len ∧ P.cellsOf e ≠ 0 ∧ len * P.cellsOf e ≤ 2 ^ 24 ∧ (zeroAV P e).laid = true ∧ (zeroAV P e).cells.length = P.cellsOf e ∧ aElems (P.cellsOf e) 0 parts = true ∧
      ∀ id, σ id = none → K (.msl id 0 len len) (σ.set id (.cells e (flatC (parts.map (·.2)))))
  | none => False

theorem aElems_len {m : Nat} : ∀ (l : List (Nat × AV)) (k : Nat), aElems m k l = true → ∀ v ∈ l.map (·.2), v.cells.length = m := by
  intro l
  induction l with
  | nil => intro k _ v hv; simp at hv
  | cons p r ih =>
    intro k hk v hv
    obtain ⟨q, x⟩ := p
    simp only [aElems, Bool.and_eq_true, beq_iff_eq] at hk
    simp only [List.map_cons, List.mem_cons] at hv
    rcases hv with rfl | hv
    · exact hk.1.2
    · exact ih (k + 1) hk.2 v hv

theorem aBuildSliceM_out {G : Gh} {w : World} {K Pn : AV → AS → Prop} (hi : Inv P G σ w) {t : TypeId} {len : Nat} {parts : Array (Nat × Operand)} {s : Fr} {ρ : Operand → Value} (hρ : ∀ x, Rep P G (ev s x) (ρ x))
    (h : aBuildSliceM P σ t len (parts.toList.map fun p => (p.1, ev s p.2)) K) :
    Out P G K Pn (((do pure (Next.value (← Instr.buildSlice t len (parts.map fun (i, x) => (i, ρ x))))) : Sem Next).run P w) := by
  unfold aBuildSliceM at h
  split at h
  · rename_i e he
    obtain ⟨h1, h2, h3, h4, h5, h6, h7⟩ := h
    have hu := sliceT_eq he
    obtain ⟨it, z, hit, hz, hzr⟩ := zeroAV_info h4
    have hsz : it.size = P.cellsOf e := by simp [Program.cellsOf, hit]
    have hvp : (parts.map fun (i, x) => (i, ρ x)).toList = parts.toList.map fun p => (p.1, ρ p.2) := by simp
    have hlen : parts.toList.length = len := by simpa using h1
    let zero : Array Value := if len * P.cellsOf e = 0 then #[] else z.cells
    let init : Array Value := (Array.range (len * P.cellsOf e)).map (zero[· % zero.size]!)
    obtain ⟨a', g1, g2, _, g4⟩ := fill_elems (P := P) (G := G) (e := e) (parts.toList.map fun p => (p.1, ev s p.2)) (parts.toList.map fun p => (p.1, ρ p.2)) 0 (P.cellsOf e) init (by simp) (fun i hi => by
      simp at hi
      simp [List.getD_eq_getElem?_getD, hi]
      exact hρ _) h6 (by simp at hlen; simp [init, hlen]) (fun c hc => by omega)
    have hsize : a'.size = len * P.cellsOf e := by rw [g2]; simp [init]
    have hrun : (Instr.buildSlice t len (parts.map fun (i, x) => (i, ρ x))).run P w = .ok (.slice (some ⟨w.heap.size, 0, none⟩) len len) (w.alloc (.cells a' e)) := by
      have hsz' : ¬ (len * P.cellsOf e > 2 ^ 24) := by omega
      have g1' : Instr.fill (fun i => some (i * P.cellsOf e, P.cellsOf e)) ((Array.range (len * P.cellsOf e)).map (zero[· % zero.size]!)) (parts.map fun (i, x) => (i, ρ x)).toList = some a' := by rw [hvp]; exact g1
      simp only [Instr.buildSlice, Sem.run_bind, run_underlying hu, Result.andThen, sizeOf, run_typeInfo w hit, Sem.run_pure, hsz, hsz', if_false]
      by_cases h0 : len * P.cellsOf e = 0
      · simp only [zero, h0, if_true] at g1'
        simp [h0, Sem.run_bind, Result.andThen, g1', newRow, run_newObj_alloc]
        simp at g1'
        simp [g1', newRow, run_newObj_alloc, Sem.run_bind, Result.andThen]
      · simp only [zero, h0, if_false] at g1'
        simp only [h0, if_false, Sem.run_bind, zeroValue, run_typeInfo w hit, hz, Result.andThen, Sem.run_pure]
        rw [g1']
        simp [newRow, run_newObj_alloc, Sem.run_bind, Result.andThen]
    have hidx : ∀ k, k < len * P.cellsOf e → k / P.cellsOf e < len ∧ k % P.cellsOf e < P.cellsOf e ∧ (k / P.cellsOf e) * P.cellsOf e + k % P.cellsOf e = k := fun k hk =>
      ⟨Nat.div_lt_of_lt_mul (by rw [Nat.mul_comm]; exact hk), Nat.mod_lt _ (by omega), by rw [Nat.mul_comm]; exact Nat.div_add_mod k _⟩
    obtain ⟨f1, f2⟩ := flatC_get (m := P.cellsOf e) ((parts.toList.map fun p => (p.1, ev s p.2)).map (·.2)) (aElems_len _ 0 h6)
    have hml : ((parts.toList.map fun p => (p.1, ev s p.2)).map (·.2)).length = len := by simpa using h1
    rw [hml] at f1 f2
    obtain ⟨G', hle, hinj, hinv⟩ := hi.allocCells e a' (flatC ((parts.toList.map fun p => (p.1, ev s p.2)).map (·.2))) (by rw [hsize, f1]) (fun k hk => by
      rw [f1] at hk
      obtain ⟨k1, k2, k3⟩ := hidx k hk
      have h8 := f2 _ _ k1 k2
      rw [k3] at h8
      rw [h8]
      have := g4 (k / P.cellsOf e) (k % P.cellsOf e) (by simp at hlen ⊢; omega) k2
      rw [Nat.zero_add, k3] at this
      refine ⟨?_, this.2⟩
      have h9 := this.1
      have hlt : k / P.cellsOf e < (parts.toList.map fun p => (p.1, ev s p.2)).length := by simp at hlen ⊢; omega
      have e9 : ((parts.toList.map fun p => (p.1, ev s p.2)).map (·.2)).getD (k / P.cellsOf e) AV.any = ((parts.toList.map fun p => (p.1, ev s p.2)).getD (k / P.cellsOf e) (0, AV.any)).2 := by
        simp only [List.getD_eq_getElem?_getD, List.getElem?_map, List.getElem?_eq_getElem hlt, Option.map_some, Option.getD_some]
      rw [e9]
      exact h9)
    exact Out.value hrun hle hinv (.msl hinj) (h7 _ hi.fresh)
  · exact h.elim

theorem SOp.buildM {d t m : Nat} {ps : Array (Nat × Operand)} {ty : TypeId} {pos : String} {af : Array Edge} {g : Option (Nat × Bool)} {K : Fr → AS → Prop} (hd : d < n)
    (h : aBuildSliceM P σ t m (ps.toList.map fun p => (p.1, ev s p.2)) (fun v σ' => K (s.put (some d) v) σ')) : SOp P n ds Q ⟨some d, .buildSlice t m ps, ty, pos, af, g⟩ s σ K :=
  SOp.of_out hd fun G a w hs => aBuildSliceM_out hs.inv hs.ev h

/-- What is not written to any more is a list. -/
theorem AWp.freeze {c : Code} (i id : Nat) {e : TypeId} {m : Nat} (es : List AV) {cs : List AV} (hs : s i = .msl id 0 m m) (h0 : σ id = none) (hm : es.length = m) (hl : ∀ v ∈ es, v.cells.length = P.cellsOf e) (hc : cs = flatC es)
    (h : AWp P n ds c Q (s.put (some i) (.lst e es .full false)) σ) : AWp P n ds c Q s (σ.set id (.cells e cs)) := by
  subst hc hm
  intro G0 G a w h1 h2
  have hi := h2.inv
  have hri := h2.rep i
  rw [hs] at hri
  obtain ⟨b, vs, k1, k2, k3, k4⟩ := hi.cells id e (flatC es) (by simp [AS.set])
  generalize hv : a.tmps.getD i undef = v at hri
  cases hri with
  | msl hb =>
    rename_i b'
    rw [k1] at hb
    obtain rfl := Option.some.inj hb
    obtain ⟨f1, f2⟩ := flatC_get (m := P.cellsOf e) es hl
    have hfree : ∀ o, G.mem b o = none := (hi.injB id b k1).2.2 e (flatC es) (by simp [AS.set])
    have hle : G.Le (G.keep b 0 (flatC es).length (fun k => vs.getD k undef)) := by
      refine ⟨rfl, rfl, fun b' o v em => ?_, fun _ _ e => e, fun t r e => ⟨r, e, rfl, .inl rfl⟩⟩
      rw [Gh.keep_out]
      · exact em
      · rintro ⟨rfl, _⟩; rw [hfree o] at em; cases em
    have old : ∀ j x, σ j = some x → j ≠ id ∧ (σ.set id (.cells e (flatC es))) j = some x := by
      intro j x ej
      have : j ≠ id := by intro e'; subst e'; rw [h0] at ej; cases ej
      exact ⟨this, by simp [AS.set, this, ej]⟩
    refine h G0 _ a w (h1.trans hle) ⟨?_, h2.size, h2.ds, fun j => ?_⟩
    · refine ⟨hi.below, hi.base, ?_, hi.top, ?_, hi.inj1, ?_, ?_, ?_, ?_, ?_⟩
      · intro b' o v em
        by_cases hc : b' = b ∧ 0 ≤ o ∧ o < 0 + (flatC es).length
        · obtain ⟨rfl, h3, h4⟩ := hc
          rw [Gh.keep_in h3 h4] at em
          obtain rfl := Option.some.inj em
          have ho : o < vs.size := by omega
          refine ⟨?_, (k4 o (by omega)).2⟩
          simp [World.cell?, k2, ho]
        · rw [Gh.keep_out hc] at em
          exact hi.mem b' o v em
      · intro j c ej
        have := hi.injB j c ej
        refine ⟨this.1, this.2.1, fun ty cs' hn o => ?_⟩
        obtain ⟨hne, hset⟩ := old j _ hn
        have hcb : c ≠ b := fun e' => hne (hi.inj1 j id b (e' ▸ ej) k1)
        rw [Gh.keep_out (fun hh => hcb hh.1)]
        exact this.2.2 ty cs' hset o
      · intro j ty cs' ej
        obtain ⟨c, vs', m1, m2, m3, m4⟩ := hi.cells j ty cs' (old j _ ej).2
        exact ⟨c, vs', m1, m2, m3, fun k hk => ⟨(m4 k hk).1.mono hle, (m4 k hk).2⟩⟩
      · intro j es' ej
        obtain ⟨c, ms, cl, m1, m2, m3, m4⟩ := hi.maps j es' (old j _ ej).2
        refine ⟨c, ms, cl, m1, m2, m3, fun k hk => ?_⟩
        obtain ⟨q, q1, q2, q3⟩ := m4 k hk
        exact ⟨q, q1, q2.mono hle, q3.mono hle⟩
      · intro j s' p ej
        exact hi.iters j s' p (old j _ ej).2
      · intro j m ej
        exact hi.tok j m (old j _ ej).2
      · intro t r et
        obtain ⟨m1, m2, m3⟩ := hi.own t r et
        refine ⟨m1, m2, fun c o ea k hk1 hk2 => ?_⟩
        obtain ⟨q1, q2, q3, q4, q5, q6, q7⟩ := m3 c o ea k hk1 hk2
        refine ⟨q1, q2, ?_, q4, q5, q6, q7⟩
        rw [Gh.keep_out (fun hh => q4 id (by rw [k1, hh.1]))]
        exact q3
    · by_cases hj : j = i
      · subst hj
        rw [put_app, if_pos rfl, hv]
        have hlen : (flatC es).length = es.length * P.cellsOf e := f1
        refine Rep.lst (fun k => vs.getD k undef) (fun i hi => hl _ ?_) (fun k hk => ?_) (fun i j hi hj => ?_) (Nat.le_refl _) ⟨_, rfl⟩
        · rw [List.getD_eq_getElem?_getD, List.getElem?_eq_getElem hi]; exact List.getElem_mem hi
        · rw [Gh.keep_in (by omega) (by omega)]; simp
        · have := (k4 (i * P.cellsOf e + j) (by
            rw [hlen]
            calc i * P.cellsOf e + j < i * P.cellsOf e + P.cellsOf e := by omega
              _ = (i + 1) * P.cellsOf e := by rw [Nat.add_mul]; omega
              _ ≤ es.length * P.cellsOf e := Nat.mul_le_mul_right _ hi)).1
          rw [f2 i j hi hj] at this
          exact this.mono hle
      · rw [put_app, if_neg hj]
        exact (h2.rep j).mono hle

/-! ## what is told of a block, told anew -/

theorem Inv.retell {G : Gh} {w : World} (hi : Inv P G σ w) {id b : Nat} {ty : TypeId} {cs cs' : List AV} {vs : Array Value} (hσ : σ id = some (.cells ty cs)) (hb : G.inj id = some b) (hw : w.heap[b]? = some (.cells vs ty (0, 0)))
    (hl : cs'.length = cs.length) (hk : ∀ k, k < cs'.length → Rep P G (cs'.getD k .any) (vs.getD k undef)) : Inv P G (σ.set id (.cells ty cs')) w := by
  have other : ∀ j, j ≠ id → (σ.set id (.cells ty cs')) j = σ j := fun j hj => by simp [AS.set, hj]
  refine { below := hi.below, base := hi.base, mem := hi.mem, top := hi.top, injB := fun i b e => ⟨(hi.injB i b e).1, (hi.injB i b e).2.1, fun ty' ds' hn => by
    by_cases hj : i = id
    · subst hj; exact (hi.injB i b e).2.2 ty cs hσ
    · exact (hi.injB i b e).2.2 ty' ds' (by rw [← other i hj]; exact hn)⟩, inj1 := hi.inj1, own := hi.own, cells := ?_, maps := ?_, iters := ?_, tok := ?_ }
  · intro j ty' ds' e
    by_cases hj : j = id
    · subst hj
      simp only [AS.set, if_true] at e
      cases e
      obtain ⟨b', vs', g1, g2, g3, g4⟩ := hi.cells j ty cs hσ
      rw [hb] at g1
      cases g1
      rw [hw] at g2
      cases g2
      exact ⟨b, vs, hb, hw, by omega, fun k hk' => ⟨hk k hk', (g4 k (by omega)).2⟩⟩
    · exact hi.cells j ty' ds' (by rw [← other j hj]; exact e)
  · intro j es e
    by_cases hj : j = id
    · subst hj; simp [AS.set] at e
    · exact hi.maps j es (by rw [← other j hj]; exact e)
  · intro j es p e
    by_cases hj : j = id
    · subst hj; simp [AS.set] at e; subst e; cases p
    · exact hi.iters j es p (by rw [← other j hj]; exact e)
  · intro j m e
    by_cases hj : j = id
    · subst hj; simp [AS.set] at e
    · exact hi.tok j m (by rw [← other j hj]; exact e)

/-- A slice in a block's cell gets a token. -/
theorem AWp.mintC {c : Code} (id k : Nat) {ty : TypeId} {cs : List AV} (e : TypeId) (es : List AV) (nil : Bool) (hσ : σ id = some (.cells ty cs)) (hk : k < cs.length)
    (hs : cs.getD k .any = .lst e es .full nil ∨ (cs.getD k .any = .nilS ∧ es = [] ∧ nil = true))
    (h : ∀ tk, σ tk = none → AWp P n ds c Q s ((σ.set id (.cells ty (cs.set k (.lst e es (.tok tk) nil)))).set tk (.tok es.length))) : AWp P n ds c Q s σ := by
  intro G0 G a w h1 h2
  have hi := h2.inv
  obtain ⟨b, vs, g1, g2, g3, g4⟩ := hi.cells id ty cs hσ
  have hr : Rep P G (.lst e es .full nil) (vs.getD k undef) := by
    have := (g4 k hk).1
    rcases hs with hs | ⟨hs, rfl, rfl⟩
    · rw [hs] at this; exact this
    · rw [hs] at this
      generalize vs.getD k undef = v at this ⊢
      cases this
      exact .lstN ⟨none, rfl⟩
  obtain ⟨r, m1, m2, m3⟩ := hr.mint hi
  have hne : id ≠ G.top := by
    intro e'; subst e'
    rw [hi.fresh] at hσ; cases hσ
  have hσ' : (σ.set G.top (.tok es.length)) id = some (.cells ty cs) := by simp [AS.set, hne, hσ]
  have hre := m2.retell (cs' := cs.set k (.lst e es (.tok G.top) nil)) hσ' (m1.inj _ _ g1) g2 (by simp) (fun j hj => by
    simp at hj
    by_cases hjk : j = k
    · subst hjk
      rw [List.getD_eq_getElem?_getD, List.getElem?_set_self hk]
      exact m3
    · rw [List.getD_eq_getElem?_getD, List.getElem?_set_ne (fun e => hjk e.symm), ← List.getD_eq_getElem?_getD]
      exact ((g4 j hj).1).mono m1)
  rw [AS.set_comm (fun e => hne e.symm)] at hre
  exact h G.top hi.fresh G0 _ a w (h1.trans m1) ⟨hre, h2.size, h2.ds, fun j => (h2.rep j).mono m1⟩

/-- What is not written to any more is a list. -/
theorem Inv.freeze {G : Gh} {w : World} {id : Nat} {e : TypeId} {m : Nat} {es : List AV} (hi : Inv P G (σ.set id (.cells e (flatC es))) w) (h0 : σ id = none) (hm : es.length = m) (hl : ∀ v ∈ es, v.cells.length = P.cellsOf e) :
    ∃ G', G.Le G' ∧ Inv P G' σ w ∧ ∀ y, Rep P G (.msl id 0 m m) y → Rep P G' (.lst e es .full false) y := by
  subst hm
  obtain ⟨b, vs, k1, k2, k3, k4⟩ := hi.cells id e (flatC es) (by simp [AS.set])
  obtain ⟨f1, f2⟩ := flatC_get (m := P.cellsOf e) es hl
  have hfree : ∀ o, G.mem b o = none := (hi.injB id b k1).2.2 e (flatC es) (by simp [AS.set])
  have hle : G.Le (G.keep b 0 (flatC es).length (fun k => vs.getD k undef)) := by
    refine ⟨rfl, rfl, fun b' o v em => ?_, fun _ _ e => e, fun t r e => ⟨r, e, rfl, .inl rfl⟩⟩
    rw [Gh.keep_out]
    · exact em
    · rintro ⟨rfl, _⟩; rw [hfree o] at em; cases em
  have old : ∀ j x, σ j = some x → j ≠ id ∧ (σ.set id (.cells e (flatC es))) j = some x := by
    intro j x ej
    have : j ≠ id := by intro e'; subst e'; rw [h0] at ej; cases ej
    exact ⟨this, by simp [AS.set, this, ej]⟩
  refine ⟨_, hle, ⟨hi.below, hi.base, ?_, hi.top, ?_, hi.inj1, ?_, ?_, ?_, ?_, ?_⟩, ?_⟩
  · intro b' o v em
    by_cases hc : b' = b ∧ 0 ≤ o ∧ o < 0 + (flatC es).length
    · obtain ⟨rfl, h3, h4⟩ := hc
      rw [Gh.keep_in h3 h4] at em
      obtain rfl := Option.some.inj em
      have ho : o < vs.size := by omega
      refine ⟨?_, (k4 o (by omega)).2⟩
      simp [World.cell?, k2, ho]
    · rw [Gh.keep_out hc] at em
      exact hi.mem b' o v em
  · intro j c ej
    have := hi.injB j c ej
    refine ⟨this.1, this.2.1, fun ty cs' hn o => ?_⟩
    obtain ⟨hne, hset⟩ := old j _ hn
    have hcb : c ≠ b := fun e' => hne (hi.inj1 j id b (e' ▸ ej) k1)
    rw [Gh.keep_out (fun hh => hcb hh.1)]
    exact this.2.2 ty cs' hset o
  · intro j ty cs' ej
    obtain ⟨c, vs', m1, m2, m3, m4⟩ := hi.cells j ty cs' (old j _ ej).2
    exact ⟨c, vs', m1, m2, m3, fun k hk => ⟨(m4 k hk).1.mono hle, (m4 k hk).2⟩⟩
  · intro j es' ej
    obtain ⟨c, ms, cl, m1, m2, m3, m4⟩ := hi.maps j es' (old j _ ej).2
    refine ⟨c, ms, cl, m1, m2, m3, fun k hk => ?_⟩
    obtain ⟨q, q1, q2, q3⟩ := m4 k hk
    exact ⟨q, q1, q2.mono hle, q3.mono hle⟩
  · intro j s' p ej
    exact hi.iters j s' p (old j _ ej).2
  · intro j m ej
    exact hi.tok j m (old j _ ej).2
  · intro t r et
    obtain ⟨m1, m2, m3⟩ := hi.own t r et
    refine ⟨m1, m2, fun c o ea k hk1 hk2 => ?_⟩
    obtain ⟨q1, q2, q3, q4, q5, q6, q7⟩ := m3 c o ea k hk1 hk2
    refine ⟨q1, q2, ?_, q4, q5, q6, q7⟩
    rw [Gh.keep_out (fun hh => q4 id (by rw [k1, hh.1]))]
    exact q3
  · intro y hy
    cases hy with
    | msl hb =>
      rw [k1] at hb
      obtain rfl := Option.some.inj hb
      have hlen : (flatC es).length = es.length * P.cellsOf e := f1
      refine Rep.lst (fun k => vs.getD k undef) (fun i hi => hl _ ?_) (fun k hk => ?_) (fun i j hi hj => ?_) (Nat.le_refl _) ⟨_, rfl⟩
      · rw [List.getD_eq_getElem?_getD, List.getElem?_eq_getElem hi]; exact List.getElem_mem hi
      · rw [Gh.keep_in (by omega) (by omega)]; simp
      · have := (k4 (i * P.cellsOf e + j) (by
          rw [hlen]
          calc i * P.cellsOf e + j < i * P.cellsOf e + P.cellsOf e := by omega
            _ = (i + 1) * P.cellsOf e := by rw [Nat.add_mul]; omega
            _ ≤ es.length * P.cellsOf e := Nat.mul_le_mul_right _ hi)).1
        rw [f2 i j hi hj] at this
        exact this.mono hle

/-- .. wherever the slot tells it. -/
theorem AWp.freezeW {c : Code} (i id : Nat) {e : TypeId} {m : Nat} (es : List AV) {cs : List AV} (v' : AV) (h0 : σ id = none) (hm : es.length = m) (hl : ∀ v ∈ es, v.cells.length = P.cellsOf e) (hc : cs = flatC es)
    (hv : ∀ (G G' : Gh) (x : Value), G.Le G' → (∀ y, Rep P G (.msl id 0 m m) y → Rep P G' (.lst e es .full false) y) → Rep P G (s i) x → Rep P G' v' x)
    (h : AWp P n ds c Q (s.put (some i) v') σ) : AWp P n ds c Q s (σ.set id (.cells e cs)) := by
  subst hc
  intro G0 G a w h1 h2
  obtain ⟨G', hle, hi, conv⟩ := h2.inv.freeze h0 hm hl
  refine h G0 _ a w (h1.trans hle) ⟨hi, h2.size, h2.ds, fun j => ?_⟩
  by_cases hj : j = i
  · subst hj
    rw [put_app, if_pos rfl]
    exact hv _ _ _ hle conv (h2.rep j)
  · rw [put_app, if_neg hj]
    exact (h2.rep j).mono hle

/-- .. and what a call is handed. -/
theorem ACalls.frz {f : FuncId} {as as' : List AV} {R Rp : AV → AS → Prop} (id : Nat) {e : TypeId} {m : Nat} (es : List AV) {cs : List AV} (h : ACalls P f as' σ R Rp) (h0 : σ id = none) (hm : es.length = m) (hl : ∀ v ∈ es, v.cells.length = P.cellsOf e) (hc : cs = flatC es)
    (hv : ∀ (G G' : Gh) (xs : Array Value), G.Le G' → (∀ y, Rep P G (.msl id 0 m m) y → Rep P G' (.lst e es .full false) y) → RepL P G as xs → RepL P G' as' xs) : ACalls P f as (σ.set id (.cells e cs)) R Rp := by
  subst hc
  refine ⟨h.body, fun G w vals hi hr => ?_⟩
  obtain ⟨G', hle, hi', conv⟩ := hi.freeze h0 hm hl
  refine (h.run G' w vals hi' (hv _ _ _ hle conv hr)).mono fun e w' he => ?_
  unfold EndOk at he ⊢
  split at he
  · obtain ⟨G2, σ', r, g1, g2, g3, g4⟩ := he
    exact ⟨G2, σ', r, hle.trans g1, g2, g3, g4⟩
  · obtain ⟨x, y, G2, σ', r, g1, g2, g3, g4⟩ := he
    exact ⟨x, y, G2, σ', r, hle.trans g1, g2, g3, g4⟩
  · exact he.elim

/-- A block's cells, told less of. -/
theorem AWp.wkC {c : Code} (id : Nat) {ty : TypeId} {cs : List AV} (cs' : List AV) (hσ : σ id = some (.cells ty cs)) (hl : cs'.length = cs.length) (hk : ∀ k, k < cs'.length → AV.Wk P (cs.getD k .any) (cs'.getD k .any))
    (h : AWp P n ds c Q s (σ.set id (.cells ty cs'))) : AWp P n ds c Q s σ := by
  intro G0 G a w h1 h2
  obtain ⟨b, vs, g1, g2, g3, g4⟩ := h2.inv.cells id ty cs hσ
  exact h G0 G a w h1 ⟨h2.inv.retell hσ g1 g2 hl (fun k hk' => hk k hk' _ _ (g4 k (by omega)).1), h2.size, h2.ds, h2.rep⟩

/-- Lists whose elements are told less of. -/
theorem Wk_snoc {P : Program} {e : TypeId} {l : List AV} {x x' : AV} {o : Own} {nl : Bool} (h : AV.Wk P x x') (hc : x.cells = [x]) (hc' : x'.cells = [x']) : AV.Wk P (.lst e (l ++ [x]) o nl) (.lst e (l ++ [x']) o nl) := by
  intro G v hv
  have getL : ∀ (y : AV) i, i < l.length → (l ++ [y]).getD i .any = l.getD i .any := fun y i hi => by
    simp [List.getD_eq_getElem?_getD, List.getElem?_append_left hi]
  have getX : ∀ (y : AV), (l ++ [y]).getD l.length .any = y := fun y => by simp
  generalize hL : l ++ [x] = L at hv
  cases hv with
  | lstN ho => simp at hL
  | lstZ => simp at hL
  | lst vs hl hm hr hcap ho =>
    subst hL
    have hlen : (l ++ [x]).length = (l ++ [x']).length := by simp
    rw [hlen] at hcap ho ⊢
    refine .lst vs (fun i hi => ?_) (fun k hk => hm k (by rw [hlen]; exact hk)) (fun i j hi hj => ?_) hcap ho
    · have h1 := hl i (by rw [hlen]; exact hi)
      simp at hi
      by_cases hlt : i < l.length
      · rw [getL _ i hlt] at h1 ⊢; exact h1
      · obtain rfl : i = l.length := by omega
        rw [getX] at h1 ⊢
        rw [hc'] ; rw [hc] at h1; exact h1
    · have h1 := hr i j (by rw [hlen]; exact hi) hj
      have h2 := hl i (by rw [hlen]; exact hi)
      simp at hi
      by_cases hlt : i < l.length
      · rw [getL _ i hlt] at h1 ⊢; exact h1
      · obtain rfl : i = l.length := by omega
        rw [getX] at h1 h2 ⊢
        rw [hc] at h1 h2
        rw [hc']
        simp at h2
        obtain rfl : j = 0 := by omega
        exact h _ _ h1


/-- A block whose end is marked. -/
theorem Inv.marked {G : Gh} {w : World} {b n : Nat} {vs : Array Value} {e : TypeId} (h : Inv P G σ w) (hw : w.heap[b]? = some (.cells vs e (0, 0))) (hB : G.B ≤ b) (hσ : ∀ i ty cs, σ i = some (.cells ty cs) → G.inj i ≠ some b)
    (hown : ∀ t r c o, G.own t = some r → r.a = some (c, o) → r.len * P.cellsOf r.ety < r.cap * P.cellsOf r.ety → c ≠ b) :
    Inv P G σ { w with heap := w.heap.setIfInBounds b (.cells vs e (n, n + 1)) } := by
  have hlt := lt_of_heap hw
  have other : ∀ k, k ≠ b → (w.heap.setIfInBounds b (.cells vs e (n, n + 1)))[k]? = w.heap[k]? := fun k hk => Array.getElem?_setIfInBounds_ne (fun e => hk e.symm)
  have same : (w.heap.setIfInBounds b (.cells vs e (n, n + 1)))[b]? = some (.cells vs e (n, n + 1)) := by simp [hlt]
  refine ⟨⟨h.below.os, h.below.tape, h.below.output, by simpa using h.below.size, fun k hk => by
    have hkb : k ≠ b := by omega
    rw [show ({ w with heap := w.heap.setIfInBounds b (.cells vs e (n, n + 1)) } : World).heap[k]? = (w.heap.setIfInBounds b (.cells vs e (n, n + 1)))[k]? from rfl, other k hkb]
    exact h.below.block k hk⟩, h.base, ?_, h.top, ?_, h.inj1, ?_, ?_, ?_, h.tok, ?_⟩
  · intro b' o v em
    refine ⟨?_, (h.mem b' o v em).2⟩
    have h1 := (h.mem b' o v em).1
    by_cases hb : b' = b
    · subst hb
      simp only [World.cell?, hw] at h1
      simp only [World.cell?, same]
      exact h1
    · rw [World.cell?_of_block (w := w) (other b' hb)]; exact h1
  · intro j c ej
    have := h.injB j c ej
    exact ⟨this.1, by simpa using this.2.1, this.2.2⟩
  · intro j ty' cs' ej
    obtain ⟨c, vs', k1, k2, k3⟩ := h.cells j ty' cs' ej
    have hne : c ≠ b := fun e' => hσ j ty' cs' ej (e' ▸ k1)
    exact ⟨c, vs', k1, by rw [other c hne]; exact k2, k3⟩
  · intro j es' ej
    obtain ⟨c, ms2, cl, k1, k2, k3⟩ := h.maps j es' ej
    have hne : c ≠ b := by rintro rfl; rw [hw] at k2; cases k2
    exact ⟨c, ms2, cl, k1, by rw [other c hne]; exact k2, k3⟩
  · intro j s p ej
    obtain ⟨c, k1, k2⟩ := h.iters j s p ej
    refine ⟨c, k1, k2.keep (fun _ _ h => h) (fun o ho => ?_) (fun m ms cl hm => by rw [other m (fun e => by subst e; rw [hw] at hm; cases hm)]; exact hm)⟩
    by_cases hb : c = b
    · subst hb
      exfalso
      cases s with
      | siter q z => have : w.heap[c]? = some (.stringIter q z) := k2; rw [hw] at this; cases this
      | miter q z d => obtain ⟨m, since, seen, last, ms, clock, q1, _⟩ := k2; rw [hw] at q1; cases q1
      | cells _ _ => cases p
      | tok _ => cases p
      | map _ => cases p
    · rw [other c hb]; exact ho
  · intro t r et
    obtain ⟨k1, k2, k3⟩ := h.own t r et
    refine ⟨k1, k2, fun c o ea k hk1 hk2 => ?_⟩
    obtain ⟨m1, m2, m3, m4, m5, m6, m7⟩ := k3 c o ea k hk1 hk2
    have hne : c ≠ b := hown t r c o et ea (by omega)
    refine ⟨?_, ?_, m3, m4, m5, by simpa using m6, m7⟩
    · rw [World.cell?_of_block (w := w) (other c hne)]; exact m1
    · rw [World.frozen?_of_block (w := w) (other c hne)]; exact m2

/-- A constant text's bytes: a slice that is built and converted to itself. -/
theorem SOp.convF {d src dst : Nat} {x : Operand} {ty : TypeId} {pos : String} {af : Array Edge} {g : Option (Nat × Bool)} {K : Fr → AS → Prop} (hd : d < n) (id : Nat) {e : TypeId} {m : Nat} (es : List AV) {cs : List AV} (h0 : σ id = none)
    (hs : P.underlying src = some (.slice e)) (hsd : src = dst) (he : P.underlying e = some (.int .u8)) (hx : ev s x = .msl id 0 m m) (hm : es.length = m) (hl : ∀ v ∈ es, v.cells.length = P.cellsOf e) (hc : cs = flatC es)
    (h : K (s.put (some d) (.lst e es .full false)) σ) : SOp P n ds Q ⟨some d, .convert src dst x, ty, pos, af, g⟩ s (σ.set id (.cells e cs)) K := by
  subst hc hsd
  refine SOp.of_out hd fun G a w hsim => ?_
  have hrx := hsim.ev x
  rw [hx] at hrx
  have hi := hsim.inv
  obtain ⟨b, vs, k1, k2, k3, k4⟩ := hi.cells id e (flatC es) (by simp [AS.set])
  obtain ⟨G', hle, hi', conv⟩ := hi.freeze h0 hm hl
  have hv := conv _ hrx
  generalize hxv : a.eval x = xv at hrx hv
  cases hrx with
  | msl hb =>
    rw [k1] at hb
    obtain rfl := Option.some.inj hb
    have hinj := hle.inj _ _ k1
    have hlt := lt_of_heap k2
    have hmk : Inv P G' σ { w with heap := w.heap.setIfInBounds b (.cells vs e (vs.size, vs.size + 1)) } := by
      refine hi'.marked k2 (hi'.injB id b hinj).1 (fun i ty cs hs' hc' => ?_) (fun t r c o et ea hr hcb => ?_)
      · have := hi'.inj1 i id b hc' hinj
        subst this
        rw [h0] at hs'; cases hs'
      · subst hcb
        have := (hi'.own t r et).2.2 c o ea (r.len * P.cellsOf r.ety) (Nat.le_refl _) hr
        exact this.2.2.2.1 id hinj
    have hrun : (convert src src (.slice (some ⟨b, 0, none⟩) m m)).run P w = .ok (.slice (some ⟨b, 0, none⟩) m m) { w with heap := w.heap.setIfInBounds b (.cells vs e (vs.size, vs.size + 1)) } := by
      have hsh : w.shape? b = some (e, vs.size) := by simp [World.shape?, k2]
      have hfr : w.freeze ⟨b, vs.size, none⟩ 1 = { w with heap := w.heap.setIfInBounds b (.cells vs e (vs.size, vs.size + 1)) } := by
        unfold World.freeze
        rw [if_neg (by decide)]
        have hg : w.heap[b] = .cells vs e (0, 0) := by
          have := k2
          rw [Array.getElem?_eq_getElem hlt] at this
          exact Option.some.inj this
        congr 1
        apply Array.ext
        · simp
        · intro i h1 h2
          by_cases hib : b = i
          · subst hib
            simp [Array.getElem_modify, hg]
          · rw [Array.getElem_modify, if_neg hib]
            exact (Array.getElem_setIfInBounds_ne (by simpa using h1) hib).symm
      simp [convert, run_underlying hs, run_underlying he, markStringish, shape, freeze, Sem.run_bind, Result.andThen, Sem.run, hsh, hfr]
    show Out P G _ _ (((do pure (Next.value (← convert src src (a.eval x)))) : Sem Next).run P w)
    rw [hxv]
    exact Out.value hrun hle hmk hv h

end Go.AW

set_option linter.unusedSimpArgs false
set_option linter.unusedVariables false
namespace Go.AW
open Go Go.RowKit

variable {P : Program} {n : Nat} {ds : List Deferred} {Q : AQ} {s : Fr} {σ : AS}

theorem Wk.of {a b : AV} (h : a = b) : AV.Wk P a b := h ▸ Wk.refl _
theorem FrWk.nil : FrWk P s (mkF []) := fun _ _ _ _ => .any _
theorem FrWk.cons {j : Nat} {v : AV} {r : List (Nat × AV)} (h : AV.Wk P (s j) v) (hr : FrWk P s (mkF r)) : FrWk P s (mkF ((j, v) :: r)) := by
  intro i
  simp only [mkF_cons]
  split
  · rename_i e; subst e; exact h
  · exact hr i

/-- What a loop's step hands on: c stays, v goes on. -/
def stepA (P : Program) {α : Type} (m : α → Nat) (I : α → Prop) (c : List (Nat × AV)) (v : α → List (Nat × AV)) (st : α → AS) (a : α) (s' : Fr) (σ' : AS) : Prop :=
  ∃ a', m a' < m a ∧ I a' ∧ FrWk P s' (mkF (c ++ v a')) ∧ AS.le (st a') σ'
theorem stepA.mk {α : Type} {m : α → Nat} {I : α → Prop} {c : List (Nat × AV)} {v : α → List (Nat × AV)} {st : α → AS} {a : α} {s' : Fr} {σ' : AS} (a' : α)
    (h1 : m a' < m a) (h2 : FrWk P s' (mkF (c ++ v a'))) (h3 : AS.le (st a') σ') (h4 : I a') : stepA P m I c v st a s' σ' := ⟨a', h1, h4, h2, h3⟩
@[congr] theorem stepA_congr {α : Type} {m : α → Nat} {I : α → Prop} {c : List (Nat × AV)} {v : α → List (Nat × AV)} {st : α → AS} {a : α} {s s' : Fr} {σ σ' : AS} (h1 : s = s') (h2 : σ = σ') :
    stepA P m I c v st a s σ = stepA P m I c v st a s' σ' := by rw [h1, h2]

theorem AWp.loopA {α : Type} {body : Code} (a0 : α) (m : α → Nat) (I : α → Prop) (c : List (Nat × AV)) (v : α → List (Nat × AV)) (st : α → AS)
    (hs : FrWk P s (mkF (c ++ v a0))) (hσ : AS.le (st a0) σ) (h0 : I a0)
    (hr : ∀ a, I a → AWp P n ds body (thenQ (stepA P m I c v st a) Q) (mkF (c ++ v a)) (st a)) : AWp P n ds (.loop body) Q s σ := by
  refine AWp.loop (fun k s σ => ∃ a, k = m a ∧ I a ∧ s = mkF (c ++ v a) ∧ σ = st a) ⟨a0, rfl, h0, rfl, rfl⟩ hs hσ ?_
  rintro k s σ ⟨a, rfl, ha, rfl, rfl⟩
  refine (hr a ha).mono fun e s' σ' hq => ?_
  cases e with
  | normal =>
    obtain ⟨a', h1, h2, h3, h4⟩ := hq
    exact ⟨m a', _, _, h1, h3, h4, a', rfl, h2, rfl, rfl⟩
  | exit i => exact hq
  | ret => exact hq
  | panic x => exact hq

/-! ## values that are functions -/

theorem aCall.fnGives {f : FuncId} {first cap args : List AV} {σ1 : AS} {v : AV} {K Kp : AV → AS → Prop} (h : ACalls P f (first ++ args ++ cap) σ (Gives v σ1) No) (hk : K v σ1) : aCall P (.fn (.func f) first cap) args σ K Kp :=
  ⟨_, _, h, fun r σ' ⟨h1, h2⟩ => by subst h1; subst h2; exact hk, fun _ _ h => h.elim⟩

/-- A value that is called: in this heap it comes to g, and leaves the heap. -/
def FnG (P : Program) (σ : AS) (fv : AV) (args : List AV) (g : AV) : Prop := ∀ K Kp : AV → AS → Prop, K g σ → aCall P fv args σ K Kp
theorem FnG.use {fv : AV} {args : List AV} {g : AV} (h : FnG P σ fv args g) {K Kp : AV → AS → Prop} (hk : K g σ) : aCall P fv args σ K Kp := h K Kp hk
theorem FnG.fn {f : FuncId} {first cap args : List AV} {g : AV} (h : ACalls P f (first ++ args ++ cap) σ (Gives g σ) No) : FnG P σ (.fn (.func f) first cap) args g := fun _ _ hk => aCall.fnGives h hk
theorem FnG.func {f : FuncId} {args : List AV} {g : AV} (h : ACalls P f args σ (Gives g σ) No) : FnG P σ (.sc (.func (.func f) #[] #[])) args g := fun _ _ hk => aCall.gives h hk

theorem em_eq (p : Prop) : (p = True) ∨ (p = False) := by by_cases h : p; exact .inl (eq_true h); exact .inr (eq_false h)
theorem ci_lt (a b : Nat) : ((a : Int) < (b : Int)) = (a < b) := by simp only [eq_iff_iff]; omega
theorem ci_le (a b : Nat) : ((a : Int) ≤ (b : Int)) = (a ≤ b) := by simp only [eq_iff_iff]; omega
theorem ci_wi {i : Nat} (h : i < 4000000000000000000) : IntKind.i64.wrap ((i : Int) + 1) = ((i + 1 : Nat) : Int) := wInc h

end Go.AW

set_option linter.unusedSimpArgs false
set_option linter.unusedVariables false
namespace Go.AW
open Go Go.RowKit

variable {P : Program} {n : Nat} {ds : List Deferred} {Q : AQ} {s : Fr} {σ : AS} {G : Gh} {w : World} {K Pn : AV → AS → Prop}

/-! ## a slice that grows and is written to -/

theorem flatC_len {m : Nat} {l : List AV} (h : ∀ v ∈ l, v.cells.length = m) : (flatC l).length = l.length * m := (flatC_get l h).1
theorem flatC_app (a b : List AV) : flatC (a ++ b) = flatC a ++ flatC b := by simp [flatC]
theorem flatC_split {m : Nat} {l : List AV} (h : ∀ v ∈ l, v.cells.length = m) {i : Nat} (hi : i < l.length) :
    flatC l = flatC (l.take i) ++ (l[i].cells ++ flatC (l.drop (i + 1))) ∧ (flatC (l.take i)).length = i * m := by
  have h1 : l = l.take i ++ l[i] :: l.drop (i + 1) := by
    conv => lhs; rw [← List.take_append_drop i l, List.drop_eq_getElem_cons hi]
  refine ⟨?_, ?_⟩
  · conv => lhs; rw [h1]
    rw [flatC_app, flatC_cons]
  · rw [flatC_len (m := m) (fun v hv => h v (List.mem_of_mem_take hv)), List.length_take, Nat.min_eq_left (by omega)]
theorem flatC_at {m : Nat} {l : List AV} (h : ∀ v ∈ l, v.cells.length = m) {i : Nat} (hi : i < l.length) : ((flatC l).drop (i * m)).take m = l[i].cells := by
  obtain ⟨h1, h2⟩ := flatC_split h hi
  have h3 := h l[i] (List.getElem_mem hi)
  rw [h1, List.drop_append_of_le_length (by omega), List.drop_eq_nil_of_le (by omega), List.nil_append, List.take_append_of_le_length (by omega), List.take_of_length_le (by omega)]
theorem flatC_set {m : Nat} {l : List AV} (h : ∀ v ∈ l, v.cells.length = m) {i : Nat} (hi : i < l.length) {v : AV} (hv : v.cells.length = m) :
    (flatC l).take (i * m) ++ (v.cells ++ (flatC l).drop (i * m + m)) = flatC (l.set i v) := by
  obtain ⟨h1, h2⟩ := flatC_split h hi
  have h3 := h l[i] (List.getElem_mem hi)
  have h4 : l.set i v = l.take i ++ v :: l.drop (i + 1) := by
    rw [List.set_eq_take_append_cons_drop, if_pos hi]
  rw [h4, flatC_app, flatC_cons, h1, List.take_append_of_le_length (by omega), List.take_of_length_le (by omega)]
  congr 1
  rw [← List.append_assoc, List.drop_append_of_le_length (by simp; omega), List.drop_eq_nil_of_le (by simp; omega), List.nil_append]

theorem flat_rep {ES : List AV} {m : Nat} (hm : 0 < m) (h : ∀ v ∈ ES, v.cells.length = m) {vs : Nat → Value} {p : Value → Prop}
    (hr : ∀ i j, i < ES.length → j < m → Rep P G ((ES.getD i .any).cells.getD j .any) (vs (i * m + j)) ∧ p (vs (i * m + j))) : ∀ k, k < (flatC ES).length → Rep P G ((flatC ES).getD k .any) (vs k) ∧ p (vs k) := by
  intro k hk
  obtain ⟨f1, f2⟩ := flatC_get ES h
  rw [f1] at hk
  have k1 : k / m < ES.length := Nat.div_lt_of_lt_mul (by rw [Nat.mul_comm]; exact hk)
  have k2 : k % m < m := Nat.mod_lt _ hm
  have k3 : (k / m) * m + k % m = k := by rw [Nat.mul_comm]; exact Nat.div_add_mod k _
  have h1 := f2 _ _ k1 k2
  have h2 := hr _ _ k1 k2
  rw [k3] at h1 h2
  rw [h1]
  exact h2
theorem flat_rep' {ES : List AV} {m : Nat} (h : ∀ v ∈ ES, v.cells.length = m) {vs : Nat → Value} {p : Value → Prop}
    (hr : ∀ k, k < (flatC ES).length → Rep P G ((flatC ES).getD k .any) (vs k) ∧ p (vs k)) : ∀ i j, i < ES.length → j < m → Rep P G ((ES.getD i .any).cells.getD j .any) (vs (i * m + j)) ∧ p (vs (i * m + j)) := by
  intro i j hi hj
  obtain ⟨f1, f2⟩ := flatC_get ES h
  rw [← f2 i j hi hj]
  exact hr _ (by rw [f1]; exact idx_lt hi hj)

/-- v is a slice of the elements es, written to by none else; τ is S and its block, if it has one. -/
def GV (P : Program) (e : TypeId) (es : List AV) (v : AV) (S τ : AS) : Prop :=
  (es = [] ∧ v = .nilS ∧ τ = S) ∨ ∃ (id cap : Nat) (spl : List AV), S id = none ∧ v = .msl id 0 es.length cap ∧ τ = S.set id (.cells e (flatC (es ++ spl))) ∧ (∀ x ∈ es ++ spl, x.cells.length = P.cellsOf e) ∧ es.length + spl.length = cap

theorem GV.nil {e : TypeId} {S : AS} : GV P e [] .nilS S S := .inl ⟨rfl, rfl, rfl⟩
theorem GV.le {e : TypeId} {es : List AV} {v : AV} {S τ : AS} (h : GV P e es v S τ) : AS.le S τ := by
  rcases h with ⟨_, _, rfl⟩ | ⟨id, cap, spl, h0, _, rfl, _⟩
  · exact AS.le_refl _
  · exact le_new h0 (AS.le_refl _)
theorem GV.set {e : TypeId} {es : List AV} {v : AV} {S τ : AS} (h : GV P e es v S τ) {j : Nat} {b : ABlk} (hj : τ j = none) : GV P e es v (S.set j b) (τ.set j b) := by
  rcases h with ⟨h1, h2, rfl⟩ | ⟨id, cap, spl, h0, h1, rfl, h3⟩
  · exact .inl ⟨h1, h2, rfl⟩
  · have hne : j ≠ id := by rintro rfl; simp at hj
    exact .inr ⟨id, cap, spl, by have h9 : ¬ id = j := fun e => hne e.symm; simp [h9, h0], h1, (AS.set_comm hne.symm).symm ▸ rfl, h3⟩
theorem GV.weak {e : TypeId} {es : List AV} {v : AV} {S S' τ' : AS} (h : GV P e es v S' τ') (hle : AS.le S S') : ∃ τ, GV P e es v S τ ∧ AS.le τ τ' := by
  rcases h with ⟨h1, h2, rfl⟩ | ⟨id, cap, spl, h0, h1, rfl, h3⟩
  · exact ⟨S, .inl ⟨h1, h2, rfl⟩, hle⟩
  · have hs : S id = none := by
      cases hx : S id with
      | none => rfl
      | some b => have := hle id b hx; rw [h0] at this; cases this
    exact ⟨_, .inr ⟨id, cap, spl, hs, h1, rfl, h3⟩, le_set2 hle⟩

theorem GV.fresh {e : TypeId} {es : List AV} {v : AV} {S τ : AS} (h : GV P e es v S τ) {j : Nat} (hj : τ j = none) : S j = none := by
  cases hx : S j with
  | none => rfl
  | some b => have := h.le j b hx; rw [hj] at this; cases this

theorem appendG_out (hi : Inv P G σ w) {t tx ty e : TypeId} {es xs : List AV} {S : AS} {v x : AV} {vs vx : Value} (he : sliceT P t = some e) (hc0 : P.cellsOf e ≠ 0) (hz1 : (zeroAV P e).laid = true) (hz2 : (zeroAV P e).cells.length = P.cellsOf e)
    (hs : Rep P G v vs) (hG : GV P e es v S σ) (hx : Rep P G x vx) (hsrc : srcElems P e tx x = some xs) (hxs : ∀ x ∈ xs, x.cells.length = P.cellsOf e)
    (hroom : (es.length + xs.length) * P.bytesOf e ≤ roomB (P.bytesOf e)) (hmax : es.length + xs.length ≤ 140737488355328) (h : ∀ v' τ', GV P e (es ++ xs) v' S τ' → K v' τ') :
    Out P G K Pn (((do pure (Next.value (← Builtin.append_ #[t, tx] ty #[vs, vx]))) : Sem Next).run P w) := by
  have hu := sliceT_eq he
  obtain ⟨it, z, hit, hz, hzr⟩ := zeroAV_info hz1
  have hsize : it.size = P.cellsOf e := by simp [Program.cellsOf, hit]
  have hbytes : it.bytes = P.bytesOf e := by simp [Program.bytesOf, hit]
  have hrz : Rep P G (zeroAV P e) z := by rw [hzr]; exact rep_ofC z
  obtain ⟨z1, z2⟩ := laid_cells hrz hz1
  rw [hz2] at z1 z2
  obtain ⟨news, s1, s2⟩ := src_ok hi hz1 hz2 hx hsrc
  have hpos : 0 < P.cellsOf e := by omega
  have hnl : news.length = xs.length * P.cellsOf e := s2.len
  have hcapfit : ∀ old, old < es.length + xs.length → Builtin.nextslicecap (es.length + xs.length) old * it.bytes ≤ 281474976710656 := by
    intro old ho
    rw [hbytes]
    exact roomB_ok ho hroom
  have one_get : ∀ i, i < news.length → (news.getD i undef).oneCell' = true := fun i hi' => by
    rw [List.getD_eq_getElem?_getD, List.getElem?_eq_getElem hi']
    exact s1.one _ (List.getElem_mem _)
  -- a new block
  have grow : ∀ (base : Option Addr) (cap : Nat) (olds : List Value), vs = .slice base es.length cap → (∀ x ∈ es, x.cells.length = P.cellsOf e) → olds.length = es.length * P.cellsOf e → cap < es.length + xs.length →
      (Builtin.firstCells it.size es.length (.slice base es.length cap)).run P w.drew = .ok olds.toArray w.drew →
      (∀ i j, i < es.length → j < P.cellsOf e → Rep P G ((es.getD i .any).cells.getD j .any) (olds.getD (i * P.cellsOf e + j) undef) ∧ (olds.getD (i * P.cellsOf e + j) undef).oneCell' = true) → Inv P G S w →
      Out P G K Pn (((do pure (Next.value (← Builtin.append_ #[t, tx] ty #[vs, vx]))) : Sem Next).run P w) := by
    intro base cap olds hvs hel hol hlt hold hor hiS
    have hrun := app_grow (P := P) w t tx ty e it z hu hit hz base es.length cap olds hold vx xs.length news s1 hlt (by omega) (hcapfit cap hlt)
    have hcapge := grownCap_ge w (es.length + xs.length) cap e
    generalize grownCap w (es.length + xs.length) cap e = nc at hrun hcapge
    have hES : ∀ x ∈ es ++ xs ++ List.replicate (nc - (es.length + xs.length)) (zeroAV P e), x.cells.length = P.cellsOf e := by
      intro x hx
      rcases List.mem_append.1 hx with hx | hx
      · rcases List.mem_append.1 hx with hx | hx
        · exact hel x hx
        · exact hxs x hx
      · rw [(List.mem_replicate.1 hx).2]; exact hz2
    have hrow : (olds ++ news).toArray ++ Builtin.zeroCells z.cells (nc - (es.length + xs.length)) = (olds ++ news ++ (Builtin.zeroCells z.cells (nc - (es.length + xs.length))).toList).toArray := by
      apply Array.ext'; simp
    have hzl : ((Builtin.zeroCells z.cells (nc - (es.length + xs.length))).toList).length = (nc - (es.length + xs.length)) * P.cellsOf e := by
      simp [Builtin.zeroCells, z1]
    obtain ⟨G', g1, g2, g3⟩ := hiS.drew.allocCells e ((olds ++ news).toArray ++ Builtin.zeroCells z.cells (nc - (es.length + xs.length))) (flatC (es ++ xs ++ List.replicate (nc - (es.length + xs.length)) (zeroAV P e)))
      (by rw [hrow, flatC_len hES]; simp [hol, hnl, hzl, Nat.add_mul]) (by
        refine flat_rep (P := P) (G := G) hpos hES (vs := fun k => ((olds ++ news).toArray ++ Builtin.zeroCells z.cells (nc - (es.length + xs.length))).getD k undef) (p := fun v => v.oneCell' = true) ?_
        intro i j hi' hj
        have hg : ∀ k, ((olds ++ news).toArray ++ Builtin.zeroCells z.cells (nc - (es.length + xs.length))).getD k undef = (olds ++ news ++ (Builtin.zeroCells z.cells (nc - (es.length + xs.length))).toList).getD k undef := by
          intro k; rw [hrow]; simp [List.getD_eq_getElem?_getD]
        simp only [hg]
        simp only [List.length_append, List.length_replicate] at hi'
        by_cases c1 : i < es.length
        · have e1 := idx_lt c1 hj
          rw [getD_append_left _ _ _ (by simp; omega), getD_append_left _ _ _ c1, getD_append_left _ _ _ (by simp; omega), getD_append_left _ _ _ (by omega)]
          exact hor i j c1 hj
        · by_cases c2 : i < es.length + xs.length
          · have e1 := idx_lt (n := es.length + xs.length) c2 hj
            have e2 := idx_ge (sz := P.cellsOf e) (j := j) (show es.length ≤ i by omega)
            rw [Nat.add_mul] at e1
            have e4 : es.length * P.cellsOf e ≤ i * P.cellsOf e := Nat.mul_le_mul_right _ (by omega)
            have e3 : i * P.cellsOf e + j - olds.length = (i - es.length) * P.cellsOf e + j := by rw [hol, Nat.sub_mul]; omega
            have hres := s2.rep (i - es.length) j (by omega) hj
            have hone := one_get ((i - es.length) * P.cellsOf e + j) (by rw [hnl]; exact idx_lt (by omega) hj)
            rw [getD_append_left _ _ _ (by simp; omega), getD_append_right _ _ _ (by omega), getD_append_left _ _ _ (by simp; omega), getD_append_right _ _ _ (by omega), e3]
            exact ⟨hres, hone⟩
          · have e2 := idx_ge (sz := P.cellsOf e) (j := j) (show es.length + xs.length ≤ i by omega)
            rw [Nat.add_mul] at e2
            have e4 : (es.length + xs.length) * P.cellsOf e ≤ i * P.cellsOf e := Nat.mul_le_mul_right _ (by omega)
            rw [Nat.add_mul] at e4
            have e3 : i * P.cellsOf e + j - (olds ++ news).length = (i - (es.length + xs.length)) * P.cellsOf e + j := by
              rw [List.length_append, hol, hnl, Nat.sub_mul, Nat.add_mul]; omega
            rw [getD_append_right _ _ _ (by simp; omega), getD_append_right _ _ _ (by simp [hol, hnl]; omega), e3]
            rw [zeros_get z1 (nc - (es.length + xs.length)) (i - (es.length + xs.length)) j (by omega) hj]
            have hgr : (List.replicate (nc - (es.length + xs.length)) (zeroAV P e)).getD (i - (es ++ xs).length) .any = zeroAV P e := by
              rw [List.getD_eq_getElem?_getD, List.getElem?_replicate, if_pos (by simp; omega)]; rfl
            rw [hgr]
            exact z2 j hj)
    rw [hvs]
    refine Out.value hrun g1 g3 (.msl g2) (h _ _ (.inr ⟨G.top, nc, List.replicate (nc - (es.length + xs.length)) (zeroAV P e), hiS.fresh, by simp, rfl, hES, by simp; omega⟩))
  rcases hG with ⟨rfl, rfl, rfl⟩ | ⟨id, cap, spl, h0, rfl, rfl, hES, hcap⟩
  · cases hs
    by_cases hx0 : xs = []
    · subst hx0
      have hn0 : news = [] := by simpa using hnl
      subst hn0
      exact Out.value (app_zero hu hit s1) (.refl G) hi .nilS (h _ _ GV.nil)
    · have : 0 < xs.length := List.length_pos_iff.2 hx0
      exact grow none 0 [] rfl (by simp) (by simp) (by simp; omega) (by simp [Builtin.firstCells]) (fun i j hi' => by simp at hi') hi
  · cases hs with
    | msl hb =>
      rename_i b
      obtain ⟨b', cur, k1, k2, k3, k4⟩ := hi.cells id e (flatC (es ++ spl)) (by simp)
      rw [hb] at k1
      obtain rfl := Option.some.inj k1
      have hfl := flatC_len hES
      have hesl : ∀ x ∈ es, x.cells.length = P.cellsOf e := fun x hx => hES x (by simp [hx])
      have hrepES := flat_rep' (P := P) (G := G) hES (vs := fun k => cur.getD k undef) (p := fun v => v.oneCell' = true) k4
      by_cases hfit : es.length + xs.length ≤ cap
      · have hcurl : cur.size = cap * P.cellsOf e := by rw [k3, hfl, List.length_append, hcap]
        have hle2 : (es.length + xs.length) * P.cellsOf e ≤ cap * P.cellsOf e := Nat.mul_le_mul_right _ hfit
        rw [Nat.add_mul] at hle2
        have hrun := app_room (P := P) w t tx ty e it hu hit b 0 es.length cap vx xs.length news s1 hfit
          (fun j hj => by
            rw [hsize]
            simp only [World.cell?, k2]
            have : es.length * P.cellsOf e + j < cur.size := by rw [hcurl]; omega
            simp [this]) (fun j hj => by
            simp only [World.frozen?, k2]
            simp)
        rw [hsize, Nat.zero_add] at hrun
        have hst := hi.store (i := id) (ty := e) (cs := flatC (es ++ spl)) (by simp) (es.length * P.cellsOf e) news (flatC xs) (by rw [hnl, flatC_len hxs]) (by rw [hnl, ← k3, hcurl]; exact hle2)
          (flat_rep (P := P) (G := G) hpos hxs (vs := fun k => news.getD k undef) (p := fun v => v.oneCell' = true) (fun i j hi' hj => ⟨s2.rep i j hi' hj, one_get _ (by rw [hnl]; exact idx_lt hi' hj)⟩)) b hb
        have hcs : (flatC (es ++ spl)).take (es.length * P.cellsOf e) ++ flatC xs ++ (flatC (es ++ spl)).drop (es.length * P.cellsOf e + (flatC xs).length) = flatC (es ++ xs ++ spl.drop xs.length) := by
          have hl1 := flatC_len hesl
          have hspl : ∀ x ∈ spl, x.cells.length = P.cellsOf e := fun x hx => hES x (by simp [hx])
          have hd : (flatC spl).drop (xs.length * P.cellsOf e) = flatC (spl.drop xs.length) := by
            have e1 : spl = spl.take xs.length ++ spl.drop xs.length := (List.take_append_drop _ _).symm
            have e2 : (flatC (spl.take xs.length)).length = xs.length * P.cellsOf e := by
              rw [flatC_len (m := P.cellsOf e) (fun x hx => hspl x (List.mem_of_mem_take hx)), List.length_take, Nat.min_eq_left (by omega)]
            conv => lhs; rw [e1]
            rw [flatC_app, ← e2, List.drop_left]
          rw [flatC_app es spl, flatC_app (es ++ xs), flatC_app es xs, ← hl1, List.take_left, ← List.drop_drop, List.drop_left, flatC_len hxs, hd]
        rw [hcs] at hst
        rw [AS.set_set] at hst
        refine Out.value hrun (.refl G) hst (.msl hb) (h _ _ (.inr ⟨id, cap, spl.drop xs.length, h0, by simp, rfl, fun x hx => ?_, by simp; omega⟩))
        rcases List.mem_append.1 hx with hx | hx
        · rcases List.mem_append.1 hx with hx | hx
          · exact hesl x hx
          · exact hxs x hx
        · exact hES x (by simp [List.mem_of_mem_drop hx])
      · have hel2 : es.length * P.cellsOf e ≤ cur.size := by rw [k3, hfl]; exact Nat.mul_le_mul_right _ (by simp)
        refine grow (some ⟨b, 0, none⟩) cap (cur.toList.take (es.length * P.cellsOf e)) rfl hesl (by simp; omega) (by omega) ?_ ?_ (hi.weaken (le_new h0 (AS.le_refl _)))
        · refine run_firstCells_some (P := P) w.drew it.size es.length ⟨b, 0, none⟩ es.length cap _ (by rw [hsize]; simp; omega) (fun j u hu' => ?_)
          have hj : j < es.length * P.cellsOf e := by
            rcases Nat.lt_or_ge j (es.length * P.cellsOf e) with h1 | h1
            · exact h1
            · rw [List.getElem?_eq_none (by simp; omega)] at hu'; cases hu'
          rw [List.getElem?_take_of_lt hj] at hu'
          rw [Addr.add_lit, Nat.zero_add]
          show w.cell? ⟨b, j, none⟩ = some u
          simp only [World.cell?, k2]
          simpa using hu'
        · intro i j hi' hj
          have hr := hrepES i j (by simp; omega) hj
          have hlt := idx_lt hi' hj
          rw [getD_append_left _ _ _ hi'] at hr
          have eg : (cur.toList.take (es.length * P.cellsOf e)).getD (i * P.cellsOf e + j) undef = cur.getD (i * P.cellsOf e + j) undef := by
            rw [List.getD_eq_getElem?_getD, List.getElem?_take_of_lt hlt]; simp
          rw [eg]
          exact hr

theorem SOp.appendG {d : Nat} {t tx : TypeId} {a b : Operand} {ty : TypeId} {pos : String} {af : Array Edge} {g : Option (Nat × Bool)} {K : Fr → AS → Prop} (hd : d < n) (e : TypeId) (es xs : List AV) (S : AS) (he : sliceT P t = some e) (hc0 : P.cellsOf e ≠ 0)
    (hz1 : (zeroAV P e).laid = true) (hz2 : (zeroAV P e).cells.length = P.cellsOf e) (hv : GV P e es (ev s a) S σ) (hx : srcElems P e tx (ev s b) = some xs) (hxs : ∀ x ∈ xs, x.cells.length = P.cellsOf e)
    (hroom : (es.length + xs.length) * P.bytesOf e ≤ roomB (P.bytesOf e)) (hmax : es.length + xs.length ≤ 140737488355328)
    (h : ∀ v' τ', GV P e (es ++ xs) v' S τ' → K (s.put (some d) v') τ') : SOp P n ds Q ⟨some d, .call ⟨.builtin .append, #[a, b], #[t, tx]⟩, ty, pos, af, g⟩ s σ K :=
  SOp.of_out hd fun G act w hs => by
    show Out P G _ _ ((do let d ← resolve act.eval ⟨.builtin .append, #[a, b], #[t, tx]⟩ ty; invoke d.target d.args : Sem Next).run P w)
    simp only [resolve, Sem.run_bind, Sem.run_pure, Result.andThen_ok, invoke]
    have e1 : (#[a, b] : Array Operand).map act.eval = #[act.eval a, act.eval b] := by simp
    rw [e1]
    exact appendG_out (ty := ty) hs.inv he hc0 hz1 hz2 (hs.ev a) hv (hs.ev b) hx hxs hroom hmax h

/-! slice expressions of such a slice -/

theorem SOp.sliceM {d t : Nat} {x : Operand} {lo hi : Option Operand} {ty : TypeId} {pos : String} {af : Array Edge} {g : Option (Nat × Bool)} {K : Fr → AS → Prop} (hd : d < n) (e : TypeId) (id off len cap l h : Nat) (he : sliceT P t = some e) (hc0 : P.cellsOf e ≠ 0)
    (hx : ev s x = .msl id off len cap) (hlo : (lo = none ∧ l = 0) ∨ ∃ o k, lo = some o ∧ ev s o = .sc (.int k l)) (hhi : (hi = none ∧ h = len) ∨ ∃ o k, hi = some o ∧ ev s o = .sc (.int k h)) (h1 : h ≤ cap) (h2 : l ≤ h) (h3 : l < cap)
    (hk : K (s.put (some d) (.msl id (off + l * P.cellsOf e) (h - l) (cap - l))) σ) : SOp P n ds Q ⟨some d, .slice t x lo hi none, ty, pos, af, g⟩ s σ K :=
  SOp.of_out hd fun G act w hs => by
    have hu := sliceT_eq he
    obtain ⟨inf, hinf, hsz2, _⟩ := info_of_cells (P := P) (t := e) hc0
    have hr := hs.ev x
    rw [hx] at hr
    show Out P G _ _ (((do pure (Next.value (← Instr.sliceAt t (act.eval x) (lo.map act.eval) (hi.map act.eval) none))) : Sem Next).run P w)
    generalize act.eval x = xv at hr ⊢
    cases hr with
    | msl hb =>
      rename_i b
      have vlo : (lo.map act.eval = none ∧ l = 0) ∨ ∃ k, lo.map act.eval = some (.int k l) := by
        rcases hlo with ⟨rfl, rfl⟩ | ⟨o, k, rfl, ho⟩
        · exact .inl ⟨rfl, rfl⟩
        · have := hs.ev o
          rw [ho] at this
          generalize hz : act.eval o = ov at this
          cases this
          exact .inr ⟨k, by simp [hz]⟩
      have vhi : (hi.map act.eval = none ∧ h = len) ∨ ∃ k, hi.map act.eval = some (.int k h) := by
        rcases hhi with ⟨rfl, rfl⟩ | ⟨o, k, rfl, ho⟩
        · exact .inl ⟨rfl, rfl⟩
        · have := hs.ev o
          rw [ho] at this
          generalize hz : act.eval o = ov at this
          cases this
          exact .inr ⟨k, by simp [hz]⟩
      have sb : ∀ (kd : IntKind) (m y : Nat) (code : BoundsCode), m ≤ y → (Instr.sliceBound (.int kd m) y code).run P w = .ok m w := by
        intro kd m y code hm
        have : (0 : Int) ≤ m ∧ (m : Int) ≤ (y : Int) := ⟨by omega, by omega⟩
        simp [Instr.sliceBound, asIntOf, hm]
      have hrun : (Instr.sliceBounds true len cap (lo.map act.eval) (hi.map act.eval) none).run P w = .ok (l, h, cap) w := by
        rcases vlo with ⟨q1, rfl⟩ | ⟨k, q1⟩ <;> rcases vhi with ⟨q2, rfl⟩ | ⟨k2, q2⟩ <;> rw [q1, q2]
        · simp [Instr.sliceBounds]
        · simp [Instr.sliceBounds, sb _ _ _ _ h1]
        · simp [Instr.sliceBounds, sb _ _ _ _ h2]
        · simp [Instr.sliceBounds, sb _ _ _ _ h1, sb _ _ _ _ h2]
      have hcl : ¬ cap = l := by omega
      refine Out.pure hs.inv (v := .slice (some ⟨b, off + l * P.cellsOf e, none⟩) (h - l) (cap - l)) ?_ (.msl hb) hk
      simp [Instr.sliceAt, Instr.slice, run_underlying hu, hrun, sizeOf, run_typeInfo w hinf, hcl, hsz2, Addr.add_lit]

theorem AS.set_self' {σ : AS} {i : Nat} {x : ABlk} (h : σ i = some x) : σ.set i x = σ := AS.set_id _ _ _ h

/-- What a part of such a slice holds is made zero. -/
theorem SOp.clearM {t : Nat} {x : Operand} {ty : TypeId} {pos : String} {af : Array Edge} {g : Option (Nat × Bool)} {K : Fr → AS → Prop} (e : TypeId) (id off len cap : Nat) (cs : List AV) (he : sliceT P t = some e) (hc0 : P.cellsOf e ≠ 0)
    (hz1 : (zeroAV P e).laid = true) (hz2 : (zeroAV P e).cells.length = P.cellsOf e) (hx : ev s x = .msl id off len cap) (h0 : 0 < len) (hσ : σ id = some (.cells e cs)) (hfit : off + len * P.cellsOf e ≤ cs.length)
    (hk : K s (σ.set id (.cells e (cs.take off ++ flatC (List.replicate len (zeroAV P e)) ++ cs.drop (off + len * P.cellsOf e))))) : SOp P n ds Q ⟨none, .call ⟨.builtin .clear, #[x], #[t]⟩, ty, pos, af, g⟩ s σ K :=
  SOp.of_out trivial fun G act w hs => by
    have hu := sliceT_eq he
    have hi := hs.inv
    obtain ⟨it, z, hit, hz, hzr⟩ := zeroAV_info hz1
    have hsize : it.size = P.cellsOf e := by simp [Program.cellsOf, hit]
    have hrz : Rep P G (zeroAV P e) z := by rw [hzr]; exact rep_ofC z
    obtain ⟨z1, z2⟩ := laid_cells hrz hz1
    rw [hz2] at z1 z2
    have hpos : 0 < P.cellsOf e := by omega
    have hr := hs.ev x
    rw [hx] at hr
    obtain ⟨b', cur, k1, k2, k3, k4⟩ := hi.cells id e cs hσ
    show Out P G _ _ ((do let d ← resolve act.eval ⟨.builtin .clear, #[x], #[t]⟩ ty; invoke d.target d.args : Sem Next).run P w)
    simp only [resolve, Sem.run_bind, Sem.run_pure, Result.andThen_ok, invoke]
    have e1 : (#[x] : Array Operand).map act.eval = #[act.eval x] := by simp
    rw [e1]
    generalize act.eval x = xv at hr ⊢
    cases hr with
    | msl hb =>
      rename_i b
      rw [hb] at k1
      obtain rfl := Option.some.inj k1
      have hES : ∀ v ∈ List.replicate len (zeroAV P e), v.cells.length = P.cellsOf e := fun v hv => by rw [(List.mem_replicate.1 hv).2]; exact hz2
      have hfl := flatC_len hES
      rw [List.length_replicate] at hfl
      have hnl : ((Builtin.zeroCells z.cells len).toList).length = len * P.cellsOf e := by simp [Builtin.zeroCells, z1]
      have hone : ∀ i j, i < len → j < P.cellsOf e → ((Builtin.zeroCells z.cells len).toList.getD (i * P.cellsOf e + j) undef).oneCell' = true := fun i j hi' hj => by
        rw [zeros_get z1 _ _ _ hi' hj]; exact (z2 j hj).2
      have hst := hi.store (i := id) (ty := e) (cs := cs) hσ off (Builtin.zeroCells z.cells len).toList (flatC (List.replicate len (zeroAV P e))) (by rw [hnl, hfl]) (by rw [hnl]; exact hfit)
        (flat_rep (P := P) (G := G) hpos hES (vs := fun k => (Builtin.zeroCells z.cells len).toList.getD k undef) (p := fun v => v.oneCell' = true) (fun i j hi' hj => by
          simp only [List.length_replicate] at hi'
          refine ⟨?_, hone i j hi' hj⟩
          rw [zeros_get z1 _ _ _ hi' hj]
          have hgr : (List.replicate len (zeroAV P e)).getD i .any = zeroAV P e := by
            rw [List.getD_eq_getElem?_getD, List.getElem?_replicate, if_pos hi']; rfl
          rw [hgr]
          exact (z2 j hj).1)) b hb
      rw [hfl] at hst
      have hall : ∀ u ∈ (Builtin.zeroCells z.cells len).toList, u.oneCell' = true := by
        intro u hu'
        obtain ⟨p, hp, rfl⟩ := List.getElem_of_mem hu'
        rw [hnl] at hp
        have hm1 : p % P.cellsOf e < P.cellsOf e := Nat.mod_lt _ hpos
        have hm2 : p / P.cellsOf e < len := Nat.div_lt_of_lt_mul (by rw [Nat.mul_comm]; exact hp)
        have hm3 : (p / P.cellsOf e) * P.cellsOf e + p % P.cellsOf e = p := by rw [Nat.mul_comm]; exact Nat.div_add_mod p _
        have := hone _ _ hm2 hm1
        rw [hm3, List.getD_eq_getElem?_getD, List.getElem?_eq_getElem (by rw [hnl]; exact hp)] at this
        exact this
      have hsto := run_storeCells_cells (P := P) b off (Builtin.zeroCells z.cells len).toList 0 w (by
        intro j hj
        rw [hnl] at hj
        simp only [World.cell?, k2]
        have : off + (0 + j) < cur.size := by omega
        simp; omega) (by
        intro j hj
        simp only [World.frozen?, k2]
        simp) hall
      simp only [Nat.add_zero] at hsto
      have hlen0 : len ≠ 0 := by omega
      have hrun : (Builtin.clear_ #[t] ty #[.slice (some ⟨b, off, none⟩) len cap]).run P w = .ok (.tuple #[]) (w.setCells b off (Builtin.zeroCells z.cells len).toList) := by
        obtain ⟨l', rfl⟩ : ∃ l', len = l' + 1 := ⟨len - 1, by omega⟩
        simp [Builtin.clear_, run_underlying hu, zeroValue, Sem.run_bind, run_typeInfo w hit, hz, hsto]
      exact Out.value (v := .tuple #[]) hrun (.refl G) hst (.any _) hk

/-! what is not written to any more -/

theorem Inv.freezeG {id : Nat} {e : TypeId} {ES : List AV} (hi : Inv P G (σ.set id (.cells e (flatC ES))) w) (h0 : σ id = none) (hl : ∀ v ∈ ES, v.cells.length = P.cellsOf e) :
    ∃ G', G.Le G' ∧ Inv P G' σ w ∧ ∀ o m cap y, o + m ≤ ES.length → m ≤ cap → Rep P G (.msl id (o * P.cellsOf e) m cap) y → Rep P G' (.lst e ((ES.drop o).take m) .unk false) y := by
  obtain ⟨b, vs, k1, k2, k3, k4⟩ := hi.cells id e (flatC ES) (by simp [AS.set])
  obtain ⟨f1, f2⟩ := flatC_get (m := P.cellsOf e) ES hl
  have hfree : ∀ o, G.mem b o = none := (hi.injB id b k1).2.2 e (flatC ES) (by simp [AS.set])
  have hle : G.Le (G.keep b 0 (flatC ES).length (fun k => vs.getD k undef)) := by
    refine ⟨rfl, rfl, fun b' o v em => ?_, fun _ _ e => e, fun t r e => ⟨r, e, rfl, .inl rfl⟩⟩
    rw [Gh.keep_out]
    · exact em
    · rintro ⟨rfl, _⟩; rw [hfree o] at em; cases em
  have old : ∀ j x, σ j = some x → j ≠ id ∧ (σ.set id (.cells e (flatC ES))) j = some x := by
    intro j x ej
    have : j ≠ id := by intro e'; subst e'; rw [h0] at ej; cases ej
    exact ⟨this, by simp [AS.set, this, ej]⟩
  refine ⟨_, hle, ⟨hi.below, hi.base, ?_, hi.top, ?_, hi.inj1, ?_, ?_, ?_, ?_, ?_⟩, ?_⟩
  · intro b' o v em
    by_cases hc : b' = b ∧ 0 ≤ o ∧ o < 0 + (flatC ES).length
    · obtain ⟨rfl, h3, h4⟩ := hc
      rw [Gh.keep_in h3 h4] at em
      obtain rfl := Option.some.inj em
      have ho : o < vs.size := by omega
      refine ⟨?_, (k4 o (by omega)).2⟩
      simp [World.cell?, k2, ho]
    · rw [Gh.keep_out hc] at em
      exact hi.mem b' o v em
  · intro j c ej
    have := hi.injB j c ej
    refine ⟨this.1, this.2.1, fun ty cs' hn o => ?_⟩
    obtain ⟨hne, hset⟩ := old j _ hn
    have hcb : c ≠ b := fun e' => hne (hi.inj1 j id b (e' ▸ ej) k1)
    rw [Gh.keep_out (fun hh => hcb hh.1)]
    exact this.2.2 ty cs' hset o
  · intro j ty cs' ej
    obtain ⟨c, vs', m1, m2, m3, m4⟩ := hi.cells j ty cs' (old j _ ej).2
    exact ⟨c, vs', m1, m2, m3, fun k hk => ⟨(m4 k hk).1.mono hle, (m4 k hk).2⟩⟩
  · intro j es' ej
    obtain ⟨c, ms, cl, m1, m2, m3, m4⟩ := hi.maps j es' (old j _ ej).2
    refine ⟨c, ms, cl, m1, m2, m3, fun k hk => ?_⟩
    obtain ⟨q, q1, q2, q3⟩ := m4 k hk
    exact ⟨q, q1, q2.mono hle, q3.mono hle⟩
  · intro j s' p ej
    exact hi.iters j s' p (old j _ ej).2
  · intro j m ej
    exact hi.tok j m (old j _ ej).2
  · intro t r et
    obtain ⟨m1, m2, m3⟩ := hi.own t r et
    refine ⟨m1, m2, fun c o ea k hk1 hk2 => ?_⟩
    obtain ⟨q1, q2, q3, q4, q5, q6, q7⟩ := m3 c o ea k hk1 hk2
    refine ⟨q1, q2, ?_, q4, q5, q6, q7⟩
    rw [Gh.keep_out (fun hh => q4 id (by rw [k1, hh.1]))]
    exact q3
  · intro o m cap y hom hmc hy
    cases hy with
    | msl hb =>
      rw [k1] at hb
      obtain rfl := Option.some.inj hb
      have hlen : ((ES.drop o).take m).length = m := by simp; omega
      have hget : ∀ i, i < m → ((ES.drop o).take m).getD i .any = ES.getD (o + i) .any := fun i hi' => by
        rw [List.getD_eq_getElem?_getD, List.getElem?_take_of_lt hi', List.getElem?_drop, List.getD_eq_getElem?_getD]
      refine Rep.lst' (fun k => vs.getD (o * P.cellsOf e + k) undef) hlen (fun i hi' => ?_) (fun k hk => ?_) (fun i j hi' hj => ?_) hmc trivial
      · rw [hlen] at hi'
        rw [hget i hi', List.getD_eq_getElem?_getD, List.getElem?_eq_getElem (by omega)]
        exact hl _ (List.getElem_mem _)
      · have h1 : (o + m) * P.cellsOf e ≤ ES.length * P.cellsOf e := Nat.mul_le_mul_right _ hom
        rw [Nat.add_mul] at h1
        rw [Gh.keep_in (by omega) (by omega)]; simp
      · rw [hlen] at hi'
        have h1 : (o + i) * P.cellsOf e + j < ES.length * P.cellsOf e := idx_lt (by omega) hj
        have := (k4 ((o + i) * P.cellsOf e + j) (by rw [f1]; exact h1)).1
        rw [f2 (o + i) j (by omega) hj, Nat.add_mul, Nat.add_assoc] at this
        rw [hget i hi']
        exact this.mono hle

theorem AWp.freezeG {c : Code} (i : Nat) {e : TypeId} {es : List AV} {S : AS} (hs : GV P e es (s i) S σ) (h : ∀ nl, (nl = true → es = []) → AWp P n ds c Q (s.put (some i) (.lst e es .unk nl)) S) : AWp P n ds c Q s σ := by
  intro G0 G a w h1 h2
  rcases hs with ⟨rfl, hv, rfl⟩ | ⟨id, cap, spl, h0, hv, rfl, hES, hcap⟩
  · refine h true (fun _ => rfl) G0 G a w h1 ⟨h2.inv, h2.size, h2.ds, fun j => ?_⟩
    by_cases hj : j = i
    · subst hj
      have := h2.rep j
      rw [hv] at this
      simp only [put_app, if_true]
      generalize a.tmps.getD j undef = v at this ⊢
      cases this
      exact .lstN trivial
    · simp only [put_app, hj, if_false]; exact h2.rep j
  · obtain ⟨G', hle, hi', conv⟩ := h2.inv.freezeG h0 hES
    refine h false (fun hh => by cases hh) G0 G' a w (h1.trans hle) ⟨hi', h2.size, h2.ds, fun j => ?_⟩
    by_cases hj : j = i
    · subst hj
      have := h2.rep j
      rw [hv] at this
      simp only [put_app, if_true]
      have := conv 0 es.length cap _ (by simp) (by omega) (by rw [Nat.zero_mul]; exact this)
      simpa using this
    · simp only [put_app, hj, if_false]; exact (h2.rep j).mono hle

end Go.AW

set_option linter.unusedSimpArgs false
set_option linter.unusedVariables false
namespace Go.AW
open Go Go.RowKit

variable {P : Program} {n : Nat} {ds : List Deferred} {Q : AQ} {s : Fr} {σ : AS} {G : Gh} {w : World} {K Pn : AV → AS → Prop}

/-! ## an append behind nothing, that is written to later on -/

theorem appendF_out (hi : Inv P G σ w) {t tx ty e : TypeId} {xs : List AV} {nl : Bool} {x : AV} {vs vx : Value} (he : sliceT P t = some e) (hc0 : P.cellsOf e ≠ 0) (hz1 : (zeroAV P e).laid = true) (hz2 : (zeroAV P e).cells.length = P.cellsOf e)
    (hs : Rep P G (.lst e [] .full nl) vs) (hx : Rep P G x vx) (hsrc : srcElems P e tx x = some xs) (hxs : ∀ x ∈ xs, x.cells.length = P.cellsOf e) (h0 : 0 < xs.length)
    (hroom : xs.length * P.bytesOf e ≤ roomB (P.bytesOf e)) (hmax : xs.length ≤ 140737488355328) (h : ∀ v' τ', GV P e xs v' σ τ' → K v' τ') :
    Out P G K Pn (((do pure (Next.value (← Builtin.append_ #[t, tx] ty #[vs, vx]))) : Sem Next).run P w) := by
  have hvs : ∃ base, vs = .slice base 0 0 := by
    cases hs with
    | lstN ho => exact ⟨none, rfl⟩
    | lst vs' hl hm hr hc ho => obtain ⟨a, ha⟩ := ho; exact ⟨a, ha⟩
  obtain ⟨base, rfl⟩ := hvs
  have hu := sliceT_eq he
  obtain ⟨it, z, hit, hz, hzr⟩ := zeroAV_info hz1
  have hsize : it.size = P.cellsOf e := by simp [Program.cellsOf, hit]
  have hbytes : it.bytes = P.bytesOf e := by simp [Program.bytesOf, hit]
  have hrz : Rep P G (zeroAV P e) z := by rw [hzr]; exact rep_ofC z
  obtain ⟨z1, z2⟩ := laid_cells hrz hz1
  rw [hz2] at z1 z2
  obtain ⟨news, s1, s2⟩ := src_ok hi hz1 hz2 hx hsrc
  have hpos : 0 < P.cellsOf e := by omega
  have hnl : news.length = xs.length * P.cellsOf e := s2.len
  have one_get : ∀ i, i < news.length → (news.getD i undef).oneCell' = true := fun i hi' => by
    rw [List.getD_eq_getElem?_getD, List.getElem?_eq_getElem hi']
    exact s1.one _ (List.getElem_mem _)
  have hcapfit : Builtin.nextslicecap (0 + xs.length) 0 * it.bytes ≤ 281474976710656 := by
    rw [hbytes, Nat.zero_add]
    exact roomB_ok h0 hroom
  have hrun := app_grow (P := P) w t tx ty e it z hu hit hz base 0 0 [] (by
    cases base with
    | none => simp [Builtin.firstCells]
    | some a => exact run_firstCells_some (P := P) w.drew it.size 0 a 0 0 [] (by simp) (fun j u hu' => by simp at hu')) vx xs.length news s1 (by omega) (by omega) hcapfit
  have hcapge := grownCap_ge w (0 + xs.length) 0 e
  generalize grownCap w (0 + xs.length) 0 e = nc at hrun hcapge
  simp only [Nat.zero_add] at hrun hcapge
  have hES : ∀ x ∈ xs ++ List.replicate (nc - xs.length) (zeroAV P e), x.cells.length = P.cellsOf e := by
    intro x hx
    rcases List.mem_append.1 hx with hx | hx
    · exact hxs x hx
    · rw [(List.mem_replicate.1 hx).2]; exact hz2
  have hrow : ([] ++ news).toArray ++ Builtin.zeroCells z.cells (nc - xs.length) = (news ++ (Builtin.zeroCells z.cells (nc - xs.length)).toList).toArray := by
    apply Array.ext'; simp
  have hzl : ((Builtin.zeroCells z.cells (nc - xs.length)).toList).length = (nc - xs.length) * P.cellsOf e := by
    simp [Builtin.zeroCells, z1]
  obtain ⟨G', g1, g2, g3⟩ := hi.drew.allocCells e (([] ++ news).toArray ++ Builtin.zeroCells z.cells (nc - xs.length)) (flatC (xs ++ List.replicate (nc - xs.length) (zeroAV P e)))
    (by rw [hrow, flatC_len hES]; simp only [List.size_toArray, List.length_append, hnl, hzl, List.length_replicate, Nat.add_mul]) (by
      refine flat_rep (P := P) (G := G) hpos hES (vs := fun k => (([] ++ news).toArray ++ Builtin.zeroCells z.cells (nc - xs.length)).getD k undef) (p := fun v => v.oneCell' = true) ?_
      intro i j hi' hj
      have hg : ∀ k, (([] ++ news).toArray ++ Builtin.zeroCells z.cells (nc - xs.length)).getD k undef = (news ++ (Builtin.zeroCells z.cells (nc - xs.length)).toList).getD k undef := by
        intro k; rw [hrow]; simp [List.getD_eq_getElem?_getD]
      simp only [hg]
      simp only [List.length_append, List.length_replicate] at hi'
      by_cases c2 : i < xs.length
      · have e1 := idx_lt (n := xs.length) c2 hj
        have hres := s2.rep i j (by omega) hj
        have hone := one_get (i * P.cellsOf e + j) (by rw [hnl]; exact idx_lt (by omega) hj)
        rw [getD_append_left _ _ _ (by omega), getD_append_left _ _ _ (by omega)]
        exact ⟨hres, hone⟩
      · have e2 := idx_ge (sz := P.cellsOf e) (j := j) (show xs.length ≤ i by omega)
        have e4 : xs.length * P.cellsOf e ≤ i * P.cellsOf e := Nat.mul_le_mul_right _ (by omega)
        have e3 : i * P.cellsOf e + j - news.length = (i - xs.length) * P.cellsOf e + j := by
          rw [hnl, Nat.sub_mul]; omega
        rw [getD_append_right _ _ _ (by omega), getD_append_right _ _ _ (by omega), e3]
        rw [zeros_get z1 (nc - xs.length) (i - xs.length) j (by omega) hj]
        have hgr : (List.replicate (nc - xs.length) (zeroAV P e)).getD (i - xs.length) .any = zeroAV P e := by
          rw [List.getD_eq_getElem?_getD, List.getElem?_replicate, if_pos (by omega)]; rfl
        rw [hgr]
        exact z2 j hj)
  refine Out.value hrun g1 (by simpa using g3) (.msl g2) (h _ _ (.inr ⟨G.top, nc, List.replicate (nc - xs.length) (zeroAV P e), hi.fresh, rfl, rfl, hES, by simp; omega⟩))

theorem SOp.appendF {d : Nat} {t tx : TypeId} {a b : Operand} {ty : TypeId} {pos : String} {af : Array Edge} {g : Option (Nat × Bool)} {K : Fr → AS → Prop} (hd : d < n) (e : TypeId) (xs : List AV) {nl : Bool} (he : sliceT P t = some e) (hc0 : P.cellsOf e ≠ 0)
    (hz1 : (zeroAV P e).laid = true) (hz2 : (zeroAV P e).cells.length = P.cellsOf e) (hv : ev s a = .lst e [] .full nl) (hx : srcElems P e tx (ev s b) = some xs) (hxs : ∀ x ∈ xs, x.cells.length = P.cellsOf e) (h0 : 0 < xs.length)
    (hroom : xs.length * P.bytesOf e ≤ roomB (P.bytesOf e)) (hmax : xs.length ≤ 140737488355328)
    (h : ∀ v' τ', GV P e xs v' σ τ' → K (s.put (some d) v') τ') : SOp P n ds Q ⟨some d, .call ⟨.builtin .append, #[a, b], #[t, tx]⟩, ty, pos, af, g⟩ s σ K :=
  SOp.of_out hd fun G act w hs => by
    show Out P G _ _ ((do let d ← resolve act.eval ⟨.builtin .append, #[a, b], #[t, tx]⟩ ty; invoke d.target d.args : Sem Next).run P w)
    simp only [resolve, Sem.run_bind, Sem.run_pure, Result.andThen_ok, invoke]
    have e1 : (#[a, b] : Array Operand).map act.eval = #[act.eval a, act.eval b] := by simp
    rw [e1]
    exact appendF_out (ty := ty) hs.inv he hc0 hz1 hz2 (hv ▸ hs.ev a) (hs.ev b) hx hxs h0 hroom hmax h

end Go.AW

set_option linter.unusedSimpArgs false
set_option linter.unusedVariables false
namespace Go.AW
open Go Go.RowKit

variable {P : Program} {n : Nat} {ds : List Deferred} {Q : AQ} {s : Fr} {σ : AS}

/-! ## maps whose keys are texts -/

def skvs (kvs : List (ByteArray × AV)) : List (AV × AV) := kvs.map fun p => (.sc (.string p.1), p.2)
def findS (k : ByteArray) : List (ByteArray × AV) → Option AV
  | [] => none
  | (k', v) :: r => if k = k' then some v else findS k r
def updS (k : ByteArray) (v : AV) : List (ByteArray × AV) → List (ByteArray × AV)
  | [] => [(k, v)]
  | (k', v') :: r => if k = k' then (k, v) :: r else (k', v') :: updS k v r

theorem bs_self (k : ByteArray) : (k == k) = true := (MapKept.bytes_beq k k).2 rfl
theorem bs_ne {a b : ByteArray} (h : a ≠ b) : (a == b) = false := Bool.eq_false_iff.2 fun e => h ((MapKept.bytes_beq a b).1 e)

theorem findNow_str (k : ByteArray) (v : AV) : ∀ (kvs : List (ByteArray × AV)) (ms : List MapEntry) (i : Nat), ms.length = kvs.length → (∀ (j : Nat) (m : MapEntry), ms[j]? = some m → ∃ p : ByteArray × AV, kvs[j]? = some p ∧ m.key = .string p.1) →
    (findS k kvs = none ∧ Instr.findNow .string (.string k) ms i = some none ∧ updS k v kvs = kvs ++ [(k, v)]) ∨
    (∃ (j : Nat) (p : ByteArray × AV) (m : MapEntry), kvs[j]? = some p ∧ ms[j]? = some m ∧ p.1 = k ∧ findS k kvs = some p.2 ∧ Instr.findNow .string (.string k) ms i = some (some (i + j, m.val)) ∧ updS k v kvs = kvs.set j (k, v)) := by
  intro kvs
  induction kvs with
  | nil =>
    intro ms i hl _
    have : ms = [] := List.length_eq_zero_iff.1 (by simpa using hl)
    subst this
    exact .inl ⟨rfl, rfl, rfl⟩
  | cons p r ih =>
    intro ms i hl hk
    cases ms with
    | nil => simp at hl
    | cons m ms =>
      obtain ⟨p', hp', hkey⟩ := hk 0 m rfl
      obtain rfl : p = p' := by simpa using hp'
      by_cases he : k = p.1
      · right
        refine ⟨0, p, m, rfl, rfl, he.symm, by simp [findS, he], ?_, by simp [updS, he]⟩
        simp [Instr.findNow, hkey, Instr.sameNow, he, bs_self]
      · rcases ih ms (i + 1) (by simpa using hl) (fun j m' hm => hk (j + 1) m' (by simpa using hm)) with ⟨h1, h2, h3⟩ | ⟨j, q, m', h1, h2, h3, h4, h5, h6⟩
        · left
          refine ⟨by simp [findS, he, h1], ?_, by simp [updS, he, h3]⟩
          have : (k == p.1) = false := bs_ne he
          simp [Instr.findNow, hkey, Instr.sameNow, this, h2]
        · right
          refine ⟨j + 1, q, m', by simpa using h1, by simpa using h2, h3, by simp [findS, he, h4], ?_, by simp [updS, he, h6]⟩
          have : (k == p.1) = false := bs_ne he
          simp [Instr.findNow, hkey, Instr.sameNow, this, h5]
          omega

theorem run_checkKey_str {t : TypeId} {w : World} {b : Bool} {k : ByteArray} (ht : P.underlying t = some .string) : (Instr.checkKey b 10000 t (.string k)).run P w = .ok () w := by
  have : ∀ m : Nat, (Instr.checkKey b (m + 1) t (.string k)).run P w = .ok () w := fun m => by
    simp [Instr.checkKey, run_underlying ht, Sem.run_bind, Result.andThen]
  exact this 9999

theorem run_findKey_str {t : TypeId} {w : World} {k : ByteArray} {ms : List MapEntry} {r : Option (Nat × Value)} (ht : P.underlying t = some .string) (h : Instr.findNow .string (.string k) ms 0 = some r) :
    (Instr.findKey t (.string k) ms).run P w = .ok r w := by
  simp [Instr.findKey, run_underlying ht, Sem.run_bind, Result.andThen, h]

theorem map_read {G : Gh} {w : World} {id : Nat} {kvs : List (ByteArray × AV)} (hi : Inv P G σ w) (hσ : σ id = some (.map (skvs kvs))) :
    ∃ (b : Nat) (ms : Array MapEntry) (clock : Nat), G.inj id = some b ∧ w.heap[b]? = some (.map ms clock) ∧ (ms.size = kvs.length ∧ StampB ms clock) ∧ (∀ (j : Nat) (m : MapEntry), ms.toList[j]? = some m → ∃ p : ByteArray × AV, kvs[j]? = some p ∧ m.key = .string p.1 ∧ Rep P G p.2 m.val) := by
  obtain ⟨b, ms, clock, h1, h2, ⟨h3, hst⟩, h4⟩ := hi.maps id _ hσ
  have hlen : (skvs kvs).length = kvs.length := by simp [skvs]
  refine ⟨b, ms, clock, h1, h2, ⟨by omega, hst⟩, fun j m hm => ?_⟩
  have hj : j < kvs.length := by
    have := (List.getElem?_eq_some_iff.1 hm).1
    simp at this; omega
  obtain ⟨m', g1, g2, g3⟩ := h4 j (by omega)
  rw [Array.getElem?_toList, g1] at hm
  obtain rfl := Option.some.inj hm
  refine ⟨kvs[j], List.getElem?_eq_getElem hj, ?_, ?_⟩
  · have e : ((skvs kvs).getD j (.any, .any)).1 = .sc (.string kvs[j].1) := by simp [skvs, hj]
    rw [e] at g2
    generalize m'.key = x at g2
    cases g2; rfl
  · have e : ((skvs kvs).getD j (.any, .any)).2 = kvs[j].2 := by simp [skvs, hj]
    rwa [e] at g3

def lookV (P : Program) (et : TypeId) (r : Option AV) (ok : Bool) : AV := if ok then .tup [r.getD (zeroAV P et), .sc (.bool r.isSome)] else r.getD (zeroAV P et)

theorem lookup_out {G : Gh} {w : World} {K Pn : AV → AS → Prop} (hi : Inv P G σ w) {t kt et : TypeId} {x ix : Value} {ok : Bool} {id : Nat} {k : ByteArray} {kvs : List (ByteArray × AV)}
    (hm : P.underlying t = some (.map kt et)) (hk : P.underlying kt = some .string) (hz : (zeroAV P et).laid = true) (hx : Rep P G (.mp id) x) (hix : Rep P G (.sc (.string k)) ix) (hσ : σ id = some (.map (skvs kvs)))
    (h : K (lookV P et (findS k kvs) ok) σ) : Out P G K Pn (((do pure (Next.value (← Instr.lookup t x ix ok))) : Sem Next).run P w) := by
  obtain ⟨b, ms, clock, h1, h2, ⟨h3, hst⟩, h4⟩ := map_read hi hσ
  cases hix
  cases hx with
  | mp hb =>
    rw [h1] at hb
    obtain rfl := Option.some.inj hb
    obtain ⟨it, z, hit, hzv, hzr⟩ := zeroAV_info hz
    have tupR : ∀ (a : AV) (v : Value) (bb : Bool), Rep P G a v → Rep P G (.tup [a, .sc (.bool bb)]) (.tuple #[v, .bool bb]) := by
      intro a v bb ha
      refine .tup [v, .bool bb] rfl fun i hi => ?_
      match i, hi with
      | 0, _ => exact ha
      | 1, _ => exact .sc _
    rcases findNow_str k .any kvs ms.toList 0 (by simpa using h3) (fun j m hm => let ⟨p, a, b, _⟩ := h4 j m hm; ⟨p, a, b⟩) with ⟨g1, g2, _⟩ | ⟨j, p, m, g1, g2, g3, g4, g5, _⟩
    · have hrun : (Instr.lookup t (.map (some b)) (.string k) ok).run P w = .ok (if ok then .tuple #[z, .bool false] else z) w := by
        simp only [Instr.lookup, Sem.run_bind, run_underlying hm, Result.andThen_ok, MapKept.run_getObj_map h2, Sem.run_pure, run_checkKey_str hk, run_findKey_str hk g2, zeroValue, run_typeInfo w hit, hzv]
      refine Out.value hrun (.refl G) hi ?_ h
      rw [g1]
      unfold lookV
      cases ok
      · rw [Option.getD_none, hzr]; exact rep_ofC z
      · exact tupR _ _ _ (by rw [Option.getD_none, hzr]; exact rep_ofC z)
    · have hrun : (Instr.lookup t (.map (some b)) (.string k) ok).run P w = .ok (if ok then .tuple #[m.val, .bool true] else m.val) w := by
        simp only [Instr.lookup, Sem.run_bind, run_underlying hm, Result.andThen_ok, MapKept.run_getObj_map h2, Sem.run_pure, run_checkKey_str hk, run_findKey_str hk g5]
      refine Out.value hrun (.refl G) hi ?_ h
      obtain ⟨p', q1, _, q3⟩ := h4 j m g2
      rw [g1] at q1
      obtain rfl := Option.some.inj q1
      rw [g4]
      unfold lookV
      cases ok
      · exact q3
      · exact tupR _ _ _ q3

theorem SOp.lookup {d t kt et : Nat} {x ix : Operand} {ok : Bool} {ty : TypeId} {pos : String} {af : Array Edge} {g : Option (Nat × Bool)} {K : Fr → AS → Prop} (hd : d < n) (id : Nat) (k : ByteArray) (kvs : List (ByteArray × AV))
    (hm : P.underlying t = some (.map kt et)) (hk : P.underlying kt = some .string) (hz : (zeroAV P et).laid = true) (hx : ev s x = .mp id) (hix : ev s ix = .sc (.string k)) (hσ : σ id = some (.map (skvs kvs)))
    (h : K (s.put (some d) (lookV P et (findS k kvs) ok)) σ) : SOp P n ds Q ⟨some d, .lookup t x ix ok, ty, pos, af, g⟩ s σ K :=
  SOp.of_out hd fun G a w hs => lookup_out (K := fun v σ' => K (s.put (some d) v) σ') hs.inv hm hk hz (hx ▸ hs.ev x) (hix ▸ hs.ev ix) hσ h

/-- A map's block, written anew. -/
theorem Inv.setMap {G : Gh} {w : World} (h : Inv P G σ w) {id b : Nat} {ms : Array MapEntry} {clock : Nat} (hb : G.inj id = some b) (hw : w.heap[b]? = some (.map ms clock)) (ms' : Array MapEntry) (clock' : Nat) (es : List (AV × AV)) (hsz : ms'.size = es.length) (hst : StampB ms' clock')
    (hgrow : (∀ (k : Nat) (e : MapEntry), ms[k]? = some e → ∃ e', ms'[k]? = some e' ∧ e'.born = e.born) ∧ (∀ (k : Nat) (e' : MapEntry), ms'[k]? = some e' → ms[k]? = none → clock ≤ e'.born) ∧ clock ≤ clock' ∧ ms'.size + clock = ms.size + clock')
    (hr : ∀ k, k < es.length → ∃ m, ms'[k]? = some m ∧ Rep P G (es.getD k (.any, .any)).1 m.key ∧ Rep P G (es.getD k (.any, .any)).2 m.val) :
    Inv P G (σ.set id (.map es)) { w with heap := w.heap.setIfInBounds b (.map ms' clock') } := by
  have hlt := lt_of_heap hw
  have hB := h.injB id b hb
  have other : ∀ k, k ≠ b → (w.heap.setIfInBounds b (.map ms' clock'))[k]? = w.heap[k]? := fun k hk => Array.getElem?_setIfInBounds_ne (fun e => hk e.symm)
  have same : (w.heap.setIfInBounds b (.map ms' clock'))[b]? = some (.map ms' clock') := by simp [hlt]
  have hmem : ∀ o, G.mem b o = none := by
    intro o
    cases hm : G.mem b o with
    | none => rfl
    | some v =>
      have := (h.mem b o v hm).1
      simp [World.cell?, hw] at this
  refine ⟨⟨h.below.os, h.below.tape, h.below.output, by simpa using h.below.size, fun k hk => by
    have hkb : k ≠ b := by have := hB.1; omega
    rw [show ({ w with heap := w.heap.setIfInBounds b (.map ms' clock') } : World).heap[k]? = (w.heap.setIfInBounds b (.map ms' clock'))[k]? from rfl, other k hkb]
    exact h.below.block k hk⟩, h.base, ?_, h.top, ?_, h.inj1, ?_, ?_, ?_, ?_, ?_⟩
  · intro b' o v em
    have hne : b' ≠ b := by intro e'; subst e'; rw [hmem o] at em; cases em
    exact ⟨by rw [World.cell?_of_block (w := w) (other b' hne)]; exact (h.mem b' o v em).1, (h.mem b' o v em).2⟩
  · intro j c ej
    have := h.injB j c ej
    refine ⟨this.1, by simpa using this.2.1, fun ty' cs' hn => ?_⟩
    by_cases hj : j = id
    · subst hj; simp [AS.set] at hn
    · exact this.2.2 ty' cs' (by simpa [AS.set, hj] using hn)
  · intro j ty' cs' ej
    have hj : j ≠ id := by intro e'; subst e'; simp [AS.set] at ej
    simp [AS.set, hj] at ej
    obtain ⟨c, vs', k1, k2, k3⟩ := h.cells j ty' cs' ej
    have hne : c ≠ b := fun e' => hj (h.inj1 j id b (e' ▸ k1) hb)
    exact ⟨c, vs', k1, by rw [other c hne]; exact k2, k3⟩
  · intro j es' ej
    by_cases hj : j = id
    · subst hj
      simp [AS.set] at ej
      subst ej
      exact ⟨b, ms', clock', hb, same, ⟨hsz, hst⟩, hr⟩
    · simp [AS.set, hj] at ej
      obtain ⟨c, ms2, cl, k1, k2, k3⟩ := h.maps j es' ej
      have hne : c ≠ b := fun e' => hj (h.inj1 j id b (e' ▸ k1) hb)
      exact ⟨c, ms2, cl, k1, by rw [other c hne]; exact k2, k3⟩
  · intro j s p ej
    have hj : j ≠ id := by intro e'; subst e'; simp [AS.set] at ej; subst ej; cases p
    simp [AS.set, hj] at ej
    obtain ⟨c, k1, k2⟩ := h.iters j s p ej
    have hne : c ≠ b := fun e' => hj (h.inj1 j id b (e' ▸ k1) hb)
    refine ⟨c, k1, ?_⟩
    cases s with
    | siter s pos =>
      have k2' : w.heap[c]? = some (.stringIter s pos) := k2
      show (w.heap.setIfInBounds b (.map ms' clock'))[c]? = _
      rw [other c hne]; exact k2'
    | miter mid n0 done =>
      obtain ⟨m, since, seen, last, ms0, clock0, q1, q2, q3, q4, q5, q6, q7, q8, q9, q10, q11, q12, q13⟩ := k2
      by_cases hm : m = b
      · subst hm
        rw [hw] at q3
        cases q3
        refine ⟨m, since, seen, last, ms', clock', by rw [← q1]; exact other c hne, q2, same, ?_, q5, by have := hgrow.2.2.1; omega, hst, ?_, ?_, q10, q11, by have := hgrow.2.2.2; omega, ?_⟩
        · rcases Nat.lt_or_ge ms'.size n0 with hlt | hge
          · have hg : ms[ms'.size]? = some ms[ms'.size] := Array.getElem?_eq_getElem (by omega)
            obtain ⟨e', g1, _⟩ := hgrow.1 _ _ hg
            simp at g1
          · exact hge
        · intro k e hk
          cases hg : ms[k]? with
          | some e0 =>
            obtain ⟨e', g1, g2⟩ := hgrow.1 k e0 hg
            rw [hk] at g1
            cases g1
            rw [q8 k e0 hg, g2]
          | none =>
            have g1 := hgrow.2.1 k e hk hg
            have g2 : ms.size ≤ k := by simpa using hg
            constructor <;> intro <;> omega
        · intro k e hk hkn
          have hg : ms[k]? = some ms[k] := Array.getElem?_eq_getElem (by omega)
          obtain ⟨e', g1, g2⟩ := hgrow.1 k _ hg
          rw [hk] at g1
          cases g1
          rw [g2]
          exact q9 k _ hg hkn
        · intro k hk
          obtain ⟨e, g1, g2⟩ := q13 k hk
          obtain ⟨e', g3, g4⟩ := hgrow.1 k e g1
          exact ⟨e', g3, by rw [g2, g4]⟩
      · exact ⟨m, since, seen, last, ms0, clock0, by rw [← q1]; exact other c hne, q2, by rw [← q3]; exact other m hm, q4, q5, q6, q7, q8, q9, q10, q11, q12, q13⟩
    | cells ty cs => trivial
    | tok n => trivial
    | map es => trivial
  · intro j n ej
    have hj : j ≠ id := by intro e'; subst e'; simp [AS.set] at ej
    simp [AS.set, hj] at ej
    exact h.tok j n ej
  · intro t r et
    obtain ⟨k1, k2, k3⟩ := h.own t r et
    refine ⟨k1, k2, fun c o ea k hk1 hk2 => ?_⟩
    obtain ⟨m1, m2, m3, m4, m5, m6, m7⟩ := k3 c o ea k hk1 hk2
    have hne : c ≠ b := fun e' => m4 id (e' ▸ hb)
    refine ⟨?_, ?_, m3, m4, m5, by simpa using m6, m7⟩
    · rw [World.cell?_of_block (w := w) (other c hne)]; exact m1
    · rw [World.frozen?_of_block (w := w) (other c hne)]; exact m2

theorem stampB_push {ms : Array MapEntry} {clock : Nat} (h : StampB ms clock) {key val : Value} : StampB (ms.push { key, val, born := clock }) (clock + 1) := by
  constructor
  · intro k e hk
    rw [Array.getElem?_push] at hk
    split at hk
    · cases hk; simp
    · have := h.1 k e hk; omega
  · intro k k' e e' hk hk' he
    rw [Array.getElem?_push] at hk hk'
    split at hk <;> split at hk'
    · omega
    · cases hk; have := h.1 k' e' hk'; simp at he; omega
    · cases hk'; have := h.1 k e hk; simp at he; omega
    · exact h.2 k k' e e' hk hk' he
theorem grow_push (ms : Array MapEntry) (clock : Nat) (x : MapEntry) (hx : x.born = clock) :
    (∀ (k : Nat) (e : MapEntry), ms[k]? = some e → ∃ e', (ms.push x)[k]? = some e' ∧ e'.born = e.born) ∧ (∀ (k : Nat) (e' : MapEntry), (ms.push x)[k]? = some e' → ms[k]? = none → clock ≤ e'.born) ∧ clock ≤ clock + 1 ∧ (ms.push x).size + clock = ms.size + (clock + 1) := by
  refine ⟨fun k e hk => ⟨e, ?_, rfl⟩, fun k e' hk hn => ?_, by omega, by simp; omega⟩
  · have := (Array.getElem?_eq_some_iff.1 hk).1
    rw [Array.getElem?_push, if_neg (by omega)]
    exact hk
  · rw [Array.getElem?_push] at hk
    split at hk
    · cases hk; omega
    · rw [hn] at hk; cases hk
theorem stampB_modify {ms : Array MapEntry} {clock : Nat} (h : StampB ms clock) (j : Nat) (f : MapEntry → MapEntry) (hf : ∀ e, (f e).born = e.born) : StampB (ms.modify j f) clock := by
  have back : ∀ (k : Nat) (e : MapEntry), (ms.modify j f)[k]? = some e → ∃ e0, ms[k]? = some e0 ∧ e.born = e0.born := by
    intro k e hk
    rw [Array.getElem?_modify] at hk
    split at hk
    · cases hg : ms[k]? with
      | none => rw [hg] at hk; cases hk
      | some e0 => rw [hg] at hk; cases hk; exact ⟨e0, rfl, hf e0⟩
    · exact ⟨e, hk, rfl⟩
  constructor
  · intro k e hk
    obtain ⟨e0, h1, h2⟩ := back k e hk
    rw [h2]; exact h.1 k e0 h1
  · intro k k' e e' hk hk' he
    obtain ⟨e0, h1, h2⟩ := back k e hk
    obtain ⟨e1, h3, h4⟩ := back k' e' hk'
    exact h.2 k k' e0 e1 h1 h3 (by omega)
theorem grow_modify (ms : Array MapEntry) (clock : Nat) (j : Nat) (f : MapEntry → MapEntry) (hf : ∀ e, (f e).born = e.born) :
    (∀ (k : Nat) (e : MapEntry), ms[k]? = some e → ∃ e', (ms.modify j f)[k]? = some e' ∧ e'.born = e.born) ∧ (∀ (k : Nat) (e' : MapEntry), (ms.modify j f)[k]? = some e' → ms[k]? = none → clock ≤ e'.born) ∧ clock ≤ clock ∧ (ms.modify j f).size + clock = ms.size + clock := by
  refine ⟨fun k e hk => ?_, fun k e' hk hn => ?_, by omega, by simp⟩
  · rw [Array.getElem?_modify]
    split
    · exact ⟨f e, by rw [hk]; rfl, hf e⟩
    · exact ⟨e, hk, rfl⟩
  · rw [Array.getElem?_modify, hn] at hk
    split at hk <;> cases hk

theorem mapUpdate_out {G : Gh} {w : World} {K Pn : AV → AS → Prop} (hi : Inv P G σ w) {t kt et : TypeId} {x ix vx : Value} {v : AV} {id : Nat} {k : ByteArray} {kvs : List (ByteArray × AV)}
    (hm : P.underlying t = some (.map kt et)) (hk : P.underlying kt = some .string) (hx : Rep P G (.mp id) x) (hix : Rep P G (.sc (.string k)) ix) (hv : Rep P G v vx) (hσ : σ id = some (.map (skvs kvs)))
    (h : K .any (σ.set id (.map (skvs (updS k v kvs))))) : Out P G K Pn (((do Instr.mapUpdate t x ix vx; pure Next.skip) : Sem Next).run P w) := by
  obtain ⟨b, ms, clock, h1, h2, ⟨h3, hst⟩, h4⟩ := map_read hi hσ
  cases hix
  cases hx with
  | mp hb =>
    rw [h1] at hb
    obtain rfl := Option.some.inj hb
    have getS : ∀ (l : List (ByteArray × AV)) (j : Nat) (p : ByteArray × AV), l[j]? = some p → (skvs l).getD j (.any, .any) = (.sc (.string p.1), p.2) := by
      intro l j p hp
      simp [skvs, hp]
    have hsl : ∀ l, (skvs l).length = l.length := by intro l; simp [skvs]
    rcases findNow_str k v kvs ms.toList 0 (by simpa using h3) (fun j m hm => let ⟨p, a, b, _⟩ := h4 j m hm; ⟨p, a, b⟩) with ⟨g1, g2, g6⟩ | ⟨j, p, m, g1, g2, g3, g4, g5, g6⟩
    · have hrun : (Instr.mapUpdate t (.map (some b)) (.string k) vx).run P w = .ok () { w with heap := w.heap.setIfInBounds b (.map (ms.push { key := .string k, val := vx, born := clock }) (clock + 1)) } := by
        simp only [Instr.mapUpdate, Sem.run_bind, run_underlying hm, Result.andThen_ok, MapKept.run_getObj_map h2, Sem.run_pure, run_checkKey_str hk, run_findKey_str hk g2, MapKept.run_setObj_map _ h2]
      rw [g6] at h
      refine Out.unit hrun (.refl G) (hi.setMap h1 h2 _ _ (skvs (kvs ++ [(k, v)])) (by simp [hsl, h3]) (stampB_push hst) (grow_push ms clock _ rfl) (fun i hi' => ?_)) (.any _) h
      rw [hsl] at hi'
      simp at hi'
      by_cases hlt : i < kvs.length
      · have hmi : i < ms.size := by omega
        obtain ⟨p, q1, q2, q3⟩ := h4 i ms[i] (by simp [hmi])
        refine ⟨ms[i], by simp [Array.getElem?_push, hmi]; omega, ?_⟩
        rw [getS _ i p (by rw [List.getElem?_append_left hlt]; exact q1), q2]
        exact ⟨.sc _, q3⟩
      · have he : i = kvs.length := by omega
        subst he
        refine ⟨{ key := .string k, val := vx, born := clock }, by rw [← h3]; simp, ?_⟩
        rw [getS _ kvs.length (k, v) (by simp)]
        exact ⟨.sc _, hv⟩
    · have hjm : j < ms.size := by
        have := (List.getElem?_eq_some_iff.1 g2).1
        simpa using this
      have hold : ms[j]? = some m := by rw [← Array.getElem?_toList]; exact g2
      obtain ⟨p', q1, q2, q3⟩ := h4 j m g2
      rw [g1] at q1
      obtain rfl := Option.some.inj q1
      have hkey : (Instr.keyThatStays m.key (.string k)).run P w = .ok (.string k) w := by
        have : ∀ q : Nat, Instr.sameBits q (.string k) (.string k) = true := fun q => by simp [Instr.sameBits, bs_self]
        rw [q2, g3]
        simp [Instr.keyThatStays, this]
      have hrun : (Instr.mapUpdate t (.map (some b)) (.string k) vx).run P w = .ok () { w with heap := w.heap.setIfInBounds b (.map (ms.modify j fun e => { e with key := .string k, val := vx }) clock) } := by
        simp only [Instr.mapUpdate, Sem.run_bind, run_underlying hm, Result.andThen_ok, MapKept.run_getObj_map h2, Sem.run_pure, run_checkKey_str hk, run_findKey_str hk g5, Nat.zero_add, hold, Option.map_some, Option.getD_some, hkey, MapKept.run_setObj_map _ h2]
      rw [g6] at h
      refine Out.unit hrun (.refl G) (hi.setMap h1 h2 _ _ (skvs (kvs.set j (k, v))) (by simp [hsl, h3]) (stampB_modify hst j _ (fun _ => rfl)) (grow_modify ms clock j _ (fun _ => rfl)) (fun i hi' => ?_)) (.any _) h
      rw [hsl] at hi'
      simp at hi'
      have hmi : i < ms.size := by omega
      by_cases hij : i = j
      · subst hij
        refine ⟨{ m with key := .string k, val := vx }, by simp [Array.getElem?_modify, hold], ?_⟩
        rw [getS _ i (k, v) (by simp [List.getElem?_set, hi'])]
        exact ⟨.sc _, hv⟩
      · obtain ⟨p2, r1, r2, r3⟩ := h4 i ms[i] (by simp [hmi])
        refine ⟨ms[i], by rw [Array.getElem?_modify, if_neg (fun e => hij e.symm)]; exact Array.getElem?_eq_getElem hmi, ?_⟩
        rw [getS _ i p2 (by rw [List.getElem?_set_ne (fun e => hij e.symm)]; exact r1), r2]
        exact ⟨.sc _, r3⟩

theorem SOp.mapUpdate {t kt et : Nat} {m x ix : Operand} {ty : TypeId} {pos : String} {af : Array Edge} {g : Option (Nat × Bool)} {K : Fr → AS → Prop} (id : Nat) (k : ByteArray) (kvs : List (ByteArray × AV))
    (hm : P.underlying t = some (.map kt et)) (hk : P.underlying kt = some .string) (hx : ev s m = .mp id) (hix : ev s ix = .sc (.string k)) (hσ : σ id = some (.map (skvs kvs)))
    (h : K s (σ.set id (.map (skvs (updS k (ev s x) kvs))))) : SOp P n ds Q ⟨none, .mapUpdate t m ix x, ty, pos, af, g⟩ s σ K :=
  SOp.of_out trivial fun G a w hs => mapUpdate_out (K := fun v σ' => K (s.put none v) σ') hs.inv hm hk (hx ▸ hs.ev m) (hix ▸ hs.ev ix) (hs.ev x) hσ h

end Go.AW

set_option linter.unusedSimpArgs false
set_option linter.unusedVariables false
namespace Go.AW
open Go Go.RowKit

variable {P : Program} {n : Nat} {ds : List Deferred} {Q : AQ} {s : Fr} {σ : AS}

/-! ## maps whose keys are ints -/

def ikvs (kvs : List (Int × AV)) : List (AV × AV) := kvs.map fun p => (.sc (.int .i64 p.1), p.2)
def findI (k : Int) : List (Int × AV) → Option AV
  | [] => none
  | (k', v) :: r => if k = k' then some v else findI k r
def updI (k : Int) (v : AV) : List (Int × AV) → List (Int × AV)
  | [] => [(k, v)]
  | (k', v') :: r => if k = k' then (k, v) :: r else (k', v') :: updI k v r

theorem bi_self (k : Int) : (k == k) = true := by simp
theorem bi_ne {a b : Int} (h : a ≠ b) : (a == b) = false := by simpa using h

theorem findNow_int (k : Int) (v : AV) : ∀ (kvs : List (Int × AV)) (ms : List MapEntry) (i : Nat), ms.length = kvs.length → (∀ (j : Nat) (m : MapEntry), ms[j]? = some m → ∃ p : Int × AV, kvs[j]? = some p ∧ m.key = .int .i64 p.1) →
    (findI k kvs = none ∧ Instr.findNow (.int .i64) (.int .i64 k) ms i = some none ∧ updI k v kvs = kvs ++ [(k, v)]) ∨
    (∃ (j : Nat) (p : Int × AV) (m : MapEntry), kvs[j]? = some p ∧ ms[j]? = some m ∧ p.1 = k ∧ findI k kvs = some p.2 ∧ Instr.findNow (.int .i64) (.int .i64 k) ms i = some (some (i + j, m.val)) ∧ updI k v kvs = kvs.set j (k, v)) := by
  intro kvs
  induction kvs with
  | nil =>
    intro ms i hl _
    have : ms = [] := List.length_eq_zero_iff.1 (by simpa using hl)
    subst this
    exact .inl ⟨rfl, rfl, rfl⟩
  | cons p r ih =>
    intro ms i hl hk
    cases ms with
    | nil => simp at hl
    | cons m ms =>
      obtain ⟨p', hp', hkey⟩ := hk 0 m rfl
      obtain rfl : p = p' := by simpa using hp'
      by_cases he : k = p.1
      · right
        refine ⟨0, p, m, rfl, rfl, he.symm, by simp [findI, he], ?_, by simp [updI, he]⟩
        simp [Instr.findNow, hkey, Instr.sameNow, he, bi_self]
      · rcases ih ms (i + 1) (by simpa using hl) (fun j m' hm => hk (j + 1) m' (by simpa using hm)) with ⟨h1, h2, h3⟩ | ⟨j, q, m', h1, h2, h3, h4, h5, h6⟩
        · left
          refine ⟨by simp [findI, he, h1], ?_, by simp [updI, he, h3]⟩
          have : (k == p.1) = false := bi_ne he
          simp [Instr.findNow, hkey, Instr.sameNow, this, h2]
        · right
          refine ⟨j + 1, q, m', by simpa using h1, by simpa using h2, h3, by simp [findI, he, h4], ?_, by simp [updI, he, h6]⟩
          have : (k == p.1) = false := bi_ne he
          simp [Instr.findNow, hkey, Instr.sameNow, this, h5]
          omega

theorem run_checkKey_int {t : TypeId} {w : World} {b : Bool} {k : Int} (ht : P.underlying t = some (.int .i64)) : (Instr.checkKey b 10000 t (.int .i64 k)).run P w = .ok () w := by
  have : ∀ m : Nat, (Instr.checkKey b (m + 1) t (.int .i64 k)).run P w = .ok () w := fun m => by
    simp [Instr.checkKey, run_underlying ht, Sem.run_bind, Result.andThen]
  exact this 9999

theorem run_findKey_int {t : TypeId} {w : World} {k : Int} {ms : List MapEntry} {r : Option (Nat × Value)} (ht : P.underlying t = some (.int .i64)) (h : Instr.findNow (.int .i64) (.int .i64 k) ms 0 = some r) :
    (Instr.findKey t (.int .i64 k) ms).run P w = .ok r w := by
  simp [Instr.findKey, run_underlying ht, Sem.run_bind, Result.andThen, h]

theorem map_readI {G : Gh} {w : World} {id : Nat} {kvs : List (Int × AV)} (hi : Inv P G σ w) (hσ : σ id = some (.map (ikvs kvs))) :
    ∃ (b : Nat) (ms : Array MapEntry) (clock : Nat), G.inj id = some b ∧ w.heap[b]? = some (.map ms clock) ∧ (ms.size = kvs.length ∧ StampB ms clock) ∧ (∀ (j : Nat) (m : MapEntry), ms.toList[j]? = some m → ∃ p : Int × AV, kvs[j]? = some p ∧ m.key = .int .i64 p.1 ∧ Rep P G p.2 m.val) := by
  obtain ⟨b, ms, clock, h1, h2, ⟨h3, hst⟩, h4⟩ := hi.maps id _ hσ
  have hlen : (ikvs kvs).length = kvs.length := by simp [ikvs]
  refine ⟨b, ms, clock, h1, h2, ⟨by omega, hst⟩, fun j m hm => ?_⟩
  have hj : j < kvs.length := by
    have := (List.getElem?_eq_some_iff.1 hm).1
    simp at this; omega
  obtain ⟨m', g1, g2, g3⟩ := h4 j (by omega)
  rw [Array.getElem?_toList, g1] at hm
  obtain rfl := Option.some.inj hm
  refine ⟨kvs[j], List.getElem?_eq_getElem hj, ?_, ?_⟩
  · have e : ((ikvs kvs).getD j (.any, .any)).1 = .sc (.int .i64 kvs[j].1) := by simp [ikvs, hj]
    rw [e] at g2
    generalize m'.key = x at g2
    cases g2; rfl
  · have e : ((ikvs kvs).getD j (.any, .any)).2 = kvs[j].2 := by simp [ikvs, hj]
    rwa [e] at g3


theorem lookup_outI {G : Gh} {w : World} {K Pn : AV → AS → Prop} (hi : Inv P G σ w) {t kt et : TypeId} {x ix : Value} {ok : Bool} {id : Nat} {k : Int} {kvs : List (Int × AV)}
    (hm : P.underlying t = some (.map kt et)) (hk : P.underlying kt = some (.int .i64)) (hz : (zeroAV P et).laid = true) (hx : Rep P G (.mp id) x) (hix : Rep P G (.sc (.int .i64 k)) ix) (hσ : σ id = some (.map (ikvs kvs)))
    (h : K (lookV P et (findI k kvs) ok) σ) : Out P G K Pn (((do pure (Next.value (← Instr.lookup t x ix ok))) : Sem Next).run P w) := by
  obtain ⟨b, ms, clock, h1, h2, ⟨h3, hst⟩, h4⟩ := map_readI hi hσ
  cases hix
  cases hx with
  | mp hb =>
    rw [h1] at hb
    obtain rfl := Option.some.inj hb
    obtain ⟨it, z, hit, hzv, hzr⟩ := zeroAV_info hz
    have tupR : ∀ (a : AV) (v : Value) (bb : Bool), Rep P G a v → Rep P G (.tup [a, .sc (.bool bb)]) (.tuple #[v, .bool bb]) := by
      intro a v bb ha
      refine .tup [v, .bool bb] rfl fun i hi => ?_
      match i, hi with
      | 0, _ => exact ha
      | 1, _ => exact .sc _
    rcases findNow_int k .any kvs ms.toList 0 (by simpa using h3) (fun j m hm => let ⟨p, a, b, _⟩ := h4 j m hm; ⟨p, a, b⟩) with ⟨g1, g2, _⟩ | ⟨j, p, m, g1, g2, g3, g4, g5, _⟩
    · have hrun : (Instr.lookup t (.map (some b)) (.int .i64 k) ok).run P w = .ok (if ok then .tuple #[z, .bool false] else z) w := by
        simp only [Instr.lookup, Sem.run_bind, run_underlying hm, Result.andThen_ok, MapKept.run_getObj_map h2, Sem.run_pure, run_checkKey_int hk, run_findKey_int hk g2, zeroValue, run_typeInfo w hit, hzv]
      refine Out.value hrun (.refl G) hi ?_ h
      rw [g1]
      unfold lookV
      cases ok
      · rw [Option.getD_none, hzr]; exact rep_ofC z
      · exact tupR _ _ _ (by rw [Option.getD_none, hzr]; exact rep_ofC z)
    · have hrun : (Instr.lookup t (.map (some b)) (.int .i64 k) ok).run P w = .ok (if ok then .tuple #[m.val, .bool true] else m.val) w := by
        simp only [Instr.lookup, Sem.run_bind, run_underlying hm, Result.andThen_ok, MapKept.run_getObj_map h2, Sem.run_pure, run_checkKey_int hk, run_findKey_int hk g5]
      refine Out.value hrun (.refl G) hi ?_ h
      obtain ⟨p', q1, _, q3⟩ := h4 j m g2
      rw [g1] at q1
      obtain rfl := Option.some.inj q1
      rw [g4]
      unfold lookV
      cases ok
      · exact q3
      · exact tupR _ _ _ q3

theorem SOp.lookupI {d t kt et : Nat} {x ix : Operand} {ok : Bool} {ty : TypeId} {pos : String} {af : Array Edge} {g : Option (Nat × Bool)} {K : Fr → AS → Prop} (hd : d < n) (id : Nat) (k : Int) (kvs : List (Int × AV))
    (hm : P.underlying t = some (.map kt et)) (hk : P.underlying kt = some (.int .i64)) (hz : (zeroAV P et).laid = true) (hx : ev s x = .mp id) (hix : ev s ix = .sc (.int .i64 k)) (hσ : σ id = some (.map (ikvs kvs)))
    (h : K (s.put (some d) (lookV P et (findI k kvs) ok)) σ) : SOp P n ds Q ⟨some d, .lookup t x ix ok, ty, pos, af, g⟩ s σ K :=
  SOp.of_out hd fun G a w hs => lookup_outI (K := fun v σ' => K (s.put (some d) v) σ') hs.inv hm hk hz (hx ▸ hs.ev x) (hix ▸ hs.ev ix) hσ h

theorem mapUpdate_outI {G : Gh} {w : World} {K Pn : AV → AS → Prop} (hi : Inv P G σ w) {t kt et : TypeId} {x ix vx : Value} {v : AV} {id : Nat} {k : Int} {kvs : List (Int × AV)}
    (hm : P.underlying t = some (.map kt et)) (hk : P.underlying kt = some (.int .i64)) (hx : Rep P G (.mp id) x) (hix : Rep P G (.sc (.int .i64 k)) ix) (hv : Rep P G v vx) (hσ : σ id = some (.map (ikvs kvs)))
    (h : K .any (σ.set id (.map (ikvs (updI k v kvs))))) : Out P G K Pn (((do Instr.mapUpdate t x ix vx; pure Next.skip) : Sem Next).run P w) := by
  obtain ⟨b, ms, clock, h1, h2, ⟨h3, hst⟩, h4⟩ := map_readI hi hσ
  cases hix
  cases hx with
  | mp hb =>
    rw [h1] at hb
    obtain rfl := Option.some.inj hb
    have getS : ∀ (l : List (Int × AV)) (j : Nat) (p : Int × AV), l[j]? = some p → (ikvs l).getD j (.any, .any) = (.sc (.int .i64 p.1), p.2) := by
      intro l j p hp
      simp [ikvs, hp]
    have hsl : ∀ l, (ikvs l).length = l.length := by intro l; simp [ikvs]
    rcases findNow_int k v kvs ms.toList 0 (by simpa using h3) (fun j m hm => let ⟨p, a, b, _⟩ := h4 j m hm; ⟨p, a, b⟩) with ⟨g1, g2, g6⟩ | ⟨j, p, m, g1, g2, g3, g4, g5, g6⟩
    · have hrun : (Instr.mapUpdate t (.map (some b)) (.int .i64 k) vx).run P w = .ok () { w with heap := w.heap.setIfInBounds b (.map (ms.push { key := .int .i64 k, val := vx, born := clock }) (clock + 1)) } := by
        simp only [Instr.mapUpdate, Sem.run_bind, run_underlying hm, Result.andThen_ok, MapKept.run_getObj_map h2, Sem.run_pure, run_checkKey_int hk, run_findKey_int hk g2, MapKept.run_setObj_map _ h2]
      rw [g6] at h
      refine Out.unit hrun (.refl G) (hi.setMap h1 h2 _ _ (ikvs (kvs ++ [(k, v)])) (by simp [hsl, h3]) (stampB_push hst) (grow_push ms clock _ rfl) (fun i hi' => ?_)) (.any _) h
      rw [hsl] at hi'
      simp at hi'
      by_cases hlt : i < kvs.length
      · have hmi : i < ms.size := by omega
        obtain ⟨p, q1, q2, q3⟩ := h4 i ms[i] (by simp [hmi])
        refine ⟨ms[i], by simp [Array.getElem?_push, hmi]; omega, ?_⟩
        rw [getS _ i p (by rw [List.getElem?_append_left hlt]; exact q1), q2]
        exact ⟨.sc _, q3⟩
      · have he : i = kvs.length := by omega
        subst he
        refine ⟨{ key := .int .i64 k, val := vx, born := clock }, by rw [← h3]; simp, ?_⟩
        rw [getS _ kvs.length (k, v) (by simp)]
        exact ⟨.sc _, hv⟩
    · have hjm : j < ms.size := by
        have := (List.getElem?_eq_some_iff.1 g2).1
        simpa using this
      have hold : ms[j]? = some m := by rw [← Array.getElem?_toList]; exact g2
      obtain ⟨p', q1, q2, q3⟩ := h4 j m g2
      rw [g1] at q1
      obtain rfl := Option.some.inj q1
      have hkey : (Instr.keyThatStays m.key (.int .i64 k)).run P w = .ok (.int .i64 k) w := by
        have : ∀ q : Nat, Instr.sameBits q (.int .i64 k) (.int .i64 k) = true := fun q => by simp [Instr.sameBits, bi_self]
        rw [q2, g3]
        simp [Instr.keyThatStays, this]
      have hrun : (Instr.mapUpdate t (.map (some b)) (.int .i64 k) vx).run P w = .ok () { w with heap := w.heap.setIfInBounds b (.map (ms.modify j fun e => { e with key := .int .i64 k, val := vx }) clock) } := by
        simp only [Instr.mapUpdate, Sem.run_bind, run_underlying hm, Result.andThen_ok, MapKept.run_getObj_map h2, Sem.run_pure, run_checkKey_int hk, run_findKey_int hk g5, Nat.zero_add, hold, Option.map_some, Option.getD_some, hkey, MapKept.run_setObj_map _ h2]
      rw [g6] at h
      refine Out.unit hrun (.refl G) (hi.setMap h1 h2 _ _ (ikvs (kvs.set j (k, v))) (by simp [hsl, h3]) (stampB_modify hst j _ (fun _ => rfl)) (grow_modify ms clock j _ (fun _ => rfl)) (fun i hi' => ?_)) (.any _) h
      rw [hsl] at hi'
      simp at hi'
      have hmi : i < ms.size := by omega
      by_cases hij : i = j
      · subst hij
        refine ⟨{ m with key := .int .i64 k, val := vx }, by simp [Array.getElem?_modify, hold], ?_⟩
        rw [getS _ i (k, v) (by simp [List.getElem?_set, hi'])]
        exact ⟨.sc _, hv⟩
      · obtain ⟨p2, r1, r2, r3⟩ := h4 i ms[i] (by simp [hmi])
        refine ⟨ms[i], by rw [Array.getElem?_modify, if_neg (fun e => hij e.symm)]; exact Array.getElem?_eq_getElem hmi, ?_⟩
        rw [getS _ i p2 (by rw [List.getElem?_set_ne (fun e => hij e.symm)]; exact r1), r2]
        exact ⟨.sc _, r3⟩

theorem SOp.mapUpdateI {t kt et : Nat} {m x ix : Operand} {ty : TypeId} {pos : String} {af : Array Edge} {g : Option (Nat × Bool)} {K : Fr → AS → Prop} (id : Nat) (k : Int) (kvs : List (Int × AV))
    (hm : P.underlying t = some (.map kt et)) (hk : P.underlying kt = some (.int .i64)) (hx : ev s m = .mp id) (hix : ev s ix = .sc (.int .i64 k)) (hσ : σ id = some (.map (ikvs kvs)))
    (h : K s (σ.set id (.map (ikvs (updI k (ev s x) kvs))))) : SOp P n ds Q ⟨none, .mapUpdate t m ix x, ty, pos, af, g⟩ s σ K :=
  SOp.of_out trivial fun G a w hs => mapUpdate_outI (K := fun v σ' => K (s.put none v) σ') hs.inv hm hk (hx ▸ hs.ev m) (hix ▸ hs.ev ix) (hs.ev x) hσ h

end Go.AW

set_option linter.unusedSimpArgs false
set_option linter.unusedVariables false
namespace Go.AW
open Go Go.RowKit

variable {P : Program} {n : Nat} {ds : List Deferred} {Q : AQ} {s : Fr} {σ : AS}

/-! ## what is put off to a function's end, and what takes a panic back -/

theorem upon_Q {o : Oper} {a : Act} {next : Act → World → Prop} {T T' : Exit → Act → World → Prop} {r : Result Next} (hT : ∀ e a w, T e a w → T' e a w) (hh : o.upon P a next T r) : o.upon P a next T' r := by
  cases r with
  | ok nx w' =>
    cases nx <;> simp only [Oper.upon] at hh ⊢ <;>
      first
        | exact hh
        | exact Calls.mono hh (fun e w'' he => by
            cases e <;> first
              | exact he
              | exact hT _ _ _ he
              | (obtain ⟨a0, w0, h0⟩ := he; exact ⟨a0, w0, hT _ _ _ h0⟩))
  | halt x w' => cases x <;> simp only [Oper.upon] at hh ⊢ <;> first | exact hT _ _ _ hh | exact hh

theorem LQ.ne {K : Fr → AS → Prop} {G : Gh} {e : Exit} {a : Act} {w : World} (he : e ≠ .normal) (h : LQ P n ds (thenQ K Q) G e a w) : LQ P n ds Q G e a w := by
  cases e with
  | normal => exact absurd rfl he
  | panic ch =>
    match ch, h with
    | [x], h => exact h
    | [], h => exact h.elim
    | _ :: _ :: _, h => exact h.elim
  | exit i => exact h
  | ret => exact h
  | goto i => exact h.elim
  | outgrown => exact h.elim

theorem sOps_S {ops : Array Oper} {G0 : Gh} {cs : List Frame} {QS : Exit → Act → List Frame → World → Prop} (hQ : ∀ e a w, LQ P n ds Q G0 e a w → QS e a cs w) :
    ∀ (r : List Oper) (k : Nat), (∀ j, r[j]? = ops[k + j]?) → ∀ (G : Gh) (s : Fr) (σ : AS) (a : Act) (w : World), sOps P n ds ops Q r s σ → G0.Le G → Sim P G n ds s σ a w →
      wpOpsS P ops QS (List.range' k r.length) a cs w := by
  intro r
  induction r with
  | nil => intro k _ G s σ a w h hle hs; exact hQ _ _ _ ⟨G, s, σ, hle, hs, h⟩
  | cons o r ih =>
    intro k hk G s σ a w h hle hs
    have h0 : ops[k]? = some o := by simpa using (hk 0).symm
    have hk' : ∀ j, r[j]? = ops[k + 1 + j]? := fun j => by have := hk (j + 1); simpa [Nat.add_assoc, Nat.add_comm 1 j] using this
    rw [List.length_cons, List.range'_succ]
    simp only [wpOpsS, h0]
    have conv : ∀ next : Act → World → Prop, (∀ a w, next a w → wpOpsS P ops QS (List.range' (k + 1) r.length) a cs w) → o.wp P a w next (LQ P n ds Q G0) →
        (match (execOp a.eval o).run P w with
        | .ok .recover w' =>
          match recoverD cs with
          | some (v, cs') => wpOpsS P ops QS (List.range' (k + 1) r.length) (a.put o.dst v) cs' w'
          | none => wpOpsS P ops QS (List.range' (k + 1) r.length) (a.put o.dst .nilIface) cs w'
        | r' => o.upon P a (fun a' w' => wpOpsS P ops QS (List.range' (k + 1) r.length) a' cs w') (fun e a' w' => QS e a' cs w') r') := by
      intro next hn hw
      unfold Oper.wp at hw
      have hw' := upon_mono hn (upon_Q hQ hw)
      generalize (execOp a.eval o).run P w = r' at hw'
      cases r' with
      | ok nx w' => cases nx <;> first | exact hw' | (simp only [Oper.upon] at hw'; done)
      | halt x w' => exact hw'
    rcases h with ⟨hg, h⟩ | h
    · have hw : Region.wanted o (yielded ops a.tmps) = true := by simp [Region.wanted, hg]
      rw [if_pos hw]
      exact conv _ (fun _ _ h => h) (h G0 G a w hle hs _ (fun G' s' σ' a' w' h1 h2 h3 => ih (k + 1) hk' G' s' σ' a' w' h3 h1 h2))
    · have := guardOp_ok o h hle hs (next := fun a' w' => wpOpsS P ops QS (List.range' (k + 1) r.length) a' cs w') (fun G' s' σ' a' w' h1 h2 h3 => ih (k + 1) hk' G' s' σ' a' w' h3 h1 h2)
      by_cases hw : Region.wanted o (yielded ops a.tmps) = true
      · rw [if_pos hw] at this ⊢; exact conv _ (fun _ _ h => h) this
      · rw [if_neg hw] at this ⊢; exact this

/-- What a function that was put off does at the end: pv is what was thrown, if anything was; none of it goes on. -/
def DCalls (P : Program) (f : FuncId) (caps : List AV) (σ : AS) (pv : Option AV) (K : AS → Prop) : Prop :=
  ∀ (G : Gh) (w : World) (vals : Array Value) (u : FrameMode), Inv P G σ w → RepL P G caps vals →
    (match pv with | none => u = .returning | some a => ∃ e : PanicEntry, e.recovered = false ∧ e.goexit = false ∧ Rep P G a e.v ∧ u = .panicking [e]) →
    CallsD P f vals u w fun e u' w' => (∃ x, e = .returned x) ∧ settle u' = .returning ∧ ∃ G' σ', G.Le G' ∧ Inv P G' σ' w' ∧ K σ'

def endQ (K : AS → Prop) : AQ
  | .normal, _, σ => K σ
  | .ret, _, σ => K σ
  | _, _, _ => False
@[simp] theorem endQ_n (K : AS → Prop) (s : Fr) (σ : AS) : endQ K .normal s σ = K σ := rfl
@[simp] theorem endQ_r (K : AS → Prop) (s : Fr) (σ : AS) : endQ K .ret s σ = K σ := rfl

def recV (pv : Option AV) : AV := pv.getD (.sc .nilIface)

theorem DCalls.of {f : FuncId} {fn : Func} {d id : Nat} {l : List Oper} {y : Code} {ats : Array TypeId} {ty : TypeId} {pos : String} {af : Array Edge} {caps : List AV} {pv : Option AV} {K : AS → Prop}
    (hf : P.funcs[f]? = some fn) (hb : fn.body = some (.seq (.region id ((⟨some d, .call ⟨.builtin .recover, #[], ats⟩, ty, pos, af, none⟩ : Oper) :: l).toArray false) y)) (hres : fn.results.toList = []) (ha : caps.length ≤ fn.ntmps) (hd : d < fn.ntmps)
    (h : sOps P fn.ntmps [] ((⟨some d, .call ⟨.builtin .recover, #[], ats⟩, ty, pos, af, none⟩ : Oper) :: l).toArray (thenQ (AWp P fn.ntmps [] y (endQ K)) (endQ K)) l ((frOf caps).put (some d) (recV pv)) σ) : DCalls P f caps σ pv K := by
  intro G w vals u hi hr hu
  refine callsD_of_wpS hf hb fun c₀ cs hc => wpS_seq (wpS_region ?_)
  have hsim : Sim P G fn.ntmps [] (frOf caps) σ { tmps := vals ++ Array.replicate (fn.ntmps - vals.size) undef, defers := [] } w := by
    refine ⟨hi, by simp [hr.1]; omega, rfl, fun i => ?_⟩
    by_cases hlt : i < caps.length
    · have e1 : (vals ++ Array.replicate (fn.ntmps - vals.size) undef).getD i undef = vals.getD i undef := by
        rw [Array.getD_eq_getD_getElem?, Array.getElem?_append_left (by rw [hr.1]; exact hlt), ← Array.getD_eq_getD_getElem?]
      simp only [e1]
      exact hr.2 i hlt
    · have : frOf caps i = .any := by simp [frOf, List.getD_eq_getElem?_getD, List.getElem?_eq_none (Nat.le_of_not_lt hlt)]
      rw [this]
      exact .any _
  generalize ({ tmps := vals ++ Array.replicate (fn.ntmps - vals.size) undef, defers := [] } : Act) = a at hsim ⊢
  -- where the rest of it goes, by the mode that is left
  have rest : ∀ (u' : FrameMode) (v : Value), settle u' = .returning → Rep P G (recV pv) v →
      wpOpsS P ((⟨some d, .call ⟨.builtin .recover, #[], ats⟩, ty, pos, af, none⟩ : Oper) :: l).toArray
        (Exit.thenS (y.wpS P (bodyPostS P fn c₀ cs fun e u' w' => (∃ x, e = .returned x) ∧ settle u' = .returning ∧ ∃ G' σ', G.Le G' ∧ Inv P G' σ' w' ∧ K σ')) (bodyPostS P fn c₀ cs fun e u' w' => (∃ x, e = .returned x) ∧ settle u' = .returning ∧ ∃ G' σ', G.Le G' ∧ Inv P G' σ' w' ∧ K σ'))
        (List.range' 1 l.length) (a.put (some d) v) ({ c₀ with mode := u' } :: cs) w := by
    intro u' v hu' hv
    have fin : ∀ (e : Exit) (a' : Act) (w' : World), LQ P fn.ntmps [] (endQ K) G e a' w' →
        bodyPostS P fn c₀ cs (fun e u' w' => (∃ x, e = .returned x) ∧ settle u' = .returning ∧ ∃ G' σ', G.Le G' ∧ Inv P G' σ' w' ∧ K σ') e a' ({ c₀ with mode := u' } :: cs) w' := by
      intro e a' w' hq
      have done : ∀ (G' : Gh) (s' : Fr) (σ' : AS), G.Le G' → Sim P G' fn.ntmps [] s' σ' a' w' → K σ' →
          a'.defers = [] ∧ ∃ u'', ({ c₀ with mode := u' } :: cs : List Frame) = { c₀ with mode := u'' } :: cs ∧ ∃ v, (results fn a'.tmps).run P w' = .ok v w' ∧ ((∃ x, Ending.returned v = .returned x) ∧ settle u'' = .returning ∧ ∃ G' σ', G.Le G' ∧ Inv P G' σ' w' ∧ K σ') := by
        intro G' s' σ' g1 g2 g3
        obtain ⟨v, vs, k1, _, _⟩ := results_fn g2 fn (fun _ => True) (by rw [hres]; trivial)
        exact ⟨g2.ds, u', rfl, v, k1, ⟨v, rfl⟩, hu', G', σ', g1, g2.inv, g3⟩
      unfold LQ at hq
      split at hq
      · obtain ⟨G', s', σ', g1, g2, g3⟩ := hq; exact done G' s' σ' g1 g2 g3
      · obtain ⟨G', s', σ', g1, g2, g3⟩ := hq; exact g3.elim
      · obtain ⟨G', s', σ', g1, g2, g3⟩ := hq; exact done G' s' σ' g1 g2 g3
      · obtain ⟨_, _, G', s', σ', v, g1, g2, g3, g4⟩ := hq; exact g4.elim
      · exact hq.elim
    refine sOps_S (G0 := G) (Q := thenQ (AWp P fn.ntmps [] y (endQ K)) (endQ K)) ?_ l 1 (fun j => by simp [Nat.add_comm 1 j]) G _ σ _ w h (.refl G) (hsim.put (.refl G) hi (some d) (fun t ht => by cases ht; exact hd) hv)
    intro e a' w' hq
    cases e with
    | normal =>
      obtain ⟨G', s', σ', g1, g2, g3⟩ := hq
      exact wpS_of_wp (wp_mono (g3 G G' a' w' g1 g2) fun e a'' w'' hq => fin e a'' w'' hq)
    | exit i => obtain ⟨G', s', σ', g1, g2, g3⟩ := hq; exact g3.elim
    | ret => exact fin _ _ _ (LQ.ne (by simp) hq)
    | panic ch => exact fin _ _ _ (LQ.ne (by simp) hq)
    | goto i => exact hq.elim
    | outgrown => exact hq.elim
  have hsz : ((⟨some d, .call ⟨.builtin .recover, #[], ats⟩, ty, pos, af, none⟩ : Oper) :: l).toArray.size = l.length + 1 := by simp
  rw [hsz, List.range_eq_range', List.range'_succ]
  have h0 : ((⟨some d, .call ⟨.builtin .recover, #[], ats⟩, ty, pos, af, none⟩ : Oper) :: l).toArray[0]? = some ⟨some d, .call ⟨.builtin .recover, #[], ats⟩, ty, pos, af, none⟩ := by simp
  have hrun : (execOp a.eval ⟨some d, .call ⟨.builtin .recover, #[], ats⟩, ty, pos, af, none⟩).run P w = .ok .recover w := by rfl
  have hw : Region.wanted (⟨some d, .call ⟨.builtin .recover, #[], ats⟩, ty, pos, af, none⟩ : Oper) (yielded ((⟨some d, .call ⟨.builtin .recover, #[], ats⟩, ty, pos, af, none⟩ : Oper) :: l).toArray a.tmps) = true := by simp [Region.wanted]
  simp only [wpOpsS, h0, hw, if_true, hrun]
  cases pv with
  | none =>
    simp only at hu
    subst hu
    have hm : recoverD (c₀ :: cs) = none := by simp [recoverD, hc]
    rw [hm]
    have e : c₀ = { c₀ with mode := .returning } := by cases c₀; simp at hc; subst hc; rfl
    have := rest .returning .nilIface rfl (.sc _)
    rw [← e] at this
    exact this
  | some av =>
    obtain ⟨e, e1, e2, e3, rfl⟩ := hu
    obtain ⟨v, rc, ge⟩ := e
    simp only at e1 e2 e3
    subst e1 e2
    have hm : recoverD (c₀ :: cs) = some (v, { c₀ with mode := .panicking [{ v := v, recovered := true }] } :: cs) := by simp [recoverD, hc]
    rw [hm]
    exact rest _ v rfl e3

/-- A value's type, asked for: it is that one. -/
theorem SOp.assertY {d t u : Nat} {x : Operand} {ty : TypeId} {pos : String} {af : Array Edge} {g : Option (Nat × Bool)} {K : Fr → AS → Prop} (hd : d < n) {v : AV} {td : TypeDesc} (hu : P.underlying u = some td) (hni : match td with | .interface _ => False | _ => True)
    (hx : ev s x = .ifc u v) (h : K (s.put (some d) (.tup [v, .sc (.bool true)])) σ) : SOp P n ds Q ⟨some d, .typeAssert x t u true, ty, pos, af, g⟩ s σ K := by
  refine SOp.of_out hd fun G a w hs => ?_
  have hr := hs.ev x
  rw [hx] at hr
  show Out P G _ _ ((do pure (Next.value (← Instr.typeAssert (a.eval x) t u true)) : Sem Next).run P w)
  generalize a.eval x = xv at hr
  cases hr with
  | ifc hv =>
    rename_i y
    have hrun : (Instr.typeAssert (.iface u y) t u true).run P w = .ok (.tuple #[y, .bool true]) w := by
      cases td <;> first | exact hni.elim | simp [Instr.typeAssert, Sem.run_bind, run_underlying hu, Result.andThen]
    refine Out.value hrun (.refl G) hs.inv ?_ h
    refine .tup [y, .bool true] rfl fun i hi => ?_
    match i, hi with
    | 0, _ => exact hv
    | 1, _ => exact .sc _
/-- .. there is none. -/
theorem SOp.assertN {d t u : Nat} {x : Operand} {ty : TypeId} {pos : String} {af : Array Edge} {g : Option (Nat × Bool)} {K : Fr → AS → Prop} (hd : d < n) {td : TypeDesc} (hu : P.underlying u = some td) (hni : match td with | .interface _ => False | _ => True) (hz : (zeroAV P u).laid = true)
    (hx : ev s x = .sc .nilIface) (h : K (s.put (some d) (.tup [zeroAV P u, .sc (.bool false)])) σ) : SOp P n ds Q ⟨some d, .typeAssert x t u true, ty, pos, af, g⟩ s σ K := by
  refine SOp.of_out hd fun G a w hs => ?_
  have hr := hs.ev x
  rw [hx] at hr
  show Out P G _ _ ((do pure (Next.value (← Instr.typeAssert (a.eval x) t u true)) : Sem Next).run P w)
  generalize a.eval x = xv at hr
  cases hr
  obtain ⟨it, z, hit, hzv, hzr⟩ := zeroAV_info hz
  have hrun : (Instr.typeAssert .nilIface t u true).run P w = .ok (.tuple #[z, .bool false]) w := by
    cases td <;> first | exact hni.elim | simp [Instr.typeAssert, Sem.run_bind, run_underlying hu, Result.andThen, zeroValue, run_typeInfo w hit, hzv]
  refine Out.value hrun (.refl G) hs.inv ?_ h
  refine .tup [z, .bool false] rfl fun i hi => ?_
  match i, hi with
  | 0, _ => rw [show ([zeroAV P u, AV.sc (.bool false)]).getD 0 .any = zeroAV P u from rfl, hzr]; exact rep_ofC z
  | 1, _ => exact .sc _

/-- A body that puts something off, from a place on. -/
def AWpD (P : Program) (fn : Func) (c : Code) (R Rp : AV → AS → Prop) (G1 : Gh) (s : Fr) (σ : AS) : Prop :=
  ∀ (G : Gh) (a : Act) (w : World), G1.Le G → Sim P G fn.ntmps [] s σ a w → c.wp P (bodyPostD P fn (EndOk P G1 R Rp)) a w

theorem bodyD_fin {fn : Func} {R Rp : AV → AS → Prop} {G1 : Gh} {e : Exit} {a : Act} {w : World} (h : LQ P fn.ntmps [] (bodyQ P fn.results.toList R Rp) G1 e a w) : bodyPostD P fn (EndOk P G1 R Rp) e a w := by
  have fin : ∀ (s' : Fr) (σ' : AS) (G' : Gh), G1.Le G' → Sim P G' fn.ntmps [] s' σ' a w → (resAV fn.results.toList P s' σ' fun vs => ∃ r' σ'', AV.Wk P (packAV vs) r' ∧ AS.le σ'' σ' ∧ R r' σ'') →
      Leaves P fn a.tmps (EndOk P G1 R Rp) a.defers .returning w := by
    intro s' σ' G' h1 h2 h3
    obtain ⟨v, vs, k1, k2, r', σ'', k3, k4, k5⟩ := results_fn h2 fn _ h3
    rw [h2.ds]
    exact ⟨v, k1, G', σ'', r', h1, h2.inv.weaken k4, k3 _ _ k2, k5⟩
  unfold LQ at h
  split at h
  · obtain ⟨G', s', σ', a1, a2, a3⟩ := h; exact fin s' σ' G' a1 a2 a3
  · obtain ⟨G', s', σ', a1, a2, a3⟩ := h; exact a3.elim
  · obtain ⟨G', s', σ', a1, a2, a3⟩ := h; exact fin s' σ' G' a1 a2 a3
  · obtain ⟨x, y, G', s', σ', v, a1, a2, a3, σ'', a4, a5⟩ := h
    show Leaves P fn a.tmps (EndOk P G1 R Rp) a.defers (.panicking _) w
    rw [a2.ds]
    exact ⟨x, y, G', σ'', v, a1, a2.inv.weaken a4, a3, a5⟩
  · exact h.elim

theorem AWpD.of {fn : Func} {c : Code} {R Rp : AV → AS → Prop} {G1 : Gh} (h : AWp P fn.ntmps [] c (bodyQ P fn.results.toList R Rp) s σ) : AWpD P fn c R Rp G1 s σ :=
  fun G a w h1 h2 => wp_mono (h G1 G a w h1 h2) fun _ _ _ hq => bodyD_fin hq

theorem AWpD.seq {fn : Func} {x y : Code} {R Rp : AV → AS → Prop} {G1 : Gh} (h : AWp P fn.ntmps [] x (thenQ (fun s σ => AWpD P fn y R Rp G1 s σ) (bodyQ P fn.results.toList R Rp)) s σ) : AWpD P fn (.seq x y) R Rp G1 s σ := by
  intro G a w h1 h2
  refine wp_seq (wp_mono (h G1 G a w h1 h2) fun e a' w' hq => ?_)
  cases e with
  | normal => obtain ⟨G', s', σ', g1, g2, g3⟩ := hq; exact g3 G' a' w' g1 g2
  | exit i => obtain ⟨G', s', σ', g1, g2, g3⟩ := hq; exact g3.elim
  | ret => exact bodyD_fin (LQ.ne (by simp) hq)
  | panic ch => exact bodyD_fin (LQ.ne (by simp) hq)
  | goto i => exact hq.elim
  | outgrown => exact hq.elim

/-- Where a body ends that put one function off. -/
def bodyQD (P : Program) (rs : List ResultVar) (f : FuncId) (caps : List AV) (R Rp : AV → AS → Prop) : AQ
  | .normal, s, σ => DCalls P f caps σ none fun σ' => resAV rs P s σ' fun vs => Ends P R σ' (packAV vs)
  | .ret, s, σ => DCalls P f caps σ none fun σ' => resAV rs P s σ' fun vs => Ends P R σ' (packAV vs)
  | .panic v, s, σ => DCalls P f caps σ (some v) fun σ' => resAV rs P s σ' fun vs => Ends P R σ' (packAV vs)
  | _, _, _ => False
@[simp] theorem bodyQD_r (rs : List ResultVar) (f : FuncId) (caps : List AV) (R Rp : AV → AS → Prop) (s : Fr) (σ : AS) : bodyQD P rs f caps R Rp .ret s σ = DCalls P f caps σ none fun σ' => resAV rs P s σ' fun vs => Ends P R σ' (packAV vs) := rfl
@[simp] theorem bodyQD_n (rs : List ResultVar) (f : FuncId) (caps : List AV) (R Rp : AV → AS → Prop) (s : Fr) (σ : AS) : bodyQD P rs f caps R Rp .normal s σ = DCalls P f caps σ none fun σ' => resAV rs P s σ' fun vs => Ends P R σ' (packAV vs) := rfl
@[simp] theorem bodyQD_p (rs : List ResultVar) (f : FuncId) (caps : List AV) (R Rp : AV → AS → Prop) (v : AV) (s : Fr) (σ : AS) : bodyQD P rs f caps R Rp (.panic v) s σ = DCalls P f caps σ (some v) fun σ' => resAV rs P s σ' fun vs => Ends P R σ' (packAV vs) := rfl

theorem AWpD.defer {fn : Func} {id d f : Nat} {caps : Array Operand} {rest : Code} {R Rp : AV → AS → Prop} {G1 : Gh} {ty1 ty2 : TypeId} {p1 p2 : String} {a1 a2 : Array Edge} {ats : Array TypeId}
    (hd : d < fn.ntmps) (hbody : hasBody P f = true)
    (h : ∀ D, AWp P fn.ntmps [D] rest (bodyQD P fn.results.toList f (caps.toList.map (ev s)) R Rp) (s.put (some d) (.fn (.func f) [] (caps.toList.map (ev s)))) σ) :
    AWpD P fn (.seq (.region id [(⟨some d, .makeFunc (.func f) #[] caps, ty1, p1, a1, none⟩ : Oper), ⟨none, .defer ⟨.value (.tmp d), #[], ats⟩, ty2, p2, a2, none⟩].toArray false) rest) R Rp G1 s σ := by
  intro G a w h1 hs
  refine wp_seq (wp_region_lit ?_)
  have hw1 : Region.wanted (⟨some d, .makeFunc (.func f) #[] caps, ty1, p1, a1, none⟩ : Oper) (yielded [(⟨some d, .makeFunc (.func f) #[] caps, ty1, p1, a1, none⟩ : Oper), ⟨none, .defer ⟨.value (.tmp d), #[], ats⟩, ty2, p2, a2, none⟩].toArray a.tmps) = true := by simp [Region.wanted]
  unfold wpList
  rw [if_pos hw1]
  refine .inl ?_
  have hr1 : (execOp a.eval ⟨some d, .makeFunc (.func f) #[] caps, ty1, p1, a1, none⟩).run P w = .ok (.value (.func (.func f) #[] (caps.map a.eval))) w := by simp [execOp, Instr.makeFunc]
  show Oper.upon P _ a _ _ ((execOp a.eval ⟨some d, .makeFunc (.func f) #[] caps, ty1, p1, a1, none⟩).run P w)
  rw [hr1, Oper.upon_value]
  have hcaps : RepL P G (caps.toList.map (ev s)) (caps.map a.eval) := ⟨by simp, fun i hi => by
    simp at hi
    simp [List.getD_eq_getElem?_getD, hi]
    exact hs.ev _⟩
  have hfn : Rep P G (.fn (.func f) [] (caps.toList.map (ev s))) (.func (.func f) #[] (caps.map a.eval)) := by
    have := Rep.fn (P := P) (G := G) (f := .func f) (first := []) (captured := caps.toList.map (ev s)) [] (caps.map a.eval).toList rfl (by simp) (fun i hi => by simp at hi) (fun i hi => by
      have h1 := hcaps.2 i hi
      have e : (caps.map a.eval).toList.getD i undef = (caps.map a.eval).getD i undef := by simp [List.getD_eq_getElem?_getD]
      rw [e]
      exact h1)
    rw [Array.toArray_toList] at this
    exact this
  have hs1 := hs.put (.refl G) hs.inv (some d) (fun t ht => by cases ht; exact hd) hfn
  unfold wpList
  have hev : (a.put (some d) (.func (.func f) #[] (caps.map a.eval))).eval (.tmp d) = .func (.func f) #[] (caps.map a.eval) := by
    have hdl : d < a.tmps.size := by rw [hs.size]; exact hd
    simp [Act.put, Act.eval, hdl]
  have hw2 : Region.wanted (⟨none, .defer ⟨.value (.tmp d), #[], ats⟩, ty2, p2, a2, none⟩ : Oper) (yielded [(⟨some d, .makeFunc (.func f) #[] caps, ty1, p1, a1, none⟩ : Oper), ⟨none, .defer ⟨.value (.tmp d), #[], ats⟩, ty2, p2, a2, none⟩].toArray (a.put (some d) (.func (.func f) #[] (caps.map a.eval))).tmps) = true := by simp [Region.wanted]
  rw [if_pos hw2]
  refine .inl ?_
  have hr2 : (execOp (a.put (some d) (.func (.func f) #[] (caps.map a.eval))).eval ⟨none, .defer ⟨.value (.tmp d), #[], ats⟩, ty2, p2, a2, none⟩).run P w = .ok (.defer { target := .fn (.func f) (caps.map a.eval), args := #[] }) w := by
    simp only [execOp, resolve, hev, Deferred.ofValue]
    simp
  show Oper.upon P _ _ _ _ ((execOp (a.put (some d) (.func (.func f) #[] (caps.map a.eval))).eval ⟨none, .defer ⟨.value (.tmp d), #[], ats⟩, ty2, p2, a2, none⟩).run P w)
  rw [hr2, Oper.upon_defer]
  generalize hD : ({ target := .fn (.func f) (caps.map a.eval), args := #[] } : Deferred) = D
  have hds : (a.put (some d) (.func (.func f) #[] (caps.map a.eval))).defers = [] := hs1.ds
  have hs2 : Sim P G fn.ntmps [D] (s.put (some d) (.fn (.func f) [] (caps.toList.map (ev s)))) σ ({ a.put (some d) (.func (.func f) #[] (caps.map a.eval)) with defers := D :: (a.put (some d) (.func (.func f) #[] (caps.map a.eval))).defers }.put none undef) w :=
    ⟨hs1.inv, hs1.size, by show D :: _ = [D]; rw [hds], hs1.rep⟩
  show (Exit.then _ _) .normal _ w
  refine wp_mono (h D G G _ w (.refl G) hs2) fun e a' w' hq => ?_
  have inv : (invoke (.fn (.func f) (caps.map a.eval)) #[]).run P w' = .ok (.enter f (caps.map a.eval)) w' := by
    have := hasBody_run (w := w') hbody (caps.map a.eval)
    simpa [invoke] using this
  have fin : ∀ (u : FrameMode) (G' : Gh) (s' : Fr) (σ' : AS) (pv : Option AV), G.Le G' → Sim P G' fn.ntmps [D] s' σ' a' w' → u ≠ .run →
      (match pv with | none => u = .returning | some a => ∃ e : PanicEntry, e.recovered = false ∧ e.goexit = false ∧ Rep P G' a e.v ∧ u = .panicking [e]) →
      (DCalls P f (caps.toList.map (ev s)) σ' pv fun σ' => resAV fn.results.toList P s' σ' fun vs => Ends P R σ' (packAV vs)) →
      Leaves P fn a'.tmps (EndOk P G1 R Rp) a'.defers u w' := by
    intro u G' s' σ' pv g1 g2 hu hpv hd
    rw [g2.ds, ← hD]
    refine leaves_cons hu inv ((hd G' w' _ u g2.inv ⟨hcaps.1, fun i hi => (hcaps.2 i hi).mono g1⟩ hpv).mono fun e u' w'' hq => ?_)
    obtain ⟨⟨x, rfl⟩, hset, G'', σ'', k1, k2, k3⟩ := hq
    show Leaves P fn a'.tmps (EndOk P G1 R Rp) [] (settle u') w''
    rw [hset]
    have g3 : Sim P G'' fn.ntmps [D] s' σ'' a' w'' := ⟨k2, g2.size, g2.ds, fun i => (g2.rep i).mono k1⟩
    obtain ⟨v, vs, m1, m2, r', σ3, m3, m4, m5⟩ := results_fn g3 fn _ k3
    exact ⟨v, m1, G'', σ3, r', h1.trans (g1.trans k1), k2.weaken m4, m3 _ _ m2, m5⟩
  unfold LQ at hq
  split at hq
  · obtain ⟨G', s', σ', g1, g2, g3⟩ := hq; exact fin .returning G' s' σ' none g1 g2 (by simp) rfl g3
  · obtain ⟨G', s', σ', g1, g2, g3⟩ := hq; exact g3.elim
  · obtain ⟨G', s', σ', g1, g2, g3⟩ := hq; exact fin .returning G' s' σ' none g1 g2 (by simp) rfl g3
  · obtain ⟨x1, x2, G', s', σ', v, g1, g2, g3, g4⟩ := hq
    exact fin _ G' s' σ' (some v) g1 g2 (by simp) ⟨_, x1, x2, g3, rfl⟩ g4
  · exact hq.elim

theorem ACalls.of_bodyD {f : FuncId} {fn : Func} {c : Code} {args : List AV} {R Rp : AV → AS → Prop} (hf : P.funcs[f]? = some fn) (hb : fn.body = some c) (hn : (fn.name == "runtime.NumGoroutine") = false)
    (ha : args.length ≤ fn.ntmps) (h : ∀ G1, AWpD P fn c R Rp G1 (frOf args) σ) : ACalls P f args σ R Rp := by
  refine ⟨by simp [hasBody, hf, hb, hn], fun G w vals hi hr => calls_of_wp_defers hf hb ?_⟩
  have hsim : Sim P G fn.ntmps [] (frOf args) σ { tmps := vals ++ Array.replicate (fn.ntmps - vals.size) undef, defers := [] } w := by
    refine ⟨hi, by simp [hr.1]; omega, rfl, fun i => ?_⟩
    by_cases hlt : i < args.length
    · have e1 : (vals ++ Array.replicate (fn.ntmps - vals.size) undef).getD i undef = vals.getD i undef := by
        rw [Array.getD_eq_getD_getElem?, Array.getElem?_append_left (by rw [hr.1]; exact hlt), ← Array.getD_eq_getD_getElem?]
      simp only [e1]
      exact hr.2 i hlt
    · have : frOf args i = .any := by simp [frOf, List.getD_eq_getElem?_getD, List.getElem?_eq_none (Nat.le_of_not_lt hlt)]
      rw [this]
      exact .any _
  exact h G G _ w (.refl G) hsim

end Go.AW
