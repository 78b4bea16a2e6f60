/- A layer of abstract values over the model's machine: own work for this claim, part AwMut. -/
import Derived.Test.YtknalmoackcpbaaGreatAwSimp
import Derived.MapKept
import Derived.Recover
set_option linter.unusedSimpArgs false
set_option linter.unusedVariables false
namespace Go.AW
open Go Go.RowKit
variable {P : Program} {n : Nat} {ds : List Deferred} {Q : AQ} {s : Fr} {σ : AS}
/-! ## an operation, by what it brings about -/
def SOp (P : Program) (n : Nat) (ds : List Deferred) (Q : AQ) (o : Oper) (s : Fr) (σ : AS) (K : Fr → AS → Prop) : Prop :=
  ∀ (G0 G : Gh) (a : Act) (w : World), G0.Le G → Sim P G n ds s σ a w → ∀ next : Act → World → Prop,
    (∀ G' s' σ' a' w', G0.Le G' → Sim P G' n ds s' σ' a' w' → K s' σ' → next a' w') → o.wp P a w next (LQ P n ds Q G0)
theorem SOp.step {o : Oper} {K : Fr → AS → Prop} (h : stepOp P n o s σ K Q) : SOp P n ds Q o s σ K :=
  fun _ _ _ _ hle hs _ hn => stepOp_ok o h hle hs hn
theorem SOp.of_out {o : Oper} {K : Fr → AS → Prop} (hd : match o.dst with | none => True | some d => d < n)
    (h : ∀ (G : Gh) (a : Act) (w : World), Sim P G n ds s σ a w → Out P G (fun v σ' => K (s.put o.dst v) σ') (fun v σ' => Q (.panic v) s σ') ((execOp a.eval o).run P w)) : SOp P n ds Q o s σ K := by
  intro G0 G a w hle hs next hn
  have hd' : ∀ t, o.dst = some t → t < n := by intro t ht; rw [ht] at hd; exact hd
  have := h G a w hs
  unfold Oper.wp
  generalize (execOp a.eval o).run P w = r at this ⊢
  cases r with
  | ok nx w' =>
    cases nx <;> simp only [Out] at this <;> first | exact this.elim | skip
    · obtain ⟨G', σ', av, g1, g2, g3, g4⟩ := this
      exact hn G' _ _ _ _ (hle.trans g1) (hs.put g1 g2 o.dst hd' g3) g4
    · obtain ⟨G', σ', av, g1, g2, g3, g4⟩ := this
      exact hn G' _ _ _ _ (hle.trans g1) (hs.put g1 g2 o.dst hd' g3) g4
  | halt x w' =>
    cases x <;> simp only [Out] at this <;> first | exact this.elim | skip
    obtain ⟨G', σ', av, g1, g2, g3, g4⟩ := this
    exact ⟨rfl, rfl, G', s, σ', av, hle.trans g1, ⟨g2, hs.size, hs.ds, fun i => (hs.rep i).mono g1⟩, g3, g4⟩
def sOps (P : Program) (n : Nat) (ds : List Deferred) (ops : Array Oper) (Q : AQ) : List Oper → Fr → AS → Prop
  | [], s, σ => Q .normal s σ
  | o :: r, s, σ => (o.guard = none ∧ SOp P n ds Q o s σ (sOps P n ds ops Q r)) ∨ guardOp P n ops o s σ (sOps P n ds ops Q r) Q
theorem sOps.sp {ops : Array Oper} {o : Oper} {r : List Oper} (hg : o.guard = none) (h : SOp P n ds Q o s σ (sOps P n ds ops Q r)) : sOps P n ds ops Q (o :: r) s σ := .inl ⟨hg, h⟩
theorem sOps.pre {ops : Array Oper} : ∀ (l r : List Oper) (s : Fr) (σ : AS), awpOps P n ops (thenQ (sOps P n ds ops Q r) Q) l s σ → sOps P n ds ops Q (l ++ r) s σ := by
  intro l
  induction l with
  | nil => intro r s σ h; exact h
  | cons o l ih =>
    intro r s σ h
    refine .inr ?_
    have h' : guardOp P n ops o s σ (awpOps P n ops (thenQ (sOps P n ds ops Q r) Q) l) (thenQ (sOps P n ds ops Q r) Q) := h
    rw [guardOp_eq] at h' ⊢
    exact gop_mono (fun v σ' h5 => ih r _ _ h5) (fun _ _ h => h) h'
theorem sOps.rest {ops : Array Oper} {r : List Oper} (h : awpOps P n ops Q r s σ) : sOps P n ds ops Q r s σ := by
  have e : thenQ (sOps P n ds ops Q []) Q = Q := by funext e s σ; cases e <;> rfl
  have := sOps.pre (ds := ds) (Q := Q) (ops := ops) r [] s σ (by rw [e]; exact h)
  simpa using this
theorem sOps.first {ops : Array Oper} {l : List Oper} (k : Nat) (h : awpOps P n ops (thenQ (sOps P n ds ops Q (l.drop k)) Q) (l.take k) s σ) : sOps P n ds ops Q l s σ := by
  have := sOps.pre (ds := ds) (Q := Q) (ops := ops) (l.take k) (l.drop k) s σ h
  rwa [List.take_append_drop] at this
theorem sOps_ok {ops : Array Oper} {G0 : Gh} : ∀ (l : List Oper) (G : Gh) (s : Fr) (σ : AS) (a : Act) (w : World), sOps P n ds ops Q l s σ → G0.Le G → Sim P G n ds s σ a w →
    wpList P ops (LQ P n ds Q G0) l a w := by
  intro l
  induction l with
  | nil => intro G s σ a w h hle hs; exact ⟨G, s, σ, hle, hs, h⟩
  | cons o rest ih =>
    intro G s σ a w h hle hs
    unfold wpList
    rcases h with ⟨hg, h⟩ | h
    · have hw : Region.wanted o (yielded ops a.tmps) = true := by simp [Region.wanted, hg]
      rw [if_pos hw]
      exact .inl (h G0 G a w hle hs _ (fun G' s' σ' a' w' h1 h2 h3 => ih G' s' σ' a' w' h3 h1 h2))
    · have := guardOp_ok o h hle hs (next := wpList P ops (LQ P n ds Q G0) rest) (fun G' s' σ' a' w' h1 h2 h3 => ih G' s' σ' a' w' h3 h1 h2)
      by_cases hw : Region.wanted o (yielded ops a.tmps) = true
      · rw [if_pos hw] at this ⊢; exact .inl this
      · rw [if_neg hw] at this ⊢; exact this
theorem AWp.regionS {id : Nat} {l : List Oper} (h : sOps P n ds l.toArray Q l s σ) : AWp P n ds (.region id l.toArray false) Q s σ :=
  fun G0 G a w h1 h2 => wp_region_lit (sOps_ok l G s σ a w h h1 h2)
/-! ## a slice that is written to -/
def flatC (l : List AV) : List AV := l.flatMap (·.cells)
@[simp] theorem flatC_nil : flatC [] = [] := rfl
@[simp] theorem flatC_cons (v : AV) (r : List AV) : flatC (v :: r) = v.cells ++ flatC r := rfl
theorem flatC_get {m : Nat} : ∀ (l : List AV), (∀ v ∈ l, v.cells.length = m) → (flatC l).length = l.length * m ∧ ∀ i j, i < l.length → j < m → (flatC l).getD (i * m + j) .any = (l.getD i .any).cells.getD j .any := by
  intro l
  induction l with
  | nil => intro _; exact ⟨by simp, fun i j hi => by simp at hi⟩
  | cons v r ih =>
    intro h
    obtain ⟨h1, h2⟩ := ih fun v hv => h v (by simp [hv])
    have h0 := h v (by simp)
    refine ⟨by simp [h1, h0, Nat.add_mul]; omega, fun i j hi hj => ?_⟩
    cases i with
    | zero => simp only [flatC_cons]; rw [getD_append_left _ _ _ (by omega)]; simp
    | succ i =>
      simp only [flatC_cons]
      have : (i + 1) * m + j = v.cells.length + (i * m + j) := by rw [h0, Nat.add_mul]; omega
      rw [this, getD_append_right _ _ _ (by omega)]
      have e : v.cells.length + (i * m + j) - v.cells.length = i * m + j := by omega
      rw [e, h2 i j (by simpa using hi) hj]
      simp
def aBuildSliceM (P : Program) (σ : AS) (t : TypeId) (len : Nat) (parts : List (Nat × AV)) (K : AV → AS → Prop) : Prop :=
  match sliceT P t with
  | some e => parts.length = len ∧ P.cellsOf e ≠ 0 ∧ len * P.cellsOf e ≤ 2 ^ 24 ∧ (zeroAV P e).laid = true ∧ (zeroAV P e).cells.length = P.cellsOf e ∧ aElems (P.cellsOf e) 0 parts = true ∧
      ∀ id, σ id = none → K (.msl id 0 len len) (σ.set id (.cells e (flatC (parts.map (·.2)))))
  | none => False
theorem aElems_len {m : Nat} : ∀ (l : List (Nat × AV)) (k : Nat), aElems m k l = true → ∀ v ∈ l.map (·.2), v.cells.length = m := by
  intro l
  induction l with
  | nil => intro k _ v hv; simp at hv
  | cons p r ih =>
    intro k hk v hv
    obtain ⟨q, x⟩ := p
    simp only [aElems, Bool.and_eq_true, beq_iff_eq] at hk
    simp only [List.map_cons, List.mem_cons] at hv
    rcases hv with rfl | hv
    · exact hk.1.2
    · exact ih (k + 1) hk.2 v hv
theorem aBuildSliceM_out {G : Gh} {w : World} {K Pn : AV → AS → Prop} (hi : Inv P G σ w) {t : TypeId} {len : Nat} {parts : Array (Nat × Operand)} {s : Fr} {ρ : Operand → Value} (hρ : ∀ x, Rep P G (ev s x) (ρ x))
    (h : aBuildSliceM P σ t len (parts.toList.map fun p => (p.1, ev s p.2)) K) :
    Out P G K Pn (((do pure (Next.value (← Instr.buildSlice t len (parts.map fun (i, x) => (i, ρ x))))) : Sem Next).run P w) := by
  unfold aBuildSliceM at h
  split at h
  · rename_i e he
    obtain ⟨h1, h2, h3, h4, h5, h6, h7⟩ := h
    have hu := sliceT_eq he
    obtain ⟨it, z, hit, hz, hzr⟩ := zeroAV_info h4
    have hsz : it.size = P.cellsOf e := by simp [Program.cellsOf, hit]
    have hvp : (parts.map fun (i, x) => (i, ρ x)).toList = parts.toList.map fun p => (p.1, ρ p.2) := by simp
    have hlen : parts.toList.length = len := by simpa using h1
    let zero : Array Value := if len * P.cellsOf e = 0 then #[] else z.cells
    let init : Array Value := (Array.range (len * P.cellsOf e)).map (zero[· % zero.size]!)
    obtain ⟨a', g1, g2, _, g4⟩ := fill_elems (P := P) (G := G) (e := e) (parts.toList.map fun p => (p.1, ev s p.2)) (parts.toList.map fun p => (p.1, ρ p.2)) 0 (P.cellsOf e) init (by simp) (fun i hi => by
      simp at hi
      simp [List.getD_eq_getElem?_getD, hi]
      exact hρ _) h6 (by simp at hlen; simp [init, hlen]) (fun c hc => by omega)
    have hsize : a'.size = len * P.cellsOf e := by rw [g2]; simp [init]
    have hrun : (Instr.buildSlice t len (parts.map fun (i, x) => (i, ρ x))).run P w = .ok (.slice (some ⟨w.heap.size, 0, none⟩) len len) (w.alloc (.cells a' e)) := by
      have hsz' : ¬ (len * P.cellsOf e > 2 ^ 24) := by omega
      have g1' : Instr.fill (fun i => some (i * P.cellsOf e, P.cellsOf e)) ((Array.range (len * P.cellsOf e)).map (zero[· % zero.size]!)) (parts.map fun (i, x) => (i, ρ x)).toList = some a' := by rw [hvp]; exact g1
      simp only [Instr.buildSlice, Sem.run_bind, run_underlying hu, Result.andThen, sizeOf, run_typeInfo w hit, Sem.run_pure, hsz, hsz', if_false]
      by_cases h0 : len * P.cellsOf e = 0
      · simp only [zero, h0, if_true] at g1'
        simp [h0, Sem.run_bind, Result.andThen, g1', newRow, run_newObj_alloc]
        simp at g1'
        simp [g1', newRow, run_newObj_alloc, Sem.run_bind, Result.andThen]
      · simp only [zero, h0, if_false] at g1'
        simp only [h0, if_false, Sem.run_bind, zeroValue, run_typeInfo w hit, hz, Result.andThen, Sem.run_pure]
        rw [g1']
        simp [newRow, run_newObj_alloc, Sem.run_bind, Result.andThen]
    have hidx : ∀ k, k < len * P.cellsOf e → k / P.cellsOf e < len ∧ k % P.cellsOf e < P.cellsOf e ∧ (k / P.cellsOf e) * P.cellsOf e + k % P.cellsOf e = k := fun k hk =>
      ⟨Nat.div_lt_of_lt_mul (by rw [Nat.mul_comm]; exact hk), Nat.mod_lt _ (by omega), by rw [Nat.mul_comm]; exact Nat.div_add_mod k _⟩
    obtain ⟨f1, f2⟩ := flatC_get (m := P.cellsOf e) ((parts.toList.map fun p => (p.1, ev s p.2)).map (·.2)) (aElems_len _ 0 h6)
    have hml : ((parts.toList.map fun p => (p.1, ev s p.2)).map (·.2)).length = len := by simpa using h1
    rw [hml] at f1 f2
    obtain ⟨G', hle, hinj, hinv⟩ := hi.allocCells e a' (flatC ((parts.toList.map fun p => (p.1, ev s p.2)).map (·.2))) (by rw [hsize, f1]) (fun k hk => by
      rw [f1] at hk
      obtain ⟨k1, k2, k3⟩ := hidx k hk
      have h8 := f2 _ _ k1 k2
      rw [k3] at h8
      rw [h8]
      have := g4 (k / P.cellsOf e) (k % P.cellsOf e) (by simp at hlen ⊢; omega) k2
      rw [Nat.zero_add, k3] at this
      refine ⟨?_, this.2⟩
      have h9 := this.1
      have hlt : k / P.cellsOf e < (parts.toList.map fun p => (p.1, ev s p.2)).length := by simp at hlen ⊢; omega
      have e9 : ((parts.toList.map fun p => (p.1, ev s p.2)).map (·.2)).getD (k / P.cellsOf e) AV.any = ((parts.toList.map fun p => (p.1, ev s p.2)).getD (k / P.cellsOf e) (0, AV.any)).2 := by
        simp only [List.getD_eq_getElem?_getD, List.getElem?_map, List.getElem?_eq_getElem hlt, Option.map_some, Option.getD_some]
      rw [e9]
      exact h9)
    exact Out.value hrun hle hinv (.msl hinj) (h7 _ hi.fresh)
  · exact h.elim
theorem AWp.freeze {c : Code} (i id : Nat) {e : TypeId} {m : Nat} (es : List AV) {cs : List AV} (hs : s i = .msl id 0 m m) (h0 : σ id = none) (hm : es.length = m) (hl : ∀ v ∈ es, v.cells.length = P.cellsOf e) (hc : cs = flatC es)
    (h : AWp P n ds c Q (s.put (some i) (.lst e es .full false)) σ) : AWp P n ds c Q s (σ.set id (.cells e cs)) := by
  subst hc hm
  intro G0 G a w h1 h2
  have hi := h2.inv
  have hri := h2.rep i
  rw [hs] at hri
  obtain ⟨b, vs, k1, k2, k3, k4⟩ := hi.cells id e (flatC es) (by simp [AS.set])
  generalize hv : a.tmps.getD i undef = v at hri
  cases hri with
  | msl hb =>
    rename_i b'
    rw [k1] at hb
    obtain rfl := Option.some.inj hb
    obtain ⟨f1, f2⟩ := flatC_get (m := P.cellsOf e) es hl
    have hfree : ∀ o, G.mem b o = none := (hi.injB id b k1).2.2 e (flatC es) (by simp [AS.set])
    have hle : G.Le (G.keep b 0 (flatC es).length (fun k => vs.getD k undef)) := by
      refine ⟨rfl, rfl, fun b' o v em => ?_, fun _ _ e => e, fun t r e => ⟨r, e, rfl, .inl rfl⟩⟩
      rw [Gh.keep_out]
      · exact em
      · rintro ⟨rfl, _⟩; rw [hfree o] at em; cases em
    have old : ∀ j x, σ j = some x → j ≠ id ∧ (σ.set id (.cells e (flatC es))) j = some x := by
      intro j x ej
      have : j ≠ id := by intro e'; subst e'; rw [h0] at ej; cases ej
      exact ⟨this, by simp [AS.set, this, ej]⟩
    refine h G0 _ a w (h1.trans hle) ⟨?_, h2.size, h2.ds, fun j => ?_⟩
    · refine ⟨hi.below, hi.base, ?_, hi.top, ?_, hi.inj1, ?_, ?_, ?_, ?_, ?_⟩
      · intro b' o v em
        by_cases hc : b' = b ∧ 0 ≤ o ∧ o < 0 + (flatC es).length
        · obtain ⟨rfl, h3, h4⟩ := hc
          rw [Gh.keep_in h3 h4] at em
          obtain rfl := Option.some.inj em
          have ho : o < vs.size := by omega
          refine ⟨?_, (k4 o (by omega)).2⟩
          simp [World.cell?, k2, ho]
        · rw [Gh.keep_out hc] at em
          exact hi.mem b' o v em
      · intro j c ej
        have := hi.injB j c ej
        refine ⟨this.1, this.2.1, fun ty cs' hn o => ?_⟩
        obtain ⟨hne, hset⟩ := old j _ hn
        have hcb : c ≠ b := fun e' => hne (hi.inj1 j id b (e' ▸ ej) k1)
        rw [Gh.keep_out (fun hh => hcb hh.1)]
        exact this.2.2 ty cs' hset o
      · intro j ty cs' ej
        obtain ⟨c, vs', m1, m2, m3, m4⟩ := hi.cells j ty cs' (old j _ ej).2
        exact ⟨c, vs', m1, m2, m3, fun k hk => ⟨(m4 k hk).1.mono hle, (m4 k hk).2⟩⟩
      · intro j es' ej
        obtain ⟨c, ms, cl, m1, m2, m3, m4⟩ := hi.maps j es' (old j _ ej).2
        refine ⟨c, ms, cl, m1, m2, m3, fun k hk => ?_⟩
        obtain ⟨q, q1, q2, q3⟩ := m4 k hk
        exact ⟨q, q1, q2.mono hle, q3.mono hle⟩
      · intro j s' p ej
        exact hi.iters j s' p (old j _ ej).2
      · intro j m ej
        exact hi.tok j m (old j _ ej).2
      · intro t r et
        obtain ⟨m1, m2, m3⟩ := hi.own t r et
        refine ⟨m1, m2, fun c o ea k hk1 hk2 => ?_⟩
        obtain ⟨q1, q2, q3, q4, q5, q6, q7⟩ := m3 c o ea k hk1 hk2
        refine ⟨q1, q2, ?_, q4, q5, q6, q7⟩
        rw [Gh.keep_out (fun hh => q4 id (by rw [k1, hh.1]))]
        exact q3
    · by_cases hj : j = i
      · subst hj
        rw [put_app, if_pos rfl, hv]
        have hlen : (flatC es).length = es.length * P.cellsOf e := f1
        refine Rep.lst (fun k => vs.getD k undef) (fun i hi => hl _ ?_) (fun k hk => ?_) (fun i j hi hj => ?_) (Nat.le_refl _) ⟨_, rfl⟩
        · rw [List.getD_eq_getElem?_getD, List.getElem?_eq_getElem hi]; exact List.getElem_mem hi
        · rw [Gh.keep_in (by omega) (by omega)]; simp
        · have := (k4 (i * P.cellsOf e + j) (by
            rw [hlen]
            calc i * P.cellsOf e + j < i * P.cellsOf e + P.cellsOf e := by omega
              _ = (i + 1) * P.cellsOf e := by rw [Nat.add_mul]; omega
              _ ≤ es.length * P.cellsOf e := Nat.mul_le_mul_right _ hi)).1
          rw [f2 i j hi hj] at this
          exact this.mono hle
      · rw [put_app, if_neg hj]
        exact (h2.rep j).mono hle
/-! ## what is told of a block, told anew -/
theorem Inv.retell {G : Gh} {w : World} (hi : Inv P G σ w) {id b : Nat} {ty : TypeId} {cs cs' : List AV} {vs : Array Value} (hσ : σ id = some (.cells ty cs)) (hb : G.inj id = some b) (hw : w.heap[b]? = some (.cells vs ty (0, 0)))
    (hl : cs'.length = cs.length) (hk : ∀ k, k < cs'.length → Rep P G (cs'.getD k .any) (vs.getD k undef)) : Inv P G (σ.set id (.cells ty cs')) w := by
  have other : ∀ j, j ≠ id → (σ.set id (.cells ty cs')) j = σ j := fun j hj => by simp [AS.set, hj]
  refine { below := hi.below, base := hi.base, mem := hi.mem, top := hi.top, injB := fun i b e => ⟨(hi.injB i b e).1, (hi.injB i b e).2.1, fun ty' ds' hn => by
    by_cases hj : i = id
    · subst hj; exact (hi.injB i b e).2.2 ty cs hσ
    · exact (hi.injB i b e).2.2 ty' ds' (by rw [← other i hj]; exact hn)⟩, inj1 := hi.inj1, own := hi.own, cells := ?_, maps := ?_, iters := ?_, tok := ?_ }
  · intro j ty' ds' e
    by_cases hj : j = id
    · subst hj
      simp only [AS.set, if_true] at e
      cases e
      obtain ⟨b', vs', g1, g2, g3, g4⟩ := hi.cells j ty cs hσ
      rw [hb] at g1
      cases g1
      rw [hw] at g2
      cases g2
      exact ⟨b, vs, hb, hw, by omega, fun k hk' => ⟨hk k hk', (g4 k (by omega)).2⟩⟩
    · exact hi.cells j ty' ds' (by rw [← other j hj]; exact e)
  · intro j es e
    by_cases hj : j = id
    · subst hj; simp [AS.set] at e
    · exact hi.maps j es (by rw [← other j hj]; exact e)
  · intro j es p e
    by_cases hj : j = id
    · subst hj; simp [AS.set] at e; subst e; cases p
    · exact hi.iters j es p (by rw [← other j hj]; exact e)
  · intro j m e
    by_cases hj : j = id
    · subst hj; simp [AS.set] at e
    · exact hi.tok j m (by rw [← other j hj]; exact e)
theorem AWp.mintC {c : Code} (id k : Nat) {ty : TypeId} {cs : List AV} (e : TypeId) (es : List AV) (nil : Bool) (hσ : σ id = some (.cells ty cs)) (hk : k < cs.length)
    (hs : cs.getD k .any = .lst e es .full nil ∨ (cs.getD k .any = .nilS ∧ es = [] ∧ nil = true))
    (h : ∀ tk, σ tk = none → AWp P n ds c Q s ((σ.set id (.cells ty (cs.set k (.lst e es (.tok tk) nil)))).set tk (.tok es.length))) : AWp P n ds c Q s σ := by
  intro G0 G a w h1 h2
  have hi := h2.inv
  obtain ⟨b, vs, g1, g2, g3, g4⟩ := hi.cells id ty cs hσ
  have hr : Rep P G (.lst e es .full nil) (vs.getD k undef) := by
    have := (g4 k hk).1
    rcases hs with hs | ⟨hs, rfl, rfl⟩
    · rw [hs] at this; exact this
    · rw [hs] at this
      generalize vs.getD k undef = v at this ⊢
      cases this
      exact .lstN ⟨none, rfl⟩
  obtain ⟨r, m1, m2, m3⟩ := hr.mint hi
  have hne : id ≠ G.top := by
    intro e'; subst e'
    rw [hi.fresh] at hσ; cases hσ
  have hσ' : (σ.set G.top (.tok es.length)) id = some (.cells ty cs) := by simp [AS.set, hne, hσ]
  have hre := m2.retell (cs' := cs.set k (.lst e es (.tok G.top) nil)) hσ' (m1.inj _ _ g1) g2 (by simp) (fun j hj => by
    simp at hj
    by_cases hjk : j = k
    · subst hjk
      rw [List.getD_eq_getElem?_getD, List.getElem?_set_self hk]
      exact m3
    · rw [List.getD_eq_getElem?_getD, List.getElem?_set_ne (fun e => hjk e.symm), ← List.getD_eq_getElem?_getD]
      exact ((g4 j hj).1).mono m1)
  rw [AS.set_comm (fun e => hne e.symm)] at hre
  exact h G.top hi.fresh G0 _ a w (h1.trans m1) ⟨hre, h2.size, h2.ds, fun j => (h2.rep j).mono m1⟩
theorem Inv.freeze {G : Gh} {w : World} {id : Nat} {e : TypeId} {m : Nat} {es : List AV} (hi : Inv P G (σ.set id (.cells e (flatC es))) w) (h0 : σ id = none) (hm : es.length = m) (hl : ∀ v ∈ es, v.cells.length = P.cellsOf e) :
    ∃ G', G.Le G' ∧ Inv P G' σ w ∧ ∀ y, Rep P G (.msl id 0 m m) y → Rep P G' (.lst e es .full false) y := by
  subst hm
  obtain ⟨b, vs, k1, k2, k3, k4⟩ := hi.cells id e (flatC es) (by simp [AS.set])
  obtain ⟨f1, f2⟩ := flatC_get (m := P.cellsOf e) es hl
  have hfree : ∀ o, G.mem b o = none := (hi.injB id b k1).2.2 e (flatC es) (by simp [AS.set])
  have hle : G.Le (G.keep b 0 (flatC es).length (fun k => vs.getD k undef)) := by
    refine ⟨rfl, rfl, fun b' o v em => ?_, fun _ _ e => e, fun t r e => ⟨r, e, rfl, .inl rfl⟩⟩
    rw [Gh.keep_out]
    · exact em
    · rintro ⟨rfl, _⟩; rw [hfree o] at em; cases em
  have old : ∀ j x, σ j = some x → j ≠ id ∧ (σ.set id (.cells e (flatC es))) j = some x := by
    intro j x ej
    have : j ≠ id := by intro e'; subst e'; rw [h0] at ej; cases ej
    exact ⟨this, by simp [AS.set, this, ej]⟩
  refine ⟨_, hle, ⟨hi.below, hi.base, ?_, hi.top, ?_, hi.inj1, ?_, ?_, ?_, ?_, ?_⟩, ?_⟩
  · intro b' o v em
    by_cases hc : b' = b ∧ 0 ≤ o ∧ o < 0 + (flatC es).length
    · obtain ⟨rfl, h3, h4⟩ := hc
      rw [Gh.keep_in h3 h4] at em
      obtain rfl := Option.some.inj em
      have ho : o < vs.size := by omega
      refine ⟨?_, (k4 o (by omega)).2⟩
      simp [World.cell?, k2, ho]
    · rw [Gh.keep_out hc] at em
      exact hi.mem b' o v em
  · intro j c ej
    have := hi.injB j c ej
    refine ⟨this.1, this.2.1, fun ty cs' hn o => ?_⟩
    obtain ⟨hne, hset⟩ := old j _ hn
    have hcb : c ≠ b := fun e' => hne (hi.inj1 j id b (e' ▸ ej) k1)
    rw [Gh.keep_out (fun hh => hcb hh.1)]
    exact this.2.2 ty cs' hset o
  · intro j ty cs' ej
    obtain ⟨c, vs', m1, m2, m3, m4⟩ := hi.cells j ty cs' (old j _ ej).2
    exact ⟨c, vs', m1, m2, m3, fun k hk => ⟨(m4 k hk).1.mono hle, (m4 k hk).2⟩⟩
  · intro j es' ej
    obtain ⟨c, ms, cl, m1, m2, m3, m4⟩ := hi.maps j es' (old j _ ej).2
    refine ⟨c, ms, cl, m1, m2, m3, fun k hk => ?_⟩
    obtain ⟨q, q1, q2, q3⟩ := m4 k hk
    exact ⟨q, q1, q2.mono hle, q3.mono hle⟩
  · intro j s' p ej
    exact hi.iters j s' p (old j _ ej).2
  · intro j m ej
    exact hi.tok j m (old j _ ej).2
  · intro t r et
    obtain ⟨m1, m2, m3⟩ := hi.own t r et
    refine ⟨m1, m2, fun c o ea k hk1 hk2 => ?_⟩
    obtain ⟨q1, q2, q3, q4, q5, q6, q7⟩ := m3 c o ea k hk1 hk2
    refine ⟨q1, q2, ?_, q4, q5, q6, q7⟩
    rw [Gh.keep_out (fun hh => q4 id (by rw [k1, hh.1]))]
    exact q3
  · intro y hy
    cases hy with
    | msl hb =>
      rw [k1] at hb
      obtain rfl := Option.some.inj hb
      have hlen : (flatC es).length = es.length * P.cellsOf e := f1
      refine Rep.lst (fun k => vs.getD k undef) (fun i hi => hl _ ?_) (fun k hk => ?_) (fun i j hi hj => ?_) (Nat.le_refl _) ⟨_, rfl⟩
      · rw [List.getD_eq_getElem?_getD, List.getElem?_eq_getElem hi]; exact List.getElem_mem hi
      · rw [Gh.keep_in (by omega) (by omega)]; simp
      · have := (k4 (i * P.cellsOf e + j) (by
          rw [hlen]
          calc i * P.cellsOf e + j < i * P.cellsOf e + P.cellsOf e := by omega
            _ = (i + 1) * P.cellsOf e := by rw [Nat.add_mul]; omega
            _ ≤ es.length * P.cellsOf e := Nat.mul_le_mul_right _ hi)).1
        rw [f2 i j hi hj] at this
        exact this.mono hle
theorem AWp.wkC {c : Code} (id : Nat) {ty : TypeId} {cs : List AV} (cs' : List AV) (hσ : σ id = some (.cells ty cs)) (hl : cs'.length = cs.length) (hk : ∀ k, k < cs'.length → AV.Wk P (cs.getD k .any) (cs'.getD k .any))
    (h : AWp P n ds c Q s (σ.set id (.cells ty cs'))) : AWp P n ds c Q s σ := by
  intro G0 G a w h1 h2
  obtain ⟨b, vs, g1, g2, g3, g4⟩ := h2.inv.cells id ty cs hσ
  exact h G0 G a w h1 ⟨h2.inv.retell hσ g1 g2 hl (fun k hk' => hk k hk' _ _ (g4 k (by omega)).1), h2.size, h2.ds, h2.rep⟩
theorem Inv.marked {G : Gh} {w : World} {b n : Nat} {vs : Array Value} {e : TypeId} (h : Inv P G σ w) (hw : w.heap[b]? = some (.cells vs e (0, 0))) (hB : G.B ≤ b) (hσ : ∀ i ty cs, σ i = some (.cells ty cs) → G.inj i ≠ some b)
    (hown : ∀ t r c o, G.own t = some r → r.a = some (c, o) → r.len * P.cellsOf r.ety < r.cap * P.cellsOf r.ety → c ≠ b) :
    Inv P G σ { w with heap := w.heap.setIfInBounds b (.cells vs e (n, n + 1)) } := by
  have hlt := lt_of_heap hw
  have other : ∀ k, k ≠ b → (w.heap.setIfInBounds b (.cells vs e (n, n + 1)))[k]? = w.heap[k]? := fun k hk => Array.getElem?_setIfInBounds_ne (fun e => hk e.symm)
  have same : (w.heap.setIfInBounds b (.cells vs e (n, n + 1)))[b]? = some (.cells vs e (n, n + 1)) := by simp [hlt]
  refine ⟨⟨h.below.os, h.below.tape, h.below.output, by simpa using h.below.size, fun k hk => by
    have hkb : k ≠ b := by omega
    rw [show ({ w with heap := w.heap.setIfInBounds b (.cells vs e (n, n + 1)) } : World).heap[k]? = (w.heap.setIfInBounds b (.cells vs e (n, n + 1)))[k]? from rfl, other k hkb]
    exact h.below.block k hk⟩, h.base, ?_, h.top, ?_, h.inj1, ?_, ?_, ?_, h.tok, ?_⟩
  · intro b' o v em
    refine ⟨?_, (h.mem b' o v em).2⟩
    have h1 := (h.mem b' o v em).1
    by_cases hb : b' = b
    · subst hb
      simp only [World.cell?, hw] at h1
      simp only [World.cell?, same]
      exact h1
    · rw [World.cell?_of_block (w := w) (other b' hb)]; exact h1
  · intro j c ej
    have := h.injB j c ej
    exact ⟨this.1, by simpa using this.2.1, this.2.2⟩
  · intro j ty' cs' ej
    obtain ⟨c, vs', k1, k2, k3⟩ := h.cells j ty' cs' ej
    have hne : c ≠ b := fun e' => hσ j ty' cs' ej (e' ▸ k1)
    exact ⟨c, vs', k1, by rw [other c hne]; exact k2, k3⟩
  · intro j es' ej
    obtain ⟨c, ms2, cl, k1, k2, k3⟩ := h.maps j es' ej
    have hne : c ≠ b := by rintro rfl; rw [hw] at k2; cases k2
    exact ⟨c, ms2, cl, k1, by rw [other c hne]; exact k2, k3⟩
  · intro j s p ej
    obtain ⟨c, k1, k2⟩ := h.iters j s p ej
    refine ⟨c, k1, k2.keep (fun _ _ h => h) (fun o ho => ?_) (fun m ms cl hm => by rw [other m (fun e => by subst e; rw [hw] at hm; cases hm)]; exact hm)⟩
    by_cases hb : c = b
    · subst hb
      exfalso
      cases s with
      | siter q z => have : w.heap[c]? = some (.stringIter q z) := k2; rw [hw] at this; cases this
      | miter q z d => obtain ⟨m, since, seen, last, ms, clock, q1, _⟩ := k2; rw [hw] at q1; cases q1
      | cells _ _ => cases p
      | tok _ => cases p
      | map _ => cases p
    · rw [other c hb]; exact ho
  · intro t r et
    obtain ⟨k1, k2, k3⟩ := h.own t r et
    refine ⟨k1, k2, fun c o ea k hk1 hk2 => ?_⟩
    obtain ⟨m1, m2, m3, m4, m5, m6, m7⟩ := k3 c o ea k hk1 hk2
    have hne : c ≠ b := hown t r c o et ea (by omega)
    refine ⟨?_, ?_, m3, m4, m5, by simpa using m6, m7⟩
    · rw [World.cell?_of_block (w := w) (other c hne)]; exact m1
    · rw [World.frozen?_of_block (w := w) (other c hne)]; exact m2
end Go.AW

set_option linter.unusedSimpArgs false
set_option linter.unusedVariables false
namespace Go.AW
open Go Go.RowKit
variable {P : Program} {n : Nat} {ds : List Deferred} {Q : AQ} {s : Fr} {σ : AS}
theorem Wk.of {a b : AV} (h : a = b) : AV.Wk P a b := h ▸ Wk.refl _
theorem FrWk.nil : FrWk P s (mkF []) := fun _ _ _ _ => .any _
theorem FrWk.cons {j : Nat} {v : AV} {r : List (Nat × AV)} (h : AV.Wk P (s j) v) (hr : FrWk P s (mkF r)) : FrWk P s (mkF ((j, v) :: r)) := by
  intro i
  simp only [mkF_cons]
  split
  · rename_i e; subst e; exact h
  · exact hr i
def stepA (P : Program) {α : Type} (m : α → Nat) (I : α → Prop) (c : List (Nat × AV)) (v : α → List (Nat × AV)) (st : α → AS) (a : α) (s' : Fr) (σ' : AS) : Prop :=
  ∃ a', m a' < m a ∧ I a' ∧ FrWk P s' (mkF (c ++ v a')) ∧ AS.le (st a') σ'
theorem stepA.mk {α : Type} {m : α → Nat} {I : α → Prop} {c : List (Nat × AV)} {v : α → List (Nat × AV)} {st : α → AS} {a : α} {s' : Fr} {σ' : AS} (a' : α)
    (h1 : m a' < m a) (h2 : FrWk P s' (mkF (c ++ v a'))) (h3 : AS.le (st a') σ') (h4 : I a') : stepA P m I c v st a s' σ' := ⟨a', h1, h4, h2, h3⟩
theorem AWp.loopA {α : Type} {body : Code} (a0 : α) (m : α → Nat) (I : α → Prop) (c : List (Nat × AV)) (v : α → List (Nat × AV)) (st : α → AS)
    (hs : FrWk P s (mkF (c ++ v a0))) (hσ : AS.le (st a0) σ) (h0 : I a0)
    (hr : ∀ a, I a → AWp P n ds body (thenQ (stepA P m I c v st a) Q) (mkF (c ++ v a)) (st a)) : AWp P n ds (.loop body) Q s σ := by
  refine AWp.loop (fun k s σ => ∃ a, k = m a ∧ I a ∧ s = mkF (c ++ v a) ∧ σ = st a) ⟨a0, rfl, h0, rfl, rfl⟩ hs hσ ?_
  rintro k s σ ⟨a, rfl, ha, rfl, rfl⟩
  refine (hr a ha).mono fun e s' σ' hq => ?_
  cases e with
  | normal =>
    obtain ⟨a', h1, h2, h3, h4⟩ := hq
    exact ⟨m a', _, _, h1, h3, h4, a', rfl, h2, rfl, rfl⟩
  | exit i => exact hq
  | ret => exact hq
  | panic x => exact hq
/-! ## values that are functions -/
theorem aCall.fnGives {f : FuncId} {first cap args : List AV} {σ1 : AS} {v : AV} {K Kp : AV → AS → Prop} (h : ACalls P f (first ++ args ++ cap) σ (Gives v σ1) No) (hk : K v σ1) : aCall P (.fn (.func f) first cap) args σ K Kp :=
  ⟨_, _, h, fun r σ' ⟨h1, h2⟩ => by subst h1; subst h2; exact hk, fun _ _ h => h.elim⟩
def FnG (P : Program) (σ : AS) (fv : AV) (args : List AV) (g : AV) : Prop := ∀ K Kp : AV → AS → Prop, K g σ → aCall P fv args σ K Kp
theorem FnG.use {fv : AV} {args : List AV} {g : AV} (h : FnG P σ fv args g) {K Kp : AV → AS → Prop} (hk : K g σ) : aCall P fv args σ K Kp := h K Kp hk
theorem FnG.fn {f : FuncId} {first cap args : List AV} {g : AV} (h : ACalls P f (first ++ args ++ cap) σ (Gives g σ) No) : FnG P σ (.fn (.func f) first cap) args g := fun _ _ hk => aCall.fnGives h hk
theorem FnG.func {f : FuncId} {args : List AV} {g : AV} (h : ACalls P f args σ (Gives g σ) No) : FnG P σ (.sc (.func (.func f) #[] #[])) args g := fun _ _ hk => aCall.gives h hk
theorem em_eq (p : Prop) : (p = True) ∨ (p = False) := by by_cases h : p; exact .inl (eq_true h); exact .inr (eq_false h)
theorem ci_lt (a b : Nat) : ((a : Int) < (b : Int)) = (a < b) := by simp only [eq_iff_iff]; omega
theorem ci_le (a b : Nat) : ((a : Int) ≤ (b : Int)) = (a ≤ b) := by simp only [eq_iff_iff]; omega
theorem ci_wi {i : Nat} (h : i < 4000000000000000000) : IntKind.i64.wrap ((i : Int) + 1) = ((i + 1 : Nat) : Int) := wInc h
end Go.AW

set_option linter.unusedSimpArgs false
set_option linter.unusedVariables false
namespace Go.AW
open Go Go.RowKit
variable {P : Program} {n : Nat} {ds : List Deferred} {Q : AQ} {s : Fr} {σ : AS} {G : Gh} {w : World} {K Pn : AV → AS → Prop}
/-! ## a slice that grows and is written to -/
theorem flatC_len {m : Nat} {l : List AV} (h : ∀ v ∈ l, v.cells.length = m) : (flatC l).length = l.length * m := (flatC_get l h).1
theorem flat_rep {ES : List AV} {m : Nat} (hm : 0 < m) (h : ∀ v ∈ ES, v.cells.length = m) {vs : Nat → Value} {p : Value → Prop}
    (hr : ∀ i j, i < ES.length → j < m → Rep P G ((ES.getD i .any).cells.getD j .any) (vs (i * m + j)) ∧ p (vs (i * m + j))) : ∀ k, k < (flatC ES).length → Rep P G ((flatC ES).getD k .any) (vs k) ∧ p (vs k) := by
  intro k hk
  obtain ⟨f1, f2⟩ := flatC_get ES h
  rw [f1] at hk
  have k1 : k / m < ES.length := Nat.div_lt_of_lt_mul (by rw [Nat.mul_comm]; exact hk)
  have k2 : k % m < m := Nat.mod_lt _ hm
  have k3 : (k / m) * m + k % m = k := by rw [Nat.mul_comm]; exact Nat.div_add_mod k _
  have h1 := f2 _ _ k1 k2
  have h2 := hr _ _ k1 k2
  rw [k3] at h1 h2
  rw [h1]
  exact h2
def GV (P : Program) (e : TypeId) (es : List AV) (v : AV) (S τ : AS) : Prop :=
  (es = [] ∧ v = .nilS ∧ τ = S) ∨ ∃ (id cap : Nat) (spl : List AV), S id = none ∧ v = .msl id 0 es.length cap ∧ τ = S.set id (.cells e (flatC (es ++ spl))) ∧ (∀ x ∈ es ++ spl, x.cells.length = P.cellsOf e) ∧ es.length + spl.length = cap
theorem GV.le {e : TypeId} {es : List AV} {v : AV} {S τ : AS} (h : GV P e es v S τ) : AS.le S τ := by
  rcases h with ⟨_, _, rfl⟩ | ⟨id, cap, spl, h0, _, rfl, _⟩
  · exact AS.le_refl _
  · exact le_new h0 (AS.le_refl _)
theorem GV.fresh {e : TypeId} {es : List AV} {v : AV} {S τ : AS} (h : GV P e es v S τ) {j : Nat} (hj : τ j = none) : S j = none := by
  cases hx : S j with
  | none => rfl
  | some b => have := h.le j b hx; rw [hj] at this; cases this
/-! slice expressions of such a slice -/
/-! what is not written to any more -/
end Go.AW

set_option linter.unusedSimpArgs false
set_option linter.unusedVariables false
namespace Go.AW
open Go Go.RowKit
variable {P : Program} {n : Nat} {ds : List Deferred} {Q : AQ} {s : Fr} {σ : AS} {G : Gh} {w : World} {K Pn : AV → AS → Prop}
/-! ## an append behind nothing, that is written to later on -/
/-! the same in a region that draws its order -/
end Go.AW

set_option linter.unusedSimpArgs false
set_option linter.unusedVariables false
namespace Go.AW
open Go Go.RowKit
variable {P : Program} {n : Nat} {ds : List Deferred} {Q : AQ} {s : Fr} {σ : AS}
/-! ## maps whose keys are texts -/
def skvs (kvs : List (ByteArray × AV)) : List (AV × AV) := kvs.map fun p => (.sc (.string p.1), p.2)
def findS (k : ByteArray) : List (ByteArray × AV) → Option AV
  | [] => none
  | (k', v) :: r => if k = k' then some v else findS k r
def updS (k : ByteArray) (v : AV) : List (ByteArray × AV) → List (ByteArray × AV)
  | [] => [(k, v)]
  | (k', v') :: r => if k = k' then (k, v) :: r else (k', v') :: updS k v r
theorem bs_self (k : ByteArray) : (k == k) = true := (MapKept.bytes_beq k k).2 rfl
theorem bs_ne {a b : ByteArray} (h : a ≠ b) : (a == b) = false := Bool.eq_false_iff.2 fun e => h ((MapKept.bytes_beq a b).1 e)
theorem findNow_str (k : ByteArray) (v : AV) : ∀ (kvs : List (ByteArray × AV)) (ms : List MapEntry) (i : Nat), ms.length = kvs.length → (∀ (j : Nat) (m : MapEntry), ms[j]? = some m → ∃ p : ByteArray × AV, kvs[j]? = some p ∧ m.key = .string p.1) →
    (findS k kvs = none ∧ Instr.findNow .string (.string k) ms i = some none ∧ updS k v kvs = kvs ++ [(k, v)]) ∨
    (∃ (j : Nat) (p : ByteArray × AV) (m : MapEntry), kvs[j]? = some p ∧ ms[j]? = some m ∧ p.1 = k ∧ findS k kvs = some p.2 ∧ Instr.findNow .string (.string k) ms i = some (some (i + j, m.val)) ∧ updS k v kvs = kvs.set j (k, v)) := by
  intro kvs
  induction kvs with
  | nil =>
    intro ms i hl _
    have : ms = [] := List.length_eq_zero_iff.1 (by simpa using hl)
    subst this
    exact .inl ⟨rfl, rfl, rfl⟩
  | cons p r ih =>
    intro ms i hl hk
    cases ms with
    | nil => simp at hl
    | cons m ms =>
      obtain ⟨p', hp', hkey⟩ := hk 0 m rfl
      obtain rfl : p = p' := by simpa using hp'
      by_cases he : k = p.1
      · right
        refine ⟨0, p, m, rfl, rfl, he.symm, by simp [findS, he], ?_, by simp [updS, he]⟩
        simp [Instr.findNow, hkey, Instr.sameNow, he, bs_self]
      · rcases ih ms (i + 1) (by simpa using hl) (fun j m' hm => hk (j + 1) m' (by simpa using hm)) with ⟨h1, h2, h3⟩ | ⟨j, q, m', h1, h2, h3, h4, h5, h6⟩
        · left
          refine ⟨by simp [findS, he, h1], ?_, by simp [updS, he, h3]⟩
          have : (k == p.1) = false := bs_ne he
          simp [Instr.findNow, hkey, Instr.sameNow, this, h2]
        · right
          refine ⟨j + 1, q, m', by simpa using h1, by simpa using h2, h3, by simp [findS, he, h4], ?_, by simp [updS, he, h6]⟩
          have : (k == p.1) = false := bs_ne he
          simp [Instr.findNow, hkey, Instr.sameNow, this, h5]
          omega
theorem run_checkKey_str {t : TypeId} {w : World} {b : Bool} {k : ByteArray} (ht : P.underlying t = some .string) : (Instr.checkKey b 10000 t (.string k)).run P w = .ok () w := by
  have : ∀ m : Nat, (Instr.checkKey b (m + 1) t (.string k)).run P w = .ok () w := fun m => by
    simp [Instr.checkKey, run_underlying ht, Sem.run_bind, Result.andThen]
  exact this 9999
theorem run_findKey_str {t : TypeId} {w : World} {k : ByteArray} {ms : List MapEntry} {r : Option (Nat × Value)} (ht : P.underlying t = some .string) (h : Instr.findNow .string (.string k) ms 0 = some r) :
    (Instr.findKey t (.string k) ms).run P w = .ok r w := by
  simp [Instr.findKey, run_underlying ht, Sem.run_bind, Result.andThen, h]
theorem map_read {G : Gh} {w : World} {id : Nat} {kvs : List (ByteArray × AV)} (hi : Inv P G σ w) (hσ : σ id = some (.map (skvs kvs))) :
    ∃ (b : Nat) (ms : Array MapEntry) (clock : Nat), G.inj id = some b ∧ w.heap[b]? = some (.map ms clock) ∧ (ms.size = kvs.length ∧ StampB ms clock) ∧ (∀ (j : Nat) (m : MapEntry), ms.toList[j]? = some m → ∃ p : ByteArray × AV, kvs[j]? = some p ∧ m.key = .string p.1 ∧ Rep P G p.2 m.val) := by
  obtain ⟨b, ms, clock, h1, h2, ⟨h3, hst⟩, h4⟩ := hi.maps id _ hσ
  have hlen : (skvs kvs).length = kvs.length := by simp [skvs]
  refine ⟨b, ms, clock, h1, h2, ⟨by omega, hst⟩, fun j m hm => ?_⟩
  have hj : j < kvs.length := by
    have := (List.getElem?_eq_some_iff.1 hm).1
    simp at this; omega
  obtain ⟨m', g1, g2, g3⟩ := h4 j (by omega)
  rw [Array.getElem?_toList, g1] at hm
  obtain rfl := Option.some.inj hm
  refine ⟨kvs[j], List.getElem?_eq_getElem hj, ?_, ?_⟩
  · have e : ((skvs kvs).getD j (.any, .any)).1 = .sc (.string kvs[j].1) := by simp [skvs, hj]
    rw [e] at g2
    generalize m'.key = x at g2
    cases g2; rfl
  · have e : ((skvs kvs).getD j (.any, .any)).2 = kvs[j].2 := by simp [skvs, hj]
    rwa [e] at g3
def lookV (P : Program) (et : TypeId) (r : Option AV) (ok : Bool) : AV := if ok then .tup [r.getD (zeroAV P et), .sc (.bool r.isSome)] else r.getD (zeroAV P et)
theorem lookup_out {G : Gh} {w : World} {K Pn : AV → AS → Prop} (hi : Inv P G σ w) {t kt et : TypeId} {x ix : Value} {ok : Bool} {id : Nat} {k : ByteArray} {kvs : List (ByteArray × AV)}
    (hm : P.underlying t = some (.map kt et)) (hk : P.underlying kt = some .string) (hz : (zeroAV P et).laid = true) (hx : Rep P G (.mp id) x) (hix : Rep P G (.sc (.string k)) ix) (hσ : σ id = some (.map (skvs kvs)))
    (h : K (lookV P et (findS k kvs) ok) σ) : Out P G K Pn (((do pure (Next.value (← Instr.lookup t x ix ok))) : Sem Next).run P w) := by
  obtain ⟨b, ms, clock, h1, h2, ⟨h3, hst⟩, h4⟩ := map_read hi hσ
  cases hix
  cases hx with
  | mp hb =>
    rw [h1] at hb
    obtain rfl := Option.some.inj hb
    obtain ⟨it, z, hit, hzv, hzr⟩ := zeroAV_info hz
    have tupR : ∀ (a : AV) (v : Value) (bb : Bool), Rep P G a v → Rep P G (.tup [a, .sc (.bool bb)]) (.tuple #[v, .bool bb]) := by
      intro a v bb ha
      refine .tup [v, .bool bb] rfl fun i hi => ?_
      match i, hi with
      | 0, _ => exact ha
      | 1, _ => exact .sc _
    rcases findNow_str k .any kvs ms.toList 0 (by simpa using h3) (fun j m hm => let ⟨p, a, b, _⟩ := h4 j m hm; ⟨p, a, b⟩) with ⟨g1, g2, _⟩ | ⟨j, p, m, g1, g2, g3, g4, g5, _⟩
    · have hrun : (Instr.lookup t (.map (some b)) (.string k) ok).run P w = .ok (if ok then .tuple #[z, .bool false] else z) w := by
        simp only [Instr.lookup, Sem.run_bind, run_underlying hm, Result.andThen_ok, MapKept.run_getObj_map h2, Sem.run_pure, run_checkKey_str hk, run_findKey_str hk g2, zeroValue, run_typeInfo w hit, hzv]
      refine Out.value hrun (.refl G) hi ?_ h
      rw [g1]
      unfold lookV
      cases ok
      · rw [Option.getD_none, hzr]; exact rep_ofC z
      · exact tupR _ _ _ (by rw [Option.getD_none, hzr]; exact rep_ofC z)
    · have hrun : (Instr.lookup t (.map (some b)) (.string k) ok).run P w = .ok (if ok then .tuple #[m.val, .bool true] else m.val) w := by
        simp only [Instr.lookup, Sem.run_bind, run_underlying hm, Result.andThen_ok, MapKept.run_getObj_map h2, Sem.run_pure, run_checkKey_str hk, run_findKey_str hk g5]
      refine Out.value hrun (.refl G) hi ?_ h
      obtain ⟨p', q1, _, q3⟩ := h4 j m g2
      rw [g1] at q1
      obtain rfl := Option.some.inj q1
      rw [g4]
      unfold lookV
      cases ok
      · exact q3
      · exact tupR _ _ _ q3
theorem SOp.lookup {d t kt et : Nat} {x ix : Operand} {ok : Bool} {ty : TypeId} {pos : String} {af : Array Edge} {g : Option (Nat × Bool)} {K : Fr → AS → Prop} (hd : d < n) (id : Nat) (k : ByteArray) (kvs : List (ByteArray × AV))
    (hm : P.underlying t = some (.map kt et)) (hk : P.underlying kt = some .string) (hz : (zeroAV P et).laid = true) (hx : ev s x = .mp id) (hix : ev s ix = .sc (.string k)) (hσ : σ id = some (.map (skvs kvs)))
    (h : K (s.put (some d) (lookV P et (findS k kvs) ok)) σ) : SOp P n ds Q ⟨some d, .lookup t x ix ok, ty, pos, af, g⟩ s σ K :=
  SOp.of_out hd fun G a w hs => lookup_out (K := fun v σ' => K (s.put (some d) v) σ') hs.inv hm hk hz (hx ▸ hs.ev x) (hix ▸ hs.ev ix) hσ h
theorem Inv.setMap {G : Gh} {w : World} (h : Inv P G σ w) {id b : Nat} {ms : Array MapEntry} {clock : Nat} (hb : G.inj id = some b) (hw : w.heap[b]? = some (.map ms clock)) (ms' : Array MapEntry) (clock' : Nat) (es : List (AV × AV)) (hsz : ms'.size = es.length) (hst : StampB ms' clock')
    (hgrow : (∀ (k : Nat) (e : MapEntry), ms[k]? = some e → ∃ e', ms'[k]? = some e' ∧ e'.born = e.born) ∧ (∀ (k : Nat) (e' : MapEntry), ms'[k]? = some e' → ms[k]? = none → clock ≤ e'.born) ∧ clock ≤ clock' ∧ ms'.size + clock = ms.size + clock')
    (hr : ∀ k, k < es.length → ∃ m, ms'[k]? = some m ∧ Rep P G (es.getD k (.any, .any)).1 m.key ∧ Rep P G (es.getD k (.any, .any)).2 m.val) :
    Inv P G (σ.set id (.map es)) { w with heap := w.heap.setIfInBounds b (.map ms' clock') } := by
  have hlt := lt_of_heap hw
  have hB := h.injB id b hb
  have other : ∀ k, k ≠ b → (w.heap.setIfInBounds b (.map ms' clock'))[k]? = w.heap[k]? := fun k hk => Array.getElem?_setIfInBounds_ne (fun e => hk e.symm)
  have same : (w.heap.setIfInBounds b (.map ms' clock'))[b]? = some (.map ms' clock') := by simp [hlt]
  have hmem : ∀ o, G.mem b o = none := by
    intro o
    cases hm : G.mem b o with
    | none => rfl
    | some v =>
      have := (h.mem b o v hm).1
      simp [World.cell?, hw] at this
  refine ⟨⟨h.below.os, h.below.tape, h.below.output, by simpa using h.below.size, fun k hk => by
    have hkb : k ≠ b := by have := hB.1; omega
    rw [show ({ w with heap := w.heap.setIfInBounds b (.map ms' clock') } : World).heap[k]? = (w.heap.setIfInBounds b (.map ms' clock'))[k]? from rfl, other k hkb]
    exact h.below.block k hk⟩, h.base, ?_, h.top, ?_, h.inj1, ?_, ?_, ?_, ?_, ?_⟩
  · intro b' o v em
    have hne : b' ≠ b := by intro e'; subst e'; rw [hmem o] at em; cases em
    exact ⟨by rw [World.cell?_of_block (w := w) (other b' hne)]; exact (h.mem b' o v em).1, (h.mem b' o v em).2⟩
  · intro j c ej
    have := h.injB j c ej
    refine ⟨this.1, by simpa using this.2.1, fun ty' cs' hn => ?_⟩
    by_cases hj : j = id
    · subst hj; simp [AS.set] at hn
    · exact this.2.2 ty' cs' (by simpa [AS.set, hj] using hn)
  · intro j ty' cs' ej
    have hj : j ≠ id := by intro e'; subst e'; simp [AS.set] at ej
    simp [AS.set, hj] at ej
    obtain ⟨c, vs', k1, k2, k3⟩ := h.cells j ty' cs' ej
    have hne : c ≠ b := fun e' => hj (h.inj1 j id b (e' ▸ k1) hb)
    exact ⟨c, vs', k1, by rw [other c hne]; exact k2, k3⟩
  · intro j es' ej
    by_cases hj : j = id
    · subst hj
      simp [AS.set] at ej
      subst ej
      exact ⟨b, ms', clock', hb, same, ⟨hsz, hst⟩, hr⟩
    · simp [AS.set, hj] at ej
      obtain ⟨c, ms2, cl, k1, k2, k3⟩ := h.maps j es' ej
      have hne : c ≠ b := fun e' => hj (h.inj1 j id b (e' ▸ k1) hb)
      exact ⟨c, ms2, cl, k1, by rw [other c hne]; exact k2, k3⟩
  · intro j s p ej
    have hj : j ≠ id := by intro e'; subst e'; simp [AS.set] at ej; subst ej; cases p
    simp [AS.set, hj] at ej
    obtain ⟨c, k1, k2⟩ := h.iters j s p ej
    have hne : c ≠ b := fun e' => hj (h.inj1 j id b (e' ▸ k1) hb)
    refine ⟨c, k1, ?_⟩
    cases s with
    | siter s pos =>
      have k2' : w.heap[c]? = some (.stringIter s pos) := k2
      show (w.heap.setIfInBounds b (.map ms' clock'))[c]? = _
      rw [other c hne]; exact k2'
    | miter mid n0 done =>
      obtain ⟨m, since, seen, last, ms0, clock0, q1, q2, q3, q4, q5, q6, q7, q8, q9, q10, q11, q12, q13⟩ := k2
      by_cases hm : m = b
      · subst hm
        rw [hw] at q3
        cases q3
        refine ⟨m, since, seen, last, ms', clock', by rw [← q1]; exact other c hne, q2, same, ?_, q5, by have := hgrow.2.2.1; omega, hst, ?_, ?_, q10, q11, by have := hgrow.2.2.2; omega, ?_⟩
        · rcases Nat.lt_or_ge ms'.size n0 with hlt | hge
          · have hg : ms[ms'.size]? = some ms[ms'.size] := Array.getElem?_eq_getElem (by omega)
            obtain ⟨e', g1, _⟩ := hgrow.1 _ _ hg
            simp at g1
          · exact hge
        · intro k e hk
          cases hg : ms[k]? with
          | some e0 =>
            obtain ⟨e', g1, g2⟩ := hgrow.1 k e0 hg
            rw [hk] at g1
            cases g1
            rw [q8 k e0 hg, g2]
          | none =>
            have g1 := hgrow.2.1 k e hk hg
            have g2 : ms.size ≤ k := by simpa using hg
            constructor <;> intro <;> omega
        · intro k e hk hkn
          have hg : ms[k]? = some ms[k] := Array.getElem?_eq_getElem (by omega)
          obtain ⟨e', g1, g2⟩ := hgrow.1 k _ hg
          rw [hk] at g1
          cases g1
          rw [g2]
          exact q9 k _ hg hkn
        · intro k hk
          obtain ⟨e, g1, g2⟩ := q13 k hk
          obtain ⟨e', g3, g4⟩ := hgrow.1 k e g1
          exact ⟨e', g3, by rw [g2, g4]⟩
      · exact ⟨m, since, seen, last, ms0, clock0, by rw [← q1]; exact other c hne, q2, by rw [← q3]; exact other m hm, q4, q5, q6, q7, q8, q9, q10, q11, q12, q13⟩
    | cells ty cs => trivial
    | tok n => trivial
    | map es => trivial
  · intro j n ej
    have hj : j ≠ id := by intro e'; subst e'; simp [AS.set] at ej
    simp [AS.set, hj] at ej
    exact h.tok j n ej
  · intro t r et
    obtain ⟨k1, k2, k3⟩ := h.own t r et
    refine ⟨k1, k2, fun c o ea k hk1 hk2 => ?_⟩
    obtain ⟨m1, m2, m3, m4, m5, m6, m7⟩ := k3 c o ea k hk1 hk2
    have hne : c ≠ b := fun e' => m4 id (e' ▸ hb)
    refine ⟨?_, ?_, m3, m4, m5, by simpa using m6, m7⟩
    · rw [World.cell?_of_block (w := w) (other c hne)]; exact m1
    · rw [World.frozen?_of_block (w := w) (other c hne)]; exact m2
theorem stampB_push {ms : Array MapEntry} {clock : Nat} (h : StampB ms clock) {key val : Value} : StampB (ms.push { key, val, born := clock }) (clock + 1) := by
  constructor
  · intro k e hk
    rw [Array.getElem?_push] at hk
    split at hk
    · cases hk; simp
    · have := h.1 k e hk; omega
  · intro k k' e e' hk hk' he
    rw [Array.getElem?_push] at hk hk'
    split at hk <;> split at hk'
    · omega
    · cases hk; have := h.1 k' e' hk'; simp at he; omega
    · cases hk'; have := h.1 k e hk; simp at he; omega
    · exact h.2 k k' e e' hk hk' he
theorem grow_push (ms : Array MapEntry) (clock : Nat) (x : MapEntry) (hx : x.born = clock) :
    (∀ (k : Nat) (e : MapEntry), ms[k]? = some e → ∃ e', (ms.push x)[k]? = some e' ∧ e'.born = e.born) ∧ (∀ (k : Nat) (e' : MapEntry), (ms.push x)[k]? = some e' → ms[k]? = none → clock ≤ e'.born) ∧ clock ≤ clock + 1 ∧ (ms.push x).size + clock = ms.size + (clock + 1) := by
  refine ⟨fun k e hk => ⟨e, ?_, rfl⟩, fun k e' hk hn => ?_, by omega, by simp; omega⟩
  · have := (Array.getElem?_eq_some_iff.1 hk).1
    rw [Array.getElem?_push, if_neg (by omega)]
    exact hk
  · rw [Array.getElem?_push] at hk
    split at hk
    · cases hk; omega
    · rw [hn] at hk; cases hk
theorem stampB_modify {ms : Array MapEntry} {clock : Nat} (h : StampB ms clock) (j : Nat) (f : MapEntry → MapEntry) (hf : ∀ e, (f e).born = e.born) : StampB (ms.modify j f) clock := by
  have back : ∀ (k : Nat) (e : MapEntry), (ms.modify j f)[k]? = some e → ∃ e0, ms[k]? = some e0 ∧ e.born = e0.born := by
    intro k e hk
    rw [Array.getElem?_modify] at hk
    split at hk
    · cases hg : ms[k]? with
      | none => rw [hg] at hk; cases hk
      | some e0 => rw [hg] at hk; cases hk; exact ⟨e0, rfl, hf e0⟩
    · exact ⟨e, hk, rfl⟩
  constructor
  · intro k e hk
    obtain ⟨e0, h1, h2⟩ := back k e hk
    rw [h2]; exact h.1 k e0 h1
  · intro k k' e e' hk hk' he
    obtain ⟨e0, h1, h2⟩ := back k e hk
    obtain ⟨e1, h3, h4⟩ := back k' e' hk'
    exact h.2 k k' e0 e1 h1 h3 (by omega)
theorem grow_modify (ms : Array MapEntry) (clock : Nat) (j : Nat) (f : MapEntry → MapEntry) (hf : ∀ e, (f e).born = e.born) :
    (∀ (k : Nat) (e : MapEntry), ms[k]? = some e → ∃ e', (ms.modify j f)[k]? = some e' ∧ e'.born = e.born) ∧ (∀ (k : Nat) (e' : MapEntry), (ms.modify j f)[k]? = some e' → ms[k]? = none → clock ≤ e'.born) ∧ clock ≤ clock ∧ (ms.modify j f).size + clock = ms.size + clock := by
  refine ⟨fun k e hk => ?_, fun k e' hk hn => ?_, by omega, by simp⟩
  · rw [Array.getElem?_modify]
    split
    · exact ⟨f e, by rw [hk]; rfl, hf e⟩
    · exact ⟨e, hk, rfl⟩
  · rw [Array.getElem?_modify, hn] at hk
    split at hk <;> cases hk
theorem mapUpdate_out {G : Gh} {w : World} {K Pn : AV → AS → Prop} (hi : Inv P G σ w) {t kt et : TypeId} {x ix vx : Value} {v : AV} {id : Nat} {k : ByteArray} {kvs : List (ByteArray × AV)}
    (hm : P.underlying t = some (.map kt et)) (hk : P.underlying kt = some .string) (hx : Rep P G (.mp id) x) (hix : Rep P G (.sc (.string k)) ix) (hv : Rep P G v vx) (hσ : σ id = some (.map (skvs kvs)))
    (h : K .any (σ.set id (.map (skvs (updS k v kvs))))) : Out P G K Pn (((do Instr.mapUpdate t x ix vx; pure Next.skip) : Sem Next).run P w) := by
  obtain ⟨b, ms, clock, h1, h2, ⟨h3, hst⟩, h4⟩ := map_read hi hσ
  cases hix
  cases hx with
  | mp hb =>
    rw [h1] at hb
    obtain rfl := Option.some.inj hb
    have getS : ∀ (l : List (ByteArray × AV)) (j : Nat) (p : ByteArray × AV), l[j]? = some p → (skvs l).getD j (.any, .any) = (.sc (.string p.1), p.2) := by
      intro l j p hp
      simp [skvs, hp]
    have hsl : ∀ l, (skvs l).length = l.length := by intro l; simp [skvs]
    rcases findNow_str k v kvs ms.toList 0 (by simpa using h3) (fun j m hm => let ⟨p, a, b, _⟩ := h4 j m hm; ⟨p, a, b⟩) with ⟨g1, g2, g6⟩ | ⟨j, p, m, g1, g2, g3, g4, g5, g6⟩
    · have hrun : (Instr.mapUpdate t (.map (some b)) (.string k) vx).run P w = .ok () { w with heap := w.heap.setIfInBounds b (.map (ms.push { key := .string k, val := vx, born := clock }) (clock + 1)) } := by
        simp only [Instr.mapUpdate, Sem.run_bind, run_underlying hm, Result.andThen_ok, MapKept.run_getObj_map h2, Sem.run_pure, run_checkKey_str hk, run_findKey_str hk g2, MapKept.run_setObj_map _ h2]
      rw [g6] at h
      refine Out.unit hrun (.refl G) (hi.setMap h1 h2 _ _ (skvs (kvs ++ [(k, v)])) (by simp [hsl, h3]) (stampB_push hst) (grow_push ms clock _ rfl) (fun i hi' => ?_)) (.any _) h
      rw [hsl] at hi'
      simp at hi'
      by_cases hlt : i < kvs.length
      · have hmi : i < ms.size := by omega
        obtain ⟨p, q1, q2, q3⟩ := h4 i ms[i] (by simp [hmi])
        refine ⟨ms[i], by simp [Array.getElem?_push, hmi]; omega, ?_⟩
        rw [getS _ i p (by rw [List.getElem?_append_left hlt]; exact q1), q2]
        exact ⟨.sc _, q3⟩
      · have he : i = kvs.length := by omega
        subst he
        refine ⟨{ key := .string k, val := vx, born := clock }, by rw [← h3]; simp, ?_⟩
        rw [getS _ kvs.length (k, v) (by simp)]
        exact ⟨.sc _, hv⟩
    · have hjm : j < ms.size := by
        have := (List.getElem?_eq_some_iff.1 g2).1
        simpa using this
      have hold : ms[j]? = some m := by rw [← Array.getElem?_toList]; exact g2
      obtain ⟨p', q1, q2, q3⟩ := h4 j m g2
      rw [g1] at q1
      obtain rfl := Option.some.inj q1
      have hkey : (Instr.keyThatStays m.key (.string k)).run P w = .ok (.string k) w := by
        have : ∀ q : Nat, Instr.sameBits q (.string k) (.string k) = true := fun q => by simp [Instr.sameBits, bs_self]
        rw [q2, g3]
        simp [Instr.keyThatStays, this]
      have hrun : (Instr.mapUpdate t (.map (some b)) (.string k) vx).run P w = .ok () { w with heap := w.heap.setIfInBounds b (.map (ms.modify j fun e => { e with key := .string k, val := vx }) clock) } := by
        simp only [Instr.mapUpdate, Sem.run_bind, run_underlying hm, Result.andThen_ok, MapKept.run_getObj_map h2, Sem.run_pure, run_checkKey_str hk, run_findKey_str hk g5, Nat.zero_add, hold, Option.map_some, Option.getD_some, hkey, MapKept.run_setObj_map _ h2]
      rw [g6] at h
      refine Out.unit hrun (.refl G) (hi.setMap h1 h2 _ _ (skvs (kvs.set j (k, v))) (by simp [hsl, h3]) (stampB_modify hst j _ (fun _ => rfl)) (grow_modify ms clock j _ (fun _ => rfl)) (fun i hi' => ?_)) (.any _) h
      rw [hsl] at hi'
      simp at hi'
      have hmi : i < ms.size := by omega
      by_cases hij : i = j
      · subst hij
        refine ⟨{ m with key := .string k, val := vx }, by simp [Array.getElem?_modify, hold], ?_⟩
        rw [getS _ i (k, v) (by simp [List.getElem?_set, hi'])]
        exact ⟨.sc _, hv⟩
      · obtain ⟨p2, r1, r2, r3⟩ := h4 i ms[i] (by simp [hmi])
        refine ⟨ms[i], by rw [Array.getElem?_modify, if_neg (fun e => hij e.symm)]; exact Array.getElem?_eq_getElem hmi, ?_⟩
        rw [getS _ i p2 (by rw [List.getElem?_set_ne (fun e => hij e.symm)]; exact r1), r2]
        exact ⟨.sc _, r3⟩
theorem SOp.mapUpdate {t kt et : Nat} {m x ix : Operand} {ty : TypeId} {pos : String} {af : Array Edge} {g : Option (Nat × Bool)} {K : Fr → AS → Prop} (id : Nat) (k : ByteArray) (kvs : List (ByteArray × AV))
    (hm : P.underlying t = some (.map kt et)) (hk : P.underlying kt = some .string) (hx : ev s m = .mp id) (hix : ev s ix = .sc (.string k)) (hσ : σ id = some (.map (skvs kvs)))
    (h : K s (σ.set id (.map (skvs (updS k (ev s x) kvs))))) : SOp P n ds Q ⟨none, .mapUpdate t m ix x, ty, pos, af, g⟩ s σ K :=
  SOp.of_out trivial fun G a w hs => mapUpdate_out (K := fun v σ' => K (s.put none v) σ') hs.inv hm hk (hx ▸ hs.ev m) (hix ▸ hs.ev ix) (hs.ev x) hσ h
end Go.AW

set_option linter.unusedSimpArgs false
set_option linter.unusedVariables false
namespace Go.AW
open Go Go.RowKit
variable {P : Program} {n : Nat} {ds : List Deferred} {Q : AQ} {s : Fr} {σ : AS}
/-! ## maps whose keys are ints -/
def ikvs (kvs : List (Int × AV)) : List (AV × AV) := kvs.map fun p => (.sc (.int .i64 p.1), p.2)
def findI (k : Int) : List (Int × AV) → Option AV
  | [] => none
  | (k', v) :: r => if k = k' then some v else findI k r
def updI (k : Int) (v : AV) : List (Int × AV) → List (Int × AV)
  | [] => [(k, v)]
  | (k', v') :: r => if k = k' then (k, v) :: r else (k', v') :: updI k v r
theorem bi_self (k : Int) : (k == k) = true := by simp
theorem bi_ne {a b : Int} (h : a ≠ b) : (a == b) = false := by simpa using h
theorem findNow_int (k : Int) (v : AV) : ∀ (kvs : List (Int × AV)) (ms : List MapEntry) (i : Nat), ms.length = kvs.length → (∀ (j : Nat) (m : MapEntry), ms[j]? = some m → ∃ p : Int × AV, kvs[j]? = some p ∧ m.key = .int .i64 p.1) →
    (findI k kvs = none ∧ Instr.findNow (.int .i64) (.int .i64 k) ms i = some none ∧ updI k v kvs = kvs ++ [(k, v)]) ∨
    (∃ (j : Nat) (p : Int × AV) (m : MapEntry), kvs[j]? = some p ∧ ms[j]? = some m ∧ p.1 = k ∧ findI k kvs = some p.2 ∧ Instr.findNow (.int .i64) (.int .i64 k) ms i = some (some (i + j, m.val)) ∧ updI k v kvs = kvs.set j (k, v)) := by
  intro kvs
  induction kvs with
  | nil =>
    intro ms i hl _
    have : ms = [] := List.length_eq_zero_iff.1 (by simpa using hl)
    subst this
    exact .inl ⟨rfl, rfl, rfl⟩
  | cons p r ih =>
    intro ms i hl hk
    cases ms with
    | nil => simp at hl
    | cons m ms =>
      obtain ⟨p', hp', hkey⟩ := hk 0 m rfl
      obtain rfl : p = p' := by simpa using hp'
      by_cases he : k = p.1
      · right
        refine ⟨0, p, m, rfl, rfl, he.symm, by simp [findI, he], ?_, by simp [updI, he]⟩
        simp [Instr.findNow, hkey, Instr.sameNow, he, bi_self]
      · rcases ih ms (i + 1) (by simpa using hl) (fun j m' hm => hk (j + 1) m' (by simpa using hm)) with ⟨h1, h2, h3⟩ | ⟨j, q, m', h1, h2, h3, h4, h5, h6⟩
        · left
          refine ⟨by simp [findI, he, h1], ?_, by simp [updI, he, h3]⟩
          have : (k == p.1) = false := bi_ne he
          simp [Instr.findNow, hkey, Instr.sameNow, this, h2]
        · right
          refine ⟨j + 1, q, m', by simpa using h1, by simpa using h2, h3, by simp [findI, he, h4], ?_, by simp [updI, he, h6]⟩
          have : (k == p.1) = false := bi_ne he
          simp [Instr.findNow, hkey, Instr.sameNow, this, h5]
          omega
theorem run_checkKey_int {t : TypeId} {w : World} {b : Bool} {k : Int} (ht : P.underlying t = some (.int .i64)) : (Instr.checkKey b 10000 t (.int .i64 k)).run P w = .ok () w := by
  have : ∀ m : Nat, (Instr.checkKey b (m + 1) t (.int .i64 k)).run P w = .ok () w := fun m => by
    simp [Instr.checkKey, run_underlying ht, Sem.run_bind, Result.andThen]
  exact this 9999
theorem run_findKey_int {t : TypeId} {w : World} {k : Int} {ms : List MapEntry} {r : Option (Nat × Value)} (ht : P.underlying t = some (.int .i64)) (h : Instr.findNow (.int .i64) (.int .i64 k) ms 0 = some r) :
    (Instr.findKey t (.int .i64 k) ms).run P w = .ok r w := by
  simp [Instr.findKey, run_underlying ht, Sem.run_bind, Result.andThen, h]
theorem map_readI {G : Gh} {w : World} {id : Nat} {kvs : List (Int × AV)} (hi : Inv P G σ w) (hσ : σ id = some (.map (ikvs kvs))) :
    ∃ (b : Nat) (ms : Array MapEntry) (clock : Nat), G.inj id = some b ∧ w.heap[b]? = some (.map ms clock) ∧ (ms.size = kvs.length ∧ StampB ms clock) ∧ (∀ (j : Nat) (m : MapEntry), ms.toList[j]? = some m → ∃ p : Int × AV, kvs[j]? = some p ∧ m.key = .int .i64 p.1 ∧ Rep P G p.2 m.val) := by
  obtain ⟨b, ms, clock, h1, h2, ⟨h3, hst⟩, h4⟩ := hi.maps id _ hσ
  have hlen : (ikvs kvs).length = kvs.length := by simp [ikvs]
  refine ⟨b, ms, clock, h1, h2, ⟨by omega, hst⟩, fun j m hm => ?_⟩
  have hj : j < kvs.length := by
    have := (List.getElem?_eq_some_iff.1 hm).1
    simp at this; omega
  obtain ⟨m', g1, g2, g3⟩ := h4 j (by omega)
  rw [Array.getElem?_toList, g1] at hm
  obtain rfl := Option.some.inj hm
  refine ⟨kvs[j], List.getElem?_eq_getElem hj, ?_, ?_⟩
  · have e : ((ikvs kvs).getD j (.any, .any)).1 = .sc (.int .i64 kvs[j].1) := by simp [ikvs, hj]
    rw [e] at g2
    generalize m'.key = x at g2
    cases g2; rfl
  · have e : ((ikvs kvs).getD j (.any, .any)).2 = kvs[j].2 := by simp [ikvs, hj]
    rwa [e] at g3
theorem lookup_outI {G : Gh} {w : World} {K Pn : AV → AS → Prop} (hi : Inv P G σ w) {t kt et : TypeId} {x ix : Value} {ok : Bool} {id : Nat} {k : Int} {kvs : List (Int × AV)}
    (hm : P.underlying t = some (.map kt et)) (hk : P.underlying kt = some (.int .i64)) (hz : (zeroAV P et).laid = true) (hx : Rep P G (.mp id) x) (hix : Rep P G (.sc (.int .i64 k)) ix) (hσ : σ id = some (.map (ikvs kvs)))
    (h : K (lookV P et (findI k kvs) ok) σ) : Out P G K Pn (((do pure (Next.value (← Instr.lookup t x ix ok))) : Sem Next).run P w) := by
  obtain ⟨b, ms, clock, h1, h2, ⟨h3, hst⟩, h4⟩ := map_readI hi hσ
  cases hix
  cases hx with
  | mp hb =>
    rw [h1] at hb
    obtain rfl := Option.some.inj hb
    obtain ⟨it, z, hit, hzv, hzr⟩ := zeroAV_info hz
    have tupR : ∀ (a : AV) (v : Value) (bb : Bool), Rep P G a v → Rep P G (.tup [a, .sc (.bool bb)]) (.tuple #[v, .bool bb]) := by
      intro a v bb ha
      refine .tup [v, .bool bb] rfl fun i hi => ?_
      match i, hi with
      | 0, _ => exact ha
      | 1, _ => exact .sc _
    rcases findNow_int k .any kvs ms.toList 0 (by simpa using h3) (fun j m hm => let ⟨p, a, b, _⟩ := h4 j m hm; ⟨p, a, b⟩) with ⟨g1, g2, _⟩ | ⟨j, p, m, g1, g2, g3, g4, g5, _⟩
    · have hrun : (Instr.lookup t (.map (some b)) (.int .i64 k) ok).run P w = .ok (if ok then .tuple #[z, .bool false] else z) w := by
        simp only [Instr.lookup, Sem.run_bind, run_underlying hm, Result.andThen_ok, MapKept.run_getObj_map h2, Sem.run_pure, run_checkKey_int hk, run_findKey_int hk g2, zeroValue, run_typeInfo w hit, hzv]
      refine Out.value hrun (.refl G) hi ?_ h
      rw [g1]
      unfold lookV
      cases ok
      · rw [Option.getD_none, hzr]; exact rep_ofC z
      · exact tupR _ _ _ (by rw [Option.getD_none, hzr]; exact rep_ofC z)
    · have hrun : (Instr.lookup t (.map (some b)) (.int .i64 k) ok).run P w = .ok (if ok then .tuple #[m.val, .bool true] else m.val) w := by
        simp only [Instr.lookup, Sem.run_bind, run_underlying hm, Result.andThen_ok, MapKept.run_getObj_map h2, Sem.run_pure, run_checkKey_int hk, run_findKey_int hk g5]
      refine Out.value hrun (.refl G) hi ?_ h
      obtain ⟨p', q1, _, q3⟩ := h4 j m g2
      rw [g1] at q1
      obtain rfl := Option.some.inj q1
      rw [g4]
      unfold lookV
      cases ok
      · exact q3
      · exact tupR _ _ _ q3
theorem SOp.lookupI {d t kt et : Nat} {x ix : Operand} {ok : Bool} {ty : TypeId} {pos : String} {af : Array Edge} {g : Option (Nat × Bool)} {K : Fr → AS → Prop} (hd : d < n) (id : Nat) (k : Int) (kvs : List (Int × AV))
    (hm : P.underlying t = some (.map kt et)) (hk : P.underlying kt = some (.int .i64)) (hz : (zeroAV P et).laid = true) (hx : ev s x = .mp id) (hix : ev s ix = .sc (.int .i64 k)) (hσ : σ id = some (.map (ikvs kvs)))
    (h : K (s.put (some d) (lookV P et (findI k kvs) ok)) σ) : SOp P n ds Q ⟨some d, .lookup t x ix ok, ty, pos, af, g⟩ s σ K :=
  SOp.of_out hd fun G a w hs => lookup_outI (K := fun v σ' => K (s.put (some d) v) σ') hs.inv hm hk hz (hx ▸ hs.ev x) (hix ▸ hs.ev ix) hσ h
theorem mapUpdate_outI {G : Gh} {w : World} {K Pn : AV → AS → Prop} (hi : Inv P G σ w) {t kt et : TypeId} {x ix vx : Value} {v : AV} {id : Nat} {k : Int} {kvs : List (Int × AV)}
    (hm : P.underlying t = some (.map kt et)) (hk : P.underlying kt = some (.int .i64)) (hx : Rep P G (.mp id) x) (hix : Rep P G (.sc (.int .i64 k)) ix) (hv : Rep P G v vx) (hσ : σ id = some (.map (ikvs kvs)))
    (h : K .any (σ.set id (.map (ikvs (updI k v kvs))))) : Out P G K Pn (((do Instr.mapUpdate t x ix vx; pure Next.skip) : Sem Next).run P w) := by
  obtain ⟨b, ms, clock, h1, h2, ⟨h3, hst⟩, h4⟩ := map_readI hi hσ
  cases hix
  cases hx with
  | mp hb =>
    rw [h1] at hb
    obtain rfl := Option.some.inj hb
    have getS : ∀ (l : List (Int × AV)) (j : Nat) (p : Int × AV), l[j]? = some p → (ikvs l).getD j (.any, .any) = (.sc (.int .i64 p.1), p.2) := by
      intro l j p hp
      simp [ikvs, hp]
    have hsl : ∀ l, (ikvs l).length = l.length := by intro l; simp [ikvs]
    rcases findNow_int k v kvs ms.toList 0 (by simpa using h3) (fun j m hm => let ⟨p, a, b, _⟩ := h4 j m hm; ⟨p, a, b⟩) with ⟨g1, g2, g6⟩ | ⟨j, p, m, g1, g2, g3, g4, g5, g6⟩
    · have hrun : (Instr.mapUpdate t (.map (some b)) (.int .i64 k) vx).run P w = .ok () { w with heap := w.heap.setIfInBounds b (.map (ms.push { key := .int .i64 k, val := vx, born := clock }) (clock + 1)) } := by
        simp only [Instr.mapUpdate, Sem.run_bind, run_underlying hm, Result.andThen_ok, MapKept.run_getObj_map h2, Sem.run_pure, run_checkKey_int hk, run_findKey_int hk g2, MapKept.run_setObj_map _ h2]
      rw [g6] at h
      refine Out.unit hrun (.refl G) (hi.setMap h1 h2 _ _ (ikvs (kvs ++ [(k, v)])) (by simp [hsl, h3]) (stampB_push hst) (grow_push ms clock _ rfl) (fun i hi' => ?_)) (.any _) h
      rw [hsl] at hi'
      simp at hi'
      by_cases hlt : i < kvs.length
      · have hmi : i < ms.size := by omega
        obtain ⟨p, q1, q2, q3⟩ := h4 i ms[i] (by simp [hmi])
        refine ⟨ms[i], by simp [Array.getElem?_push, hmi]; omega, ?_⟩
        rw [getS _ i p (by rw [List.getElem?_append_left hlt]; exact q1), q2]
        exact ⟨.sc _, q3⟩
      · have he : i = kvs.length := by omega
        subst he
        refine ⟨{ key := .int .i64 k, val := vx, born := clock }, by rw [← h3]; simp, ?_⟩
        rw [getS _ kvs.length (k, v) (by simp)]
        exact ⟨.sc _, hv⟩
    · have hjm : j < ms.size := by
        have := (List.getElem?_eq_some_iff.1 g2).1
        simpa using this
      have hold : ms[j]? = some m := by rw [← Array.getElem?_toList]; exact g2
      obtain ⟨p', q1, q2, q3⟩ := h4 j m g2
      rw [g1] at q1
      obtain rfl := Option.some.inj q1
      have hkey : (Instr.keyThatStays m.key (.int .i64 k)).run P w = .ok (.int .i64 k) w := by
        have : ∀ q : Nat, Instr.sameBits q (.int .i64 k) (.int .i64 k) = true := fun q => by simp [Instr.sameBits, bi_self]
        rw [q2, g3]
        simp [Instr.keyThatStays, this]
      have hrun : (Instr.mapUpdate t (.map (some b)) (.int .i64 k) vx).run P w = .ok () { w with heap := w.heap.setIfInBounds b (.map (ms.modify j fun e => { e with key := .int .i64 k, val := vx }) clock) } := by
        simp only [Instr.mapUpdate, Sem.run_bind, run_underlying hm, Result.andThen_ok, MapKept.run_getObj_map h2, Sem.run_pure, run_checkKey_int hk, run_findKey_int hk g5, Nat.zero_add, hold, Option.map_some, Option.getD_some, hkey, MapKept.run_setObj_map _ h2]
      rw [g6] at h
      refine Out.unit hrun (.refl G) (hi.setMap h1 h2 _ _ (ikvs (kvs.set j (k, v))) (by simp [hsl, h3]) (stampB_modify hst j _ (fun _ => rfl)) (grow_modify ms clock j _ (fun _ => rfl)) (fun i hi' => ?_)) (.any _) h
      rw [hsl] at hi'
      simp at hi'
      have hmi : i < ms.size := by omega
      by_cases hij : i = j
      · subst hij
        refine ⟨{ m with key := .int .i64 k, val := vx }, by simp [Array.getElem?_modify, hold], ?_⟩
        rw [getS _ i (k, v) (by simp [List.getElem?_set, hi'])]
        exact ⟨.sc _, hv⟩
      · obtain ⟨p2, r1, r2, r3⟩ := h4 i ms[i] (by simp [hmi])
        refine ⟨ms[i], by rw [Array.getElem?_modify, if_neg (fun e => hij e.symm)]; exact Array.getElem?_eq_getElem hmi, ?_⟩
        rw [getS _ i p2 (by rw [List.getElem?_set_ne (fun e => hij e.symm)]; exact r1), r2]
        exact ⟨.sc _, r3⟩
end Go.AW

set_option linter.unusedSimpArgs false
set_option linter.unusedVariables false
namespace Go.AW
open Go Go.RowKit
variable {P : Program} {n : Nat} {ds : List Deferred} {Q : AQ} {s : Fr} {σ : AS}
/-! ## what is put off to a function's end, and what takes a panic back -/
theorem upon_Q {o : Oper} {a : Act} {next : Act → World → Prop} {T T' : Exit → Act → World → Prop} {r : Result Next} (hT : ∀ e a w, T e a w → T' e a w) (hh : o.upon P a next T r) : o.upon P a next T' r := by
  cases r with
  | ok nx w' =>
    cases nx <;> simp only [Oper.upon] at hh ⊢ <;>
      first
        | exact hh
        | exact Calls.mono hh (fun e w'' he => by
            cases e <;> first
              | exact he
              | exact hT _ _ _ he
              | (obtain ⟨a0, w0, h0⟩ := he; exact ⟨a0, w0, hT _ _ _ h0⟩))
  | halt x w' => cases x <;> simp only [Oper.upon] at hh ⊢ <;> first | exact hT _ _ _ hh | exact hh
theorem LQ.ne {K : Fr → AS → Prop} {G : Gh} {e : Exit} {a : Act} {w : World} (he : e ≠ .normal) (h : LQ P n ds (thenQ K Q) G e a w) : LQ P n ds Q G e a w := by
  cases e with
  | normal => exact absurd rfl he
  | panic ch =>
    match ch, h with
    | [x], h => exact h
    | [], h => exact h.elim
    | _ :: _ :: _, h => exact h.elim
  | exit i => exact h
  | ret => exact h
  | goto i => exact h.elim
  | outgrown => exact h.elim
theorem sOps_S {ops : Array Oper} {G0 : Gh} {cs : List Frame} {QS : Exit → Act → List Frame → World → Prop} (hQ : ∀ e a w, LQ P n ds Q G0 e a w → QS e a cs w) :
    ∀ (r : List Oper) (k : Nat), (∀ j, r[j]? = ops[k + j]?) → ∀ (G : Gh) (s : Fr) (σ : AS) (a : Act) (w : World), sOps P n ds ops Q r s σ → G0.Le G → Sim P G n ds s σ a w →
      wpOpsS P ops QS (List.range' k r.length) a cs w := by
  intro r
  induction r with
  | nil => intro k _ G s σ a w h hle hs; exact hQ _ _ _ ⟨G, s, σ, hle, hs, h⟩
  | cons o r ih =>
    intro k hk G s σ a w h hle hs
    have h0 : ops[k]? = some o := by simpa using (hk 0).symm
    have hk' : ∀ j, r[j]? = ops[k + 1 + j]? := fun j => by have := hk (j + 1); simpa [Nat.add_assoc, Nat.add_comm 1 j] using this
    rw [List.length_cons, List.range'_succ]
    simp only [wpOpsS, h0]
    have conv : ∀ next : Act → World → Prop, (∀ a w, next a w → wpOpsS P ops QS (List.range' (k + 1) r.length) a cs w) → o.wp P a w next (LQ P n ds Q G0) →
        (match (execOp a.eval o).run P w with
        | .ok .recover w' =>
          match recoverD cs with
          | some (v, cs') => wpOpsS P ops QS (List.range' (k + 1) r.length) (a.put o.dst v) cs' w'
          | none => wpOpsS P ops QS (List.range' (k + 1) r.length) (a.put o.dst .nilIface) cs w'
        | r' => o.upon P a (fun a' w' => wpOpsS P ops QS (List.range' (k + 1) r.length) a' cs w') (fun e a' w' => QS e a' cs w') r') := by
      intro next hn hw
      unfold Oper.wp at hw
      have hw' := upon_mono hn (upon_Q hQ hw)
      generalize (execOp a.eval o).run P w = r' at hw'
      cases r' with
      | ok nx w' => cases nx <;> first | exact hw' | (simp only [Oper.upon] at hw'; done)
      | halt x w' => exact hw'
    rcases h with ⟨hg, h⟩ | h
    · have hw : Region.wanted o (yielded ops a.tmps) = true := by simp [Region.wanted, hg]
      rw [if_pos hw]
      exact conv _ (fun _ _ h => h) (h G0 G a w hle hs _ (fun G' s' σ' a' w' h1 h2 h3 => ih (k + 1) hk' G' s' σ' a' w' h3 h1 h2))
    · have := guardOp_ok o h hle hs (next := fun a' w' => wpOpsS P ops QS (List.range' (k + 1) r.length) a' cs w') (fun G' s' σ' a' w' h1 h2 h3 => ih (k + 1) hk' G' s' σ' a' w' h3 h1 h2)
      by_cases hw : Region.wanted o (yielded ops a.tmps) = true
      · rw [if_pos hw] at this ⊢; exact conv _ (fun _ _ h => h) this
      · rw [if_neg hw] at this ⊢; exact this
def DCalls (P : Program) (f : FuncId) (caps : List AV) (σ : AS) (pv : Option AV) (K : AS → Prop) : Prop :=
  ∀ (G : Gh) (w : World) (vals : Array Value) (u : FrameMode), Inv P G σ w → RepL P G caps vals →
    (match pv with | none => u = .returning | some a => ∃ e : PanicEntry, e.recovered = false ∧ e.goexit = false ∧ Rep P G a e.v ∧ u = .panicking [e]) →
    CallsD P f vals u w fun e u' w' => (∃ x, e = .returned x) ∧ settle u' = .returning ∧ ∃ G' σ', G.Le G' ∧ Inv P G' σ' w' ∧ K σ'
def endQ (K : AS → Prop) : AQ
  | .normal, _, σ => K σ
  | .ret, _, σ => K σ
  | _, _, _ => False
@[simp] theorem endQ_n (K : AS → Prop) (s : Fr) (σ : AS) : endQ K .normal s σ = K σ := rfl
@[simp] theorem endQ_r (K : AS → Prop) (s : Fr) (σ : AS) : endQ K .ret s σ = K σ := rfl
def recV (pv : Option AV) : AV := pv.getD (.sc .nilIface)
theorem DCalls.of {f : FuncId} {fn : Func} {d id : Nat} {l : List Oper} {y : Code} {ats : Array TypeId} {ty : TypeId} {pos : String} {af : Array Edge} {caps : List AV} {pv : Option AV} {K : AS → Prop}
    (hf : P.funcs[f]? = some fn) (hb : fn.body = some (.seq (.region id ((⟨some d, .call ⟨.builtin .recover, #[], ats⟩, ty, pos, af, none⟩ : Oper) :: l).toArray false) y)) (hres : fn.results.toList = []) (ha : caps.length ≤ fn.ntmps) (hd : d < fn.ntmps)
    (h : sOps P fn.ntmps [] ((⟨some d, .call ⟨.builtin .recover, #[], ats⟩, ty, pos, af, none⟩ : Oper) :: l).toArray (thenQ (AWp P fn.ntmps [] y (endQ K)) (endQ K)) l ((frOf caps).put (some d) (recV pv)) σ) : DCalls P f caps σ pv K := by
  intro G w vals u hi hr hu
  refine callsD_of_wpS hf hb fun c₀ cs hc => wpS_seq (wpS_region ?_)
  have hsim : Sim P G fn.ntmps [] (frOf caps) σ { tmps := vals ++ Array.replicate (fn.ntmps - vals.size) undef, defers := [] } w := by
    refine ⟨hi, by simp [hr.1]; omega, rfl, fun i => ?_⟩
    by_cases hlt : i < caps.length
    · have e1 : (vals ++ Array.replicate (fn.ntmps - vals.size) undef).getD i undef = vals.getD i undef := by
        rw [Array.getD_eq_getD_getElem?, Array.getElem?_append_left (by rw [hr.1]; exact hlt), ← Array.getD_eq_getD_getElem?]
      simp only [e1]
      exact hr.2 i hlt
    · have : frOf caps i = .any := by simp [frOf, List.getD_eq_getElem?_getD, List.getElem?_eq_none (Nat.le_of_not_lt hlt)]
      rw [this]
      exact .any _
  generalize ({ tmps := vals ++ Array.replicate (fn.ntmps - vals.size) undef, defers := [] } : Act) = a at hsim ⊢
  -- where the rest of it goes, by the mode that is left
  have rest : ∀ (u' : FrameMode) (v : Value), settle u' = .returning → Rep P G (recV pv) v →
      wpOpsS P ((⟨some d, .call ⟨.builtin .recover, #[], ats⟩, ty, pos, af, none⟩ : Oper) :: l).toArray
        (Exit.thenS (y.wpS P (bodyPostS P fn c₀ cs fun e u' w' => (∃ x, e = .returned x) ∧ settle u' = .returning ∧ ∃ G' σ', G.Le G' ∧ Inv P G' σ' w' ∧ K σ')) (bodyPostS P fn c₀ cs fun e u' w' => (∃ x, e = .returned x) ∧ settle u' = .returning ∧ ∃ G' σ', G.Le G' ∧ Inv P G' σ' w' ∧ K σ'))
        (List.range' 1 l.length) (a.put (some d) v) ({ c₀ with mode := u' } :: cs) w := by
    intro u' v hu' hv
    have fin : ∀ (e : Exit) (a' : Act) (w' : World), LQ P fn.ntmps [] (endQ K) G e a' w' →
        bodyPostS P fn c₀ cs (fun e u' w' => (∃ x, e = .returned x) ∧ settle u' = .returning ∧ ∃ G' σ', G.Le G' ∧ Inv P G' σ' w' ∧ K σ') e a' ({ c₀ with mode := u' } :: cs) w' := by
      intro e a' w' hq
      have done : ∀ (G' : Gh) (s' : Fr) (σ' : AS), G.Le G' → Sim P G' fn.ntmps [] s' σ' a' w' → K σ' →
          a'.defers = [] ∧ ∃ u'', ({ c₀ with mode := u' } :: cs : List Frame) = { c₀ with mode := u'' } :: cs ∧ ∃ v, (results fn a'.tmps).run P w' = .ok v w' ∧ ((∃ x, Ending.returned v = .returned x) ∧ settle u'' = .returning ∧ ∃ G' σ', G.Le G' ∧ Inv P G' σ' w' ∧ K σ') := by
        intro G' s' σ' g1 g2 g3
        obtain ⟨v, vs, k1, _, _⟩ := results_fn g2 fn (fun _ => True) (by rw [hres]; trivial)
        exact ⟨g2.ds, u', rfl, v, k1, ⟨v, rfl⟩, hu', G', σ', g1, g2.inv, g3⟩
      unfold LQ at hq
      split at hq
      · obtain ⟨G', s', σ', g1, g2, g3⟩ := hq; exact done G' s' σ' g1 g2 g3
      · obtain ⟨G', s', σ', g1, g2, g3⟩ := hq; exact g3.elim
      · obtain ⟨G', s', σ', g1, g2, g3⟩ := hq; exact done G' s' σ' g1 g2 g3
      · obtain ⟨_, _, G', s', σ', v, g1, g2, g3, g4⟩ := hq; exact g4.elim
      · exact hq.elim
    refine sOps_S (G0 := G) (Q := thenQ (AWp P fn.ntmps [] y (endQ K)) (endQ K)) ?_ l 1 (fun j => by simp [Nat.add_comm 1 j]) G _ σ _ w h (.refl G) (hsim.put (.refl G) hi (some d) (fun t ht => by cases ht; exact hd) hv)
    intro e a' w' hq
    cases e with
    | normal =>
      obtain ⟨G', s', σ', g1, g2, g3⟩ := hq
      exact wpS_of_wp (wp_mono (g3 G G' a' w' g1 g2) fun e a'' w'' hq => fin e a'' w'' hq)
    | exit i => obtain ⟨G', s', σ', g1, g2, g3⟩ := hq; exact g3.elim
    | ret => exact fin _ _ _ (LQ.ne (by simp) hq)
    | panic ch => exact fin _ _ _ (LQ.ne (by simp) hq)
    | goto i => exact hq.elim
    | outgrown => exact hq.elim
  have hsz : ((⟨some d, .call ⟨.builtin .recover, #[], ats⟩, ty, pos, af, none⟩ : Oper) :: l).toArray.size = l.length + 1 := by simp
  rw [hsz, List.range_eq_range', List.range'_succ]
  have h0 : ((⟨some d, .call ⟨.builtin .recover, #[], ats⟩, ty, pos, af, none⟩ : Oper) :: l).toArray[0]? = some ⟨some d, .call ⟨.builtin .recover, #[], ats⟩, ty, pos, af, none⟩ := by simp
  have hrun : (execOp a.eval ⟨some d, .call ⟨.builtin .recover, #[], ats⟩, ty, pos, af, none⟩).run P w = .ok .recover w := by rfl
  have hw : Region.wanted (⟨some d, .call ⟨.builtin .recover, #[], ats⟩, ty, pos, af, none⟩ : Oper) (yielded ((⟨some d, .call ⟨.builtin .recover, #[], ats⟩, ty, pos, af, none⟩ : Oper) :: l).toArray a.tmps) = true := by simp [Region.wanted]
  simp only [wpOpsS, h0, hw, if_true, hrun]
  cases pv with
  | none =>
    simp only at hu
    subst hu
    have hm : recoverD (c₀ :: cs) = none := by simp [recoverD, hc]
    rw [hm]
    have e : c₀ = { c₀ with mode := .returning } := by cases c₀; simp at hc; subst hc; rfl
    have := rest .returning .nilIface rfl (.sc _)
    rw [← e] at this
    exact this
  | some av =>
    obtain ⟨e, e1, e2, e3, rfl⟩ := hu
    obtain ⟨v, rc, ge⟩ := e
    simp only at e1 e2 e3
    subst e1 e2
    have hm : recoverD (c₀ :: cs) = some (v, { c₀ with mode := .panicking [{ v := v, recovered := true }] } :: cs) := by simp [recoverD, hc]
    rw [hm]
    exact rest _ v rfl e3
def AWpD (P : Program) (fn : Func) (c : Code) (R Rp : AV → AS → Prop) (G1 : Gh) (s : Fr) (σ : AS) : Prop :=
  ∀ (G : Gh) (a : Act) (w : World), G1.Le G → Sim P G fn.ntmps [] s σ a w → c.wp P (bodyPostD P fn (EndOk P G1 R Rp)) a w
theorem bodyD_fin {fn : Func} {R Rp : AV → AS → Prop} {G1 : Gh} {e : Exit} {a : Act} {w : World} (h : LQ P fn.ntmps [] (bodyQ P fn.results.toList R Rp) G1 e a w) : bodyPostD P fn (EndOk P G1 R Rp) e a w := by
  have fin : ∀ (s' : Fr) (σ' : AS) (G' : Gh), G1.Le G' → Sim P G' fn.ntmps [] s' σ' a w → (resAV fn.results.toList P s' σ' fun vs => ∃ r' σ'', AV.Wk P (packAV vs) r' ∧ AS.le σ'' σ' ∧ R r' σ'') →
      Leaves P fn a.tmps (EndOk P G1 R Rp) a.defers .returning w := by
    intro s' σ' G' h1 h2 h3
    obtain ⟨v, vs, k1, k2, r', σ'', k3, k4, k5⟩ := results_fn h2 fn _ h3
    rw [h2.ds]
    exact ⟨v, k1, G', σ'', r', h1, h2.inv.weaken k4, k3 _ _ k2, k5⟩
  unfold LQ at h
  split at h
  · obtain ⟨G', s', σ', a1, a2, a3⟩ := h; exact fin s' σ' G' a1 a2 a3
  · obtain ⟨G', s', σ', a1, a2, a3⟩ := h; exact a3.elim
  · obtain ⟨G', s', σ', a1, a2, a3⟩ := h; exact fin s' σ' G' a1 a2 a3
  · obtain ⟨x, y, G', s', σ', v, a1, a2, a3, σ'', a4, a5⟩ := h
    show Leaves P fn a.tmps (EndOk P G1 R Rp) a.defers (.panicking _) w
    rw [a2.ds]
    exact ⟨x, y, G', σ'', v, a1, a2.inv.weaken a4, a3, a5⟩
  · exact h.elim
theorem AWpD.seq {fn : Func} {x y : Code} {R Rp : AV → AS → Prop} {G1 : Gh} (h : AWp P fn.ntmps [] x (thenQ (fun s σ => AWpD P fn y R Rp G1 s σ) (bodyQ P fn.results.toList R Rp)) s σ) : AWpD P fn (.seq x y) R Rp G1 s σ := by
  intro G a w h1 h2
  refine wp_seq (wp_mono (h G1 G a w h1 h2) fun e a' w' hq => ?_)
  cases e with
  | normal => obtain ⟨G', s', σ', g1, g2, g3⟩ := hq; exact g3 G' a' w' g1 g2
  | exit i => obtain ⟨G', s', σ', g1, g2, g3⟩ := hq; exact g3.elim
  | ret => exact bodyD_fin (LQ.ne (by simp) hq)
  | panic ch => exact bodyD_fin (LQ.ne (by simp) hq)
  | goto i => exact hq.elim
  | outgrown => exact hq.elim
def bodyQD (P : Program) (rs : List ResultVar) (f : FuncId) (caps : List AV) (R Rp : AV → AS → Prop) : AQ
  | .normal, s, σ => DCalls P f caps σ none fun σ' => resAV rs P s σ' fun vs => Ends P R σ' (packAV vs)
  | .ret, s, σ => DCalls P f caps σ none fun σ' => resAV rs P s σ' fun vs => Ends P R σ' (packAV vs)
  | .panic v, s, σ => DCalls P f caps σ (some v) fun σ' => resAV rs P s σ' fun vs => Ends P R σ' (packAV vs)
  | _, _, _ => False
@[simp] theorem bodyQD_r (rs : List ResultVar) (f : FuncId) (caps : List AV) (R Rp : AV → AS → Prop) (s : Fr) (σ : AS) : bodyQD P rs f caps R Rp .ret s σ = DCalls P f caps σ none fun σ' => resAV rs P s σ' fun vs => Ends P R σ' (packAV vs) := rfl
@[simp] theorem bodyQD_n (rs : List ResultVar) (f : FuncId) (caps : List AV) (R Rp : AV → AS → Prop) (s : Fr) (σ : AS) : bodyQD P rs f caps R Rp .normal s σ = DCalls P f caps σ none fun σ' => resAV rs P s σ' fun vs => Ends P R σ' (packAV vs) := rfl
@[simp] theorem bodyQD_p (rs : List ResultVar) (f : FuncId) (caps : List AV) (R Rp : AV → AS → Prop) (v : AV) (s : Fr) (σ : AS) : bodyQD P rs f caps R Rp (.panic v) s σ = DCalls P f caps σ (some v) fun σ' => resAV rs P s σ' fun vs => Ends P R σ' (packAV vs) := rfl
theorem AWpD.defer {fn : Func} {id d f : Nat} {caps : Array Operand} {rest : Code} {R Rp : AV → AS → Prop} {G1 : Gh} {ty1 ty2 : TypeId} {p1 p2 : String} {a1 a2 : Array Edge} {ats : Array TypeId}
    (hd : d < fn.ntmps) (hbody : hasBody P f = true)
    (h : ∀ D, AWp P fn.ntmps [D] rest (bodyQD P fn.results.toList f (caps.toList.map (ev s)) R Rp) (s.put (some d) (.fn (.func f) [] (caps.toList.map (ev s)))) σ) :
    AWpD P fn (.seq (.region id [(⟨some d, .makeFunc (.func f) #[] caps, ty1, p1, a1, none⟩ : Oper), ⟨none, .defer ⟨.value (.tmp d), #[], ats⟩, ty2, p2, a2, none⟩].toArray false) rest) R Rp G1 s σ := by
  intro G a w h1 hs
  refine wp_seq (wp_region_lit ?_)
  have hw1 : Region.wanted (⟨some d, .makeFunc (.func f) #[] caps, ty1, p1, a1, none⟩ : Oper) (yielded [(⟨some d, .makeFunc (.func f) #[] caps, ty1, p1, a1, none⟩ : Oper), ⟨none, .defer ⟨.value (.tmp d), #[], ats⟩, ty2, p2, a2, none⟩].toArray a.tmps) = true := by simp [Region.wanted]
  unfold wpList
  rw [if_pos hw1]
  refine .inl ?_
  have hr1 : (execOp a.eval ⟨some d, .makeFunc (.func f) #[] caps, ty1, p1, a1, none⟩).run P w = .ok (.value (.func (.func f) #[] (caps.map a.eval))) w := by simp [execOp, Instr.makeFunc]
  show Oper.upon P _ a _ _ ((execOp a.eval ⟨some d, .makeFunc (.func f) #[] caps, ty1, p1, a1, none⟩).run P w)
  rw [hr1, Oper.upon_value]
  have hcaps : RepL P G (caps.toList.map (ev s)) (caps.map a.eval) := ⟨by simp, fun i hi => by
    simp at hi
    simp [List.getD_eq_getElem?_getD, hi]
    exact hs.ev _⟩
  have hfn : Rep P G (.fn (.func f) [] (caps.toList.map (ev s))) (.func (.func f) #[] (caps.map a.eval)) := by
    have := Rep.fn (P := P) (G := G) (f := .func f) (first := []) (captured := caps.toList.map (ev s)) [] (caps.map a.eval).toList rfl (by simp) (fun i hi => by simp at hi) (fun i hi => by
      have h1 := hcaps.2 i hi
      have e : (caps.map a.eval).toList.getD i undef = (caps.map a.eval).getD i undef := by simp [List.getD_eq_getElem?_getD]
      rw [e]
      exact h1)
    rw [Array.toArray_toList] at this
    exact this
  have hs1 := hs.put (.refl G) hs.inv (some d) (fun t ht => by cases ht; exact hd) hfn
  unfold wpList
  have hev : (a.put (some d) (.func (.func f) #[] (caps.map a.eval))).eval (.tmp d) = .func (.func f) #[] (caps.map a.eval) := by
    have hdl : d < a.tmps.size := by rw [hs.size]; exact hd
    simp [Act.put, Act.eval, hdl]
  have hw2 : Region.wanted (⟨none, .defer ⟨.value (.tmp d), #[], ats⟩, ty2, p2, a2, none⟩ : Oper) (yielded [(⟨some d, .makeFunc (.func f) #[] caps, ty1, p1, a1, none⟩ : Oper), ⟨none, .defer ⟨.value (.tmp d), #[], ats⟩, ty2, p2, a2, none⟩].toArray (a.put (some d) (.func (.func f) #[] (caps.map a.eval))).tmps) = true := by simp [Region.wanted]
  rw [if_pos hw2]
  refine .inl ?_
  have hr2 : (execOp (a.put (some d) (.func (.func f) #[] (caps.map a.eval))).eval ⟨none, .defer ⟨.value (.tmp d), #[], ats⟩, ty2, p2, a2, none⟩).run P w = .ok (.defer { target := .fn (.func f) (caps.map a.eval), args := #[] }) w := by
    simp only [execOp, resolve, hev, Deferred.ofValue]
    simp
  show Oper.upon P _ _ _ _ ((execOp (a.put (some d) (.func (.func f) #[] (caps.map a.eval))).eval ⟨none, .defer ⟨.value (.tmp d), #[], ats⟩, ty2, p2, a2, none⟩).run P w)
  rw [hr2, Oper.upon_defer]
  generalize hD : ({ target := .fn (.func f) (caps.map a.eval), args := #[] } : Deferred) = D
  have hds : (a.put (some d) (.func (.func f) #[] (caps.map a.eval))).defers = [] := hs1.ds
  have hs2 : Sim P G fn.ntmps [D] (s.put (some d) (.fn (.func f) [] (caps.toList.map (ev s)))) σ ({ a.put (some d) (.func (.func f) #[] (caps.map a.eval)) with defers := D :: (a.put (some d) (.func (.func f) #[] (caps.map a.eval))).defers }.put none undef) w :=
    ⟨hs1.inv, hs1.size, by show D :: _ = [D]; rw [hds], hs1.rep⟩
  show (Exit.then _ _) .normal _ w
  refine wp_mono (h D G G _ w (.refl G) hs2) fun e a' w' hq => ?_
  have inv : (invoke (.fn (.func f) (caps.map a.eval)) #[]).run P w' = .ok (.enter f (caps.map a.eval)) w' := by
    have := hasBody_run (w := w') hbody (caps.map a.eval)
    simpa [invoke] using this
  have fin : ∀ (u : FrameMode) (G' : Gh) (s' : Fr) (σ' : AS) (pv : Option AV), G.Le G' → Sim P G' fn.ntmps [D] s' σ' a' w' → u ≠ .run →
      (match pv with | none => u = .returning | some a => ∃ e : PanicEntry, e.recovered = false ∧ e.goexit = false ∧ Rep P G' a e.v ∧ u = .panicking [e]) →
      (DCalls P f (caps.toList.map (ev s)) σ' pv fun σ' => resAV fn.results.toList P s' σ' fun vs => Ends P R σ' (packAV vs)) →
      Leaves P fn a'.tmps (EndOk P G1 R Rp) a'.defers u w' := by
    intro u G' s' σ' pv g1 g2 hu hpv hd
    rw [g2.ds, ← hD]
    refine leaves_cons hu inv ((hd G' w' _ u g2.inv ⟨hcaps.1, fun i hi => (hcaps.2 i hi).mono g1⟩ hpv).mono fun e u' w'' hq => ?_)
    obtain ⟨⟨x, rfl⟩, hset, G'', σ'', k1, k2, k3⟩ := hq
    show Leaves P fn a'.tmps (EndOk P G1 R Rp) [] (settle u') w''
    rw [hset]
    have g3 : Sim P G'' fn.ntmps [D] s' σ'' a' w'' := ⟨k2, g2.size, g2.ds, fun i => (g2.rep i).mono k1⟩
    obtain ⟨v, vs, m1, m2, r', σ3, m3, m4, m5⟩ := results_fn g3 fn _ k3
    exact ⟨v, m1, G'', σ3, r', h1.trans (g1.trans k1), k2.weaken m4, m3 _ _ m2, m5⟩
  unfold LQ at hq
  split at hq
  · obtain ⟨G', s', σ', g1, g2, g3⟩ := hq; exact fin .returning G' s' σ' none g1 g2 (by simp) rfl g3
  · obtain ⟨G', s', σ', g1, g2, g3⟩ := hq; exact g3.elim
  · obtain ⟨G', s', σ', g1, g2, g3⟩ := hq; exact fin .returning G' s' σ' none g1 g2 (by simp) rfl g3
  · obtain ⟨x1, x2, G', s', σ', v, g1, g2, g3, g4⟩ := hq
    exact fin _ G' s' σ' (some v) g1 g2 (by simp) ⟨_, x1, x2, g3, rfl⟩ g4
  · exact hq.elim
theorem ACalls.of_bodyD {f : FuncId} {fn : Func} {c : Code} {args : List AV} {R Rp : AV → AS → Prop} (hf : P.funcs[f]? = some fn) (hb : fn.body = some c) (hn : (fn.name == "runtime.NumGoroutine") = false)
    (ha : args.length ≤ fn.ntmps) (h : ∀ G1, AWpD P fn c R Rp G1 (frOf args) σ) : ACalls P f args σ R Rp := by
  refine ⟨by simp [hasBody, hf, hb, hn], fun G w vals hi hr => calls_of_wp_defers hf hb ?_⟩
  have hsim : Sim P G fn.ntmps [] (frOf args) σ { tmps := vals ++ Array.replicate (fn.ntmps - vals.size) undef, defers := [] } w := by
    refine ⟨hi, by simp [hr.1]; omega, rfl, fun i => ?_⟩
    by_cases hlt : i < args.length
    · have e1 : (vals ++ Array.replicate (fn.ntmps - vals.size) undef).getD i undef = vals.getD i undef := by
        rw [Array.getD_eq_getD_getElem?, Array.getElem?_append_left (by rw [hr.1]; exact hlt), ← Array.getD_eq_getD_getElem?]
      simp only [e1]
      exact hr.2 i hlt
    · have : frOf args i = .any := by simp [frOf, List.getD_eq_getElem?_getD, List.getElem?_eq_none (Nat.le_of_not_lt hlt)]
      rw [this]
      exact .any _
  exact h G G _ w (.refl G) hsim
end Go.AW
