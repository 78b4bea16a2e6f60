/- A layer of abstract values over the model's machine: own work for this claim, part AwLink. -/
import Derived.Test.YtknalmoackcpbaaGreatAwMut
import Derived.ProofKit
import Derived.OpenShut
import Derived.Carry
import Derived.Deep.Slices
import Derived.Deep.DeepHandedRow
set_option linter.unusedSimpArgs false
set_option linter.unusedVariables false
namespace Go.AW
open Go Go.RowKit Go.Deep
/-! ## what an argument is, by its type -/
def isAgg (P : Program) (t : TypeId) : Bool := match P.underlying t with | some (.struct _) => true | _ => false
def pkV (P : Program) (t : TypeId) (cs : List AV) : AV := if isAgg P t then .agg cs else cs.headD .any
def ArgC (P : Program) : Nat → TypeId → List AV → Prop
  | 0, _, _ => False
  | k + 1, t, cs => match P.underlying t with
    | some .bool => ∃ b, cs = [.sc (.bool b)]
    | some (.int ik) => ∃ n, cs = [.sc (.int ik n)] ∧ (Lit.int ik n).wf = true
    | some .string => ∃ s : ByteArray, cs = [.sc (.string s)] ∧ s.size ≤ reachBytes
    | some (.pointer e) => cs = [.sc (.pointer none)] ∨ ∃ cs', cs = [.cptr cs'] ∧ cs'.length = P.cellsOf e ∧ ArgC P k e cs'
    | some (.slice e) => cs = [.lst e [] .unk true] ∨ ∃ es : List (List AV), cs = [.lst e (es.map (pkV P e)) .unk false] ∧ es.length * P.bytesOf e ≤ reachBytes ∧ ∀ c ∈ es, ArgC P k e c
    | some (.struct fs) => cs.length = P.cellsOf t ∧ ∀ f ∈ fs.toList, ArgC P k f.type ((cs.drop f.offset).take (P.cellsOf f.type))
    | _ => False
def tiled (P : Program) : List Field → Nat → Nat → Bool
  | [], o, n => o == n
  | f :: r, o, n => f.offset == o && tiled P r (o + P.cellsOf f.type) n
def served (P : Program) : Nat → TypeId → Bool
  | 0, _ => false
  | k + 1, t => match P.underlying t with
    | some .bool | some (.int _) | some .string => P.cellsOf t == 1
    | some (.pointer e) | some (.slice e) => P.cellsOf t == 1 && P.cellsOf e != 0 && served P k e
    | some (.struct fs) => tiled P fs.toList 0 (P.cellsOf t) && fs.toList.all fun f => served P k f.type
    | _ => false
def ghOf (W : World) : Gh where
  W0 := W
  B := W.heap.size
  mem b o := match W.cell? ⟨b, o, none⟩ with | some v => if v.oneCell' then some v else none | none => none
  inj _ := none
  own _ := none
  top := 0
def noAS : AS := fun _ => none
theorem inv_ghOf (P : Program) (W : World) : Inv P (ghOf W) noAS W where
  below := Below.refl _ _
  base := Nat.le_refl _
  mem b o v h := by
    simp only [ghOf] at h
    split at h
    · rename_i x hx
      split at h
      · rename_i h1; cases h; exact ⟨hx, h1⟩
      · cases h
    · cases h
  top i _ := ⟨rfl, rfl⟩
  injB i b h := by cases h
  inj1 i j b h := by cases h
  cells i ty cs h := by cases h
  maps i es h := by cases h
  iters i s p h := by cases h
  tok i n h := by cases h
  own t r h := by cases h
theorem ghOf_mem {W : World} {b o : Nat} {v : Value} (h : W.cell? ⟨b, o, none⟩ = some v) (h1 : v.oneCell' = true) : (ghOf W).mem b o = some v := by
  simp [ghOf, h, h1]
def RepC (P : Program) (G : Gh) (cs : List AV) (vs : List Value) : Prop := cs.length = vs.length ∧ ∀ i, i < cs.length → Rep P G (cs.getD i .any) (vs.getD i undef) ∧ (vs.getD i undef).oneCell' = true
theorem RepC.one {P : Program} {G : Gh} {c : AV} {v : Value} (h : Rep P G c v) (h1 : v.oneCell' = true) : RepC P G [c] [v] := by
  refine ⟨rfl, fun i hi => ?_⟩
  have : i = 0 := by simpa using hi
  subst this
  exact ⟨h, h1⟩
theorem ArgC.len {P : Program} {k : Nat} {t : TypeId} {cs : List AV} (hs : served P k t = true) (h : ArgC P k t cs) : cs.length = P.cellsOf t := by
  cases k with
  | zero => simp [served] at hs
  | succ k =>
    simp only [served] at hs
    simp only [ArgC] at h
    split at hs <;> rename_i hu <;> simp only [hu] at h
    · obtain ⟨b, rfl⟩ := h; rw [beq_iff_eq.1 hs]; rfl
    · obtain ⟨b, rfl, _⟩ := h; rw [beq_iff_eq.1 hs]; rfl
    · obtain ⟨b, rfl, _⟩ := h; rw [beq_iff_eq.1 hs]; rfl
    · simp only [Bool.and_eq_true, beq_iff_eq] at hs
      rcases h with rfl | ⟨_, rfl, _⟩ <;> simp [hs.1.1]
    · simp only [Bool.and_eq_true, beq_iff_eq] at hs
      rcases h with rfl | ⟨_, rfl, _⟩ <;> simp [hs.1.1]
    · exact h.1
theorem fields_read {P : Program} {G : Gh} {k : Nat} {cs : List Value} (n : Nat) (hn : cs.length = n) : ∀ (fs : List Field) (o : Nat), tiled P fs o n = true → o ≤ n →
    (∀ f ∈ fs, ∃ c, ArgC P k f.type c ∧ c.length = P.cellsOf f.type ∧ RepC P G c ((cs.drop f.offset).take (P.cellsOf f.type))) →
    ∃ av : List AV, RepC P G av (cs.drop o) ∧ ∀ f ∈ fs, o ≤ f.offset ∧ ArgC P k f.type ((av.drop (f.offset - o)).take (P.cellsOf f.type)) := by
  intro fs
  induction fs with
  | nil =>
    intro o h ho _
    simp only [tiled, beq_iff_eq] at h
    subst h
    refine ⟨[], ⟨by simp; omega, by simp⟩, by simp⟩
  | cons f r ih =>
    intro o h ho hf
    simp only [tiled, Bool.and_eq_true, beq_iff_eq] at h
    obtain ⟨h1, h2⟩ := h
    subst h1
    obtain ⟨c, c1, c2, c3⟩ := hf f (by simp)
    have hle : f.offset + P.cellsOf f.type ≤ n := by
      have e := c3.1
      rw [c2, List.length_take, List.length_drop, hn] at e
      omega
    obtain ⟨av, a1, a2⟩ := ih _ h2 hle (fun g hg => hf g (by simp [hg]))
    have hcl : c.length = ((cs.drop f.offset).take (P.cellsOf f.type)).length := c3.1
    have hsplit : cs.drop f.offset = (cs.drop f.offset).take (P.cellsOf f.type) ++ cs.drop (f.offset + P.cellsOf f.type) := by
      rw [← List.drop_drop, List.take_append_drop]
    refine ⟨c ++ av, ⟨?_, fun i hi => ?_⟩, fun g hg => ?_⟩
    · rw [hsplit, List.length_append, List.length_append, hcl, a1.1]
    · rw [hsplit]
      simp only [List.getD_eq_getElem?_getD]
      by_cases hic : i < c.length
      · rw [List.getElem?_append_left hic, List.getElem?_append_left (by omega)]
        simpa [List.getD_eq_getElem?_getD] using c3.2 i hic
      · rw [List.getElem?_append_right (by omega), List.getElem?_append_right (by omega), ← hcl]
        simpa [List.getD_eq_getElem?_getD] using a1.2 (i - c.length) (by simp at hi; omega)
    · rcases List.mem_cons.1 hg with rfl | hg
      · refine ⟨Nat.le_refl _, ?_⟩
        simp [c2.symm ▸ List.take_left' rfl, List.take_append, c2]
        exact c1
      · obtain ⟨b1, b2⟩ := a2 g hg
        refine ⟨by omega, ?_⟩
        rw [List.drop_append, List.drop_of_length_le (by omega), List.nil_append, c2]
        rw [show g.offset - f.offset - P.cellsOf f.type = g.offset - (f.offset + P.cellsOf f.type) by omega]
        exact b2
variable {H : Type} {enc : TypeId × Value → H} {P : Program}
theorem RepC.pk {G : Gh} {t : TypeId} {c : List AV} {vs : List Value} (h : RepC P G c vs) (hc : isAgg P t = false → c.length = 1) : (pkV P t c).cells = c := by
  unfold pkV
  split
  · rfl
  · rename_i ha
    have := hc (by simpa using ha)
    match c, this with
    | [x], _ =>
      have h0 := h.2 0 (by simp)
      have e : vs.getD 0 undef = vs.getD 0 undef := rfl
      simp only [List.getD_cons_zero] at h0
      show x.cells = [x]
      obtain ⟨h1, h2⟩ := h0
      generalize vs.getD 0 undef = v at h1 h2
      cases h1 <;> first | rfl | (simp [Value.oneCell'] at h2)
theorem served_one {k : Nat} {t : TypeId} (hs : served P k t = true) (ha : isAgg P t = false) : P.cellsOf t = 1 := by
  cases k with
  | zero => simp [served] at hs
  | succ k =>
    simp only [served] at hs
    unfold isAgg at ha
    split at hs <;> simp_all
theorem weightsAll_mem {e : TypeId} {l : List (DataW H)} {d : DataW H} {n : Nat} (hd : d ∈ l) (hn : n ∈ d.weights P e) : n ∈ DataW.weightsAll P e l := by
  induction l with
  | nil => cases hd
  | cons x r ih =>
    simp only [DataW.weightsAll, List.mem_append]
    rcases List.mem_cons.1 hd with rfl | h
    · exact .inl hn
    · exact .inr (ih h)
theorem weightsEach_mem {n : Nat} : ∀ {ts : List TypeId} {l : List (DataW H)} {i : Nat} {t : TypeId} {d : DataW H}, ts[i]? = some t → l[i]? = some d → n ∈ d.weights P t → n ∈ DataW.weightsEach P ts l
  | [], _, i, _, _, h, _, _ => by simp at h
  | _ :: _, [], i, _, _, _, h, _ => by simp at h
  | u :: ts, x :: l, i, t, d, h1, h2, hn => by
    simp only [DataW.weightsEach, List.mem_append]
    cases i with
    | zero => simp at h1 h2; subst h1 h2; exact .inl hn
    | succ i => exact .inr (weightsEach_mem (by simpa using h1) (by simpa using h2) hn)
theorem read_arg {W : World} {base : Nat} {spare : Nat → Bool} {held : Bool} : ∀ (k : Nat) (t : TypeId) (fuel : Nat) (vs : List Value) (x : DataW H × List MemPlace),
    served P k t = true → (∀ n ∈ x.1.weights P t, n ≤ reachBytes) → DataW.trod enc P W base spare held fuel t vs = some x → ∃ cs, ArgC P k t cs ∧ cs.length = P.cellsOf t ∧ RepC P (ghOf W) cs vs := by
  intro k
  induction k with
  | zero => intro t fuel vs x hs; simp [served] at hs
  | succ k ih =>
    intro t fuel vs x hs hwt h
    suffices ∃ cs, ArgC P (k + 1) t cs ∧ RepC P (ghOf W) cs vs by
      obtain ⟨cs, c1, c2⟩ := this
      exact ⟨cs, c1, c1.len hs, c2⟩
    have hs0 := hs
    simp only [served] at hs
    split at hs
    · rename_i hu
      obtain ⟨b, rfl, _⟩ := DataW.trod_bool hu h
      exact ⟨[.sc (.bool b)], by simp [ArgC, hu], RepC.one (.sc _) rfl⟩
    · rename_i ik hu
      obtain ⟨n, rfl, _, hw⟩ := DataW.trod_int hu h
      exact ⟨[.sc (.int ik n)], by simp [ArgC, hu, hw], RepC.one (.sc _) rfl⟩
    · rename_i hu
      obtain ⟨s, rfl, rfl, hw⟩ := DataW.trod_string hu h
      have hw : s.size ≤ reachBytes := hwt s.data.toList.length (by simp [DataW.weights])
      exact ⟨[.sc (.string s)], by simp [ArgC, hu, hw], RepC.one (.sc _) rfl⟩
    · rename_i e hu
      simp only [Bool.and_eq_true, beq_iff_eq, bne_iff_ne] at hs
      obtain ⟨⟨s1, s2⟩, s3⟩ := hs
      rcases DataW.trod_pointer hu h with ⟨rfl, _⟩ | ⟨a, cs', y, n, _, rfl, rfl, hc, hy⟩
      · exact ⟨[.sc (.pointer none)], by simp [ArgC, hu], RepC.one (.sc _) rfl⟩
      · obtain ⟨c, c1, c2, c3⟩ := ih e n cs' y s3 (fun m hm => hwt m (by simpa [DataW.weights, hu] using hm)) hy
        obtain ⟨_, hl, hcell⟩ := World.cells?_some hc
        obtain ⟨b, off, spot⟩ := a
        have hsp : spot = none := by
          have := hcell 0 (by omega)
          rw [List.getElem?_eq_getElem (by omega)] at this
          simpa [Addr.add] using World.cell?_spot this
        subst hsp
        refine ⟨[.cptr c], by simp only [ArgC, hu]; exact .inr ⟨c, rfl, c2, c1⟩, RepC.one (.cptr (fun i => cs'.getD i undef) (fun i hi => ?_) (fun i hi => (c3.2 i hi).1)) rfl⟩
        refine ghOf_mem ?_ (c3.2 i hi).2
        have := hcell i (by omega)
        rw [Addr.add_lit] at this
        rw [this, List.getD_eq_getElem?_getD, List.getElem?_eq_getElem (by omega)]
        rfl
    · rename_i e hu
      simp only [Bool.and_eq_true, beq_iff_eq, bne_iff_ne] at hs
      obtain ⟨⟨s1, s2⟩, s3⟩ := hs
      rcases open_slice hu h with ⟨rfl, _⟩ | ⟨a, len, cap, m, n, D, Pl, rfl, _, hlen, hcap, hm, rfl, hx⟩
      · exact ⟨[.lst e [] .unk true], by simp [ArgC, hu], RepC.one (.lstN trivial) rfl⟩
      · have hm' : len ≤ m := by rw [hm]; split <;> omega
        obtain ⟨V, hV⟩ := choose_lt (α := List Value × List AV) (p := fun i q => W.cells? base (a.add (i * P.cellsOf e)) (P.cellsOf e) = some q.1 ∧ ArgC P k e q.2 ∧ q.2.length = P.cellsOf e ∧ RepC P (ghOf W) q.2 q.1) (n := len) (fun i hi => by
          obtain ⟨cs', h1, h2⟩ := hx i (by omega)
          obtain ⟨c, c1, c2, c3⟩ := ih e n cs' _ s3 (fun q hq => hwt q (by simp only [DataW.weights, hu, List.mem_cons, List.mem_append]; exact .inr (.inl (weightsAll_mem (List.mem_map.2 ⟨i, by simpa using hi, rfl⟩) hq)))) h2
          exact ⟨(cs', c), h1, c1, c2, c3⟩)
        by_cases h0 : len = 0
        · subst h0
          exact ⟨[.lst e [] .unk false], by simp only [ArgC, hu]; exact .inr ⟨[], rfl, by simp, by simp⟩, RepC.one .lstZ rfl⟩
        · obtain ⟨b, off, spot⟩ := a
          have hsp : spot = none := by
            obtain ⟨h1, _⟩ := hV 0 (by omega)
            obtain ⟨_, hl, hcell⟩ := World.cells?_some h1
            have := hcell 0 (by omega)
            rw [List.getElem?_eq_getElem (by omega)] at this
            simpa [Addr.add] using World.cell?_spot this
          subst hsp
          have hget : ∀ i, i < len → (((List.range len).map fun i => (V i).2).map (pkV P e)).getD i AV.any = pkV P e (V i).2 := by
            intro i hi
            simp [List.getD_eq_getElem?_getD, hi]
          have hcl : ∀ i, i < len → (pkV P e (V i).2).cells = (V i).2 := fun i hi => (hV i hi).2.2.2.pk (fun ha => by rw [(hV i hi).2.2.1]; exact served_one s3 ha)
          refine ⟨[.lst e (((List.range len).map fun i => (V i).2).map (pkV P e)) .unk false], ?_, ?_⟩
          · simp only [ArgC, hu]
            refine .inr ⟨_, rfl, ?_, fun c hc => ?_⟩
            · have h9 := hwt _ (by simp only [DataW.weights, hu]; exact List.mem_cons_self)
              simp only [List.length_map, List.length_range] at h9 ⊢
              exact Nat.le_trans (Nat.mul_le_mul_right _ (Nat.le_add_right _ _)) h9
            obtain ⟨i, hi, rfl⟩ := List.mem_map.1 hc
            exact (hV i (by simpa using hi)).2.1
          · refine RepC.one ?_ rfl
            have hlen' : (((List.range len).map fun i => (V i).2).map (pkV P e)).length = len := by simp
            refine Rep.lst' (P := P) (fun q => ((V (q / P.cellsOf e)).1).getD (q % P.cellsOf e) undef) hlen' (fun i hi => ?_) (fun q hq => ?_) (fun i j hi hj => ?_) hlen trivial
            · have hi : i < len := by simpa using hi
              rw [hget i hi, hcl i hi]; exact (hV i hi).2.2.1
            · have hp : 0 < P.cellsOf e := by omega
              have hi : q / P.cellsOf e < len := by rw [Nat.div_lt_iff_lt_mul hp]; exact hq
              have hj : q % P.cellsOf e < P.cellsOf e := Nat.mod_lt _ hp
              obtain ⟨h1, h2, h3, h4⟩ := hV _ hi
              obtain ⟨_, hl, hcell⟩ := World.cells?_some h1
              refine ghOf_mem ?_ (h4.2 _ (by omega)).2
              have := hcell _ hj
              rw [add_add, Addr.add_lit, show q / P.cellsOf e * P.cellsOf e + q % P.cellsOf e = q by rw [Nat.mul_comm]; exact Nat.div_add_mod q _] at this
              rw [this, List.getD_eq_getElem?_getD, List.getElem?_eq_getElem (by omega)]
              rfl
            · have hi : i < len := by simpa using hi
              have hp : 0 < P.cellsOf e := by omega
              have e1 : (i * P.cellsOf e + j) / P.cellsOf e = i := by
                rw [Nat.add_comm, Nat.add_mul_div_right _ _ hp, Nat.div_eq_of_lt hj, Nat.zero_add]
              have e2 : (i * P.cellsOf e + j) % P.cellsOf e = j := by
                rw [Nat.add_comm, Nat.add_mul_mod_self_right, Nat.mod_eq_of_lt hj]
              rw [hget i hi, hcl i hi, e1, e2]
              exact ((hV i hi).2.2.2.2 j (by rw [(hV i hi).2.2.1]; exact hj)).1
    · rename_i fs hu
      simp only [Bool.and_eq_true, List.all_eq_true] at hs
      obtain ⟨s1, s2⟩ := hs
      obtain ⟨xs, n, _, rfl, hl, hxl, hf⟩ := DataW.trod_struct hu h
      obtain ⟨av, a1, a2⟩ := fields_read (P := P) (G := ghOf W) (k := k) (cs := vs) (P.cellsOf t) hl fs.toList 0 s1 (Nat.zero_le _) (fun f hfm => by
        obtain ⟨i, hi, rfl⟩ := List.mem_iff_getElem.1 hfm
        have hi' : i < fs.size := by simpa using hi
        have := hf i _ (by simp [hi'] : fs[i]? = some fs.toList[i])
        rw [List.getElem?_eq_getElem (by omega)] at this
        exact ih _ _ _ _ (s2 _ (by simp)) (fun q hq => hwt q (by
          simp only [DataW.weights, hu]
          exact weightsEach_mem (i := i) (by simp [hi']) (by rw [List.getElem?_map, List.getElem?_eq_getElem (by omega)]; rfl) hq)) this)
      rw [List.drop_zero] at a1
      refine ⟨av, ?_, a1⟩
      simp only [ArgC, hu]
      exact ⟨by rw [a1.1, hl], fun f hf => by simpa using (a2 f hf).2⟩
    · cases hs
end Go.AW

set_option linter.unusedSimpArgs false
set_option linter.unusedVariables false
namespace Go.AW
open Go Go.RowKit Go.Deep Go.ChangeShapes Go.WideShapes Go.ChangeAt
variable {H : Type} {enc : TypeId × Value → H} {P : Program}
def ArgsC (P : Program) (k : Nat) : List TypeId → List AV → Prop
  | [], [] => True
  | t :: ts, a :: as => (∃ cs, a = pkV P t cs ∧ ArgC P k t cs) ∧ ArgsC P k ts as
  | _, _ => False
theorem ArgsC.inv {P : Program} {k : Nat} {t : TypeId} {ts : List TypeId} {vs : List AV} (h : ArgsC P k (t :: ts) vs) : ∃ cs r, vs = pkV P t cs :: r ∧ ArgC P k t cs ∧ ArgsC P k ts r := by
  cases vs with
  | nil => exact h.elim
  | cons a r =>
    obtain ⟨⟨cs, rfl, h1⟩, h2⟩ := h
    exact ⟨cs, r, rfl, h1, h2⟩
theorem ArgsC.inv0 {P : Program} {k : Nat} {vs : List AV} (h : ArgsC P k [] vs) : vs = [] := by
  cases vs with
  | nil => rfl
  | cons a r => exact h.elim
theorem arg_int {P : Program} {k : Nat} {t : TypeId} {ik : IntKind} {cs : List AV} (ht : P.underlying t = some (.int ik)) (h : ArgC P (k + 1) t cs) : ∃ n, pkV P t cs = .sc (.int ik n) ∧ (Lit.int ik n).wf = true := by
  simp only [ArgC, ht] at h
  obtain ⟨n, rfl, hw⟩ := h
  exact ⟨n, by simp [pkV, isAgg, ht], hw⟩
theorem arg_str {P : Program} {k : Nat} {t : TypeId} {cs : List AV} (ht : P.underlying t = some .string) (h : ArgC P (k + 1) t cs) : ∃ s : ByteArray, pkV P t cs = .sc (.string s) ∧ s.size ≤ reachBytes := by
  simp only [ArgC, ht] at h
  obtain ⟨n, rfl, hw⟩ := h
  exact ⟨n, by simp [pkV, isAgg, ht], hw⟩
theorem arg_bool {P : Program} {k : Nat} {t : TypeId} {cs : List AV} (ht : P.underlying t = some .bool) (h : ArgC P (k + 1) t cs) : ∃ b, pkV P t cs = .sc (.bool b) := by
  simp only [ArgC, ht] at h
  obtain ⟨n, rfl⟩ := h
  exact ⟨n, by simp [pkV, isAgg, ht]⟩
theorem arg_list {P : Program} {k : Nat} {t e : TypeId} {cs : List AV} {α : Type} (f : α → AV) (ht : P.underlying t = some (.slice e)) (hf : ∀ c, ArgC P k e c → ∃ x, pkV P e c = f x) (h : ArgC P (k + 1) t cs) :
    ∃ (l : List α) (nl : Bool), pkV P t cs = .lst e (l.map f) .unk nl ∧ (nl = true → l = []) ∧ l.length * P.bytesOf e ≤ reachBytes := by
  simp only [ArgC, ht] at h
  rcases h with rfl | ⟨es, rfl, h1, h2⟩
  · exact ⟨[], true, by simp [pkV, isAgg, ht], fun _ => rfl, by simp⟩
  · have : ∃ l : List α, l.length = es.length ∧ es.map (pkV P e) = l.map f := by
      clear h1
      induction es with
      | nil => exact ⟨[], rfl, rfl⟩
      | cons c r ih =>
        obtain ⟨x, hx⟩ := hf c (h2 c (by simp))
        obtain ⟨l, hl, hm⟩ := ih (fun d hd => h2 d (by simp [hd]))
        exact ⟨x :: l, by simp [hl], by simp [hx, hm]⟩
    obtain ⟨l, hl, hm⟩ := this
    exact ⟨l, false, by simp [pkV, isAgg, ht, hm], (fun h => by cases h), (by rw [hl]; exact h1)⟩
theorem rep_of_cells {W w : World} {k : Nat} {t : TypeId} {v : Value} {cs : List AV} {base : Nat} (hs : served P k t = true) (hval : Value.okWide P w .any base t v) (h : RepC P (ghOf W) cs v.cells.toList) :
    Rep P (ghOf W) (pkV P t cs) v := by
  cases k with
  | zero => simp [served] at hs
  | succ k =>
    unfold pkV isAgg
    unfold Value.okWide at hval
    simp only [served] at hs
    have single : (∀ c, v ≠ .agg c) → Rep P (ghOf W) (cs.headD .any) v := by
      intro hv
      have e : v.cells = #[v] := by cases v <;> first | rfl | exact absurd rfl (hv _)
      rw [e] at h
      obtain ⟨h1, h2⟩ := h
      match cs, h1 with
      | [c], _ => simpa using (h2 0 (by simp)).1
    split at hs <;> rename_i hu <;> simp only [hu] at hval ⊢
    · exact single fun c hc => by subst hc; simp [Cell.okWide, Cell.ok, hu] at hval
    · exact single fun c hc => by subst hc; simp [Cell.okWide, Cell.ok, hu] at hval
    · exact single fun c hc => by subst hc; simp [Cell.okWide, Cell.ok, hu] at hval
    · exact single fun c hc => by subst hc; simp [Cell.okWide, Cell.ok, hu] at hval
    · exact single fun c hc => by subst hc; simp [Cell.okWide, Cell.ok, hu] at hval
    · obtain ⟨c, rfl, _, _⟩ := hval
      simp only [Value.cells] at h
      have : c = c.toList.toArray := by simp
      rw [this]
      simp only [if_true]
      exact .agg c.toList h.1.symm fun i hi => (h.2 i hi).1
    · cases hs
theorem args_read {W : World} {base k : Nat} : ∀ (ts : List TypeId) (vs : List Value) (ds : List (DataW H)) (ps : List MemPlace), (∀ t ∈ ts, served P k t = true) →
    (∀ n ∈ DataW.weightsEach P ts ds, n ≤ reachBytes) → (∀ (j : Nat) t v, ts[j]? = some t → vs[j]? = some v → Value.okWide P W .any base t v) →
    DataW.TrodAll enc P W 0 (fun _ => true) true ts vs ds ps →
    ∃ as, ArgsC P k ts as ∧ vs.length = as.length ∧ ds.length = ts.length ∧ ∀ i, i < as.length → Rep P (ghOf W) (as.getD i .any) (vs.getD i undef) := by
  intro ts
  induction ts with
  | nil =>
    intro vs ds ps _ _ _ h
    obtain ⟨rfl, rfl, _⟩ := trodAll_nil h
    exact ⟨[], trivial, rfl, rfl, fun i hi => by simp at hi⟩
  | cons t ts ih =>
    intro vs ds ps hs hw hv h
    obtain ⟨v, vs, d, ds, p, q, rfl, rfl, rfl, h1, h2⟩ := trodAll_cons h
    obtain ⟨as, a1, a2, a3, a4⟩ := ih vs ds q (fun t ht => hs t (by simp [ht])) (fun n hn => hw n (by simp [DataW.weightsEach, hn])) (fun j t v e1 e2 => hv (j + 1) t v (by simpa using e1) (by simpa using e2)) h2
    obtain ⟨fuel, h1⟩ := h1
    obtain ⟨cs, c1, c2, c3⟩ := read_arg k t fuel _ _ (hs t (by simp)) (fun n hn => hw n (by simp [DataW.weightsEach, hn])) h1
    refine ⟨pkV P t cs :: as, ⟨⟨cs, rfl, c1⟩, a1⟩, by simp [a2], by simp [a3], fun i hi => ?_⟩
    cases i with
    | zero => simpa using rep_of_cells (hs t (by simp)) (hv 0 t v rfl rfl) c3
    | succ i => simpa using a4 i (by simpa using hi)
theorem args_stay (hl : laidOutB P = true) {W W' : World} : ∀ (ts : List TypeId) (vs : List Value) (ds : List (DataW H)) (ps : List MemPlace), (∀ t ∈ ts, P.readableRec t = true ∧ t < P.types.size) →
    Below W.heap.size W W' → (∀ x ∈ ps, x.block < W.heap.size) → DataW.TrodAll enc P W 0 (fun _ => true) true ts vs ds ps → DataW.TrodAll enc P W' 0 (fun b => decide (b < W.heap.size)) true ts vs ds ps := by
  intro ts
  induction ts with
  | nil => intro vs ds ps _ _ _ h; obtain ⟨rfl, rfl, rfl⟩ := trodAll_nil h; exact rfl
  | cons t ts ih =>
    intro vs ds ps ht hb hlt h
    obtain ⟨v, vs, d, ds, p, q, rfl, rfl, rfl, h1, h2⟩ := trodAll_cons h
    exact ⟨p, q, Below.trod hl (ht t (by simp)).1 (ht t (by simp)).2 h1 hb (fun x hx => hlt x (by simp [hx])), ih _ _ _ (fun t h => ht t (by simp [h])) hb (fun x hx => hlt x (by simp [hx])) h2, rfl⟩
def IsTrue (r : AV) (_ : AS) : Prop := r = .sc (.bool true)
theorem istrue_end {σ : AS} {b : Bool} (h : b = true) : Ends P IsTrue σ (.sc (.bool b)) := ⟨_, σ, Wk.refl _, AS.le_refl _, by rw [h]; rfl⟩
@[simp] theorem istrue_iff {σ : AS} {b : Bool} : Ends P IsTrue σ (.sc (.bool b)) ↔ b = true := by
  refine ⟨fun ⟨r', σ', h1, h2, h3⟩ => ?_, istrue_end⟩
  have : r' = .sc (.bool true) := h3
  subst this
  have := h1 (ghOf default) (.bool b) (.sc _)
  cases this; rfl
theorem law_contract (k : Nat) {f : FuncId} {fn : Func} {s : ChangeSpec} {ts : List TypeId} {tb : TypeId} (hlaid : laidOutB P = true) (hts : fn.params.toList = ts) (hserved : ts.all (served P k) = true)
    (hread : ts.all (fun t => P.readableRec t && decide (t < P.types.size)) = true) (hres : fn.resultTypes = #[tb]) (hb : P.underlying tb = some .bool) (hvars : s.vars = [])
    (hs : ∀ ds : List (DataW H), ds.length = ts.length → s.fn H ds = { results := [.lit (.bool true)], args := ds })
    (hbody : ∀ as, ArgsC P k ts as → ACalls P f as noAS IsTrue No)
    {W : World} {base : Nat} {args : Array Value} {ds gs : List (DataW H)} {before : List MemPlace}
    (hval : ∀ (j : Nat) t v, fn.params[j]? = some t → args[j]? = some v → Value.okWide P W .any base t v)
    (hW : DataW.Whole enc P fn.params.toList s.vars false W args.toList ds gs before)
    (hwt : (DataW.weightsEach P (fn.params.toList ++ s.plain.varTypes P) (ds ++ gs)).all (· ≤ reachBytes) = true) :
    Calls P f args W fun e W' => ∃ v, e = .returned v ∧ s.post enc P fn false true false false W args v W' := by
  have hW' := hW
  obtain ⟨p, q, hA, hV, rfl, _, _⟩ := hW
  rw [hvars] at hV
  obtain ⟨rfl, rfl⟩ := trodVars_none hV
  have hvt : s.plain.varTypes P = [] := by simp [ChangeSpec.plain, DataSpec.varTypes, hvars]
  rw [hvt, List.append_nil, List.append_nil] at hwt
  rw [hts] at hA hwt
  obtain ⟨as, a1, a2, a3, a4⟩ := args_read (k := k) ts args.toList ds p (fun t ht => List.all_eq_true.1 hserved t ht) (fun n hn => by simpa using List.all_eq_true.1 hwt n hn) (fun j t v e1 e2 => hval j t v (by rw [← hts] at e1; simpa using e1) (by simpa using e2)) hA
  refine ((hbody as a1).run (ghOf W) W args (inv_ghOf P W) ⟨by simpa using a2, fun i hi => by simpa using a4 i hi⟩).mono fun e W' he => ?_
  unfold EndOk at he
  split at he
  · rename_i v
    obtain ⟨G', σ', r, g1, g2, g3, rfl⟩ := he
    cases g3
    have hnx : Below W.heap.size W W' := by
      have := g2.below
      rw [g1.B, g1.W0] at this
      exact this
    simp only [List.append_nil] at hW'
    have hlt : ∀ x ∈ p, x.block < W.heap.size := fun x hx => hW'.lt x hx
    have hfn := hs ds a3
    refine ⟨_, rfl, ds, [], p, [], p, [], hW', ?_, ?_, ?_, hnx.frame _, fun h => by cases h⟩
    · rw [List.append_nil, hfn, hres]
      exact trodAll_mk1 (shut_bool hb _)
    · rw [List.append_nil, hfn, hts]
      exact args_stay hlaid ts _ _ _ (fun t ht => by simpa using List.all_eq_true.1 hread t ht) hnx hlt hA
    · rw [hvars, List.append_nil, hfn]
      rfl
  · obtain ⟨_, _, _, _, _, _, _, _, h⟩ := he; exact h.elim
  · exact he.elim
end Go.AW
