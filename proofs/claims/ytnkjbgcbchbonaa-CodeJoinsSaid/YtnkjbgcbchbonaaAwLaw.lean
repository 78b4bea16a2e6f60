/- A layer of abstract values over the model's machine: own work for this claim, part AwLaw. -/
import Derived.Test.YtnkjbgcbchbonaaAwLink
import Derived.Deep.DeepHandedRow
set_option linter.unusedSimpArgs false
set_option linter.unusedVariables false
namespace Go.AW
open Go Go.RowKit Go.Deep Go.ChangeShapes Go.WideShapes Go.ChangeAt

variable {H : Type} {enc : TypeId × Value → H} {P : Program}

/-- Arguments, by their types. -/
def ArgsC (P : Program) (k : Nat) : List TypeId → List AV → Prop
  | [], [] => True
  | t :: ts, a :: as => (∃ cs, a = pkV P t cs ∧ ArgC P k t cs) ∧ ArgsC P k ts as
  | _, _ => False

theorem ArgsC.inv {P : Program} {k : Nat} {t : TypeId} {ts : List TypeId} {vs : List AV} (h : ArgsC P k (t :: ts) vs) : ∃ cs r, vs = pkV P t cs :: r ∧ ArgC P k t cs ∧ ArgsC P k ts r := by
  cases vs with
  | nil => exact h.elim
  | cons a r =>
    obtain ⟨⟨cs, rfl, h1⟩, h2⟩ := h
    exact ⟨cs, r, rfl, h1, h2⟩
theorem ArgsC.inv0 {P : Program} {k : Nat} {vs : List AV} (h : ArgsC P k [] vs) : vs = [] := by
  cases vs with
  | nil => rfl
  | cons a r => exact h.elim

theorem arg_int {P : Program} {k : Nat} {t : TypeId} {ik : IntKind} {cs : List AV} (ht : P.underlying t = some (.int ik)) (h : ArgC P (k + 1) t cs) : ∃ n, pkV P t cs = .sc (.int ik n) ∧ (Lit.int ik n).wf = true := by
  simp only [ArgC, ht] at h
  obtain ⟨n, rfl, hw⟩ := h
  exact ⟨n, by simp [pkV, isAgg, ht], hw⟩
theorem arg_str {P : Program} {k : Nat} {t : TypeId} {cs : List AV} (ht : P.underlying t = some .string) (h : ArgC P (k + 1) t cs) : ∃ s : ByteArray, pkV P t cs = .sc (.string s) ∧ s.size ≤ reachBytes := by
  simp only [ArgC, ht] at h
  obtain ⟨n, rfl, hw⟩ := h
  exact ⟨n, by simp [pkV, isAgg, ht], hw⟩

theorem arg_bool {P : Program} {k : Nat} {t : TypeId} {cs : List AV} (ht : P.underlying t = some .bool) (h : ArgC P (k + 1) t cs) : ∃ b, pkV P t cs = .sc (.bool b) := by
  simp only [ArgC, ht] at h
  obtain ⟨n, rfl⟩ := h
  exact ⟨n, by simp [pkV, isAgg, ht]⟩
/-- A list of what a type's values are. -/
theorem arg_list {P : Program} {k : Nat} {t e : TypeId} {cs : List AV} {α : Type} (f : α → AV) (ht : P.underlying t = some (.slice e)) (hf : ∀ c, ArgC P k e c → ∃ x, pkV P e c = f x) (h : ArgC P (k + 1) t cs) :
    ∃ (l : List α) (nl : Bool), pkV P t cs = .lst e (l.map f) .unk nl ∧ (nl = true → l = []) ∧ l.length * P.bytesOf e ≤ reachBytes := by
  simp only [ArgC, ht] at h
  rcases h with rfl | ⟨es, rfl, h1, h2⟩
  · exact ⟨[], true, by simp [pkV, isAgg, ht], fun _ => rfl, by simp⟩
  · have : ∃ l : List α, l.length = es.length ∧ es.map (pkV P e) = l.map f := by
      clear h1
      induction es with
      | nil => exact ⟨[], rfl, rfl⟩
      | cons c r ih =>
        obtain ⟨x, hx⟩ := hf c (h2 c (by simp))
        obtain ⟨l, hl, hm⟩ := ih (fun d hd => h2 d (by simp [hd]))
        exact ⟨x :: l, by simp [hl], by simp [hx, hm]⟩
    obtain ⟨l, hl, hm⟩ := this
    exact ⟨l, false, by simp [pkV, isAgg, ht, hm], (fun h => by cases h), (by rw [hl]; exact h1)⟩
theorem arg_bytes {P : Program} {k : Nat} {t e : TypeId} {cs : List AV} (ht : P.underlying t = some (.slice e)) (he : P.underlying e = some (.int .u8)) (h : ArgC P (k + 2) t cs) :
    ∃ (l : List UInt8) (nl : Bool), pkV P t cs = .lst e (l.map u8) .unk nl ∧ (nl = true → l = []) ∧ l.length * P.bytesOf e ≤ reachBytes := by
  refine arg_list u8 ht (fun c hc => ?_) h
  obtain ⟨n, h1, h2⟩ := arg_int he hc
  refine ⟨UInt8.ofNat n.toNat, ?_⟩
  simp only [Lit.wf, IntKind.min, IntKind.max, IntKind.signed, IntKind.bits, Bool.and_eq_true, decide_eq_true_eq] at h2
  rw [h1]
  simp
  simp at h2
  omega

theorem rep_of_cells {W w : World} {k : Nat} {t : TypeId} {v : Value} {cs : List AV} {base : Nat} (hs : served P k t = true) (hval : Value.okWide P w .any base t v) (h : RepC P (ghOf W) cs v.cells.toList) :
    Rep P (ghOf W) (pkV P t cs) v := by
  cases k with
  | zero => simp [served] at hs
  | succ k =>
    unfold pkV isAgg
    unfold Value.okWide at hval
    simp only [served] at hs
    have single : (∀ c, v ≠ .agg c) → Rep P (ghOf W) (cs.headD .any) v := by
      intro hv
      have e : v.cells = #[v] := by cases v <;> first | rfl | exact absurd rfl (hv _)
      rw [e] at h
      obtain ⟨h1, h2⟩ := h
      match cs, h1 with
      | [c], _ => simpa using (h2 0 (by simp)).1
    split at hs <;> rename_i hu <;> simp only [hu] at hval ⊢
    · exact single fun c hc => by subst hc; simp [Cell.okWide, Cell.ok, hu] at hval
    · exact single fun c hc => by subst hc; simp [Cell.okWide, Cell.ok, hu] at hval
    · exact single fun c hc => by subst hc; simp [Cell.okWide, Cell.ok, hu] at hval
    · exact single fun c hc => by subst hc; simp [Cell.okWide, Cell.ok, hu] at hval
    · exact single fun c hc => by subst hc; simp [Cell.okWide, Cell.ok, hu] at hval
    · obtain ⟨c, rfl, _, _⟩ := hval
      simp only [Value.cells] at h
      have : c = c.toList.toArray := by simp
      rw [this]
      simp only [if_true]
      exact .agg c.toList h.1.symm fun i hi => (h.2 i hi).1
    · cases hs

theorem args_read {W : World} {base k : Nat} : ∀ (ts : List TypeId) (vs : List Value) (ds : List (DataW H)) (ps : List MemPlace), (∀ t ∈ ts, served P k t = true) →
    (∀ n ∈ DataW.weightsEach P ts ds, n ≤ reachBytes) → (∀ (j : Nat) t v, ts[j]? = some t → vs[j]? = some v → Value.okWide P W .any base t v) →
    DataW.TrodAll enc P W 0 (fun _ => true) true ts vs ds ps →
    ∃ as, ArgsC P k ts as ∧ vs.length = as.length ∧ ds.length = ts.length ∧ ∀ i, i < as.length → Rep P (ghOf W) (as.getD i .any) (vs.getD i undef) := by
  intro ts
  induction ts with
  | nil =>
    intro vs ds ps _ _ _ h
    obtain ⟨rfl, rfl, _⟩ := trodAll_nil h
    exact ⟨[], trivial, rfl, rfl, fun i hi => by simp at hi⟩
  | cons t ts ih =>
    intro vs ds ps hs hw hv h
    obtain ⟨v, vs, d, ds, p, q, rfl, rfl, rfl, h1, h2⟩ := trodAll_cons h
    obtain ⟨as, a1, a2, a3, a4⟩ := ih vs ds q (fun t ht => hs t (by simp [ht])) (fun n hn => hw n (by simp [DataW.weightsEach, hn])) (fun j t v e1 e2 => hv (j + 1) t v (by simpa using e1) (by simpa using e2)) h2
    obtain ⟨fuel, h1⟩ := h1
    obtain ⟨cs, c1, c2, c3⟩ := read_arg k t fuel _ _ (hs t (by simp)) (fun n hn => hw n (by simp [DataW.weightsEach, hn])) h1
    refine ⟨pkV P t cs :: as, ⟨⟨cs, rfl, c1⟩, a1⟩, by simp [a2], by simp [a3], fun i hi => ?_⟩
    cases i with
    | zero => simpa using rep_of_cells (hs t (by simp)) (hv 0 t v rfl rfl) c3
    | succ i => simpa using a4 i (by simpa using hi)

theorem args_stay (hl : laidOutB P = true) {W W' : World} : ∀ (ts : List TypeId) (vs : List Value) (ds : List (DataW H)) (ps : List MemPlace), (∀ t ∈ ts, P.readableRec t = true ∧ t < P.types.size) →
    Below W.heap.size W W' → (∀ x ∈ ps, x.block < W.heap.size) → DataW.TrodAll enc P W 0 (fun _ => true) true ts vs ds ps → DataW.TrodAll enc P W' 0 (fun b => decide (b < W.heap.size)) true ts vs ds ps := by
  intro ts
  induction ts with
  | nil => intro vs ds ps _ _ _ h; obtain ⟨rfl, rfl, rfl⟩ := trodAll_nil h; exact rfl
  | cons t ts ih =>
    intro vs ds ps ht hb hlt h
    obtain ⟨v, vs, d, ds, p, q, rfl, rfl, rfl, h1, h2⟩ := trodAll_cons h
    exact ⟨p, q, Below.trod hl (ht t (by simp)).1 (ht t (by simp)).2 h1 hb (fun x hx => hlt x (by simp [hx])), ih _ _ _ (fun t h => ht t (by simp [h])) hb (fun x hx => hlt x (by simp [hx])) h2, rfl⟩

/-- A law's result, behind its call. -/
def IsTrue (r : AV) (_ : AS) : Prop := r = .sc (.bool true)

theorem istrue_end {σ : AS} {b : Bool} (h : b = true) : Ends P IsTrue σ (.sc (.bool b)) := ⟨_, σ, Wk.refl _, AS.le_refl _, by rw [h]; rfl⟩
@[simp] theorem istrue_iff {σ : AS} {b : Bool} : Ends P IsTrue σ (.sc (.bool b)) ↔ b = true := by
  refine ⟨fun ⟨r', σ', h1, h2, h3⟩ => ?_, istrue_end⟩
  have : r' = .sc (.bool true) := h3
  subst this
  have := h1 (ghOf default) (.bool b) (.sc _)
  cases this; rfl

/-- WHAT A LAW'S WALK OVER ABSTRACT ARGUMENTS GIVES, FOR EVERY ARGUMENT. -/
theorem law_contract (k : Nat) {f : FuncId} {fn : Func} {s : ChangeSpec} {ts : List TypeId} {tb : TypeId} (hlaid : laidOutB P = true) (hts : fn.params.toList = ts) (hserved : ts.all (served P k) = true)
    (hread : ts.all (fun t => P.readableRec t && decide (t < P.types.size)) = true) (hres : fn.resultTypes = #[tb]) (hb : P.underlying tb = some .bool) (hvars : s.vars = [])
    (hs : ∀ ds : List (DataW H), ds.length = ts.length → s.fn H ds = { results := [.lit (.bool true)], args := ds })
    (hbody : ∀ as, ArgsC P k ts as → ACalls P f as noAS IsTrue No)
    {W : World} {base : Nat} {args : Array Value} {ds gs : List (DataW H)} {before : List MemPlace}
    (hval : ∀ (j : Nat) t v, fn.params[j]? = some t → args[j]? = some v → Value.okWide P W .any base t v)
    (hW : DataW.Whole enc P fn.params.toList s.vars false W args.toList ds gs before)
    (hwt : (DataW.weightsEach P (fn.params.toList ++ s.plain.varTypes P) (ds ++ gs)).all (· ≤ reachBytes) = true) :
    Calls P f args W fun e W' => ∃ v, e = .returned v ∧ s.post enc P fn false true false false W args v W' := by
  have hW' := hW
  obtain ⟨p, q, hA, hV, rfl, _, _⟩ := hW
  rw [hvars] at hV
  obtain ⟨rfl, rfl⟩ := trodVars_none hV
  have hvt : s.plain.varTypes P = [] := by simp [ChangeSpec.plain, DataSpec.varTypes, hvars]
  rw [hvt, List.append_nil, List.append_nil] at hwt
  rw [hts] at hA hwt
  obtain ⟨as, a1, a2, a3, a4⟩ := args_read (k := k) ts args.toList ds p (fun t ht => List.all_eq_true.1 hserved t ht) (fun n hn => by simpa using List.all_eq_true.1 hwt n hn) (fun j t v e1 e2 => hval j t v (by rw [← hts] at e1; simpa using e1) (by simpa using e2)) hA
  refine ((hbody as a1).run (ghOf W) W args (inv_ghOf P W) ⟨by simpa using a2, fun i hi => by simpa using a4 i hi⟩).mono fun e W' he => ?_
  unfold EndOk at he
  split at he
  · rename_i v
    obtain ⟨G', σ', r, g1, g2, g3, rfl⟩ := he
    cases g3
    have hnx : Below W.heap.size W W' := by
      have := g2.below
      rw [g1.B, g1.W0] at this
      exact this
    simp only [List.append_nil] at hW'
    have hlt : ∀ x ∈ p, x.block < W.heap.size := fun x hx => hW'.lt x hx
    have hfn := hs ds a3
    refine ⟨_, rfl, ds, [], p, [], p, [], hW', ?_, ?_, ?_, hnx.frame _, fun h => by cases h⟩
    · rw [List.append_nil, hfn, hres]
      exact trodAll_mk1 (shut_bool hb _)
    · rw [List.append_nil, hfn, hts]
      exact args_stay hlaid ts _ _ _ (fun t ht => by simpa using List.all_eq_true.1 hread t ht) hnx hlt hA
    · rw [hvars, List.append_nil, hfn]
      rfl
  · obtain ⟨_, _, _, _, _, _, _, _, h⟩ := he; exact h.elim
  · exact he.elim

end Go.AW
