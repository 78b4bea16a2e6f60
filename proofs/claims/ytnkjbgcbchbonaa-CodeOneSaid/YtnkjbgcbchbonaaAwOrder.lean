/- A layer of abstract values over the model's machine: own work for this claim, part AwOrder. -/
import Derived.Test.YtnkjbgcbchbonaaAwSched
set_option linter.unusedSimpArgs false
set_option linter.unusedVariables false
namespace Go.AW
open Go Go.RowKit

variable {P : Program}

/-- A plan of a region: an operation that may go first; several that must each be tried. -/
inductive Sch where
  | done
  | step (i : Nat) (t : Sch)
  | read (i : Nat) (t : Sch)
  | alt (i : Nat) (t r : Sch)
  | pure (i : Nat) (t : Sch)
  | none

def Sch.idxs : Sch → List Nat
  | .alt i _ r => i :: r.idxs
  | _ => []

/-- What can have gone before an operation i goes. -/
def upTo (ops : Array Oper) (i : Nat) : Nat → Array Bool → Array Bool
  | 0, m => m
  | f + 1, m => upTo ops i f ((List.range ops.size).foldl (fun m j => if j != i && (match ops[j]? with | some o => o.after.all fun e => !Region.binds .any e || m.getD e.on false | none => false) then m.setIfInBounds j true else m) m)

/-- .. and it all only reads. -/
def readsUpTo (ops : Array Oper) (i : Nat) (listed : Array Bool) : Bool :=
  let M := upTo ops i 2 listed
  (List.range ops.size).all (fun j => !listed.getD j false || M.getD j false) && !M.getD i false && listed.size == ops.size && M.size == ops.size &&
  (List.range ops.size).all fun j => match ops[j]? with
    | some o => (j == i || M.getD j false || o.after.any fun e => Region.binds .any e && !M.getD e.on false) && (!M.getD j false || listed.getD j true || readB o.op)
    | none => true

def okSch (ops : Array Oper) (ro : Bool) : Bool → Array Bool → Sch → Bool
  | true, listed, .done => (Region.ready .any ops listed).isEmpty
  | true, listed, .step i t => (Region.ready .any ops listed).contains i && Region.free .any ops listed i && (!ro || ((ops[i]?).map (readB ·.op)).getD false) && okSch ops ro true (listed.setIfInBounds i true) t
  | true, listed, .read i t => (Region.ready .any ops listed).contains i && Region.free .any ops listed i && ((ops[i]?).map (readB ·.op)).getD false && readsUpTo ops i listed && okSch ops ro true (listed.setIfInBounds i true) t
  | true, listed, .pure i t => (Region.ready .any ops listed).contains i && Region.free .any ops listed i && !ro && okSch ops ro true (listed.setIfInBounds i true) t
  | top, listed, .alt i t r => (!top || (Region.ready .any ops listed).all fun j => (Sch.alt i t r).idxs.contains j) && (!top || !(Region.ready .any ops listed).isEmpty) && okSch ops ro true (listed.setIfInBounds i true) t && okSch ops ro false listed r
  | false, _, .none => true
  | _, _, _ => false

/-- A call that touches nothing, whatever the heap. -/
def pureCall (P : Program) (fv : AV) (args : List AV) (K : AV → Prop) : Prop := ∃ v, (∀ σ' (Kv Kp : AV → AS → Prop), Kv v σ' → aCall P fv args σ' Kv Kp) ∧ K v

def pureOp (P : Program) (n : Nat) (ops : Array Oper) (o : Oper) (s : Fr) (K : AV → Prop) : Prop :=
  (match o.dst with | none => True | some d => d < n) ∧
  match o.op, o.guard with
  | .call ⟨.value f, args, _⟩, none => pureCall P (ev s f) (args.toList.map (ev s)) K
  | .call ⟨.value f, args, _⟩, some (j, want) => onGuard (guardAV ops s j) want (pureCall P (ev s f) (args.toList.map (ev s)) K) (K skipV)
  | _, _ => False

def nextP (K : Fr → AS → Prop) (s : Fr) (d : Option Nat) (σ : AS) : AV → Prop := fun v => K (s.put d v) σ

variable (P) in
def runSch (n : Nat) (ops : Array Oper) (ro : Bool) (Q : AQ) : Sch → Fr → AS → Prop
  | .done, s, σ => Q .normal s σ
  | .step i t, s, σ => match ops[i]? with
    | some o => (ro = true ∨ pureAt s o.op = true) ∧ guardOp P n ops o s σ (runSch n ops ro Q t) Q
    | none => False
  | .read i t, s, σ => match ops[i]? with
    | some o => guardOp P n ops o s σ (runSch n ops ro Q t) Q
    | none => False
  | .alt i t r, s, σ => (match ops[i]? with
    | some o => guardOp P n ops o s σ (runSch n ops ro Q t) Q
    | none => False) ∧ runSch n ops ro Q r s σ
  | .pure i t, s, σ => match ops[i]? with
    | some o => pureOp P n ops o s (nextP (runSch n ops ro Q t) s o.dst σ)
    | none => False
  | .none, _, _ => True

/-- All orders. -/
def aAny (P : Program) (n : Nat) (ops : Array Oper) (Q : AQ) : Nat → Array Bool → Fr → AS → Prop
  | 0, listed, s, σ => Region.ready .any ops listed = [] ∧ Q .normal s σ
  | f + 1, listed, s, σ => (Region.ready .any ops listed = [] → Q .normal s σ) ∧ ∀ i ∈ Region.ready .any ops listed, ∃ o, ops[i]? = some o ∧ guardOp P n ops o s σ (aAny P n ops Q f (listed.setIfInBounds i true)) Q

/-- An operation that hands on v, and touches nothing, in all the heaps that it may meet. -/
def Robust (P : Program) (n : Nat) (ops : Array Oper) (ro : Bool) (o : Oper) (s : Fr) (σ : AS) (v : AV) : Prop :=
  ∀ σ', (ro = true → σ' = σ) → ∀ Kv Kp : AV → AS → Prop, Kv v σ' → gop P ops n o s σ' Kv Kp

theorem robust_of {n : Nat} {ops : Array Oper} {ro : Bool} {o : Oper} {s : Fr} {σ : AS} {Kv Kp : AV → AS → Prop} (hr : (ro = true ∧ readB o.op = true) ∨ pureAt s o.op = true) (h : gop P ops n o s σ Kv Kp) :
    ∃ v, Robust P n ops ro o s σ v ∧ Kv v σ := by
  have key : ∀ (Kv Kp : AV → AS → Prop), runOp P o.op s σ Kv Kp → ∃ v, Kv v σ ∧ ∀ σ', (ro = true → σ' = σ) → ∀ Kv' Kp' : AV → AS → Prop, Kv' v σ' → runOp P o.op s σ' Kv' Kp' := by
    intro Kv Kp h
    rcases hr with ⟨h1, h2⟩ | h2
    · obtain ⟨v, k1, k2⟩ := read_det h2 h
      exact ⟨v, k1, fun σ' hσ Kv' Kp' hk => by obtain rfl := hσ h1; exact k2 Kv' Kp' hk⟩
    · obtain ⟨v, k1, k2⟩ := pure_det h2 h
      exact ⟨v, k1, fun σ' _ Kv' Kp' hk => k2 σ' Kv' Kp' hk⟩
  unfold gop at h
  obtain ⟨hd, h⟩ := h
  cases hg : o.guard with
  | none =>
    simp only [hg] at h
    obtain ⟨v, k1, k2⟩ := key _ _ h
    exact ⟨v, fun σ' hσ Kv' Kp' hk => ⟨hd, by simp only [hg]; exact k2 σ' hσ Kv' Kp' hk⟩, k1⟩
  | some p =>
    obtain ⟨j, want⟩ := p
    simp only [hg] at h
    rcases h with ⟨hb, h⟩ | ⟨hb, h⟩
    · obtain ⟨v, k1, k2⟩ := key _ _ h
      exact ⟨v, fun σ' hσ Kv' Kp' hk => ⟨hd, by simp only [hg]; exact .inl ⟨hb, k2 σ' hσ Kv' Kp' hk⟩⟩, k1⟩
    · exact ⟨skipV, fun σ' hσ Kv' Kp' hk => ⟨hd, by simp only [hg]; exact .inr ⟨hb, hk⟩⟩, h⟩

theorem robust_pure {n : Nat} {ops : Array Oper} {ro : Bool} {o : Oper} {s : Fr} {σ : AS} {K : AV → Prop} (h : pureOp P n ops o s K) : ∃ v, Robust P n ops ro o s σ v ∧ K v := by
  obtain ⟨dst, op, ty, pos, af, guard⟩ := o
  unfold pureOp at h
  obtain ⟨hd, h⟩ := h
  simp only at h hd
  split at h
  · obtain ⟨v, h1, h2⟩ := h
    exact ⟨v, fun σ' _ Kv Kp hk => ⟨hd, h1 σ' Kv Kp hk⟩, h2⟩
  · rcases h with ⟨hb, v, h1, h2⟩ | ⟨hb, h2⟩
    · exact ⟨v, fun σ' _ Kv Kp hk => ⟨hd, .inl ⟨hb, h1 σ' Kv Kp hk⟩⟩, h2⟩
    · exact ⟨skipV, fun σ' _ Kv Kp hk => ⟨hd, .inr ⟨hb, hk⟩⟩, h2⟩
  · exact h.elim

/-- In a region that only reads, the heap stays. -/
theorem gop_same {n : Nat} {ops : Array Oper} {o : Oper} {s : Fr} {σ : AS} {Kv Kp : AV → AS → Prop} (hr : readB o.op = true) (h : gop P ops n o s σ Kv Kp) : gop P ops n o s σ (fun v σ' => σ' = σ ∧ Kv v σ') Kp := by
  obtain ⟨v, h1, h2⟩ := robust_of (ro := true) (.inl ⟨rfl, hr⟩) h
  exact h1 σ (fun _ => rfl) _ _ ⟨rfl, h2⟩

theorem put_comm (s : Fr) {x y : Option Nat} (v u : AV) (h : ∀ d, x = some d → y ≠ some d) : (s.put x v).put y u = (s.put y u).put x v := by
  cases x with
  | none => rfl
  | some d =>
    cases y with
    | none => rfl
    | some e =>
      have hne : d ≠ e := fun he => h d rfl (he ▸ rfl)
      funext i
      simp only [Fr.put]
      by_cases h1 : i = d <;> by_cases h2 : i = e <;> simp [h1, h2] <;> omega

theorem put_agree (s : Fr) (x : Option Nat) (v : AV) (l : List Nat) (h : ∀ d, x = some d → d ∉ l) : ∀ t ∈ l, s.put x v t = s t := by
  intro t ht
  cases x with
  | none => rfl
  | some d =>
    have : t ≠ d := fun e => h d rfl (e ▸ ht)
    simp [Fr.put, this]

theorem operands_look {ops : Array Oper} {o : Oper} {x : Operand} (hx : x ∈ o.op.operands) {s s' : Fr} (h : ∀ t ∈ o.looksAt ops, s t = s' t) : ev s x = ev s' x := by
  cases x with
  | tmp t =>
    refine h t ?_
    unfold Oper.looksAt
    refine List.mem_append.2 (.inl ?_)
    rw [List.mem_filterMap]
    exact ⟨.tmp t, by simpa using hx, rfl⟩
  | _ => rfl

/-- AN OPERATION THAT MAY GO FIRST. -/
theorem aAny_first {n i : Nat} {ops : Array Oper} {ro : Bool} {oi : Oper} {v : AV} {Q : AQ} (hi : ops[i]? = some oi) (hQ : ∀ p s s' σ, Q (.panic p) s σ → Q (.panic p) s' σ)
    (M : Nat → Bool) (hMi : M i = false) (hMc : ∀ j oj, ops[j]? = some oj → j ≠ i → (∀ e ∈ oj.after, Region.binds .any e = true → M e.on = true) → M j = true) :
    ∀ (f : Nat) (listed : Array Bool) (s : Fr) (σ : AS),
      (∀ j, listed.getD j false = true → M j = true) → (ro = true → ∀ j oj, ops[j]? = some oj → M j = true → listed.getD j true = false → readB oj.op = true) →
      (∀ j oj, ops[j]? = some oj → j ≠ i → listed.getD j true = false → (∀ e ∈ oj.after, Region.binds .any e = true → e.on ≠ i) → oi.apart ops oj = true) →
      i ∈ Region.ready .any ops listed → Robust P n ops ro oi s σ v →
      aAny P n ops Q f (listed.setIfInBounds i true) (s.put oi.dst v) σ → aAny P n ops Q (f + 1) listed s σ := by
  intro f
  induction f with
  | zero =>
    intro listed s σ hM1 hM2 hfree hr hy H
    refine ⟨fun h => (by rw [h] at hr; cases hr), fun j hj => ?_⟩
    by_cases hji : j = i
    · subst hji
      exact ⟨oi, hi, (guardOp_eq n ops oi s _ Q).2 (hy σ (fun _ => rfl) _ _ H)⟩
    · have := ready_mono hj hji
      rw [H.1] at this; cases this
  | succ f ih =>
    intro listed s σ hM1 hM2 hfree hr hy H
    refine ⟨fun h => (by rw [h] at hr; cases hr), fun j hj => ?_⟩
    by_cases hji : j = i
    · subst hji
      exact ⟨oi, hi, (guardOp_eq n ops oi s _ Q).2 (hy σ (fun _ => rfl) _ _ H)⟩
    · obtain ⟨oj, hoj, h1⟩ := H.2 j (ready_mono hj hji)
      refine ⟨oj, hoj, ?_⟩
      obtain ⟨hjun, oj', hoj', hall⟩ := mem_ready.1 hj
      rw [hoj] at hoj'
      obtain rfl := Option.some.inj hoj'
      have hiun := (mem_ready.1 hr).1
      have hnot : ∀ e ∈ oj.after, Region.binds .any e = true → e.on ≠ i := by
        intro e he hb heq
        have := hall e he hb
        rw [heq] at this
        rcases Nat.lt_or_ge i listed.size with h' | h'
        · simp [h'] at hiun this
          rw [hiun] at this; cases this
        · simp [Array.getElem?_eq_none h'] at hiun
      have hMj : M j = true := hMc j oj hoj hji fun e he hb => hM1 _ (by
        have := hall e he hb
        simpa [Array.getD_eq_getD_getElem?] using this)
      obtain ⟨a1, a2, a3⟩ := Oper.apart_spec (hfree j oj hoj hji hjun hnot)
      rw [guardOp_eq] at h1 ⊢
      rw [gop_congr (put_agree s oi.dst v (oj.looksAt ops) a1)] at h1
      have hfree' : ∀ k ok, ops[k]? = some ok → k ≠ i → (listed.setIfInBounds j true).getD k true = false →
          (∀ e ∈ ok.after, Region.binds .any e = true → e.on ≠ i) → oi.apart ops ok = true := fun k ok hk hki hun hno => by
        refine hfree k ok hk hki ?_ hno
        by_cases hjk : j = k
        · subst hjk; exact hjun
        · rw [getD_set_ne true hjk] at hun; exact hun
      have hrob : ∀ u σ', (ro = true → σ' = σ) → Robust P n ops ro oi (s.put oj.dst u) σ' v := by
        intro u σ' hσ σ'' hσ' Kv Kp hk
        rw [gop_congr (put_agree s oj.dst u (oi.looksAt ops) a3)]
        exact hy σ'' (fun h => (hσ' h).trans (hσ h)) Kv Kp hk
      have fin : ∀ u σ', (ro = true → σ' = σ) → aAny P n ops Q f ((listed.setIfInBounds i true).setIfInBounds j true) ((s.put oi.dst v).put oj.dst u) σ' → aAny P n ops Q (f + 1) (listed.setIfInBounds j true) (s.put oj.dst u) σ' := by
        intro u σ' hσ h3
        refine ih (listed.setIfInBounds j true) (s.put oj.dst u) σ' (fun k hk => ?_) (fun hrt k ok hok hMk hun => hM2 hrt k ok hok hMk ?_) hfree' (ready_mono hr (Ne.symm hji)) (hrob u σ' hσ) ?_
        · by_cases hjk : j = k
          · subst hjk; exact hMj
          · rw [getD_set_ne false hjk] at hk; exact hM1 k hk
        · by_cases hjk : j = k
          · subst hjk; exact hjun
          · rw [getD_set_ne true hjk] at hun; exact hun
        rw [Array.setIfInBounds_comm _ _ hji, ← put_comm s v u a2]
        exact h3
      cases hrv : ro with
      | true =>
        have h4 := gop_same (hM2 hrv j oj hoj hMj hjun) h1
        exact gop_mono (fun u σ' h5 => fin u σ' (fun _ => h5.1) h5.2) (fun p σ' h5 => hQ p _ _ σ' h5) h4
      | false =>
        exact gop_mono (fun u σ' h5 => fin u σ' (fun h => by rw [hrv] at h; cases h) h5) (fun p σ' h5 => hQ p _ _ σ' h5) h1

def Sch.depth : Sch → Nat
  | .done => 0
  | .step _ t => t.depth + 1
  | .read _ t => t.depth + 1
  | .alt _ t r => max (t.depth + 1) r.depth
  | .pure _ t => t.depth + 1
  | .none => 0

theorem aAny_of_sch {n : Nat} {ops : Array Oper} {ro : Bool} {Q : AQ} (hQ : ∀ p s s' σ, Q (.panic p) s σ → Q (.panic p) s' σ) (hro : ro = true → ∀ (j : Nat) (o : Oper), ops[j]? = some o → readB o.op = true) :
    ∀ (t : Sch), (∀ (listed : Array Bool) (s : Fr) (σ : AS) (f : Nat), okSch ops ro true listed t = true → t.depth ≤ f → runSch P n ops ro Q t s σ → aAny P n ops Q f listed s σ) ∧
      (∀ (listed : Array Bool) (s : Fr) (σ : AS) (f : Nat), okSch ops ro false listed t = true → t.depth ≤ f + 1 → runSch P n ops ro Q t s σ → ∀ i ∈ t.idxs, ∃ o, ops[i]? = some o ∧ guardOp P n ops o s σ (aAny P n ops Q f (listed.setIfInBounds i true)) Q) := by
  have altc : ∀ (i : Nat) (t r : Sch) (listed : Array Bool) (s : Fr) (σ : AS) (f : Nat), (∀ (listed : Array Bool) (s : Fr) (σ : AS) (f : Nat), okSch ops ro true listed t = true → t.depth ≤ f → runSch P n ops ro Q t s σ → aAny P n ops Q f listed s σ) →
      (∀ (listed : Array Bool) (s : Fr) (σ : AS) (f : Nat), okSch ops ro false listed r = true → r.depth ≤ f + 1 → runSch P n ops ro Q r s σ → ∀ i ∈ r.idxs, ∃ o, ops[i]? = some o ∧ guardOp P n ops o s σ (aAny P n ops Q f (listed.setIfInBounds i true)) Q) →
      okSch ops ro true (listed.setIfInBounds i true) t = true → okSch ops ro false listed r = true → (Sch.alt i t r).depth ≤ f + 1 → runSch P n ops ro Q (.alt i t r) s σ →
      ∀ j ∈ (Sch.alt i t r).idxs, ∃ o, ops[j]? = some o ∧ guardOp P n ops o s σ (aAny P n ops Q f (listed.setIfInBounds j true)) Q := by
    intro i t r listed s σ f iht ihr h1 h2 h3 h4 j hj
    simp only [Sch.depth] at h3
    simp only [runSch] at h4
    simp only [Sch.idxs, List.mem_cons] at hj
    rcases hj with rfl | hj
    · cases ho : ops[j]? with
      | none => simp only [ho] at h4; exact h4.1.elim
      | some o =>
        simp only [ho] at h4
        refine ⟨o, rfl, ?_⟩
        have := h4.1
        rw [guardOp_eq] at this ⊢
        exact gop_mono (fun v σ' h5 => iht _ _ _ f h1 (by omega) h5) (fun _ _ h => h) this
    · exact ihr listed s σ f h2 (by omega) h4.2 j hj
  intro t
  induction t with
  | done =>
    constructor
    · intro listed s σ f h1 h2 h3
      have hre : Region.ready .any ops listed = [] := by simpa [okSch] using h1
      cases f with
      | zero => exact ⟨hre, h3⟩
      | succ f => exact ⟨fun _ => h3, fun i hi => by rw [hre] at hi; cases hi⟩
    · intro listed s σ f h1; simp [okSch] at h1
  | none =>
    constructor
    · intro listed s σ f h1; simp [okSch] at h1
    · intro listed s σ f _ _ _ i hi; simp [Sch.idxs] at hi
  | step i t ih =>
    constructor
    · intro listed s σ f h1 h2 h3
      simp only [okSch, Bool.and_eq_true] at h1
      obtain ⟨⟨⟨q1, q2⟩, q3⟩, q4⟩ := h1
      simp only [runSch] at h3
      simp only [Sch.depth] at h2
      obtain ⟨f, rfl⟩ : ∃ g, f = g + 1 := ⟨f - 1, by omega⟩
      cases ho : ops[i]? with
      | none => simp only [ho] at h3
      | some o =>
        simp only [ho] at h3
        obtain ⟨h3, h4⟩ := h3
        rw [guardOp_eq] at h4
        have hcl : (ro = true ∧ readB o.op = true) ∨ pureAt s o.op = true := by
          rcases h3 with h3 | h3
          · exact .inl ⟨h3, hro h3 i o ho⟩
          · exact .inr h3
        obtain ⟨v, r1, r2⟩ := robust_of hcl h4
        have hin : i ∈ Region.ready .any ops listed := by simpa using q1
        have hun := (mem_ready.1 hin).1
        exact aAny_first ho hQ (fun j => decide (j ≠ i)) (by simp) (fun j _ _ hji _ => by simpa using hji) f listed s σ (fun j hj => by
          by_cases hji : j = i
          · subst hji
            rw [Array.getD_eq_getD_getElem?] at hj hun
            cases hg : listed[j]? <;> simp [hg] at hj hun
            rw [hj] at hun; cases hun
          · simpa using hji) (fun hr j oj hoj _ _ => hro hr j oj hoj) (Region.free_spec ho q2) hin r1 (ih.1 _ _ _ f q4 (by omega) r2)
    · intro listed s σ f h1; simp [okSch] at h1
  | read i t ih =>
    constructor
    · intro listed s σ f h1 h2 h3
      simp only [okSch, Bool.and_eq_true] at h1
      obtain ⟨⟨⟨⟨q1, q2⟩, q3⟩, q5⟩, q4⟩ := h1
      simp only [runSch] at h3
      simp only [Sch.depth] at h2
      obtain ⟨f, rfl⟩ : ∃ g, f = g + 1 := ⟨f - 1, by omega⟩
      cases ho : ops[i]? with
      | none => simp only [ho] at h3
      | some o =>
        simp only [ho] at h3
        rw [guardOp_eq] at h3
        have hrd : readB o.op = true := by simpa [ho] using q3
        obtain ⟨v, r1, r2⟩ := robust_of (ro := true) (.inl ⟨rfl, hrd⟩) h3
        have hin : i ∈ Region.ready .any ops listed := by simpa using q1
        simp only [readsUpTo, Bool.and_eq_true, List.all_eq_true, List.mem_range, Bool.or_eq_true, Bool.not_eq_true', beq_iff_eq] at q5
        obtain ⟨⟨⟨⟨m1, m2⟩, m3⟩, m4⟩, m5⟩ := q5
        refine aAny_first ho hQ (fun j => (upTo ops i 2 listed).getD j false) m2 (fun j oj hj hji hall => ?_) f listed s σ (fun j hj => ?_) (fun _ j oj hoj hMj hun => ?_) (Region.free_spec ho q2) hin r1 (ih.1 _ _ _ f q4 (by omega) r2)
        · have hlt : j < ops.size := (Array.getElem?_eq_some_iff.1 hj).1
          have := m5 j hlt
          simp only [hj, Bool.and_eq_true, Bool.or_eq_true] at this
          rcases this.1 with (h | h) | h
          · exact absurd (by simpa using h) hji
          · exact h
          · rw [Array.any_eq_true'] at h
            obtain ⟨e, he, h⟩ := h
            simp only [Bool.and_eq_true, Bool.not_eq_true'] at h
            rw [hall e he h.1] at h
            cases h.2
        · have hlt : j < ops.size := by
            rcases Nat.lt_or_ge j ops.size with h | h
            · exact h
            · rw [Array.getD_eq_getD_getElem?, Array.getElem?_eq_none (by omega)] at hj; cases hj
          rcases m1 j hlt with h | h
          · rw [hj] at h; cases h
          · exact h
        · have hlt : j < ops.size := (Array.getElem?_eq_some_iff.1 hoj).1
          have := m5 j hlt
          simp only [hoj, Bool.and_eq_true, Bool.or_eq_true, Bool.not_eq_true'] at this
          rcases this.2 with (h | h) | h
          · rw [hMj] at h; cases h
          · rw [hun] at h; cases h
          · exact h
    · intro listed s σ f h1; simp [okSch] at h1
  | pure i t ih =>
    constructor
    · intro listed s σ f h1 h2 h3
      simp only [okSch, Bool.and_eq_true] at h1
      obtain ⟨⟨⟨q1, q2⟩, q3⟩, q4⟩ := h1
      simp only [runSch] at h3
      simp only [Sch.depth] at h2
      obtain ⟨f, rfl⟩ : ∃ g, f = g + 1 := ⟨f - 1, by omega⟩
      cases ho : ops[i]? with
      | none => simp only [ho] at h3
      | some o =>
        simp only [ho] at h3
        obtain ⟨v, r1, r2⟩ := robust_pure (ro := ro) (σ := σ) h3
        have hin : i ∈ Region.ready .any ops listed := by simpa using q1
        have hun := (mem_ready.1 hin).1
        exact aAny_first ho hQ (fun j => decide (j ≠ i)) (by simp) (fun j _ _ hji _ => by simpa using hji) f listed s σ (fun j hj => by
          by_cases hji : j = i
          · subst hji
            rw [Array.getD_eq_getD_getElem?] at hj hun
            cases hg : listed[j]? <;> simp [hg] at hj hun
            rw [hj] at hun; cases hun
          · simpa using hji) (fun hr j oj hoj _ _ => hro hr j oj hoj) (Region.free_spec ho q2) hin r1 (ih.1 _ _ _ f q4 (by omega) r2)
    · intro listed s σ f h1; simp [okSch] at h1
  | alt i t r iht ihr =>
    constructor
    · intro listed s σ f h1 h2 h3
      simp only [okSch, Bool.and_eq_true, Bool.not_true, Bool.false_or] at h1
      obtain ⟨⟨⟨q1, q2⟩, q3⟩, q4⟩ := h1
      have h2' := h2
      simp only [Sch.depth] at h2
      obtain ⟨f, rfl⟩ : ∃ g, f = g + 1 := ⟨f - 1, by omega⟩
      have := altc i t r listed s σ f iht.1 ihr.2 q3 q4 h2' h3
      refine ⟨fun h => by rw [h] at q2; simp at q2, fun j hj => this j ?_⟩
      have := List.all_eq_true.1 q1 j hj
      simpa using this
    · intro listed s σ f h1 h2 h3
      simp only [okSch, Bool.and_eq_true, Bool.not_false, Bool.true_or, true_and] at h1
      exact altc i t r listed s σ f iht.1 ihr.2 h1.1 h1.2 h2 h3

theorem wpAny_of_aAny {n : Nat} {ds : List Deferred} {G0 : Gh} {ops : Array Oper} {Q : AQ} : ∀ (f : Nat) (listed : Array Bool) (G : Gh) (s : Fr) (σ : AS) (a : Act) (w : World), aAny P n ops Q f listed s σ → G0.Le G → Sim P G n ds s σ a w →
    wpAny P .any ops (LQ P n ds Q G0) f listed a w := by
  intro f
  induction f with
  | zero => intro listed G s σ a w h hle hs; exact ⟨h.1, G, s, σ, hle, hs, h.2⟩
  | succ f ih =>
    intro listed G s σ a w h hle hs
    refine ⟨fun he => ⟨G, s, σ, hle, hs, h.1 he⟩, fun i hi => ?_⟩
    obtain ⟨o, ho, hg⟩ := h.2 i hi
    have := guardOp_ok o hg hle hs (next := wpAny P .any ops (LQ P n ds Q G0) f (listed.setIfInBounds i true)) (fun G' s' σ' a' w' h1 h2 h3 => ih _ G' s' σ' a' w' h3 h1 h2)
    unfold wpOp
    simp only [ho]
    by_cases hw : Region.wanted o (yielded ops a.tmps) = true
    · rw [if_pos hw] at this ⊢; exact .inl this
    · rw [if_neg hw] at this ⊢; exact this

/-- A REGION THAT DRAWS ITS ORDER, by a plan. -/
theorem AWp.draw {n : Nat} {ds : List Deferred} {id : Nat} {l : List Oper} {Q : AQ} {s : Fr} {σ : AS} (hm : P.follows .mixedOrders = true) (ro : Bool) (t : Sch)
    (hro : (!ro || l.all fun o => readB o.op) = true) (hok : okSch l.toArray ro true (Array.replicate l.length false) t = true) (hd : decide (t.depth ≤ l.length) = true)
    (hQ : ∀ p s s' σ, Q (.panic p) s σ → Q (.panic p) s' σ) (h : runSch P n l.toArray ro Q t s σ) : AWp P n ds (.region id l.toArray true) Q s σ := by
  intro G0 G a w h1 h2
  have hs : Sim P G n ds s σ a { w with drawn := w.drawn + 1 } := ⟨h2.inv.drew, h2.size, h2.ds, h2.rep⟩
  refine wp_region_any hm ?_
  have := (aAny_of_sch (P := P) (n := n) hQ (fun hr j o ho => by
    rw [hr] at hro
    simp only [Bool.not_true, Bool.false_or, List.all_eq_true] at hro
    refine hro o ?_
    rw [List.getElem?_toArray] at ho
    exact List.mem_of_getElem? ho) t).1 _ s σ l.length hok (by simpa using hd) h
  have := wpAny_of_aAny (ds := ds) l.length _ G s σ a _ this h1 hs
  simpa using this

end Go.AW
