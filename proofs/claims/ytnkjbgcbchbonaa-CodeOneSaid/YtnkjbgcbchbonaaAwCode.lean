/- A layer of abstract values over the model's machine: own work for this claim, part AwCode. -/
import Derived.Test.YtnkjbgcbchbonaaAwOps9
set_option linter.unusedSimpArgs false
set_option linter.unusedVariables false
namespace Go.AW
open Go Go.RowKit

variable {P : Program} {G : Gh} {σ : AS} {w : World} {K Pn : AV → AS → Prop}

def hasBody (P : Program) (f : FuncId) : Bool :=
  match P.funcs[f]? with
  | some fn => fn.body.isSome && !(fn.name == "runtime.NumGoroutine")
  | none => false

theorem hasBody_run {f : FuncId} (h : hasBody P f = true) (args : Array Value) : (callFunc f args).run P w = .ok (.enter f args) w := by
  unfold hasBody at h
  split at h
  · rename_i fn hf
    simp only [Bool.and_eq_true, Bool.not_eq_true'] at h
    have hb : fn.body.isNone = false := by
      cases hx : fn.body with
      | none => rw [hx] at h; simp at h
      | some c => rfl
    have hn : ¬ fn.name = "runtime.NumGoroutine" := by simpa using h.2
    have hb' : ¬ fn.body = none := by intro e; rw [e] at hb; simp at hb
    simp [callFunc, hf, hn, hb']
  · cases h

def RepL (P : Program) (G : Gh) (as : List AV) (vs : Array Value) : Prop := vs.size = as.length ∧ ∀ i, i < as.length → Rep P G (as.getD i .any) (vs.getD i undef)

theorem RepL.mono {G' : Gh} (hle : G.Le G') {as : List AV} {vs : Array Value} (h : RepL P G as vs) : RepL P G' as vs := ⟨h.1, fun i hi => (h.2 i hi).mono hle⟩

/-- How a call may end. -/
def EndOk (P : Program) (G : Gh) (R Rp : AV → AS → Prop) : Ending → World → Prop
  | .returned v, w' => ∃ G' σ' r, G.Le G' ∧ Inv P G' σ' w' ∧ Rep P G' r v ∧ R r σ'
  | .panicked [e], w' => e.recovered = false ∧ e.goexit = false ∧ ∃ G' σ' r, G.Le G' ∧ Inv P G' σ' w' ∧ Rep P G' r e.v ∧ Rp r σ'
  | _, _ => False

/-- THE CONTRACT OF A FUNCTION. -/
structure ACalls (P : Program) (f : FuncId) (args : List AV) (σ : AS) (R Rp : AV → AS → Prop) : Prop where
  body : hasBody P f = true
  run : ∀ (G : Gh) (w : World) (vals : Array Value), Inv P G σ w → RepL P G args vals → Calls P f vals w (EndOk P G R Rp)

theorem ACalls.mono {f : FuncId} {args : List AV} {R Rp R' Rp' : AV → AS → Prop} (h : ACalls P f args σ R Rp) (h1 : ∀ r σ', R r σ' → R' r σ') (h2 : ∀ r σ', Rp r σ' → Rp' r σ') : ACalls P f args σ R' Rp' :=
  ⟨h.body, fun G w vals hi hr => (h.run G w vals hi hr).mono fun e w' he => by
    unfold EndOk at he ⊢
    split at he
    · obtain ⟨G', σ', r, a, b, c, d⟩ := he; exact ⟨G', σ', r, a, b, c, h1 _ _ d⟩
    · obtain ⟨x, y, G', σ', r, a, b, c, d⟩ := he; exact ⟨x, y, G', σ', r, a, b, c, h2 _ _ d⟩
    · exact he.elim⟩

def aop (P : Program) (s : Fr) (σ : AS) (K Pn : AV → AS → Prop) : Op → Prop
  | .move x => K (ev s x) σ
  | .assign x => K (ev s x) σ
  | .pick c a b => match ev s c with | .sc (.bool t) => K (if t then ev s a else ev s b) σ | _ => False
  | .alloc e => aAlloc P σ e K
  | .box e x => aBox P σ e (ev s x) K
  | .build t parts => aBuild P t (parts.toList.map fun p => (p.1, ev s p.2)) fun v => K v σ
  | .buildSlice t n parts => aBuildSlice P σ t n (parts.toList.map fun p => (p.1, ev s p.2)) K
  | .load t a => aLoad P σ t (ev s a) fun v => K v σ
  | .store t a x => aStore P σ t (ev s a) (ev s x) fun σ' => K .any σ'
  | .nilCheck x => aNilCheck (ev s x) fun v => K v σ
  | .binOp op t x y _ => aBin P op t (ev s x) (ev s y) fun v => K v σ
  | .unOp op _ x => aUn op (ev s x) fun v => K v σ
  | .convert src dst x => aConvert P src dst (ev s x) fun v => K v σ
  | .makeInterface t x => P.concrete t = true ∧ K (.ifc t (ev s x)) σ
  | .makeFunc f first cap => K (.fn f (first.toList.map (ev s)) (cap.toList.map (ev s))) σ
  | .makeMap _ r => r.isNone = true ∧ ∀ id, σ id = none → K (.mp id) (σ.set id (.map []))
  | .range t x => aRange P σ t (ev s x) K
  | .next it str => aNext σ (ev s it) str K
  | .entry it => aEntry σ (ev s it) fun v => K v σ
  | .makeSlice t l c => aMakeSlice P σ t (ev s l) (ev s c) K
  | .slice t x lo hi mx => aSlice P t (ev s x) (lo.map (ev s)) (hi.map (ev s)) (mx.map (ev s)) fun v => K v σ
  | .fieldAddr t x f => aFieldAddr P t (ev s x) f fun v => K v σ
  | .field t x f => aField P t (ev s x) f fun v => K v σ
  | .indexAddr t x i => aIndexAddr P t (ev s x) (ev s i) fun v => K v σ
  | .index t x i => aIndex P t (ev s x) (ev s i) fun v => K v σ
  | .extract x i => aExtract (ev s x) i fun v => K v σ
  | .panic x => match ev s x with | .ifc t v => Pn (.ifc t v) σ | _ => False
  | .call c => match c.callee with
    | .builtin b => aBuiltin P σ b c.argTypes.toList (c.args.toList.map (ev s)) K
    | _ => False
  | _ => False

theorem Inv.allocMap (h : Inv P G σ w) : ∃ G', G.Le G' ∧ G'.inj G.top = some w.heap.size ∧ Inv P G' (σ.set G.top (.map [])) (w.alloc (.map #[] 0)) := by
  have hle := G.bind_le w.heap.size (h.top _ (Nat.le_refl _)).1
  have hb := h.bind (.map #[] 0)
  refine ⟨_, hle, by simp [Gh.bind], hb.below, hb.base, hb.mem, hb.top, (fun i b e => ⟨(hb.injB i b e).1, (hb.injB i b e).2.1, fun ty cs hn => (hb.injB i b e).2.2 ty cs (by
    by_cases hi : i = G.top
    · subst hi; simp [AS.set] at hn
    · simpa [AS.set, hi] using hn)⟩), hb.inj1, ?_, ?_, ?_, ?_, hb.own⟩
  · intro i ty cs e
    by_cases hi : i = G.top
    · simp [AS.set, hi] at e
    · simp [AS.set, hi] at e; exact hb.cells i ty cs e
  · intro i es e
    by_cases hi : i = G.top
    · subst hi
      simp [AS.set] at e
      subst e
      exact ⟨w.heap.size, #[], 0, by simp [Gh.bind], heap_alloc_new w _, ⟨rfl, by constructor <;> simp⟩, fun k hk => by simp at hk⟩
    · simp [AS.set, hi] at e; exact hb.maps i es e
  · intro i s p e
    by_cases hi : i = G.top
    · simp [AS.set, hi] at e; subst e; cases p
    · simp [AS.set, hi] at e; exact hb.iters i s p e
  · intro i n e
    by_cases hi : i = G.top
    · simp [AS.set, hi] at e
    · simp [AS.set, hi] at e; exact hb.tok i n e

theorem optRep {s : Fr} {ρ : Operand → Value} (hρ : ∀ x, Rep P G (ev s x) (ρ x)) (o : Option Operand) : (o.map (ev s) = none ∧ o.map ρ = none) ∨ ∃ a b, o.map (ev s) = some a ∧ o.map ρ = some b ∧ Rep P G a b := by
  cases o with
  | none => exact .inl ⟨rfl, rfl⟩
  | some x => exact .inr ⟨_, _, rfl, rfl, hρ x⟩

theorem aop_out (hi : Inv P G σ w) {s : Fr} {ρ : Operand → Value} (hρ : ∀ x, Rep P G (ev s x) (ρ x)) (o : Oper) (h : aop P s σ K Pn o.op) : Out P G K Pn ((execOp ρ o).run P w) := by
  obtain ⟨dst, op, ty, pos, after, guard⟩ := o
  cases op <;> simp only [aop] at h
  case move x => exact ⟨G, σ, _, .refl G, hi, hρ x, h⟩
  case assign x => exact ⟨G, σ, _, .refl G, hi, hρ x, h⟩
  case pick c a b =>
    split at h
    · rename_i t hc
      have hr := hρ c
      rw [hc] at hr
      generalize hv : ρ c = v at hr
      cases hr
      have hrun : (execOp ρ ⟨dst, .pick c a b, ty, pos, after, guard⟩).run P w = .ok (.value (if t then ρ a else ρ b)) w := by
        simp [execOp, hv, asBool]
      rw [hrun]
      refine ⟨G, σ, _, .refl G, hi, ?_, h⟩
      cases t
      · exact hρ b
      · exact hρ a
    · exact h.elim
  case alloc e => exact aAlloc_out hi h
  case box e x => exact aBox_out hi (hρ x) h
  case build t parts => exact aBuild_out hi hρ h
  case buildSlice t n parts => exact aBuildSlice_out hi hρ h
  case load t a => exact aLoad_out hi (hρ a) h
  case store t a x => exact aStore_out hi (hρ a) (hρ x) h
  case nilCheck x => exact aNilCheck_out (o := ⟨dst, .nilCheck x, ty, pos, after, guard⟩) hi rfl (hρ x) h
  case binOp op t x y yt => exact aBin_out hi (hρ x) (hρ y) h
  case unOp op t x => exact aUn_out hi (hρ x) h
  case convert src dst x => exact aConvert_out hi (hρ x) h
  case makeInterface t x => exact Out.pure hi (run_makeInterface w t (ρ x) h.1) (.ifc (hρ x)) h.2
  case makeFunc f first cap =>
    refine Out.pure hi (v := .func f (first.map ρ) (cap.map ρ)) rfl ?_ h
    have := Rep.fn (P := P) (G := G) (f := f) (first := first.toList.map (ev s)) (captured := cap.toList.map (ev s)) (first.toList.map ρ) (cap.toList.map ρ) (by simp) (by simp)
      (fun i hi' => by simp at hi'; simp [List.getD_eq_getElem?_getD, hi']; exact hρ _) (fun i hi' => by simp at hi'; simp [List.getD_eq_getElem?_getD, hi']; exact hρ _)
    have e : ∀ a : Array Operand, (a.toList.map ρ).toArray = a.map ρ := fun a => by apply Array.ext'; simp
    rw [e, e] at this
    exact this
  case makeMap t r =>
    cases r with
    | none =>
      obtain ⟨G', g1, g2, g3⟩ := hi.allocMap
      refine Out.value (v := .map (some w.heap.size)) ?_ g1 g3 (.mp g2) (h.2 _ hi.fresh)
      simp [Instr.makeMap, run_newObj_alloc, Sem.run_bind]
    | some x => simp at h
  case range t x => exact aRange_out hi (hρ x) h
  case next it str => exact aNext_out hi (hρ it) h
  case entry it => exact aEntry_out hi (hρ it) h
  case makeSlice t l c => exact aMakeSlice_out hi (hρ l) (hρ c) h
  case slice t x lo hi' mx => exact aSlice_out hi (hρ x) (optRep hρ lo) (optRep hρ hi') (optRep hρ mx) h
  case fieldAddr t x f => exact aFieldAddr_out hi (hρ x) h
  case field t x f => exact aField_out hi (hρ x) h
  case indexAddr t x i => exact aIndexAddr_out hi (hρ x) (hρ i) h
  case index t x i => exact aIndex_out hi (hρ x) (hρ i) h
  case extract x i => exact aExtract_out hi (hρ x) h
  case panic x =>
    split at h
    · rename_i t v hx
      have hr := hρ x
      rw [hx] at hr
      have hr' := hr
      generalize hv : ρ x = vv at hr hr'
      cases hr with
      | ifc h1 =>
        rename_i y
        have hrun : (execOp ρ ⟨dst, .panic x, ty, pos, after, guard⟩).run P w = .halt (.panic (.iface t y)) w := by
          show (do pure (Next.value (← Instr.panic (ρ x))) : Sem Next).run P w = _
          rw [hv]; rfl
        rw [hrun]
        exact ⟨G, σ, _, .refl G, hi, hr', h⟩
    · exact h.elim
  case call c =>
    obtain ⟨callee, args, ats⟩ := c
    cases callee with
    | builtin b =>
      show Out P G K Pn ((do let d ← resolve ρ ⟨.builtin b, args, ats⟩ ty; invoke d.target d.args : Sem Next).run P w)
      simp only [resolve, Sem.run_bind, Sem.run_pure, Result.andThen_ok, invoke]
      exact aBuiltin_out hi hρ h
    | value f => exact h.elim
    | invoke r m => exact h.elim
  all_goals exact h.elim

end Go.AW
