/- A layer of abstract values over the model's machine: own work for this claim, part AwCode. -/
import Derived.Test.YtknalmoackcpbaaGreatAwOps
import Derived.Orders
import Derived.Still
set_option linter.unusedSimpArgs false
set_option linter.unusedVariables false
namespace Go.AW
open Go Go.RowKit
variable {P : Program} {G : Gh} {σ : AS} {w : World} {K Pn : AV → AS → Prop}
def hasBody (P : Program) (f : FuncId) : Bool :=
  match P.funcs[f]? with
  | some fn => fn.body.isSome && !(fn.name == "runtime.NumGoroutine")
  | none => false
theorem hasBody_run {f : FuncId} (h : hasBody P f = true) (args : Array Value) : (callFunc f args).run P w = .ok (.enter f args) w := by
  unfold hasBody at h
  split at h
  · rename_i fn hf
    simp only [Bool.and_eq_true, Bool.not_eq_true'] at h
    have hb : fn.body.isNone = false := by
      cases hx : fn.body with
      | none => rw [hx] at h; simp at h
      | some c => rfl
    have hn : ¬ fn.name = "runtime.NumGoroutine" := by simpa using h.2
    have hb' : ¬ fn.body = none := by intro e; rw [e] at hb; simp at hb
    simp [callFunc, hf, hn, hb']
  · cases h
def RepL (P : Program) (G : Gh) (as : List AV) (vs : Array Value) : Prop := vs.size = as.length ∧ ∀ i, i < as.length → Rep P G (as.getD i .any) (vs.getD i undef)
def EndOk (P : Program) (G : Gh) (R Rp : AV → AS → Prop) : Ending → World → Prop
  | .returned v, w' => ∃ G' σ' r, G.Le G' ∧ Inv P G' σ' w' ∧ Rep P G' r v ∧ R r σ'
  | .panicked [e], w' => e.recovered = false ∧ e.goexit = false ∧ ∃ G' σ' r, G.Le G' ∧ Inv P G' σ' w' ∧ Rep P G' r e.v ∧ Rp r σ'
  | _, _ => False
structure ACalls (P : Program) (f : FuncId) (args : List AV) (σ : AS) (R Rp : AV → AS → Prop) : Prop where
  body : hasBody P f = true
  run : ∀ (G : Gh) (w : World) (vals : Array Value), Inv P G σ w → RepL P G args vals → Calls P f vals w (EndOk P G R Rp)
theorem ACalls.mono {f : FuncId} {args : List AV} {R Rp R' Rp' : AV → AS → Prop} (h : ACalls P f args σ R Rp) (h1 : ∀ r σ', R r σ' → R' r σ') (h2 : ∀ r σ', Rp r σ' → Rp' r σ') : ACalls P f args σ R' Rp' :=
  ⟨h.body, fun G w vals hi hr => (h.run G w vals hi hr).mono fun e w' he => by
    unfold EndOk at he ⊢
    split at he
    · obtain ⟨G', σ', r, a, b, c, d⟩ := he; exact ⟨G', σ', r, a, b, c, h1 _ _ d⟩
    · obtain ⟨x, y, G', σ', r, a, b, c, d⟩ := he; exact ⟨x, y, G', σ', r, a, b, c, h2 _ _ d⟩
    · exact he.elim⟩
def aop (P : Program) (s : Fr) (σ : AS) (K Pn : AV → AS → Prop) : Op → Prop
  | .move x => K (ev s x) σ
  | .assign x => K (ev s x) σ
  | .pick c a b => match ev s c with | .sc (.bool t) => K (if t then ev s a else ev s b) σ | _ => False
  | .alloc e => aAlloc P σ e K
  | .box e x => aBox P σ e (ev s x) K
  | .build t parts => aBuild P t (parts.toList.map fun p => (p.1, ev s p.2)) fun v => K v σ
  | .buildSlice t n parts => aBuildSlice P σ t n (parts.toList.map fun p => (p.1, ev s p.2)) K
  | .load t a => aLoad P σ t (ev s a) fun v => K v σ
  | .store t a x => aStore P σ t (ev s a) (ev s x) fun σ' => K .any σ'
  | .nilCheck x => aNilCheck (ev s x) fun v => K v σ
  | .binOp op t x y _ => aBin P op t (ev s x) (ev s y) fun v => K v σ
  | .unOp op _ x => aUn op (ev s x) fun v => K v σ
  | .convert src dst x => aConvert P src dst (ev s x) fun v => K v σ
  | .makeInterface t x => P.concrete t = true ∧ K (.ifc t (ev s x)) σ
  | .makeFunc f first cap => K (.fn f (first.toList.map (ev s)) (cap.toList.map (ev s))) σ
  | .makeMap _ r => r.isNone = true ∧ ∀ id, σ id = none → K (.mp id) (σ.set id (.map []))
  | .range t x => aRange P σ t (ev s x) K
  | .next it str => aNext σ (ev s it) str K
  | .entry it => aEntry σ (ev s it) fun v => K v σ
  | .makeSlice t l c => aMakeSlice P σ t (ev s l) (ev s c) K
  | .slice t x lo hi mx => aSlice P t (ev s x) (lo.map (ev s)) (hi.map (ev s)) (mx.map (ev s)) fun v => K v σ
  | .fieldAddr t x f => aFieldAddr P t (ev s x) f fun v => K v σ
  | .field t x f => aField P t (ev s x) f fun v => K v σ
  | .indexAddr t x i => aIndexAddr P t (ev s x) (ev s i) fun v => K v σ
  | .index t x i => aIndex P t (ev s x) (ev s i) fun v => K v σ
  | .extract x i => aExtract (ev s x) i fun v => K v σ
  | .panic x => match ev s x with | .ifc t v => Pn (.ifc t v) σ | _ => False
  | .call c => match c.callee with
    | .builtin b => aBuiltin P σ b c.argTypes.toList (c.args.toList.map (ev s)) K
    | _ => False
  | _ => False
theorem Inv.allocMap (h : Inv P G σ w) : ∃ G', G.Le G' ∧ G'.inj G.top = some w.heap.size ∧ Inv P G' (σ.set G.top (.map [])) (w.alloc (.map #[] 0)) := by
  have hle := G.bind_le w.heap.size (h.top _ (Nat.le_refl _)).1
  have hb := h.bind (.map #[] 0)
  refine ⟨_, hle, by simp [Gh.bind], hb.below, hb.base, hb.mem, hb.top, (fun i b e => ⟨(hb.injB i b e).1, (hb.injB i b e).2.1, fun ty cs hn => (hb.injB i b e).2.2 ty cs (by
    by_cases hi : i = G.top
    · subst hi; simp [AS.set] at hn
    · simpa [AS.set, hi] using hn)⟩), hb.inj1, ?_, ?_, ?_, ?_, hb.own⟩
  · intro i ty cs e
    by_cases hi : i = G.top
    · simp [AS.set, hi] at e
    · simp [AS.set, hi] at e; exact hb.cells i ty cs e
  · intro i es e
    by_cases hi : i = G.top
    · subst hi
      simp [AS.set] at e
      subst e
      exact ⟨w.heap.size, #[], 0, by simp [Gh.bind], heap_alloc_new w _, ⟨rfl, by constructor <;> simp⟩, fun k hk => by simp at hk⟩
    · simp [AS.set, hi] at e; exact hb.maps i es e
  · intro i s p e
    by_cases hi : i = G.top
    · simp [AS.set, hi] at e; subst e; cases p
    · simp [AS.set, hi] at e; exact hb.iters i s p e
  · intro i n e
    by_cases hi : i = G.top
    · simp [AS.set, hi] at e
    · simp [AS.set, hi] at e; exact hb.tok i n e
theorem optRep {s : Fr} {ρ : Operand → Value} (hρ : ∀ x, Rep P G (ev s x) (ρ x)) (o : Option Operand) : (o.map (ev s) = none ∧ o.map ρ = none) ∨ ∃ a b, o.map (ev s) = some a ∧ o.map ρ = some b ∧ Rep P G a b := by
  cases o with
  | none => exact .inl ⟨rfl, rfl⟩
  | some x => exact .inr ⟨_, _, rfl, rfl, hρ x⟩
theorem aop_out (hi : Inv P G σ w) {s : Fr} {ρ : Operand → Value} (hρ : ∀ x, Rep P G (ev s x) (ρ x)) (o : Oper) (h : aop P s σ K Pn o.op) : Out P G K Pn ((execOp ρ o).run P w) := by
  obtain ⟨dst, op, ty, pos, after, guard⟩ := o
  cases op <;> simp only [aop] at h
  case move x => exact ⟨G, σ, _, .refl G, hi, hρ x, h⟩
  case assign x => exact ⟨G, σ, _, .refl G, hi, hρ x, h⟩
  case pick c a b =>
    split at h
    · rename_i t hc
      have hr := hρ c
      rw [hc] at hr
      generalize hv : ρ c = v at hr
      cases hr
      have hrun : (execOp ρ ⟨dst, .pick c a b, ty, pos, after, guard⟩).run P w = .ok (.value (if t then ρ a else ρ b)) w := by
        simp [execOp, hv, asBool]
      rw [hrun]
      refine ⟨G, σ, _, .refl G, hi, ?_, h⟩
      cases t
      · exact hρ b
      · exact hρ a
    · exact h.elim
  case alloc e => exact aAlloc_out hi h
  case box e x => exact aBox_out hi (hρ x) h
  case build t parts => exact aBuild_out hi hρ h
  case buildSlice t n parts => exact aBuildSlice_out hi hρ h
  case load t a => exact aLoad_out hi (hρ a) h
  case store t a x => exact aStore_out hi (hρ a) (hρ x) h
  case nilCheck x => exact aNilCheck_out (o := ⟨dst, .nilCheck x, ty, pos, after, guard⟩) hi rfl (hρ x) h
  case binOp op t x y yt => exact aBin_out hi (hρ x) (hρ y) h
  case unOp op t x => exact aUn_out hi (hρ x) h
  case convert src dst x => exact aConvert_out hi (hρ x) h
  case makeInterface t x => exact Out.pure hi (run_makeInterface w t (ρ x) h.1) (.ifc (hρ x)) h.2
  case makeFunc f first cap =>
    refine Out.pure hi (v := .func f (first.map ρ) (cap.map ρ)) rfl ?_ h
    have := Rep.fn (P := P) (G := G) (f := f) (first := first.toList.map (ev s)) (captured := cap.toList.map (ev s)) (first.toList.map ρ) (cap.toList.map ρ) (by simp) (by simp)
      (fun i hi' => by simp at hi'; simp [List.getD_eq_getElem?_getD, hi']; exact hρ _) (fun i hi' => by simp at hi'; simp [List.getD_eq_getElem?_getD, hi']; exact hρ _)
    have e : ∀ a : Array Operand, (a.toList.map ρ).toArray = a.map ρ := fun a => by apply Array.ext'; simp
    rw [e, e] at this
    exact this
  case makeMap t r =>
    cases r with
    | none =>
      obtain ⟨G', g1, g2, g3⟩ := hi.allocMap
      refine Out.value (v := .map (some w.heap.size)) ?_ g1 g3 (.mp g2) (h.2 _ hi.fresh)
      simp [Instr.makeMap, run_newObj_alloc, Sem.run_bind]
    | some x => simp at h
  case range t x => exact aRange_out hi (hρ x) h
  case next it str => exact aNext_out hi (hρ it) h
  case entry it => exact aEntry_out hi (hρ it) h
  case makeSlice t l c => exact aMakeSlice_out hi (hρ l) (hρ c) h
  case slice t x lo hi' mx => exact aSlice_out hi (hρ x) (optRep hρ lo) (optRep hρ hi') (optRep hρ mx) h
  case fieldAddr t x f => exact aFieldAddr_out hi (hρ x) h
  case field t x f => exact aField_out hi (hρ x) h
  case indexAddr t x i => exact aIndexAddr_out hi (hρ x) (hρ i) h
  case index t x i => exact aIndex_out hi (hρ x) (hρ i) h
  case extract x i => exact aExtract_out hi (hρ x) h
  case panic x =>
    split at h
    · rename_i t v hx
      have hr := hρ x
      rw [hx] at hr
      have hr' := hr
      generalize hv : ρ x = vv at hr hr'
      cases hr with
      | ifc h1 =>
        rename_i y
        have hrun : (execOp ρ ⟨dst, .panic x, ty, pos, after, guard⟩).run P w = .halt (.panic (.iface t y)) w := by
          show (do pure (Next.value (← Instr.panic (ρ x))) : Sem Next).run P w = _
          rw [hv]; rfl
        rw [hrun]
        exact ⟨G, σ, _, .refl G, hi, hr', h⟩
    · exact h.elim
  case call c =>
    obtain ⟨callee, args, ats⟩ := c
    cases callee with
    | builtin b =>
      show Out P G K Pn ((do let d ← resolve ρ ⟨.builtin b, args, ats⟩ ty; invoke d.target d.args : Sem Next).run P w)
      simp only [resolve, Sem.run_bind, Sem.run_pure, Result.andThen_ok, invoke]
      exact aBuiltin_out hi hρ h
    | value f => exact h.elim
    | invoke r m => exact h.elim
  all_goals exact h.elim
end Go.AW

set_option linter.unusedSimpArgs false
set_option linter.unusedVariables false
namespace Go.AW
open Go Go.RowKit
variable {P : Program} {G : Gh} {σ : AS} {w : World}
inductive AExit where
  | normal | exit (id : Nat) | ret | panic (v : AV)
abbrev AQ := AExit → Fr → AS → Prop
def LQ (P : Program) (n : Nat) (ds : List Deferred) (Q : AQ) (G0 : Gh) : Exit → Act → World → Prop
  | .normal, a, w => ∃ G s σ, G0.Le G ∧ Sim P G n ds s σ a w ∧ Q .normal s σ
  | .exit id, a, w => ∃ G s σ, G0.Le G ∧ Sim P G n ds s σ a w ∧ Q (.exit id) s σ
  | .ret, a, w => ∃ G s σ, G0.Le G ∧ Sim P G n ds s σ a w ∧ Q .ret s σ
  | .panic [e], a, w => e.recovered = false ∧ e.goexit = false ∧ ∃ G s σ v, G0.Le G ∧ Sim P G n ds s σ a w ∧ Rep P G v e.v ∧ Q (.panic v) s σ
  | _, _, _ => False
def AWp (P : Program) (n : Nat) (ds : List Deferred) (c : Code) (Q : AQ) (s : Fr) (σ : AS) : Prop :=
  ∀ (G0 G : Gh) (a : Act) (w : World), G0.Le G → Sim P G n ds s σ a w → c.wp P (LQ P n ds Q G0) a w
def aCall (P : Program) (fv : AV) (args : List AV) (σ : AS) (K Kp : AV → AS → Prop) : Prop :=
  match fv with
  | .sc (.func (.func f) a b) => a.size = 0 ∧ b.size = 0 ∧ ∃ R Rp, ACalls P f args σ R Rp ∧ (∀ r σ', R r σ' → K r σ') ∧ (∀ r σ', Rp r σ' → Kp r σ')
  | .fn (.func f) first cap => ∃ R Rp, ACalls P f (first ++ args ++ cap) σ R Rp ∧ (∀ r σ', R r σ' → K r σ') ∧ (∀ r σ', Rp r σ' → Kp r σ')
  | _ => False
theorem aCall_cases {fv : AV} {args : List AV} {K Kp : AV → AS → Prop} (h : aCall P fv args σ K Kp) :
    (∃ f, fv = .sc (.func (.func f) #[] #[]) ∧ ∃ R Rp, ACalls P f args σ R Rp ∧ (∀ r σ', R r σ' → K r σ') ∧ (∀ r σ', Rp r σ' → Kp r σ')) ∨
    (∃ f first cap, fv = .fn (.func f) first cap ∧ ∃ R Rp, ACalls P f (first ++ args ++ cap) σ R Rp ∧ (∀ r σ', R r σ' → K r σ') ∧ (∀ r σ', Rp r σ' → Kp r σ')) := by
  unfold aCall at h
  split at h
  · rename_i f a b
    obtain ⟨h1, h2, h3⟩ := h
    have ha : a = #[] := Array.size_eq_zero_iff.1 h1
    have hb : b = #[] := Array.size_eq_zero_iff.1 h2
    subst ha hb
    exact .inl ⟨f, rfl, h3⟩
  · exact .inr ⟨_, _, _, rfl, h⟩
  · exact h.elim
def runOp (P : Program) (op : Op) (s : Fr) (σ : AS) (Kv Kp : AV → AS → Prop) : Prop :=
  match op with
  | .call ⟨.value f, args, _⟩ => aCall P (ev s f) (args.toList.map (ev s)) σ Kv Kp
  | op => aop P s σ Kv Kp op
def stepOp (P : Program) (n : Nat) (o : Oper) (s : Fr) (σ : AS) (K : Fr → AS → Prop) (Q : AQ) : Prop :=
  (match o.dst with | none => True | some d => d < n) ∧ runOp P o.op s σ (fun v σ' => K (s.put o.dst v) σ') (fun v σ' => Q (.panic v) s σ')
def guardAV (ops : Array Oper) (s : Fr) (j : Nat) : AV := match (ops[j]?).bind (·.dst) with | some d => s d | none => .any
abbrev skipV : AV := .sc undef
def gYes : AV → Bool → Bool
  | .sc (.bool b), w => b == w
  | _, _ => false
def gNo : AV → Bool → Bool
  | .sc (.bool b), w => b != w
  | .sc (.tuple _), _ => true
  | _, _ => false
def onGuard (g : AV) (want : Bool) (A B : Prop) : Prop := (gYes g want = true ∧ A) ∨ (gNo g want = true ∧ B)
theorem onGuard_map {g : AV} {want : Bool} {A B A' B' : Prop} (h : onGuard g want A B) (h1 : A → A') (h2 : B → B') : onGuard g want A' B' :=
  h.imp (fun h => ⟨h.1, h1 h.2⟩) (fun h => ⟨h.1, h2 h.2⟩)
def guardOp (P : Program) (n : Nat) (ops : Array Oper) (o : Oper) (s : Fr) (σ : AS) (K : Fr → AS → Prop) (Q : AQ) : Prop :=
  match o.guard with
  | none => stepOp P n o s σ K Q
  | some (j, want) => onGuard (guardAV ops s j) want (stepOp P n o s σ K Q) ((match o.dst with | none => True | some d => d < n) ∧ K (s.put o.dst skipV) σ)
def awpOps (P : Program) (n : Nat) (ops : Array Oper) (Q : AQ) : List Oper → Fr → AS → Prop
  | [], s, σ => Q .normal s σ
  | o :: rest, s, σ => guardOp P n ops o s σ (awpOps P n ops Q rest) Q
theorem upon_mono {o : Oper} {a : Act} {next next' : Act → World → Prop} {Q : Exit → Act → World → Prop} {r : Result Next} (h : ∀ a w, next a w → next' a w) (hh : o.upon P a next Q r) : o.upon P a next' Q r := by
  cases r with
  | ok n w' =>
    cases n <;> simp only [Oper.upon] at hh ⊢ <;>
      first
        | exact h _ _ hh
        | exact Calls.mono hh (fun e w'' he => by cases e <;> first | exact h _ _ he | exact he)
        | exact Rows.mono hh (fun _ _ he => h _ _ he)
  | halt x w' => cases x <;> simp only [Oper.upon] at hh ⊢ <;> exact hh
theorem stepOp_ok {n : Nat} {ds : List Deferred} {G0 : Gh} (o : Oper) {s : Fr} {K : Fr → AS → Prop} {Q : AQ} (h : stepOp P n o s σ K Q) (hle : G0.Le G) {a : Act} (hs : Sim P G n ds s σ a w)
    {next : Act → World → Prop} (hn : ∀ G' s' σ' a' w', G0.Le G' → Sim P G' n ds s' σ' a' w' → K s' σ' → next a' w') : o.wp P a w next (LQ P n ds Q G0) := by
  obtain ⟨hd, h⟩ := h
  have hd' : ∀ t, o.dst = some t → t < n := by intro t ht; rw [ht] at hd; exact hd
  have hrho := hs.ev
  -- what is no call
  have plain : aop P s σ (fun v σ' => K (s.put o.dst v) σ') (fun v σ' => Q (.panic v) s σ') o.op → o.wp P a w next (LQ P n ds Q G0) := by
    intro h
    have := aop_out hs.inv hrho o h
    unfold Oper.wp
    generalize (execOp a.eval o).run P w = r at this ⊢
    cases r with
    | ok nx w' =>
      cases nx <;> simp only [Out] at this <;> first | exact this.elim | skip
      · obtain ⟨G', σ', av, g1, g2, g3, g4⟩ := this
        exact hn G' _ _ _ _ (hle.trans g1) (hs.put g1 g2 o.dst hd' g3) g4
      · obtain ⟨G', σ', av, g1, g2, g3, g4⟩ := this
        exact hn G' _ _ _ _ (hle.trans g1) (hs.put g1 g2 o.dst hd' g3) g4
    | halt x w' =>
      cases x <;> simp only [Out] at this <;> first | exact this.elim | skip
      obtain ⟨G', σ', av, g1, g2, g3, g4⟩ := this
      exact ⟨rfl, rfl, G', s, σ', av, hle.trans g1, ⟨g2, hs.size, hs.ds, fun i => (hs.rep i).mono g1⟩, g3, g4⟩
  obtain ⟨dst, op, ty, pos, after, guard⟩ := o
  have callCase : ∀ (f : Operand) (args : Array Operand) (ats : Array TypeId), op = .call ⟨.value f, args, ats⟩ →
      aCall P (ev s f) (args.toList.map (ev s)) σ (fun v σ' => K (s.put dst v) σ') (fun v σ' => Q (.panic v) s σ') → Oper.wp P ⟨dst, op, ty, pos, after, guard⟩ a w next (LQ P n ds Q G0) := by
    intro f args ats hop h
    subst hop
    have hf := hrho f
    have fin : ∀ (fid : FuncId) (as : List AV) (vals : Array Value) (R Rp : AV → AS → Prop), ACalls P fid as σ R Rp → RepL P G as vals → (∀ r σ', R r σ' → K (s.put dst r) σ') → (∀ r σ', Rp r σ' → Q (.panic r) s σ') →
        (execOp a.eval ⟨dst, .call ⟨.value f, args, ats⟩, ty, pos, after, guard⟩).run P w = .ok (.enter fid vals) w → Oper.wp P ⟨dst, .call ⟨.value f, args, ats⟩, ty, pos, after, guard⟩ a w next (LQ P n ds Q G0) := by
      intro fid as vals R Rp hc hr h1 h2 hrun
      unfold Oper.wp
      rw [hrun, Oper.upon_enter]
      refine (hc.run G w vals hs.inv hr).mono fun e w' he => ?_
      unfold EndOk at he
      split at he
      · obtain ⟨G', σ', r, g1, g2, g3, g4⟩ := he
        exact hn G' _ _ _ _ (hle.trans g1) (hs.put g1 g2 dst hd' g3) (h1 _ _ g4)
      · obtain ⟨x, y, G', σ', r, g1, g2, g3, g4⟩ := he
        exact ⟨x, y, G', s, σ', r, hle.trans g1, ⟨g2, hs.size, hs.ds, fun i => (hs.rep i).mono g1⟩, g3, h2 _ _ g4⟩
      · exact he.elim
    have hargs : RepL P G (args.toList.map (ev s)) (args.map a.eval) := ⟨by simp, fun i hi => by
      simp at hi
      simp [List.getD_eq_getElem?_getD, hi]
      exact hrho _⟩
    rcases aCall_cases h with ⟨fid, hfe, R, Rp, hc, h1, h2⟩ | ⟨fid, first, cap, hfe, R, Rp, hc, h1, h2⟩
    · rw [hfe] at hf
      generalize hv : a.eval f = v at hf
      cases hf
      refine fin fid _ _ R Rp hc hargs h1 h2 ?_
      show (do let d ← resolve a.eval ⟨.value f, args, ats⟩ ty; invoke d.target d.args : Sem Next).run P w = _
      simp only [resolve, hv, Deferred.ofValue, Sem.run_bind, Sem.run_pure, Result.andThen_ok, invoke]
      have := hasBody_run (w := w) hc.body (args.map a.eval)
      simpa using this
    · rw [hfe] at hf
      generalize hv : a.eval f = v at hf
      cases hf with
      | fn vf vc lf lc hff hcc =>
        refine fin fid _ (vf.toArray ++ args.map a.eval ++ vc.toArray) R Rp hc ?_ h1 h2 ?_
        · refine ⟨by simp [lf, lc], fun i hi => ?_⟩
          simp only [List.length_append, List.length_map, Array.length_toList] at hi
          have e1 : (vf.toArray ++ args.map a.eval ++ vc.toArray).getD i undef = (vf ++ (args.toList.map a.eval) ++ vc).getD i undef := by
            have : vf.toArray ++ args.map a.eval ++ vc.toArray = (vf ++ (args.toList.map a.eval) ++ vc).toArray := by apply Array.ext'; simp
            rw [this]; simp [List.getD_eq_getElem?_getD]
          rw [e1]
          by_cases h3 : i < first.length
          · rw [getD_append_left _ _ _ (by simp; omega), getD_append_left _ _ _ h3, getD_append_left _ _ _ (by simp; omega), getD_append_left _ _ _ (by omega)]
            exact hff i h3
          · by_cases h4 : i < first.length + args.size
            · rw [getD_append_left _ _ _ (by simp; omega), getD_append_right _ _ _ (by omega), getD_append_left _ _ _ (by simp; omega), getD_append_right _ _ _ (by omega), lf]
              have := hargs.2 (i - first.length) (by simp; omega)
              have e2 : (args.map a.eval).getD (i - first.length) undef = (args.toList.map a.eval).getD (i - first.length) undef := by
                have : args.map a.eval = (args.toList.map a.eval).toArray := by apply Array.ext'; simp
                rw [this]; simp [List.getD_eq_getElem?_getD]
              rw [e2] at this
              exact this
            · rw [getD_append_right _ _ _ (by simp; omega), getD_append_right _ _ _ (by simp; omega)]
              have e3 : i - (first ++ List.map (ev s) args.toList).length = i - first.length - args.size := by have e0 : args.toList.length = args.size := Array.length_toList; rw [List.length_append, List.length_map, e0]; omega
              have e4 : i - (vf ++ List.map a.eval args.toList).length = i - first.length - args.size := by have e0 : args.toList.length = args.size := Array.length_toList; rw [List.length_append, List.length_map, e0]; omega
              rw [e3, e4]
              exact hcc _ (by omega)
        · show (do let d ← resolve a.eval ⟨.value f, args, ats⟩ ty; invoke d.target d.args : Sem Next).run P w = _
          simp only [resolve, hv, Deferred.ofValue, Sem.run_bind, Sem.run_pure, Result.andThen_ok, invoke]
          exact hasBody_run (w := w) hc.body _
  simp only at h plain
  unfold runOp at h
  cases op
  case call c =>
    obtain ⟨callee, args, ats⟩ := c
    cases callee
    case value f => exact callCase f args ats rfl h
    all_goals exact plain h
  all_goals exact plain h
theorem guardOp_ok {n : Nat} {ds : List Deferred} {G0 : Gh} {ops : Array Oper} (o : Oper) {s : Fr} {K : Fr → AS → Prop} {Q : AQ} (h : guardOp P n ops o s σ K Q) (hle : G0.Le G) {a : Act} (hs : Sim P G n ds s σ a w)
    {next : Act → World → Prop} (hn : ∀ G' s' σ' a' w', G0.Le G' → Sim P G' n ds s' σ' a' w' → K s' σ' → next a' w') :
    if Region.wanted o (yielded ops a.tmps) then o.wp P a w next (LQ P n ds Q G0) else next (a.put o.dst undef) w := by
  unfold guardOp at h
  split at h
  · rename_i hg
    rw [if_pos (by simp [Region.wanted, hg])]
    exact stepOp_ok o h hle hs hn
  · rename_i j want hg
    have read : ∀ v, guardAV ops s j = .sc v → yielded ops a.tmps j = (match v with | .bool b => some b | _ => none) := by
      intro v hb
      unfold guardAV at hb
      split at hb
      · rename_i d hd
        have hr := hs.rep d
        rw [hb] at hr
        generalize hv : a.tmps.getD d undef = u at hr
        cases hr
        simp only [yielded, hd, Option.bind_some]
        rw [Array.getD_eq_getD_getElem?] at hv
        cases hx : a.tmps[d]? with
        | none => rw [hx] at hv; simp only [Option.getD_none] at hv; subst hv; rfl
        | some y => rw [hx] at hv; simp only [Option.getD_some] at hv; subst hv; cases y <;> rfl
      · cases hb
    rcases h with ⟨hg1, h⟩ | ⟨hg1, h⟩
    · unfold gYes at hg1
      split at hg1
      · rename_i b _ hb
        have hy := read _ hb
        rw [if_pos (by simp only [Region.wanted, hg, hy]; simpa using hg1)]
        exact stepOp_ok o h hle hs hn
      · cases hg1
    · have hd' : ∀ t, o.dst = some t → t < n := by intro t ht; have := h.1; rw [ht] at this; exact this
      have fin : ¬ (Region.wanted o (yielded ops a.tmps) = true) := by
        unfold gNo at hg1
        split at hg1
        · rename_i b _ hb
          have hy := read _ hb
          simp only [Region.wanted, hg, hy]
          simpa using hg1
        · rename_i vs _ hb
          have hy := read _ hb
          simp only [Region.wanted, hg, hy]
          simp
        · cases hg1
      rw [if_neg fin]
      exact hn G _ _ _ _ hle (hs.put (.refl G) hs.inv o.dst hd' (.sc _)) h.2
theorem awpOps_ok {n : Nat} {ds : List Deferred} {G0 : Gh} {ops : Array Oper} {Q : AQ} : ∀ (l : List Oper) (G : Gh) (s : Fr) (σ : AS) (a : Act) (w : World), awpOps P n ops Q l s σ → G0.Le G → Sim P G n ds s σ a w →
    wpList P ops (LQ P n ds Q G0) l a w := by
  intro l
  induction l with
  | nil => intro G s σ a w h hle hs; exact ⟨G, s, σ, hle, hs, h⟩
  | cons o rest ih =>
    intro G s σ a w h hle hs
    have := guardOp_ok o h hle hs (next := wpList P ops (LQ P n ds Q G0) rest) (fun G' s' σ' a' w' h1 h2 h3 => ih G' s' σ' a' w' h3 h1 h2)
    unfold wpList
    by_cases hw : Region.wanted o (yielded ops a.tmps) = true
    · rw [if_pos hw] at this ⊢; exact .inl this
    · rw [if_neg hw] at this ⊢; exact this
/-! ## the rules -/
section rules
variable {n : Nat} {ds : List Deferred} {Q : AQ} {s : Fr}
def thenQ (K : Fr → AS → Prop) (Q : AQ) : AQ
  | .normal, s, σ => K s σ
  | e, s, σ => Q e s σ
def inBlockQ (id : Nat) (Q : AQ) : AQ
  | .exit id', s, σ => if id' = id then Q .normal s σ else Q (.exit id') s σ
  | e, s, σ => Q e s σ
theorem LQ.mono {Q Q' : AQ} {G0 : Gh} (h : ∀ e s σ, Q e s σ → Q' e s σ) {e : Exit} {a : Act} {w : World} (hh : LQ P n ds Q G0 e a w) : LQ P n ds Q' G0 e a w := by
  unfold LQ at hh ⊢
  split at hh
  · obtain ⟨G, s, σ, a1, a2, a3⟩ := hh; exact ⟨G, s, σ, a1, a2, h _ _ _ a3⟩
  · obtain ⟨G, s, σ, a1, a2, a3⟩ := hh; exact ⟨G, s, σ, a1, a2, h _ _ _ a3⟩
  · obtain ⟨G, s, σ, a1, a2, a3⟩ := hh; exact ⟨G, s, σ, a1, a2, h _ _ _ a3⟩
  · obtain ⟨x, y, G, s, σ, v, a1, a2, a3, a4⟩ := hh; exact ⟨x, y, G, s, σ, v, a1, a2, a3, h _ _ _ a4⟩
  · exact hh.elim
theorem AWp.mono {c : Code} {Q' : AQ} (hh : AWp P n ds c Q s σ) (h : ∀ e s σ, Q e s σ → Q' e s σ) : AWp P n ds c Q' s σ :=
  fun G0 G a w h1 h2 => wp_mono (hh G0 G a w h1 h2) fun _ _ _ => LQ.mono h
theorem AWp.seq {x y : Code} (h : AWp P n ds x (thenQ (AWp P n ds y Q) Q) s σ) : AWp P n ds (.seq x y) Q s σ := by
  intro G0 G a w h1 h2
  refine wp_seq (wp_mono (h G0 G a w h1 h2) fun e a' w' hq => ?_)
  unfold LQ at hq
  split at hq
  · obtain ⟨G', s', σ', a1, a2, a3⟩ := hq; exact a3 G0 G' _ _ a1 a2
  · obtain ⟨G', s', σ', a1, a2, a3⟩ := hq; exact ⟨G', s', σ', a1, a2, a3⟩
  · obtain ⟨G', s', σ', a1, a2, a3⟩ := hq; exact ⟨G', s', σ', a1, a2, a3⟩
  · obtain ⟨x, y, G', s', σ', v, a1, a2, a3, a4⟩ := hq; exact ⟨x, y, G', s', σ', v, a1, a2, a3, a4⟩
  · exact hq.elim
theorem AWp.skip (h : Q .normal s σ) : AWp P n ds .skip Q s σ := fun G0 G a w h1 h2 => wp_skip ⟨G, s, σ, h1, h2, h⟩
theorem AWp.exit {id : Nat} (h : Q (.exit id) s σ) : AWp P n ds (.exit id) Q s σ := fun G0 G a w h1 h2 => wp_exit ⟨G, s, σ, h1, h2, h⟩
theorem AWp.ret (h : Q .ret s σ) : AWp P n ds .ret Q s σ := fun G0 G a w h1 h2 => wp_ret ⟨G, s, σ, h1, h2, h⟩
theorem AWp.label {l : Nat} (h : Q .normal s σ) : AWp P n ds (.label l) Q s σ := fun G0 G a w h1 h2 => wp_label ⟨G, s, σ, h1, h2, h⟩
theorem AWp.cond {c : Operand} {x y : Code} {t : Bool} (hc : ev s c = .sc (.bool t)) (ht : t = true → AWp P n ds x Q s σ) (hf : t = false → AWp P n ds y Q s σ) : AWp P n ds (.cond c x y) Q s σ := by
  intro G0 G a w h1 h2
  have hr := h2.ev c
  rw [hc] at hr
  have he : a.eval c = .bool t := by
    generalize a.eval c = v at hr
    cases hr; rfl
  exact wp_cond_split he (fun e => ht e G0 G a w h1 h2) (fun e => hf e G0 G a w h1 h2)
theorem AWp.block {id : Nat} {c : Code} (h : AWp P n ds c (inBlockQ id Q) s σ) : AWp P n ds (.block id c) Q s σ := by
  intro G0 G a w h1 h2
  refine wp_block (wp_mono (h G0 G a w h1 h2) fun e a' w' hq => ?_)
  unfold LQ at hq
  split at hq
  · obtain ⟨G', s', σ', a1, a2, a3⟩ := hq; exact ⟨G', s', σ', a1, a2, a3⟩
  · rename_i id'
    obtain ⟨G', s', σ', a1, a2, a3⟩ := hq
    simp only [Exit.inBlock, inBlockQ] at a3 ⊢
    split
    · rename_i hid; rw [if_pos hid] at a3; exact ⟨G', s', σ', a1, a2, a3⟩
    · rename_i hid; rw [if_neg hid] at a3; exact ⟨G', s', σ', a1, a2, a3⟩
  · obtain ⟨G', s', σ', a1, a2, a3⟩ := hq; exact ⟨G', s', σ', a1, a2, a3⟩
  · obtain ⟨x, y, G', s', σ', v, a1, a2, a3, a4⟩ := hq; exact ⟨x, y, G', s', σ', v, a1, a2, a3, a4⟩
  · exact hq.elim
theorem AWp.region {id : Nat} {l : List Oper} (h : awpOps P n l.toArray Q l s σ) : AWp P n ds (.region id l.toArray false) Q s σ :=
  fun G0 G a w h1 h2 => wp_region_lit (awpOps_ok l G s σ a w h h1 h2)
def AV.Wk (P : Program) (v v' : AV) : Prop := ∀ G x, Rep P G v x → Rep P G v' x
def FrWk (P : Program) (s s' : Fr) : Prop := ∀ i, AV.Wk P (s i) (s' i)
theorem Sim.weaken {s' : Fr} {σ' : AS} {a : Act} (h : Sim P G n ds s σ a w) (h1 : FrWk P s s') (h2 : AS.le σ' σ) : Sim P G n ds s' σ' a w :=
  ⟨h.inv.weaken h2, h.size, h.ds, fun i => h1 i _ _ (h.rep i)⟩
theorem AWp.weaken {c : Code} {s' : Fr} {σ' : AS} (h : AWp P n ds c Q s' σ') (h1 : FrWk P s s') (h2 : AS.le σ' σ) : AWp P n ds c Q s σ :=
  fun G0 G a w g1 g2 => h G0 G a w g1 (g2.weaken h1 h2)
theorem AWp.loop {c : Code} (I : Nat → Fr → AS → Prop) {k0 : Nat} {s0 : Fr} {σ0 : AS} (h0 : I k0 s0 σ0) (hs : FrWk P s s0) (hσ : AS.le σ0 σ)
    (hr : ∀ k s σ, I k s σ → AWp P n ds c (thenQ (fun s' σ' => ∃ k' s1 σ1, k' < k ∧ FrWk P s' s1 ∧ AS.le σ1 σ' ∧ I k' s1 σ1) Q) s σ) : AWp P n ds (.loop c) Q s σ := by
  intro G0 G a w h1 h2
  let J : Nat → Act → World → Prop := fun k a w => ∃ G s σ, G0.Le G ∧ Sim P G n ds s σ a w ∧ I k s σ
  have lst : ∀ (a : Act) (w : World), (∃ k, J k a w) → ∃ k, J k a w ∧ ∀ j, J j a w → k ≤ j := by
    intro a w h
    obtain ⟨k, hk⟩ := h
    induction k using Nat.strongRecOn with
    | _ k ih =>
      by_cases hex : ∃ j, j < k ∧ J j a w
      · obtain ⟨j, hj, hJ⟩ := hex
        exact ih j hj hJ
      · exact ⟨k, hk, fun j hj => Nat.le_of_not_lt fun hlt => hex ⟨j, hlt, hj⟩⟩
  let μ : Act → World → Nat := fun a w => @dite _ (∃ k, J k a w) (Classical.propDecidable _) (fun h => Classical.choose (lst a w h)) (fun _ => 0)
  have hμ : ∀ a w (h : ∃ k, J k a w), J (μ a w) a w ∧ ∀ j, J j a w → μ a w ≤ j := by
    intro a w h
    have e : μ a w = Classical.choose (lst a w h) := dif_pos h
    rw [e]
    exact Classical.choose_spec (lst a w h)
  refine wp_loop (fun a w => ∃ k, J k a w) μ ⟨k0, G, s0, σ0, h1, h2.weaken hs hσ, h0⟩ fun a w hJ => ?_
  obtain ⟨⟨G1, s1, σ1, g1, g2, g3⟩, hmin⟩ := hμ a w hJ
  refine wp_mono (hr _ _ _ g3 G0 G1 a w g1 g2) fun e a' w' hq => ?_
  unfold LQ at hq
  split at hq
  · obtain ⟨G', s', σ', a1, a2, k', s2, σ2, a3, a4, a5, a6⟩ := hq
    have hJ' : J k' a' w' := ⟨G', s2, σ2, a1, a2.weaken a4 a5, a6⟩
    exact ⟨⟨k', hJ'⟩, Nat.lt_of_le_of_lt ((hμ a' w' ⟨k', hJ'⟩).2 k' hJ') a3⟩
  · obtain ⟨G', s', σ', a1, a2, a3⟩ := hq; exact ⟨G', s', σ', a1, a2, a3⟩
  · obtain ⟨G', s', σ', a1, a2, a3⟩ := hq; exact ⟨G', s', σ', a1, a2, a3⟩
  · obtain ⟨x, y, G', s', σ', v, a1, a2, a3, a4⟩ := hq; exact ⟨x, y, G', s', σ', v, a1, a2, a3, a4⟩
  · exact hq.elim
end rules
/-! ## functions -/
def frOf (args : List AV) : Fr := fun i => args.getD i .any
def resAV (rs : List ResultVar) (P : Program) (s : Fr) (σ : AS) (K : List AV → Prop) : Prop :=
  match rs with
  | [] => K []
  | .tmp t :: r => resAV r P s σ fun vs => K (s t :: vs)
  | .cell a t :: r => aLoad P σ t (s a) fun v => resAV r P s σ fun vs => K (v :: vs)
def packAV : List AV → AV
  | [v] => v
  | vs => .tup vs
def bodyQ (P : Program) (rs : List ResultVar) (R Rp : AV → AS → Prop) : AQ
  | .normal, s, σ => resAV rs P s σ fun vs => ∃ r' σ', AV.Wk P (packAV vs) r' ∧ AS.le σ' σ ∧ R r' σ'
  | .ret, s, σ => resAV rs P s σ fun vs => ∃ r' σ', AV.Wk P (packAV vs) r' ∧ AS.le σ' σ ∧ R r' σ'
  | .panic v, s, σ => ∃ σ', AS.le σ' σ ∧ Rp v σ'
  | _, _, _ => False
theorem aLoad_run {t : TypeId} {x : AV} {v : Value} {K : AV → Prop} (hi : Inv P G σ w) (hx : Rep P G x v) (h : aLoad P σ t x K) :
    ∃ y av, (do let a ← asAddr v; loadVar t a : Sem Value).run P w = .ok y w ∧ Rep P G av y ∧ K av := by
  obtain ⟨a, y, av, rfl, h1, h2, h3⟩ := aLoad_val hi hx h
  exact ⟨y, av, by simpa [asAddr] using h1, h2, h3⟩
def resVar (tmps : Array Value) : ResultVar → Sem Value
  | .tmp t => pure (tmps.getD t undef)
  | .cell p t => do loadVar t (← asAddr (tmps.getD p undef))
theorem results_eq (fn : Func) (tmps : Array Value) : results fn tmps = (do
    let vs ← fn.results.mapM (resVar tmps)
    pure (if h : vs.size = 1 then vs[0] else Value.tuple vs)) := by
  unfold results
  congr 1
theorem results_ok {n : Nat} {ds : List Deferred} {s : Fr} {a : Act} (hs : Sim P G n ds s σ a w) : ∀ (rs : List ResultVar) (K : List AV → Prop), resAV rs P s σ K →
    ∃ ys vs, (rs.mapM (resVar a.tmps)).run P w = .ok ys w ∧ ys.length = vs.length ∧ (∀ i, i < vs.length → Rep P G (vs.getD i .any) (ys.getD i undef)) ∧ K vs := by
  intro rs
  induction rs with
  | nil => intro K h; exact ⟨[], [], by simp, rfl, by simp, h⟩
  | cons r rs ih =>
    intro K h
    cases r with
    | tmp t =>
      obtain ⟨ys, vs, h1, h2, h3, h4⟩ := ih _ h
      refine ⟨a.tmps.getD t undef :: ys, s t :: vs, ?_, by simp [h2], fun i hi => ?_, h4⟩
      · simp only [List.mapM_cons, Sem.run_bind, resVar, Sem.run_pure, Result.andThen_ok, h1]
      · cases i with
        | zero => simpa using hs.rep t
        | succ i => simpa using h3 i (by simpa using hi)
    | cell p t =>
      obtain ⟨y, av, k1, k2, k3⟩ := aLoad_run hs.inv (hs.rep p) h
      obtain ⟨ys, vs, h1, h2, h3, h4⟩ := ih _ k3
      refine ⟨y :: ys, av :: vs, ?_, by simp [h2], fun i hi => ?_, h4⟩
      · simp only [List.mapM_cons, Sem.run_bind, resVar] at k1 ⊢
        rw [k1]
        simp only [Sem.run_pure, Result.andThen_ok, h1]
      · cases i with
        | zero => simpa using k2
        | succ i => simpa using h3 i (by simpa using hi)
theorem results_fn {n : Nat} {ds : List Deferred} {s : Fr} {a : Act} (hs : Sim P G n ds s σ a w) (fn : Func) (K : List AV → Prop) (h : resAV fn.results.toList P s σ K) :
    ∃ v vs, (results fn a.tmps).run P w = .ok v w ∧ Rep P G (packAV vs) v ∧ K vs := by
  obtain ⟨ys, vs, h1, h2, h3, h4⟩ := results_ok hs fn.results.toList K h
  refine ⟨if h : ys.toArray.size = 1 then ys.toArray[0] else .tuple ys.toArray, vs, ?_, ?_, h4⟩
  · have h1' : (fn.results.mapM (resVar a.tmps)).run P w = .ok ys.toArray w := by
      rw [Array.mapM_eq_mapM_toList]
      simp only [Sem.run_map, h1]
      rfl
    rw [results_eq, Sem.run_bind, h1']
    rfl
  · unfold packAV
    split
    · rename_i v
      have hl : ys.length = 1 := by simpa using h2
      have := h3 0 (by simp)
      rw [dif_pos (by simpa using hl)]
      have e : ys.toArray[0]'(by simp [hl]) = ys.getD 0 undef := by
        simp [List.getD_eq_getElem?_getD, hl]
      rw [e]
      simpa using this
    · rename_i hne
      have hl : ys.length ≠ 1 := by
        intro e
        rw [h2] at e
        match vs, e with
        | [v], _ => exact hne v rfl
      rw [dif_neg (by simpa using hl)]
      exact .tup ys h2 h3
theorem ACalls.of_body {f : FuncId} {fn : Func} {c : Code} {args : List AV} {R Rp : AV → AS → Prop} (hf : P.funcs[f]? = some fn) (hb : fn.body = some c) (hn : (fn.name == "runtime.NumGoroutine") = false)
    (ha : args.length ≤ fn.ntmps) (h : AWp P fn.ntmps [] c (bodyQ P fn.results.toList R Rp) (frOf args) σ) : ACalls P f args σ R Rp := by
  refine ⟨by simp [hasBody, hf, hb, hn], fun G w vals hi hr => calls_of_wp hf hb ?_⟩
  have hsim : Sim P G fn.ntmps [] (frOf args) σ { tmps := vals ++ Array.replicate (fn.ntmps - vals.size) undef, defers := [] } w := by
    refine ⟨hi, by simp [hr.1]; omega, rfl, fun i => ?_⟩
    by_cases hlt : i < args.length
    · have e1 : (vals ++ Array.replicate (fn.ntmps - vals.size) undef).getD i undef = vals.getD i undef := by
        rw [Array.getD_eq_getD_getElem?, Array.getElem?_append_left (by rw [hr.1]; exact hlt), ← Array.getD_eq_getD_getElem?]
      simp only [e1]
      exact hr.2 i hlt
    · have : frOf args i = .any := by simp [frOf, List.getD_eq_getElem?_getD, List.getElem?_eq_none (Nat.le_of_not_lt hlt)]
      rw [this]
      exact .any _
  refine wp_mono (h G G _ w (.refl G) hsim) fun e a' w' hq => ?_
  have fin : ∀ (s' : Fr) (σ' : AS) (G' : Gh), G.Le G' → Sim P G' fn.ntmps [] s' σ' a' w' → (resAV fn.results.toList P s' σ' fun vs => ∃ r' σ'', AV.Wk P (packAV vs) r' ∧ AS.le σ'' σ' ∧ R r' σ'') →
      a'.defers = [] ∧ ∃ v, (results fn a'.tmps).run P w' = .ok v w' ∧ EndOk P G R Rp (.returned v) w' := by
    intro s' σ' G' h1 h2 h3
    obtain ⟨v, vs, k1, k2, r', σ'', k3, k4, k5⟩ := results_fn h2 fn _ h3
    exact ⟨h2.ds, v, k1, G', σ'', r', h1, h2.inv.weaken k4, k3 _ _ k2, k5⟩
  unfold LQ at hq
  split at hq
  · obtain ⟨G', s', σ', a1, a2, a3⟩ := hq; exact fin s' σ' G' a1 a2 a3
  · obtain ⟨G', s', σ', a1, a2, a3⟩ := hq; exact a3.elim
  · obtain ⟨G', s', σ', a1, a2, a3⟩ := hq; exact fin s' σ' G' a1 a2 a3
  · obtain ⟨x, y, G', s', σ', v, a1, a2, a3, σ'', a4, a5⟩ := hq
    exact ⟨a2.ds, x, y, G', σ'', v, a1, a2.inv.weaken a4, a3, a5⟩
  · exact hq.elim
end Go.AW

set_option linter.unusedSimpArgs false
set_option linter.unusedVariables false
namespace Go.AW
open Go Go.RowKit
variable {P : Program} {G : Gh} {σ : AS} {w : World}
def gop (P : Program) (ops : Array Oper) (n : Nat) (o : Oper) (s : Fr) (σ : AS) (Kv Kp : AV → AS → Prop) : Prop :=
  (match o.dst with | none => True | some d => d < n) ∧
  match o.guard with
  | none => runOp P o.op s σ Kv Kp
  | some (j, want) => onGuard (guardAV ops s j) want (runOp P o.op s σ Kv Kp) (Kv skipV σ)
theorem guardOp_eq (n : Nat) (ops : Array Oper) (o : Oper) (s : Fr) (K : Fr → AS → Prop) (Q : AQ) :
    guardOp P n ops o s σ K Q ↔ gop P ops n o s σ (fun v σ' => K (s.put o.dst v) σ') (fun v σ' => Q (.panic v) s σ') := by
  unfold guardOp gop
  cases hg : o.guard with
  | none => exact Iff.rfl
  | some p =>
    obtain ⟨j, want⟩ := p
    simp only
    constructor
    · rintro (⟨hb, h⟩ | ⟨hb, h⟩)
      · exact ⟨h.1, .inl ⟨hb, h.2⟩⟩
      · exact ⟨h.1, .inr ⟨hb, h.2⟩⟩
    · intro h
      exact onGuard_map h.2 (fun x => ⟨h.1, x⟩) (fun x => ⟨h.1, x⟩)
/-! ### what an operation looks at -/
theorem aop_congr {s s' : Fr} {K Pn : AV → AS → Prop} (op : Op) (h : ∀ x ∈ op.operands, ev s x = ev s' x) : aop P s σ K Pn op = aop P s' σ K Pn op := by
  have mp : ∀ (parts : Array (Nat × Operand)), (∀ x ∈ ((parts.toList.map (·.2)).toArray : Array Operand), ev s x = ev s' x) →
      (parts.toList.map fun p => (p.1, ev s p.2)) = (parts.toList.map fun p => (p.1, ev s' p.2)) := by
    intro parts hp
    refine List.map_congr_left fun p hm => ?_
    rw [hp p.2 (by simp; exact ⟨p.1, by simpa using hm⟩)]
  have ma : ∀ (xs : Array Operand), (∀ x ∈ xs, ev s x = ev s' x) → xs.toList.map (ev s) = xs.toList.map (ev s') := by
    intro xs hp
    exact List.map_congr_left fun x hm => hp x (by simpa using hm)
  have mo : ∀ (o : Option Operand), (∀ x ∈ o.toArray, ev s x = ev s' x) → o.map (ev s) = o.map (ev s') := by
    intro o hp
    cases o with
    | none => rfl
    | some x => simp; exact hp x (by simp)
  cases op <;> simp only [aop]
  case move x => rw [h x (by simp [Op.operands])]
  case assign x => rw [h x (by simp [Op.operands])]
  case pick c a b => rw [h c (by simp [Op.operands]), h a (by simp [Op.operands]), h b (by simp [Op.operands])]
  case box e x => rw [h x (by simp [Op.operands])]
  case build t parts => rw [mp parts (by simpa [Op.operands] using h)]
  case buildSlice t n parts => rw [mp parts (by simpa [Op.operands] using h)]
  case load t a => rw [h a (by simp [Op.operands])]
  case store t a x => rw [h a (by simp [Op.operands]), h x (by simp [Op.operands])]
  case nilCheck x => rw [h x (by simp [Op.operands])]
  case binOp op t x y yt => rw [h x (by simp [Op.operands]), h y (by simp [Op.operands])]
  case unOp op t x => rw [h x (by simp [Op.operands])]
  case convert a b x => rw [h x (by simp [Op.operands])]
  case makeInterface t x => rw [h x (by simp [Op.operands])]
  case makeFunc f first cap => rw [ma first (fun x hx => h x (by simp [Op.operands, hx])), ma cap (fun x hx => h x (by simp [Op.operands, hx]))]
  case slice t x lo hi mx =>
    rw [h x (by simp [Op.operands]), mo lo (fun y hy => h y (by simp [Op.operands]; simp at hy; simp [hy])), mo hi (fun y hy => h y (by simp [Op.operands]; simp at hy; simp [hy])),
      mo mx (fun y hy => h y (by simp [Op.operands]; simp at hy; simp [hy]))]
  case range t x => rw [h x (by simp [Op.operands])]
  case next it str => rw [h it (by simp [Op.operands])]
  case entry it => rw [h it (by simp [Op.operands])]
  case makeSlice t l c => rw [h l (by simp [Op.operands]), h c (by simp [Op.operands])]
  case fieldAddr t x f => rw [h x (by simp [Op.operands])]
  case field t x f => rw [h x (by simp [Op.operands])]
  case indexAddr t x i => rw [h x (by simp [Op.operands]), h i (by simp [Op.operands])]
  case index t x i => rw [h x (by simp [Op.operands]), h i (by simp [Op.operands])]
  case extract x i => rw [h x (by simp [Op.operands])]
  case panic x => rw [h x (by simp [Op.operands])]
  case call c =>
    obtain ⟨callee, args, ats⟩ := c
    cases callee
    case builtin b =>
      show aBuiltin P σ b ats.toList (args.toList.map (ev s)) K = aBuiltin P σ b ats.toList (args.toList.map (ev s')) K
      rw [ma args (fun x hx => h x (by simp [Op.operands, Call.operands, hx]))]
    all_goals rfl
theorem gop_congr {ops : Array Oper} {n : Nat} {o : Oper} {s s' : Fr} {Kv Kp : AV → AS → Prop} (h : ∀ t ∈ o.looksAt ops, s t = s' t) : gop P ops n o s σ Kv Kp = gop P ops n o s' σ Kv Kp := by
  have hop : ∀ x ∈ o.op.operands, ev s x = ev s' x := by
    intro x hx
    cases x with
    | tmp t =>
      refine h t ?_
      unfold Oper.looksAt
      refine List.mem_append.2 (.inl ?_)
      rw [List.mem_filterMap]
      exact ⟨.tmp t, by simpa using hx, rfl⟩
    | _ => rfl
  have hg : ∀ j want, o.guard = some (j, want) → guardAV ops s j = guardAV ops s' j := by
    intro j want hg
    unfold guardAV
    cases hd : (ops[j]?).bind (·.dst) with
    | none => rfl
    | some d =>
      simp only
      refine h d ?_
      unfold Oper.looksAt
      refine List.mem_append.2 (.inr ?_)
      rw [hg]
      simp [hd]
  have hstep : runOp P o.op s σ Kv Kp = runOp P o.op s' σ Kv Kp := by
    obtain ⟨dst, op, ty, pos, after, guard⟩ := o
    simp only at hop ⊢
    unfold runOp
    cases op
    case call c =>
      obtain ⟨callee, args, ats⟩ := c
      cases callee
      case value f =>
        simp only
        rw [hop f (by simp [Op.operands, Call.operands])]
        congr 1
        exact List.map_congr_left fun x hm => hop x (by simp [Op.operands, Call.operands]; right; simpa using hm)
      all_goals exact aop_congr _ hop
    all_goals exact aop_congr _ hop
  unfold gop
  rw [hstep]
  cases hgd : o.guard with
  | none => rfl
  | some p =>
    obtain ⟨j, want⟩ := p
    simp only [hg j want hgd]
/-! ### monotony -/
end Go.AW

set_option linter.unusedSimpArgs false
set_option linter.unusedVariables false
namespace Go.AW
open Go Go.RowKit
variable {P : Program} {σ : AS}
def Det (X : (AV → Prop) → Prop) : Prop := ∀ K, X K → ∃ v, K v ∧ ∀ K', K' v → X K'
theorem det_load (t : TypeId) (x : AV) : Det (aLoad P σ t x) := by
  intro K h
  unfold aLoad at h
  split at h
  · rename_i hl
    split at h
    · rename_i hs; exact ⟨_, h.2, fun K' hk => by simp only [aLoad, hl, hs]; exact ⟨h.1, hk⟩⟩
    · exact h.elim
  · rename_i hl
    split at h
    · rename_i hs; exact ⟨_, h.2.2, fun K' hk => by simp only [aLoad, hl, hs]; exact ⟨h.1, h.2.1, hk⟩⟩
    · exact h.elim
  · rename_i hl; exact ⟨_, h.2, fun K' hk => by simp only [aLoad, hl]; exact ⟨h.1, hk⟩⟩
  · rename_i hl; exact ⟨_, h.2.2, fun K' hk => by simp only [aLoad, hl]; exact ⟨h.1, h.2.1, hk⟩⟩
  · exact h.elim
theorem det_parts {t : TypeId} : ∀ (parts : List (Nat × AV)) (cs : List AV) (K : List AV → Prop), aParts P t cs parts K → ∃ v, K v ∧ ∀ K', K' v → aParts P t cs parts K' := by
  intro parts
  induction parts with
  | nil => intro cs K h; exact ⟨cs, h, fun K' hk => hk⟩
  | cons p r ih =>
    intro cs K h
    obtain ⟨i, v⟩ := p
    simp only [aParts] at h
    split at h
    · rename_i off n hp
      obtain ⟨v', h1, h2⟩ := ih _ _ h.2.2.2.2
      exact ⟨v', h1, fun K' hk => by simp only [aParts, hp]; exact ⟨h.1, h.2.1, h.2.2.1, h.2.2.2.1, h2 K' hk⟩⟩
    · exact h.elim
theorem det_build (t : TypeId) (parts : List (Nat × AV)) : Det (aBuild P t parts) := by
  intro K h
  obtain ⟨h1, h2, h3⟩ := h
  obtain ⟨v, k1, k2⟩ := det_parts _ _ _ h3
  exact ⟨_, k1, fun K' hk => ⟨h1, h2, k2 (fun cs => K' (.agg cs)) hk⟩⟩
theorem det_buildSlice (t : TypeId) (n : Nat) (parts : List (Nat × AV)) (K : AV → AS → Prop) (h : aBuildSlice P σ t n parts K) : ∃ v, K v σ ∧ ∀ (σ' : AS) (K' : AV → AS → Prop), K' v σ' → aBuildSlice P σ' t n parts K' := by
  unfold aBuildSlice at h
  split at h
  · rename_i e he
    obtain ⟨h1, h2, h3, h4, h5, h6, h7⟩ := h
    exact ⟨_, h7, fun σ' K' hk => by simp only [aBuildSlice, he]; exact ⟨h1, h2, h3, h4, h5, h6, hk⟩⟩
  · exact h.elim
theorem det_nilCheck (x : AV) : Det (aNilCheck x) := by
  intro K h
  unfold aNilCheck at h
  split at h <;> first | exact h.elim | exact ⟨_, h, fun K' hk => hk⟩
theorem det_intOp {op : BinOp} {k : IntKind} {a b : Int} {Q : Value → Prop} (h : intOp op k a b Q) : ∃ v, Q v ∧ ∀ Q', Q' v → intOp op k a b Q' := by
  cases op <;> simp only [intOp] at h ⊢ <;> first | exact h.elim | exact ⟨_, h, fun _ hk => hk⟩ | exact ⟨_, h.2, fun _ hk => ⟨h.1, hk⟩⟩
theorem det_shOp {op : BinOp} {k : IntKind} {a b : Int} {Q : Value → Prop} (h : shOp op k a b Q) : ∃ v, Q v ∧ ∀ Q', Q' v → shOp op k a b Q' := by
  cases op <;> simp only [shOp] at h ⊢ <;> first | exact h.elim | exact ⟨_, h.2, fun _ hk => ⟨h.1, hk⟩⟩
theorem det_strOp {op : BinOp} {a b : ByteArray} {Q : Value → Prop} (h : strOp op a b Q) : ∃ v, Q v ∧ ∀ Q', Q' v → strOp op a b Q' := by
  cases op <;> simp only [strOp] at h ⊢ <;> first | exact h.elim | exact ⟨_, h, fun _ hk => hk⟩ | exact ⟨_, h.2, fun _ hk => ⟨h.1, hk⟩⟩
theorem det_bin (op : BinOp) (t : TypeId) (x y : AV) : Det (aBin P op t x y) := by
  intro K h
  unfold aBin at h
  split at h
  · rename_i k a k' b
    split at h
    · rename_i hs
      obtain ⟨v, h1, h2⟩ := det_shOp h
      exact ⟨_, h1, fun K' hk => by simp only [aBin, hs, if_true]; exact h2 (fun v => K' (.sc v)) hk⟩
    · rename_i hs
      obtain ⟨v, h1, h2⟩ := det_intOp h.2
      exact ⟨_, h1, fun K' hk => by simp only [aBin, hs]; exact ⟨h.1, h2 (fun v => K' (.sc v)) hk⟩⟩
  · obtain ⟨v, h1, h2⟩ := det_strOp h
    exact ⟨_, h1, fun K' hk => by simp only [aBin]; exact h2 (fun v => K' (.sc v)) hk⟩
  · split at h
    · rename_i r he; exact ⟨_, h.2, fun K' hk => by simp only [aBin, he]; exact ⟨h.1, hk⟩⟩
    · rename_i r he; exact ⟨_, h.2, fun K' hk => by simp only [aBin, he]; exact ⟨h.1, hk⟩⟩
    · exact h.elim
  · split at h
    · rename_i hu; exact ⟨_, h, fun K' hk => by simp only [aBin, hu]; exact hk⟩
    · rename_i hu; exact ⟨_, h, fun K' hk => by simp only [aBin, hu]; exact hk⟩
    · exact h.elim
  · rename_i h1 h2 h3 h4
    have rw' : ∀ K', aNilCmp P op t x y K' → aBin P op t x y K' := by
      intro K' hk
      unfold aBin
      split
      · exact (h1 _ _ _ _ rfl rfl).elim
      · exact (h2 _ _ rfl rfl).elim
      · exact (h3 _ _ rfl rfl).elim
      · exact (h4 _ _ rfl rfl).elim
      · exact hk
    unfold aNilCmp at h
    split at h
    · rename_i hy
      split at h
      · rename_i r he; exact ⟨_, h, fun K' hk => rw' K' (by simp only [aNilCmp, hy, if_true, he]; exact hk)⟩
      · rename_i r he; exact ⟨_, h, fun K' hk => rw' K' (by simp only [aNilCmp, hy, if_true, he]; exact hk)⟩
      · exact h.elim
    · exact h.elim
theorem det_un (op : UnOp) (x : AV) : Det (aUn op x) := by
  intro K h
  unfold aUn at h
  split at h <;> first | exact h.elim | exact ⟨_, h, fun K' hk => hk⟩
theorem det_convert (a b : TypeId) (x : AV) : Det (aConvert P a b x) := by
  intro K h
  unfold aConvert at h
  split at h
  · rename_i hs hd; exact ⟨_, h, fun K' hk => by simp only [aConvert, hs, hd]; exact hk⟩
  · rename_i d s hs hd; exact ⟨_, h, fun K' hk => by cases d <;> simp only [aConvert, hs, hd] <;> exact hk⟩
  · rename_i hs hd; exact ⟨_, h.2, fun K' hk => by simp only [aConvert, hs, hd]; exact ⟨h.1, hk⟩⟩
  · rename_i hs hd
    obtain ⟨h1, h2, h3⟩ := h
    split at h3
    · rename_i bs hb; exact ⟨_, h3, fun K' hk => by simp only [aConvert, hs, hd, hb]; exact ⟨h1, h2, hk⟩⟩
    · exact h3.elim
  · rename_i hs hd; exact ⟨_, h.2.2.2, fun K' hk => by simp only [aConvert, hs, hd]; exact ⟨h.1, h.2.1, h.2.2.1, hk⟩⟩
  · exact h.elim
theorem det_bound {x : Option AV} {d : Nat} {K : Nat → Prop} (h : aBound x d K) : ∃ k, K k ∧ ∀ K', K' k → aBound x d K' := by
  unfold aBound at h
  split at h
  · exact ⟨_, h, fun K' hk => hk⟩
  · exact ⟨_, h.2, fun K' hk => ⟨h.1, hk⟩⟩
  · exact h.elim
theorem det_slice (t : TypeId) (x : AV) (lo hi mx : Option AV) : Det (aSlice P t x lo hi mx) := by
  intro K h
  unfold aSlice at h
  split at h
  · exact h.elim
  · split at h
    · rename_i s
      obtain ⟨h1, h2⟩ := h
      obtain ⟨k, ⟨q1, q2⟩, q3⟩ := det_bound h2
      obtain ⟨l, ⟨r1, r2⟩, r3⟩ := det_bound q2
      exact ⟨_, r2, fun K' hk => by simp only [aSlice]; exact ⟨h1, q3 _ ⟨q1, r3 _ ⟨r1, hk⟩⟩⟩⟩
    · rename_i e elems own nil
      obtain ⟨h1, h0, h2⟩ := h
      obtain ⟨k, ⟨q1, q2⟩, q3⟩ := det_bound h2
      obtain ⟨l, ⟨r1, r2⟩, r3⟩ := det_bound q2
      exact ⟨_, r2, fun K' hk => by simp only [aSlice]; exact ⟨h1, h0, q3 _ ⟨q1, r3 _ ⟨r1, hk⟩⟩⟩⟩
    · rename_i id off len cap
      split at h
      · rename_i e he
        obtain ⟨h0, h2⟩ := h
        obtain ⟨k, ⟨q1, q2⟩, q3⟩ := det_bound h2
        obtain ⟨l, ⟨r1, r1', r2⟩, r3⟩ := det_bound q2
        exact ⟨_, r2, fun K' hk => by simp only [aSlice, he]; exact ⟨h0, q3 _ ⟨q1, r3 _ ⟨r1, r1', hk⟩⟩⟩⟩
      · exact h.elim
    · exact h.elim
theorem det_fieldAddr (t : TypeId) (x : AV) (f : Nat) : Det (aFieldAddr P t x f) := by
  intro K h
  unfold aFieldAddr at h
  split at h
  · rename_i hp hu
    obtain ⟨hn, h⟩ := h
    split at h
    · exact ⟨_, h, fun K' hk => by simp only [aFieldAddr, hp, hu]; exact ⟨hn, hk⟩⟩
    · exact ⟨_, h, fun K' hk => by simp only [aFieldAddr, hp, hu]; exact ⟨hn, hk⟩⟩
    · exact h.elim
  · exact h.elim
theorem det_field (t : TypeId) (x : AV) (f : Nat) : Det (aField P t x f) := by
  intro K h
  unfold aField at h
  split at h
  · rename_i hf; exact ⟨_, h.2, fun K' hk => by simp only [aField, hf]; exact ⟨h.1, hk⟩⟩
  · rename_i hf; exact ⟨_, h.2.2, fun K' hk => by simp only [aField, hf]; exact ⟨h.1, h.2.1, hk⟩⟩
  · exact h.elim
theorem det_indexAddr (t : TypeId) (x i : AV) : Det (aIndexAddr P t x i) := by
  intro K h
  unfold aIndexAddr at h
  split at h
  · split at h
    · obtain ⟨h1, h2, h3, h4, h5⟩ := h
      exact ⟨_, h5, fun K' hk => ⟨h1, h2, h3, h4, hk⟩⟩
    · split at h
      · rename_i he; obtain ⟨h2, h3, h4, h5⟩ := h; exact ⟨_, h5, fun K' hk => by simp only [aIndexAddr, he]; exact ⟨h2, h3, h4, hk⟩⟩
      · exact h.elim
    · split at h
      · rename_i he; obtain ⟨h2, h3, h4, h5⟩ := h; exact ⟨_, h5, fun K' hk => by simp only [aIndexAddr, he]; exact ⟨h2, h3, h4, hk⟩⟩
      · exact h.elim
    · split at h
      · rename_i he; obtain ⟨h2, h3, h4, h5⟩ := h; exact ⟨_, h5, fun K' hk => by simp only [aIndexAddr, he]; exact ⟨h2, h3, h4, hk⟩⟩
      · exact h.elim
    · exact h.elim
  · exact h.elim
theorem det_index (t : TypeId) (x i : AV) : Det (aIndex P t x i) := by
  intro K h
  unfold aIndex at h
  split at h
  · obtain ⟨h1, h2, h3, h4⟩ := h; exact ⟨_, h4, fun K' hk => ⟨h1, h2, h3, hk⟩⟩
  · split at h
    · rename_i he
      split at h
      · rename_i hl; obtain ⟨h2, h3, h4, h5⟩ := h; exact ⟨_, h5, fun K' hk => by simp only [aIndex, he, hl]; exact ⟨h2, h3, h4, hk⟩⟩
      · rename_i hl; obtain ⟨h1, h2, h3, h4, h5⟩ := h; exact ⟨_, h5, fun K' hk => by simp only [aIndex, he, hl]; exact ⟨h1, h2, h3, h4, hk⟩⟩
      · exact h.elim
    · exact h.elim
  · exact h.elim
theorem det_extract (x : AV) (i : Nat) : Det (aExtract x i) := by
  intro K h
  unfold aExtract at h
  split at h
  · exact ⟨_, h.2, fun K' hk => ⟨h.1, hk⟩⟩
  · exact h.elim
theorem det_len (t : TypeId) (x : AV) : Det (aLen P σ t x) := by
  intro K h
  unfold aLen at h
  split at h
  · rename_i hu; exact ⟨_, h, fun K' hk => by simp only [aLen, hu]; exact hk⟩
  · rename_i hu; exact ⟨_, h, fun K' hk => by simp only [aLen, hu]; exact hk⟩
  · rename_i hu; exact ⟨_, h, fun K' hk => by simp only [aLen, hu]; exact hk⟩
  · rename_i hu; exact ⟨_, h, fun K' hk => by simp only [aLen, hu]; exact hk⟩
  · rename_i hu; exact ⟨_, h, fun K' hk => by simp only [aLen, hu]; exact hk⟩
  · rename_i hu
    split at h
    · rename_i hs; exact ⟨_, h, fun K' hk => by simp only [aLen, hu, hs]; exact hk⟩
    · exact h.elim
  · rename_i hu; exact ⟨_, h, fun K' hk => by simp only [aLen, hu]; exact hk⟩
  · exact h.elim
end Go.AW

set_option linter.unusedSimpArgs false
set_option linter.unusedVariables false
namespace Go.AW
open Go Go.RowKit
variable {P : Program} {σ : AS}
theorem det_mono {X : (AV → Prop) → Prop} (hd : Det X) {K K' : AV → Prop} (h : X K) (hk : ∀ v, K v → K' v) : X K' := by
  obtain ⟨v, h1, h2⟩ := hd K h
  exact h2 K' (hk v h1)
theorem aAppend_mono {t tx : TypeId} {s x : AV} {K K' : AV → AS → Prop} (hk : ∀ v σ, K v σ → K' v σ) (h : aAppend P σ t tx s x K) : aAppend P σ t tx s x K' := by
  unfold aAppend at h ⊢
  split
  · rename_i e he
    simp only [he] at h
    obtain ⟨h1, h2, h3, h4⟩ := h
    refine ⟨h1, h2, h3, ?_⟩
    split
    · rename_i xs hx
      simp only [hx] at h4
      split
      · simp only at h4; exact ⟨h4.1, h4.2.1, fun tk htk => hk _ _ (h4.2.2 tk htk)⟩
      · simp only at h4; exact ⟨h4.1, h4.2.1, h4.2.2.1, fun tk htk => hk _ _ (h4.2.2.2 tk htk)⟩
      · simp only at h4; exact ⟨h4.1, h4.2.1, h4.2.2.1, h4.2.2.2.1, hk _ _ h4.2.2.2.2⟩
      · rename_i a b c
        split at h4
        · exact (a rfl).elim
        · exact (b _ _ _ rfl).elim
        · exact (c _ _ _ _ rfl).elim
        · exact h4.elim
    · rename_i hx
      simp only [hx] at h4
  · rename_i he
    simp only [he] at h
theorem aCopy_mono {t : TypeId} {x y : AV} {K K' : AV → AS → Prop} (hk : ∀ v σ, K v σ → K' v σ) (h : aCopy P σ t x y K) : aCopy P σ t x y K' := by
  unfold aCopy at h ⊢
  cases he : sliceT P t with
  | none => simp only [he] at h
  | some e =>
    simp only [he] at h ⊢
    split at h
    · rename_i id off len cap
      cases hs : σ id with
      | none => simp only [hs] at h
      | some blk =>
        cases blk <;> simp only [hs] at h ⊢
        refine ⟨h.1, h.2.1, ?_⟩
        have h' := h.2.2
        cases hc : copyCells P σ e y with
        | none => simp only [hc] at h'
        | some r => simp only [hc] at h' ⊢; exact hk _ _ h'
    · exact h.elim
theorem aBuiltin_mono {b : Builtin} {ts : List TypeId} {args : List AV} {K K' : AV → AS → Prop} (hk : ∀ v σ, K v σ → K' v σ) (h : aBuiltin P σ b ts args K) : aBuiltin P σ b ts args K' := by
  unfold aBuiltin at h
  split at h
  · exact det_mono (det_len _ _) h (fun v hv => hk _ _ hv)
  · exact aAppend_mono hk h
  · exact aCopy_mono hk h
  · exact hk _ _ h
  · exact hk _ _ h
  · exact h.elim
theorem aop_mono {s : Fr} {K K' Pn Pn' : AV → AS → Prop} (hk : ∀ v σ, K v σ → K' v σ) (hp : ∀ v σ, Pn v σ → Pn' v σ) (op : Op) (h : aop P s σ K Pn op) : aop P s σ K' Pn' op := by
  cases op <;> simp only [aop] at h ⊢
  case move x => exact hk _ _ h
  case assign x => exact hk _ _ h
  case pick c a b =>
    split at h
    · exact hk _ _ h
    · exact h.elim
  case alloc e => exact ⟨h.1, fun id hid => hk _ _ (h.2 id hid)⟩
  case box e x => exact ⟨h.1, fun id hid => hk _ _ (h.2 id hid)⟩
  case build t parts => exact det_mono (det_build _ _) h (fun v => hk v σ)
  case buildSlice t n parts =>
    obtain ⟨v, h1, h2⟩ := det_buildSlice _ _ _ _ h
    exact h2 _ _ (hk _ _ h1)
  case load t a => exact det_mono (det_load _ _) h (fun v => hk v σ)
  case store t a x =>
    unfold aStore at h ⊢
    split at h
    · split at h
      · exact ⟨h.1, h.2.1, h.2.2.1, h.2.2.2.1, h.2.2.2.2.1, hk _ _ h.2.2.2.2.2⟩
      · exact h.elim
    · exact h.elim
  case nilCheck x => exact det_mono (det_nilCheck _) h (fun v => hk v σ)
  case binOp op t x y yt => exact det_mono (det_bin _ _ _ _) h (fun v => hk v σ)
  case unOp op t x => exact det_mono (det_un _ _) h (fun v => hk v σ)
  case convert a b x => exact det_mono (det_convert _ _ _) h (fun v => hk v σ)
  case makeInterface t x => exact ⟨h.1, hk _ _ h.2⟩
  case makeFunc f first cap => exact hk _ _ h
  case makeMap t r => exact ⟨h.1, fun id hid => hk _ _ (h.2 id hid)⟩
  case range t x =>
    unfold aRange at h ⊢
    split at h
    · exact ⟨h.1, fun id hid => hk _ _ (h.2 id hid)⟩
    · split at h
      · exact fun id hid => hk _ _ (h id hid)
      · exact h.elim
    · exact h.elim
  case next it str =>
    unfold aNext at h ⊢
    split at h
    · refine ⟨h.1, ?_⟩
      have h2 := h.2
      split at h2
      · unfold nextM at h2 ⊢
        split at h2
        · exact ⟨h2.1, fun h3 => hk _ _ (h2.2.1 h3), fun k h3 h4 => hk _ _ (h2.2.2 k h3 h4)⟩
        · exact h2.elim
      · exact h2.elim
    · refine ⟨h.1, ?_⟩
      have h2 := h.2
      split at h2
      · rename_i b pos _
        unfold nextS at h2 ⊢
        by_cases hp : pos < b.size
        · rw [if_pos hp] at h2 ⊢
          exact hk _ _ h2
        · rw [if_neg hp] at h2 ⊢
          exact hk _ _ h2
      · exact h2.elim
    · exact h.elim
  case entry it =>
    unfold aEntry at h ⊢
    split at h
    · refine ⟨h.1, ?_⟩
      have h2 := h.2
      split at h2
      · split at h2
        · exact ⟨h2.1, hk _ _ h2.2⟩
        · exact h2.elim
      · exact h2.elim
    · exact h.elim
  case makeSlice t l c =>
    unfold aMakeSlice at h ⊢
    split at h
    · obtain ⟨h1, h2, h3, h4, h5, h6, h7, h8⟩ := h
      exact ⟨h1, h2, h3, h4, h5, h6, h7, fun id hid => hk _ _ (h8 id hid)⟩
    · exact h.elim
  case slice t x lo hi mx => exact det_mono (det_slice _ _ _ _ _) h (fun v => hk v σ)
  case fieldAddr t x f => exact det_mono (det_fieldAddr _ _ _) h (fun v => hk v σ)
  case field t x f => exact det_mono (det_field _ _ _) h (fun v => hk v σ)
  case indexAddr t x i => exact det_mono (det_indexAddr _ _ _) h (fun v => hk v σ)
  case index t x i => exact det_mono (det_index _ _ _) h (fun v => hk v σ)
  case extract x i => exact det_mono (det_extract _ _) h (fun v => hk v σ)
  case panic x =>
    split at h
    · exact hp _ _ h
    · exact h.elim
  case call c =>
    obtain ⟨callee, args, ats⟩ := c
    cases callee
    case builtin b => exact aBuiltin_mono hk h
    all_goals exact h.elim
theorem aCall_mono {fv : AV} {args : List AV} {K Kp K' Kp' : AV → AS → Prop} (hk : ∀ v σ, K v σ → K' v σ) (hp : ∀ v σ, Kp v σ → Kp' v σ) (h : aCall P fv args σ K Kp) : aCall P fv args σ K' Kp' := by
  unfold aCall at h ⊢
  split at h
  · obtain ⟨h1, h2, R, Rp, h3, h4, h5⟩ := h
    exact ⟨h1, h2, R, Rp, h3, fun r σ' hr => hk _ _ (h4 r σ' hr), fun r σ' hr => hp _ _ (h5 r σ' hr)⟩
  · obtain ⟨R, Rp, h3, h4, h5⟩ := h
    exact ⟨R, Rp, h3, fun r σ' hr => hk _ _ (h4 r σ' hr), fun r σ' hr => hp _ _ (h5 r σ' hr)⟩
  · exact h.elim
theorem runOp_mono {op : Op} {s : Fr} {K Kp K' Kp' : AV → AS → Prop} (hk : ∀ v σ, K v σ → K' v σ) (hp : ∀ v σ, Kp v σ → Kp' v σ) (h : runOp P op s σ K Kp) : runOp P op s σ K' Kp' := by
  unfold runOp at h ⊢
  cases op
  case call c =>
    obtain ⟨callee, args, ats⟩ := c
    cases callee
    case value f => exact aCall_mono hk hp h
    all_goals exact aop_mono hk hp _ h
  all_goals exact aop_mono hk hp _ h
theorem gop_mono {ops : Array Oper} {n : Nat} {o : Oper} {s : Fr} {K Kp K' Kp' : AV → AS → Prop} (hk : ∀ v σ, K v σ → K' v σ) (hp : ∀ v σ, Kp v σ → Kp' v σ) (h : gop P ops n o s σ K Kp) : gop P ops n o s σ K' Kp' := by
  unfold gop at h ⊢
  refine ⟨h.1, ?_⟩
  have h2 := h.2
  split
  · rename_i hg; simp only [hg] at h2; exact runOp_mono hk hp h2
  · rename_i j want hg; simp only [hg] at h2; exact onGuard_map h2 (runOp_mono hk hp) (hk _ _)
/-! ## operations that hang on their operands alone; operations that read -/
def lenPure : List AV → Bool
  | [.lst ..] | [.nilS] | [.msl ..] | [.sc _] => true
  | _ => false
def pureAt (s : Fr) (op : Op) : Bool :=
  match op with
  | .move _ | .assign _ | .pick .. | .build .. | .buildSlice .. | .nilCheck _ | .binOp .. | .unOp .. | .convert .. | .makeInterface .. | .makeFunc .. | .slice ..
  | .fieldAddr .. | .field .. | .indexAddr .. | .index .. | .extract .. => true
  | .load _ a => match ev s a with | .cptr _ => true | _ => false
  | .call c => match c.callee with
    | .builtin .len => lenPure (c.args.toList.map (ev s))
    | .builtin .min => true
    | .builtin .max => true
    | _ => false
  | _ => false
def readB (op : Op) : Bool :=
  match op with
  | .move _ | .assign _ | .pick .. | .build .. | .buildSlice .. | .nilCheck _ | .binOp .. | .unOp .. | .convert .. | .makeInterface .. | .makeFunc .. | .slice ..
  | .fieldAddr .. | .field .. | .indexAddr .. | .index .. | .extract .. | .load .. => true
  | .call c => match c.callee with
    | .builtin .len => true
    | .builtin .min => true
    | .builtin .max => true
    | _ => false
  | _ => false
theorem read_det {op : Op} {s : Fr} {Kv Kp : AV → AS → Prop} (hr : readB op = true) (h : runOp P op s σ Kv Kp) : ∃ v, Kv v σ ∧ ∀ Kv' Kp' : AV → AS → Prop, Kv' v σ → runOp P op s σ Kv' Kp' := by
  have lift : ∀ {X : (AV → Prop) → Prop}, Det X → X (fun v => Kv v σ) → (∀ (Kv' Kp' : AV → AS → Prop), X (fun v => Kv' v σ) → runOp P op s σ Kv' Kp') → ∃ v, Kv v σ ∧ ∀ Kv' Kp' : AV → AS → Prop, Kv' v σ → runOp P op s σ Kv' Kp' := by
    intro X hd hx hb
    obtain ⟨v, h1, h2⟩ := hd _ hx
    exact ⟨v, h1, fun Kv' Kp' hk => hb Kv' Kp' (h2 (fun v => Kv' v σ) hk)⟩
  cases op <;> (try simp only [readB] at hr) <;> first | (cases hr; done) | skip
  case move x => exact ⟨_, h, fun _ _ hk => hk⟩
  case assign x => exact ⟨_, h, fun _ _ hk => hk⟩
  case pick c a b =>
    have h' : aop P s σ Kv Kp (.pick c a b) := h
    simp only [aop] at h'
    split at h'
    · rename_i t hc; exact ⟨_, h', fun Kv' Kp' hk => by show aop P s σ Kv' Kp' (.pick c a b); simp only [aop, hc]; exact hk⟩
    · exact h'.elim
  case build t parts => exact lift (det_build _ _) h (fun _ _ hx => hx)
  case buildSlice t n parts =>
    obtain ⟨v, h1, h2⟩ := det_buildSlice _ _ _ _ h
    exact ⟨v, h1, fun Kv' Kp' hk => h2 σ Kv' hk⟩
  case load t a => exact lift (det_load _ _) h (fun _ _ hx => hx)
  case nilCheck x => exact lift (det_nilCheck _) h (fun _ _ hx => hx)
  case binOp op t x y yt => exact lift (det_bin _ _ _ _) h (fun _ _ hx => hx)
  case unOp op t x => exact lift (det_un _ _) h (fun _ _ hx => hx)
  case convert a b x => exact lift (det_convert _ _ _) h (fun _ _ hx => hx)
  case makeInterface t x => exact ⟨_, h.2, fun _ _ hk => ⟨h.1, hk⟩⟩
  case makeFunc f first cap => exact ⟨_, h, fun _ _ hk => hk⟩
  case slice t x lo hi mx => exact lift (det_slice _ _ _ _ _) h (fun _ _ hx => hx)
  case fieldAddr t x f => exact lift (det_fieldAddr _ _ _) h (fun _ _ hx => hx)
  case field t x f => exact lift (det_field _ _ _) h (fun _ _ hx => hx)
  case indexAddr t x i => exact lift (det_indexAddr _ _ _) h (fun _ _ hx => hx)
  case index t x i => exact lift (det_index _ _ _) h (fun _ _ hx => hx)
  case extract x i => exact lift (det_extract _ _) h (fun _ _ hx => hx)
  case call c =>
    obtain ⟨callee, args, ats⟩ := c
    cases callee
    case builtin b =>
      have h' : aBuiltin P σ b ats.toList (args.toList.map (ev s)) Kv := h
      unfold aBuiltin at h'
      split at h'
      · rename_i t x e1 e2
        obtain ⟨v, h1, h2⟩ := det_len _ _ _ h'
        refine ⟨v, h1, fun Kv' Kp' hk => ?_⟩
        show aBuiltin P σ .len ats.toList (args.toList.map (ev s)) Kv'
        rw [e1, e2]
        exact h2 (fun v => Kv' v σ) hk
      · simp [readB] at hr
      · simp [readB] at hr
      · rename_i k a k' b' e2
        refine ⟨_, h', fun Kv' Kp' hk => ?_⟩
        show aBuiltin P σ .min ats.toList (args.toList.map (ev s)) Kv'
        rw [e2]
        exact hk
      · rename_i k a k' b' e2
        refine ⟨_, h', fun Kv' Kp' hk => ?_⟩
        show aBuiltin P σ .max ats.toList (args.toList.map (ev s)) Kv'
        rw [e2]
        exact hk
      · exact h'.elim
    all_goals simp [readB] at hr
theorem pure_det {op : Op} {s : Fr} {Kv Kp : AV → AS → Prop} (hr : pureAt s op = true) (h : runOp P op s σ Kv Kp) : ∃ v, Kv v σ ∧ ∀ (σ' : AS) (Kv' Kp' : AV → AS → Prop), Kv' v σ' → runOp P op s σ' Kv' Kp' := by
  have lift : ∀ {X : (AV → Prop) → Prop}, Det X → X (fun v => Kv v σ) → (∀ (σ' : AS) (Kv' Kp' : AV → AS → Prop), X (fun v => Kv' v σ') → runOp P op s σ' Kv' Kp') → ∃ v, Kv v σ ∧ ∀ (σ' : AS) (Kv' Kp' : AV → AS → Prop), Kv' v σ' → runOp P op s σ' Kv' Kp' := by
    intro X hd hx hb
    obtain ⟨v, h1, h2⟩ := hd _ hx
    exact ⟨v, h1, fun σ' Kv' Kp' hk => hb σ' Kv' Kp' (h2 (fun v => Kv' v σ') hk)⟩
  cases op <;> (try simp only [pureAt] at hr) <;> first | (cases hr; done) | skip
  case move x => exact ⟨_, h, fun _ _ _ hk => hk⟩
  case assign x => exact ⟨_, h, fun _ _ _ hk => hk⟩
  case pick c a b =>
    have h' : aop P s σ Kv Kp (.pick c a b) := h
    simp only [aop] at h'
    split at h'
    · rename_i t hc; exact ⟨_, h', fun σ' Kv' Kp' hk => by show aop P s σ' Kv' Kp' (.pick c a b); simp only [aop, hc]; exact hk⟩
    · exact h'.elim
  case build t parts => exact lift (det_build _ _) h (fun _ _ _ hx => hx)
  case buildSlice t n parts =>
    obtain ⟨v, h1, h2⟩ := det_buildSlice _ _ _ _ h
    exact ⟨v, h1, fun σ' Kv' Kp' hk => h2 σ' Kv' hk⟩
  case load t a =>
    have h' : aLoad P σ t (ev s a) (fun v => Kv v σ) := h
    cases hx : ev s a <;> (try simp only [hx] at hr) <;> first | (cases hr; done) | skip
    rename_i cells
    have ind : ∀ (σ' : AS) (K : AV → Prop), aLoad P σ t (.cptr cells) K → aLoad P σ' t (.cptr cells) K := by
      intro σ' K hh
      unfold aLoad at hh ⊢
      cases hl : lkT P t <;> simp only [hl] at hh ⊢ <;> exact hh
    rw [hx] at h'
    obtain ⟨v, h1, h2⟩ := det_load _ _ _ h'
    exact ⟨v, h1, fun σ' Kv' Kp' hk => by
      show aLoad P σ' t (ev s a) (fun v => Kv' v σ')
      rw [hx]
      exact ind σ' _ (h2 (fun v => Kv' v σ') hk)⟩
  case nilCheck x => exact lift (det_nilCheck _) h (fun _ _ _ hx => hx)
  case binOp op t x y yt => exact lift (det_bin _ _ _ _) h (fun _ _ _ hx => hx)
  case unOp op t x => exact lift (det_un _ _) h (fun _ _ _ hx => hx)
  case convert a b x => exact lift (det_convert _ _ _) h (fun _ _ _ hx => hx)
  case makeInterface t x => exact ⟨_, h.2, fun _ _ _ hk => ⟨h.1, hk⟩⟩
  case makeFunc f first cap => exact ⟨_, h, fun _ _ _ hk => hk⟩
  case slice t x lo hi mx => exact lift (det_slice _ _ _ _ _) h (fun _ _ _ hx => hx)
  case fieldAddr t x f => exact lift (det_fieldAddr _ _ _) h (fun _ _ _ hx => hx)
  case field t x f => exact lift (det_field _ _ _) h (fun _ _ _ hx => hx)
  case indexAddr t x i => exact lift (det_indexAddr _ _ _) h (fun _ _ _ hx => hx)
  case index t x i => exact lift (det_index _ _ _) h (fun _ _ _ hx => hx)
  case extract x i => exact lift (det_extract _ _) h (fun _ _ _ hx => hx)
  case call c =>
    obtain ⟨callee, args, ats⟩ := c
    cases callee
    case builtin b =>
      have h' : aBuiltin P σ b ats.toList (args.toList.map (ev s)) Kv := h
      unfold aBuiltin at h'
      split at h'
      · rename_i t x e1 e2
        obtain ⟨o, rfl⟩ : ∃ o, args = #[o] := by
          cases hl : args.toList with
          | nil => rw [hl] at e2; simp at e2
          | cons o r =>
            rw [hl] at e2
            simp at e2
            obtain ⟨_, rfl⟩ := e2
            exact ⟨o, one_of hl⟩
        have e3 : ev s o = x := by simpa using e2
        have hlp : lenPure [x] = true := by
          have : lenPure ((#[o] : Array Operand).toList.map (ev s)) = true := hr
          simpa [e3] using this
        have ind : ∀ (σ' : AS) (K : AV → Prop), aLen P σ t x K → aLen P σ' t x K := by
          intro σ' K hh
          unfold aLen at hh ⊢
          split at hh <;> simp_all [lenPure]
        obtain ⟨v, h1, h2⟩ := det_len _ _ _ h'
        refine ⟨v, h1, fun σ' Kv' Kp' hk => ?_⟩
        show aBuiltin P σ' .len ats.toList ((#[o] : Array Operand).toList.map (ev s)) Kv'
        rw [e1, e2]
        exact ind σ' _ (h2 (fun v => Kv' v σ') hk)
      · simp [pureAt] at hr
      · simp [pureAt] at hr
      · rename_i k a k' b' e2
        refine ⟨_, h', fun σ' Kv' Kp' hk => ?_⟩
        show aBuiltin P σ' .min ats.toList (args.toList.map (ev s)) Kv'
        rw [e2]
        exact hk
      · rename_i k a k' b' e2
        refine ⟨_, h', fun σ' Kv' Kp' hk => ?_⟩
        show aBuiltin P σ' .max ats.toList (args.toList.map (ev s)) Kv'
        rw [e2]
        exact hk
      · exact h'.elim
    all_goals simp [pureAt] at hr
theorem le_load {σ' : AS} {t : TypeId} {x : AV} {K : AV → Prop} (hle : AS.le σ σ') (h : aLoad P σ t x K) : ∃ v, K v ∧ ∀ K' : AV → Prop, K' v → aLoad P σ' t x K' := by
  unfold aLoad at h
  split at h
  · rename_i hl
    split at h
    · rename_i hs; exact ⟨_, h.2, fun K' hk => by simp only [aLoad, hl, hle _ _ hs]; exact ⟨h.1, hk⟩⟩
    · exact h.elim
  · rename_i hl
    split at h
    · rename_i hs; exact ⟨_, h.2.2, fun K' hk => by simp only [aLoad, hl, hle _ _ hs]; exact ⟨h.1, h.2.1, hk⟩⟩
    · exact h.elim
  · rename_i hl; exact ⟨_, h.2, fun K' hk => by simp only [aLoad, hl]; exact ⟨h.1, hk⟩⟩
  · rename_i hl; exact ⟨_, h.2.2, fun K' hk => by simp only [aLoad, hl]; exact ⟨h.1, h.2.1, hk⟩⟩
  · exact h.elim
theorem le_len {σ' : AS} {t : TypeId} {x : AV} {K : AV → Prop} (hle : AS.le σ σ') (h : aLen P σ t x K) : ∃ v, K v ∧ ∀ K' : AV → Prop, K' v → aLen P σ' t x K' := by
  unfold aLen at h
  split at h
  all_goals first
    | exact h.elim
    | (rename_i hu; exact ⟨_, h, fun K' hk => by simp only [aLen, hu]; exact hk⟩)
    | (rename_i hu; split at h
       · rename_i hs; exact ⟨_, h, fun K' hk => by simp only [aLen, hu, hle _ _ hs]; exact hk⟩
       · exact h.elim)
theorem read_le {op : Op} {s : Fr} {Kv Kp : AV → AS → Prop} (hr : readB op = true) (h : runOp P op s σ Kv Kp) : ∃ v, Kv v σ ∧ ∀ σ', AS.le σ σ' → ∀ Kv' Kp' : AV → AS → Prop, Kv' v σ' → runOp P op s σ' Kv' Kp' := by
  by_cases hp : pureAt s op = true
  · obtain ⟨v, h1, h2⟩ := pure_det hp h
    exact ⟨v, h1, fun σ' _ Kv' Kp' hk => h2 σ' Kv' Kp' hk⟩
  · obtain ⟨v, h1, h2⟩ := read_det hr h
    refine ⟨v, h1, fun σ' hle Kv' Kp' hk => ?_⟩
    cases op <;> (try simp only [readB] at hr) <;> (try simp [pureAt] at hp) <;> first | (cases hr; done) | skip
    case load t a =>
      obtain ⟨u, g1, g2⟩ := le_load (K := fun x => x = v) hle (h2 (fun x _ => x = v) (fun _ _ => True) rfl)
      exact g2 (fun x => Kv' x σ') (g1 ▸ hk)
    case call c =>
      obtain ⟨callee, args, ats⟩ := c
      cases callee
      case builtin b =>
        have h' : aBuiltin P σ b ats.toList (args.toList.map (ev s)) (fun x _ => x = v) := h2 (fun x _ => x = v) (fun _ _ => True) rfl
        unfold aBuiltin at h'
        split at h'
        · rename_i t x e1 e2
          obtain ⟨u, g1, g2⟩ := le_len (K := fun x => x = v) hle h'
          show aBuiltin P σ' .len ats.toList (args.toList.map (ev s)) Kv'
          rw [e1, e2]
          exact g2 (fun x => Kv' x σ') (g1 ▸ hk)
        · simp [readB] at hr
        · simp [readB] at hr
        · simp at hp
        · simp at hp
        · exact h'.elim
      all_goals simp [readB] at hr
end Go.AW

set_option linter.unusedSimpArgs false
set_option linter.unusedVariables false
namespace Go.AW
open Go Go.RowKit
variable {P : Program}
inductive Sch where
  | done
  | step (i : Nat) (t : Sch)
  | read (i : Nat) (t : Sch)
  | alt (i : Nat) (t r : Sch)
  | spec (i : Nat) (t r : Sch)
  | pure (i : Nat) (t : Sch)
  | none
def Sch.idxs : Sch → List Nat
  | .alt i _ r => i :: r.idxs
  | .spec i _ r => i :: r.idxs
  | _ => []
def upTo (ops : Array Oper) (i : Nat) : Nat → Array Bool → Array Bool
  | 0, m => m
  | f + 1, m => upTo ops i f ((List.range ops.size).foldl (fun m j => if j != i && (match ops[j]? with | some o => o.after.all fun e => !Region.binds .any e || m.getD e.on false | none => false) then m.setIfInBounds j true else m) m)
def readsUpTo (ops : Array Oper) (i : Nat) (listed : Array Bool) : Bool :=
  let M := upTo ops i 2 listed
  (List.range ops.size).all (fun j => !listed.getD j false || M.getD j false) && !M.getD i false && listed.size == ops.size && M.size == ops.size &&
  (List.range ops.size).all fun j => match ops[j]? with
    | some o => (j == i || M.getD j false || o.after.any fun e => Region.binds .any e && !M.getD e.on false) && (!M.getD j false || listed.getD j true || readB o.op)
    | none => true
def okSch (ops : Array Oper) (ro : Bool) : Bool → Array Bool → Sch → Bool
  | true, listed, .done => (Region.ready .any ops listed).isEmpty
  | true, listed, .step i t => (Region.ready .any ops listed).contains i && Region.free .any ops listed i && (!ro || ((ops[i]?).map (readB ·.op)).getD false) && okSch ops ro true (listed.setIfInBounds i true) t
  | true, listed, .read i t => (Region.ready .any ops listed).contains i && Region.free .any ops listed i && ((ops[i]?).map (readB ·.op)).getD false && readsUpTo ops i listed && okSch ops ro true (listed.setIfInBounds i true) t
  | true, listed, .pure i t => (Region.ready .any ops listed).contains i && Region.free .any ops listed i && !ro && okSch ops ro true (listed.setIfInBounds i true) t
  | top, listed, .alt i t r => (!top || (Region.ready .any ops listed).all fun j => (Sch.alt i t r).idxs.contains j) && (!top || !(Region.ready .any ops listed).isEmpty) && okSch ops ro true (listed.setIfInBounds i true) t && okSch ops ro false listed r
  | top, listed, .spec i t r => (!top || (Region.ready .any ops listed).all fun j => (Sch.spec i t r).idxs.contains j) && (!top || !(Region.ready .any ops listed).isEmpty) && okSch ops ro true (listed.setIfInBounds i true) t && okSch ops ro false listed r
  | false, _, .none => true
  | _, _, _ => false
def pureCall (P : Program) (fv : AV) (args : List AV) (K : AV → Prop) : Prop := ∃ v, (∀ σ' (Kv Kp : AV → AS → Prop), Kv v σ' → aCall P fv args σ' Kv Kp) ∧ K v
def pureOp (P : Program) (n : Nat) (ops : Array Oper) (o : Oper) (s : Fr) (K : AV → Prop) : Prop :=
  (match o.dst with | none => True | some d => d < n) ∧
  match o.op, o.guard with
  | .call ⟨.value f, args, _⟩, none => pureCall P (ev s f) (args.toList.map (ev s)) K
  | .call ⟨.value f, args, _⟩, some (j, want) => onGuard (guardAV ops s j) want (pureCall P (ev s f) (args.toList.map (ev s)) K) (K skipV)
  | _, _ => False
def nextP (K : Fr → AS → Prop) (s : Fr) (d : Option Nat) (σ : AS) : AV → Prop := fun v => K (s.put d v) σ
def lim (o : Oper) (s : Fr) : Fr := fun t => if t ∈ ({ o with guard := none } : Oper).looksAt #[] then s t else .any
theorem lim_ev (o : Oper) (s : Fr) {G : Gh} {v : Value} (x : Operand) (h : Rep P G (ev s x) v) : Rep P G (ev (lim o s) x) v := by
  cases x with
  | tmp t =>
    show Rep P G (lim o s t) v
    unfold lim
    split
    · exact h
    · exact .any _
  | _ => exact h
def VOp (P : Program) (o : Oper) (s : Fr) (σ : AS) (Kv Kp : AV → AS → Prop) : Prop :=
  ∀ (G : Gh) (ρ : Operand → Value) (w : World), Inv P G σ w → (∀ x, Rep P G (ev (lim o s) x) (ρ x)) → Out P G Kv Kp ((execOp ρ o).run P w)
def VSpec (P : Program) (n : Nat) (o : Oper) (s : Fr) (σ : AS) (Kv Kp : AV → AS → Prop) : Prop :=
  (match o.dst with | none => True | some d => d < n) ∧ o.guard = none ∧ VOp P o s σ (fun v σ' => (readB o.op = true → AS.le σ σ') ∧ Kv v σ') Kp
variable (P) in
def runSch (n : Nat) (ops : Array Oper) (ro : Bool) (Q : AQ) : Sch → Fr → AS → Prop
  | .done, s, σ => Q .normal s σ
  | .step i t, s, σ => match ops[i]? with
    | some o => (ro = true ∨ pureAt s o.op = true) ∧ guardOp P n ops o s σ (runSch n ops ro Q t) Q
    | none => False
  | .read i t, s, σ => match ops[i]? with
    | some o => guardOp P n ops o s σ (runSch n ops ro Q t) Q
    | none => False
  | .alt i t r, s, σ => (match ops[i]? with
    | some o => guardOp P n ops o s σ (runSch n ops ro Q t) Q
    | none => False) ∧ runSch n ops ro Q r s σ
  | .spec i t r, s, σ => (match ops[i]? with
    | some o => VSpec P n o s σ (fun v σ' => runSch n ops ro Q t (s.put o.dst v) σ') (fun p σ' => Q (.panic p) s σ')
    | none => False) ∧ runSch n ops ro Q r s σ
  | .pure i t, s, σ => match ops[i]? with
    | some o => pureOp P n ops o s (nextP (runSch n ops ro Q t) s o.dst σ)
    | none => False
  | .none, _, _ => True
theorem Out.mono {G : Gh} {K K' Pn Pn' : AV → AS → Prop} {r : Result Next} (hk : ∀ v σ, K v σ → K' v σ) (hp : ∀ v σ, Pn v σ → Pn' v σ) (h : Out P G K Pn r) : Out P G K' Pn' r := by
  unfold Out at h ⊢
  split at h
  · obtain ⟨G', σ', av, a, b, c, d⟩ := h; exact ⟨G', σ', av, a, b, c, hk _ _ d⟩
  · obtain ⟨G', σ', av, a, b, c, d⟩ := h; exact ⟨G', σ', av, a, b, c, hk _ _ d⟩
  · obtain ⟨G', σ', av, a, b, c, d⟩ := h; exact ⟨G', σ', av, a, b, c, hp _ _ d⟩
  · exact h.elim
def gopE (P : Program) (ops : Array Oper) (n : Nat) (o : Oper) (s : Fr) (σ : AS) (Kv Kp : AV → AS → Prop) : Prop := gop P ops n o s σ Kv Kp ∨ VSpec P n o s σ Kv Kp
theorem gopE_mono {ops : Array Oper} {n : Nat} {o : Oper} {s : Fr} {σ : AS} {K Kp K' Kp' : AV → AS → Prop} (hk : ∀ v σ, K v σ → K' v σ) (hp : ∀ v σ, Kp v σ → Kp' v σ) (h : gopE P ops n o s σ K Kp) : gopE P ops n o s σ K' Kp' :=
  h.imp (gop_mono hk hp) fun ⟨a, b, d⟩ => ⟨a, b, fun G ρ w hi hr => (d G ρ w hi hr).mono (fun v σ h => ⟨h.1, hk v σ h.2⟩) hp⟩
theorem gopE_congr {ops : Array Oper} {n : Nat} {o : Oper} {s s' : Fr} {σ : AS} {Kv Kp : AV → AS → Prop} (h : ∀ t ∈ o.looksAt ops, s t = s' t) : gopE P ops n o s σ Kv Kp = gopE P ops n o s' σ Kv Kp := by
  have hl : lim o s = lim o s' := by
    funext t
    unfold lim
    split
    · rename_i ht
      refine h t ?_
      unfold Oper.looksAt at ht ⊢
      rcases List.mem_append.1 ht with ht | ht
      · exact List.mem_append.2 (.inl ht)
      · simp at ht
    · rfl
  have hv : VSpec P n o s σ Kv Kp = VSpec P n o s' σ Kv Kp := by unfold VSpec VOp; rw [hl]
  unfold gopE
  rw [gop_congr h, hv]
def aAny (P : Program) (n : Nat) (ops : Array Oper) (Q : AQ) : Nat → Array Bool → Fr → AS → Prop
  | 0, listed, s, σ => Region.ready .any ops listed = [] ∧ Q .normal s σ
  | f + 1, listed, s, σ => (Region.ready .any ops listed = [] → Q .normal s σ) ∧ ∀ i ∈ Region.ready .any ops listed, ∃ o, ops[i]? = some o ∧ gopE P ops n o s σ (fun v σ' => aAny P n ops Q f (listed.setIfInBounds i true) (s.put o.dst v) σ') (fun p σ' => Q (.panic p) s σ')
def Robust (P : Program) (n : Nat) (ops : Array Oper) (ro : Bool) (o : Oper) (s : Fr) (σ : AS) (v : AV) : Prop :=
  ∀ σ', (ro = true → AS.le σ σ') → ∀ Kv Kp : AV → AS → Prop, Kv v σ' → gop P ops n o s σ' Kv Kp
theorem robust_of {n : Nat} {ops : Array Oper} {ro : Bool} {o : Oper} {s : Fr} {σ : AS} {Kv Kp : AV → AS → Prop} (hr : (ro = true ∧ readB o.op = true) ∨ pureAt s o.op = true) (h : gop P ops n o s σ Kv Kp) :
    ∃ v, Robust P n ops ro o s σ v ∧ Kv v σ := by
  have key : ∀ (Kv Kp : AV → AS → Prop), runOp P o.op s σ Kv Kp → ∃ v, Kv v σ ∧ ∀ σ', (ro = true → AS.le σ σ') → ∀ Kv' Kp' : AV → AS → Prop, Kv' v σ' → runOp P o.op s σ' Kv' Kp' := by
    intro Kv Kp h
    rcases hr with ⟨h1, h2⟩ | h2
    · obtain ⟨v, k1, k2⟩ := read_le h2 h
      exact ⟨v, k1, fun σ' hσ Kv' Kp' hk => k2 σ' (hσ h1) Kv' Kp' hk⟩
    · obtain ⟨v, k1, k2⟩ := pure_det h2 h
      exact ⟨v, k1, fun σ' _ Kv' Kp' hk => k2 σ' Kv' Kp' hk⟩
  unfold gop at h
  obtain ⟨hd, h⟩ := h
  cases hg : o.guard with
  | none =>
    simp only [hg] at h
    obtain ⟨v, k1, k2⟩ := key _ _ h
    exact ⟨v, fun σ' hσ Kv' Kp' hk => ⟨hd, by simp only [hg]; exact k2 σ' hσ Kv' Kp' hk⟩, k1⟩
  | some p =>
    obtain ⟨j, want⟩ := p
    simp only [hg] at h
    rcases h with ⟨hb, h⟩ | ⟨hb, h⟩
    · obtain ⟨v, k1, k2⟩ := key _ _ h
      exact ⟨v, fun σ' hσ Kv' Kp' hk => ⟨hd, by simp only [hg]; exact .inl ⟨hb, k2 σ' hσ Kv' Kp' hk⟩⟩, k1⟩
    · exact ⟨skipV, fun σ' hσ Kv' Kp' hk => ⟨hd, by simp only [hg]; exact .inr ⟨hb, hk⟩⟩, h⟩
theorem robust_pure {n : Nat} {ops : Array Oper} {ro : Bool} {o : Oper} {s : Fr} {σ : AS} {K : AV → Prop} (h : pureOp P n ops o s K) : ∃ v, Robust P n ops ro o s σ v ∧ K v := by
  obtain ⟨dst, op, ty, pos, af, guard⟩ := o
  unfold pureOp at h
  obtain ⟨hd, h⟩ := h
  simp only at h hd
  split at h
  · obtain ⟨v, h1, h2⟩ := h
    exact ⟨v, fun σ' _ Kv Kp hk => ⟨hd, h1 σ' Kv Kp hk⟩, h2⟩
  · rcases h with ⟨hb, v, h1, h2⟩ | ⟨hb, h2⟩
    · exact ⟨v, fun σ' _ Kv Kp hk => ⟨hd, .inl ⟨hb, h1 σ' Kv Kp hk⟩⟩, h2⟩
    · exact ⟨skipV, fun σ' _ Kv Kp hk => ⟨hd, .inr ⟨hb, hk⟩⟩, h2⟩
  · exact h.elim
theorem gop_same {n : Nat} {ops : Array Oper} {o : Oper} {s : Fr} {σ : AS} {Kv Kp : AV → AS → Prop} (hr : readB o.op = true) (h : gop P ops n o s σ Kv Kp) : gop P ops n o s σ (fun v σ' => σ' = σ ∧ Kv v σ') Kp := by
  obtain ⟨v, h1, h2⟩ := robust_of (ro := true) (.inl ⟨rfl, hr⟩) h
  exact h1 σ (fun _ => AS.le_refl _) _ _ ⟨rfl, h2⟩
theorem put_comm (s : Fr) {x y : Option Nat} (v u : AV) (h : ∀ d, x = some d → y ≠ some d) : (s.put x v).put y u = (s.put y u).put x v := by
  cases x with
  | none => rfl
  | some d =>
    cases y with
    | none => rfl
    | some e =>
      have hne : d ≠ e := fun he => h d rfl (he ▸ rfl)
      funext i
      simp only [Fr.put]
      by_cases h1 : i = d <;> by_cases h2 : i = e <;> simp [h1, h2] <;> omega
theorem put_agree (s : Fr) (x : Option Nat) (v : AV) (l : List Nat) (h : ∀ d, x = some d → d ∉ l) : ∀ t ∈ l, s.put x v t = s t := by
  intro t ht
  cases x with
  | none => rfl
  | some d =>
    have : t ≠ d := fun e => h d rfl (e ▸ ht)
    simp [Fr.put, this]
theorem aAny_first {n i : Nat} {ops : Array Oper} {ro : Bool} {oi : Oper} {v : AV} {Q : AQ} (hi : ops[i]? = some oi) (hQ : ∀ p s s' σ, Q (.panic p) s σ → Q (.panic p) s' σ)
    (M : Nat → Bool) (hMi : M i = false) (hMc : ∀ j oj, ops[j]? = some oj → j ≠ i → (∀ e ∈ oj.after, Region.binds .any e = true → M e.on = true) → M j = true) :
    ∀ (f : Nat) (listed : Array Bool) (s : Fr) (σ : AS),
      (∀ j, listed.getD j false = true → M j = true) → (ro = true → ∀ j oj, ops[j]? = some oj → M j = true → listed.getD j true = false → readB oj.op = true) →
      (∀ j oj, ops[j]? = some oj → j ≠ i → listed.getD j true = false → (∀ e ∈ oj.after, Region.binds .any e = true → e.on ≠ i) → oi.apart ops oj = true) →
      i ∈ Region.ready .any ops listed → Robust P n ops ro oi s σ v →
      aAny P n ops Q f (listed.setIfInBounds i true) (s.put oi.dst v) σ → aAny P n ops Q (f + 1) listed s σ := by
  intro f
  induction f with
  | zero =>
    intro listed s σ hM1 hM2 hfree hr hy H
    refine ⟨fun h => (by rw [h] at hr; cases hr), fun j hj => ?_⟩
    by_cases hji : j = i
    · subst hji
      exact ⟨oi, hi, .inl (hy σ (fun _ => AS.le_refl _) _ _ H)⟩
    · have := ready_mono hj hji
      rw [H.1] at this; cases this
  | succ f ih =>
    intro listed s σ hM1 hM2 hfree hr hy H
    refine ⟨fun h => (by rw [h] at hr; cases hr), fun j hj => ?_⟩
    by_cases hji : j = i
    · subst hji
      exact ⟨oi, hi, .inl (hy σ (fun _ => AS.le_refl _) _ _ H)⟩
    · obtain ⟨oj, hoj, h1⟩ := H.2 j (ready_mono hj hji)
      refine ⟨oj, hoj, ?_⟩
      obtain ⟨hjun, oj', hoj', hall⟩ := mem_ready.1 hj
      rw [hoj] at hoj'
      obtain rfl := Option.some.inj hoj'
      have hiun := (mem_ready.1 hr).1
      have hnot : ∀ e ∈ oj.after, Region.binds .any e = true → e.on ≠ i := by
        intro e he hb heq
        have := hall e he hb
        rw [heq] at this
        rcases Nat.lt_or_ge i listed.size with h' | h'
        · simp [h'] at hiun this
          rw [hiun] at this; cases this
        · simp [Array.getElem?_eq_none h'] at hiun
      have hMj : M j = true := hMc j oj hoj hji fun e he hb => hM1 _ (by
        have := hall e he hb
        simpa [Array.getD_eq_getD_getElem?] using this)
      obtain ⟨a1, a2, a3⟩ := Oper.apart_spec (hfree j oj hoj hji hjun hnot)
      rw [gopE_congr (put_agree s oi.dst v (oj.looksAt ops) a1)] at h1
      have hfree' : ∀ k ok, ops[k]? = some ok → k ≠ i → (listed.setIfInBounds j true).getD k true = false →
          (∀ e ∈ ok.after, Region.binds .any e = true → e.on ≠ i) → oi.apart ops ok = true := fun k ok hk hki hun hno => by
        refine hfree k ok hk hki ?_ hno
        by_cases hjk : j = k
        · subst hjk; exact hjun
        · rw [getD_set_ne true hjk] at hun; exact hun
      have hrob : ∀ u σ', (ro = true → AS.le σ σ') → Robust P n ops ro oi (s.put oj.dst u) σ' v := by
        intro u σ' hσ σ'' hσ' Kv Kp hk
        rw [gop_congr (put_agree s oj.dst u (oi.looksAt ops) a3)]
        exact hy σ'' (fun h => AS.le_trans (hσ h) (hσ' h)) Kv Kp hk
      have fin : ∀ u σ', (ro = true → AS.le σ σ') → aAny P n ops Q f ((listed.setIfInBounds i true).setIfInBounds j true) ((s.put oi.dst v).put oj.dst u) σ' → aAny P n ops Q (f + 1) (listed.setIfInBounds j true) (s.put oj.dst u) σ' := by
        intro u σ' hσ h3
        refine ih (listed.setIfInBounds j true) (s.put oj.dst u) σ' (fun k hk => ?_) (fun hrt k ok hok hMk hun => hM2 hrt k ok hok hMk ?_) hfree' (ready_mono hr (Ne.symm hji)) (hrob u σ' hσ) ?_
        · by_cases hjk : j = k
          · subst hjk; exact hMj
          · rw [getD_set_ne false hjk] at hk; exact hM1 k hk
        · by_cases hjk : j = k
          · subst hjk; exact hjun
          · rw [getD_set_ne true hjk] at hun; exact hun
        rw [Array.setIfInBounds_comm _ _ hji, ← put_comm s v u a2]
        exact h3
      cases hrv : ro with
      | true =>
        rcases h1 with h1 | h1
        · have h4 := gop_same (hM2 hrv j oj hoj hMj hjun) h1
          exact .inl (gop_mono (fun u σ' (h5 : σ' = σ ∧ _) => fin u σ' (fun _ => by rw [h5.1]; exact AS.le_refl _) h5.2) (fun p σ' h5 => hQ p _ _ σ' h5) h4)
        · have h6 := hM2 hrv j oj hoj hMj hjun
          obtain ⟨d1, d2, d3⟩ := h1
          exact .inr ⟨d1, d2, fun G ρ w hi hr' => (d3 G ρ w hi hr').mono (fun u σ' h5 => ⟨h5.1, fin u σ' (fun _ => h5.1 h6) h5.2⟩) (fun p σ' h5 => hQ p _ _ σ' h5)⟩
      | false =>
        exact gopE_mono (fun u σ' h5 => fin u σ' (fun h => by rw [hrv] at h; cases h) h5) (fun p σ' h5 => hQ p _ _ σ' h5) h1
def Sch.depth : Sch → Nat
  | .done => 0
  | .step _ t => t.depth + 1
  | .read _ t => t.depth + 1
  | .alt _ t r => max (t.depth + 1) r.depth
  | .spec _ t r => max (t.depth + 1) r.depth
  | .pure _ t => t.depth + 1
  | .none => 0
theorem aAny_of_sch {n : Nat} {ops : Array Oper} {ro : Bool} {Q : AQ} (hQ : ∀ p s s' σ, Q (.panic p) s σ → Q (.panic p) s' σ) (hro : ro = true → ∀ (j : Nat) (o : Oper), ops[j]? = some o → readB o.op = true) :
    ∀ (t : Sch), (∀ (listed : Array Bool) (s : Fr) (σ : AS) (f : Nat), okSch ops ro true listed t = true → t.depth ≤ f → runSch P n ops ro Q t s σ → aAny P n ops Q f listed s σ) ∧
      (∀ (listed : Array Bool) (s : Fr) (σ : AS) (f : Nat), okSch ops ro false listed t = true → t.depth ≤ f + 1 → runSch P n ops ro Q t s σ → ∀ i ∈ t.idxs, ∃ o, ops[i]? = some o ∧ gopE P ops n o s σ (fun v σ' => aAny P n ops Q f (listed.setIfInBounds i true) (s.put o.dst v) σ') (fun p σ' => Q (.panic p) s σ')) := by
  have altc : ∀ (i : Nat) (t r : Sch) (listed : Array Bool) (s : Fr) (σ : AS) (f : Nat), (∀ (listed : Array Bool) (s : Fr) (σ : AS) (f : Nat), okSch ops ro true listed t = true → t.depth ≤ f → runSch P n ops ro Q t s σ → aAny P n ops Q f listed s σ) →
      (∀ (listed : Array Bool) (s : Fr) (σ : AS) (f : Nat), okSch ops ro false listed r = true → r.depth ≤ f + 1 → runSch P n ops ro Q r s σ → ∀ i ∈ r.idxs, ∃ o, ops[i]? = some o ∧ gopE P ops n o s σ (fun v σ' => aAny P n ops Q f (listed.setIfInBounds i true) (s.put o.dst v) σ') (fun p σ' => Q (.panic p) s σ')) →
      okSch ops ro true (listed.setIfInBounds i true) t = true → okSch ops ro false listed r = true → (Sch.alt i t r).depth ≤ f + 1 → runSch P n ops ro Q (.alt i t r) s σ →
      ∀ j ∈ (Sch.alt i t r).idxs, ∃ o, ops[j]? = some o ∧ gopE P ops n o s σ (fun v σ' => aAny P n ops Q f (listed.setIfInBounds j true) (s.put o.dst v) σ') (fun p σ' => Q (.panic p) s σ') := by
    intro i t r listed s σ f iht ihr h1 h2 h3 h4 j hj
    simp only [Sch.depth] at h3
    simp only [runSch] at h4
    simp only [Sch.idxs, List.mem_cons] at hj
    rcases hj with rfl | hj
    · cases ho : ops[j]? with
      | none => simp only [ho] at h4; exact h4.1.elim
      | some o =>
        simp only [ho] at h4
        refine ⟨o, rfl, ?_⟩
        have := h4.1
        rw [guardOp_eq] at this
        exact .inl (gop_mono (fun v σ' h5 => iht _ _ _ f h1 (by omega) h5) (fun _ _ h => h) this)
    · exact ihr listed s σ f h2 (by omega) h4.2 j hj
  have spcc : ∀ (i : Nat) (t r : Sch) (listed : Array Bool) (s : Fr) (σ : AS) (f : Nat), (∀ (listed : Array Bool) (s : Fr) (σ : AS) (f : Nat), okSch ops ro true listed t = true → t.depth ≤ f → runSch P n ops ro Q t s σ → aAny P n ops Q f listed s σ) →
      (∀ (listed : Array Bool) (s : Fr) (σ : AS) (f : Nat), okSch ops ro false listed r = true → r.depth ≤ f + 1 → runSch P n ops ro Q r s σ → ∀ i ∈ r.idxs, ∃ o, ops[i]? = some o ∧ gopE P ops n o s σ (fun v σ' => aAny P n ops Q f (listed.setIfInBounds i true) (s.put o.dst v) σ') (fun p σ' => Q (.panic p) s σ')) →
      okSch ops ro true (listed.setIfInBounds i true) t = true → okSch ops ro false listed r = true → (Sch.spec i t r).depth ≤ f + 1 → runSch P n ops ro Q (.spec i t r) s σ →
      ∀ j ∈ (Sch.spec i t r).idxs, ∃ o, ops[j]? = some o ∧ gopE P ops n o s σ (fun v σ' => aAny P n ops Q f (listed.setIfInBounds j true) (s.put o.dst v) σ') (fun p σ' => Q (.panic p) s σ') := by
    intro i t r listed s σ f iht ihr h1 h2 h3 h4 j hj
    simp only [Sch.depth] at h3
    simp only [runSch] at h4
    simp only [Sch.idxs, List.mem_cons] at hj
    rcases hj with rfl | hj
    · cases ho : ops[j]? with
      | none => simp only [ho] at h4; exact h4.1.elim
      | some o =>
        simp only [ho] at h4
        exact ⟨o, rfl, gopE_mono (fun v σ' h5 => iht _ _ _ f h1 (by omega) h5) (fun _ _ h => h) (.inr h4.1)⟩
    · exact ihr listed s σ f h2 (by omega) h4.2 j hj
  intro t
  induction t with
  | done =>
    constructor
    · intro listed s σ f h1 h2 h3
      have hre : Region.ready .any ops listed = [] := by simpa [okSch] using h1
      cases f with
      | zero => exact ⟨hre, h3⟩
      | succ f => exact ⟨fun _ => h3, fun i hi => by rw [hre] at hi; cases hi⟩
    · intro listed s σ f h1; simp [okSch] at h1
  | none =>
    constructor
    · intro listed s σ f h1; simp [okSch] at h1
    · intro listed s σ f _ _ _ i hi; simp [Sch.idxs] at hi
  | step i t ih =>
    constructor
    · intro listed s σ f h1 h2 h3
      simp only [okSch, Bool.and_eq_true] at h1
      obtain ⟨⟨⟨q1, q2⟩, q3⟩, q4⟩ := h1
      simp only [runSch] at h3
      simp only [Sch.depth] at h2
      obtain ⟨f, rfl⟩ : ∃ g, f = g + 1 := ⟨f - 1, by omega⟩
      cases ho : ops[i]? with
      | none => simp only [ho] at h3
      | some o =>
        simp only [ho] at h3
        obtain ⟨h3, h4⟩ := h3
        rw [guardOp_eq] at h4
        have hcl : (ro = true ∧ readB o.op = true) ∨ pureAt s o.op = true := by
          rcases h3 with h3 | h3
          · exact .inl ⟨h3, hro h3 i o ho⟩
          · exact .inr h3
        obtain ⟨v, r1, r2⟩ := robust_of hcl h4
        have hin : i ∈ Region.ready .any ops listed := by simpa using q1
        have hun := (mem_ready.1 hin).1
        exact aAny_first ho hQ (fun j => decide (j ≠ i)) (by simp) (fun j _ _ hji _ => by simpa using hji) f listed s σ (fun j hj => by
          by_cases hji : j = i
          · subst hji
            rw [Array.getD_eq_getD_getElem?] at hj hun
            cases hg : listed[j]? <;> simp [hg] at hj hun
            rw [hj] at hun; cases hun
          · simpa using hji) (fun hr j oj hoj _ _ => hro hr j oj hoj) (Region.free_spec ho q2) hin r1 (ih.1 _ _ _ f q4 (by omega) r2)
    · intro listed s σ f h1; simp [okSch] at h1
  | read i t ih =>
    constructor
    · intro listed s σ f h1 h2 h3
      simp only [okSch, Bool.and_eq_true] at h1
      obtain ⟨⟨⟨⟨q1, q2⟩, q3⟩, q5⟩, q4⟩ := h1
      simp only [runSch] at h3
      simp only [Sch.depth] at h2
      obtain ⟨f, rfl⟩ : ∃ g, f = g + 1 := ⟨f - 1, by omega⟩
      cases ho : ops[i]? with
      | none => simp only [ho] at h3
      | some o =>
        simp only [ho] at h3
        rw [guardOp_eq] at h3
        have hrd : readB o.op = true := by simpa [ho] using q3
        obtain ⟨v, r1, r2⟩ := robust_of (ro := true) (.inl ⟨rfl, hrd⟩) h3
        have hin : i ∈ Region.ready .any ops listed := by simpa using q1
        simp only [readsUpTo, Bool.and_eq_true, List.all_eq_true, List.mem_range, Bool.or_eq_true, Bool.not_eq_true', beq_iff_eq] at q5
        obtain ⟨⟨⟨⟨m1, m2⟩, m3⟩, m4⟩, m5⟩ := q5
        refine aAny_first ho hQ (fun j => (upTo ops i 2 listed).getD j false) m2 (fun j oj hj hji hall => ?_) f listed s σ (fun j hj => ?_) (fun _ j oj hoj hMj hun => ?_) (Region.free_spec ho q2) hin r1 (ih.1 _ _ _ f q4 (by omega) r2)
        · have hlt : j < ops.size := (Array.getElem?_eq_some_iff.1 hj).1
          have := m5 j hlt
          simp only [hj, Bool.and_eq_true, Bool.or_eq_true] at this
          rcases this.1 with (h | h) | h
          · exact absurd (by simpa using h) hji
          · exact h
          · rw [Array.any_eq_true'] at h
            obtain ⟨e, he, h⟩ := h
            simp only [Bool.and_eq_true, Bool.not_eq_true'] at h
            rw [hall e he h.1] at h
            cases h.2
        · have hlt : j < ops.size := by
            rcases Nat.lt_or_ge j ops.size with h | h
            · exact h
            · rw [Array.getD_eq_getD_getElem?, Array.getElem?_eq_none (by omega)] at hj; cases hj
          rcases m1 j hlt with h | h
          · rw [hj] at h; cases h
          · exact h
        · have hlt : j < ops.size := (Array.getElem?_eq_some_iff.1 hoj).1
          have := m5 j hlt
          simp only [hoj, Bool.and_eq_true, Bool.or_eq_true, Bool.not_eq_true'] at this
          rcases this.2 with (h | h) | h
          · rw [hMj] at h; cases h
          · rw [hun] at h; cases h
          · exact h
    · intro listed s σ f h1; simp [okSch] at h1
  | pure i t ih =>
    constructor
    · intro listed s σ f h1 h2 h3
      simp only [okSch, Bool.and_eq_true] at h1
      obtain ⟨⟨⟨q1, q2⟩, q3⟩, q4⟩ := h1
      simp only [runSch] at h3
      simp only [Sch.depth] at h2
      obtain ⟨f, rfl⟩ : ∃ g, f = g + 1 := ⟨f - 1, by omega⟩
      cases ho : ops[i]? with
      | none => simp only [ho] at h3
      | some o =>
        simp only [ho] at h3
        obtain ⟨v, r1, r2⟩ := robust_pure (ro := ro) (σ := σ) h3
        have hin : i ∈ Region.ready .any ops listed := by simpa using q1
        have hun := (mem_ready.1 hin).1
        exact aAny_first ho hQ (fun j => decide (j ≠ i)) (by simp) (fun j _ _ hji _ => by simpa using hji) f listed s σ (fun j hj => by
          by_cases hji : j = i
          · subst hji
            rw [Array.getD_eq_getD_getElem?] at hj hun
            cases hg : listed[j]? <;> simp [hg] at hj hun
            rw [hj] at hun; cases hun
          · simpa using hji) (fun hr j oj hoj _ _ => hro hr j oj hoj) (Region.free_spec ho q2) hin r1 (ih.1 _ _ _ f q4 (by omega) r2)
    · intro listed s σ f h1; simp [okSch] at h1
  | alt i t r iht ihr =>
    constructor
    · intro listed s σ f h1 h2 h3
      simp only [okSch, Bool.and_eq_true, Bool.not_true, Bool.false_or] at h1
      obtain ⟨⟨⟨q1, q2⟩, q3⟩, q4⟩ := h1
      have h2' := h2
      simp only [Sch.depth] at h2
      obtain ⟨f, rfl⟩ : ∃ g, f = g + 1 := ⟨f - 1, by omega⟩
      have := altc i t r listed s σ f iht.1 ihr.2 q3 q4 h2' h3
      refine ⟨fun h => by rw [h] at q2; simp at q2, fun j hj => this j ?_⟩
      have := List.all_eq_true.1 q1 j hj
      simpa using this
    · intro listed s σ f h1 h2 h3
      simp only [okSch, Bool.and_eq_true, Bool.not_false, Bool.true_or, true_and] at h1
      exact altc i t r listed s σ f iht.1 ihr.2 h1.1 h1.2 h2 h3
  | spec i t r iht ihr =>
    constructor
    · intro listed s σ f h1 h2 h3
      simp only [okSch, Bool.and_eq_true, Bool.not_true, Bool.false_or] at h1
      obtain ⟨⟨⟨q1, q2⟩, q3⟩, q4⟩ := h1
      have h2' := h2
      simp only [Sch.depth] at h2
      obtain ⟨f, rfl⟩ : ∃ g, f = g + 1 := ⟨f - 1, by omega⟩
      have := spcc i t r listed s σ f iht.1 ihr.2 q3 q4 h2' h3
      refine ⟨fun h => by rw [h] at q2; simp at q2, fun j hj => this j ?_⟩
      have := List.all_eq_true.1 q1 j hj
      simpa using this
    · intro listed s σ f h1 h2 h3
      simp only [okSch, Bool.and_eq_true, Bool.not_false, Bool.true_or, true_and] at h1
      exact spcc i t r listed s σ f iht.1 ihr.2 h1.1 h1.2 h2 h3
theorem wpAny_of_aAny {n : Nat} {ds : List Deferred} {G0 : Gh} {ops : Array Oper} {Q : AQ} : ∀ (f : Nat) (listed : Array Bool) (G : Gh) (s : Fr) (σ : AS) (a : Act) (w : World), aAny P n ops Q f listed s σ → G0.Le G → Sim P G n ds s σ a w →
    wpAny P .any ops (LQ P n ds Q G0) f listed a w := by
  intro f
  induction f with
  | zero => intro listed G s σ a w h hle hs; exact ⟨h.1, G, s, σ, hle, hs, h.2⟩
  | succ f ih =>
    intro listed G s σ a w h hle hs
    refine ⟨fun he => ⟨G, s, σ, hle, hs, h.1 he⟩, fun i hi => ?_⟩
    obtain ⟨o, ho, hg⟩ := h.2 i hi
    rcases hg with hg | ⟨hd, hgn, hv⟩
    rotate_left
    · have hd' : ∀ t, o.dst = some t → t < n := by intro t ht; rw [ht] at hd; exact hd
      unfold wpOp
      simp only [ho]
      have hw : Region.wanted o (yielded ops a.tmps) = true := by simp [Region.wanted, hgn]
      rw [if_pos hw]
      refine .inl ?_
      have := hv G a.eval w hs.inv (fun x => lim_ev o s x (hs.ev x))
      unfold Oper.wp
      generalize (execOp a.eval o).run P w = r at this ⊢
      cases r with
      | ok nx w' =>
        cases nx <;> simp only [Out] at this <;> first | exact this.elim | skip
        · obtain ⟨G', σ', av, g1, g2, g3, g4⟩ := this
          exact ih _ G' _ _ _ _ g4.2 (hle.trans g1) (hs.put g1 g2 o.dst hd' g3)
        · obtain ⟨G', σ', av, g1, g2, g3, g4⟩ := this
          exact ih _ G' _ _ _ _ g4.2 (hle.trans g1) (hs.put g1 g2 o.dst hd' g3)
      | halt x w' =>
        cases x <;> simp only [Out] at this <;> first | exact this.elim | skip
        obtain ⟨G', σ', av, g1, g2, g3, g4⟩ := this
        exact ⟨rfl, rfl, G', s, σ', av, hle.trans g1, ⟨g2, hs.size, hs.ds, fun i => (hs.rep i).mono g1⟩, g3, g4⟩
    rw [← guardOp_eq] at hg
    have := guardOp_ok o hg hle hs (next := wpAny P .any ops (LQ P n ds Q G0) f (listed.setIfInBounds i true)) (fun G' s' σ' a' w' h1 h2 h3 => ih _ G' s' σ' a' w' h3 h1 h2)
    unfold wpOp
    simp only [ho]
    by_cases hw : Region.wanted o (yielded ops a.tmps) = true
    · rw [if_pos hw] at this ⊢; exact .inl this
    · rw [if_neg hw] at this ⊢; exact this
theorem AWp.draw {n : Nat} {ds : List Deferred} {id : Nat} {l : List Oper} {Q : AQ} {s : Fr} {σ : AS} (hm : P.follows .mixedOrders = true) (ro : Bool) (t : Sch)
    (hro : (!ro || l.all fun o => readB o.op) = true) (hok : okSch l.toArray ro true (Array.replicate l.length false) t = true) (hd : decide (t.depth ≤ l.length) = true)
    (hQ : ∀ p s s' σ, Q (.panic p) s σ → Q (.panic p) s' σ) (h : runSch P n l.toArray ro Q t s σ) : AWp P n ds (.region id l.toArray true) Q s σ := by
  intro G0 G a w h1 h2
  have hs : Sim P G n ds s σ a { w with drawn := w.drawn + 1 } := ⟨h2.inv.drew, h2.size, h2.ds, h2.rep⟩
  refine wp_region_any hm ?_
  have := (aAny_of_sch (P := P) (n := n) hQ (fun hr j o ho => by
    rw [hr] at hro
    simp only [Bool.not_true, Bool.false_or, List.all_eq_true] at hro
    refine hro o ?_
    rw [List.getElem?_toArray] at ho
    exact List.mem_of_getElem? ho) t).1 _ s σ l.length hok (by simpa using hd) h
  have := wpAny_of_aAny (ds := ds) l.length _ G s σ a _ this h1 hs
  simpa using this
end Go.AW
