/- A layer of abstract values over the model's machine: own work for this claim, part AwDefer. -/
import Derived.Test.YtnkjbgcbchbonaaAwMap
import Derived.Recover
set_option linter.unusedSimpArgs false
set_option linter.unusedVariables false
namespace Go.AW
open Go Go.RowKit

variable {P : Program} {n : Nat} {ds : List Deferred} {Q : AQ} {s : Fr} {σ : AS}

/-! ## what is put off to a function's end, and what takes a panic back -/

theorem upon_Q {o : Oper} {a : Act} {next : Act → World → Prop} {T T' : Exit → Act → World → Prop} {r : Result Next} (hT : ∀ e a w, T e a w → T' e a w) (hh : o.upon P a next T r) : o.upon P a next T' r := by
  cases r with
  | ok nx w' =>
    cases nx <;> simp only [Oper.upon] at hh ⊢ <;>
      first
        | exact hh
        | exact Calls.mono hh (fun e w'' he => by
            cases e <;> first
              | exact he
              | exact hT _ _ _ he
              | (obtain ⟨a0, w0, h0⟩ := he; exact ⟨a0, w0, hT _ _ _ h0⟩))
  | halt x w' => cases x <;> simp only [Oper.upon] at hh ⊢ <;> first | exact hT _ _ _ hh | exact hh

theorem LQ.ne {K : Fr → AS → Prop} {G : Gh} {e : Exit} {a : Act} {w : World} (he : e ≠ .normal) (h : LQ P n ds (thenQ K Q) G e a w) : LQ P n ds Q G e a w := by
  cases e with
  | normal => exact absurd rfl he
  | panic ch =>
    match ch, h with
    | [x], h => exact h
    | [], h => exact h.elim
    | _ :: _ :: _, h => exact h.elim
  | exit i => exact h
  | ret => exact h
  | goto i => exact h.elim
  | outgrown => exact h.elim

theorem sOps_S {ops : Array Oper} {G0 : Gh} {cs : List Frame} {QS : Exit → Act → List Frame → World → Prop} (hQ : ∀ e a w, LQ P n ds Q G0 e a w → QS e a cs w) :
    ∀ (r : List Oper) (k : Nat), (∀ j, r[j]? = ops[k + j]?) → ∀ (G : Gh) (s : Fr) (σ : AS) (a : Act) (w : World), sOps P n ds ops Q r s σ → G0.Le G → Sim P G n ds s σ a w →
      wpOpsS P ops QS (List.range' k r.length) a cs w := by
  intro r
  induction r with
  | nil => intro k _ G s σ a w h hle hs; exact hQ _ _ _ ⟨G, s, σ, hle, hs, h⟩
  | cons o r ih =>
    intro k hk G s σ a w h hle hs
    have h0 : ops[k]? = some o := by simpa using (hk 0).symm
    have hk' : ∀ j, r[j]? = ops[k + 1 + j]? := fun j => by have := hk (j + 1); simpa [Nat.add_assoc, Nat.add_comm 1 j] using this
    rw [List.length_cons, List.range'_succ]
    simp only [wpOpsS, h0]
    have conv : ∀ next : Act → World → Prop, (∀ a w, next a w → wpOpsS P ops QS (List.range' (k + 1) r.length) a cs w) → o.wp P a w next (LQ P n ds Q G0) →
        (match (execOp a.eval o).run P w with
        | .ok .recover w' =>
          match recoverD cs with
          | some (v, cs') => wpOpsS P ops QS (List.range' (k + 1) r.length) (a.put o.dst v) cs' w'
          | none => wpOpsS P ops QS (List.range' (k + 1) r.length) (a.put o.dst .nilIface) cs w'
        | r' => o.upon P a (fun a' w' => wpOpsS P ops QS (List.range' (k + 1) r.length) a' cs w') (fun e a' w' => QS e a' cs w') r') := by
      intro next hn hw
      unfold Oper.wp at hw
      have hw' := upon_mono hn (upon_Q hQ hw)
      generalize (execOp a.eval o).run P w = r' at hw'
      cases r' with
      | ok nx w' => cases nx <;> first | exact hw' | (simp only [Oper.upon] at hw'; done)
      | halt x w' => exact hw'
    rcases h with ⟨hg, h⟩ | h
    · have hw : Region.wanted o (yielded ops a.tmps) = true := by simp [Region.wanted, hg]
      rw [if_pos hw]
      exact conv _ (fun _ _ h => h) (h G0 G a w hle hs _ (fun G' s' σ' a' w' h1 h2 h3 => ih (k + 1) hk' G' s' σ' a' w' h3 h1 h2))
    · have := guardOp_ok o h hle hs (next := fun a' w' => wpOpsS P ops QS (List.range' (k + 1) r.length) a' cs w') (fun G' s' σ' a' w' h1 h2 h3 => ih (k + 1) hk' G' s' σ' a' w' h3 h1 h2)
      by_cases hw : Region.wanted o (yielded ops a.tmps) = true
      · rw [if_pos hw] at this ⊢; exact conv _ (fun _ _ h => h) this
      · rw [if_neg hw] at this ⊢; exact this

/-- What a function that was put off does at the end: pv is what was thrown, if anything was; none of it goes on. -/
def DCalls (P : Program) (f : FuncId) (caps : List AV) (σ : AS) (pv : Option AV) (K : AS → Prop) : Prop :=
  ∀ (G : Gh) (w : World) (vals : Array Value) (u : FrameMode), Inv P G σ w → RepL P G caps vals →
    (match pv with | none => u = .returning | some a => ∃ e : PanicEntry, e.recovered = false ∧ e.goexit = false ∧ Rep P G a e.v ∧ u = .panicking [e]) →
    CallsD P f vals u w fun e u' w' => (∃ x, e = .returned x) ∧ settle u' = .returning ∧ ∃ G' σ', G.Le G' ∧ Inv P G' σ' w' ∧ K σ'

def endQ (K : AS → Prop) : AQ
  | .normal, _, σ => K σ
  | .ret, _, σ => K σ
  | _, _, _ => False
@[simp] theorem endQ_n (K : AS → Prop) (s : Fr) (σ : AS) : endQ K .normal s σ = K σ := rfl
@[simp] theorem endQ_r (K : AS → Prop) (s : Fr) (σ : AS) : endQ K .ret s σ = K σ := rfl

def recV (pv : Option AV) : AV := pv.getD (.sc .nilIface)

theorem DCalls.of {f : FuncId} {fn : Func} {d id : Nat} {l : List Oper} {y : Code} {ats : Array TypeId} {ty : TypeId} {pos : String} {af : Array Edge} {caps : List AV} {pv : Option AV} {K : AS → Prop}
    (hf : P.funcs[f]? = some fn) (hb : fn.body = some (.seq (.region id ((⟨some d, .call ⟨.builtin .recover, #[], ats⟩, ty, pos, af, none⟩ : Oper) :: l).toArray false) y)) (hres : fn.results.toList = []) (ha : caps.length ≤ fn.ntmps) (hd : d < fn.ntmps)
    (h : sOps P fn.ntmps [] ((⟨some d, .call ⟨.builtin .recover, #[], ats⟩, ty, pos, af, none⟩ : Oper) :: l).toArray (thenQ (AWp P fn.ntmps [] y (endQ K)) (endQ K)) l ((frOf caps).put (some d) (recV pv)) σ) : DCalls P f caps σ pv K := by
  intro G w vals u hi hr hu
  refine callsD_of_wpS hf hb fun c₀ cs hc => wpS_seq (wpS_region ?_)
  have hsim : Sim P G fn.ntmps [] (frOf caps) σ { tmps := vals ++ Array.replicate (fn.ntmps - vals.size) undef, defers := [] } w := by
    refine ⟨hi, by simp [hr.1]; omega, rfl, fun i => ?_⟩
    by_cases hlt : i < caps.length
    · have e1 : (vals ++ Array.replicate (fn.ntmps - vals.size) undef).getD i undef = vals.getD i undef := by
        rw [Array.getD_eq_getD_getElem?, Array.getElem?_append_left (by rw [hr.1]; exact hlt), ← Array.getD_eq_getD_getElem?]
      simp only [e1]
      exact hr.2 i hlt
    · have : frOf caps i = .any := by simp [frOf, List.getD_eq_getElem?_getD, List.getElem?_eq_none (Nat.le_of_not_lt hlt)]
      rw [this]
      exact .any _
  generalize ({ tmps := vals ++ Array.replicate (fn.ntmps - vals.size) undef, defers := [] } : Act) = a at hsim ⊢
  -- where the rest of it goes, by the mode that is left
  have rest : ∀ (u' : FrameMode) (v : Value), settle u' = .returning → Rep P G (recV pv) v →
      wpOpsS P ((⟨some d, .call ⟨.builtin .recover, #[], ats⟩, ty, pos, af, none⟩ : Oper) :: l).toArray
        (Exit.thenS (y.wpS P (bodyPostS P fn c₀ cs fun e u' w' => (∃ x, e = .returned x) ∧ settle u' = .returning ∧ ∃ G' σ', G.Le G' ∧ Inv P G' σ' w' ∧ K σ')) (bodyPostS P fn c₀ cs fun e u' w' => (∃ x, e = .returned x) ∧ settle u' = .returning ∧ ∃ G' σ', G.Le G' ∧ Inv P G' σ' w' ∧ K σ'))
        (List.range' 1 l.length) (a.put (some d) v) ({ c₀ with mode := u' } :: cs) w := by
    intro u' v hu' hv
    have fin : ∀ (e : Exit) (a' : Act) (w' : World), LQ P fn.ntmps [] (endQ K) G e a' w' →
        bodyPostS P fn c₀ cs (fun e u' w' => (∃ x, e = .returned x) ∧ settle u' = .returning ∧ ∃ G' σ', G.Le G' ∧ Inv P G' σ' w' ∧ K σ') e a' ({ c₀ with mode := u' } :: cs) w' := by
      intro e a' w' hq
      have done : ∀ (G' : Gh) (s' : Fr) (σ' : AS), G.Le G' → Sim P G' fn.ntmps [] s' σ' a' w' → K σ' →
          a'.defers = [] ∧ ∃ u'', ({ c₀ with mode := u' } :: cs : List Frame) = { c₀ with mode := u'' } :: cs ∧ ∃ v, (results fn a'.tmps).run P w' = .ok v w' ∧ ((∃ x, Ending.returned v = .returned x) ∧ settle u'' = .returning ∧ ∃ G' σ', G.Le G' ∧ Inv P G' σ' w' ∧ K σ') := by
        intro G' s' σ' g1 g2 g3
        obtain ⟨v, vs, k1, _, _⟩ := results_fn g2 fn (fun _ => True) (by rw [hres]; trivial)
        exact ⟨g2.ds, u', rfl, v, k1, ⟨v, rfl⟩, hu', G', σ', g1, g2.inv, g3⟩
      unfold LQ at hq
      split at hq
      · obtain ⟨G', s', σ', g1, g2, g3⟩ := hq; exact done G' s' σ' g1 g2 g3
      · obtain ⟨G', s', σ', g1, g2, g3⟩ := hq; exact g3.elim
      · obtain ⟨G', s', σ', g1, g2, g3⟩ := hq; exact done G' s' σ' g1 g2 g3
      · obtain ⟨_, _, G', s', σ', v, g1, g2, g3, g4⟩ := hq; exact g4.elim
      · exact hq.elim
    refine sOps_S (G0 := G) (Q := thenQ (AWp P fn.ntmps [] y (endQ K)) (endQ K)) ?_ l 1 (fun j => by simp [Nat.add_comm 1 j]) G _ σ _ w h (.refl G) (hsim.put (.refl G) hi (some d) (fun t ht => by cases ht; exact hd) hv)
    intro e a' w' hq
    cases e with
    | normal =>
      obtain ⟨G', s', σ', g1, g2, g3⟩ := hq
      exact wpS_of_wp (wp_mono (g3 G G' a' w' g1 g2) fun e a'' w'' hq => fin e a'' w'' hq)
    | exit i => obtain ⟨G', s', σ', g1, g2, g3⟩ := hq; exact g3.elim
    | ret => exact fin _ _ _ (LQ.ne (by simp) hq)
    | panic ch => exact fin _ _ _ (LQ.ne (by simp) hq)
    | goto i => exact hq.elim
    | outgrown => exact hq.elim
  have hsz : ((⟨some d, .call ⟨.builtin .recover, #[], ats⟩, ty, pos, af, none⟩ : Oper) :: l).toArray.size = l.length + 1 := by simp
  rw [hsz, List.range_eq_range', List.range'_succ]
  have h0 : ((⟨some d, .call ⟨.builtin .recover, #[], ats⟩, ty, pos, af, none⟩ : Oper) :: l).toArray[0]? = some ⟨some d, .call ⟨.builtin .recover, #[], ats⟩, ty, pos, af, none⟩ := by simp
  have hrun : (execOp a.eval ⟨some d, .call ⟨.builtin .recover, #[], ats⟩, ty, pos, af, none⟩).run P w = .ok .recover w := by rfl
  have hw : Region.wanted (⟨some d, .call ⟨.builtin .recover, #[], ats⟩, ty, pos, af, none⟩ : Oper) (yielded ((⟨some d, .call ⟨.builtin .recover, #[], ats⟩, ty, pos, af, none⟩ : Oper) :: l).toArray a.tmps) = true := by simp [Region.wanted]
  simp only [wpOpsS, h0, hw, if_true, hrun]
  cases pv with
  | none =>
    simp only at hu
    subst hu
    have hm : recoverD (c₀ :: cs) = none := by simp [recoverD, hc]
    rw [hm]
    have e : c₀ = { c₀ with mode := .returning } := by cases c₀; simp at hc; subst hc; rfl
    have := rest .returning .nilIface rfl (.sc _)
    rw [← e] at this
    exact this
  | some av =>
    obtain ⟨e, e1, e2, e3, rfl⟩ := hu
    obtain ⟨v, rc, ge⟩ := e
    simp only at e1 e2 e3
    subst e1 e2
    have hm : recoverD (c₀ :: cs) = some (v, { c₀ with mode := .panicking [{ v := v, recovered := true }] } :: cs) := by simp [recoverD, hc]
    rw [hm]
    exact rest _ v rfl e3

/-- A value's type, asked for: it is that one. -/
theorem SOp.assertY {d t u : Nat} {x : Operand} {ty : TypeId} {pos : String} {af : Array Edge} {g : Option (Nat × Bool)} {K : Fr → AS → Prop} (hd : d < n) {v : AV} {td : TypeDesc} (hu : P.underlying u = some td) (hni : match td with | .interface _ => False | _ => True)
    (hx : ev s x = .ifc u v) (h : K (s.put (some d) (.tup [v, .sc (.bool true)])) σ) : SOp P n ds Q ⟨some d, .typeAssert x t u true, ty, pos, af, g⟩ s σ K := by
  refine SOp.of_out hd fun G a w hs => ?_
  have hr := hs.ev x
  rw [hx] at hr
  show Out P G _ _ ((do pure (Next.value (← Instr.typeAssert (a.eval x) t u true)) : Sem Next).run P w)
  generalize a.eval x = xv at hr
  cases hr with
  | ifc hv =>
    rename_i y
    have hrun : (Instr.typeAssert (.iface u y) t u true).run P w = .ok (.tuple #[y, .bool true]) w := by
      cases td <;> first | exact hni.elim | simp [Instr.typeAssert, Sem.run_bind, run_underlying hu, Result.andThen]
    refine Out.value hrun (.refl G) hs.inv ?_ h
    refine .tup [y, .bool true] rfl fun i hi => ?_
    match i, hi with
    | 0, _ => exact hv
    | 1, _ => exact .sc _
/-- .. there is none. -/
theorem SOp.assertN {d t u : Nat} {x : Operand} {ty : TypeId} {pos : String} {af : Array Edge} {g : Option (Nat × Bool)} {K : Fr → AS → Prop} (hd : d < n) {td : TypeDesc} (hu : P.underlying u = some td) (hni : match td with | .interface _ => False | _ => True) (hz : (zeroAV P u).laid = true)
    (hx : ev s x = .sc .nilIface) (h : K (s.put (some d) (.tup [zeroAV P u, .sc (.bool false)])) σ) : SOp P n ds Q ⟨some d, .typeAssert x t u true, ty, pos, af, g⟩ s σ K := by
  refine SOp.of_out hd fun G a w hs => ?_
  have hr := hs.ev x
  rw [hx] at hr
  show Out P G _ _ ((do pure (Next.value (← Instr.typeAssert (a.eval x) t u true)) : Sem Next).run P w)
  generalize a.eval x = xv at hr
  cases hr
  obtain ⟨it, z, hit, hzv, hzr⟩ := zeroAV_info hz
  have hrun : (Instr.typeAssert .nilIface t u true).run P w = .ok (.tuple #[z, .bool false]) w := by
    cases td <;> first | exact hni.elim | simp [Instr.typeAssert, Sem.run_bind, run_underlying hu, Result.andThen, zeroValue, run_typeInfo w hit, hzv]
  refine Out.value hrun (.refl G) hs.inv ?_ h
  refine .tup [z, .bool false] rfl fun i hi => ?_
  match i, hi with
  | 0, _ => rw [show ([zeroAV P u, AV.sc (.bool false)]).getD 0 .any = zeroAV P u from rfl, hzr]; exact rep_ofC z
  | 1, _ => exact .sc _

/-- A body that puts something off, from a place on. -/
def AWpD (P : Program) (fn : Func) (c : Code) (R Rp : AV → AS → Prop) (G1 : Gh) (s : Fr) (σ : AS) : Prop :=
  ∀ (G : Gh) (a : Act) (w : World), G1.Le G → Sim P G fn.ntmps [] s σ a w → c.wp P (bodyPostD P fn (EndOk P G1 R Rp)) a w

theorem bodyD_fin {fn : Func} {R Rp : AV → AS → Prop} {G1 : Gh} {e : Exit} {a : Act} {w : World} (h : LQ P fn.ntmps [] (bodyQ P fn.results.toList R Rp) G1 e a w) : bodyPostD P fn (EndOk P G1 R Rp) e a w := by
  have fin : ∀ (s' : Fr) (σ' : AS) (G' : Gh), G1.Le G' → Sim P G' fn.ntmps [] s' σ' a w → (resAV fn.results.toList P s' σ' fun vs => ∃ r' σ'', AV.Wk P (packAV vs) r' ∧ AS.le σ'' σ' ∧ R r' σ'') →
      Leaves P fn a.tmps (EndOk P G1 R Rp) a.defers .returning w := by
    intro s' σ' G' h1 h2 h3
    obtain ⟨v, vs, k1, k2, r', σ'', k3, k4, k5⟩ := results_fn h2 fn _ h3
    rw [h2.ds]
    exact ⟨v, k1, G', σ'', r', h1, h2.inv.weaken k4, k3 _ _ k2, k5⟩
  unfold LQ at h
  split at h
  · obtain ⟨G', s', σ', a1, a2, a3⟩ := h; exact fin s' σ' G' a1 a2 a3
  · obtain ⟨G', s', σ', a1, a2, a3⟩ := h; exact a3.elim
  · obtain ⟨G', s', σ', a1, a2, a3⟩ := h; exact fin s' σ' G' a1 a2 a3
  · obtain ⟨x, y, G', s', σ', v, a1, a2, a3, σ'', a4, a5⟩ := h
    show Leaves P fn a.tmps (EndOk P G1 R Rp) a.defers (.panicking _) w
    rw [a2.ds]
    exact ⟨x, y, G', σ'', v, a1, a2.inv.weaken a4, a3, a5⟩
  · exact h.elim

theorem AWpD.of {fn : Func} {c : Code} {R Rp : AV → AS → Prop} {G1 : Gh} (h : AWp P fn.ntmps [] c (bodyQ P fn.results.toList R Rp) s σ) : AWpD P fn c R Rp G1 s σ :=
  fun G a w h1 h2 => wp_mono (h G1 G a w h1 h2) fun _ _ _ hq => bodyD_fin hq

theorem AWpD.seq {fn : Func} {x y : Code} {R Rp : AV → AS → Prop} {G1 : Gh} (h : AWp P fn.ntmps [] x (thenQ (fun s σ => AWpD P fn y R Rp G1 s σ) (bodyQ P fn.results.toList R Rp)) s σ) : AWpD P fn (.seq x y) R Rp G1 s σ := by
  intro G a w h1 h2
  refine wp_seq (wp_mono (h G1 G a w h1 h2) fun e a' w' hq => ?_)
  cases e with
  | normal => obtain ⟨G', s', σ', g1, g2, g3⟩ := hq; exact g3 G' a' w' g1 g2
  | exit i => obtain ⟨G', s', σ', g1, g2, g3⟩ := hq; exact g3.elim
  | ret => exact bodyD_fin (LQ.ne (by simp) hq)
  | panic ch => exact bodyD_fin (LQ.ne (by simp) hq)
  | goto i => exact hq.elim
  | outgrown => exact hq.elim

/-- Where a body ends that put one function off. -/
def bodyQD (P : Program) (rs : List ResultVar) (f : FuncId) (caps : List AV) (R Rp : AV → AS → Prop) : AQ
  | .normal, s, σ => DCalls P f caps σ none fun σ' => resAV rs P s σ' fun vs => Ends P R σ' (packAV vs)
  | .ret, s, σ => DCalls P f caps σ none fun σ' => resAV rs P s σ' fun vs => Ends P R σ' (packAV vs)
  | .panic v, s, σ => DCalls P f caps σ (some v) fun σ' => resAV rs P s σ' fun vs => Ends P R σ' (packAV vs)
  | _, _, _ => False
@[simp] theorem bodyQD_r (rs : List ResultVar) (f : FuncId) (caps : List AV) (R Rp : AV → AS → Prop) (s : Fr) (σ : AS) : bodyQD P rs f caps R Rp .ret s σ = DCalls P f caps σ none fun σ' => resAV rs P s σ' fun vs => Ends P R σ' (packAV vs) := rfl
@[simp] theorem bodyQD_n (rs : List ResultVar) (f : FuncId) (caps : List AV) (R Rp : AV → AS → Prop) (s : Fr) (σ : AS) : bodyQD P rs f caps R Rp .normal s σ = DCalls P f caps σ none fun σ' => resAV rs P s σ' fun vs => Ends P R σ' (packAV vs) := rfl
@[simp] theorem bodyQD_p (rs : List ResultVar) (f : FuncId) (caps : List AV) (R Rp : AV → AS → Prop) (v : AV) (s : Fr) (σ : AS) : bodyQD P rs f caps R Rp (.panic v) s σ = DCalls P f caps σ (some v) fun σ' => resAV rs P s σ' fun vs => Ends P R σ' (packAV vs) := rfl

theorem AWpD.defer {fn : Func} {id d f : Nat} {caps : Array Operand} {rest : Code} {R Rp : AV → AS → Prop} {G1 : Gh} {ty1 ty2 : TypeId} {p1 p2 : String} {a1 a2 : Array Edge} {ats : Array TypeId}
    (hd : d < fn.ntmps) (hbody : hasBody P f = true)
    (h : ∀ D, AWp P fn.ntmps [D] rest (bodyQD P fn.results.toList f (caps.toList.map (ev s)) R Rp) (s.put (some d) (.fn (.func f) [] (caps.toList.map (ev s)))) σ) :
    AWpD P fn (.seq (.region id [(⟨some d, .makeFunc (.func f) #[] caps, ty1, p1, a1, none⟩ : Oper), ⟨none, .defer ⟨.value (.tmp d), #[], ats⟩, ty2, p2, a2, none⟩].toArray false) rest) R Rp G1 s σ := by
  intro G a w h1 hs
  refine wp_seq (wp_region_lit ?_)
  have hw1 : Region.wanted (⟨some d, .makeFunc (.func f) #[] caps, ty1, p1, a1, none⟩ : Oper) (yielded [(⟨some d, .makeFunc (.func f) #[] caps, ty1, p1, a1, none⟩ : Oper), ⟨none, .defer ⟨.value (.tmp d), #[], ats⟩, ty2, p2, a2, none⟩].toArray a.tmps) = true := by simp [Region.wanted]
  unfold wpList
  rw [if_pos hw1]
  refine .inl ?_
  have hr1 : (execOp a.eval ⟨some d, .makeFunc (.func f) #[] caps, ty1, p1, a1, none⟩).run P w = .ok (.value (.func (.func f) #[] (caps.map a.eval))) w := by simp [execOp, Instr.makeFunc]
  show Oper.upon P _ a _ _ ((execOp a.eval ⟨some d, .makeFunc (.func f) #[] caps, ty1, p1, a1, none⟩).run P w)
  rw [hr1, Oper.upon_value]
  have hcaps : RepL P G (caps.toList.map (ev s)) (caps.map a.eval) := ⟨by simp, fun i hi => by
    simp at hi
    simp [List.getD_eq_getElem?_getD, hi]
    exact hs.ev _⟩
  have hfn : Rep P G (.fn (.func f) [] (caps.toList.map (ev s))) (.func (.func f) #[] (caps.map a.eval)) := by
    have := Rep.fn (P := P) (G := G) (f := .func f) (first := []) (captured := caps.toList.map (ev s)) [] (caps.map a.eval).toList rfl (by simp) (fun i hi => by simp at hi) (fun i hi => by
      have h1 := hcaps.2 i hi
      have e : (caps.map a.eval).toList.getD i undef = (caps.map a.eval).getD i undef := by simp [List.getD_eq_getElem?_getD]
      rw [e]
      exact h1)
    rw [Array.toArray_toList] at this
    exact this
  have hs1 := hs.put (.refl G) hs.inv (some d) (fun t ht => by cases ht; exact hd) hfn
  unfold wpList
  have hev : (a.put (some d) (.func (.func f) #[] (caps.map a.eval))).eval (.tmp d) = .func (.func f) #[] (caps.map a.eval) := by
    have hdl : d < a.tmps.size := by rw [hs.size]; exact hd
    simp [Act.put, Act.eval, hdl]
  have hw2 : Region.wanted (⟨none, .defer ⟨.value (.tmp d), #[], ats⟩, ty2, p2, a2, none⟩ : Oper) (yielded [(⟨some d, .makeFunc (.func f) #[] caps, ty1, p1, a1, none⟩ : Oper), ⟨none, .defer ⟨.value (.tmp d), #[], ats⟩, ty2, p2, a2, none⟩].toArray (a.put (some d) (.func (.func f) #[] (caps.map a.eval))).tmps) = true := by simp [Region.wanted]
  rw [if_pos hw2]
  refine .inl ?_
  have hr2 : (execOp (a.put (some d) (.func (.func f) #[] (caps.map a.eval))).eval ⟨none, .defer ⟨.value (.tmp d), #[], ats⟩, ty2, p2, a2, none⟩).run P w = .ok (.defer { target := .fn (.func f) (caps.map a.eval), args := #[] }) w := by
    simp only [execOp, resolve, hev, Deferred.ofValue]
    simp
  show Oper.upon P _ _ _ _ ((execOp (a.put (some d) (.func (.func f) #[] (caps.map a.eval))).eval ⟨none, .defer ⟨.value (.tmp d), #[], ats⟩, ty2, p2, a2, none⟩).run P w)
  rw [hr2, Oper.upon_defer]
  generalize hD : ({ target := .fn (.func f) (caps.map a.eval), args := #[] } : Deferred) = D
  have hds : (a.put (some d) (.func (.func f) #[] (caps.map a.eval))).defers = [] := hs1.ds
  have hs2 : Sim P G fn.ntmps [D] (s.put (some d) (.fn (.func f) [] (caps.toList.map (ev s)))) σ ({ a.put (some d) (.func (.func f) #[] (caps.map a.eval)) with defers := D :: (a.put (some d) (.func (.func f) #[] (caps.map a.eval))).defers }.put none undef) w :=
    ⟨hs1.inv, hs1.size, by show D :: _ = [D]; rw [hds], hs1.rep⟩
  show (Exit.then _ _) .normal _ w
  refine wp_mono (h D G G _ w (.refl G) hs2) fun e a' w' hq => ?_
  have inv : (invoke (.fn (.func f) (caps.map a.eval)) #[]).run P w' = .ok (.enter f (caps.map a.eval)) w' := by
    have := hasBody_run (w := w') hbody (caps.map a.eval)
    simpa [invoke] using this
  have fin : ∀ (u : FrameMode) (G' : Gh) (s' : Fr) (σ' : AS) (pv : Option AV), G.Le G' → Sim P G' fn.ntmps [D] s' σ' a' w' → u ≠ .run →
      (match pv with | none => u = .returning | some a => ∃ e : PanicEntry, e.recovered = false ∧ e.goexit = false ∧ Rep P G' a e.v ∧ u = .panicking [e]) →
      (DCalls P f (caps.toList.map (ev s)) σ' pv fun σ' => resAV fn.results.toList P s' σ' fun vs => Ends P R σ' (packAV vs)) →
      Leaves P fn a'.tmps (EndOk P G1 R Rp) a'.defers u w' := by
    intro u G' s' σ' pv g1 g2 hu hpv hd
    rw [g2.ds, ← hD]
    refine leaves_cons hu inv ((hd G' w' _ u g2.inv ⟨hcaps.1, fun i hi => (hcaps.2 i hi).mono g1⟩ hpv).mono fun e u' w'' hq => ?_)
    obtain ⟨⟨x, rfl⟩, hset, G'', σ'', k1, k2, k3⟩ := hq
    show Leaves P fn a'.tmps (EndOk P G1 R Rp) [] (settle u') w''
    rw [hset]
    have g3 : Sim P G'' fn.ntmps [D] s' σ'' a' w'' := ⟨k2, g2.size, g2.ds, fun i => (g2.rep i).mono k1⟩
    obtain ⟨v, vs, m1, m2, r', σ3, m3, m4, m5⟩ := results_fn g3 fn _ k3
    exact ⟨v, m1, G'', σ3, r', h1.trans (g1.trans k1), k2.weaken m4, m3 _ _ m2, m5⟩
  unfold LQ at hq
  split at hq
  · obtain ⟨G', s', σ', g1, g2, g3⟩ := hq; exact fin .returning G' s' σ' none g1 g2 (by simp) rfl g3
  · obtain ⟨G', s', σ', g1, g2, g3⟩ := hq; exact g3.elim
  · obtain ⟨G', s', σ', g1, g2, g3⟩ := hq; exact fin .returning G' s' σ' none g1 g2 (by simp) rfl g3
  · obtain ⟨x1, x2, G', s', σ', v, g1, g2, g3, g4⟩ := hq
    exact fin _ G' s' σ' (some v) g1 g2 (by simp) ⟨_, x1, x2, g3, rfl⟩ g4
  · exact hq.elim

theorem ACalls.of_bodyD {f : FuncId} {fn : Func} {c : Code} {args : List AV} {R Rp : AV → AS → Prop} (hf : P.funcs[f]? = some fn) (hb : fn.body = some c) (hn : (fn.name == "runtime.NumGoroutine") = false)
    (ha : args.length ≤ fn.ntmps) (h : ∀ G1, AWpD P fn c R Rp G1 (frOf args) σ) : ACalls P f args σ R Rp := by
  refine ⟨by simp [hasBody, hf, hb, hn], fun G w vals hi hr => calls_of_wp_defers hf hb ?_⟩
  have hsim : Sim P G fn.ntmps [] (frOf args) σ { tmps := vals ++ Array.replicate (fn.ntmps - vals.size) undef, defers := [] } w := by
    refine ⟨hi, by simp [hr.1]; omega, rfl, fun i => ?_⟩
    by_cases hlt : i < args.length
    · have e1 : (vals ++ Array.replicate (fn.ntmps - vals.size) undef).getD i undef = vals.getD i undef := by
        rw [Array.getD_eq_getD_getElem?, Array.getElem?_append_left (by rw [hr.1]; exact hlt), ← Array.getD_eq_getD_getElem?]
      simp only [e1]
      exact hr.2 i hlt
    · have : frOf args i = .any := by simp [frOf, List.getD_eq_getElem?_getD, List.getElem?_eq_none (Nat.le_of_not_lt hlt)]
      rw [this]
      exact .any _
  exact h G G _ w (.refl G) hsim

end Go.AW
