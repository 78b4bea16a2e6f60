/- A layer of abstract values over the model's machine: own work for this claim, part AwRun. -/
import Derived.Test.YtnkjbgcbchbonaaAwCode
set_option linter.unusedSimpArgs false
set_option linter.unusedVariables false
namespace Go.AW
open Go Go.RowKit

variable {P : Program} {G : Gh} {σ : AS} {w : World}

inductive AExit where
  | normal | exit (id : Nat) | ret | panic (v : AV)

abbrev AQ := AExit → Fr → AS → Prop

/-- What an abstract post says of the world. -/
def LQ (P : Program) (n : Nat) (ds : List Deferred) (Q : AQ) (G0 : Gh) : Exit → Act → World → Prop
  | .normal, a, w => ∃ G s σ, G0.Le G ∧ Sim P G n ds s σ a w ∧ Q .normal s σ
  | .exit id, a, w => ∃ G s σ, G0.Le G ∧ Sim P G n ds s σ a w ∧ Q (.exit id) s σ
  | .ret, a, w => ∃ G s σ, G0.Le G ∧ Sim P G n ds s σ a w ∧ Q .ret s σ
  | .panic [e], a, w => e.recovered = false ∧ e.goexit = false ∧ ∃ G s σ v, G0.Le G ∧ Sim P G n ds s σ a w ∧ Rep P G v e.v ∧ Q (.panic v) s σ
  | _, _, _ => False

/-- THE ABSTRACT WEAKEST PRECONDITION. -/
def AWp (P : Program) (n : Nat) (ds : List Deferred) (c : Code) (Q : AQ) (s : Fr) (σ : AS) : Prop :=
  ∀ (G0 G : Gh) (a : Act) (w : World), G0.Le G → Sim P G n ds s σ a w → c.wp P (LQ P n ds Q G0) a w

def aCall (P : Program) (fv : AV) (args : List AV) (σ : AS) (K Kp : AV → AS → Prop) : Prop :=
  match fv with
  | .sc (.func (.func f) a b) => a.size = 0 ∧ b.size = 0 ∧ ∃ R Rp, ACalls P f args σ R Rp ∧ (∀ r σ', R r σ' → K r σ') ∧ (∀ r σ', Rp r σ' → Kp r σ')
  | .fn (.func f) first cap => ∃ R Rp, ACalls P f (first ++ args ++ cap) σ R Rp ∧ (∀ r σ', R r σ' → K r σ') ∧ (∀ r σ', Rp r σ' → Kp r σ')
  | _ => False

theorem aCall_cases {fv : AV} {args : List AV} {K Kp : AV → AS → Prop} (h : aCall P fv args σ K Kp) :
    (∃ f, fv = .sc (.func (.func f) #[] #[]) ∧ ∃ R Rp, ACalls P f args σ R Rp ∧ (∀ r σ', R r σ' → K r σ') ∧ (∀ r σ', Rp r σ' → Kp r σ')) ∨
    (∃ f first cap, fv = .fn (.func f) first cap ∧ ∃ R Rp, ACalls P f (first ++ args ++ cap) σ R Rp ∧ (∀ r σ', R r σ' → K r σ') ∧ (∀ r σ', Rp r σ' → Kp r σ')) := by
  unfold aCall at h
  split at h
  · rename_i f a b
    obtain ⟨h1, h2, h3⟩ := h
    have ha : a = #[] := Array.size_eq_zero_iff.1 h1
    have hb : b = #[] := Array.size_eq_zero_iff.1 h2
    subst ha hb
    exact .inl ⟨f, rfl, h3⟩
  · exact .inr ⟨_, _, _, rfl, h⟩
  · exact h.elim

/-- An operation, by its text. -/
def runOp (P : Program) (op : Op) (s : Fr) (σ : AS) (Kv Kp : AV → AS → Prop) : Prop :=
  match op with
  | .call ⟨.value f, args, _⟩ => aCall P (ev s f) (args.toList.map (ev s)) σ Kv Kp
  | op => aop P s σ Kv Kp op

/-- One operation. -/
def stepOp (P : Program) (n : Nat) (o : Oper) (s : Fr) (σ : AS) (K : Fr → AS → Prop) (Q : AQ) : Prop :=
  (match o.dst with | none => True | some d => d < n) ∧ runOp P o.op s σ (fun v σ' => K (s.put o.dst v) σ') (fun v σ' => Q (.panic v) s σ')

def guardAV (ops : Array Oper) (s : Fr) (j : Nat) : AV := match (ops[j]?).bind (·.dst) with | some d => s d | none => .any

/-- What an operation that was passed over leaves. -/
abbrev skipV : AV := .sc undef

def gYes : AV → Bool → Bool
  | .sc (.bool b), w => b == w
  | _, _ => false
def gNo : AV → Bool → Bool
  | .sc (.bool b), w => b != w
  | .sc (.tuple _), _ => true
  | _, _ => false

def onGuard (g : AV) (want : Bool) (A B : Prop) : Prop := (gYes g want = true ∧ A) ∨ (gNo g want = true ∧ B)

theorem onGuard_map {g : AV} {want : Bool} {A B A' B' : Prop} (h : onGuard g want A B) (h1 : A → A') (h2 : B → B') : onGuard g want A' B' :=
  h.imp (fun h => ⟨h.1, h1 h.2⟩) (fun h => ⟨h.1, h2 h.2⟩)

/-- An operation under its guard. -/
def guardOp (P : Program) (n : Nat) (ops : Array Oper) (o : Oper) (s : Fr) (σ : AS) (K : Fr → AS → Prop) (Q : AQ) : Prop :=
  match o.guard with
  | none => stepOp P n o s σ K Q
  | some (j, want) => onGuard (guardAV ops s j) want (stepOp P n o s σ K Q) ((match o.dst with | none => True | some d => d < n) ∧ K (s.put o.dst skipV) σ)

def awpOps (P : Program) (n : Nat) (ops : Array Oper) (Q : AQ) : List Oper → Fr → AS → Prop
  | [], s, σ => Q .normal s σ
  | o :: rest, s, σ => guardOp P n ops o s σ (awpOps P n ops Q rest) Q

theorem upon_mono {o : Oper} {a : Act} {next next' : Act → World → Prop} {Q : Exit → Act → World → Prop} {r : Result Next} (h : ∀ a w, next a w → next' a w) (hh : o.upon P a next Q r) : o.upon P a next' Q r := by
  cases r with
  | ok n w' =>
    cases n <;> simp only [Oper.upon] at hh ⊢ <;>
      first
        | exact h _ _ hh
        | exact Calls.mono hh (fun e w'' he => by cases e <;> first | exact h _ _ he | exact he)
        | exact Rows.mono hh (fun _ _ he => h _ _ he)
  | halt x w' => cases x <;> simp only [Oper.upon] at hh ⊢ <;> exact hh

/-- One operation: from the abstract to the concrete. -/
theorem stepOp_ok {n : Nat} {ds : List Deferred} {G0 : Gh} (o : Oper) {s : Fr} {K : Fr → AS → Prop} {Q : AQ} (h : stepOp P n o s σ K Q) (hle : G0.Le G) {a : Act} (hs : Sim P G n ds s σ a w)
    {next : Act → World → Prop} (hn : ∀ G' s' σ' a' w', G0.Le G' → Sim P G' n ds s' σ' a' w' → K s' σ' → next a' w') : o.wp P a w next (LQ P n ds Q G0) := by
  obtain ⟨hd, h⟩ := h
  have hd' : ∀ t, o.dst = some t → t < n := by intro t ht; rw [ht] at hd; exact hd
  have hrho := hs.ev
  -- what is no call
  have plain : aop P s σ (fun v σ' => K (s.put o.dst v) σ') (fun v σ' => Q (.panic v) s σ') o.op → o.wp P a w next (LQ P n ds Q G0) := by
    intro h
    have := aop_out hs.inv hrho o h
    unfold Oper.wp
    generalize (execOp a.eval o).run P w = r at this ⊢
    cases r with
    | ok nx w' =>
      cases nx <;> simp only [Out] at this <;> first | exact this.elim | skip
      · obtain ⟨G', σ', av, g1, g2, g3, g4⟩ := this
        exact hn G' _ _ _ _ (hle.trans g1) (hs.put g1 g2 o.dst hd' g3) g4
      · obtain ⟨G', σ', av, g1, g2, g3, g4⟩ := this
        exact hn G' _ _ _ _ (hle.trans g1) (hs.put g1 g2 o.dst hd' g3) g4
    | halt x w' =>
      cases x <;> simp only [Out] at this <;> first | exact this.elim | skip
      obtain ⟨G', σ', av, g1, g2, g3, g4⟩ := this
      exact ⟨rfl, rfl, G', s, σ', av, hle.trans g1, ⟨g2, hs.size, hs.ds, fun i => (hs.rep i).mono g1⟩, g3, g4⟩
  obtain ⟨dst, op, ty, pos, after, guard⟩ := o
  have callCase : ∀ (f : Operand) (args : Array Operand) (ats : Array TypeId), op = .call ⟨.value f, args, ats⟩ →
      aCall P (ev s f) (args.toList.map (ev s)) σ (fun v σ' => K (s.put dst v) σ') (fun v σ' => Q (.panic v) s σ') → Oper.wp P ⟨dst, op, ty, pos, after, guard⟩ a w next (LQ P n ds Q G0) := by
    intro f args ats hop h
    subst hop
    have hf := hrho f
    have fin : ∀ (fid : FuncId) (as : List AV) (vals : Array Value) (R Rp : AV → AS → Prop), ACalls P fid as σ R Rp → RepL P G as vals → (∀ r σ', R r σ' → K (s.put dst r) σ') → (∀ r σ', Rp r σ' → Q (.panic r) s σ') →
        (execOp a.eval ⟨dst, .call ⟨.value f, args, ats⟩, ty, pos, after, guard⟩).run P w = .ok (.enter fid vals) w → Oper.wp P ⟨dst, .call ⟨.value f, args, ats⟩, ty, pos, after, guard⟩ a w next (LQ P n ds Q G0) := by
      intro fid as vals R Rp hc hr h1 h2 hrun
      unfold Oper.wp
      rw [hrun, Oper.upon_enter]
      refine (hc.run G w vals hs.inv hr).mono fun e w' he => ?_
      unfold EndOk at he
      split at he
      · obtain ⟨G', σ', r, g1, g2, g3, g4⟩ := he
        exact hn G' _ _ _ _ (hle.trans g1) (hs.put g1 g2 dst hd' g3) (h1 _ _ g4)
      · obtain ⟨x, y, G', σ', r, g1, g2, g3, g4⟩ := he
        exact ⟨x, y, G', s, σ', r, hle.trans g1, ⟨g2, hs.size, hs.ds, fun i => (hs.rep i).mono g1⟩, g3, h2 _ _ g4⟩
      · exact he.elim
    have hargs : RepL P G (args.toList.map (ev s)) (args.map a.eval) := ⟨by simp, fun i hi => by
      simp at hi
      simp [List.getD_eq_getElem?_getD, hi]
      exact hrho _⟩
    rcases aCall_cases h with ⟨fid, hfe, R, Rp, hc, h1, h2⟩ | ⟨fid, first, cap, hfe, R, Rp, hc, h1, h2⟩
    · rw [hfe] at hf
      generalize hv : a.eval f = v at hf
      cases hf
      refine fin fid _ _ R Rp hc hargs h1 h2 ?_
      show (do let d ← resolve a.eval ⟨.value f, args, ats⟩ ty; invoke d.target d.args : Sem Next).run P w = _
      simp only [resolve, hv, Deferred.ofValue, Sem.run_bind, Sem.run_pure, Result.andThen_ok, invoke]
      have := hasBody_run (w := w) hc.body (args.map a.eval)
      simpa using this
    · rw [hfe] at hf
      generalize hv : a.eval f = v at hf
      cases hf with
      | fn vf vc lf lc hff hcc =>
        refine fin fid _ (vf.toArray ++ args.map a.eval ++ vc.toArray) R Rp hc ?_ h1 h2 ?_
        · refine ⟨by simp [lf, lc], fun i hi => ?_⟩
          simp only [List.length_append, List.length_map, Array.length_toList] at hi
          have e1 : (vf.toArray ++ args.map a.eval ++ vc.toArray).getD i undef = (vf ++ (args.toList.map a.eval) ++ vc).getD i undef := by
            have : vf.toArray ++ args.map a.eval ++ vc.toArray = (vf ++ (args.toList.map a.eval) ++ vc).toArray := by apply Array.ext'; simp
            rw [this]; simp [List.getD_eq_getElem?_getD]
          rw [e1]
          by_cases h3 : i < first.length
          · rw [getD_append_left _ _ _ (by simp; omega), getD_append_left _ _ _ h3, getD_append_left _ _ _ (by simp; omega), getD_append_left _ _ _ (by omega)]
            exact hff i h3
          · by_cases h4 : i < first.length + args.size
            · rw [getD_append_left _ _ _ (by simp; omega), getD_append_right _ _ _ (by omega), getD_append_left _ _ _ (by simp; omega), getD_append_right _ _ _ (by omega), lf]
              have := hargs.2 (i - first.length) (by simp; omega)
              have e2 : (args.map a.eval).getD (i - first.length) undef = (args.toList.map a.eval).getD (i - first.length) undef := by
                have : args.map a.eval = (args.toList.map a.eval).toArray := by apply Array.ext'; simp
                rw [this]; simp [List.getD_eq_getElem?_getD]
              rw [e2] at this
              exact this
            · rw [getD_append_right _ _ _ (by simp; omega), getD_append_right _ _ _ (by simp; omega)]
              have e3 : i - (first ++ List.map (ev s) args.toList).length = i - first.length - args.size := by have e0 : args.toList.length = args.size := Array.length_toList; rw [List.length_append, List.length_map, e0]; omega
              have e4 : i - (vf ++ List.map a.eval args.toList).length = i - first.length - args.size := by have e0 : args.toList.length = args.size := Array.length_toList; rw [List.length_append, List.length_map, e0]; omega
              rw [e3, e4]
              exact hcc _ (by omega)
        · show (do let d ← resolve a.eval ⟨.value f, args, ats⟩ ty; invoke d.target d.args : Sem Next).run P w = _
          simp only [resolve, hv, Deferred.ofValue, Sem.run_bind, Sem.run_pure, Result.andThen_ok, invoke]
          exact hasBody_run (w := w) hc.body _
  simp only at h plain
  unfold runOp at h
  cases op
  case call c =>
    obtain ⟨callee, args, ats⟩ := c
    cases callee
    case value f => exact callCase f args ats rfl h
    all_goals exact plain h
  all_goals exact plain h

theorem guardOp_ok {n : Nat} {ds : List Deferred} {G0 : Gh} {ops : Array Oper} (o : Oper) {s : Fr} {K : Fr → AS → Prop} {Q : AQ} (h : guardOp P n ops o s σ K Q) (hle : G0.Le G) {a : Act} (hs : Sim P G n ds s σ a w)
    {next : Act → World → Prop} (hn : ∀ G' s' σ' a' w', G0.Le G' → Sim P G' n ds s' σ' a' w' → K s' σ' → next a' w') :
    if Region.wanted o (yielded ops a.tmps) then o.wp P a w next (LQ P n ds Q G0) else next (a.put o.dst undef) w := by
  unfold guardOp at h
  split at h
  · rename_i hg
    rw [if_pos (by simp [Region.wanted, hg])]
    exact stepOp_ok o h hle hs hn
  · rename_i j want hg
    have read : ∀ v, guardAV ops s j = .sc v → yielded ops a.tmps j = (match v with | .bool b => some b | _ => none) := by
      intro v hb
      unfold guardAV at hb
      split at hb
      · rename_i d hd
        have hr := hs.rep d
        rw [hb] at hr
        generalize hv : a.tmps.getD d undef = u at hr
        cases hr
        simp only [yielded, hd, Option.bind_some]
        rw [Array.getD_eq_getD_getElem?] at hv
        cases hx : a.tmps[d]? with
        | none => rw [hx] at hv; simp only [Option.getD_none] at hv; subst hv; rfl
        | some y => rw [hx] at hv; simp only [Option.getD_some] at hv; subst hv; cases y <;> rfl
      · cases hb
    rcases h with ⟨hg1, h⟩ | ⟨hg1, h⟩
    · unfold gYes at hg1
      split at hg1
      · rename_i b _ hb
        have hy := read _ hb
        rw [if_pos (by simp only [Region.wanted, hg, hy]; simpa using hg1)]
        exact stepOp_ok o h hle hs hn
      · cases hg1
    · have hd' : ∀ t, o.dst = some t → t < n := by intro t ht; have := h.1; rw [ht] at this; exact this
      have fin : ¬ (Region.wanted o (yielded ops a.tmps) = true) := by
        unfold gNo at hg1
        split at hg1
        · rename_i b _ hb
          have hy := read _ hb
          simp only [Region.wanted, hg, hy]
          simpa using hg1
        · rename_i vs _ hb
          have hy := read _ hb
          simp only [Region.wanted, hg, hy]
          simp
        · cases hg1
      rw [if_neg fin]
      exact hn G _ _ _ _ hle (hs.put (.refl G) hs.inv o.dst hd' (.sc _)) h.2

theorem awpOps_ok {n : Nat} {ds : List Deferred} {G0 : Gh} {ops : Array Oper} {Q : AQ} : ∀ (l : List Oper) (G : Gh) (s : Fr) (σ : AS) (a : Act) (w : World), awpOps P n ops Q l s σ → G0.Le G → Sim P G n ds s σ a w →
    wpList P ops (LQ P n ds Q G0) l a w := by
  intro l
  induction l with
  | nil => intro G s σ a w h hle hs; exact ⟨G, s, σ, hle, hs, h⟩
  | cons o rest ih =>
    intro G s σ a w h hle hs
    have := guardOp_ok o h hle hs (next := wpList P ops (LQ P n ds Q G0) rest) (fun G' s' σ' a' w' h1 h2 h3 => ih G' s' σ' a' w' h3 h1 h2)
    unfold wpList
    by_cases hw : Region.wanted o (yielded ops a.tmps) = true
    · rw [if_pos hw] at this ⊢; exact .inl this
    · rw [if_neg hw] at this ⊢; exact this

/-! ## the rules -/

section rules
variable {n : Nat} {ds : List Deferred} {Q : AQ} {s : Fr}

def thenQ (K : Fr → AS → Prop) (Q : AQ) : AQ
  | .normal, s, σ => K s σ
  | e, s, σ => Q e s σ

def inBlockQ (id : Nat) (Q : AQ) : AQ
  | .exit id', s, σ => if id' = id then Q .normal s σ else Q (.exit id') s σ
  | e, s, σ => Q e s σ

theorem LQ.mono {Q Q' : AQ} {G0 : Gh} (h : ∀ e s σ, Q e s σ → Q' e s σ) {e : Exit} {a : Act} {w : World} (hh : LQ P n ds Q G0 e a w) : LQ P n ds Q' G0 e a w := by
  unfold LQ at hh ⊢
  split at hh
  · obtain ⟨G, s, σ, a1, a2, a3⟩ := hh; exact ⟨G, s, σ, a1, a2, h _ _ _ a3⟩
  · obtain ⟨G, s, σ, a1, a2, a3⟩ := hh; exact ⟨G, s, σ, a1, a2, h _ _ _ a3⟩
  · obtain ⟨G, s, σ, a1, a2, a3⟩ := hh; exact ⟨G, s, σ, a1, a2, h _ _ _ a3⟩
  · obtain ⟨x, y, G, s, σ, v, a1, a2, a3, a4⟩ := hh; exact ⟨x, y, G, s, σ, v, a1, a2, a3, h _ _ _ a4⟩
  · exact hh.elim

theorem AWp.mono {c : Code} {Q' : AQ} (hh : AWp P n ds c Q s σ) (h : ∀ e s σ, Q e s σ → Q' e s σ) : AWp P n ds c Q' s σ :=
  fun G0 G a w h1 h2 => wp_mono (hh G0 G a w h1 h2) fun _ _ _ => LQ.mono h

theorem AWp.seq {x y : Code} (h : AWp P n ds x (thenQ (AWp P n ds y Q) Q) s σ) : AWp P n ds (.seq x y) Q s σ := by
  intro G0 G a w h1 h2
  refine wp_seq (wp_mono (h G0 G a w h1 h2) fun e a' w' hq => ?_)
  unfold LQ at hq
  split at hq
  · obtain ⟨G', s', σ', a1, a2, a3⟩ := hq; exact a3 G0 G' _ _ a1 a2
  · obtain ⟨G', s', σ', a1, a2, a3⟩ := hq; exact ⟨G', s', σ', a1, a2, a3⟩
  · obtain ⟨G', s', σ', a1, a2, a3⟩ := hq; exact ⟨G', s', σ', a1, a2, a3⟩
  · obtain ⟨x, y, G', s', σ', v, a1, a2, a3, a4⟩ := hq; exact ⟨x, y, G', s', σ', v, a1, a2, a3, a4⟩
  · exact hq.elim

theorem AWp.skip (h : Q .normal s σ) : AWp P n ds .skip Q s σ := fun G0 G a w h1 h2 => wp_skip ⟨G, s, σ, h1, h2, h⟩
theorem AWp.exit {id : Nat} (h : Q (.exit id) s σ) : AWp P n ds (.exit id) Q s σ := fun G0 G a w h1 h2 => wp_exit ⟨G, s, σ, h1, h2, h⟩
theorem AWp.ret (h : Q .ret s σ) : AWp P n ds .ret Q s σ := fun G0 G a w h1 h2 => wp_ret ⟨G, s, σ, h1, h2, h⟩
theorem AWp.label {l : Nat} (h : Q .normal s σ) : AWp P n ds (.label l) Q s σ := fun G0 G a w h1 h2 => wp_label ⟨G, s, σ, h1, h2, h⟩

theorem AWp.cond {c : Operand} {x y : Code} {t : Bool} (hc : ev s c = .sc (.bool t)) (ht : t = true → AWp P n ds x Q s σ) (hf : t = false → AWp P n ds y Q s σ) : AWp P n ds (.cond c x y) Q s σ := by
  intro G0 G a w h1 h2
  have hr := h2.ev c
  rw [hc] at hr
  have he : a.eval c = .bool t := by
    generalize a.eval c = v at hr
    cases hr; rfl
  exact wp_cond_split he (fun e => ht e G0 G a w h1 h2) (fun e => hf e G0 G a w h1 h2)

theorem AWp.block {id : Nat} {c : Code} (h : AWp P n ds c (inBlockQ id Q) s σ) : AWp P n ds (.block id c) Q s σ := by
  intro G0 G a w h1 h2
  refine wp_block (wp_mono (h G0 G a w h1 h2) fun e a' w' hq => ?_)
  unfold LQ at hq
  split at hq
  · obtain ⟨G', s', σ', a1, a2, a3⟩ := hq; exact ⟨G', s', σ', a1, a2, a3⟩
  · rename_i id'
    obtain ⟨G', s', σ', a1, a2, a3⟩ := hq
    simp only [Exit.inBlock, inBlockQ] at a3 ⊢
    split
    · rename_i hid; rw [if_pos hid] at a3; exact ⟨G', s', σ', a1, a2, a3⟩
    · rename_i hid; rw [if_neg hid] at a3; exact ⟨G', s', σ', a1, a2, a3⟩
  · obtain ⟨G', s', σ', a1, a2, a3⟩ := hq; exact ⟨G', s', σ', a1, a2, a3⟩
  · obtain ⟨x, y, G', s', σ', v, a1, a2, a3, a4⟩ := hq; exact ⟨x, y, G', s', σ', v, a1, a2, a3, a4⟩
  · exact hq.elim

theorem AWp.region {id : Nat} {l : List Oper} (h : awpOps P n l.toArray Q l s σ) : AWp P n ds (.region id l.toArray false) Q s σ :=
  fun G0 G a w h1 h2 => wp_region_lit (awpOps_ok l G s σ a w h h1 h2)

/-- A frame that says less. -/
def AV.Wk (P : Program) (v v' : AV) : Prop := ∀ G x, Rep P G v x → Rep P G v' x
def FrWk (P : Program) (s s' : Fr) : Prop := ∀ i, AV.Wk P (s i) (s' i)

theorem Sim.weaken {s' : Fr} {σ' : AS} {a : Act} (h : Sim P G n ds s σ a w) (h1 : FrWk P s s') (h2 : AS.le σ' σ) : Sim P G n ds s' σ' a w :=
  ⟨h.inv.weaken h2, h.size, h.ds, fun i => h1 i _ _ (h.rep i)⟩

theorem AWp.weaken {c : Code} {s' : Fr} {σ' : AS} (h : AWp P n ds c Q s' σ') (h1 : FrWk P s s') (h2 : AS.le σ' σ) : AWp P n ds c Q s σ :=
  fun G0 G a w g1 g2 => h G0 G a w g1 (g2.weaken h1 h2)

/-- A LOOP: by what holds at its head, indexed by a number that goes down. -/
theorem AWp.loop {c : Code} (I : Nat → Fr → AS → Prop) {k0 : Nat} {s0 : Fr} {σ0 : AS} (h0 : I k0 s0 σ0) (hs : FrWk P s s0) (hσ : AS.le σ0 σ)
    (hr : ∀ k s σ, I k s σ → AWp P n ds c (thenQ (fun s' σ' => ∃ k' s1 σ1, k' < k ∧ FrWk P s' s1 ∧ AS.le σ1 σ' ∧ I k' s1 σ1) Q) s σ) : AWp P n ds (.loop c) Q s σ := by
  intro G0 G a w h1 h2
  let J : Nat → Act → World → Prop := fun k a w => ∃ G s σ, G0.Le G ∧ Sim P G n ds s σ a w ∧ I k s σ
  have lst : ∀ (a : Act) (w : World), (∃ k, J k a w) → ∃ k, J k a w ∧ ∀ j, J j a w → k ≤ j := by
    intro a w h
    obtain ⟨k, hk⟩ := h
    induction k using Nat.strongRecOn with
    | _ k ih =>
      by_cases hex : ∃ j, j < k ∧ J j a w
      · obtain ⟨j, hj, hJ⟩ := hex
        exact ih j hj hJ
      · exact ⟨k, hk, fun j hj => Nat.le_of_not_lt fun hlt => hex ⟨j, hlt, hj⟩⟩
  let μ : Act → World → Nat := fun a w => @dite _ (∃ k, J k a w) (Classical.propDecidable _) (fun h => Classical.choose (lst a w h)) (fun _ => 0)
  have hμ : ∀ a w (h : ∃ k, J k a w), J (μ a w) a w ∧ ∀ j, J j a w → μ a w ≤ j := by
    intro a w h
    have e : μ a w = Classical.choose (lst a w h) := dif_pos h
    rw [e]
    exact Classical.choose_spec (lst a w h)
  refine wp_loop (fun a w => ∃ k, J k a w) μ ⟨k0, G, s0, σ0, h1, h2.weaken hs hσ, h0⟩ fun a w hJ => ?_
  obtain ⟨⟨G1, s1, σ1, g1, g2, g3⟩, hmin⟩ := hμ a w hJ
  refine wp_mono (hr _ _ _ g3 G0 G1 a w g1 g2) fun e a' w' hq => ?_
  unfold LQ at hq
  split at hq
  · obtain ⟨G', s', σ', a1, a2, k', s2, σ2, a3, a4, a5, a6⟩ := hq
    have hJ' : J k' a' w' := ⟨G', s2, σ2, a1, a2.weaken a4 a5, a6⟩
    exact ⟨⟨k', hJ'⟩, Nat.lt_of_le_of_lt ((hμ a' w' ⟨k', hJ'⟩).2 k' hJ') a3⟩
  · obtain ⟨G', s', σ', a1, a2, a3⟩ := hq; exact ⟨G', s', σ', a1, a2, a3⟩
  · obtain ⟨G', s', σ', a1, a2, a3⟩ := hq; exact ⟨G', s', σ', a1, a2, a3⟩
  · obtain ⟨x, y, G', s', σ', v, a1, a2, a3, a4⟩ := hq; exact ⟨x, y, G', s', σ', v, a1, a2, a3, a4⟩
  · exact hq.elim

end rules

/-! ## functions -/

/-- The frame of the arguments. -/
def frOf (args : List AV) : Fr := fun i => args.getD i .any

/-- What a function hands back out of its slots. -/
def resAV (rs : List ResultVar) (P : Program) (s : Fr) (σ : AS) (K : List AV → Prop) : Prop :=
  match rs with
  | [] => K []
  | .tmp t :: r => resAV r P s σ fun vs => K (s t :: vs)
  | .cell a t :: r => aLoad P σ t (s a) fun v => resAV r P s σ fun vs => K (v :: vs)

def packAV : List AV → AV
  | [v] => v
  | vs => .tup vs

/-- The post of a body. -/
def bodyQ (P : Program) (rs : List ResultVar) (R Rp : AV → AS → Prop) : AQ
  | .normal, s, σ => resAV rs P s σ fun vs => ∃ r' σ', AV.Wk P (packAV vs) r' ∧ AS.le σ' σ ∧ R r' σ'
  | .ret, s, σ => resAV rs P s σ fun vs => ∃ r' σ', AV.Wk P (packAV vs) r' ∧ AS.le σ' σ ∧ R r' σ'
  | .panic v, s, σ => ∃ σ', AS.le σ' σ ∧ Rp v σ'
  | _, _, _ => False

theorem aLoad_run {t : TypeId} {x : AV} {v : Value} {K : AV → Prop} (hi : Inv P G σ w) (hx : Rep P G x v) (h : aLoad P σ t x K) :
    ∃ y av, (do let a ← asAddr v; loadVar t a : Sem Value).run P w = .ok y w ∧ Rep P G av y ∧ K av := by
  obtain ⟨a, y, av, rfl, h1, h2, h3⟩ := aLoad_val hi hx h
  exact ⟨y, av, by simpa [asAddr] using h1, h2, h3⟩

def resVar (tmps : Array Value) : ResultVar → Sem Value
  | .tmp t => pure (tmps.getD t undef)
  | .cell p t => do loadVar t (← asAddr (tmps.getD p undef))

theorem results_eq (fn : Func) (tmps : Array Value) : results fn tmps = (do
    let vs ← fn.results.mapM (resVar tmps)
    pure (if h : vs.size = 1 then vs[0] else Value.tuple vs)) := by
  unfold results
  congr 1

/-- A function's results, read. -/
theorem results_ok {n : Nat} {ds : List Deferred} {s : Fr} {a : Act} (hs : Sim P G n ds s σ a w) : ∀ (rs : List ResultVar) (K : List AV → Prop), resAV rs P s σ K →
    ∃ ys vs, (rs.mapM (resVar a.tmps)).run P w = .ok ys w ∧ ys.length = vs.length ∧ (∀ i, i < vs.length → Rep P G (vs.getD i .any) (ys.getD i undef)) ∧ K vs := by
  intro rs
  induction rs with
  | nil => intro K h; exact ⟨[], [], by simp, rfl, by simp, h⟩
  | cons r rs ih =>
    intro K h
    cases r with
    | tmp t =>
      obtain ⟨ys, vs, h1, h2, h3, h4⟩ := ih _ h
      refine ⟨a.tmps.getD t undef :: ys, s t :: vs, ?_, by simp [h2], fun i hi => ?_, h4⟩
      · simp only [List.mapM_cons, Sem.run_bind, resVar, Sem.run_pure, Result.andThen_ok, h1]
      · cases i with
        | zero => simpa using hs.rep t
        | succ i => simpa using h3 i (by simpa using hi)
    | cell p t =>
      obtain ⟨y, av, k1, k2, k3⟩ := aLoad_run hs.inv (hs.rep p) h
      obtain ⟨ys, vs, h1, h2, h3, h4⟩ := ih _ k3
      refine ⟨y :: ys, av :: vs, ?_, by simp [h2], fun i hi => ?_, h4⟩
      · simp only [List.mapM_cons, Sem.run_bind, resVar] at k1 ⊢
        rw [k1]
        simp only [Sem.run_pure, Result.andThen_ok, h1]
      · cases i with
        | zero => simpa using k2
        | succ i => simpa using h3 i (by simpa using hi)

theorem results_fn {n : Nat} {ds : List Deferred} {s : Fr} {a : Act} (hs : Sim P G n ds s σ a w) (fn : Func) (K : List AV → Prop) (h : resAV fn.results.toList P s σ K) :
    ∃ v vs, (results fn a.tmps).run P w = .ok v w ∧ Rep P G (packAV vs) v ∧ K vs := by
  obtain ⟨ys, vs, h1, h2, h3, h4⟩ := results_ok hs fn.results.toList K h
  refine ⟨if h : ys.toArray.size = 1 then ys.toArray[0] else .tuple ys.toArray, vs, ?_, ?_, h4⟩
  · have h1' : (fn.results.mapM (resVar a.tmps)).run P w = .ok ys.toArray w := by
      rw [Array.mapM_eq_mapM_toList]
      simp only [Sem.run_map, h1]
      rfl
    rw [results_eq, Sem.run_bind, h1']
    rfl
  · unfold packAV
    split
    · rename_i v
      have hl : ys.length = 1 := by simpa using h2
      have := h3 0 (by simp)
      rw [dif_pos (by simpa using hl)]
      have e : ys.toArray[0]'(by simp [hl]) = ys.getD 0 undef := by
        simp [List.getD_eq_getElem?_getD, hl]
      rw [e]
      simpa using this
    · rename_i hne
      have hl : ys.length ≠ 1 := by
        intro e
        rw [h2] at e
        match vs, e with
        | [v], _ => exact hne v rfl
      rw [dif_neg (by simpa using hl)]
      exact .tup ys h2 h3

/-- A BODY's rule. -/
theorem ACalls.of_body {f : FuncId} {fn : Func} {c : Code} {args : List AV} {R Rp : AV → AS → Prop} (hf : P.funcs[f]? = some fn) (hb : fn.body = some c) (hn : (fn.name == "runtime.NumGoroutine") = false)
    (ha : args.length ≤ fn.ntmps) (h : AWp P fn.ntmps [] c (bodyQ P fn.results.toList R Rp) (frOf args) σ) : ACalls P f args σ R Rp := by
  refine ⟨by simp [hasBody, hf, hb, hn], fun G w vals hi hr => calls_of_wp hf hb ?_⟩
  have hsim : Sim P G fn.ntmps [] (frOf args) σ { tmps := vals ++ Array.replicate (fn.ntmps - vals.size) undef, defers := [] } w := by
    refine ⟨hi, by simp [hr.1]; omega, rfl, fun i => ?_⟩
    by_cases hlt : i < args.length
    · have e1 : (vals ++ Array.replicate (fn.ntmps - vals.size) undef).getD i undef = vals.getD i undef := by
        rw [Array.getD_eq_getD_getElem?, Array.getElem?_append_left (by rw [hr.1]; exact hlt), ← Array.getD_eq_getD_getElem?]
      simp only [e1]
      exact hr.2 i hlt
    · have : frOf args i = .any := by simp [frOf, List.getD_eq_getElem?_getD, List.getElem?_eq_none (Nat.le_of_not_lt hlt)]
      rw [this]
      exact .any _
  refine wp_mono (h G G _ w (.refl G) hsim) fun e a' w' hq => ?_
  have fin : ∀ (s' : Fr) (σ' : AS) (G' : Gh), G.Le G' → Sim P G' fn.ntmps [] s' σ' a' w' → (resAV fn.results.toList P s' σ' fun vs => ∃ r' σ'', AV.Wk P (packAV vs) r' ∧ AS.le σ'' σ' ∧ R r' σ'') →
      a'.defers = [] ∧ ∃ v, (results fn a'.tmps).run P w' = .ok v w' ∧ EndOk P G R Rp (.returned v) w' := by
    intro s' σ' G' h1 h2 h3
    obtain ⟨v, vs, k1, k2, r', σ'', k3, k4, k5⟩ := results_fn h2 fn _ h3
    exact ⟨h2.ds, v, k1, G', σ'', r', h1, h2.inv.weaken k4, k3 _ _ k2, k5⟩
  unfold LQ at hq
  split at hq
  · obtain ⟨G', s', σ', a1, a2, a3⟩ := hq; exact fin s' σ' G' a1 a2 a3
  · obtain ⟨G', s', σ', a1, a2, a3⟩ := hq; exact a3.elim
  · obtain ⟨G', s', σ', a1, a2, a3⟩ := hq; exact fin s' σ' G' a1 a2 a3
  · obtain ⟨x, y, G', s', σ', v, a1, a2, a3, σ'', a4, a5⟩ := hq
    exact ⟨a2.ds, x, y, G', σ'', v, a1, a2.inv.weaken a4, a3, a5⟩
  · exact hq.elim

end Go.AW
