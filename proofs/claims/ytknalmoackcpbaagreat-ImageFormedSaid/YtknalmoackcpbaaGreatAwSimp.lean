/- A layer of abstract values over the model's machine: own work for this claim, part AwSimp. -/
import Derived.Test.YtknalmoackcpbaaGreatAwCode
set_option linter.unusedSimpArgs false
set_option linter.unusedVariables false
namespace Go.AW
open Go Go.RowKit
@[simp] theorem put_app (s : Fr) (d i : Nat) (v : AV) : (s.put (some d) v) i = if i = d then v else s i := rfl
@[simp] theorem put_none (s : Fr) (v : AV) : s.put none v = s := rfl
@[simp] theorem ev_tmp (s : Fr) (t : Nat) : ev s (.tmp t) = s t := rfl
@[simp] theorem ev_const (s : Fr) (v : Value) : ev s (.const v) = ofC v := rfl
@[simp] theorem ev_func (s : Fr) (f : Nat) : ev s (.func f) = .sc (.func (.func f) #[] #[]) := rfl
@[simp] theorem ofC_nil : ofC (.slice none 0 0) = .nilS := rfl
@[simp] theorem ofC_int (k : IntKind) (n : Int) : ofC (.int k n) = .sc (.int k n) := rfl
@[simp] theorem ofC_bool (b : Bool) : ofC (.bool b) = .sc (.bool b) := rfl
@[simp] theorem ofC_str (b : ByteArray) : ofC (.string b) = .sc (.string b) := rfl
@[simp] theorem ofC_ptr : ofC (.pointer none) = .sc (.pointer none) := rfl
@[simp] theorem ofC_map : ofC (.map none) = .sc (.map none) := rfl
@[simp] theorem ofC_nf : ofC .nilFunc = .sc .nilFunc := rfl
@[simp] theorem ofC_ni : ofC .nilIface = .sc .nilIface := rfl
@[simp] theorem frOf_app (l : List AV) (i : Nat) : frOf l i = l.getD i .any := rfl
@[simp] theorem thenQ_n (K : Fr → AS → Prop) (Q : AQ) (s : Fr) (σ : AS) : thenQ K Q .normal s σ = K s σ := rfl
@[simp] theorem thenQ_e (K : Fr → AS → Prop) (Q : AQ) (i : Nat) (s : Fr) (σ : AS) : thenQ K Q (.exit i) s σ = Q (.exit i) s σ := rfl
@[simp] theorem thenQ_r (K : Fr → AS → Prop) (Q : AQ) (s : Fr) (σ : AS) : thenQ K Q .ret s σ = Q .ret s σ := rfl
@[simp] theorem thenQ_p (K : Fr → AS → Prop) (Q : AQ) (v : AV) (s : Fr) (σ : AS) : thenQ K Q (.panic v) s σ = Q (.panic v) s σ := rfl
@[simp] theorem inBlockQ_n (i : Nat) (Q : AQ) (s : Fr) (σ : AS) : inBlockQ i Q .normal s σ = Q .normal s σ := rfl
@[simp] theorem inBlockQ_e (i j : Nat) (Q : AQ) (s : Fr) (σ : AS) : inBlockQ i Q (.exit j) s σ = if j = i then Q .normal s σ else Q (.exit j) s σ := rfl
@[simp] theorem inBlockQ_r (i : Nat) (Q : AQ) (s : Fr) (σ : AS) : inBlockQ i Q .ret s σ = Q .ret s σ := rfl
@[simp] theorem inBlockQ_p (i : Nat) (Q : AQ) (v : AV) (s : Fr) (σ : AS) : inBlockQ i Q (.panic v) s σ = Q (.panic v) s σ := rfl
def Ends (P : Program) (R : AV → AS → Prop) (σ : AS) (x : AV) : Prop := ∃ r' σ', AV.Wk P x r' ∧ AS.le σ' σ ∧ R r' σ'
@[simp] theorem bodyQ_r (P : Program) (rs : List ResultVar) (R Rp : AV → AS → Prop) (s : Fr) (σ : AS) : bodyQ P rs R Rp .ret s σ = resAV rs P s σ fun vs => Ends P R σ (packAV vs) := rfl
@[simp] theorem bodyQ_n (P : Program) (rs : List ResultVar) (R Rp : AV → AS → Prop) (s : Fr) (σ : AS) : bodyQ P rs R Rp .normal s σ = resAV rs P s σ fun vs => Ends P R σ (packAV vs) := rfl
@[simp] theorem bodyQ_p (P : Program) (rs : List ResultVar) (R Rp : AV → AS → Prop) (v : AV) (s : Fr) (σ : AS) : bodyQ P rs R Rp (.panic v) s σ = ∃ σ', AS.le σ' σ ∧ Rp v σ' := rfl
/-! ## frames that say what is needed -/
def mkF : List (Nat × AV) → Fr
  | [], _ => .any
  | (j, v) :: r, i => if i = j then v else mkF r i
@[simp] theorem mkF_nil (i : Nat) : mkF [] i = .any := rfl
@[simp] theorem mkF_cons (j : Nat) (v : AV) (r : List (Nat × AV)) (i : Nat) : mkF ((j, v) :: r) i = if i = j then v else mkF r i := rfl
theorem FrWk.mk {P : Program} {s : Fr} {l : List (Nat × AV)} (h : ∀ p ∈ l, AV.Wk P (s p.1) p.2) : FrWk P s (mkF l) := by
  intro i
  induction l with
  | nil => exact fun _ _ _ => .any _
  | cons p r ih =>
    obtain ⟨j, v⟩ := p
    simp only [mkF_cons]
    split
    · rename_i hij; subst hij; exact h (i, v) (by simp)
    · exact ih fun q hq => h q (by simp [hq])
theorem Wk.refl {P : Program} (v : AV) : AV.Wk P v v := fun _ _ h => h
@[simp] theorem Wk_refl {P : Program} (v : AV) : AV.Wk P v v ↔ True := ⟨fun _ => trivial, fun _ => Wk.refl v⟩
@[simp] theorem Wk_unk {P : Program} (e : TypeId) (es : List AV) (o : Own) (nil : Bool) : AV.Wk P (.lst e es o nil) (.lst e es .unk nil) ↔ True := ⟨fun _ => trivial, fun _ G x h => by
  cases h with
  | lstN ho => exact .lstN trivial
  | lstZ => exact .lstZ
  | lst vs hl hm hr hc ho => exact .lst vs hl hm hr hc trivial⟩
@[simp] theorem Wk_tup2 {P : Program} {a b a' b' : AV} (h1 : AV.Wk P a a') (h2 : AV.Wk P b b') : AV.Wk P (.tup [a, b]) (.tup [a', b']) := by
  intro G x h
  cases h with
  | tup vs l h =>
    refine .tup vs l fun i hi => ?_
    have := h i hi
    match i, hi with
    | 0, _ => exact h1 _ _ this
    | 1, _ => exact h2 _ _ this
def Gives (v : AV) (σ : AS) (r : AV) (σ' : AS) : Prop := r = v ∧ σ = σ'
def No (_ : AV) (_ : AS) : Prop := False
def Owns (f : Nat → AV) (n : Nat) (σ : AS) (r : AV) (σ' : AS) : Prop := ∃ tk, σ tk = none ∧ r = f tk ∧ σ' = σ.set tk (.tok n)
@[simp] theorem gives_end {P : Program} {x v : AV} {σ σ0 : AS} : Ends P (Gives v σ0) σ x ↔ AV.Wk P x v ∧ AS.le σ0 σ :=
  ⟨fun ⟨r', σ', h1, h2, h3, h4⟩ => by subst h3; subst h4; exact ⟨h1, h2⟩, fun ⟨h1, h2⟩ => ⟨v, σ0, h1, h2, rfl, rfl⟩⟩
theorem owns_end {P : Program} {x : AV} {f : Nat → AV} {n : Nat} {σ σ0 : AS} (tk : Nat) (h0 : σ0 tk = none) (h1 : AV.Wk P x (f tk)) (h2 : AS.le (σ0.set tk (.tok n)) σ) : Ends P (Owns f n σ0) σ x :=
  ⟨f tk, _, h1, h2, tk, h0, rfl, rfl⟩
@[simp] theorem le_refl' (σ : AS) : AS.le σ σ ↔ True := ⟨fun _ => trivial, fun _ => AS.le_refl σ⟩
@[simp] theorem le_set' {σ0 σ : AS} {i : Nat} {b : ABlk} (hi : σ0 i = none) (h : AS.le σ0 σ) : AS.le σ0 (σ.set i b) := AS.le_set h hi
theorem le_set2 {σ0 σ : AS} {i : Nat} {b : ABlk} (h : AS.le σ0 σ) : AS.le (σ0.set i b) (σ.set i b) := by
  intro j x e
  by_cases hj : j = i
  · subst hj; simp [AS.set] at e ⊢; exact e
  · simp [AS.set, hj] at e ⊢; exact h j x e
@[simp] theorem AS.set_app (σ : AS) (i j : Nat) (b : ABlk) : (σ.set i b) j = if j = i then some b else σ j := rfl
@[simp] theorem if_some_none {α : Type} {c : Prop} [Decidable c] {a : α} {x : Option α} : ((if c then some a else x) = none) ↔ (¬ c ∧ x = none) := by
  by_cases h : c <;> simp [h]
theorem AS.set_comm {τ : AS} {i j : Nat} {a b : ABlk} (h : j ≠ i) : (τ.set j b).set i a = (τ.set i a).set j b := by
  funext k
  by_cases h1 : k = i <;> by_cases h2 : k = j <;> simp [AS.set, h1, h2] <;> omega
@[simp] theorem AS.s2 {τ : AS} {i j : Nat} {a b c : ABlk} (h : j ≠ i) : ((τ.set i a).set j b).set i c = (τ.set i c).set j b := by
  rw [AS.set_comm h, AS.set_set]
@[simp] theorem AS.s3 {τ : AS} {i j k : Nat} {a b c d : ABlk} (h : j ≠ i) (h2 : k ≠ i) : (((τ.set i a).set j b).set k d).set i c = ((τ.set i c).set j b).set k d := by
  rw [AS.set_comm h2, AS.s2 h]
@[simp] theorem AS.s4 {τ : AS} {i j k l : Nat} {a b c d e : ABlk} (h : j ≠ i) (h2 : k ≠ i) (h3 : l ≠ i) : ((((τ.set i a).set j b).set k d).set l e).set i c = (((τ.set i c).set j b).set k d).set l e := by
  rw [AS.set_comm h3, AS.s3 h h2]
theorem le_new {σ0 σ : AS} {i : Nat} {b : ABlk} (hi : σ i = none) (h : AS.le σ0 σ) : AS.le σ0 (σ.set i b) := by
  intro j x e
  have := h j x e
  have hne : j ≠ i := by intro e'; subst e'; rw [hi] at this; cases this
  simpa [AS.set, hne] using this
@[simp] theorem packAV1 (v : AV) : packAV [v] = v := rfl
@[simp] theorem packAV2 (a b : AV) : packAV [a, b] = .tup [a, b] := rfl
@[simp] theorem packAV3 (a b c : AV) : packAV [a, b, c] = .tup [a, b, c] := rfl
@[simp] theorem packAV0 : packAV [] = .tup [] := rfl
@[simp] theorem resAV_nil {P : Program} {s : Fr} {σ : AS} {K : List AV → Prop} : resAV [] P s σ K = K [] := rfl
@[simp] theorem resAV_tmp {P : Program} {s : Fr} {σ : AS} {K : List AV → Prop} {t : Nat} {r : List ResultVar} : resAV (.tmp t :: r) P s σ K = resAV r P s σ fun vs => K (s t :: vs) := rfl
@[simp] theorem resAV_cell {P : Program} {s : Fr} {σ : AS} {K : List AV → Prop} {a t : Nat} {r : List ResultVar} : resAV (.cell a t :: r) P s σ K = aLoad P σ t (s a) fun v => resAV r P s σ fun vs => K (v :: vs) := rfl
theorem AWp.mint {P : Program} {n : Nat} {ds : List Deferred} {c : Code} {Q : AQ} {s : Fr} {σ : AS} (i : Nat) (e : TypeId) (es : List AV) (nil : Bool) (hi : i < n) (hs : s i = .lst e es .full nil ∨ (s i = .nilS ∧ es = [] ∧ nil = true))
    (h : ∀ tk, σ tk = none → AWp P n ds c Q (s.put (some i) (.lst e es (.tok tk) nil)) (σ.set tk (.tok es.length))) : AWp P n ds c Q s σ := by
  intro G0 G a w h1 h2
  have hr : Rep P G (.lst e es .full nil) (a.tmps.getD i undef) := by
    have := h2.rep i
    rcases hs with hs | ⟨hs, rfl, rfl⟩
    · rw [hs] at this; exact this
    · rw [hs] at this
      generalize a.tmps.getD i undef = v at this ⊢
      cases this
      exact .lstN ⟨none, rfl⟩
  obtain ⟨r, m1, m2, m3⟩ := hr.mint h2.inv
  have hsim : Sim P (G.mint r) n ds (s.put (some i) (.lst e es (.tok G.top) nil)) (σ.set G.top (.tok es.length)) a w := by
    refine ⟨m2, h2.size, h2.ds, fun j => ?_⟩
    by_cases hj : j = i
    · subst hj; simpa [put_app] using m3
    · simp only [put_app, hj, if_false]; exact (h2.rep j).mono m1
  exact h G.top h2.inv.fresh G0 _ a w (h1.trans m1) hsim
/-! ## where the simplifier looks, and where it does not -/
variable {P : Program} {n : Nat} {ds : List Deferred} {g : Option (Nat × Bool)}
@[congr] theorem AWp_congr {c : Code} {Q : AQ} {s s' : Fr} {σ σ' : AS} (h1 : s = s') (h2 : σ = σ') : AWp P n ds c Q s σ = AWp P n ds c Q s' σ' := by subst h1 h2; rfl
@[congr] theorem awpOps_congr {ops : Array Oper} {Q : AQ} {l : List Oper} {s s' : Fr} {σ σ' : AS} (h1 : s = s') (h2 : σ = σ') : awpOps P n ops Q l s σ = awpOps P n ops Q l s' σ' := by subst h1 h2; rfl
@[congr] theorem aBuild_congr {t : TypeId} {ps ps' : List (Nat × AV)} {K : AV → Prop} (h1 : ps = ps') : aBuild P t ps K = aBuild P t ps' K := by subst h1; rfl
@[congr] theorem aRange_congr {σ σ' : AS} {t : TypeId} {x x' : AV} {K : AV → AS → Prop} (h1 : x = x') (h2 : σ = σ') : aRange P σ t x K = aRange P σ' t x' K := by subst h1 h2; rfl
@[congr] theorem aBin_congr {op : BinOp} {t : TypeId} {x x' y y' : AV} {K : AV → Prop} (h1 : x = x') (h2 : y = y') : aBin P op t x y K = aBin P op t x' y' K := by subst h1 h2; rfl
@[congr] theorem aSlice_congr {t : TypeId} {x x' : AV} {lo lo' hi hi' mx mx' : Option AV} {K : AV → Prop} (h1 : x = x') (h2 : lo = lo') (h3 : hi = hi') (h4 : mx = mx') : aSlice P t x lo hi mx K = aSlice P t x' lo' hi' mx' K := by subst h1 h2 h3 h4; rfl
@[congr] theorem aBuiltin_congr {σ σ' : AS} {b : Builtin} {ts ts' : List TypeId} {as as' : List AV} {K : AV → AS → Prop} (h1 : as = as') (h2 : σ = σ') (h3 : ts = ts') : aBuiltin P σ b ts as K = aBuiltin P σ' b ts' as' K := by subst h1 h2 h3; rfl
@[congr] theorem pureCall_congr {f f' : AV} {as as' : List AV} {K : AV → Prop} (h1 : as = as') (h3 : f = f') : pureCall P f as K = pureCall P f' as' K := by subst h1 h3; rfl
@[congr] theorem aCall_congr {σ σ' : AS} {f f' : AV} {as as' : List AV} {K Kp : AV → AS → Prop} (h1 : as = as') (h2 : σ = σ') (h3 : f = f') : aCall P f as σ K Kp = aCall P f' as' σ' K Kp := by subst h1 h2 h3; rfl
/-! ## operations, their continuations as data -/
def putK (K : Fr → AS → Prop) (s : Fr) (d : Option Nat) (v : AV) (σ : AS) : Prop := K (s.put d v) σ
def panK (Q : AQ) (s : Fr) (v : AV) (σ : AS) : Prop := Q (.panic v) s σ
def atK (K : AV → AS → Prop) (σ : AS) (v : AV) : Prop := K v σ
def anyK (K : AV → AS → Prop) (σ : AS) : Prop := K .any σ
def aggK (K : AV → Prop) (cs : List AV) : Prop := K (.agg cs)
def scK (K : AV → Prop) (v : Value) : Prop := K (.sc v)
@[simp ↓] theorem putK_s (K : Fr → AS → Prop) (s : Fr) (d : Option Nat) (v : AV) (σ : AS) : putK K s d v σ = K (s.put d v) σ := rfl
@[simp ↓] theorem panK_s (Q : AQ) (s : Fr) (v : AV) (σ : AS) : panK Q s v σ = Q (.panic v) s σ := rfl
@[simp ↓] theorem atK_s (K : AV → AS → Prop) (σ : AS) (v : AV) : atK K σ v = K v σ := rfl
@[simp ↓] theorem anyK_s (K : AV → AS → Prop) (σ : AS) : anyK K σ = K .any σ := rfl
@[simp ↓] theorem aggK_s (K : AV → Prop) (cs : List AV) : aggK K cs = K (.agg cs) := rfl
@[simp ↓] theorem scK_s (K : AV → Prop) (v : Value) : scK K v = K (.sc v) := rfl
section steps
variable {ops : Array Oper} {Q : AQ} {s : Fr} {σ : AS} {K : Fr → AS → Prop} {Kv Pn : AV → AS → Prop} {KA : AV → Prop} {rest : List Oper} {o : Oper}
  {d : Option Nat} {op : Op} {ty : TypeId} {pos : String} {af : Array Edge}
def guardK (P : Program) (n : Nat) (o : Oper) (s : Fr) (σ : AS) (K : Fr → AS → Prop) (Q : AQ) (g : AV) (want : Bool) : Prop :=
  onGuard g want (stepOp P n o s σ K Q) ((match o.dst with | none => True | some d => d < n) ∧ K (s.put o.dst skipV) σ)
def optK (x : Option Oper) (A : Oper → Prop) : Prop := match x with | some o => A o | none => False
@[congr] theorem optK_congr {x x' : Option Oper} {A : Oper → Prop} (h : x = x') : optK x A = optK x' A := by rw [h]
@[simp ↓] theorem optK_some {A : Oper → Prop} : optK (some o) A = A o := rfl
@[simp] theorem optK_some' {A : Oper → Prop} : optK (some o) A = A o := rfl
@[simp ↓] theorem sch_done {ro : Bool} : runSch P n ops ro Q .done s σ = Q .normal s σ := rfl
@[simp ↓] theorem sch_none {ro : Bool} : runSch P n ops ro Q .none s σ = True := rfl
@[simp ↓] theorem sch_step {ro : Bool} {i : Nat} {t : Sch} : runSch P n ops ro Q (.step i t) s σ = optK ops[i]? (fun o => (ro = true ∨ pureAt s o.op = true) ∧ guardOp P n ops o s σ (runSch P n ops ro Q t) Q) := by
  cases h : ops[i]? <;> simp only [runSch, optK, h]
@[simp ↓] theorem sch_read {ro : Bool} {i : Nat} {t : Sch} : runSch P n ops ro Q (.read i t) s σ = optK ops[i]? (fun o => guardOp P n ops o s σ (runSch P n ops ro Q t) Q) := by
  cases h : ops[i]? <;> simp only [runSch, optK, h]
@[simp ↓] theorem sch_alt {ro : Bool} {i : Nat} {t r : Sch} : runSch P n ops ro Q (.alt i t r) s σ = (optK ops[i]? (fun o => guardOp P n ops o s σ (runSch P n ops ro Q t) Q) ∧ runSch P n ops ro Q r s σ) := by
  cases h : ops[i]? <;> simp only [runSch, optK, h]
@[simp ↓] theorem sch_pure {ro : Bool} {i : Nat} {t : Sch} : runSch P n ops ro Q (.pure i t) s σ = optK ops[i]? (fun o => pureOp P n ops o s (nextP (runSch P n ops ro Q t) s o.dst σ)) := by
  cases h : ops[i]? <;> simp only [runSch, optK, h]
@[simp ↓] theorem awpOps_nil : awpOps P n ops Q [] s σ = Q .normal s σ := rfl
@[simp ↓] theorem awpOps_cons : awpOps P n ops Q (o :: rest) s σ = guardOp P n ops o s σ (awpOps P n ops Q rest) Q := rfl
@[simp ↓] theorem guardOp_none : guardOp P n ops ⟨d, op, ty, pos, af, none⟩ s σ K Q = stepOp P n ⟨d, op, ty, pos, af, none⟩ s σ K Q := rfl
@[simp ↓] theorem guardOp_some {j : Nat} {want : Bool} : guardOp P n ops ⟨d, op, ty, pos, af, some (j, want)⟩ s σ K Q = guardK P n ⟨d, op, ty, pos, af, some (j, want)⟩ s σ K Q (guardAV ops s j) want := rfl
@[simp] theorem guardK_tt : guardK P n o s σ K Q (.sc (.bool true)) true = stepOp P n o s σ K Q := by simp [guardK, onGuard, gYes, gNo]
@[simp] theorem guardK_ff : guardK P n o s σ K Q (.sc (.bool false)) false = stepOp P n o s σ K Q := by simp [guardK, onGuard, gYes, gNo]
@[simp] theorem guardK_tf : guardK P n ⟨d, op, ty, pos, af, g⟩ s σ K Q (.sc (.bool true)) false = ((match d with | none => True | some d => d < n) ∧ K (s.put d skipV) σ) := propext ⟨fun h => by rcases h with ⟨h, _⟩ | ⟨_, h⟩; (· simp [gYes] at h); exact h, fun h => .inr ⟨rfl, h⟩⟩
@[simp] theorem guardK_ft : guardK P n ⟨d, op, ty, pos, af, g⟩ s σ K Q (.sc (.bool false)) true = ((match d with | none => True | some d => d < n) ∧ K (s.put d skipV) σ) := propext ⟨fun h => by rcases h with ⟨h, _⟩ | ⟨_, h⟩; (· simp [gYes] at h); exact h, fun h => .inr ⟨rfl, h⟩⟩
@[simp] theorem guardK_sk {want : Bool} : guardK P n ⟨d, op, ty, pos, af, g⟩ s σ K Q (.sc undef) want = ((match d with | none => True | some d => d < n) ∧ K (s.put d skipV) σ) := propext ⟨fun h => by rcases h with ⟨h, _⟩ | ⟨_, h⟩; (· simp [gYes, undef] at h); exact h, fun h => .inr ⟨rfl, h⟩⟩
@[simp ↓] theorem stepOp_call {f : Operand} {args : Array Operand} {ats : Array TypeId} {g : Option (Nat × Bool)} : stepOp P n ⟨d, .call ⟨.value f, args, ats⟩, ty, pos, af, g⟩ s σ K Q =
    ((match d with | none => True | some d => d < n) ∧ aCall P (ev s f) (args.toList.map (ev s)) σ (putK K s d) (panK Q s)) := rfl
@[simp ↓] theorem stepOp_some {t : Nat} {g : Option (Nat × Bool)} : stepOp P n ⟨some t, op, ty, pos, af, g⟩ s σ K Q = (t < n ∧ runOp P op s σ (putK K s (some t)) (panK Q s)) := rfl
@[simp ↓] theorem stepOp_none {g : Option (Nat × Bool)} : stepOp P n ⟨none, op, ty, pos, af, g⟩ s σ K Q = (True ∧ runOp P op s σ (putK K s none) (panK Q s)) := rfl
@[simp ↓] theorem nextP_s (K : Fr → AS → Prop) (s : Fr) (d : Option Nat) (σ : AS) (v : AV) : nextP K s d σ v = K (s.put d v) σ := rfl
def pureG (P : Program) (fv : AV) (args : List AV) (K : AV → Prop) (g : AV) (want : Bool) : Prop := onGuard g want (pureCall P fv args K) (K skipV)
@[simp ↓] theorem pureOp_none {f : Operand} {args : Array Operand} {ats : Array TypeId} {K : AV → Prop} : pureOp P n ops ⟨d, .call ⟨.value f, args, ats⟩, ty, pos, af, none⟩ s K =
    ((match d with | none => True | some d => d < n) ∧ pureCall P (ev s f) (args.toList.map (ev s)) K) := rfl
@[simp ↓] theorem pureOp_some {f : Operand} {args : Array Operand} {ats : Array TypeId} {K : AV → Prop} {j : Nat} {want : Bool} : pureOp P n ops ⟨d, .call ⟨.value f, args, ats⟩, ty, pos, af, some (j, want)⟩ s K =
    ((match d with | none => True | some d => d < n) ∧ pureG P (ev s f) (args.toList.map (ev s)) K (guardAV ops s j) want) := rfl
@[simp] theorem pureG_ff {f : AV} {as : List AV} {K : AV → Prop} : pureG P f as K (.sc (.bool false)) false = pureCall P f as K := by simp [pureG, onGuard, gYes, gNo]
@[simp] theorem pureG_tf {f : AV} {as : List AV} {K : AV → Prop} : pureG P f as K (.sc (.bool true)) false = K skipV := by simp [pureG, onGuard, gYes, gNo]
variable {x y c a b f : Operand}
@[simp ↓] theorem ro_move : runOp P (.move x) s σ Kv Pn = Kv (ev s x) σ := rfl
@[simp ↓] theorem ro_assign : runOp P (.assign x) s σ Kv Pn = Kv (ev s x) σ := rfl
def pickK (c a b : AV) (K : AV → AS → Prop) (σ : AS) : Prop := match c with | .sc (.bool t) => K (if t then a else b) σ | _ => False
@[simp ↓] theorem ro_pick : runOp P (.pick c a b) s σ Kv Pn = pickK (ev s c) (ev s a) (ev s b) Kv σ := rfl
@[simp] theorem pickK_s {t : Bool} {a b : AV} : pickK (.sc (.bool t)) a b Kv σ = Kv (if t then a else b) σ := rfl
@[simp ↓] theorem ro_alloc {e : TypeId} : runOp P (.alloc e) s σ Kv Pn = aAlloc P σ e Kv := rfl
@[simp ↓] theorem ro_box {e : TypeId} : runOp P (.box e x) s σ Kv Pn = aBox P σ e (ev s x) Kv := rfl
@[simp ↓] theorem ro_build {t : TypeId} {ps : Array (Nat × Operand)} : runOp P (.build t ps) s σ Kv Pn = aBuild P t (ps.toList.map fun p => (p.1, ev s p.2)) (atK Kv σ) := rfl
@[simp ↓] theorem ro_buildSlice {t m : Nat} {ps : Array (Nat × Operand)} : runOp P (.buildSlice t m ps) s σ Kv Pn = aBuildSlice P σ t m (ps.toList.map fun p => (p.1, ev s p.2)) Kv := rfl
@[simp ↓] theorem ro_load {t : TypeId} : runOp P (.load t a) s σ Kv Pn = aLoad P σ t (ev s a) (atK Kv σ) := rfl
@[simp ↓] theorem ro_store {t : TypeId} : runOp P (.store t a x) s σ Kv Pn = aStore P σ t (ev s a) (ev s x) (anyK Kv) := rfl
@[simp ↓] theorem ro_nilCheck : runOp P (.nilCheck x) s σ Kv Pn = aNilCheck (ev s x) (atK Kv σ) := rfl
@[simp ↓] theorem ro_bin {op : BinOp} {t u : TypeId} : runOp P (.binOp op t x y u) s σ Kv Pn = aBin P op t (ev s x) (ev s y) (atK Kv σ) := rfl
@[simp ↓] theorem ro_un {op : UnOp} {t : TypeId} : runOp P (.unOp op t x) s σ Kv Pn = aUn op (ev s x) (atK Kv σ) := rfl
@[simp ↓] theorem ro_conv {t u : TypeId} : runOp P (.convert t u x) s σ Kv Pn = aConvert P t u (ev s x) (atK Kv σ) := rfl
@[simp ↓] theorem ro_mi {t : TypeId} : runOp P (.makeInterface t x) s σ Kv Pn = (P.concrete t = true ∧ Kv (.ifc t (ev s x)) σ) := rfl
@[simp ↓] theorem ro_mf {f : Fn} {fi ca : Array Operand} : runOp P (.makeFunc f fi ca) s σ Kv Pn = Kv (.fn f (fi.toList.map (ev s)) (ca.toList.map (ev s))) σ := rfl
@[simp ↓] theorem ro_range {t : TypeId} : runOp P (.range t x) s σ Kv Pn = aRange P σ t (ev s x) Kv := rfl
@[simp ↓] theorem ro_next {b : Bool} : runOp P (.next x b) s σ Kv Pn = aNext σ (ev s x) b Kv := rfl
@[simp ↓] theorem ro_entry : runOp P (.entry x) s σ Kv Pn = aEntry σ (ev s x) (atK Kv σ) := rfl
@[simp ↓] theorem ro_makeSlice {t : TypeId} : runOp P (.makeSlice t x y) s σ Kv Pn = aMakeSlice P σ t (ev s x) (ev s y) Kv := rfl
@[simp ↓] theorem ro_slice {t : TypeId} {lo hi mx : Option Operand} : runOp P (.slice t x lo hi mx) s σ Kv Pn = aSlice P t (ev s x) (lo.map (ev s)) (hi.map (ev s)) (mx.map (ev s)) (atK Kv σ) := rfl
@[simp ↓] theorem ro_fa {t i : Nat} : runOp P (.fieldAddr t x i) s σ Kv Pn = aFieldAddr P t (ev s x) i (atK Kv σ) := rfl
@[simp ↓] theorem ro_f {t i : Nat} : runOp P (.field t x i) s σ Kv Pn = aField P t (ev s x) i (atK Kv σ) := rfl
@[simp ↓] theorem ro_ia {t : TypeId} : runOp P (.indexAddr t x y) s σ Kv Pn = aIndexAddr P t (ev s x) (ev s y) (atK Kv σ) := rfl
@[simp ↓] theorem ro_i {t : TypeId} : runOp P (.index t x y) s σ Kv Pn = aIndex P t (ev s x) (ev s y) (atK Kv σ) := rfl
@[simp ↓] theorem ro_ex {i : Nat} : runOp P (.extract x i) s σ Kv Pn = aExtract (ev s x) i (atK Kv σ) := rfl
def panicK (x : AV) (Pn : AV → AS → Prop) (σ : AS) : Prop := match x with | .ifc t v => Pn (.ifc t v) σ | _ => False
@[simp ↓] theorem ro_panic : runOp P (.panic x) s σ Kv Pn = panicK (ev s x) Pn σ := rfl
@[simp] theorem panicK_s {t : TypeId} {v : AV} : panicK (.ifc t v) Pn σ = Pn (.ifc t v) σ := rfl
@[simp ↓] theorem ro_bi {b : Builtin} {args : Array Operand} {ats : Array TypeId} : runOp P (.call ⟨.builtin b, args, ats⟩) s σ Kv Pn = aBuiltin P σ b ats.toList (args.toList.map (ev s)) Kv := rfl
@[simp] theorem bi_len {t : TypeId} {x : AV} : aBuiltin P σ .len [t] [x] Kv = aLen P σ t x (atK Kv σ) := rfl
@[simp] theorem bi_append {t u : TypeId} {x y : AV} : aBuiltin P σ .append [t, u] [x, y] Kv = aAppend P σ t u x y Kv := rfl
@[simp] theorem bi_copy {t u : TypeId} {x y : AV} : aBuiltin P σ .copy [t, u] [x, y] Kv = aCopy P σ t x y Kv := rfl
@[simp] theorem bi_min {ts : List TypeId} {k k' : IntKind} {a b : Int} : aBuiltin P σ .min ts [.sc (.int k a), .sc (.int k' b)] Kv = Kv (.sc (.int k (if b < a then b else a))) σ := rfl
@[simp] theorem bi_max {ts : List TypeId} {k k' : IntKind} {a b : Int} : aBuiltin P σ .max ts [.sc (.int k a), .sc (.int k' b)] Kv = Kv (.sc (.int k (if a < b then b else a))) σ := rfl
end steps
section values
variable {K : AV → Prop} {op : BinOp} {t : TypeId} {σ : AS}
@[simp] theorem bin_int {k k' : IntKind} {a b : Int} : aBin P op t (.sc (.int k a)) (.sc (.int k' b)) K = if isShift op then shOp op k a b (scK K) else k = k' ∧ intOp op k a b (scK K) := rfl
@[simp] theorem bin_str {a b : ByteArray} : aBin P op t (.sc (.string a)) (.sc (.string b)) K = strOp op a b (scK K) := rfl
@[simp] theorem bin_agg {xs ys : List AV} : aBin P op t (.agg xs) (.agg ys) K = (match eqAV P 8 t (.agg xs) (.agg ys), op with
    | some r, .eql => P.eqGuardType P.depth t = false ∧ K (.sc (.bool r))
    | some r, .neq => P.eqGuardType P.depth t = false ∧ K (.sc (.bool (!r)))
    | _, _ => False) := rfl
@[simp] theorem bin_bool {a b : Bool} : aBin P op t (.sc (.bool a)) (.sc (.bool b)) K = (match P.underlying t, op with
    | some .bool, .eql => K (.sc (.bool (a == b)))
    | some .bool, .neq => K (.sc (.bool (!(a == b))))
    | _, _ => False) := rfl
@[simp] theorem bin_n1 {e : TypeId} {es : List AV} {o : Own} {nl : Bool} : aBin P op t (.lst e es o nl) .nilS K = aNilCmp P op t (.lst e es o nl) .nilS K := rfl
@[simp] theorem bin_n2 : aBin P op t .nilS .nilS K = aNilCmp P op t .nilS .nilS K := rfl
@[simp] theorem bin_n3 {i a b c : Nat} : aBin P op t (.msl i a b c) .nilS K = aNilCmp P op t (.msl i a b c) .nilS K := rfl
@[simp] theorem bin_n4 {i a : Nat} : aBin P op t (.ptr i a) (.sc (.pointer none)) K = aNilCmp P op t (.ptr i a) (.sc (.pointer none)) K := rfl
@[simp] theorem bin_n5 {cs : List AV} : aBin P op t (.cptr cs) (.sc (.pointer none)) K = aNilCmp P op t (.cptr cs) (.sc (.pointer none)) K := rfl
@[simp] theorem bin_n6 : aBin P op t (.sc (.pointer none)) (.sc (.pointer none)) K = aNilCmp P op t (.sc (.pointer none)) (.sc (.pointer none)) K := rfl
@[simp] theorem bin_n7 {u : TypeId} {v : AV} : aBin P op t (.ifc u v) (.sc .nilIface) K = aNilCmp P op t (.ifc u v) (.sc .nilIface) K := rfl
@[simp] theorem bin_n8 {f : Fn} {a b : List AV} : aBin P op t (.fn f a b) (.sc .nilFunc) K = aNilCmp P op t (.fn f a b) (.sc .nilFunc) K := rfl
@[simp] theorem bin_n9 {f : Fn} {a b : Array Value} : aBin P op t (.sc (.func f a b)) (.sc .nilFunc) K = aNilCmp P op t (.sc (.func f a b)) (.sc .nilFunc) K := rfl
@[simp] theorem bin_n10 : aBin P op t (.sc .nilFunc) (.sc .nilFunc) K = aNilCmp P op t (.sc .nilFunc) (.sc .nilFunc) K := rfl
@[simp] theorem bin_n11 {i : Nat} : aBin P op t (.mp i) (.sc (.map none)) K = aNilCmp P op t (.mp i) (.sc (.map none)) K := rfl
@[simp] theorem bin_n12 : aBin P op t (.sc (.map none)) (.sc (.map none)) K = aNilCmp P op t (.sc (.map none)) (.sc (.map none)) K := rfl
@[simp] theorem range_str {b : ByteArray} {K : AV → AS → Prop} : aRange P σ t (.sc (.string b)) K = (P.underlying t = some .string ∧ ∀ id, σ id = none → K (.ptr id 0) (σ.set id (.siter b 0))) := rfl
@[simp] theorem build_s {ps : List (Nat × AV)} : aBuild P t ps K = (buildT P t = true ∧ (zeroAV P t).laid = true ∧ aParts P t (zeroAV P t).cells ps (aggK K)) := rfl
def bOk : Option AV → Prop
  | none => True
  | some (.sc (.int _ n)) => 0 ≤ n
  | _ => False
def bVal : Option AV → Nat → Nat
  | some (.sc (.int _ n)), _ => n.toNat
  | _, d => d
theorem aBound_eq {x : Option AV} {d : Nat} {K : Nat → Prop} : aBound x d K = (bOk x ∧ K (bVal x d)) := by
  unfold aBound bOk bVal
  split <;> simp_all
@[simp] theorem slice_lst {e : TypeId} {es : List AV} {o : Own} {nl : Bool} {lo hi : Option AV} : aSlice P t (.lst e es o nl) lo hi none K =
    (sliceT P t = some e ∧ P.cellsOf e ≠ 0 ∧ bOk hi ∧ bVal hi es.length ≤ es.length ∧ bOk lo ∧ bVal lo 0 ≤ bVal hi es.length ∧ K (.lst e ((es.take (bVal hi es.length)).drop (bVal lo 0)) .unk nl)) := by
  simp only [aSlice, aBound_eq]
@[simp] theorem slice_str {s : ByteArray} {lo hi : Option AV} : aSlice P t (.sc (.string s)) lo hi none K =
    (P.underlying t = some .string ∧ bOk hi ∧ bVal hi s.size ≤ s.size ∧ bOk lo ∧ bVal lo 0 ≤ bVal hi s.size ∧ K (.sc (.string (s.extract (bVal lo 0) (bVal hi s.size))))) := by
  simp only [aSlice, aBound_eq]
@[simp] theorem slice_msl {id off len cap : Nat} {lo hi : Option AV} : aSlice P t (.msl id off len cap) lo hi none K =
    (match sliceT P t with
      | some e => P.cellsOf e ≠ 0 ∧ bOk hi ∧ bVal hi len ≤ cap ∧ bOk lo ∧ bVal lo 0 ≤ bVal hi len ∧ bVal lo 0 < cap ∧ K (.msl id (off + bVal lo 0 * P.cellsOf e) (bVal hi len - bVal lo 0) (cap - bVal lo 0))
      | none => False) := by
  simp only [aSlice, aBound_eq]
  cases sliceT P t <;> rfl
end values
def loopQ (P : Program) (I : Nat → Fr → AS → Prop) (k : Nat) (s' : Fr) (σ' : AS) : Prop := ∃ k' s1 σ1, k' < k ∧ FrWk P s' s1 ∧ AS.le σ1 σ' ∧ I k' s1 σ1
theorem AWp.loopI {c : Code} {Q : AQ} {s : Fr} {σ : AS} (I : Nat → Fr → AS → Prop) {k0 : Nat} {s0 : Fr} {σ0 : AS} (h0 : I k0 s0 σ0) (hs : FrWk P s s0) (hσ : AS.le σ0 σ)
    (hr : ∀ k s σ, I k s σ → AWp P n ds c (thenQ (loopQ P I k) Q) s σ) : AWp P n ds (.loop c) Q s σ := AWp.loop I h0 hs hσ hr
@[simp] theorem cells_agg {cs : List AV} : (AV.agg cs).cells = cs := rfl
@[simp] theorem cells_sc {v : Value} : (AV.sc v).cells = [.sc v] := rfl
@[simp] theorem cells_ptr {i o : Nat} : (AV.ptr i o).cells = [.ptr i o] := rfl
@[simp] theorem cells_cptr {cs : List AV} : (AV.cptr cs).cells = [.cptr cs] := rfl
@[simp] theorem cells_nilS : AV.nilS.cells = [.nilS] := rfl
@[simp] theorem cells_lst {e : TypeId} {es : List AV} {o : Own} {nl : Bool} : (AV.lst e es o nl).cells = [.lst e es o nl] := rfl
@[simp] theorem cells_msl {a b c d : Nat} : (AV.msl a b c d).cells = [.msl a b c d] := rfl
@[simp] theorem cells_mp {i : Nat} : (AV.mp i).cells = [.mp i] := rfl
@[simp] theorem cells_fn {f : Fn} {a b : List AV} : (AV.fn f a b).cells = [.fn f a b] := rfl
@[simp] theorem cells_ifc {t : TypeId} {v : AV} : (AV.ifc t v).cells = [.ifc t v] := rfl
@[simp] theorem u8_app (b : UInt8) : u8 b = .sc (.int .u8 b.toNat) := rfl
@[simp] theorem cast_eq (a b : Nat) : ((a : Int) = (b : Int)) = (a = b) := by simp only [eq_iff_iff]; omega
attribute [simp] aEntry aNext nextS aMakeSlice pureAt lenPure guardAV strOp isShift aUn aExtract aNilCheck aConvert aFieldAddr aField aIndexAddr aIndex bOk bVal aLoad aStore aAlloc aBox aParts aBuildSlice aElems aLen aAppend roomB srcElems aNilCmp isNil isNilLit AV.laid AV.okc AV.one splice thenQ_n thenQ_e thenQ_r thenQ_p inBlockQ_n inBlockQ_e inBlockQ_r inBlockQ_p
@[simp] theorem shr_s {k : IntKind} {a b : Int} {K : Value → Prop} : shOp .shr k a b K = (0 ≤ b ∧ K (.int k (a / 2 ^ (min b.toNat k.bits)))) := by
  simp [shOp, Int.fdiv_eq_ediv_of_nonneg _ (Int.le_of_lt (Int.pow_pos (show (0 : Int) < 2 by decide)))]
@[simp] theorem shl_s {k : IntKind} {a b : Int} {K : Value → Prop} : shOp .shl k a b K = (0 ≤ b ∧ K (.int k (k.wrap (a * 2 ^ (min b.toNat k.bits))))) := rfl
def bAnd (w : Nat) (a b : Int) : Int := ((BitVec.ofInt w a &&& BitVec.ofInt w b).toNat : Int)
def bOr (w : Nat) (a b : Int) : Int := ((BitVec.ofInt w a ||| BitVec.ofInt w b).toNat : Int)
section
variable {k : IntKind} {a b : Int} {K : Value → Prop}
@[simp] theorem io_add : intOp .add k a b K = K (.int k (k.wrap (a + b))) := rfl
@[simp] theorem io_sub : intOp .sub k a b K = K (.int k (k.wrap (a - b))) := rfl
@[simp] theorem io_mul : intOp .mul k a b K = K (.int k (k.wrap (a * b))) := rfl
@[simp] theorem io_and : intOp .and k a b K = K (.int k (k.wrap (bAnd k.bits a b))) := rfl
@[simp] theorem io_or : intOp .or k a b K = K (.int k (k.wrap (bOr k.bits a b))) := rfl
@[simp] theorem io_quo : intOp .quo k a b K = (b ≠ 0 ∧ K (.int k (k.wrap (a.tdiv b)))) := rfl
@[simp] theorem io_rem : intOp .rem k a b K = (b ≠ 0 ∧ K (.int k (a.tmod b))) := rfl
@[simp] theorem io_eql : intOp .eql k a b K = K (.bool (decide (a = b))) := by simp [intOp]
@[simp] theorem io_neq : intOp .neq k a b K = K (.bool (!decide (a = b))) := by simp [intOp]
@[simp] theorem io_lss : intOp .lss k a b K = K (.bool (decide (a < b))) := by simp [intOp]
@[simp] theorem io_leq : intOp .leq k a b K = K (.bool (decide (a ≤ b))) := by simp [intOp]
@[simp] theorem io_gtr : intOp .gtr k a b K = K (.bool (decide (b < a))) := by simp [intOp]
@[simp] theorem io_geq : intOp .geq k a b K = K (.bool (decide (b ≤ a))) := by simp [intOp]
end
/-! ## calls -/
theorem aCall.of {f : FuncId} {args : List AV} {σ : AS} {R Rp K Kp : AV → AS → Prop} (h : ACalls P f args σ R Rp) (hk : ∀ r σ', R r σ' → K r σ') (hp : ∀ r σ', Rp r σ' → Kp r σ') : aCall P (.sc (.func (.func f) #[] #[])) args σ K Kp := ⟨rfl, rfl, R, Rp, h, hk, hp⟩
theorem aCall.gives {f : FuncId} {args : List AV} {σ σ1 : AS} {v : AV} {K Kp : AV → AS → Prop} (h : ACalls P f args σ (Gives v σ1) No) (hk : K v σ1) : aCall P (.sc (.func (.func f) #[] #[])) args σ K Kp :=
  .of h (fun r σ' ⟨h1, h2⟩ => by subst h1; subst h2; exact hk) (fun _ _ h => h.elim)
theorem aCall.owns {f : FuncId} {args : List AV} {σ : AS} {v : Nat → AV} {m : Nat} {K Kp : AV → AS → Prop} (h : ACalls P f args σ (Owns v m σ) No) (hk : ∀ tk, σ tk = none → K (v tk) (σ.set tk (.tok m))) : aCall P (.sc (.func (.func f) #[] #[])) args σ K Kp :=
  .of h (fun r σ' ⟨tk, h1, h2, h3⟩ => by subst h2; subst h3; exact hk tk h1) (fun _ _ h => h.elim)
theorem pureCall.gives {f : FuncId} {args : List AV} {v : AV} {K : AV → Prop} (h : ∀ σ', ACalls P f args σ' (Gives v σ') No) (hk : K v) : pureCall P (.sc (.func (.func f) #[] #[])) args K :=
  ⟨v, fun σ' _ _ hk' => .gives (h σ') hk', hk⟩
/-! ## a region that only reads, in the text's order -/
def PanQ (Q : AQ) : Prop := ∀ p s s' σ, Q (.panic p) s σ → Q (.panic p) s' σ
theorem PanQ.then {K : Fr → AS → Prop} {Q : AQ} (h : PanQ Q) : PanQ (thenQ K Q) := h
theorem PanQ.block {i : Nat} {Q : AQ} (h : PanQ Q) : PanQ (inBlockQ i Q) := h
theorem PanQ.body {P : Program} {rs : List ResultVar} {R Rp : AV → AS → Prop} : PanQ (bodyQ P rs R Rp) := fun _ _ _ _ h => h
theorem AWp.drawS {id : Nat} {l : List Oper} {Q : AQ} {s : Fr} {σ : AS} (hm : P.follows .mixedOrders = true) (t : Sch)
    (hok : okSch l.toArray false true (Array.replicate l.length false) t = true) (hd : decide (t.depth ≤ l.length) = true)
    (hQ : PanQ Q) (h : runSch P n l.toArray false Q t s σ) : AWp P n ds (.region id l.toArray true) Q s σ :=
  AWp.draw hm false t (by simp) hok hd hQ h
end Go.AW

set_option linter.unusedSimpArgs false
set_option linter.unusedVariables false
namespace Go.AW
open Go
@[simp] theorem bits_i64 : IntKind.i64.bits = 64 := rfl
@[simp] theorem bits_u64 : IntKind.u64.bits = 64 := rfl
@[simp] theorem bits_i32 : IntKind.i32.bits = 32 := rfl
@[simp] theorem bits_u32 : IntKind.u32.bits = 32 := rfl
@[simp] theorem bits_i16 : IntKind.i16.bits = 16 := rfl
@[simp] theorem bits_u16 : IntKind.u16.bits = 16 := rfl
@[simp] theorem bits_i8 : IntKind.i8.bits = 8 := rfl
@[simp] theorem bits_u8 : IntKind.u8.bits = 8 := rfl
theorem w_u32 (n : Int) : IntKind.u32.wrap n = n % 4294967296 := by simp [IntKind.wrap, IntKind.bits, IntKind.signed]
theorem w_u8 (n : Int) : IntKind.u8.wrap n = n % 256 := by simp [IntKind.wrap, IntKind.bits, IntKind.signed]
theorem w_i64 (n : Int) : IntKind.i64.wrap n = (n + 9223372036854775808) % 18446744073709551616 - 9223372036854775808 := by
  simp [IntKind.wrap, IntKind.bits, IntKind.signed]; split <;> omega
@[simp] theorem wl_i64_0 : IntKind.i64.wrap 0 = 0 := by decide
@[simp] theorem wl_i64_1 : IntKind.i64.wrap 1 = 1 := by decide
@[simp] theorem wl_i64_2 : IntKind.i64.wrap 2 = 2 := by decide
@[simp] theorem wl_i64_3 : IntKind.i64.wrap 3 = 3 := by decide
@[simp] theorem wl_u64_0 : IntKind.u64.wrap 0 = 0 := by decide
@[simp] theorem wl_u64_2 : IntKind.u64.wrap 2 = 2 := by decide
@[simp] theorem wl_u64_3 : IntKind.u64.wrap 3 = 3 := by decide
theorem in_i64 {n : Int} (h1 : -9223372036854775808 ≤ n) (h2 : n < 9223372036854775808) : IntKind.i64.wrap n = n := by rw [w_i64]; omega
theorem getD_map_u8 {l : List UInt8} {i : Nat} (h : i < l.length) : (l.map u8).getD i .any = .sc (.int .u8 (l.getD i 0).toNat) := by
  simp [List.getD_eq_getElem?_getD, h]
theorem or_add {w : Nat} {a b : Int} (i : Nat) (hb0 : 0 ≤ b) (hb : b < 2 ^ i) {c : Int} (hc : 0 ≤ c) (ha : a = 2 ^ i * c) (hw : a + b < 2 ^ w) : bOr w a b = a + b := by
  unfold bOr
  obtain ⟨b', rfl⟩ := Int.eq_ofNat_of_zero_le hb0
  obtain ⟨c', rfl⟩ := Int.eq_ofNat_of_zero_le hc
  have e1 : a = ((2 ^ i * c' : Nat) : Int) := by rw [ha]; push_cast; rfl
  have hb' : b' < 2 ^ i := by exact_mod_cast hb
  have hw' : 2 ^ i * c' + b' < 2 ^ w := by rw [e1] at hw; exact_mod_cast hw
  rw [e1, BitVec.ofInt_natCast, BitVec.ofInt_natCast, BitVec.toNat_or, BitVec.toNat_ofNat, BitVec.toNat_ofNat, Nat.mod_eq_of_lt (by omega), Nat.mod_eq_of_lt (by omega), ← Nat.two_pow_add_eq_or_of_lt hb']
  push_cast
  rfl
theorem and_mask {w : Nat} {a : Int} (i : Nat) (ha : 0 ≤ a) (hw : a < 2 ^ w) (hi : i ≤ w) : bAnd w a (2 ^ i - 1) = a % 2 ^ i := by
  unfold bAnd
  obtain ⟨a', rfl⟩ := Int.eq_ofNat_of_zero_le ha
  have hp : 0 < 2 ^ i := Nat.two_pow_pos i
  have hle : 2 ^ i ≤ 2 ^ w := Nat.pow_le_pow_right (by omega) hi
  have e1 : (2 : Int) ^ i - 1 = ((2 ^ i - 1 : Nat) : Int) := by rw [Int.natCast_sub hp]; push_cast; rfl
  have hw' : a' < 2 ^ w := by exact_mod_cast hw
  rw [e1, BitVec.ofInt_natCast, BitVec.ofInt_natCast, BitVec.toNat_and, BitVec.toNat_ofNat, BitVec.toNat_ofNat, Nat.mod_eq_of_lt hw', Nat.mod_eq_of_lt (by omega), Nat.and_two_pow_sub_one_eq_mod]
  push_cast
  rfl
theorem bOr_comm (w : Nat) (a b : Int) : bOr w a b = bOr w b a := by simp [bOr, BitVec.or_comm]
end Go.AW

set_option linter.unusedSimpArgs false
set_option linter.unusedVariables false
namespace Go.AW
open Go Go.RowKit
variable {P : Program} {n : Nat} {ds : List Deferred} {Q : AQ} {s : Fr} {σ : AS}
/-! ## what a goal is -/
theorem aCall.id {fv : AV} {args : List AV} {K Kp : AV → AS → Prop} (h : aCall P fv args σ K Kp) : aCall P fv args σ K Kp := h
theorem pureCall.id {fv : AV} {args : List AV} {K : AV → Prop} (h : pureCall P fv args K) : pureCall P fv args K := h
def condK (v : AV) (A B : Prop) : Prop := match v with | .sc (.bool true) => A | .sc (.bool false) => B | _ => False
@[simp ↓] theorem condK_t {A B : Prop} : condK (.sc (.bool true)) A B = A := rfl
@[simp ↓] theorem condK_f {A B : Prop} : condK (.sc (.bool false)) A B = B := rfl
@[congr] theorem condK_congr {v v' : AV} {A B : Prop} (h : v = v') : condK v A B = condK v' A B := by rw [h]
theorem AWp.fork {c : Operand} {x y : Code} (h : condK (ev s c) (AWp P n ds x Q s σ) (AWp P n ds y Q s σ)) : AWp P n ds (.cond c x y) Q s σ := by
  unfold condK at h
  split at h
  · rename_i hc; exact AWp.cond hc (fun _ => h) (fun e => by cases e)
  · rename_i hc; exact AWp.cond hc (fun e => by cases e) (fun _ => h)
  · exact h.elim
theorem condK.split {b : Bool} {A B : Prop} (h1 : b = true → A) (h2 : b = false → B) : condK (.sc (.bool b)) A B := by
  cases b
  · exact h2 rfl
  · exact h1 rfl
theorem guardK.split {o : Oper} {K : Fr → AS → Prop} {b want : Bool} (h1 : b = want → stepOp P n o s σ K Q) (h2 : b = !want → (match o.dst with | none => True | some d => d < n) ∧ K (s.put o.dst skipV) σ) :
    guardK P n o s σ K Q (.sc (.bool b)) want := by
  unfold guardK onGuard gYes gNo
  by_cases h : b = want
  · exact .inl ⟨by simp [h], h1 h⟩
  · exact .inr ⟨by simp [h], h2 (by cases b <;> cases want <;> simp_all)⟩
theorem pureG.split {f : AV} {as : List AV} {K : AV → Prop} {b want : Bool} (h1 : b = want → pureCall P f as K) (h2 : b = !want → K skipV) :
    pureG P f as K (.sc (.bool b)) want := by
  unfold pureG onGuard gYes gNo
  by_cases h : b = want
  · exact .inl ⟨by simp [h], h1 h⟩
  · exact .inr ⟨by simp [h], h2 (by cases b <;> cases want <;> simp_all)⟩
theorem wk_b {a b : Bool} (h : a = b) : AV.Wk P (.sc (.bool a)) (.sc (.bool b)) := h ▸ Wk.refl _
theorem wk_eq {a b : AV} (h : a = b) : AV.Wk P a b := h ▸ Wk.refl _
@[simp] theorem bsz (l : List UInt8) : (⟨l.toArray⟩ : ByteArray).size = l.length := by simp [ByteArray.size]
theorem at_lt {α : Type} (l : List α) {i : Nat} (h : i < l.length) : ∃ r, l[i]? = some r ∧ l.drop i = r :: l.drop (i + 1) ∧ r ∈ l ∧ l.take (i + 1) = l.take i ++ [r] :=
  ⟨l[i], List.getElem?_eq_getElem h, List.drop_eq_getElem_cons h, List.getElem_mem h, List.take_succ_eq_append_getElem h⟩
def i64v (n : Int) : AV := .sc (.int .i64 n)
theorem i64v_def (n : Int) : i64v n = .sc (.int .i64 n) := rfl
theorem wInc {i : Nat} (h : i < 4000000000000000000) : IntKind.i64.wrap ((i : Int) + 1) = ((i + 1 : Nat) : Int) := by rw [in_i64 (by omega) (by omega)]; simp
end Go.AW
