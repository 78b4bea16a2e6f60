/- A layer of abstract values over the model's machine: own work for this claim, part AwOps6. -/
import Derived.Test.YtnkjbgcbchbonaaAwOps5
set_option linter.unusedSimpArgs false
set_option linter.unusedVariables false
namespace Go.AW
open Go Go.RowKit

variable {P : Program} {G : Gh} {σ : AS} {w : World} {K Pn : AV → AS → Prop}

/-- Is a value nil, as '==' against nil tells it? -/
def isNil (P : Program) (t : TypeId) : AV → Option Bool
  | .nilS => match P.underlying t with | some (.slice _) => some true | _ => none
  | .lst _ _ _ nil => match P.underlying t with | some (.slice _) => some nil | _ => none
  | .msl _ _ _ _ => match P.underlying t with | some (.slice _) => some false | _ => none
  | .ptr _ _ | .cptr _ => match P.underlying t with | some (.pointer _) => some false | _ => none
  | .sc (.pointer none) => match P.underlying t with | some (.pointer _) => some true | _ => none
  | .mp _ => match P.underlying t with | some (.map _ _) => some false | _ => none
  | .sc (.map none) => match P.underlying t with | some (.map _ _) => some true | _ => none
  | .ifc _ _ => match P.underlying t with | some (.interface _) => some false | _ => none
  | .fn _ _ _ => match P.underlying t with | some (.func _ _ _) => some false | _ => none
  | .sc (.func _ _ _) => match P.underlying t with | some (.func _ _ _) => some false | _ => none
  | .sc .nilFunc => match P.underlying t with | some (.func _ _ _) => some true | _ => none
  | _ => none

/-- nil itself, of a type. -/
def isNilLit (P : Program) (t : TypeId) : AV → Bool
  | .nilS => match P.underlying t with | some (.slice _) => true | _ => false
  | .sc (.pointer none) => match P.underlying t with | some (.pointer _) => true | _ => false
  | .sc (.map none) => match P.underlying t with | some (.map _ _) => true | _ => false
  | .sc .nilIface => match P.underlying t with | some (.interface _) => true | _ => false
  | .sc .nilFunc => match P.underlying t with | some (.func _ _ _) => true | _ => false
  | _ => false

/-- '==' and '!=' against nil. -/
def aNilCmp (P : Program) (op : BinOp) (t : TypeId) (x y : AV) (K : AV → Prop) : Prop :=
  if isNilLit P t y then match isNil P t x, op with
      | some r, .eql => K (.sc (.bool r))
      | some r, .neq => K (.sc (.bool (!r)))
      | _, _ => False
    else False

def aBin (P : Program) (op : BinOp) (t : TypeId) (x y : AV) (K : AV → Prop) : Prop :=
  match x, y with
  | .sc (.int k a), .sc (.int k' b) => if isShift op then shOp op k a b (fun v => K (.sc v)) else k = k' ∧ intOp op k a b (fun v => K (.sc v))
  | .sc (.string a), .sc (.string b) => strOp op a b (fun v => K (.sc v))
  | .agg xs, .agg ys => match eqAV P 8 t (.agg xs) (.agg ys), op with
    | some r, .eql => P.eqGuardType P.depth t = false ∧ K (.sc (.bool r))
    | some r, .neq => P.eqGuardType P.depth t = false ∧ K (.sc (.bool (!r)))
    | _, _ => False
  | .sc (.bool a), .sc (.bool b) => match P.underlying t, op with
    | some .bool, .eql => K (.sc (.bool (a == b)))
    | some .bool, .neq => K (.sc (.bool (!(a == b))))
    | _, _ => False
  | x, y => aNilCmp P op t x y K

theorem equal_succ (t : TypeId) (x y : Value) : Op.equal t x y = Op.equalIn (9999 + 1) t x y := rfl

theorem binOp_eql {t : TypeId} {x y : Value} (h1 : ∀ k n, x ≠ .int k n) (h2 : ∀ k n, x ≠ .float k n) (h3 : ∀ k a b, x ≠ .complex k a b) (h4 : ∀ s, x ≠ .string s) {r : Bool}
    (h : (Op.equalIn (9999 + 1) t x y).run P w = .ok r w) : (binOp .eql t x y).run P w = .ok (.bool r) w ∧ (binOp .neq t x y).run P w = .ok (.bool (!r)) w := by
  have e1 : binOp .eql t x y = (do pure (Value.bool (← Op.equal t x y))) := by
    cases x <;> first | rfl | (exfalso; first | exact h1 _ _ rfl | exact h2 _ _ rfl | exact h3 _ _ _ rfl | exact h4 _ rfl)
  have e2 : binOp .neq t x y = (do pure (Value.bool (!(← Op.equal t x y)))) := by
    cases x <;> first | rfl | (exfalso; first | exact h1 _ _ rfl | exact h2 _ _ rfl | exact h3 _ _ _ rfl | exact h4 _ rfl)
  rw [e1, e2, equal_succ]
  generalize Op.equalIn (9999 + 1) t x y = q at h ⊢
  constructor
  · rw [Sem.run_bind, h]; rfl
  · rw [Sem.run_bind, h]; rfl

theorem run_guard_pure {op : BinOp} {t : TypeId} {ox oy : Operand} {a b : Value} (h1 : ∀ c, a ≠ .agg c) (h2 : a ≠ .nilIface ∨ b ≠ .nilIface) : (eqGuard op t ox oy a b).run P w = .ok () w := by
  unfold eqGuard
  cases op <;> simp <;> (cases a <;> cases b <;> simp at h1 h2 ⊢)

theorem intOp_ok {op : BinOp} {t : TypeId} {k : IntKind} {a b : Int} {Q : Value → Prop} (hs : isShift op = false) (h : intOp op k a b Q) : ∃ v, (binOp op t (.int k a) (.int k b)).run P w = .ok v w ∧ Q v := by
  cases op <;> first | (simp [isShift] at hs; done) | skip
  all_goals (simp only [intOp] at h)
  all_goals first
    | exact h.elim
    | (refine ⟨_, ?_, h⟩; simp [binOp, Op.intArith, Op.intBits, Op.intCmp, beqd, bne]; done)
    | (refine ⟨_, ?_, h.2⟩; simp [binOp, Op.intDiv, h.1]; done)
    | skip

theorem shOp_ok {op : BinOp} {t : TypeId} {k k' : IntKind} {a b : Int} {Q : Value → Prop} (h : shOp op k a b Q) : ∃ v, (binOp op t (.int k a) (.int k' b)).run P w = .ok v w ∧ Q v := by
  cases op <;> simp only [shOp] at h
  all_goals (refine ⟨_, ?_, h.2⟩; have hb := h.1; simp [binOp, Op.shift, show ¬ b < 0 by omega])

theorem strOp_ok {op : BinOp} {t : TypeId} {a b : ByteArray} {Q : Value → Prop} (h : strOp op a b Q) : ∃ v, (binOp op t (.string a) (.string b)).run P w = .ok v w ∧ Q v := by
  cases op <;> simp only [strOp] at h
  case add =>
    refine ⟨_, ?_, h.2⟩
    have h1 := h.1
    have e : ¬ (IntKind.i64.max < ((a.size + b.size : Nat) : Int)) := by
      have : IntKind.i64.max = 9223372036854775807 := rfl
      rw [this]; omega
    simp only [binOp, Op.stringOp]
    rw [if_neg (by simpa using e)]
    rfl
  case eql => refine ⟨_, ?_, h⟩; simp [binOp, Op.stringOp, ByteArray.toList_eq, beqd]
  case neq => refine ⟨_, ?_, h⟩; simp [binOp, Op.stringOp, ByteArray.toList_eq, beqd]

theorem nil_key {t : TypeId} {x y : AV} {vx vy : Value} (hx : Rep P G x vx) (hy : Rep P G y vy) (hyn : isNilLit P t y = true) {r : Bool} (hr : isNil P t x = some r) :
    (Op.equalIn (9999 + 1) t vx vy).run P w = .ok r w ∧ (∀ c, vx ≠ .agg c) ∧ vx ≠ .nilIface ∧ (∀ k n, vx ≠ .int k n) ∧ (∀ s, vx ≠ .string s) ∧ (∀ k n, vx ≠ .float k n) ∧ (∀ k n m, vx ≠ .complex k n m) := by
  generalize 9999 = d
  have sl : ∀ (e : TypeId) (a : Option Addr) (n c : Nat), P.underlying t = some (.slice e) → (Op.equalIn (d + 1) t (.slice a n c) (.slice none 0 0)).run P w = .ok a.isNone w := by
    intro e a n c hu
    cases a <;> simp [Op.equalIn, run_underlying hu]
  have pt : ∀ (e : TypeId) (a : Option Addr), P.underlying t = some (.pointer e) → (Op.equalIn (d + 1) t (.pointer a) (.pointer none)).run P w = .ok a.isNone w := by
    intro e a hu
    cases a <;> simp [Op.equalIn, run_underlying hu]
  have mp : ∀ (k e : TypeId) (a : Option Nat), P.underlying t = some (.map k e) → (Op.equalIn (d + 1) t (.map a) (.map none)).run P w = .ok a.isNone w := by
    intro k e a hu
    cases a <;> simp [Op.equalIn, run_underlying hu]
  have ifc : ∀ (ms : Array (String × TypeId)) (u : TypeId) (v : Value), P.underlying t = some (.interface ms) → (Op.equalIn (d + 1) t (.iface u v) .nilIface).run P w = .ok false w := by
    intro ms u v hu
    simp [Op.equalIn, run_underlying hu]
  have fn : ∀ (ps rs : Array TypeId) (va : Bool) (f : Fn) (a b : Array Value), P.underlying t = some (.func ps rs va) → (Op.equalIn (d + 1) t (.func f a b) .nilFunc).run P w = .ok false w := by
    intro ps rs va f a b hu
    simp [Op.equalIn, run_underlying hu]
  have fn0 : ∀ (ps rs : Array TypeId) (va : Bool), P.underlying t = some (.func ps rs va) → (Op.equalIn (d + 1) t .nilFunc .nilFunc).run P w = .ok true w := by
    intro ps rs va hu
    simp [Op.equalIn, run_underlying hu]
  unfold isNilLit at hyn
  split at hyn
  · cases hy
    split at hyn
    · rename_i e hu
      unfold isNil at hr
      split at hr <;> (try simp only [hu] at hr) <;> first | (cases hr; done) | skip
      · cases hr; cases hx; exact ⟨sl _ _ _ _ hu, by simp⟩
      · cases hr
        cases hx
        · exact ⟨sl _ _ _ _ hu, by simp⟩
        · exact ⟨sl _ _ _ _ hu, by simp⟩
        · exact ⟨sl _ _ _ _ hu, by simp⟩
      · cases hr; cases hx; exact ⟨sl _ _ _ _ hu, by simp⟩
    · cases hyn
  · cases hy
    split at hyn
    · rename_i e hu
      unfold isNil at hr
      split at hr <;> (try simp only [hu] at hr) <;> first | (cases hr; done) | skip
      all_goals (cases hr; cases hx; exact ⟨pt _ _ hu, by simp⟩)
    · cases hyn
  · cases hy
    split at hyn
    · rename_i k e hu
      unfold isNil at hr
      split at hr <;> (try simp only [hu] at hr) <;> first | (cases hr; done) | skip
      all_goals (cases hr; cases hx; exact ⟨mp _ _ _ hu, by simp⟩)
    · cases hyn
  · cases hy
    split at hyn
    · rename_i ms hu
      unfold isNil at hr
      split at hr <;> (try simp only [hu] at hr) <;> first | (cases hr; done) | skip
      all_goals (cases hr; cases hx; exact ⟨ifc _ _ _ hu, by simp⟩)
    · cases hyn
  · cases hy
    split at hyn
    · rename_i ps rs va hu
      unfold isNil at hr
      split at hr <;> (try simp only [hu] at hr) <;> first | (cases hr; done) | skip
      all_goals (cases hr; cases hx; first | exact ⟨fn _ _ _ _ _ _ hu, by simp⟩ | exact ⟨fn0 _ _ _ hu, by simp⟩)
    · cases hyn
  · cases hyn

theorem aBin_out (hi : Inv P G σ w) {op : BinOp} {t : TypeId} {ox oy : Operand} {x y : AV} {vx vy : Value} (hx : Rep P G x vx) (hy : Rep P G y vy) (h : aBin P op t x y fun v => K v σ) :
    Out P G K Pn (((do pure (Next.value (← (do eqGuard op t ox oy vx vy; binOp op t vx vy)))) : Sem Next).run P w) := by
  have fin : ∀ (v : Value) (av : AV), (eqGuard op t ox oy vx vy).run P w = .ok () w → (binOp op t vx vy).run P w = .ok v w → Rep P G av v → K av σ →
      Out P G K Pn (((do pure (Next.value (← (do eqGuard op t ox oy vx vy; binOp op t vx vy)))) : Sem Next).run P w) :=
    fun v av h1 h2 h3 h4 => Out.pure hi (by rw [Sem.run_bind, h1]; exact h2) h3 h4
  unfold aBin at h
  split at h
  · rename_i k a k' b
    cases hx; cases hy
    split at h
    · obtain ⟨v, h1, h2⟩ := shOp_ok (P := P) (w := w) (t := t) (k' := k') h
      exact fin v _ (run_guard_pure (by simp) (by simp)) h1 (.sc _) h2
    · rename_i hs
      obtain ⟨rfl, h⟩ := h
      obtain ⟨v, h1, h2⟩ := intOp_ok (P := P) (w := w) (t := t) (by simpa using hs) h
      exact fin v _ (run_guard_pure (by simp) (by simp)) h1 (.sc _) h2
  · cases hx; cases hy
    obtain ⟨v, h1, h2⟩ := strOp_ok (P := P) (w := w) (t := t) h
    exact fin v _ (run_guard_pure (by simp) (by simp)) h1 (.sc _) h2
  · rename_i xs ys
    have hx' := hx
    have hy' := hy
    cases hx with
    | agg vs1 l1 h1 =>
      cases hy with
      | agg vs2 l2 h2 =>
        split at h
        · rename_i r he
          have := (eq_ok (P := P) (G := G) (w := w) 8).1 t _ _ r _ _ 10000 (by omega) he hx' hy'
          exact fin (.bool r) _ (run_eqGuard_agg w _ t _ _ _ _ h.1) (by rw [run_eql_struct, this]; rfl) (.sc _) h.2
        · rename_i r he
          have := (eq_ok (P := P) (G := G) (w := w) 8).1 t _ _ r _ _ 10000 (by omega) he hx' hy'
          exact fin (.bool (!r)) _ (run_eqGuard_agg w _ t _ _ _ _ h.1) (by rw [run_neq_struct, this]; rfl) (.sc _) h.2
        · exact h.elim
  · rename_i a b
    cases hx; cases hy
    split at h
    · rename_i hu
      exact fin _ _ (run_guard_pure (by simp) (by simp)) (binOp_eql (by simp) (by simp) (by simp) (by simp) (run_equalIn_bool' w 9999 t a b hu)).1 (.sc _) h
    · rename_i hu
      exact fin _ _ (run_guard_pure (by simp) (by simp)) (binOp_eql (by simp) (by simp) (by simp) (by simp) (run_equalIn_bool' w 9999 t a b hu)).2 (.sc _) h
    · exact h.elim
  · unfold aNilCmp at h
    split at h
    · rename_i hyn
      have key : ∀ r, isNil P t x = some r → (Op.equalIn (9999 + 1) t vx vy).run P w = .ok r w ∧ (∀ c, vx ≠ .agg c) ∧ vx ≠ .nilIface ∧ (∀ k n, vx ≠ .int k n) ∧ (∀ s, vx ≠ .string s) ∧ (∀ k n, vx ≠ .float k n) ∧ (∀ k n m, vx ≠ .complex k n m) := by
        intro r hr
        exact nil_key hx hy hyn hr
      split at h
      · rename_i r he
        obtain ⟨k1, k2, k3, k4, k5, k6, k7⟩ := key r he
        exact fin _ _ (run_guard_pure k2 (.inl k3)) (binOp_eql k4 k6 k7 k5 k1).1 (.sc _) h
      · rename_i r he
        obtain ⟨k1, k2, k3, k4, k5, k6, k7⟩ := key r he
        exact fin _ _ (run_guard_pure k2 (.inl k3)) (binOp_eql k4 k6 k7 k5 k1).2 (.sc _) h
      · exact h.elim
    · exact h.elim

end Go.AW
