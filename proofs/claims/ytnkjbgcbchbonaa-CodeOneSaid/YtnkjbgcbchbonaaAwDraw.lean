/- A layer of abstract values over the model's machine: own work for this claim, part AwDraw. -/
import Derived.Test.YtnkjbgcbchbonaaAwRun
import Derived.Orders
import Derived.Still
set_option linter.unusedSimpArgs false
set_option linter.unusedVariables false
namespace Go.AW
open Go Go.RowKit

variable {P : Program} {G : Gh} {σ : AS} {w : World}

/-- One operation, its continuation told of the value alone. -/
def gop (P : Program) (ops : Array Oper) (n : Nat) (o : Oper) (s : Fr) (σ : AS) (Kv Kp : AV → AS → Prop) : Prop :=
  (match o.dst with | none => True | some d => d < n) ∧
  match o.guard with
  | none => runOp P o.op s σ Kv Kp
  | some (j, want) => onGuard (guardAV ops s j) want (runOp P o.op s σ Kv Kp) (Kv skipV σ)

theorem guardOp_eq (n : Nat) (ops : Array Oper) (o : Oper) (s : Fr) (K : Fr → AS → Prop) (Q : AQ) :
    guardOp P n ops o s σ K Q ↔ gop P ops n o s σ (fun v σ' => K (s.put o.dst v) σ') (fun v σ' => Q (.panic v) s σ') := by
  unfold guardOp gop
  cases hg : o.guard with
  | none => exact Iff.rfl
  | some p =>
    obtain ⟨j, want⟩ := p
    simp only
    constructor
    · rintro (⟨hb, h⟩ | ⟨hb, h⟩)
      · exact ⟨h.1, .inl ⟨hb, h.2⟩⟩
      · exact ⟨h.1, .inr ⟨hb, h.2⟩⟩
    · intro h
      exact onGuard_map h.2 (fun x => ⟨h.1, x⟩) (fun x => ⟨h.1, x⟩)

/-! ### what an operation looks at -/

theorem aop_congr {s s' : Fr} {K Pn : AV → AS → Prop} (op : Op) (h : ∀ x ∈ op.operands, ev s x = ev s' x) : aop P s σ K Pn op = aop P s' σ K Pn op := by
  have mp : ∀ (parts : Array (Nat × Operand)), (∀ x ∈ ((parts.toList.map (·.2)).toArray : Array Operand), ev s x = ev s' x) →
      (parts.toList.map fun p => (p.1, ev s p.2)) = (parts.toList.map fun p => (p.1, ev s' p.2)) := by
    intro parts hp
    refine List.map_congr_left fun p hm => ?_
    rw [hp p.2 (by simp; exact ⟨p.1, by simpa using hm⟩)]
  have ma : ∀ (xs : Array Operand), (∀ x ∈ xs, ev s x = ev s' x) → xs.toList.map (ev s) = xs.toList.map (ev s') := by
    intro xs hp
    exact List.map_congr_left fun x hm => hp x (by simpa using hm)
  have mo : ∀ (o : Option Operand), (∀ x ∈ o.toArray, ev s x = ev s' x) → o.map (ev s) = o.map (ev s') := by
    intro o hp
    cases o with
    | none => rfl
    | some x => simp; exact hp x (by simp)
  cases op <;> simp only [aop]
  case move x => rw [h x (by simp [Op.operands])]
  case assign x => rw [h x (by simp [Op.operands])]
  case pick c a b => rw [h c (by simp [Op.operands]), h a (by simp [Op.operands]), h b (by simp [Op.operands])]
  case box e x => rw [h x (by simp [Op.operands])]
  case build t parts => rw [mp parts (by simpa [Op.operands] using h)]
  case buildSlice t n parts => rw [mp parts (by simpa [Op.operands] using h)]
  case load t a => rw [h a (by simp [Op.operands])]
  case store t a x => rw [h a (by simp [Op.operands]), h x (by simp [Op.operands])]
  case nilCheck x => rw [h x (by simp [Op.operands])]
  case binOp op t x y yt => rw [h x (by simp [Op.operands]), h y (by simp [Op.operands])]
  case unOp op t x => rw [h x (by simp [Op.operands])]
  case convert a b x => rw [h x (by simp [Op.operands])]
  case makeInterface t x => rw [h x (by simp [Op.operands])]
  case makeFunc f first cap => rw [ma first (fun x hx => h x (by simp [Op.operands, hx])), ma cap (fun x hx => h x (by simp [Op.operands, hx]))]
  case slice t x lo hi mx =>
    rw [h x (by simp [Op.operands]), mo lo (fun y hy => h y (by simp [Op.operands]; simp at hy; simp [hy])), mo hi (fun y hy => h y (by simp [Op.operands]; simp at hy; simp [hy])),
      mo mx (fun y hy => h y (by simp [Op.operands]; simp at hy; simp [hy]))]
  case range t x => rw [h x (by simp [Op.operands])]
  case next it str => rw [h it (by simp [Op.operands])]
  case entry it => rw [h it (by simp [Op.operands])]
  case makeSlice t l c => rw [h l (by simp [Op.operands]), h c (by simp [Op.operands])]
  case fieldAddr t x f => rw [h x (by simp [Op.operands])]
  case field t x f => rw [h x (by simp [Op.operands])]
  case indexAddr t x i => rw [h x (by simp [Op.operands]), h i (by simp [Op.operands])]
  case index t x i => rw [h x (by simp [Op.operands]), h i (by simp [Op.operands])]
  case extract x i => rw [h x (by simp [Op.operands])]
  case panic x => rw [h x (by simp [Op.operands])]
  case call c =>
    obtain ⟨callee, args, ats⟩ := c
    cases callee
    case builtin b =>
      show aBuiltin P σ b ats.toList (args.toList.map (ev s)) K = aBuiltin P σ b ats.toList (args.toList.map (ev s')) K
      rw [ma args (fun x hx => h x (by simp [Op.operands, Call.operands, hx]))]
    all_goals rfl

theorem gop_congr {ops : Array Oper} {n : Nat} {o : Oper} {s s' : Fr} {Kv Kp : AV → AS → Prop} (h : ∀ t ∈ o.looksAt ops, s t = s' t) : gop P ops n o s σ Kv Kp = gop P ops n o s' σ Kv Kp := by
  have hop : ∀ x ∈ o.op.operands, ev s x = ev s' x := by
    intro x hx
    cases x with
    | tmp t =>
      refine h t ?_
      unfold Oper.looksAt
      refine List.mem_append.2 (.inl ?_)
      rw [List.mem_filterMap]
      exact ⟨.tmp t, by simpa using hx, rfl⟩
    | _ => rfl
  have hg : ∀ j want, o.guard = some (j, want) → guardAV ops s j = guardAV ops s' j := by
    intro j want hg
    unfold guardAV
    cases hd : (ops[j]?).bind (·.dst) with
    | none => rfl
    | some d =>
      simp only
      refine h d ?_
      unfold Oper.looksAt
      refine List.mem_append.2 (.inr ?_)
      rw [hg]
      simp [hd]
  have hstep : runOp P o.op s σ Kv Kp = runOp P o.op s' σ Kv Kp := by
    obtain ⟨dst, op, ty, pos, after, guard⟩ := o
    simp only at hop ⊢
    unfold runOp
    cases op
    case call c =>
      obtain ⟨callee, args, ats⟩ := c
      cases callee
      case value f =>
        simp only
        rw [hop f (by simp [Op.operands, Call.operands])]
        congr 1
        exact List.map_congr_left fun x hm => hop x (by simp [Op.operands, Call.operands]; right; simpa using hm)
      all_goals exact aop_congr _ hop
    all_goals exact aop_congr _ hop
  unfold gop
  rw [hstep]
  cases hgd : o.guard with
  | none => rfl
  | some p =>
    obtain ⟨j, want⟩ := p
    simp only [hg j want hgd]

/-! ### monotony -/

theorem aParts_mono {t : TypeId} {K K' : List AV → Prop} (h : ∀ cs, K cs → K' cs) : ∀ (parts : List (Nat × AV)) (cs : List AV), aParts P t cs parts K → aParts P t cs parts K' := by
  intro parts
  induction parts with
  | nil => intro cs hh; exact h _ hh
  | cons p r ih =>
    intro cs hh
    obtain ⟨i, v⟩ := p
    simp only [aParts] at hh ⊢
    split
    · rename_i off n hp
      rw [hp] at hh
      exact ⟨hh.1, hh.2.1, hh.2.2.1, hh.2.2.2.1, ih _ hh.2.2.2.2⟩
    · rename_i hp
      rw [hp] at hh
      exact hh

theorem intOp_mono {op : BinOp} {k : IntKind} {a b : Int} {Q Q' : Value → Prop} (h : ∀ v, Q v → Q' v) (hh : intOp op k a b Q) : intOp op k a b Q' := by
  cases op <;> simp only [intOp] at hh ⊢ <;> first | exact h _ hh | exact ⟨hh.1, h _ hh.2⟩ | exact hh
theorem shOp_mono {op : BinOp} {k : IntKind} {a b : Int} {Q Q' : Value → Prop} (h : ∀ v, Q v → Q' v) (hh : shOp op k a b Q) : shOp op k a b Q' := by
  cases op <;> simp only [shOp] at hh ⊢ <;> first | exact ⟨hh.1, h _ hh.2⟩ | exact hh
theorem strOp_mono {op : BinOp} {a b : ByteArray} {Q Q' : Value → Prop} (h : ∀ v, Q v → Q' v) (hh : strOp op a b Q) : strOp op a b Q' := by
  cases op <;> simp only [strOp] at hh ⊢ <;> first | exact h _ hh | exact ⟨hh.1, h _ hh.2⟩ | exact hh

end Go.AW
