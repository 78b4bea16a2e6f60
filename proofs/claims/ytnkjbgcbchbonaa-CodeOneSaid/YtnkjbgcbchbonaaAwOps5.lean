/- A layer of abstract values over the model's machine: own work for this claim, part AwOps5. -/
import Derived.Test.YtnkjbgcbchbonaaAwOps4
import Derived.Laws.StructEq
set_option linter.unusedSimpArgs false
set_option linter.unusedVariables false
namespace Go.AW
open Go Go.RowKit

variable {P : Program} {G : Gh} {σ : AS} {w : World} {K Pn : AV → AS → Prop}

theorem beqd {α : Type} [BEq α] [LawfulBEq α] [DecidableEq α] (a b : α) : (a == b) = decide (a = b) := by
  by_cases h : a = b
  · simp [h]
  · simp [h]

/-! ## arithmetic -/

def intOp (op : BinOp) (k : IntKind) (a b : Int) (K : Value → Prop) : Prop :=
  match op with
  | .add => K (.int k (k.wrap (a + b)))
  | .sub => K (.int k (k.wrap (a - b)))
  | .mul => K (.int k (k.wrap (a * b)))
  | .quo => b ≠ 0 ∧ K (.int k (k.wrap (a.tdiv b)))
  | .rem => b ≠ 0 ∧ K (.int k (a.tmod b))
  | .and => K (.int k (k.wrap (BitVec.ofInt k.bits a &&& BitVec.ofInt k.bits b).toNat))
  | .or => K (.int k (k.wrap (BitVec.ofInt k.bits a ||| BitVec.ofInt k.bits b).toNat))
  | .xor => K (.int k (k.wrap (BitVec.ofInt k.bits a ^^^ BitVec.ofInt k.bits b).toNat))
  | .andNot => K (.int k (k.wrap (BitVec.ofInt k.bits a &&& ~~~(BitVec.ofInt k.bits b)).toNat))
  | .eql => K (.bool (decide (a = b)))
  | .neq => K (.bool (decide (a ≠ b)))
  | .lss => K (.bool (a < b))
  | .leq => K (.bool (a ≤ b))
  | .gtr => K (.bool (b < a))
  | .geq => K (.bool (b ≤ a))
  | _ => False

def shOp (op : BinOp) (k : IntKind) (a b : Int) (K : Value → Prop) : Prop :=
  match op with
  | .shl => 0 ≤ b ∧ K (.int k (k.wrap (a * 2 ^ (min b.toNat k.bits))))
  | .shr => 0 ≤ b ∧ K (.int k (a.fdiv (2 ^ (min b.toNat k.bits))))
  | _ => False

def isShift : BinOp → Bool | .shl | .shr => true | _ => false

def strOp (op : BinOp) (a b : ByteArray) (K : Value → Prop) : Prop :=
  match op with
  | .eql => K (.bool (decide (a.data.toList = b.data.toList)))
  | .neq => K (.bool (decide (a.data.toList ≠ b.data.toList)))
  | .add => a.size + b.size ≤ 9223372036854775807 ∧ K (.string (a ++ b))
  | _ => False

mutual
/-- Are two values the same, by their type? -/
def eqAV (P : Program) : Nat → TypeId → AV → AV → Option Bool
  | 0, _, _, _ => none
  | d + 1, t, x, y => match x, y with
    | .sc (.int k a), .sc (.int k' b) => match P.underlying t with | some (.int _) => if k = k' then some (decide (a = b)) else none | _ => none
    | .sc (.bool a), .sc (.bool b) => match P.underlying t with | some .bool => some (a == b) | _ => none
    | .sc (.string a), .sc (.string b) => match P.underlying t with | some .string => some (decide (a.data.toList = b.data.toList)) | _ => none
    | .agg xs, .agg ys => match P.underlying t with | some (.struct fs) => if P.stoodInHeld t then none else eqFs P d fs.toList xs ys | _ => none
    | _, _ => none
def eqFs (P : Program) : Nat → List Field → List AV → List AV → Option Bool
  | _, [], _, _ => some true
  | d, f :: fs, xs, ys => if f.name = "_" then none else
    match lkT P f.type with
    | .one => if f.offset < xs.length ∧ f.offset < ys.length then
        match eqAV P d f.type (xs.getD f.offset .any) (ys.getD f.offset .any), eqFs P d fs xs ys with
        | some r, some r' => some (r && r')
        | _, _ => none
      else none
    | .agg n => if n ≠ 0 ∧ f.offset + n ≤ xs.length ∧ f.offset + n ≤ ys.length then
        match eqAV P d f.type (.agg ((xs.drop f.offset).take n)) (.agg ((ys.drop f.offset).take n)), eqFs P d fs xs ys with
        | some r, some r' => some (r && r')
        | _, _ => none
      else none
    | .bad => none
end

theorem part_ok {t : TypeId} {xs : List AV} {vs : Array Value} {off : Nat} (h : RepCells P G xs vs) :
    (lkT P t = .one → off < xs.length → (part t vs off).run P w = .ok (vs.getD off undef) w ∧ Rep P G (xs.getD off .any) (vs.getD off undef)) ∧
    (∀ n, lkT P t = .agg n → n ≠ 0 → off + n ≤ xs.length → ∃ v, (part t vs off).run P w = .ok v w ∧ Rep P G (.agg ((xs.drop off).take n)) v) := by
  constructor
  · intro hl ho
    obtain ⟨k1, k2⟩ := lkT_one (w := w) hl
    have hlt : off < vs.size := by rw [h.1]; exact ho
    refine ⟨?_, h.2 off ho⟩
    simp [part, k1, hlt]
  · intro n hl hn ho
    obtain ⟨k1, k2⟩ := lkT_agg (w := w) hl
    obtain ⟨i, hinf, hsz, _⟩ := info_of_cells (P := P) (t := t) (by omega)
    have h1 := h.1
    refine ⟨.agg ((vs.toList.drop off).take n).toArray, ?_, .agg _ (by simp; omega) (fun k hk => ?_)⟩
    · have e1 : vs.extract off (off + i.size) = ((vs.toList.drop off).take n).toArray := by
        have : off + i.size - off = n := by omega
        apply Array.ext'
        simp [this]
      simp [part, k1, sizeOf, run_typeInfo w hinf, e1]
    · have hkn : k < n := by simp at hk; omega
      have := h.2 (off + k) (by omega)
      simp only [List.getD_eq_getElem?_getD] at this ⊢
      rw [List.getElem?_take_of_lt hkn, List.getElem?_take_of_lt hkn, List.getElem?_drop, List.getElem?_drop]
      simpa using this

theorem eq_ok : ∀ (d : Nat), (∀ (t : TypeId) (x y : AV) (r : Bool) (vx vy : Value) (D : Nat), d ≤ D → eqAV P d t x y = some r → Rep P G x vx → Rep P G y vy → (Op.equalIn D t vx vy).run P w = .ok r w) ∧
    (∀ (fs : List Field) (xs ys : List AV) (r : Bool) (vx vy : Array Value) (D : Nat), d ≤ D → eqFs P d fs xs ys = some r → RepCells P G xs vx → RepCells P G ys vy → (Op.eqFields D vx vy fs).run P w = .ok r w) := by
  intro d
  induction d with
  | zero =>
    refine ⟨fun t x y r vx vy D _ h _ _ => by simp [eqAV] at h, fun fs => ?_⟩
    induction fs with
    | nil => intro xs ys r vx vy D _ h _ _; simp [eqFs] at h; subst h; simp [Op.eqFields]
    | cons f fs ih =>
      intro xs ys r vx vy D _ h _ _
      simp only [eqFs] at h
      split at h
      · cases h
      · split at h <;> (try (split at h)) <;> (try cases h) <;> (split at h <;> first | (rename_i h1 h2; simp [eqAV] at h1) | cases h)
  | succ d ih =>
    have hA : ∀ (t : TypeId) (x y : AV) (r : Bool) (vx vy : Value) (D : Nat), d + 1 ≤ D → eqAV P (d + 1) t x y = some r → Rep P G x vx → Rep P G y vy → (Op.equalIn D t vx vy).run P w = .ok r w := by
      intro t x y r vx vy D hD h hx hy
      obtain ⟨D', rfl⟩ : ∃ D', D = D' + 1 := ⟨D - 1, by omega⟩
      unfold eqAV at h
      split at h
      · cases hx; cases hy
        split at h
        · rename_i k1 a k2 b q hu
          split at h
          · rename_i hk; subst hk; cases h; rw [run_equalIn_int w D' t _ _ _ _ hu, beqd]
          · cases h
        · cases h
      · cases hx; cases hy
        split at h
        · rename_i hu; cases h; exact run_equalIn_bool' w D' t _ _ hu
        · cases h
      · cases hx; cases hy
        split at h
        · rename_i hu
          cases h
          rw [run_equalIn_string w D' t _ _ hu, ByteArray.toList_eq, ByteArray.toList_eq, beqd]
        · cases h
      · cases hx with
        | agg vs1 l1 h1 =>
          cases hy with
          | agg vs2 l2 h2 =>
            split at h
            · rename_i fs hu
              split at h
              · cases h
              · rename_i hst
                have hf : P.fieldsOf t = fs := by simp [Program.fieldsOf, hu]
                rw [run_equalIn_agg w D' t _ _ (by rw [hf]; exact hu) (by simpa using hst), hf]
                exact ih.2 fs.toList _ _ r _ _ D' (by omega) h ⟨by simpa using l1, fun k hk => by have := h1 k hk; simpa [List.getD_eq_getElem?_getD] using this⟩
                  ⟨by simpa using l2, fun k hk => by have := h2 k hk; simpa [List.getD_eq_getElem?_getD] using this⟩
            · cases h
      · cases h
    refine ⟨hA, fun fs => ?_⟩
    induction fs with
    | nil => intro xs ys r vx vy D _ h _ _; simp [eqFs] at h; subst h; simp [Op.eqFields]
    | cons f fs ihf =>
      intro xs ys r vx vy D hD h hx hy
      simp only [eqFs] at h
      split at h
      · cases h
      · rename_i hn
        have fin : ∀ (r1 r2 : Bool) (a b : Value), (part f.type vx f.offset).run P w = .ok a w → (part f.type vy f.offset).run P w = .ok b w → (Op.equalIn D f.type a b).run P w = .ok r1 w → eqFs P (d + 1) fs xs ys = some r2 → r = (r1 && r2) →
            (Op.eqFields D vx vy (f :: fs)).run P w = .ok r w := by
          intro r1 r2 a b p1 p2 p3 p4 p5
          have p6 := ihf xs ys r2 vx vy D hD p4 hx hy
          simp only [Op.eqFields, ne_eq, hn, not_false_eq_true, if_true, Sem.run_bind, p1, p2, p3, Result.andThen_ok]
          cases r1
          · simp [p5]
          · simp [p5, p6]
        split at h
        · rename_i hl
          split at h
          · rename_i hlt
            split at h
            · rename_i r1 r2 e1 e2
              cases h
              obtain ⟨q1, q2⟩ := (part_ok (w := w) hx).1 hl hlt.1
              obtain ⟨q3, q4⟩ := (part_ok (w := w) hy).1 hl hlt.2
              exact fin r1 r2 _ _ q1 q3 (hA _ _ _ _ _ _ D hD e1 q2 q4) e2 rfl
            · cases h
          · cases h
        · rename_i n hl
          split at h
          · rename_i hlt
            split at h
            · rename_i r1 r2 e1 e2
              cases h
              obtain ⟨v1, q1, q2⟩ := (part_ok (w := w) hx).2 n hl hlt.1 hlt.2.1
              obtain ⟨v2, q3, q4⟩ := (part_ok (w := w) hy).2 n hl hlt.1 hlt.2.2
              exact fin r1 r2 _ _ q1 q3 (hA _ _ _ _ _ _ D hD e1 q2 q4) e2 rfl
            · cases h
          · cases h
        · cases h

end Go.AW
