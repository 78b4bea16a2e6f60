/- A layer of abstract values over the model's machine: own work for this claim, part AwAuto. -/
import Derived.Test.YtnkjbgcbchbonaaAwInt
set_option linter.unusedSimpArgs false
set_option linter.unusedVariables false
namespace Go.AW
open Go Go.RowKit

variable {P : Program} {n : Nat} {ds : List Deferred} {Q : AQ} {s : Fr} {σ : AS}

/-! ## what a goal is -/

theorem aCall.id {fv : AV} {args : List AV} {K Kp : AV → AS → Prop} (h : aCall P fv args σ K Kp) : aCall P fv args σ K Kp := h
theorem pureCall.id {fv : AV} {args : List AV} {K : AV → Prop} (h : pureCall P fv args K) : pureCall P fv args K := h

/-- A fork, its condition as a value. -/
def condK (v : AV) (A B : Prop) : Prop := match v with | .sc (.bool true) => A | .sc (.bool false) => B | _ => False
@[simp ↓] theorem condK_t {A B : Prop} : condK (.sc (.bool true)) A B = A := rfl
@[simp ↓] theorem condK_f {A B : Prop} : condK (.sc (.bool false)) A B = B := rfl
@[congr] theorem condK_congr {v v' : AV} {A B : Prop} (h : v = v') : condK v A B = condK v' A B := by rw [h]
theorem AWp.fork {c : Operand} {x y : Code} (h : condK (ev s c) (AWp P n ds x Q s σ) (AWp P n ds y Q s σ)) : AWp P n ds (.cond c x y) Q s σ := by
  unfold condK at h
  split at h
  · rename_i hc; exact AWp.cond hc (fun _ => h) (fun e => by cases e)
  · rename_i hc; exact AWp.cond hc (fun e => by cases e) (fun _ => h)
  · exact h.elim
theorem condK.split {b : Bool} {A B : Prop} (h1 : b = true → A) (h2 : b = false → B) : condK (.sc (.bool b)) A B := by
  cases b
  · exact h2 rfl
  · exact h1 rfl

theorem guardK.split {o : Oper} {K : Fr → AS → Prop} {b want : Bool} (h1 : b = want → stepOp P n o s σ K Q) (h2 : b = !want → (match o.dst with | none => True | some d => d < n) ∧ K (s.put o.dst skipV) σ) :
    guardK P n o s σ K Q (.sc (.bool b)) want := by
  unfold guardK onGuard gYes gNo
  by_cases h : b = want
  · exact .inl ⟨by simp [h], h1 h⟩
  · exact .inr ⟨by simp [h], h2 (by cases b <;> cases want <;> simp_all)⟩
theorem pureG.split {f : AV} {as : List AV} {K : AV → Prop} {b want : Bool} (h1 : b = want → pureCall P f as K) (h2 : b = !want → K skipV) :
    pureG P f as K (.sc (.bool b)) want := by
  unfold pureG onGuard gYes gNo
  by_cases h : b = want
  · exact .inl ⟨by simp [h], h1 h⟩
  · exact .inr ⟨by simp [h], h2 (by cases b <;> cases want <;> simp_all)⟩

theorem wk_b {a b : Bool} (h : a = b) : AV.Wk P (.sc (.bool a)) (.sc (.bool b)) := h ▸ Wk.refl _
theorem wk_i {k : IntKind} {a b : Int} (h : a = b) : AV.Wk P (.sc (.int k a)) (.sc (.int k b)) := h ▸ Wk.refl _
theorem wk_eq {a b : AV} (h : a = b) : AV.Wk P a b := h ▸ Wk.refl _

theorem le_tok {σ0 σ : AS} {tk n m : Nat} (h : AS.le σ0 σ) (e : n = m) : AS.le (σ0.set tk (.tok n)) (σ.set tk (.tok m)) := by subst e; exact le_set2 h
theorem Wk_agg2 {a b a' b' : AV} (h1 : AV.Wk P a a') (h2 : AV.Wk P b b') : AV.Wk P (.agg [a, b]) (.agg [a', b']) := by
  intro G x h
  cases h with
  | agg vs l h =>
    refine .agg vs l fun i hi => ?_
    have := h i hi
    match i, hi with
    | 0, _ => exact h1 _ _ this
    | 1, _ => exact h2 _ _ this
/-- What a call hands back, told less of. -/
theorem ACalls.told {f : FuncId} {as : List AV} {σ σ1 : AS} {v v' : AV} (h : ACalls P f as σ (Gives v σ1) No) (hw : AV.Wk P v v') : ACalls P f as σ (Gives v' σ1) No :=
  ⟨h.body, fun G w vals hi hr => (h.run G w vals hi hr).mono fun e w' he => by
    unfold EndOk at he ⊢
    split at he
    · obtain ⟨G', σ', r, g1, g2, g3, rfl, rfl⟩ := he
      exact ⟨G', _, v', g1, g2, hw _ _ g3, rfl, rfl⟩
    · exact he
    · exact he⟩
@[simp] theorem bsz (l : List UInt8) : (⟨l.toArray⟩ : ByteArray).size = l.length := by simp [ByteArray.size]
/-- A list's place. -/
theorem at_lt {α : Type} (l : List α) {i : Nat} (h : i < l.length) : ∃ r, l[i]? = some r ∧ l.drop i = r :: l.drop (i + 1) ∧ r ∈ l ∧ l.take (i + 1) = l.take i ++ [r] :=
  ⟨l[i], List.getElem?_eq_getElem h, List.drop_eq_getElem_cons h, List.getElem_mem h, List.take_succ_eq_append_getElem h⟩
def i64v (n : Int) : AV := .sc (.int .i64 n)
theorem i64v_def (n : Int) : i64v n = .sc (.int .i64 n) := rfl
theorem wInc {i : Nat} (h : i < 4000000000000000000) : IntKind.i64.wrap ((i : Int) + 1) = ((i + 1 : Nat) : Int) := by rw [in_i64 (by omega) (by omega)]; simp

end Go.AW
