/- A layer of abstract values over the model's machine: own work for this claim, part AwAuto. -/
import Derived.Test.YtplphldpkliakaaAwInt
set_option linter.unusedSimpArgs false
set_option linter.unusedVariables false
namespace Go.AW
open Go Go.RowKit

variable {P : Program} {n : Nat} {ds : List Deferred} {Q : AQ} {s : Fr} {σ : AS}

/-! ## what a goal is -/

theorem aCall.id {fv : AV} {args : List AV} {K Kp : AV → AS → Prop} (h : aCall P fv args σ K Kp) : aCall P fv args σ K Kp := h
theorem pureCall.id {fv : AV} {args : List AV} {K : AV → Prop} (h : pureCall P fv args K) : pureCall P fv args K := h

/-- A fork, its condition as a value. -/
def condK (v : AV) (A B : Prop) : Prop := match v with | .sc (.bool true) => A | .sc (.bool false) => B | _ => False
@[simp ↓] theorem condK_t {A B : Prop} : condK (.sc (.bool true)) A B = A := rfl
@[simp ↓] theorem condK_f {A B : Prop} : condK (.sc (.bool false)) A B = B := rfl
@[congr] theorem condK_congr {v v' : AV} {A B : Prop} (h : v = v') : condK v A B = condK v' A B := by rw [h]
theorem AWp.fork {c : Operand} {x y : Code} (h : condK (ev s c) (AWp P n ds x Q s σ) (AWp P n ds y Q s σ)) : AWp P n ds (.cond c x y) Q s σ := by
  unfold condK at h
  split at h
  · rename_i hc; exact AWp.cond hc (fun _ => h) (fun e => by cases e)
  · rename_i hc; exact AWp.cond hc (fun e => by cases e) (fun _ => h)
  · exact h.elim
theorem condK.split {b : Bool} {A B : Prop} (h1 : b = true → A) (h2 : b = false → B) : condK (.sc (.bool b)) A B := by
  cases b
  · exact h2 rfl
  · exact h1 rfl

theorem guardK.split {o : Oper} {K : Fr → AS → Prop} {b want : Bool} (h1 : b = want → stepOp P n o s σ K Q) (h2 : b = !want → (match o.dst with | none => True | some d => d < n) ∧ K (s.put o.dst skipV) σ) :
    guardK P n o s σ K Q (.sc (.bool b)) want := by
  unfold guardK onGuard gYes gNo
  by_cases h : b = want
  · exact .inl ⟨by simp [h], h1 h⟩
  · exact .inr ⟨by simp [h], h2 (by cases b <;> cases want <;> simp_all)⟩
theorem pureG.split {f : AV} {as : List AV} {K : AV → Prop} {b want : Bool} (h1 : b = want → pureCall P f as K) (h2 : b = !want → K skipV) :
    pureG P f as K (.sc (.bool b)) want := by
  unfold pureG onGuard gYes gNo
  by_cases h : b = want
  · exact .inl ⟨by simp [h], h1 h⟩
  · exact .inr ⟨by simp [h], h2 (by cases b <;> cases want <;> simp_all)⟩

theorem wk_b {a b : Bool} (h : a = b) : AV.Wk P (.sc (.bool a)) (.sc (.bool b)) := h ▸ Wk.refl _
theorem wk_i {k : IntKind} {a b : Int} (h : a = b) : AV.Wk P (.sc (.int k a)) (.sc (.int k b)) := h ▸ Wk.refl _
theorem wk_eq {a b : AV} (h : a = b) : AV.Wk P a b := h ▸ Wk.refl _

end Go.AW
