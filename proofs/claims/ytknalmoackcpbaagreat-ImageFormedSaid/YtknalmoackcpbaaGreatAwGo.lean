/- A layer of abstract values over the model's machine: own work for this claim, part AwGo. -/
import Derived.Test.YtknalmoackcpbaaGreatAwLink
import Derived.Test.YtknalmoackcpbaaGreatAwMut
set_option linter.unusedSimpArgs false
set_option linter.unusedVariables false
namespace Go.AW
open Go Go.RowKit
variable {P : Program} {n : Nat} {ds : List Deferred} {Q : AQ} {s : Fr} {σ : AS}
/-! ## steps by one word: what is handed over are the plans of regions that draw, where to stop, facts, contracts -/
structure Keep (p : Prop) : Prop where
  out : p
def Plans (P : Program) (L : List (Nat × Sch)) (S : List Nat) : Prop := P.follows .mixedOrders = true
def lookS (id : Nat) : List (Nat × Sch) → Option Sch
  | [] => none
  | (k, t) :: r => if k = id then some t else lookS id r
theorem AWp.drawL {L : List (Nat × Sch)} {S : List Nat} (d : Plans P L S) {id : Nat} {l : List Oper} {t : Sch} (ht : lookS id L = some t) (hs : S.contains id = false)
    (hok : okSch l.toArray false true (Array.replicate l.length false) t = true) (hd : decide (t.depth ≤ l.length) = true)
    (hQ : PanQ Q) (h : runSch P n l.toArray false Q t s σ) : AWp P n ds (.region id l.toArray true) Q s σ := AWp.drawS d t hok hd hQ h
theorem AWp.regionL {L : List (Nat × Sch)} {S : List Nat} (d : Plans P L S) {id : Nat} {l : List Oper} (hs : S.contains id = false) (h : awpOps P n l.toArray Q l s σ) : AWp P n ds (.region id l.toArray false) Q s σ := AWp.region h
theorem j2 {p0 p1 : Prop} (h0 : p0) (h1 : p1) : p0 ∧ p1 := ⟨h0, h1⟩
theorem j3 {p0 p1 p2 : Prop} (h0 : p0) (h1 : p1) (h2 : p2) : p0 ∧ p1 ∧ p2 := ⟨h0, h1, h2⟩
theorem j4 {p0 p1 p2 p3 : Prop} (h0 : p0) (h1 : p1) (h2 : p2) (h3 : p3) : p0 ∧ p1 ∧ p2 ∧ p3 := ⟨h0, h1, h2, h3⟩
theorem j5 {p0 p1 p2 p3 p4 : Prop} (h0 : p0) (h1 : p1) (h2 : p2) (h3 : p3) (h4 : p4) : p0 ∧ p1 ∧ p2 ∧ p3 ∧ p4 := ⟨h0, h1, h2, h3, h4⟩
theorem j6 {p0 p1 p2 p3 p4 p5 : Prop} (h0 : p0) (h1 : p1) (h2 : p2) (h3 : p3) (h4 : p4) (h5 : p5) : p0 ∧ p1 ∧ p2 ∧ p3 ∧ p4 ∧ p5 := ⟨h0, h1, h2, h3, h4, h5⟩
theorem j7 {p0 p1 p2 p3 p4 p5 p6 : Prop} (h0 : p0) (h1 : p1) (h2 : p2) (h3 : p3) (h4 : p4) (h5 : p5) (h6 : p6) : p0 ∧ p1 ∧ p2 ∧ p3 ∧ p4 ∧ p5 ∧ p6 := ⟨h0, h1, h2, h3, h4, h5, h6⟩
theorem j8 {p0 p1 p2 p3 p4 p5 p6 p7 : Prop} (h0 : p0) (h1 : p1) (h2 : p2) (h3 : p3) (h4 : p4) (h5 : p5) (h6 : p6) (h7 : p7) : p0 ∧ p1 ∧ p2 ∧ p3 ∧ p4 ∧ p5 ∧ p6 ∧ p7 := ⟨h0, h1, h2, h3, h4, h5, h6, h7⟩
theorem gE {L : List (Nat × Sch)} {S : List Nat} {F C G : Prop} (d : Plans P L S) (f : F) (c : C) (h : Plans P L S → F → C → G := by
    intro d f c
    repeat (first
      | (with_reducible first | apply AWp.seq | apply AWp.block | refine And.intro (by first | omega | assumption | decide) ?_)
      | ((first
          | (with_reducible apply AWp.fork)
          | ((with_reducible apply AWp.regionL d); rfl)
          | (with_reducible first | show condK _ _ _ | show guardK _ _ _ _ _ _ _ _ _)
          | ((with_reducible apply AWp.drawL d); rfl; rfl; kernel_rfl; kernel_rfl; (repeat (with_reducible first | apply PanQ.then | apply PanQ.block | apply PanQ.body | apply PanQ.no)))
          | ((with_reducible apply aCall.id); first
              | refine aCall.gives (by first | exact c .. | (apply c <;> simp -implicitDefEqProofs [f]; done)) ?_
              | refine aCall.gives (by first | exact c.1 .. | (apply c.1 <;> simp -implicitDefEqProofs [f]; done)) ?_
              | refine aCall.gives (by first | exact c.2 .. | (apply c.2 <;> simp -implicitDefEqProofs [f]; done)) ?_
              | refine aCall.gives (by first | exact c.2.1 .. | (apply c.2.1 <;> simp -implicitDefEqProofs [f]; done)) ?_
              | refine aCall.gives (by first | exact c.2.2 .. | (apply c.2.2 <;> simp -implicitDefEqProofs [f]; done)) ?_
              | refine aCall.gives (by first | exact c.2.2.1 .. | (apply c.2.2.1 <;> simp -implicitDefEqProofs [f]; done)) ?_
              | refine aCall.gives (by first | exact c.2.2.2 .. | (apply c.2.2.2 <;> simp -implicitDefEqProofs [f]; done)) ?_
              | refine aCall.owns (by first | exact c .. | (apply c <;> simp -implicitDefEqProofs [f]; done)) ?_
              | refine aCall.owns (by first | exact c.1 .. | (apply c.1 <;> simp -implicitDefEqProofs [f]; done)) ?_
              | refine aCall.owns (by first | exact c.2 .. | (apply c.2 <;> simp -implicitDefEqProofs [f]; done)) ?_
              | refine aCall.owns (by first | exact c.2.1 .. | (apply c.2.1 <;> simp -implicitDefEqProofs [f]; done)) ?_
              | refine aCall.owns (by first | exact c.2.2 .. | (apply c.2.2 <;> simp -implicitDefEqProofs [f]; done)) ?_
              | refine aCall.owns (by first | exact c.2.2.1 .. | (apply c.2.2.1 <;> simp -implicitDefEqProofs [f]; done)) ?_
              | refine aCall.owns (by first | exact c.2.2.2 .. | (apply c.2.2.2 <;> simp -implicitDefEqProofs [f]; done)) ?_)
          | ((with_reducible apply pureCall.id); first
              | refine pureCall.gives (fun _ => by first | exact c .. | (apply c <;> simp -implicitDefEqProofs [f]; done)) ?_
              | refine pureCall.gives (fun _ => by first | exact c.1 .. | (apply c.1 <;> simp -implicitDefEqProofs [f]; done)) ?_
              | refine pureCall.gives (fun _ => by first | exact c.2 .. | (apply c.2 <;> simp -implicitDefEqProofs [f]; done)) ?_
              | refine pureCall.gives (fun _ => by first | exact c.2.1 .. | (apply c.2.1 <;> simp -implicitDefEqProofs [f]; done)) ?_
              | refine pureCall.gives (fun _ => by first | exact c.2.2 .. | (apply c.2.2 <;> simp -implicitDefEqProofs [f]; done)) ?_
              | refine pureCall.gives (fun _ => by first | exact c.2.2.1 .. | (apply c.2.2.1 <;> simp -implicitDefEqProofs [f]; done)) ?_
              | refine pureCall.gives (fun _ => by first | exact c.2.2.2 .. | (apply c.2.2.2 <;> simp -implicitDefEqProofs [f]; done)) ?_)
          ); simp -implicitDefEqProofs [f])
      | ((with_reducible first | apply AWp.ret | apply AWp.skip | apply AWp.exit); try simp -implicitDefEqProofs [f]))
    all_goals fail) : G := h d f c
theorem gO {L : List (Nat × Sch)} {S : List Nat} {F C G R : Prop} (d : Plans P L S) (f : F) (c : C) (h : Plans P L S → F → C → Keep R → G := by
    intro d f c k
    repeat (first
      | (with_reducible first | apply AWp.seq | apply AWp.block | refine And.intro (by first | omega | assumption | decide) ?_)
      | ((first
          | (with_reducible apply AWp.fork)
          | ((with_reducible apply AWp.regionL d); rfl)
          | (with_reducible first | show condK _ _ _ | show guardK _ _ _ _ _ _ _ _ _)
          | ((with_reducible apply AWp.drawL d); rfl; rfl; kernel_rfl; kernel_rfl; (repeat (with_reducible first | apply PanQ.then | apply PanQ.block | apply PanQ.body | apply PanQ.no)))
          | ((with_reducible apply aCall.id); first
              | refine aCall.gives (by first | exact c .. | (apply c <;> simp -implicitDefEqProofs [f]; done)) ?_
              | refine aCall.gives (by first | exact c.1 .. | (apply c.1 <;> simp -implicitDefEqProofs [f]; done)) ?_
              | refine aCall.gives (by first | exact c.2 .. | (apply c.2 <;> simp -implicitDefEqProofs [f]; done)) ?_
              | refine aCall.gives (by first | exact c.2.1 .. | (apply c.2.1 <;> simp -implicitDefEqProofs [f]; done)) ?_
              | refine aCall.gives (by first | exact c.2.2 .. | (apply c.2.2 <;> simp -implicitDefEqProofs [f]; done)) ?_
              | refine aCall.gives (by first | exact c.2.2.1 .. | (apply c.2.2.1 <;> simp -implicitDefEqProofs [f]; done)) ?_
              | refine aCall.gives (by first | exact c.2.2.2 .. | (apply c.2.2.2 <;> simp -implicitDefEqProofs [f]; done)) ?_
              | refine aCall.owns (by first | exact c .. | (apply c <;> simp -implicitDefEqProofs [f]; done)) ?_
              | refine aCall.owns (by first | exact c.1 .. | (apply c.1 <;> simp -implicitDefEqProofs [f]; done)) ?_
              | refine aCall.owns (by first | exact c.2 .. | (apply c.2 <;> simp -implicitDefEqProofs [f]; done)) ?_
              | refine aCall.owns (by first | exact c.2.1 .. | (apply c.2.1 <;> simp -implicitDefEqProofs [f]; done)) ?_
              | refine aCall.owns (by first | exact c.2.2 .. | (apply c.2.2 <;> simp -implicitDefEqProofs [f]; done)) ?_
              | refine aCall.owns (by first | exact c.2.2.1 .. | (apply c.2.2.1 <;> simp -implicitDefEqProofs [f]; done)) ?_
              | refine aCall.owns (by first | exact c.2.2.2 .. | (apply c.2.2.2 <;> simp -implicitDefEqProofs [f]; done)) ?_)
          | ((with_reducible apply pureCall.id); first
              | refine pureCall.gives (fun _ => by first | exact c .. | (apply c <;> simp -implicitDefEqProofs [f]; done)) ?_
              | refine pureCall.gives (fun _ => by first | exact c.1 .. | (apply c.1 <;> simp -implicitDefEqProofs [f]; done)) ?_
              | refine pureCall.gives (fun _ => by first | exact c.2 .. | (apply c.2 <;> simp -implicitDefEqProofs [f]; done)) ?_
              | refine pureCall.gives (fun _ => by first | exact c.2.1 .. | (apply c.2.1 <;> simp -implicitDefEqProofs [f]; done)) ?_
              | refine pureCall.gives (fun _ => by first | exact c.2.2 .. | (apply c.2.2 <;> simp -implicitDefEqProofs [f]; done)) ?_
              | refine pureCall.gives (fun _ => by first | exact c.2.2.1 .. | (apply c.2.2.1 <;> simp -implicitDefEqProofs [f]; done)) ?_
              | refine pureCall.gives (fun _ => by first | exact c.2.2.2 .. | (apply c.2.2.2 <;> simp -implicitDefEqProofs [f]; done)) ?_)
          ); simp -implicitDefEqProofs [f])
      | ((with_reducible first | apply AWp.ret | apply AWp.skip | apply AWp.exit); try simp -implicitDefEqProofs [f]))
    exact k.out) (k : R) : G := h d f c ⟨k⟩
end Go.AW
