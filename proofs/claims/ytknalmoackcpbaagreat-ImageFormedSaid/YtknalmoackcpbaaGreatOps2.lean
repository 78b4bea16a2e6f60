/- Package ops: Of, Named, Many; the reference's Name, Of, Named. -/
import Derived.Test.YtknalmoackcpbaaGreatAwGo
import Derived.Test.YtknalmoackcpbaaGreatOps1
set_option linter.unusedSimpArgs false
set_option linter.unusedVariables false
set_option maxRecDepth 100000
set_option maxHeartbeats 3200000
namespace Go.Proofs.YtknalmoackcpbaaGreat
open Go Go.AW
theorem D0_XOps2 (S : List Nat) : Plans Tryz.prog [] S := mixed
theorem tab_out (op : Int) (h : op < 1 ∨ 75 < op) : ofT op = ([], 0, 0) := by
  unfold ofT
  repeat (rw [if_neg (by omega)])
  unfold sumsT
  repeat (rw [if_neg (by omega)])
  unfold jumpsT
  repeat (rw [if_neg (by omega)])
  unfold fieldsT
  repeat (rw [if_neg (by omega)])
  unfold othersT
  repeat (rw [if_neg (by omega)])
theorem tab_in : ∀ k : Fin 75, (ofT ((k.val : Int) + 1)).1 ≠ [] := by decide
def ofE (op : Int) : Int := if op < 1 ∨ 75 < op then 3 else 0
theorem str_nil (l : List UInt8) : ((⟨l.toArray⟩ : ByteArray) = ByteArray.empty) ↔ l = [] := by
  constructor
  · intro h
    have := congrArg (fun b : ByteArray => b.data.toList) h
    simpa using this
  · rintro rfl; rfl
theorem Of_ok (op : Int) (σ : AS) : ACalls Tryz.prog 176 [.sc (.int .i64 op)] σ (Gives (.tup [infV (ofT op), .sc (.int .i64 (ofE op))]) σ) No := by
  refine ACalls.of_body Tryz.func176 rfl rfl (by simp [Tryz.ntmps176]) ?_
  refine gO (D0_XOps2 []) True.intro True.intro (k := ?_)
  intro id hid
  by_cases h : op < 1 ∨ 75 < op
  · have h1 := tab_out op h
    repeat (first
      | (with_reducible first | apply AWp.seq | apply AWp.block | refine And.intro (by first | omega | assumption | decide) ?_)
      | ((first | (with_reducible first | apply AWp.fork | apply AWp.region | show condK _ _ _ | show guardK _ _ _ _ _ _ _ _ _) | ((with_reducible apply aCall.id); first | apply aCall.gives (of_ok _ _))); simp -implicitDefEqProofs [h1, infV])
      | ((with_reducible first | apply AWp.ret | apply AWp.skip | apply AWp.exit); try simp -implicitDefEqProofs [h1, infV]))
    intro id2 ne hid2
    have ne' : ¬ id = id2 := fun e => ne e.symm
    repeat (first
      | (with_reducible first | apply AWp.seq | apply AWp.block | refine And.intro (by first | omega | assumption | decide) ?_)
      | ((first | (with_reducible first | apply AWp.fork | apply AWp.region | show condK _ _ _ | show guardK _ _ _ _ _ _ _ _ _)); simp -implicitDefEqProofs [h1, infV, ne, ne'])
      | ((with_reducible first | apply AWp.ret | apply AWp.skip | apply AWp.exit); try simp -implicitDefEqProofs [h1, infV, ne, ne']))
    simp [ofE, h]
    all_goals (repeat (first | exact AS.le_refl _ | refine le_new (by simp [hid, hid2, ne, ne']) ?_))
  · have h1 : (ofT op).1 ≠ [] := by
      have := tab_in ⟨(op - 1).toNat, by omega⟩
      have e : (((op - 1).toNat : Nat) : Int) + 1 = op := by omega
      change (ofT ((((op - 1).toNat : Nat) : Int) + 1)).1 ≠ [] at this
      rwa [e] at this
    have h2 := str_nil (ofT op).1
    simp [h1] at h2
    repeat (first
      | (with_reducible first | apply AWp.seq | apply AWp.block | refine And.intro (by first | omega | assumption | decide) ?_)
      | ((first | (with_reducible first | apply AWp.fork | apply AWp.region | show condK _ _ _ | show guardK _ _ _ _ _ _ _ _ _) | ((with_reducible apply aCall.id); first | apply aCall.gives (of_ok _ _))); simp -implicitDefEqProofs [infV])
      | ((with_reducible first | apply AWp.ret | apply AWp.skip | apply AWp.exit); try simp -implicitDefEqProofs [infV]))
    intro id2 ne hid2
    have ne' : ¬ id = id2 := fun e => ne e.symm
    repeat (first
      | (with_reducible first | apply AWp.seq | apply AWp.block | refine And.intro (by first | omega | assumption | decide) ?_)
      | ((first | (with_reducible first | apply AWp.fork | apply AWp.region | show condK _ _ _ | show guardK _ _ _ _ _ _ _ _ _)); simp -implicitDefEqProofs [h1, h2, infV, ne, ne'])
      | ((with_reducible first | apply AWp.ret | apply AWp.skip | apply AWp.exit); try simp -implicitDefEqProofs [h1, h2, infV, ne, ne']))
    simp [ofE, h]
    all_goals (repeat (first | exact AS.le_refl _ | refine le_new (by simp [hid, hid2, ne, ne']) ?_))
end Go.Proofs.YtknalmoackcpbaaGreat
