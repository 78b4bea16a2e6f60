/- Chapter 03: StreamsBack, StreamsPlain as walks. -/
import Derived.Test.YthpmabablfkekaaStrA
set_option linter.unusedSimpArgs false
set_option linter.unusedVariables false
set_option maxRecDepth 100000
set_option maxHeartbeats 3200000
namespace Go.Proofs.Ythpmabablfkekaa
open Go Go.AW

theorem joinL_short {s : Nat → List UInt8} (hs : ∀ k, k < 4 → (s k).length ≤ 4000) : (joinL s).length ≤ 140737488355328 := by
  have := (joinL_held hs).big
  omega

theorem streamsBack_ok (a0 a1 a2 a3 : List UInt8 × Bool) :
    ACalls Try.prog 5 [stO a0 a1 a2 a3 .unk .unk .unk .unk] noAS IsTrue No := by
  have hw := fun σ => swakes_ok σ
  have hlg := fun σ => slong_ok a0 a1 a2 a3 .unk .unk .unk .unk σ
  cases hL : longS a0 a1 a2 a3 with
  | true =>
    rw [hL] at hlg
    simp only [stO, sO] at hlg ⊢
    refine ACalls.of_body Try.func5 rfl rfl (by simp [Try.ntmps5]) ?_
    repeat (first
      | (with_reducible first | apply AWp.seq | apply AWp.block | refine And.intro (by first | omega | assumption | decide) ?_)
      | ((first | (with_reducible first | apply AWp.fork | apply AWp.region)); simp -implicitDefEqProofs)
      | ((with_reducible first | apply AWp.ret | apply AWp.skip | apply AWp.exit); try simp -implicitDefEqProofs))
    intro id1 h_id1
    repeat (first
      | (with_reducible first | apply AWp.seq | apply AWp.block | refine And.intro (by first | omega | assumption | decide) ?_)
      | ((first | (with_reducible first | apply AWp.fork | apply AWp.region) | ((with_reducible apply aCall.id); first | apply aCall.gives (hw _) | apply aCall.gives (hlg _))); simp -implicitDefEqProofs)
      | ((with_reducible first | apply AWp.ret | apply AWp.skip | apply AWp.exit); try simp -implicitDefEqProofs))
  | false =>
    rw [hL] at hlg
    obtain ⟨l0, l1, l2, l3⟩ := longS_no hL
    have hcp := fun σ => scopied_ok a0 a1 a2 a3 .unk .unk .unk .unk l0 l1 l2 l3 σ
    have hl1 : ∀ j, (nth4 (a0.1, false) (a1.1, false) (a2.1, false) (a3.1, false) j).1.length ≤ 4000 := fun j => by unfold nth4; split <;> simp only <;> omega
    have hl2 : ∀ j, (nth4 a0 a1 a2 a3 j).1.length ≤ 4000 := fun j => by unfold nth4; split <;> omega
    have hj := fun σ => join_ok (a0.1, false) (a1.1, false) (a2.1, false) (a3.1, false) .unk .unk .unk .unk hl1 σ
    have hfe : (fun k => (nth4 (a0.1, false) (a1.1, false) (a2.1, false) (a3.1, false) k).1) = (fun k => (nth4 a0 a1 a2 a3 k).1) := by
      funext k; unfold nth4; split <;> rfl
    rw [hfe] at hj
    have hJs := split_join (s := fun k => (nth4 a0 a1 a2 a3 k).1) (fun k _ => hl2 k)
    have hJl := joinL_short (s := fun k => (nth4 a0 a1 a2 a3 k).1) (fun k _ => hl2 k)
    generalize hJ : joinL (fun k => (nth4 a0 a1 a2 a3 k).1) = J at hj hJs hJl
    have hsp := fun tk σ => split_ok J (.tok tk) false (by simp) σ hJl
    rw [hJs] at hsp
    have hss := fun σ => ssame_ok a0 a1 a2 a3 (a0.1, false) (a1.1, false) (a2.1, false) (a3.1, false) .unk .unk .unk .unk .unk .unk .unk .unk (fun j => by have := hl2 j; omega) σ
    rw [show eqS a0 a1 a2 a3 (a0.1, false) (a1.1, false) (a2.1, false) (a3.1, false) = true by simp [eqS]] at hss
    simp only [stO, sO, strV, List.map_cons, List.map_nil, sV, RS, outS, nth4] at hlg hcp hj hsp hss ⊢
    refine ACalls.of_body Try.func5 rfl rfl (by simp [Try.ntmps5]) ?_
    repeat (first
      | (with_reducible first | apply AWp.seq | apply AWp.block | refine And.intro (by first | omega | assumption | decide) ?_)
      | ((first | (with_reducible first | apply AWp.fork | apply AWp.region)); simp -implicitDefEqProofs)
      | ((with_reducible first | apply AWp.ret | apply AWp.skip | apply AWp.exit); try simp -implicitDefEqProofs))
    intro id1 h_id1
    repeat (first
      | (with_reducible first | apply AWp.seq | apply AWp.block | refine And.intro (by first | omega | assumption | decide) ?_)
      | ((first | (with_reducible first | apply AWp.fork | apply AWp.region) | ((with_reducible apply aCall.id); first | apply aCall.gives (hw _) | apply aCall.gives (hlg _) | apply aCall.gives (hcp _) | apply aCall.owns (hj _))); simp -implicitDefEqProofs)
      | ((with_reducible first | apply AWp.ret | apply AWp.skip | apply AWp.exit); try simp -implicitDefEqProofs))
    intro t1 n_t1_id1 h_t1
    have n_id1_t1 : ¬ id1 = t1 := fun e => n_t1_id1 e.symm
    repeat (first
      | (with_reducible first | apply AWp.seq | apply AWp.block | refine And.intro (by first | omega | assumption | decide) ?_)
      | ((first | (with_reducible first | apply AWp.fork | apply AWp.region | show condK _ _ _ | show guardK _ _ _ _ _ _ _ _ _) | ((with_reducible apply aCall.id); first | apply aCall.gives (hsp _ _))); simp -implicitDefEqProofs [n_t1_id1, n_id1_t1])
      | ((with_reducible first | apply AWp.ret | apply AWp.skip | apply AWp.exit); try simp -implicitDefEqProofs [n_t1_id1, n_id1_t1]))
    intro id5 n_id5_t1 n_id5_id1 h_id5
    have n_t1_id5 : ¬ t1 = id5 := fun e => n_id5_t1 e.symm
    have n_id1_id5 : ¬ id1 = id5 := fun e => n_id5_id1 e.symm
    repeat (first
      | (with_reducible first | apply AWp.seq | apply AWp.block | refine And.intro (by first | omega | assumption | decide) ?_)
      | ((first | (with_reducible first | apply AWp.fork | apply AWp.region | show condK _ _ _ | show guardK _ _ _ _ _ _ _ _ _) | ((with_reducible apply aCall.id); first | apply aCall.gives (hss _))); simp -implicitDefEqProofs [n_t1_id1, n_id1_t1, n_id5_t1, n_t1_id5, n_id5_id1, n_id1_id5])
      | ((with_reducible first | apply AWp.ret | apply AWp.skip | apply AWp.exit); try simp -implicitDefEqProofs [n_t1_id1, n_id1_t1, n_id5_t1, n_t1_id5, n_id5_id1, n_id1_id5]))

end Go.Proofs.Ythpmabablfkekaa
