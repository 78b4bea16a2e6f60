/- Package sigs: what is written of a type. -/
import Derived.Test.YtplphldpkliakaaSig8
import Derived.Test.YtplphldpkliakaaSig2
import Derived.Test.YtplphldpkliakaaRows1
import Derived.Test.YtplphldpkliakaaOct3
set_option linter.unusedSimpArgs false
set_option linter.unusedVariables false
set_option maxRecDepth 100000
set_option maxHeartbeats 3200000
namespace Go.Proofs.Ytplphldpkliakaa
namespace Sg
open Go Go.AW

theorem put_tok (l : List UInt8) (tk0 : Nat) (nl : Bool) (hnl : nl = true → l = []) (hl : l.length ≤ 1000) (t : Ty) (ht : plainT t = true) (σ : AS) (h0 : σ tk0 = none) :
    ACalls Try.prog 45 [.lst 5 (l.map u8) (.tok tk0) nl, tyV t] (σ.set tk0 (.tok l.length))
      (Owns (fun tk => .lst 5 ((l ++ tyB t).map u8) (.tok tk) false) (l ++ tyB t).length σ) No := by
  obtain ⟨d0, d3, x0, hk⟩ := plain_cases ht
  obtain ⟨k, x, d, rf⟩ := t
  simp only at d0 d3 x0 hk
  obtain ⟨n, rfl⟩ : ∃ n : Nat, d = n := ⟨d.toNat, by omega⟩
  have hrep := fun σ => repeat_ok 29 .full n (by omega) σ
  have hn3 : n ≤ 3 := by omega
  cases rf
  · rcases hk with ⟨rfl, _, h, rfl⟩ | ⟨rfl, rfl⟩ | ⟨rfl, rfl⟩ | ⟨rfl, rfl⟩ | ⟨rfl, hi⟩ | ⟨rfl, hi⟩ | ⟨rfl, hi⟩
    · have hB : tyB { kind := 1, index := 0, dims := n, ref := false } = (List.replicate n 29 ++ [1]) := by simp [tyB, kdB]
      rw [hB]
      refine ACalls.of_body Try.func45 rfl rfl (by simp [Try.ntmps45]) ?_
      simp only [tyV]
      repeat (first
        | (with_reducible first | apply AWp.seq | apply AWp.block | refine And.intro (by first | omega | assumption | decide) ?_)
        | ((first | (with_reducible first | apply AWp.fork | apply AWp.region | show condK _ _ _ | show guardK _ _ _ _ _ _ _ _ _)); simp -implicitDefEqProofs [hl])
        | ((with_reducible first | apply AWp.ret | apply AWp.skip | apply AWp.exit); try simp -implicitDefEqProofs [hl]))
      intro id n_id_tk0 h_id
      have n_tk0_id : ¬ tk0 = id := fun e => n_id_tk0 e.symm
      repeat (first
        | (with_reducible first | apply AWp.seq | apply AWp.block | refine And.intro (by first | omega | assumption | decide) ?_)
        | ((first | (with_reducible first | apply AWp.fork | apply AWp.region | show condK _ _ _ | show guardK _ _ _ _ _ _ _ _ _) | ((with_reducible apply aCall.id); first | apply aCall.gives (hrep _))); simp -implicitDefEqProofs [hl, hn3, n_id_tk0, n_tk0_id])
        | ((with_reducible first | apply AWp.ret | apply AWp.skip | apply AWp.exit); try simp -implicitDefEqProofs [hl, hn3, n_id_tk0, n_tk0_id]))
      exact owns_end tk0 h0 (by simp) (by simpa [Nat.add_assoc] using AS.le_set (AS.le_refl _) (by simp [n_id_tk0, h_id]))
    · have hB : tyB { kind := 2, index := 0, dims := n, ref := false } = (List.replicate n 29 ++ [8]) := by simp [tyB, kdB]
      rw [hB]
      refine ACalls.of_body Try.func45 rfl rfl (by simp [Try.ntmps45]) ?_
      simp only [tyV]
      repeat (first
        | (with_reducible first | apply AWp.seq | apply AWp.block | refine And.intro (by first | omega | assumption | decide) ?_)
        | ((first | (with_reducible first | apply AWp.fork | apply AWp.region | show condK _ _ _ | show guardK _ _ _ _ _ _ _ _ _)); simp -implicitDefEqProofs [hl])
        | ((with_reducible first | apply AWp.ret | apply AWp.skip | apply AWp.exit); try simp -implicitDefEqProofs [hl]))
      intro id n_id_tk0 h_id
      have n_tk0_id : ¬ tk0 = id := fun e => n_id_tk0 e.symm
      repeat (first
        | (with_reducible first | apply AWp.seq | apply AWp.block | refine And.intro (by first | omega | assumption | decide) ?_)
        | ((first | (with_reducible first | apply AWp.fork | apply AWp.region | show condK _ _ _ | show guardK _ _ _ _ _ _ _ _ _) | ((with_reducible apply aCall.id); first | apply aCall.gives (hrep _))); simp -implicitDefEqProofs [hl, hn3, n_id_tk0, n_tk0_id])
        | ((with_reducible first | apply AWp.ret | apply AWp.skip | apply AWp.exit); try simp -implicitDefEqProofs [hl, hn3, n_id_tk0, n_tk0_id]))
      exact owns_end tk0 h0 (by simp) (by simpa [Nat.add_assoc] using AS.le_set (AS.le_refl _) (by simp [n_id_tk0, h_id]))
    · have hB : tyB { kind := 3, index := 0, dims := n, ref := false } = (List.replicate n 29 ++ [10]) := by simp [tyB, kdB]
      rw [hB]
      refine ACalls.of_body Try.func45 rfl rfl (by simp [Try.ntmps45]) ?_
      simp only [tyV]
      repeat (first
        | (with_reducible first | apply AWp.seq | apply AWp.block | refine And.intro (by first | omega | assumption | decide) ?_)
        | ((first | (with_reducible first | apply AWp.fork | apply AWp.region | show condK _ _ _ | show guardK _ _ _ _ _ _ _ _ _)); simp -implicitDefEqProofs [hl])
        | ((with_reducible first | apply AWp.ret | apply AWp.skip | apply AWp.exit); try simp -implicitDefEqProofs [hl]))
      intro id n_id_tk0 h_id
      have n_tk0_id : ¬ tk0 = id := fun e => n_id_tk0 e.symm
      repeat (first
        | (with_reducible first | apply AWp.seq | apply AWp.block | refine And.intro (by first | omega | assumption | decide) ?_)
        | ((first | (with_reducible first | apply AWp.fork | apply AWp.region | show condK _ _ _ | show guardK _ _ _ _ _ _ _ _ _) | ((with_reducible apply aCall.id); first | apply aCall.gives (hrep _))); simp -implicitDefEqProofs [hl, hn3, n_id_tk0, n_tk0_id])
        | ((with_reducible first | apply AWp.ret | apply AWp.skip | apply AWp.exit); try simp -implicitDefEqProofs [hl, hn3, n_id_tk0, n_tk0_id]))
      exact owns_end tk0 h0 (by simp) (by simpa [Nat.add_assoc] using AS.le_set (AS.le_refl _) (by simp [n_id_tk0, h_id]))
    · have hB : tyB { kind := 4, index := 0, dims := n, ref := false } = (List.replicate n 29 ++ [28]) := by simp [tyB, kdB]
      rw [hB]
      refine ACalls.of_body Try.func45 rfl rfl (by simp [Try.ntmps45]) ?_
      simp only [tyV]
      repeat (first
        | (with_reducible first | apply AWp.seq | apply AWp.block | refine And.intro (by first | omega | assumption | decide) ?_)
        | ((first | (with_reducible first | apply AWp.fork | apply AWp.region | show condK _ _ _ | show guardK _ _ _ _ _ _ _ _ _)); simp -implicitDefEqProofs [hl])
        | ((with_reducible first | apply AWp.ret | apply AWp.skip | apply AWp.exit); try simp -implicitDefEqProofs [hl]))
      intro id n_id_tk0 h_id
      have n_tk0_id : ¬ tk0 = id := fun e => n_id_tk0 e.symm
      repeat (first
        | (with_reducible first | apply AWp.seq | apply AWp.block | refine And.intro (by first | omega | assumption | decide) ?_)
        | ((first | (with_reducible first | apply AWp.fork | apply AWp.region | show condK _ _ _ | show guardK _ _ _ _ _ _ _ _ _) | ((with_reducible apply aCall.id); first | apply aCall.gives (hrep _))); simp -implicitDefEqProofs [hl, hn3, n_id_tk0, n_tk0_id])
        | ((with_reducible first | apply AWp.ret | apply AWp.skip | apply AWp.exit); try simp -implicitDefEqProofs [hl, hn3, n_id_tk0, n_tk0_id]))
      exact owns_end tk0 h0 (by simp) (by simpa [Nat.add_assoc] using AS.le_set (AS.le_refl _) (by simp [n_id_tk0, h_id]))
    · have hB : tyB { kind := 5, index := x, dims := n, ref := false } = (List.replicate n 29 ++ (18 :: packL (4 * (x + 1)))) := by simp [tyB, kdB]
      rw [hB]
      have hp := fun σ => pack_ok (l ++ (List.replicate n 29 ++ [18])) (.tok tk0) false (by simp) (by simp; omega) (4 * (x + 1)) (by omega) (by omega) σ
      simp [List.append_assoc] at hp
      have hv : ((4 * (x + 1)) < 0) = False := by simp; omega
      have hc := fun σ => code_ok 0 (x + 1) σ
      rw [show codeS 0 (x + 1) = (4 * (x + 1), 0) by unfold codeS; rw [if_neg (by omega), if_neg (by omega), if_neg (by omega)]; simp] at hc
      have hw : IntKind.i64.wrap (x + 1) = x + 1 := in_i64 (by omega) (by omega)
      refine ACalls.of_body Try.func45 rfl rfl (by simp [Try.ntmps45]) ?_
      simp only [tyV]
      repeat (first
        | (with_reducible first | apply AWp.seq | apply AWp.block | refine And.intro (by first | omega | assumption | decide) ?_)
        | ((first | (with_reducible first | apply AWp.fork | apply AWp.region | show condK _ _ _ | show guardK _ _ _ _ _ _ _ _ _)); simp -implicitDefEqProofs [hl])
        | ((with_reducible first | apply AWp.ret | apply AWp.skip | apply AWp.exit); try simp -implicitDefEqProofs [hl]))
      intro id n_id_tk0 h_id
      have n_tk0_id : ¬ tk0 = id := fun e => n_id_tk0 e.symm
      repeat (first
        | (with_reducible first | apply AWp.seq | apply AWp.block | refine And.intro (by first | omega | assumption | decide) ?_)
        | ((first | (with_reducible first | apply AWp.fork | apply AWp.region | show condK _ _ _ | show guardK _ _ _ _ _ _ _ _ _) | ((with_reducible apply aCall.id); first | apply aCall.gives (hrep _) | apply aCall.owns (hp _) | apply aCall.gives (hc _))); simp -implicitDefEqProofs [hl, hn3, hv, hw, n_id_tk0, n_tk0_id])
        | ((with_reducible first | apply AWp.ret | apply AWp.skip | apply AWp.exit); try simp -implicitDefEqProofs [hl, hn3, hv, hw, n_id_tk0, n_tk0_id]))
      intro tk2 h2a h2b h2
      repeat (first
        | (with_reducible first | apply AWp.seq | apply AWp.block | refine And.intro (by first | omega | assumption | decide) ?_)
        | ((first | (with_reducible first | apply AWp.fork | apply AWp.region | show condK _ _ _ | show guardK _ _ _ _ _ _ _ _ _)); simp -implicitDefEqProofs [n_id_tk0, n_tk0_id])
        | ((with_reducible first | apply AWp.ret | apply AWp.skip | apply AWp.exit); try simp -implicitDefEqProofs [n_id_tk0, n_tk0_id]))
      exact owns_end tk2 h2 (by simp) (by simpa [Nat.add_assoc] using le_set (AS.le_set (AS.le_set (AS.le_refl _) h0) (by simp [n_id_tk0, h_id])))
    · have hB : tyB { kind := 6, index := x, dims := n, ref := false } = (List.replicate n 29 ++ (17 :: packL (4 * (x + 1)))) := by simp [tyB, kdB]
      rw [hB]
      have hp := fun σ => pack_ok (l ++ (List.replicate n 29 ++ [17])) (.tok tk0) false (by simp) (by simp; omega) (4 * (x + 1)) (by omega) (by omega) σ
      simp [List.append_assoc] at hp
      have hv : ((4 * (x + 1)) < 0) = False := by simp; omega
      have hc := fun σ => code_ok 0 (x + 1) σ
      rw [show codeS 0 (x + 1) = (4 * (x + 1), 0) by unfold codeS; rw [if_neg (by omega), if_neg (by omega), if_neg (by omega)]; simp] at hc
      have hw : IntKind.i64.wrap (x + 1) = x + 1 := in_i64 (by omega) (by omega)
      refine ACalls.of_body Try.func45 rfl rfl (by simp [Try.ntmps45]) ?_
      simp only [tyV]
      repeat (first
        | (with_reducible first | apply AWp.seq | apply AWp.block | refine And.intro (by first | omega | assumption | decide) ?_)
        | ((first | (with_reducible first | apply AWp.fork | apply AWp.region | show condK _ _ _ | show guardK _ _ _ _ _ _ _ _ _)); simp -implicitDefEqProofs [hl])
        | ((with_reducible first | apply AWp.ret | apply AWp.skip | apply AWp.exit); try simp -implicitDefEqProofs [hl]))
      intro id n_id_tk0 h_id
      have n_tk0_id : ¬ tk0 = id := fun e => n_id_tk0 e.symm
      repeat (first
        | (with_reducible first | apply AWp.seq | apply AWp.block | refine And.intro (by first | omega | assumption | decide) ?_)
        | ((first | (with_reducible first | apply AWp.fork | apply AWp.region | show condK _ _ _ | show guardK _ _ _ _ _ _ _ _ _) | ((with_reducible apply aCall.id); first | apply aCall.gives (hrep _) | apply aCall.owns (hp _) | apply aCall.gives (hc _))); simp -implicitDefEqProofs [hl, hn3, hv, hw, n_id_tk0, n_tk0_id])
        | ((with_reducible first | apply AWp.ret | apply AWp.skip | apply AWp.exit); try simp -implicitDefEqProofs [hl, hn3, hv, hw, n_id_tk0, n_tk0_id]))
      intro tk2 h2a h2b h2
      repeat (first
        | (with_reducible first | apply AWp.seq | apply AWp.block | refine And.intro (by first | omega | assumption | decide) ?_)
        | ((first | (with_reducible first | apply AWp.fork | apply AWp.region | show condK _ _ _ | show guardK _ _ _ _ _ _ _ _ _)); simp -implicitDefEqProofs [n_id_tk0, n_tk0_id])
        | ((with_reducible first | apply AWp.ret | apply AWp.skip | apply AWp.exit); try simp -implicitDefEqProofs [n_id_tk0, n_tk0_id]))
      exact owns_end tk2 h2 (by simp) (by simpa [Nat.add_assoc] using le_set (AS.le_set (AS.le_set (AS.le_refl _) h0) (by simp [n_id_tk0, h_id])))
    · have hB : tyB { kind := 7, index := x, dims := n, ref := false } = (List.replicate n 29 ++ (19 :: packL x)) := by simp [tyB, kdB]
      rw [hB]
      have hp := fun σ => pack_ok (l ++ (List.replicate n 29 ++ [19])) (.tok tk0) false (by simp) (by simp; omega) x (by omega) (by omega) σ
      simp [List.append_assoc] at hp
      have hv : (x < 0) = False := by simp; omega
      refine ACalls.of_body Try.func45 rfl rfl (by simp [Try.ntmps45]) ?_
      simp only [tyV]
      repeat (first
        | (with_reducible first | apply AWp.seq | apply AWp.block | refine And.intro (by first | omega | assumption | decide) ?_)
        | ((first | (with_reducible first | apply AWp.fork | apply AWp.region | show condK _ _ _ | show guardK _ _ _ _ _ _ _ _ _)); simp -implicitDefEqProofs [hl])
        | ((with_reducible first | apply AWp.ret | apply AWp.skip | apply AWp.exit); try simp -implicitDefEqProofs [hl]))
      intro id n_id_tk0 h_id
      have n_tk0_id : ¬ tk0 = id := fun e => n_id_tk0 e.symm
      repeat (first
        | (with_reducible first | apply AWp.seq | apply AWp.block | refine And.intro (by first | omega | assumption | decide) ?_)
        | ((first | (with_reducible first | apply AWp.fork | apply AWp.region | show condK _ _ _ | show guardK _ _ _ _ _ _ _ _ _) | ((with_reducible apply aCall.id); first | apply aCall.gives (hrep _) | apply aCall.owns (hp _))); simp -implicitDefEqProofs [hl, hn3, hv, n_id_tk0, n_tk0_id])
        | ((with_reducible first | apply AWp.ret | apply AWp.skip | apply AWp.exit); try simp -implicitDefEqProofs [hl, hn3, hv, n_id_tk0, n_tk0_id]))
      intro tk2 h2a h2b h2
      repeat (first
        | (with_reducible first | apply AWp.seq | apply AWp.block | refine And.intro (by first | omega | assumption | decide) ?_)
        | ((first | (with_reducible first | apply AWp.fork | apply AWp.region | show condK _ _ _ | show guardK _ _ _ _ _ _ _ _ _)); simp -implicitDefEqProofs [n_id_tk0, n_tk0_id])
        | ((with_reducible first | apply AWp.ret | apply AWp.skip | apply AWp.exit); try simp -implicitDefEqProofs [n_id_tk0, n_tk0_id]))
      exact owns_end tk2 h2 (by simp) (by simpa [Nat.add_assoc] using le_set (AS.le_set (AS.le_set (AS.le_refl _) h0) (by simp [n_id_tk0, h_id])))
  · rcases hk with ⟨rfl, _, h, rfl⟩ | ⟨rfl, rfl⟩ | ⟨rfl, rfl⟩ | ⟨rfl, rfl⟩ | ⟨rfl, hi⟩ | ⟨rfl, hi⟩ | ⟨rfl, hi⟩
    · cases h
    · have hB : tyB { kind := 2, index := 0, dims := n, ref := true } = 16 :: (List.replicate n 29 ++ [8]) := by simp [tyB, kdB]
      rw [hB]
      refine ACalls.of_body Try.func45 rfl rfl (by simp [Try.ntmps45]) ?_
      simp only [tyV]
      repeat (first
        | (with_reducible first | apply AWp.seq | apply AWp.block | refine And.intro (by first | omega | assumption | decide) ?_)
        | ((first | (with_reducible first | apply AWp.fork | apply AWp.region | show condK _ _ _ | show guardK _ _ _ _ _ _ _ _ _)); simp -implicitDefEqProofs [hl])
        | ((with_reducible first | apply AWp.ret | apply AWp.skip | apply AWp.exit); try simp -implicitDefEqProofs [hl]))
      intro id n_id_tk0 h_id
      have n_tk0_id : ¬ tk0 = id := fun e => n_id_tk0 e.symm
      repeat (first
        | (with_reducible first | apply AWp.seq | apply AWp.block | refine And.intro (by first | omega | assumption | decide) ?_)
        | ((first | (with_reducible first | apply AWp.fork | apply AWp.region | show condK _ _ _ | show guardK _ _ _ _ _ _ _ _ _) | ((with_reducible apply aCall.id); first | apply aCall.gives (hrep _))); simp -implicitDefEqProofs [hl, hn3, n_id_tk0, n_tk0_id])
        | ((with_reducible first | apply AWp.ret | apply AWp.skip | apply AWp.exit); try simp -implicitDefEqProofs [hl, hn3, n_id_tk0, n_tk0_id]))
      exact owns_end tk0 h0 (by simp) (by simpa [Nat.add_assoc] using AS.le_set (AS.le_refl _) (by simp [n_id_tk0, h_id]))
    · have hB : tyB { kind := 3, index := 0, dims := n, ref := true } = 16 :: (List.replicate n 29 ++ [10]) := by simp [tyB, kdB]
      rw [hB]
      refine ACalls.of_body Try.func45 rfl rfl (by simp [Try.ntmps45]) ?_
      simp only [tyV]
      repeat (first
        | (with_reducible first | apply AWp.seq | apply AWp.block | refine And.intro (by first | omega | assumption | decide) ?_)
        | ((first | (with_reducible first | apply AWp.fork | apply AWp.region | show condK _ _ _ | show guardK _ _ _ _ _ _ _ _ _)); simp -implicitDefEqProofs [hl])
        | ((with_reducible first | apply AWp.ret | apply AWp.skip | apply AWp.exit); try simp -implicitDefEqProofs [hl]))
      intro id n_id_tk0 h_id
      have n_tk0_id : ¬ tk0 = id := fun e => n_id_tk0 e.symm
      repeat (first
        | (with_reducible first | apply AWp.seq | apply AWp.block | refine And.intro (by first | omega | assumption | decide) ?_)
        | ((first | (with_reducible first | apply AWp.fork | apply AWp.region | show condK _ _ _ | show guardK _ _ _ _ _ _ _ _ _) | ((with_reducible apply aCall.id); first | apply aCall.gives (hrep _))); simp -implicitDefEqProofs [hl, hn3, n_id_tk0, n_tk0_id])
        | ((with_reducible first | apply AWp.ret | apply AWp.skip | apply AWp.exit); try simp -implicitDefEqProofs [hl, hn3, n_id_tk0, n_tk0_id]))
      exact owns_end tk0 h0 (by simp) (by simpa [Nat.add_assoc] using AS.le_set (AS.le_refl _) (by simp [n_id_tk0, h_id]))
    · have hB : tyB { kind := 4, index := 0, dims := n, ref := true } = 16 :: (List.replicate n 29 ++ [28]) := by simp [tyB, kdB]
      rw [hB]
      refine ACalls.of_body Try.func45 rfl rfl (by simp [Try.ntmps45]) ?_
      simp only [tyV]
      repeat (first
        | (with_reducible first | apply AWp.seq | apply AWp.block | refine And.intro (by first | omega | assumption | decide) ?_)
        | ((first | (with_reducible first | apply AWp.fork | apply AWp.region | show condK _ _ _ | show guardK _ _ _ _ _ _ _ _ _)); simp -implicitDefEqProofs [hl])
        | ((with_reducible first | apply AWp.ret | apply AWp.skip | apply AWp.exit); try simp -implicitDefEqProofs [hl]))
      intro id n_id_tk0 h_id
      have n_tk0_id : ¬ tk0 = id := fun e => n_id_tk0 e.symm
      repeat (first
        | (with_reducible first | apply AWp.seq | apply AWp.block | refine And.intro (by first | omega | assumption | decide) ?_)
        | ((first | (with_reducible first | apply AWp.fork | apply AWp.region | show condK _ _ _ | show guardK _ _ _ _ _ _ _ _ _) | ((with_reducible apply aCall.id); first | apply aCall.gives (hrep _))); simp -implicitDefEqProofs [hl, hn3, n_id_tk0, n_tk0_id])
        | ((with_reducible first | apply AWp.ret | apply AWp.skip | apply AWp.exit); try simp -implicitDefEqProofs [hl, hn3, n_id_tk0, n_tk0_id]))
      exact owns_end tk0 h0 (by simp) (by simpa [Nat.add_assoc] using AS.le_set (AS.le_refl _) (by simp [n_id_tk0, h_id]))
    · have hB : tyB { kind := 5, index := x, dims := n, ref := true } = 16 :: (List.replicate n 29 ++ (18 :: packL (4 * (x + 1)))) := by simp [tyB, kdB]
      rw [hB]
      have hp := fun σ => pack_ok (l ++ 16 :: (List.replicate n 29 ++ [18])) (.tok tk0) false (by simp) (by simp; omega) (4 * (x + 1)) (by omega) (by omega) σ
      simp [List.append_assoc] at hp
      have hv : ((4 * (x + 1)) < 0) = False := by simp; omega
      have hc := fun σ => code_ok 0 (x + 1) σ
      rw [show codeS 0 (x + 1) = (4 * (x + 1), 0) by unfold codeS; rw [if_neg (by omega), if_neg (by omega), if_neg (by omega)]; simp] at hc
      have hw : IntKind.i64.wrap (x + 1) = x + 1 := in_i64 (by omega) (by omega)
      refine ACalls.of_body Try.func45 rfl rfl (by simp [Try.ntmps45]) ?_
      simp only [tyV]
      repeat (first
        | (with_reducible first | apply AWp.seq | apply AWp.block | refine And.intro (by first | omega | assumption | decide) ?_)
        | ((first | (with_reducible first | apply AWp.fork | apply AWp.region | show condK _ _ _ | show guardK _ _ _ _ _ _ _ _ _)); simp -implicitDefEqProofs [hl])
        | ((with_reducible first | apply AWp.ret | apply AWp.skip | apply AWp.exit); try simp -implicitDefEqProofs [hl]))
      intro id n_id_tk0 h_id
      have n_tk0_id : ¬ tk0 = id := fun e => n_id_tk0 e.symm
      repeat (first
        | (with_reducible first | apply AWp.seq | apply AWp.block | refine And.intro (by first | omega | assumption | decide) ?_)
        | ((first | (with_reducible first | apply AWp.fork | apply AWp.region | show condK _ _ _ | show guardK _ _ _ _ _ _ _ _ _) | ((with_reducible apply aCall.id); first | apply aCall.gives (hrep _) | apply aCall.owns (hp _) | apply aCall.gives (hc _))); simp -implicitDefEqProofs [hl, hn3, hv, hw, n_id_tk0, n_tk0_id])
        | ((with_reducible first | apply AWp.ret | apply AWp.skip | apply AWp.exit); try simp -implicitDefEqProofs [hl, hn3, hv, hw, n_id_tk0, n_tk0_id]))
      intro tk2 h2a h2b h2
      repeat (first
        | (with_reducible first | apply AWp.seq | apply AWp.block | refine And.intro (by first | omega | assumption | decide) ?_)
        | ((first | (with_reducible first | apply AWp.fork | apply AWp.region | show condK _ _ _ | show guardK _ _ _ _ _ _ _ _ _)); simp -implicitDefEqProofs [n_id_tk0, n_tk0_id])
        | ((with_reducible first | apply AWp.ret | apply AWp.skip | apply AWp.exit); try simp -implicitDefEqProofs [n_id_tk0, n_tk0_id]))
      exact owns_end tk2 h2 (by simp) (by simpa [Nat.add_assoc] using le_set (AS.le_set (AS.le_set (AS.le_refl _) h0) (by simp [n_id_tk0, h_id])))
    · have hB : tyB { kind := 6, index := x, dims := n, ref := true } = 16 :: (List.replicate n 29 ++ (17 :: packL (4 * (x + 1)))) := by simp [tyB, kdB]
      rw [hB]
      have hp := fun σ => pack_ok (l ++ 16 :: (List.replicate n 29 ++ [17])) (.tok tk0) false (by simp) (by simp; omega) (4 * (x + 1)) (by omega) (by omega) σ
      simp [List.append_assoc] at hp
      have hv : ((4 * (x + 1)) < 0) = False := by simp; omega
      have hc := fun σ => code_ok 0 (x + 1) σ
      rw [show codeS 0 (x + 1) = (4 * (x + 1), 0) by unfold codeS; rw [if_neg (by omega), if_neg (by omega), if_neg (by omega)]; simp] at hc
      have hw : IntKind.i64.wrap (x + 1) = x + 1 := in_i64 (by omega) (by omega)
      refine ACalls.of_body Try.func45 rfl rfl (by simp [Try.ntmps45]) ?_
      simp only [tyV]
      repeat (first
        | (with_reducible first | apply AWp.seq | apply AWp.block | refine And.intro (by first | omega | assumption | decide) ?_)
        | ((first | (with_reducible first | apply AWp.fork | apply AWp.region | show condK _ _ _ | show guardK _ _ _ _ _ _ _ _ _)); simp -implicitDefEqProofs [hl])
        | ((with_reducible first | apply AWp.ret | apply AWp.skip | apply AWp.exit); try simp -implicitDefEqProofs [hl]))
      intro id n_id_tk0 h_id
      have n_tk0_id : ¬ tk0 = id := fun e => n_id_tk0 e.symm
      repeat (first
        | (with_reducible first | apply AWp.seq | apply AWp.block | refine And.intro (by first | omega | assumption | decide) ?_)
        | ((first | (with_reducible first | apply AWp.fork | apply AWp.region | show condK _ _ _ | show guardK _ _ _ _ _ _ _ _ _) | ((with_reducible apply aCall.id); first | apply aCall.gives (hrep _) | apply aCall.owns (hp _) | apply aCall.gives (hc _))); simp -implicitDefEqProofs [hl, hn3, hv, hw, n_id_tk0, n_tk0_id])
        | ((with_reducible first | apply AWp.ret | apply AWp.skip | apply AWp.exit); try simp -implicitDefEqProofs [hl, hn3, hv, hw, n_id_tk0, n_tk0_id]))
      intro tk2 h2a h2b h2
      repeat (first
        | (with_reducible first | apply AWp.seq | apply AWp.block | refine And.intro (by first | omega | assumption | decide) ?_)
        | ((first | (with_reducible first | apply AWp.fork | apply AWp.region | show condK _ _ _ | show guardK _ _ _ _ _ _ _ _ _)); simp -implicitDefEqProofs [n_id_tk0, n_tk0_id])
        | ((with_reducible first | apply AWp.ret | apply AWp.skip | apply AWp.exit); try simp -implicitDefEqProofs [n_id_tk0, n_tk0_id]))
      exact owns_end tk2 h2 (by simp) (by simpa [Nat.add_assoc] using le_set (AS.le_set (AS.le_set (AS.le_refl _) h0) (by simp [n_id_tk0, h_id])))
    · have hB : tyB { kind := 7, index := x, dims := n, ref := true } = 16 :: (List.replicate n 29 ++ (19 :: packL x)) := by simp [tyB, kdB]
      rw [hB]
      have hp := fun σ => pack_ok (l ++ 16 :: (List.replicate n 29 ++ [19])) (.tok tk0) false (by simp) (by simp; omega) x (by omega) (by omega) σ
      simp [List.append_assoc] at hp
      have hv : (x < 0) = False := by simp; omega
      refine ACalls.of_body Try.func45 rfl rfl (by simp [Try.ntmps45]) ?_
      simp only [tyV]
      repeat (first
        | (with_reducible first | apply AWp.seq | apply AWp.block | refine And.intro (by first | omega | assumption | decide) ?_)
        | ((first | (with_reducible first | apply AWp.fork | apply AWp.region | show condK _ _ _ | show guardK _ _ _ _ _ _ _ _ _)); simp -implicitDefEqProofs [hl])
        | ((with_reducible first | apply AWp.ret | apply AWp.skip | apply AWp.exit); try simp -implicitDefEqProofs [hl]))
      intro id n_id_tk0 h_id
      have n_tk0_id : ¬ tk0 = id := fun e => n_id_tk0 e.symm
      repeat (first
        | (with_reducible first | apply AWp.seq | apply AWp.block | refine And.intro (by first | omega | assumption | decide) ?_)
        | ((first | (with_reducible first | apply AWp.fork | apply AWp.region | show condK _ _ _ | show guardK _ _ _ _ _ _ _ _ _) | ((with_reducible apply aCall.id); first | apply aCall.gives (hrep _) | apply aCall.owns (hp _))); simp -implicitDefEqProofs [hl, hn3, hv, n_id_tk0, n_tk0_id])
        | ((with_reducible first | apply AWp.ret | apply AWp.skip | apply AWp.exit); try simp -implicitDefEqProofs [hl, hn3, hv, n_id_tk0, n_tk0_id]))
      intro tk2 h2a h2b h2
      repeat (first
        | (with_reducible first | apply AWp.seq | apply AWp.block | refine And.intro (by first | omega | assumption | decide) ?_)
        | ((first | (with_reducible first | apply AWp.fork | apply AWp.region | show condK _ _ _ | show guardK _ _ _ _ _ _ _ _ _)); simp -implicitDefEqProofs [n_id_tk0, n_tk0_id])
        | ((with_reducible first | apply AWp.ret | apply AWp.skip | apply AWp.exit); try simp -implicitDefEqProofs [n_id_tk0, n_tk0_id]))
      exact owns_end tk2 h2 (by simp) (by simpa [Nat.add_assoc] using le_set (AS.le_set (AS.le_set (AS.le_refl _) h0) (by simp [n_id_tk0, h_id])))

end Sg
end Go.Proofs.Ytplphldpkliakaa
