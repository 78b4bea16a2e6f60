/- Package sigs: what is written of a type. -/
import Derived.Test.YtknalmoackcpbaaGreatAwGo
import Derived.Test.YtknalmoackcpbaaGreatSig8
import Derived.Test.YtknalmoackcpbaaGreatSig1
import Derived.Test.YtknalmoackcpbaaGreatRows1
import Derived.Test.YtknalmoackcpbaaGreatOct3
set_option linter.unusedSimpArgs false
set_option linter.unusedVariables false
set_option maxRecDepth 100000
set_option maxHeartbeats 3200000
namespace Go.Proofs.YtknalmoackcpbaaGreat
namespace Sg
open Go Go.AW
theorem D0_XSig9 (S : List Nat) : Plans Tryz.prog [] S := mixed
theorem put_tok (l : List UInt8) (tk0 : Nat) (nl : Bool) (hnl : nl = true → l = []) (hl : l.length ≤ 1000) (t : Ty) (ht : plainT t = true) (σ : AS) (h0 : σ tk0 = none) :
    ACalls Tryz.prog 135 [.lst 5 (l.map u8) (.tok tk0) nl, tyV t] (σ.set tk0 (.tok l.length))
      (Owns (fun tk => .lst 5 ((l ++ tyB t).map u8) (.tok tk) false) (l ++ tyB t).length σ) No := by
  obtain ⟨d0, d3, x0, hk⟩ := plain_cases ht
  obtain ⟨k, x, d, rf⟩ := t
  simp only at d0 d3 x0 hk
  obtain ⟨n, rfl⟩ : ∃ n : Nat, d = n := ⟨d.toNat, by omega⟩
  have hrep := fun σ => repeat_ok 29 .full n (by omega) σ
  have hn3 : n ≤ 3 := by omega
  cases rf
  · rcases hk with ⟨rfl, _, h, rfl⟩ | ⟨rfl, rfl⟩ | ⟨rfl, rfl⟩ | ⟨rfl, rfl⟩ | ⟨rfl, hi⟩ | ⟨rfl, hi⟩ | ⟨rfl, hi⟩
    · have hB : tyB { kind := 1, index := 0, dims := n, ref := false } = (List.replicate n 29 ++ [1]) := by simp [tyB, kdB]
      rw [hB]
      refine ACalls.of_body Tryz.func135 rfl rfl (by simp [Tryz.ntmps135]) ?_
      simp only [tyV]
      refine gO (D0_XSig9 []) @hl True.intro (k := ?_)
      intro id n_id_tk0 h_id
      have n_tk0_id : ¬ tk0 = id := fun e => n_id_tk0 e.symm
      refine gO (D0_XSig9 []) (j4 @hl @hn3 @n_id_tk0 @n_tk0_id) @hrep (k := ?_)
      exact owns_end tk0 h0 (by simp) (by simpa [Nat.add_assoc] using AS.le_set (AS.le_refl _) (by simp [n_id_tk0, h_id]))
    · have hB : tyB { kind := 2, index := 0, dims := n, ref := false } = (List.replicate n 29 ++ [8]) := by simp [tyB, kdB]
      rw [hB]
      refine ACalls.of_body Tryz.func135 rfl rfl (by simp [Tryz.ntmps135]) ?_
      simp only [tyV]
      refine gO (D0_XSig9 []) @hl True.intro (k := ?_)
      intro id n_id_tk0 h_id
      have n_tk0_id : ¬ tk0 = id := fun e => n_id_tk0 e.symm
      refine gO (D0_XSig9 []) (j4 @hl @hn3 @n_id_tk0 @n_tk0_id) @hrep (k := ?_)
      exact owns_end tk0 h0 (by simp) (by simpa [Nat.add_assoc] using AS.le_set (AS.le_refl _) (by simp [n_id_tk0, h_id]))
    · have hB : tyB { kind := 3, index := 0, dims := n, ref := false } = (List.replicate n 29 ++ [10]) := by simp [tyB, kdB]
      rw [hB]
      refine ACalls.of_body Tryz.func135 rfl rfl (by simp [Tryz.ntmps135]) ?_
      simp only [tyV]
      refine gO (D0_XSig9 []) @hl True.intro (k := ?_)
      intro id n_id_tk0 h_id
      have n_tk0_id : ¬ tk0 = id := fun e => n_id_tk0 e.symm
      refine gO (D0_XSig9 []) (j4 @hl @hn3 @n_id_tk0 @n_tk0_id) @hrep (k := ?_)
      exact owns_end tk0 h0 (by simp) (by simpa [Nat.add_assoc] using AS.le_set (AS.le_refl _) (by simp [n_id_tk0, h_id]))
    · have hB : tyB { kind := 4, index := 0, dims := n, ref := false } = (List.replicate n 29 ++ [28]) := by simp [tyB, kdB]
      rw [hB]
      refine ACalls.of_body Tryz.func135 rfl rfl (by simp [Tryz.ntmps135]) ?_
      simp only [tyV]
      refine gO (D0_XSig9 []) @hl True.intro (k := ?_)
      intro id n_id_tk0 h_id
      have n_tk0_id : ¬ tk0 = id := fun e => n_id_tk0 e.symm
      refine gO (D0_XSig9 []) (j4 @hl @hn3 @n_id_tk0 @n_tk0_id) @hrep (k := ?_)
      exact owns_end tk0 h0 (by simp) (by simpa [Nat.add_assoc] using AS.le_set (AS.le_refl _) (by simp [n_id_tk0, h_id]))
    · have hB : tyB { kind := 5, index := x, dims := n, ref := false } = (List.replicate n 29 ++ (18 :: packL (4 * (x + 1)))) := by simp [tyB, kdB]
      rw [hB]
      have hp := fun σ => pack_ok (l ++ (List.replicate n 29 ++ [18])) (.tok tk0) false (by simp) (by simp; omega) (4 * (x + 1)) (by omega) (by omega) σ
      simp [List.append_assoc] at hp
      have hv : ((4 * (x + 1)) < 0) = False := by simp; omega
      have hc := fun σ => code_ok 0 (x + 1) σ
      rw [show codeS 0 (x + 1) = (4 * (x + 1), 0) by unfold codeS; rw [if_neg (by omega), if_neg (by omega), if_neg (by omega)]; simp] at hc
      have hw : IntKind.i64.wrap (x + 1) = x + 1 := in_i64 (by omega) (by omega)
      refine ACalls.of_body Tryz.func135 rfl rfl (by simp [Tryz.ntmps135]) ?_
      simp only [tyV]
      refine gO (D0_XSig9 []) @hl True.intro (k := ?_)
      intro id n_id_tk0 h_id
      have n_tk0_id : ¬ tk0 = id := fun e => n_id_tk0 e.symm
      refine gO (D0_XSig9 []) (j6 @hl @hn3 @hv @hw @n_id_tk0 @n_tk0_id) (j3 @hrep @hp @hc) (k := ?_)
      intro tk2 h2a h2b h2
      refine gO (D0_XSig9 []) (j2 @n_id_tk0 @n_tk0_id) True.intro (k := ?_)
      exact owns_end tk2 h2 (by simp) (by simpa [Nat.add_assoc] using le_set (AS.le_set (AS.le_set (AS.le_refl _) h0) (by simp [n_id_tk0, h_id])))
    · have hB : tyB { kind := 6, index := x, dims := n, ref := false } = (List.replicate n 29 ++ (17 :: packL (4 * (x + 1)))) := by simp [tyB, kdB]
      rw [hB]
      have hp := fun σ => pack_ok (l ++ (List.replicate n 29 ++ [17])) (.tok tk0) false (by simp) (by simp; omega) (4 * (x + 1)) (by omega) (by omega) σ
      simp [List.append_assoc] at hp
      have hv : ((4 * (x + 1)) < 0) = False := by simp; omega
      have hc := fun σ => code_ok 0 (x + 1) σ
      rw [show codeS 0 (x + 1) = (4 * (x + 1), 0) by unfold codeS; rw [if_neg (by omega), if_neg (by omega), if_neg (by omega)]; simp] at hc
      have hw : IntKind.i64.wrap (x + 1) = x + 1 := in_i64 (by omega) (by omega)
      refine ACalls.of_body Tryz.func135 rfl rfl (by simp [Tryz.ntmps135]) ?_
      simp only [tyV]
      refine gO (D0_XSig9 []) @hl True.intro (k := ?_)
      intro id n_id_tk0 h_id
      have n_tk0_id : ¬ tk0 = id := fun e => n_id_tk0 e.symm
      refine gO (D0_XSig9 []) (j6 @hl @hn3 @hv @hw @n_id_tk0 @n_tk0_id) (j3 @hrep @hp @hc) (k := ?_)
      intro tk2 h2a h2b h2
      refine gO (D0_XSig9 []) (j2 @n_id_tk0 @n_tk0_id) True.intro (k := ?_)
      exact owns_end tk2 h2 (by simp) (by simpa [Nat.add_assoc] using le_set (AS.le_set (AS.le_set (AS.le_refl _) h0) (by simp [n_id_tk0, h_id])))
    · have hB : tyB { kind := 7, index := x, dims := n, ref := false } = (List.replicate n 29 ++ (19 :: packL x)) := by simp [tyB, kdB]
      rw [hB]
      have hp := fun σ => pack_ok (l ++ (List.replicate n 29 ++ [19])) (.tok tk0) false (by simp) (by simp; omega) x (by omega) (by omega) σ
      simp [List.append_assoc] at hp
      have hv : (x < 0) = False := by simp; omega
      refine ACalls.of_body Tryz.func135 rfl rfl (by simp [Tryz.ntmps135]) ?_
      simp only [tyV]
      refine gO (D0_XSig9 []) @hl True.intro (k := ?_)
      intro id n_id_tk0 h_id
      have n_tk0_id : ¬ tk0 = id := fun e => n_id_tk0 e.symm
      refine gO (D0_XSig9 []) (j5 @hl @hn3 @hv @n_id_tk0 @n_tk0_id) (j2 @hrep @hp) (k := ?_)
      intro tk2 h2a h2b h2
      refine gO (D0_XSig9 []) (j2 @n_id_tk0 @n_tk0_id) True.intro (k := ?_)
      exact owns_end tk2 h2 (by simp) (by simpa [Nat.add_assoc] using le_set (AS.le_set (AS.le_set (AS.le_refl _) h0) (by simp [n_id_tk0, h_id])))
  · rcases hk with ⟨rfl, _, h, rfl⟩ | ⟨rfl, rfl⟩ | ⟨rfl, rfl⟩ | ⟨rfl, rfl⟩ | ⟨rfl, hi⟩ | ⟨rfl, hi⟩ | ⟨rfl, hi⟩
    · cases h
    · have hB : tyB { kind := 2, index := 0, dims := n, ref := true } = 16 :: (List.replicate n 29 ++ [8]) := by simp [tyB, kdB]
      rw [hB]
      refine ACalls.of_body Tryz.func135 rfl rfl (by simp [Tryz.ntmps135]) ?_
      simp only [tyV]
      refine gO (D0_XSig9 []) @hl True.intro (k := ?_)
      intro id n_id_tk0 h_id
      have n_tk0_id : ¬ tk0 = id := fun e => n_id_tk0 e.symm
      refine gO (D0_XSig9 []) (j4 @hl @hn3 @n_id_tk0 @n_tk0_id) @hrep (k := ?_)
      exact owns_end tk0 h0 (by simp) (by simpa [Nat.add_assoc] using AS.le_set (AS.le_refl _) (by simp [n_id_tk0, h_id]))
    · have hB : tyB { kind := 3, index := 0, dims := n, ref := true } = 16 :: (List.replicate n 29 ++ [10]) := by simp [tyB, kdB]
      rw [hB]
      refine ACalls.of_body Tryz.func135 rfl rfl (by simp [Tryz.ntmps135]) ?_
      simp only [tyV]
      refine gO (D0_XSig9 []) @hl True.intro (k := ?_)
      intro id n_id_tk0 h_id
      have n_tk0_id : ¬ tk0 = id := fun e => n_id_tk0 e.symm
      refine gO (D0_XSig9 []) (j4 @hl @hn3 @n_id_tk0 @n_tk0_id) @hrep (k := ?_)
      exact owns_end tk0 h0 (by simp) (by simpa [Nat.add_assoc] using AS.le_set (AS.le_refl _) (by simp [n_id_tk0, h_id]))
    · have hB : tyB { kind := 4, index := 0, dims := n, ref := true } = 16 :: (List.replicate n 29 ++ [28]) := by simp [tyB, kdB]
      rw [hB]
      refine ACalls.of_body Tryz.func135 rfl rfl (by simp [Tryz.ntmps135]) ?_
      simp only [tyV]
      refine gO (D0_XSig9 []) @hl True.intro (k := ?_)
      intro id n_id_tk0 h_id
      have n_tk0_id : ¬ tk0 = id := fun e => n_id_tk0 e.symm
      refine gO (D0_XSig9 []) (j4 @hl @hn3 @n_id_tk0 @n_tk0_id) @hrep (k := ?_)
      exact owns_end tk0 h0 (by simp) (by simpa [Nat.add_assoc] using AS.le_set (AS.le_refl _) (by simp [n_id_tk0, h_id]))
    · have hB : tyB { kind := 5, index := x, dims := n, ref := true } = 16 :: (List.replicate n 29 ++ (18 :: packL (4 * (x + 1)))) := by simp [tyB, kdB]
      rw [hB]
      have hp := fun σ => pack_ok (l ++ 16 :: (List.replicate n 29 ++ [18])) (.tok tk0) false (by simp) (by simp; omega) (4 * (x + 1)) (by omega) (by omega) σ
      simp [List.append_assoc] at hp
      have hv : ((4 * (x + 1)) < 0) = False := by simp; omega
      have hc := fun σ => code_ok 0 (x + 1) σ
      rw [show codeS 0 (x + 1) = (4 * (x + 1), 0) by unfold codeS; rw [if_neg (by omega), if_neg (by omega), if_neg (by omega)]; simp] at hc
      have hw : IntKind.i64.wrap (x + 1) = x + 1 := in_i64 (by omega) (by omega)
      refine ACalls.of_body Tryz.func135 rfl rfl (by simp [Tryz.ntmps135]) ?_
      simp only [tyV]
      refine gO (D0_XSig9 []) @hl True.intro (k := ?_)
      intro id n_id_tk0 h_id
      have n_tk0_id : ¬ tk0 = id := fun e => n_id_tk0 e.symm
      refine gO (D0_XSig9 []) (j6 @hl @hn3 @hv @hw @n_id_tk0 @n_tk0_id) (j3 @hrep @hp @hc) (k := ?_)
      intro tk2 h2a h2b h2
      refine gO (D0_XSig9 []) (j2 @n_id_tk0 @n_tk0_id) True.intro (k := ?_)
      exact owns_end tk2 h2 (by simp) (by simpa [Nat.add_assoc] using le_set (AS.le_set (AS.le_set (AS.le_refl _) h0) (by simp [n_id_tk0, h_id])))
    · have hB : tyB { kind := 6, index := x, dims := n, ref := true } = 16 :: (List.replicate n 29 ++ (17 :: packL (4 * (x + 1)))) := by simp [tyB, kdB]
      rw [hB]
      have hp := fun σ => pack_ok (l ++ 16 :: (List.replicate n 29 ++ [17])) (.tok tk0) false (by simp) (by simp; omega) (4 * (x + 1)) (by omega) (by omega) σ
      simp [List.append_assoc] at hp
      have hv : ((4 * (x + 1)) < 0) = False := by simp; omega
      have hc := fun σ => code_ok 0 (x + 1) σ
      rw [show codeS 0 (x + 1) = (4 * (x + 1), 0) by unfold codeS; rw [if_neg (by omega), if_neg (by omega), if_neg (by omega)]; simp] at hc
      have hw : IntKind.i64.wrap (x + 1) = x + 1 := in_i64 (by omega) (by omega)
      refine ACalls.of_body Tryz.func135 rfl rfl (by simp [Tryz.ntmps135]) ?_
      simp only [tyV]
      refine gO (D0_XSig9 []) @hl True.intro (k := ?_)
      intro id n_id_tk0 h_id
      have n_tk0_id : ¬ tk0 = id := fun e => n_id_tk0 e.symm
      refine gO (D0_XSig9 []) (j6 @hl @hn3 @hv @hw @n_id_tk0 @n_tk0_id) (j3 @hrep @hp @hc) (k := ?_)
      intro tk2 h2a h2b h2
      refine gO (D0_XSig9 []) (j2 @n_id_tk0 @n_tk0_id) True.intro (k := ?_)
      exact owns_end tk2 h2 (by simp) (by simpa [Nat.add_assoc] using le_set (AS.le_set (AS.le_set (AS.le_refl _) h0) (by simp [n_id_tk0, h_id])))
    · have hB : tyB { kind := 7, index := x, dims := n, ref := true } = 16 :: (List.replicate n 29 ++ (19 :: packL x)) := by simp [tyB, kdB]
      rw [hB]
      have hp := fun σ => pack_ok (l ++ 16 :: (List.replicate n 29 ++ [19])) (.tok tk0) false (by simp) (by simp; omega) x (by omega) (by omega) σ
      simp [List.append_assoc] at hp
      have hv : (x < 0) = False := by simp; omega
      refine ACalls.of_body Tryz.func135 rfl rfl (by simp [Tryz.ntmps135]) ?_
      simp only [tyV]
      refine gO (D0_XSig9 []) @hl True.intro (k := ?_)
      intro id n_id_tk0 h_id
      have n_tk0_id : ¬ tk0 = id := fun e => n_id_tk0 e.symm
      refine gO (D0_XSig9 []) (j5 @hl @hn3 @hv @n_id_tk0 @n_tk0_id) (j2 @hrep @hp) (k := ?_)
      intro tk2 h2a h2b h2
      refine gO (D0_XSig9 []) (j2 @n_id_tk0 @n_tk0_id) True.intro (k := ?_)
      exact owns_end tk2 h2 (by simp) (by simpa [Nat.add_assoc] using le_set (AS.le_set (AS.le_set (AS.le_refl _) h0) (by simp [n_id_tk0, h_id])))
end Sg
end Go.Proofs.YtknalmoackcpbaaGreat
