/- Package slices: Repeat, of one byte. -/
import Derived.Test.YtknalmoackcpbaaGreatAwGo
import Derived.Test.YtknalmoackcpbaaGreatSig1
import Derived.Test.YtknalmoackcpbaaGreatAwMut
set_option linter.unusedSimpArgs false
set_option linter.unusedVariables false
set_option maxRecDepth 100000
set_option maxHeartbeats 3200000
namespace Go.Proofs.YtknalmoackcpbaaGreat
namespace Sg
open Go Go.AW
abbrev sc_184_9_XSig8 : Sch := (Sch.step 0 (Sch.step 1 (Sch.step 2 (Sch.step 3 (Sch.step 4 (Sch.step 5 (Sch.step 6 (Sch.alt 7 (Sch.step 8 (Sch.step 9 Sch.done)) Sch.none))))))))
theorem D0_XSig8 (S : List Nat) : Plans Tryz.prog [] S := mixed
theorem D184_XSig8 (S : List Nat) : Plans Tryz.prog [(9, (Sch.step 0 (Sch.step 1 (Sch.step 2 (Sch.step 3 (Sch.step 4 (Sch.step 5 (Sch.step 6 (Sch.alt 7 (Sch.step 8 (Sch.step 9 Sch.done)) Sch.none)))))))))] S := mixed
theorem mul64_small (n : Int) (hn : n = 0 ∨ n = 1 ∨ n = 2 ∨ n = 3) (σ : AS) : ACalls Tryz.prog 265 [.sc (.int .u64 1), .sc (.int .u64 n)] σ
    (Gives (.tup [.sc (.int .u64 0), .sc (.int .u64 n)]) σ) No := by
  have b1 : bAnd 64 0 4294967295 = 0 := by decide
  have b2 : bAnd 64 1 4294967295 = 1 := by decide
  have b3 : bAnd 64 2 4294967295 = 2 := by decide
  have b4 : bAnd 64 3 4294967295 = 3 := by decide
  have i0 : IntKind.u64.wrap 0 = 0 := by decide
  have i1 : IntKind.u64.wrap 1 = 1 := by decide
  have i2 : IntKind.u64.wrap 2 = 2 := by decide
  have i3 : IntKind.u64.wrap 3 = 3 := by decide
  rcases hn with rfl | rfl | rfl | rfl
  · refine ACalls.of_body Tryz.func265 rfl rfl (by simp [Tryz.ntmps265]) ?_
    exact gE (D0_XSig8 []) (j8 @b1 @b2 @b3 @b4 @i0 @i1 @i2 @i3) True.intro
  · refine ACalls.of_body Tryz.func265 rfl rfl (by simp [Tryz.ntmps265]) ?_
    exact gE (D0_XSig8 []) (j8 @b1 @b2 @b3 @b4 @i0 @i1 @i2 @i3) True.intro
  · refine ACalls.of_body Tryz.func265 rfl rfl (by simp [Tryz.ntmps265]) ?_
    exact gE (D0_XSig8 []) (j8 @b1 @b2 @b3 @b4 @i0 @i1 @i2 @i3) True.intro
  · refine ACalls.of_body Tryz.func265 rfl rfl (by simp [Tryz.ntmps265]) ?_
    exact gE (D0_XSig8 []) (j8 @b1 @b2 @b3 @b4 @i0 @i1 @i2 @i3) True.intro
theorem mul_small (n : Int) (hn : n = 0 ∨ n = 1 ∨ n = 2 ∨ n = 3) (σ : AS) : ACalls Tryz.prog 231 [.sc (.int .u64 1), .sc (.int .u64 n)] σ
    (Gives (.tup [.sc (.int .u64 0), .sc (.int .u64 n)]) σ) No := by
  have h := fun σ => mul64_small n hn σ
  refine ACalls.of_body Tryz.func231 rfl rfl (by simp [Tryz.ntmps231]) ?_
  exact gE (D0_XSig8 []) True.intro @h
theorem repeat_ok (c : UInt8) (o : Own) (n : Nat) (hn : n ≤ 3) (σ : AS) : ACalls Tryz.prog 184 [.lst 5 [u8 c] o false, .sc (.int .i64 n)] σ
    (Gives (.lst 5 ((List.replicate n c).map u8) .full false) σ) No := by
  have h := fun σ => mul_small n (by omega) σ
  have i1 : IntKind.u64.wrap 1 = 1 := by decide
  have u0 : AV.sc (.int .u8 (c.toNat : Int)) = u8 c := rfl
  have hcase : n = 0 ∨ n = 1 ∨ n = 2 ∨ n = 3 := by omega
  rcases hcase with rfl | rfl | rfl | rfl
  · refine ACalls.of_body Tryz.func184 rfl rfl (by simp [Tryz.ntmps184]) ?_
    refine gO (D184_XSig8 []) @i1 @h (k := ?_)
    intro id h_id
    rw [show flatZ 0 (AV.sc (.int .u8 0)) = [] from rfl]
    repeat (first
      | (with_reducible first | apply AWp.seq | apply AWp.block | refine And.intro (by first | omega | assumption | decide) ?_)
      | ((first | (with_reducible first | apply AWp.fork | apply AWp.region | show condK _ _ _ | show guardK _ _ _ _ _ _ _ _ _) | ((with_reducible apply AWp.drawS (id := 9) (t := sc_184_9_XSig8)); (exact mixed); kernel_rfl; kernel_rfl; (repeat (with_reducible first | apply PanQ.then | apply PanQ.block | apply PanQ.body | apply PanQ.no)))); simp -implicitDefEqProofs [aCopy, copyCells])
      | ((with_reducible first | apply AWp.ret | apply AWp.skip | apply AWp.exit); try simp -implicitDefEqProofs [aCopy, copyCells]))
    refine AWp.loopA (α := (Nat)) (0) (fun j => 0 - j) (fun j => 0 ≤ j ∧ j ≤ 0) [(4, ?_), (7, ?_)] (fun j => [(8, .sc (.int .i64 j))]) (fun j => σ.set id (.cells 5 (List.replicate j (u8 c) ++ List.replicate (0 - j) (.sc (.int .u8 0))))) ?_ ?_ ?_ ?_
    rotate_left 2
    · (try dsimp only); (simp only [List.cons_append, List.nil_append]; repeat (first | exact FrWk.nil | refine FrWk.cons (by first | (simp -implicitDefEqProofs; done) | exact Wk.of (by (try simp -implicitDefEqProofs) <;> rfl)) ?_))
    · (try dsimp only); (simp; done)
    · exact ⟨by omega, by omega⟩
    intro j hx_
    try dsimp only at hx_ ⊢
    obtain ⟨hj1, hj2⟩ := hx_
    simp only [List.cons_append, List.nil_append]
    have hc3 : j = 0 := by omega
    rcases hc3 with rfl
    · clear hj1
      repeat (first
        | (with_reducible first | apply AWp.seq | apply AWp.block | refine And.intro (by first | omega | assumption | decide) ?_)
        | ((first | (with_reducible first | apply AWp.fork | ((fail_if_success (apply AWp.region (id := 10))); apply AWp.region) | show condK _ _ _ | show guardK _ _ _ _ _ _ _ _ _) | ((with_reducible apply AWp.drawS (id := 9) (t := sc_184_9_XSig8)); (exact mixed); kernel_rfl; kernel_rfl; (repeat (with_reducible first | apply PanQ.then | apply PanQ.block | apply PanQ.body | apply PanQ.no)))); simp -implicitDefEqProofs [aCopy, copyCells])
        | ((with_reducible first | apply AWp.ret | apply AWp.skip | apply AWp.exit); try simp -implicitDefEqProofs [aCopy, copyCells]))
      refine AWp.freeze 7 id (List.replicate 0 (u8 c)) (m := 0) (by simp) (by simp [*]) (by simp) (by simp) (by simp) ?_
      exact gE (D184_XSig8 []) True.intro True.intro
  · refine ACalls.of_body Tryz.func184 rfl rfl (by simp [Tryz.ntmps184]) ?_
    refine gO (D184_XSig8 []) @i1 @h (k := ?_)
    intro id h_id
    rw [show flatZ 1 (AV.sc (.int .u8 0)) = [.sc (.int .u8 0)] from rfl]
    repeat (first
      | (with_reducible first | apply AWp.seq | apply AWp.block | refine And.intro (by first | omega | assumption | decide) ?_)
      | ((first | (with_reducible first | apply AWp.fork | apply AWp.region | show condK _ _ _ | show guardK _ _ _ _ _ _ _ _ _) | ((with_reducible apply AWp.drawS (id := 9) (t := sc_184_9_XSig8)); (exact mixed); kernel_rfl; kernel_rfl; (repeat (with_reducible first | apply PanQ.then | apply PanQ.block | apply PanQ.body | apply PanQ.no)))); simp -implicitDefEqProofs [aCopy, copyCells])
      | ((with_reducible first | apply AWp.ret | apply AWp.skip | apply AWp.exit); try simp -implicitDefEqProofs [aCopy, copyCells]))
    refine AWp.loopA (α := (Nat)) (1) (fun j => 1 - j) (fun j => 1 ≤ j ∧ j ≤ 1) [(4, ?_), (7, ?_)] (fun j => [(8, .sc (.int .i64 j))]) (fun j => σ.set id (.cells 5 (List.replicate j (u8 c) ++ List.replicate (1 - j) (.sc (.int .u8 0))))) ?_ ?_ ?_ ?_
    rotate_left 2
    · (try dsimp only); (simp only [List.cons_append, List.nil_append]; repeat (first | exact FrWk.nil | refine FrWk.cons (by first | (simp -implicitDefEqProofs; done) | exact Wk.of (by (try simp -implicitDefEqProofs) <;> rfl)) ?_))
    · (try dsimp only); (simp; done)
    · exact ⟨by omega, by omega⟩
    intro j hx_
    try dsimp only at hx_ ⊢
    obtain ⟨hj1, hj2⟩ := hx_
    simp only [List.cons_append, List.nil_append]
    have hc3 : j = 1 := by omega
    rcases hc3 with rfl
    · clear hj1
      repeat (first
        | (with_reducible first | apply AWp.seq | apply AWp.block | refine And.intro (by first | omega | assumption | decide) ?_)
        | ((first | (with_reducible first | apply AWp.fork | ((fail_if_success (apply AWp.region (id := 10))); apply AWp.region) | show condK _ _ _ | show guardK _ _ _ _ _ _ _ _ _) | ((with_reducible apply AWp.drawS (id := 9) (t := sc_184_9_XSig8)); (exact mixed); kernel_rfl; kernel_rfl; (repeat (with_reducible first | apply PanQ.then | apply PanQ.block | apply PanQ.body | apply PanQ.no)))); simp -implicitDefEqProofs [aCopy, copyCells])
        | ((with_reducible first | apply AWp.ret | apply AWp.skip | apply AWp.exit); try simp -implicitDefEqProofs [aCopy, copyCells]))
      refine AWp.freeze 7 id (List.replicate 1 (u8 c)) (m := 1) (by simp) (by simp [*]) (by simp) (by simp) (by simp) ?_
      exact gE (D184_XSig8 []) True.intro True.intro
  · refine ACalls.of_body Tryz.func184 rfl rfl (by simp [Tryz.ntmps184]) ?_
    refine gO (D184_XSig8 []) @i1 @h (k := ?_)
    intro id h_id
    rw [show flatZ 2 (AV.sc (.int .u8 0)) = [.sc (.int .u8 0), .sc (.int .u8 0)] from rfl]
    repeat (first
      | (with_reducible first | apply AWp.seq | apply AWp.block | refine And.intro (by first | omega | assumption | decide) ?_)
      | ((first | (with_reducible first | apply AWp.fork | apply AWp.region | show condK _ _ _ | show guardK _ _ _ _ _ _ _ _ _) | ((with_reducible apply AWp.drawS (id := 9) (t := sc_184_9_XSig8)); (exact mixed); kernel_rfl; kernel_rfl; (repeat (with_reducible first | apply PanQ.then | apply PanQ.block | apply PanQ.body | apply PanQ.no)))); simp -implicitDefEqProofs [aCopy, copyCells])
      | ((with_reducible first | apply AWp.ret | apply AWp.skip | apply AWp.exit); try simp -implicitDefEqProofs [aCopy, copyCells]))
    refine AWp.loopA (α := (Nat)) (1) (fun j => 2 - j) (fun j => 1 ≤ j ∧ j ≤ 2) [(4, ?_), (7, ?_)] (fun j => [(8, .sc (.int .i64 j))]) (fun j => σ.set id (.cells 5 (List.replicate j (u8 c) ++ List.replicate (2 - j) (.sc (.int .u8 0))))) ?_ ?_ ?_ ?_
    rotate_left 2
    · (try dsimp only); (simp only [List.cons_append, List.nil_append]; repeat (first | exact FrWk.nil | refine FrWk.cons (by first | (simp -implicitDefEqProofs; done) | exact Wk.of (by (try simp -implicitDefEqProofs) <;> rfl)) ?_))
    · (try dsimp only); (simp; done)
    · exact ⟨by omega, by omega⟩
    intro j hx_
    try dsimp only at hx_ ⊢
    obtain ⟨hj1, hj2⟩ := hx_
    simp only [List.cons_append, List.nil_append]
    have hc3 : j = 1 ∨ j = 2 := by omega
    rcases hc3 with rfl | rfl
    · repeat (first
        | (with_reducible first | apply AWp.seq | apply AWp.block | refine And.intro (by first | omega | assumption | decide) ?_)
        | ((first | (with_reducible first | apply AWp.fork | apply AWp.region | show condK _ _ _ | show guardK _ _ _ _ _ _ _ _ _) | ((with_reducible apply AWp.drawS (id := 9) (t := sc_184_9_XSig8)); (exact mixed); kernel_rfl; kernel_rfl; (repeat (with_reducible first | apply PanQ.then | apply PanQ.block | apply PanQ.body | apply PanQ.no)))); simp -implicitDefEqProofs [aCopy, copyCells])
        | ((with_reducible first | apply AWp.ret | apply AWp.skip | apply AWp.exit); try simp -implicitDefEqProofs [aCopy, copyCells]))
      refine stepA.mk (2) (by (try dsimp only); omega) (by (try dsimp only); (simp only [List.cons_append, List.nil_append]; repeat (first | exact FrWk.nil | refine FrWk.cons (by first | (simp -implicitDefEqProofs; done) | exact Wk.of (by (try simp -implicitDefEqProofs) <;> rfl)) ?_))) (by (try dsimp only); (simp; done)) ?_
      try dsimp only
      exact ⟨by omega, by omega⟩
    · clear hj1
      repeat (first
        | (with_reducible first | apply AWp.seq | apply AWp.block | refine And.intro (by first | omega | assumption | decide) ?_)
        | ((first | (with_reducible first | apply AWp.fork | ((fail_if_success (apply AWp.region (id := 10))); apply AWp.region) | show condK _ _ _ | show guardK _ _ _ _ _ _ _ _ _) | ((with_reducible apply AWp.drawS (id := 9) (t := sc_184_9_XSig8)); (exact mixed); kernel_rfl; kernel_rfl; (repeat (with_reducible first | apply PanQ.then | apply PanQ.block | apply PanQ.body | apply PanQ.no)))); simp -implicitDefEqProofs [aCopy, copyCells])
        | ((with_reducible first | apply AWp.ret | apply AWp.skip | apply AWp.exit); try simp -implicitDefEqProofs [aCopy, copyCells]))
      refine AWp.freeze 7 id (List.replicate 2 (u8 c)) (m := 2) (by simp) (by simp [*]) (by simp) (by simp) (by simp) ?_
      exact gE (D184_XSig8 []) True.intro True.intro
  · refine ACalls.of_body Tryz.func184 rfl rfl (by simp [Tryz.ntmps184]) ?_
    refine gO (D184_XSig8 []) @i1 @h (k := ?_)
    intro id h_id
    rw [show flatZ 3 (AV.sc (.int .u8 0)) = [.sc (.int .u8 0), .sc (.int .u8 0), .sc (.int .u8 0)] from rfl]
    repeat (first
      | (with_reducible first | apply AWp.seq | apply AWp.block | refine And.intro (by first | omega | assumption | decide) ?_)
      | ((first | (with_reducible first | apply AWp.fork | apply AWp.region | show condK _ _ _ | show guardK _ _ _ _ _ _ _ _ _) | ((with_reducible apply AWp.drawS (id := 9) (t := sc_184_9_XSig8)); (exact mixed); kernel_rfl; kernel_rfl; (repeat (with_reducible first | apply PanQ.then | apply PanQ.block | apply PanQ.body | apply PanQ.no)))); simp -implicitDefEqProofs [aCopy, copyCells])
      | ((with_reducible first | apply AWp.ret | apply AWp.skip | apply AWp.exit); try simp -implicitDefEqProofs [aCopy, copyCells]))
    refine AWp.loopA (α := (Nat)) (1) (fun j => 3 - j) (fun j => 1 ≤ j ∧ j ≤ 3) [(4, ?_), (7, ?_)] (fun j => [(8, .sc (.int .i64 j))]) (fun j => σ.set id (.cells 5 (List.replicate j (u8 c) ++ List.replicate (3 - j) (.sc (.int .u8 0))))) ?_ ?_ ?_ ?_
    rotate_left 2
    · (try dsimp only); (simp only [List.cons_append, List.nil_append]; repeat (first | exact FrWk.nil | refine FrWk.cons (by first | (simp -implicitDefEqProofs; done) | exact Wk.of (by (try simp -implicitDefEqProofs) <;> rfl)) ?_))
    · (try dsimp only); (simp; done)
    · exact ⟨by omega, by omega⟩
    intro j hx_
    try dsimp only at hx_ ⊢
    obtain ⟨hj1, hj2⟩ := hx_
    simp only [List.cons_append, List.nil_append]
    have hc3 : j = 1 ∨ j = 2 ∨ j = 3 := by omega
    rcases hc3 with rfl | rfl | rfl
    · repeat (first
        | (with_reducible first | apply AWp.seq | apply AWp.block | refine And.intro (by first | omega | assumption | decide) ?_)
        | ((first | (with_reducible first | apply AWp.fork | apply AWp.region | show condK _ _ _ | show guardK _ _ _ _ _ _ _ _ _) | ((with_reducible apply AWp.drawS (id := 9) (t := sc_184_9_XSig8)); (exact mixed); kernel_rfl; kernel_rfl; (repeat (with_reducible first | apply PanQ.then | apply PanQ.block | apply PanQ.body | apply PanQ.no)))); simp -implicitDefEqProofs [aCopy, copyCells])
        | ((with_reducible first | apply AWp.ret | apply AWp.skip | apply AWp.exit); try simp -implicitDefEqProofs [aCopy, copyCells]))
      refine stepA.mk (2) (by (try dsimp only); omega) (by (try dsimp only); (simp only [List.cons_append, List.nil_append]; repeat (first | exact FrWk.nil | refine FrWk.cons (by first | (simp -implicitDefEqProofs; done) | exact Wk.of (by (try simp -implicitDefEqProofs) <;> rfl)) ?_))) (by (try dsimp only); (simp; done)) ?_
      try dsimp only
      exact ⟨by omega, by omega⟩
    · repeat (first
        | (with_reducible first | apply AWp.seq | apply AWp.block | refine And.intro (by first | omega | assumption | decide) ?_)
        | ((first | (with_reducible first | apply AWp.fork | apply AWp.region | show condK _ _ _ | show guardK _ _ _ _ _ _ _ _ _) | ((with_reducible apply AWp.drawS (id := 9) (t := sc_184_9_XSig8)); (exact mixed); kernel_rfl; kernel_rfl; (repeat (with_reducible first | apply PanQ.then | apply PanQ.block | apply PanQ.body | apply PanQ.no)))); simp -implicitDefEqProofs [aCopy, copyCells])
        | ((with_reducible first | apply AWp.ret | apply AWp.skip | apply AWp.exit); try simp -implicitDefEqProofs [aCopy, copyCells]))
      refine stepA.mk (3) (by (try dsimp only); omega) (by (try dsimp only); (simp only [List.cons_append, List.nil_append]; repeat (first | exact FrWk.nil | refine FrWk.cons (by first | (simp -implicitDefEqProofs; done) | exact Wk.of (by (try simp -implicitDefEqProofs) <;> rfl)) ?_))) (by (try dsimp only); (simp; done)) ?_
      try dsimp only
      exact ⟨by omega, by omega⟩
    · clear hj1
      repeat (first
        | (with_reducible first | apply AWp.seq | apply AWp.block | refine And.intro (by first | omega | assumption | decide) ?_)
        | ((first | (with_reducible first | apply AWp.fork | ((fail_if_success (apply AWp.region (id := 10))); apply AWp.region) | show condK _ _ _ | show guardK _ _ _ _ _ _ _ _ _) | ((with_reducible apply AWp.drawS (id := 9) (t := sc_184_9_XSig8)); (exact mixed); kernel_rfl; kernel_rfl; (repeat (with_reducible first | apply PanQ.then | apply PanQ.block | apply PanQ.body | apply PanQ.no)))); simp -implicitDefEqProofs [aCopy, copyCells])
        | ((with_reducible first | apply AWp.ret | apply AWp.skip | apply AWp.exit); try simp -implicitDefEqProofs [aCopy, copyCells]))
      refine AWp.freeze 7 id (List.replicate 3 (u8 c)) (m := 3) (by simp) (by simp [*]) (by simp) (by simp) (by simp) ?_
      exact gE (D184_XSig8 []) True.intro True.intro
end Sg
end Go.Proofs.YtknalmoackcpbaaGreat
