/- Chapter 03: Put and Join once more, with bytes that may be written to behind it. -/
import Derived.Test.YthpmabablfkekaaStrD
import Derived.Test.YthpmabablfkekaaAwMut
set_option linter.unusedSimpArgs false
set_option linter.unusedVariables false
set_option maxRecDepth 100000
set_option maxHeartbeats 3200000
namespace Go.Proofs.Ythpmabablfkekaa
open Go Go.AW

/-- v are the bytes l, written to by none else. -/
abbrev BV (l : List UInt8) (v : AV) (S τ : AS) : Prop := GV Try.prog 5 (l.map u8) v S τ

theorem clone_gv (l : List UInt8) (own : Own) (hl0 : 0 < l.length) (hl : l.length ≤ 140737488355328) (σ : AS) :
    ACalls Try.prog 24 [.lst 5 (l.map u8) own false] σ (fun r τ => BV l r σ τ) No := by
  refine ACalls.of_body Try.func24 rfl rfl (by simp [Try.ntmps24]) ?_
  repeat (first
    | (with_reducible first | apply AWp.seq | apply AWp.block | refine And.intro (by first | omega | assumption | decide) ?_)
    | ((first | (with_reducible first | apply AWp.fork | ((fail_if_success (apply AWp.region (id := 3))); apply AWp.region) | show condK _ _ _ | show guardK _ _ _ _ _ _ _ _ _)); simp -implicitDefEqProofs [Try.underlying22, hl])
    | ((with_reducible first | apply AWp.ret | apply AWp.skip | apply AWp.exit); try simp -implicitDefEqProofs [Try.underlying22, hl]))
  with_reducible apply AWp.regionS
  refine sOps.first 2 ?_
  simp -implicitDefEqProofs
  refine sOps.sp rfl (SOp.appendF (by decide) 5 (l.map u8) (nl := false) (by simp) (by simp) (by simp) (by simp) (by simp) (by simp [srcElems, Try.underlying22]) (by simp) (by simpa using hl0) (by simp [roomB]; omega) (by simpa using hl) ?_)
  intro v τ hG
  refine sOps.rest ?_
  simp -implicitDefEqProofs
  repeat (first
    | (with_reducible first | apply AWp.seq | apply AWp.block | refine And.intro (by first | omega | assumption | decide) ?_)
    | ((first | (with_reducible first | apply AWp.fork | apply AWp.region)); simp -implicitDefEqProofs)
    | ((with_reducible first | apply AWp.ret | apply AWp.skip | apply AWp.exit); try simp -implicitDefEqProofs))
  exact ⟨_, _, Wk.refl _, AS.le_refl _, hG⟩

theorem put_gv (l : List UInt8) (own : Own) (hl0 : 0 < l.length) (hl : l.length ≤ 1000000) (x n : Int) (hx : 0 ≤ x) (hx2 : x < 18446744073709551616) (hw : wide n = true) (σ : AS) :
    ACalls Try.prog 30 [.lst 5 (l.map u8) own false, .sc (.int .u64 x), .sc (.int .i64 n)] σ
      (fun r τ => ∃ v, r = .tup [v, .sc (.int .i64 0)] ∧ BV (l ++ putB x n.toNat) v σ τ) No := by
  have hn1 : 1 ≤ n ∧ n ≤ 8 := by simp [wide] at hw; omega
  obtain ⟨m, rfl⟩ : ∃ m : Nat, n = m := ⟨n.toNat, by omega⟩
  have hb := fun k => putB_length x k
  refine ACalls.of_body Try.func30 rfl rfl (by simp [Try.ntmps30]) ?_
  repeat (first
    | (with_reducible first | apply AWp.seq | apply AWp.block | refine And.intro (by first | omega | assumption | decide) ?_)
    | ((first | (with_reducible first | apply AWp.fork | apply AWp.region | show condK _ _ _ | show guardK _ _ _ _ _ _ _ _ _)); simp -implicitDefEqProofs [ci_lt, ci_le])
    | ((with_reducible first | apply AWp.ret | apply AWp.skip | apply AWp.exit); try simp -implicitDefEqProofs [ci_lt, ci_le]))
  refine aCall.gives (wide_ok m _) ?_
  simp [hw]
  repeat (first
    | (with_reducible first | apply AWp.seq | apply AWp.block | refine And.intro (by first | omega | assumption | decide) ?_)
    | ((first | (with_reducible first | apply AWp.fork | apply AWp.region | show condK _ _ _ | show guardK _ _ _ _ _ _ _ _ _)); simp -implicitDefEqProofs [ci_lt, ci_le])
    | ((with_reducible first | apply AWp.ret | apply AWp.skip | apply AWp.exit); try simp -implicitDefEqProofs [ci_lt, ci_le]))
  refine aCall.of (clone_gv l own hl0 (by omega) σ) ?_ (fun _ _ h => h.elim)
  intro v0 τ0 hG0
  simp
  repeat (first
    | (with_reducible first | apply AWp.seq | apply AWp.block | refine And.intro (by first | omega | assumption | decide) ?_)
    | ((first | (with_reducible first | apply AWp.fork | apply AWp.region | show condK _ _ _ | show guardK _ _ _ _ _ _ _ _ _)); simp -implicitDefEqProofs [ci_lt, ci_le])
    | ((with_reducible first | apply AWp.ret | apply AWp.skip | apply AWp.exit); try simp -implicitDefEqProofs [ci_lt, ci_le]))
  refine AWp.loopA (α := (Nat) × (AV) × (AS)) ((0, v0, τ0)) (fun ⟨k, v, τ⟩ => m - k) (fun ⟨k, v, τ⟩ => k ≤ m ∧ BV (l ++ putB x k) v σ τ) [(6, ?_), (7, ?_), (14, ?_)] (fun ⟨k, v, τ⟩ => [(1, .sc (.int .u64 (x / 256 ^ k))), (8, v), (15, .sc (.int .i64 k))]) (fun ⟨k, v, τ⟩ => τ) ?_ ?_ ?_ ?_
  rotate_left 3
  · (try dsimp only); (simp only [List.cons_append, List.nil_append]; repeat (first | exact FrWk.nil | refine FrWk.cons (by first | (simp -implicitDefEqProofs [ci_lt, ci_le]; done) | exact Wk.of (by (try simp -implicitDefEqProofs [ci_lt, ci_le]) <;> rfl)) ?_))
  · (try dsimp only); (exact AS.le_refl _)
  · exact ⟨by omega, by simpa [putB] using hG0⟩
  intro x_ hx_
  obtain ⟨k, v, τ⟩ := x_
  try dsimp only at hx_ ⊢
  obtain ⟨hk, hG⟩ := hx_
  simp only [List.cons_append, List.nil_append]
  have hpk : (0 : Int) < 256 ^ k := Int.pow_pos (by omega)
  have hd0 : 0 ≤ x / 256 ^ k := Int.ediv_nonneg hx (by omega)
  by_cases hlt : k < m
  · have wi_k : IntKind.i64.wrap ((k : Int) + 1) = ((k + 1 : Nat) : Int) := ci_wi (by omega)
    repeat (first
      | (with_reducible first | apply AWp.seq | apply AWp.block | refine And.intro (by first | omega | assumption | decide) ?_)
      | ((first | (with_reducible first | apply AWp.fork | ((fail_if_success (apply AWp.region (id := 6))); apply AWp.region) | show condK _ _ _ | show guardK _ _ _ _ _ _ _ _ _)); simp -implicitDefEqProofs [hlt, ci_lt, ci_le, wi_k])
      | ((with_reducible first | apply AWp.ret | apply AWp.skip | apply AWp.exit); try simp -implicitDefEqProofs [hlt, ci_lt, ci_le, wi_k]))
    with_reducible apply AWp.regionS
    refine sOps.first 4 ?_
    simp -implicitDefEqProofs [Try.underlying48, Try.underlying5]
    refine sOps.sp rfl (SOp.appendG (by decide) 5 ((l ++ putB x k).map u8) [.sc (.int .u8 (IntKind.u8.wrap (x / 256 ^ k)))] σ (by simp) (by simp) (by simp) (by simp) (by first | exact hG | (simp -implicitDefEqProofs; rw [← List.map_append]; exact hG)) (by simp [srcElems, Try.underlying22]) (by simp) (by simp [roomB, hb]; omega) (by simp [hb]; omega) ?_)
    intro v2 τ2 hG2
    refine sOps.rest ?_
    simp -implicitDefEqProofs
    have e1 : x / 256 ^ (k + 1) = x / 256 ^ k / 256 := by rw [Int.ediv_ediv_of_nonneg (by omega), Int.pow_succ]
    have e3 : IntKind.u8.wrap (x / 256 ^ k) = ((UInt8.ofNat (x / 256 ^ k % 256).toNat).toNat : Int) := by rw [w_u8]; simp; omega
    have hG3 : BV (l ++ putB x (k + 1)) v2 σ τ2 := by
      rw [e3] at hG2
      have e4 : (l ++ putB x (k + 1)).map u8 = (l ++ putB x k).map u8 ++ [.sc (.int .u8 ((UInt8.ofNat (x / 256 ^ k % 256).toNat).toNat : Int))] := by simp [putB_snoc, u8]
      show GV _ _ _ _ _ _
      rw [e4]; exact hG2
    repeat (first
      | (with_reducible first | apply AWp.seq | apply AWp.block | refine And.intro (by first | omega | assumption | decide) ?_)
      | ((first | (with_reducible first | apply AWp.fork | apply AWp.region | show condK _ _ _ | show guardK _ _ _ _ _ _ _ _ _)); simp -implicitDefEqProofs [Try.underlying48, hlt, ci_lt, ci_le, wi_k])
      | ((with_reducible first | apply AWp.ret | apply AWp.skip | apply AWp.exit); try simp -implicitDefEqProofs [Try.underlying48, hlt, ci_lt, ci_le, wi_k]))
    refine stepA.mk ((k + 1, v2, τ2)) (by (try dsimp only); omega) (by (try dsimp only); (simp only [List.cons_append, List.nil_append]; repeat (first | exact FrWk.nil | refine FrWk.cons (by first | (simp -implicitDefEqProofs [e1, ci_lt, ci_le, wi_k]; done) | exact Wk.of (by (try simp -implicitDefEqProofs [e1, ci_lt, ci_le, wi_k]) <;> rfl)) ?_))) (by (try dsimp only); exact AS.le_refl _) ?_
    try dsimp only
    exact ⟨hlt, hG3⟩
  · have hkm : k = m := by omega
    subst hkm
    repeat (first
      | (with_reducible first | apply AWp.seq | apply AWp.block | refine And.intro (by first | omega | assumption | decide) ?_)
      | ((first | (with_reducible first | apply AWp.fork | apply AWp.region | show condK _ _ _ | show guardK _ _ _ _ _ _ _ _ _)); simp -implicitDefEqProofs [hlt, ci_lt, ci_le])
      | ((with_reducible first | apply AWp.ret | apply AWp.skip | apply AWp.exit); try simp -implicitDefEqProofs [hlt, ci_lt, ci_le]))
    refine ⟨_, _, Wk.refl _, AS.le_refl _, v, rfl, ?_⟩
    simpa using hG

theorem frz5 {n : Nat} {ds : List Deferred} {Q : AQ} {s : Fr} {σ : AS} {c : Code} {i : Nat} {l : List UInt8} {S : AS} {o0 : Own} (hl : 0 < l.length) (hs : (s i = .lst 5 (l.map u8) o0 false ∧ σ = S) ∨ BV l (s i) S σ)
    (h : ∀ o, AWp Try.prog n ds c Q (s.put (some i) (.lst 5 (l.map u8) o false)) S) : AWp Try.prog n ds c Q s σ := by
  rcases hs with ⟨h1, rfl⟩ | h1
  · have e : s.put (some i) (.lst 5 (l.map u8) o0 false) = s := by
      funext j
      simp only [Fr.put]
      by_cases hj : j = i
      · subst hj; simp [h1]
      · simp [hj]
    have := h o0
    rwa [e] at this
  · refine AWp.freezeG i h1 fun nl hn => ?_
    cases nl with
    | false => exact h .unk
    | true => have := hn rfl; simp at this; subst this; simp at hl

theorem bv_len {l : List UInt8} {v : AV} {S τ : AS} (h : BV l v S τ) (τ' : AS) (K : AV → Prop) : aLen Try.prog τ' 22 v K = K (.sc (.int .i64 l.length)) := by
  rcases h with ⟨h1, h2, rfl⟩ | ⟨id, cap, spl, h0, h1, rfl, h3⟩
  · have : l = [] := by simpa using h1
    subst this h2; simp [aLen, Try.underlying22]
  · subst h1; simp [aLen, Try.underlying22]
theorem bv_upd {l : List UInt8} {v : AV} {S τ : AS} {j : Nat} {x b : ABlk} (h : BV l v S τ) (hj : S j = some x) : BV l v (S.set j b) (τ.set j b) := by
  rcases h with ⟨h1, h2, rfl⟩ | ⟨id, cap, spl, h0, h1, rfl, h3⟩
  · exact .inl ⟨h1, h2, rfl⟩
  · have hne : ¬ id = j := by rintro rfl; rw [h0] at hj; cases hj
    exact .inr ⟨id, cap, spl, by simp [AS.set, hne, h0], h1, AS.set_comm hne, h3⟩
theorem bv_get {l : List UInt8} {v : AV} {S τ : AS} (h : BV l v S τ) {j : Nat} {x : ABlk} (hj : S j = some x) : τ j = some x := GV.le h j x hj

theorem tag_src {k : Nat} (hk : k < 4) : srcElems Try.prog 5 9 (.sc (.string (ByteArray.extract ⟨#[82, 79, 87, 83, 78, 65, 77, 69, 66, 76, 79, 66, 67, 79, 68, 69]⟩ (4 * k) (4 * k + 4)))) = some ((tg k).map u8) := by
  rcases (show k = 0 ∨ k = 1 ∨ k = 2 ∨ k = 3 by omega) with rfl | rfl | rfl | rfl <;> kernel_rfl

theorem join_gv (a0 a1 a2 a3 : List UInt8 × Bool) (o0 o1 o2 o3 : Own) (hl : ∀ j, (nth4 a0 a1 a2 a3 j).1.length ≤ 4000) (σ : AS) :
    ACalls Try.prog 16 [stO a0 a1 a2 a3 o0 o1 o2 o3] σ
      (fun r τ => ∃ v, r = .tup [v, .sc (.int .i64 0)] ∧ BV (joinL (fun k => (nth4 a0 a1 a2 a3 k).1)) v σ τ) No := by
  have q0 : (65536 < (a0.1.length : Int)) = False := by have := hl 0; simp [nth4] at this ⊢; omega
  have q1 : (65536 < (a1.1.length : Int)) = False := by have := hl 1; simp [nth4] at this ⊢; omega
  have q2 : (65536 < (a2.1.length : Int)) = False := by have := hl 2; simp [nth4] at this ⊢; omega
  have q3 : (65536 < (a3.1.length : Int)) = False := by have := hl 3; simp [nth4] at this ⊢; omega
  generalize hsd : (fun k => (nth4 a0 a1 a2 a3 k).1) = s
  have hsk : ∀ k, (nth4 a0 a1 a2 a3 k).1 = s k := fun k => by rw [← hsd]
  have hs4 : ∀ k, (s k).length ≤ 4000 := fun k => by rw [← hsk]; exact hl k
  simp only [stO]
  refine ACalls.of_body Try.func16 rfl rfl (by simp [Try.ntmps16]) ?_
  have hg := fun k hk => get4 a0 a1 a2 a3 o0 o1 o2 o3 (k := k) hk
  simp only [sO] at hg ⊢
  repeat (first
    | (with_reducible first | apply AWp.seq | apply AWp.block | refine And.intro (by first | omega | assumption | decide) ?_)
    | ((first | (with_reducible first | apply AWp.fork | ((fail_if_success (apply AWp.region (id := 4))); apply AWp.region))); simp -implicitDefEqProofs)
    | ((with_reducible first | apply AWp.ret | apply AWp.skip | apply AWp.exit); try simp -implicitDefEqProofs))
  intro id1 h_id1
  repeat (first
    | (with_reducible first | apply AWp.seq | apply AWp.block | refine And.intro (by first | omega | assumption | decide) ?_)
    | ((first | (with_reducible first | apply AWp.fork | ((fail_if_success (apply AWp.region (id := 4))); apply AWp.region))); simp -implicitDefEqProofs)
    | ((with_reducible first | apply AWp.ret | apply AWp.skip | apply AWp.exit); try simp -implicitDefEqProofs))
  intro id4 n_id4_id1 h_id4
  have n_id1_id4 : ¬ id1 = id4 := fun e => n_id4_id1 e.symm
  repeat (first
    | (with_reducible first | apply AWp.seq | apply AWp.block | refine And.intro (by first | omega | assumption | decide) ?_)
    | ((first | (with_reducible first | apply AWp.fork | ((fail_if_success (apply AWp.region (id := 4))); apply AWp.region) | show condK _ _ _ | show guardK _ _ _ _ _ _ _ _ _)); simp -implicitDefEqProofs [q0, q1, q2, q3, n_id4_id1, n_id1_id4])
    | ((with_reducible first | apply AWp.ret | apply AWp.skip | apply AWp.exit); try simp -implicitDefEqProofs [q0, q1, q2, q3, n_id4_id1, n_id1_id4]))
  with_reducible apply AWp.regionS
  refine sOps.sp rfl (SOp.buildM (by decide) ?_)
  simp -implicitDefEqProofs [aBuildSliceM]
  intro id5 n_id5_id4 n_id5_id1 h_id5
  refine sOps.sp rfl (SOp.convF (by decide) id5 (e := 5) (m := 8) (([67, 71, 82, 68, 1, 0, 4, 0] : List UInt8).map u8) (by simp [n_id5_id4, n_id5_id1, h_id5]) Try.underlying22 rfl Try.underlying5 (by simp) (by simp) (by simp) rfl ?_)
  refine sOps.rest ?_
  simp -implicitDefEqProofs
  repeat (first
    | (with_reducible first | apply AWp.seq | apply AWp.block | refine And.intro (by first | omega | assumption | decide) ?_)
    | ((first | (with_reducible first | apply AWp.fork | apply AWp.region | show condK _ _ _ | show guardK _ _ _ _ _ _ _ _ _)); simp -implicitDefEqProofs [n_id4_id1, n_id1_id4])
    | ((with_reducible first | apply AWp.ret | apply AWp.skip | apply AWp.exit); try simp -implicitDefEqProofs [n_id4_id1, n_id1_id4]))
  intro id7 n_id7_id4 n_id7_id1 h_id7
  have n_id4_id7 : ¬ id4 = id7 := fun e => n_id7_id4 e.symm
  have n_id1_id7 : ¬ id1 = id7 := fun e => n_id7_id1 e.symm
  obtain ⟨B4, hB4⟩ : ∃ x, x = ABlk.cells 54 [AV.lst 5 (a0.1.map u8) o0 a0.2, AV.lst 5 (a1.1.map u8) o1 a1.2, AV.lst 5 (a2.1.map u8) o2 a2.2, AV.lst 5 (a3.1.map u8) o3 a3.2] := ⟨_, rfl⟩
  obtain ⟨B1, hB1⟩ : ∃ x, x = ABlk.cells 25 [AV.lst 5 (a0.1.map u8) o0 a0.2, AV.lst 5 (a1.1.map u8) o1 a1.2, AV.lst 5 (a2.1.map u8) o2 a2.2, AV.lst 5 (a3.1.map u8) o3 a3.2] := ⟨_, rfl⟩
  simp only [← hB4, ← hB1]
  obtain ⟨B, hB⟩ : ∃ B : AS, B = (σ.set id1 B1).set id4 B4 := ⟨_, rfl⟩
  simp only [← hB]
  have hBi4 : B id4 = some B4 := by rw [hB]; simp
  have hBi7 : B id7 = none := by rw [hB]; simp [h_id7, n_id7_id4, n_id7_id1]
  have hBle : AS.le σ B := by rw [hB]; exact AS.le_set (AS.le_set (AS.le_refl _) h_id1) (by simp [n_id4_id1, h_id4])
  have hS7 : ∀ Pl : List Int, (B.set id7 (.cells 69 (Pl.map i64v))) id7 = some (.cells 69 (Pl.map i64v)) := fun Pl => by simp
  have hS4 : ∀ Pl : List Int, (B.set id7 (.cells 69 (Pl.map i64v))) id4 = some B4 := fun Pl => by simp [n_id4_id7, hBi4]
  repeat (first
    | (with_reducible first | apply AWp.seq | apply AWp.block | refine And.intro (by first | omega | assumption | decide) ?_)
    | ((first | (with_reducible first | apply AWp.fork | apply AWp.region | show condK _ _ _ | show guardK _ _ _ _ _ _ _ _ _)); simp -implicitDefEqProofs [n_id4_id1, n_id1_id4, n_id7_id4, n_id4_id7, n_id7_id1, n_id1_id7])
    | ((with_reducible first | apply AWp.ret | apply AWp.skip | apply AWp.exit); try simp -implicitDefEqProofs [n_id4_id1, n_id1_id4, n_id7_id4, n_id4_id7, n_id7_id1, n_id1_id7]))
  refine AWp.loopA (α := (Nat) × (AV) × (List Int) × (AS)) ((0, .lst 5 ((hdP s 0).map u8) .full false, [0, 0, 0, 0], B.set id7 (.cells 69 (([0, 0, 0, 0] : List Int).map i64v)))) (fun ⟨k, v, Pl, τ⟩ => 4 - k) (fun ⟨k, v, Pl, τ⟩ => k ≤ 4 ∧ Pl.length = 4 ∧ (∀ j, j < k → Pl[j]? = some (plc s j : Int)) ∧ ((k = 0 ∧ v = .lst 5 ((hdP s k).map u8) .full false ∧ τ = B.set id7 (.cells 69 (Pl.map i64v))) ∨ (0 < k ∧ BV (hdP s k) v (B.set id7 (.cells 69 (Pl.map i64v))) τ))) [(2, ?_), (3, ?_), (4, ?_), (7, ?_)] (fun ⟨k, v, Pl, τ⟩ => [(5, v), (6, .sc (.int .i64 ((56 + (bdP s k).length : Nat) : Int))), (36, .sc (.int .i64 k))]) (fun ⟨k, v, Pl, τ⟩ => τ) ?_ ?_ ?_ ?_
  rotate_left 4
  · (try dsimp only); (simp only [List.cons_append, List.nil_append]; repeat (first | exact FrWk.nil | refine FrWk.cons (by first | (simp -implicitDefEqProofs [n_id4_id1, n_id1_id4, n_id7_id4, n_id4_id7, n_id7_id1, n_id1_id7]; done) | exact Wk.of (by (try simp -implicitDefEqProofs [n_id4_id1, n_id1_id4, n_id7_id4, n_id4_id7, n_id7_id1, n_id1_id7]) <;> rfl)) ?_))
  · (try dsimp only); (simp [i64v_def]; done)
  · exact ⟨by omega, rfl, fun j hj => by omega, .inl ⟨rfl, rfl, rfl⟩⟩
  intro x_ hx_
  obtain ⟨k, v, Pl, τ⟩ := x_
  try dsimp only at hx_ ⊢
  obtain ⟨hk, hPl, hPj, hX⟩ := hx_
  simp only [List.cons_append, List.nil_append]
  have hbd := bdP_len (s := s) (k := k) (N := 4000) (fun j _ => hs4 j)
  have hbd' : (bdP s k).length ≤ 16012 := by
    have : k * (4000 + 3) ≤ 4 * 4003 := Nat.mul_le_mul hk (by omega)
    omega
  have hup := pad_up (bdP s k).length
  have hpl := pad_lt (bdP s k).length
  have hHl := hdP_len s k
  by_cases hlt : k < 4
  · have hK : ((k : Int) < 4) = True := by simp; omega
    have hH : hdP s (k + 1) = hdP s k ++ putB (plc s k) 4 ++ putB (s k).length 4 ++ tg k := rfl
    have hpn : 56 + (bdP s (k + 1)).length = plc s k + (s k).length := by simp only [bdP, plc, List.length_append, List.length_replicate]; omega
    have hP1 : plc s k = (56 + (bdP s k).length + 3) / 4 * 4 := by rw [plc]; omega
    have hP2 : plc s k < 20000 := by rw [plc]; omega
    have hlk := hs4 k
    refine frz5 (i := 5) (l := hdP s k) (S := B.set id7 (.cells 69 (Pl.map i64v))) (o0 := .full) (by omega) ?_ ?_
    · rcases hX with ⟨rfl, rfl, rfl⟩ | ⟨_, hG⟩
      · exact .inl ⟨by simp, rfl⟩
      · exact .inr (by simpa using hG)
    intro o
    clear hX
    generalize 56 + (bdP s k).length = A at hP1 hup ⊢
    obtain ⟨p, hpp⟩ : ∃ p, plc s k = p := ⟨_, rfl⟩
    rw [hpp] at hH hpn hP1 hP2
    have e1 : IntKind.i64.wrap ((A : Int) + 3) = (A : Int) + 3 := in_i64 (by omega) (by omega)
    have e2 : ((A : Int) + 3).tdiv 4 = (((A + 3) / 4 : Nat) : Int) := by rw [Int.tdiv_eq_ediv_of_nonneg (by omega)]; omega
    generalize (A + 3) / 4 = q at *
    have e3 : IntKind.i64.wrap (q : Int) = (q : Int) := in_i64 (by omega) (by omega)
    have e4 : IntKind.i64.wrap ((q : Int) * 4) = (p : Int) := by rw [in_i64 (by omega) (by omega)]; omega
    have e5 : IntKind.u64.wrap (p : Int) = (p : Int) := in_u64 (by omega) (by omega)
    have e6 : IntKind.u64.wrap ((s k).length : Int) = ((s k).length : Int) := in_u64 (by omega) (by omega)
    have e7 : IntKind.i64.wrap ((p : Int) + (s k).length) = ((p + (s k).length : Nat) : Int) := by rw [in_i64 (by omega) (by omega)]; simp
    have hp1 := fun σ => put_gv (hdP s k) o (by omega) (by omega) p 4 (by omega) (by omega) rfl σ
    have hp2 := fun o σ => put_gv (hdP s k ++ putB p 4) o (by simp; omega) (by simp [putB_length]; omega) (s k).length 4 (by omega) (by omega) rfl σ
    simp only [show (4 : Int).toNat = 4 from rfl] at hp1 hp2
    have hgk := hg k hlt
    rw [hsk k] at hgk
    have hgk2 : ∀ h, [AV.lst 5 (a0.1.map u8) o0 a0.2, AV.lst 5 (a1.1.map u8) o1 a1.2, AV.lst 5 (a2.1.map u8) o2 a2.2, AV.lst 5 (a3.1.map u8) o3 a3.2][k]'h = AV.lst 5 ((s k).map u8) (nth4 o0 o1 o2 o3 k) (nth4 a0 a1 a2 a3 k).2 := fun h => (List.getElem?_eq_some_iff.1 hgk).2
    have hkP : k < Pl.length := by omega
    have hkPl : k < (Pl.map i64v).length := by simpa using hkP
    have hcut : List.take k (List.map i64v Pl) ++ AV.sc (Value.int IntKind.i64 p) :: List.drop (k + 1) (List.map i64v Pl) = (Pl.set k (p : Int)).map i64v := by
      rw [List.map_set, List.set_eq_take_append_cons_drop, if_pos hkPl]; rfl
    repeat (first
      | (with_reducible first | apply AWp.seq | apply AWp.block | refine And.intro (by first | omega | assumption | decide) ?_)
      | ((first | (with_reducible first | apply AWp.fork | ((fail_if_success (apply AWp.region (id := 14))); (fail_if_success (apply AWp.region (id := 15))); apply AWp.region) | show condK _ _ _ | show guardK _ _ _ _ _ _ _ _ _) | ((with_reducible apply aCall.id); first | apply aCall.gives (pick_ok id4 k hlt _))); simp -implicitDefEqProofs [hK, e1, e2, e3, e4, hgk2, hkP, hlt, e5, e6, hcut, hBi4, hB4, n_id4_id1, n_id1_id4, n_id7_id4, n_id4_id7, n_id7_id1, n_id1_id7])
      | ((with_reducible first | apply AWp.ret | apply AWp.skip | apply AWp.exit); try simp -implicitDefEqProofs [hK, e1, e2, e3, e4, hgk2, hkP, hlt, e5, e6, hcut, hBi4, hB4, n_id4_id1, n_id1_id4, n_id7_id4, n_id4_id7, n_id7_id1, n_id1_id7]))
    rw [show (List.map i64v Pl).set k (i64v p) = (Pl.set k (p : Int)).map i64v by rw [List.map_set]]
    obtain ⟨Pl2, hPl2⟩ : ∃ x, x = Pl.set k (p : Int) := ⟨_, rfl⟩
    rw [← hPl2]
    have hPl3 : Pl2.length = 4 := by rw [hPl2]; simpa using hPl
    have hPj2 : ∀ j, j < k + 1 → Pl2[j]? = some (plc s j : Int) := by
      intro j hj
      rw [hPl2, List.getElem?_set]
      by_cases hj2 : k = j
      · subst hj2; simp [hkP, hpp]
      · rw [if_neg hj2]
        exact hPj j (by omega)
    refine aCall.of (hp1 _) ?_ (fun _ _ h => h.elim)
    rintro r τ1 ⟨v1, rfl, hG1⟩
    simp -implicitDefEqProofs [n_id4_id1, n_id1_id4, n_id7_id4, n_id4_id7, n_id7_id1, n_id1_id7]
    repeat (first
      | (with_reducible first | apply AWp.seq | apply AWp.block | refine And.intro (by first | omega | assumption | decide) ?_)
      | ((first | (with_reducible first | apply AWp.fork | ((fail_if_success (apply AWp.region (id := 14))); (fail_if_success (apply AWp.region (id := 15))); apply AWp.region) | show condK _ _ _ | show guardK _ _ _ _ _ _ _ _ _)); simp -implicitDefEqProofs [n_id4_id1, n_id1_id4, n_id7_id4, n_id4_id7, n_id7_id1, n_id1_id7])
      | ((with_reducible first | apply AWp.ret | apply AWp.skip | apply AWp.exit); try simp -implicitDefEqProofs [n_id4_id1, n_id1_id4, n_id7_id4, n_id4_id7, n_id7_id1, n_id1_id7]))
    refine frz5 (i := 5) (l := hdP s k ++ putB p 4) (S := B.set id7 (.cells 69 (Pl2.map i64v))) (o0 := .full) (by simp; omega) (.inr (by simpa using hG1)) ?_
    intro o1
    clear hG1 hp1
    repeat (first
      | (with_reducible first | apply AWp.seq | apply AWp.block | refine And.intro (by first | omega | assumption | decide) ?_)
      | ((first | (with_reducible first | apply AWp.fork | ((fail_if_success (apply AWp.region (id := 15))); apply AWp.region) | show condK _ _ _ | show guardK _ _ _ _ _ _ _ _ _)); simp -implicitDefEqProofs [e5, e6, n_id4_id1, n_id1_id4, n_id7_id4, n_id4_id7, n_id7_id1, n_id1_id7])
      | ((with_reducible first | apply AWp.ret | apply AWp.skip | apply AWp.exit); try simp -implicitDefEqProofs [e5, e6, n_id4_id1, n_id1_id4, n_id7_id4, n_id4_id7, n_id7_id1, n_id1_id7]))
    rw [← List.map_append]
    refine aCall.of (hp2 _ _) ?_ (fun _ _ h => h.elim)
    rintro r τ2 ⟨v2, rfl, hG2⟩
    clear hp2
    have e8 : IntKind.i64.wrap (4 * (k : Int)) = 4 * (k : Int) := in_i64 (by omega) (by omega)
    have e9 : IntKind.i64.wrap (4 * (k : Int) + 4) = 4 * (k : Int) + 4 := in_i64 (by omega) (by omega)
    have e10 : (4 * (k : Int)).toNat = 4 * k := by omega
    have e11 : (4 * (k : Int) + 4).toNat = 4 * k + 4 := by omega
    simp -implicitDefEqProofs [n_id4_id1, n_id1_id4, n_id7_id4, n_id4_id7, n_id7_id1, n_id1_id7]
    repeat (first
      | (with_reducible first | apply AWp.seq | apply AWp.block | refine And.intro (by first | omega | assumption | decide) ?_)
      | ((first | (with_reducible first | apply AWp.fork | ((fail_if_success (apply AWp.region (id := 15))); apply AWp.region) | show condK _ _ _ | show guardK _ _ _ _ _ _ _ _ _)); simp -implicitDefEqProofs [n_id4_id1, n_id1_id4, n_id7_id4, n_id4_id7, n_id7_id1, n_id1_id7])
      | ((with_reducible first | apply AWp.ret | apply AWp.skip | apply AWp.exit); try simp -implicitDefEqProofs [n_id4_id1, n_id1_id4, n_id7_id4, n_id4_id7, n_id7_id1, n_id1_id7]))
    with_reducible apply AWp.regionS
    refine sOps.first 7 ?_
    simp -implicitDefEqProofs [e8, e9, e10, e11]
    refine ⟨by omega, by omega, by omega, ?_⟩
    have hts := tag_src hlt
    have hL2 : hdP s k ++ putB p 4 ++ putB (s k).length 4 ++ tg k = hdP s (k + 1) := hH.symm
    have hl2 : (hdP s k ++ putB p 4 ++ putB (s k).length 4).length ≤ 1000 := by simp [putB_length]; omega
    have htl := tg_len k
    refine sOps.sp rfl (SOp.appendG (by decide) 5 ((hdP s k ++ putB p 4 ++ putB (s k).length 4).map u8) ((tg k).map u8) (B.set id7 (.cells 69 (Pl2.map i64v))) (by simp) (by simp) (by simp) (by simp) (by exact hG2) (by exact hts) (by simp) (by rw [List.length_map, List.length_map]; simp [roomB, htl, putB_length]; omega) (by rw [List.length_map, List.length_map]; omega) ?_)
    intro v3 τ3 hG3
    refine sOps.rest ?_
    simp -implicitDefEqProofs
    rw [← List.map_append, hL2] at hG3
    have wi_k : IntKind.i64.wrap ((k : Int) + 1) = ((k + 1 : Nat) : Int) := ci_wi (by omega)
    repeat (first
      | (with_reducible first | apply AWp.seq | apply AWp.block | refine And.intro (by first | omega | assumption | decide) ?_)
      | ((first | (with_reducible first | apply AWp.fork | apply AWp.region | show condK _ _ _ | show guardK _ _ _ _ _ _ _ _ _)); simp -implicitDefEqProofs [e7, hpn, n_id4_id1, n_id1_id4, n_id7_id4, n_id4_id7, n_id7_id1, n_id1_id7, wi_k])
      | ((with_reducible first | apply AWp.ret | apply AWp.skip | apply AWp.exit); try simp -implicitDefEqProofs [e7, hpn, n_id4_id1, n_id1_id4, n_id7_id4, n_id4_id7, n_id7_id1, n_id1_id7, wi_k]))
    have hpn2 : (56 : Int) + (bdP s (k + 1)).length = (p : Int) + (s k).length := by omega
    refine stepA.mk ((k + 1, v3, Pl2, τ3)) (by (try dsimp only); omega) (by (try dsimp only); (simp only [List.cons_append, List.nil_append]; repeat (first | exact FrWk.nil | refine FrWk.cons (by first | (simp -implicitDefEqProofs [e7, hpn2, n_id4_id1, n_id1_id4, n_id7_id4, n_id4_id7, n_id7_id1, n_id1_id7, wi_k]; done) | exact Wk.of (by (try simp -implicitDefEqProofs [e7, hpn2, n_id4_id1, n_id1_id4, n_id7_id4, n_id4_id7, n_id7_id1, n_id1_id7, wi_k]) <;> rfl)) ?_))) (by (try dsimp only); exact AS.le_refl _) ?_
    try dsimp only
    exact ⟨hlt, hPl3, hPj2, .inr ⟨by omega, hG3⟩⟩
  · have hK : ((k : Int) < 4) = False := by simp; omega
    obtain rfl : k = 4 := by omega
    have hG : BV (hdP s 4) v (B.set id7 (.cells 69 (Pl.map i64v))) τ := by
      rcases hX with ⟨h, _⟩ | ⟨_, h⟩
      · cases h
      · exact h
    clear hX
    have hA : ((65536 : Int) < 56 + ((bdP s 4).length : Int)) = False := by simp; omega
    repeat (first
      | (with_reducible first | apply AWp.seq | apply AWp.block | refine And.intro (by first | omega | assumption | decide) ?_)
      | ((first | (with_reducible first | apply AWp.fork | apply AWp.region | show condK _ _ _ | show guardK _ _ _ _ _ _ _ _ _)); simp -implicitDefEqProofs [hK, hA, n_id4_id1, n_id1_id4, n_id7_id4, n_id4_id7, n_id7_id1, n_id1_id7])
      | ((with_reducible first | apply AWp.ret | apply AWp.skip | apply AWp.exit); try simp -implicitDefEqProofs [hK, hA, n_id4_id1, n_id1_id4, n_id7_id4, n_id4_id7, n_id7_id1, n_id1_id7]))
    have hjl : joinL s = hdP s 4 ++ bdP s 4 := rfl
    rw [hjl]
    generalize hH4 : hdP s 4 = H at hHl hG
    have hS7 : (B.set id7 (.cells 69 (Pl.map i64v))) id7 = some (.cells 69 (Pl.map i64v)) := hS7 Pl
    have hS4 := hS4 Pl
    have hSle : AS.le σ (B.set id7 (.cells 69 (Pl.map i64v))) := AS.le_set hBle h_id7
    generalize B.set id7 (.cells 69 (Pl.map i64v)) = S at hG hS7 hS4 hSle
    refine AWp.loopA (α := (Nat) × (AV) × (AS)) ((0, v, τ)) (fun ⟨j, v, τ⟩ => 4 - j) (fun ⟨j, v, τ⟩ => j ≤ 4 ∧ BV (H ++ bdP s j) v S τ) [(2, ?_), (3, ?_), (4, ?_), (7, ?_)] (fun ⟨j, v, τ⟩ => [(5, v), (79, .sc (.int .i64 j))]) (fun ⟨j, v, τ⟩ => τ) ?_ ?_ ?_ ?_
    rotate_left 4
    · (try dsimp only); (simp only [List.cons_append, List.nil_append]; repeat (first | exact FrWk.nil | refine FrWk.cons (by first | (simp -implicitDefEqProofs [n_id4_id1, n_id1_id4, n_id7_id4, n_id4_id7, n_id7_id1, n_id1_id7]; done) | exact Wk.of (by (try simp -implicitDefEqProofs [n_id4_id1, n_id1_id4, n_id7_id4, n_id4_id7, n_id7_id1, n_id1_id7]) <;> rfl)) ?_))
    · (try dsimp only); (exact AS.le_refl _)
    · exact ⟨by omega, by simpa [bdP] using hG⟩
    intro x_ hx_
    obtain ⟨j, v, τ⟩ := x_
    try dsimp only at hx_ ⊢
    obtain ⟨hj, hG⟩ := hx_
    simp only [List.cons_append, List.nil_append]
    have g7 := bv_get hG hS7
    have g4 := bv_get hG hS4
    rw [hB4] at g4
    have hbj := bdP_len (s := s) (k := j) (N := 4000) (fun j _ => hs4 j)
    have hbj' : (bdP s j).length ≤ 16012 := by
      have : j * (4000 + 3) ≤ 4 * 4003 := Nat.mul_le_mul hj (by omega)
      omega
    have hpl := pad_lt (bdP s j).length
    by_cases hjl4 : j < 4
    · have hJ : ((j : Int) < 4) = True := by simp; omega
      have hbd1 : bdP s (j + 1) = bdP s j ++ List.replicate (pad (bdP s j).length) 0 ++ s j := rfl
      have hPv := hPj j hjl4
      have hpd : plc s j = H.length + (bdP s j).length + pad (bdP s j).length := by rw [plc, hHl]
      have hkP : j < Pl.length := by omega
      have hPv2 : ∀ h, Pl[j]'h = (plc s j : Int) := fun h => (List.getElem?_eq_some_iff.1 hPv).2
      generalize plc s j = p at *
      generalize hpdd : pad (bdP s j).length = d at *
      have e1 : IntKind.i64.wrap ((p : Int) - ((H.length : Int) + ((bdP s j).length : Int))) = (d : Int) := by rw [in_i64 (by omega) (by omega)]; omega
      have hgk := hg j hjl4
      rw [hsk j] at hgk
      have hgk2 : ∀ h, [AV.lst 5 (a0.1.map u8) o0 a0.2, AV.lst 5 (a1.1.map u8) o1 a1.2, AV.lst 5 (a2.1.map u8) o2 a2.2, AV.lst 5 (a3.1.map u8) o3 a3.2][j]'h = AV.lst 5 ((s j).map u8) (nth4 o0 o1 o2 o3 j) (nth4 a0 a1 a2 a3 j).2 := fun h => (List.getElem?_eq_some_iff.1 hgk).2
      have hlj := hs4 j
      have d1 : (d : Int) ≤ 1000000 := by omega
      have hgl := bv_len hG
      repeat (first
        | (with_reducible first | apply AWp.seq | apply AWp.block | refine And.intro (by first | omega | assumption | decide) ?_)
        | ((first | (with_reducible first | apply AWp.fork | ((fail_if_success (apply AWp.region (id := 23))); (fail_if_success (apply AWp.region (id := 24))); apply AWp.region) | show condK _ _ _ | show guardK _ _ _ _ _ _ _ _ _)); simp -implicitDefEqProofs [hJ, hjl4, n_id4_id1, n_id1_id4, n_id7_id4, n_id4_id7, n_id7_id1, n_id1_id7])
        | ((with_reducible first | apply AWp.ret | apply AWp.skip | apply AWp.exit); try simp -implicitDefEqProofs [hJ, hjl4, n_id4_id1, n_id1_id4, n_id7_id4, n_id4_id7, n_id7_id1, n_id1_id7]))
      with_reducible apply AWp.regionS
      refine sOps.first 7 ?_
      simp -implicitDefEqProofs [↓hgl, g7, hkP, hPv2, i64v_def, e1]
      refine ⟨by omega, ?_⟩
      have hz0 : zeroAV Try.prog 5 = u8 0 := by kernel_rfl
      refine sOps.sp rfl (SOp.appendG (by decide) 5 ((H ++ bdP s j).map u8) ((List.replicate d 0).map u8) S (by simp) (by simp) (by simp) (by simp) (by exact hG) (by simp [srcElems, Try.underlying3, d1, hz0]) (by simp) (by rw [List.length_map, List.length_map]; simp [roomB]; omega) (by rw [List.length_map, List.length_map]; simp; omega) ?_)
      intro v2 τ2 hG2
      rw [← List.map_append] at hG2
      refine sOps.rest ?_
      simp -implicitDefEqProofs
      have g4' := bv_get hG2 hS4
      rw [hB4] at g4'
      repeat (first
        | (with_reducible first | apply AWp.seq | apply AWp.block | refine And.intro (by first | omega | assumption | decide) ?_)
        | ((first | (with_reducible first | apply AWp.fork | ((fail_if_success (apply AWp.region (id := 24))); apply AWp.region) | show condK _ _ _ | show guardK _ _ _ _ _ _ _ _ _)); simp -implicitDefEqProofs [n_id4_id1, n_id1_id4, n_id7_id4, n_id4_id7, n_id7_id1, n_id1_id7])
        | ((with_reducible first | apply AWp.ret | apply AWp.skip | apply AWp.exit); try simp -implicitDefEqProofs [n_id4_id1, n_id1_id4, n_id7_id4, n_id4_id7, n_id7_id1, n_id1_id7]))
      with_reducible apply AWp.regionS
      refine sOps.first 5 ?_
      simp -implicitDefEqProofs
      refine aCall.gives (pick_ok id4 j hjl4 _) ?_
      simp -implicitDefEqProofs [g4', hjl4, hgk2]
      refine sOps.sp rfl (SOp.appendG (by decide) 5 ((H ++ bdP s j ++ List.replicate d 0).map u8) ((s j).map u8) S (by simp) (by simp) (by simp) (by simp) (by exact hG2) (by simp [srcElems, Try.underlying22]) (by simp) (by rw [List.length_map, List.length_map]; simp [roomB]; omega) (by rw [List.length_map, List.length_map]; simp; omega) ?_)
      intro v3 τ3 hG3
      have hE : H ++ bdP s j ++ List.replicate d 0 ++ s j = H ++ bdP s (j + 1) := by rw [hbd1]; simp [List.append_assoc]
      rw [← List.map_append, hE] at hG3
      refine sOps.rest ?_
      simp -implicitDefEqProofs
      have wi_j : IntKind.i64.wrap ((j : Int) + 1) = ((j + 1 : Nat) : Int) := ci_wi (by omega)
      repeat (first
        | (with_reducible first | apply AWp.seq | apply AWp.block | refine And.intro (by first | omega | assumption | decide) ?_)
        | ((first | (with_reducible first | apply AWp.fork | apply AWp.region | show condK _ _ _ | show guardK _ _ _ _ _ _ _ _ _)); simp -implicitDefEqProofs [n_id4_id1, n_id1_id4, n_id7_id4, n_id4_id7, n_id7_id1, n_id1_id7, wi_j])
        | ((with_reducible first | apply AWp.ret | apply AWp.skip | apply AWp.exit); try simp -implicitDefEqProofs [n_id4_id1, n_id1_id4, n_id7_id4, n_id4_id7, n_id7_id1, n_id1_id7, wi_j]))
      refine stepA.mk ((j + 1, v3, τ3)) (by (try dsimp only); omega) (by (try dsimp only); (simp only [List.cons_append, List.nil_append]; repeat (first | exact FrWk.nil | refine FrWk.cons (by first | (simp -implicitDefEqProofs [n_id4_id1, n_id1_id4, n_id7_id4, n_id4_id7, n_id7_id1, n_id1_id7, wi_j]; done) | exact Wk.of (by (try simp -implicitDefEqProofs [n_id4_id1, n_id1_id4, n_id7_id4, n_id4_id7, n_id7_id1, n_id1_id7, wi_j]) <;> rfl)) ?_))) (by (try dsimp only); exact AS.le_refl _) ?_
      try dsimp only
      exact ⟨hjl4, hG3⟩
    · have hJ : ((j : Int) < 4) = False := by simp; omega
      obtain rfl : j = 4 := by omega
      repeat (first
        | (with_reducible first | apply AWp.seq | apply AWp.block | refine And.intro (by first | omega | assumption | decide) ?_)
        | ((first | (with_reducible first | apply AWp.fork | apply AWp.region | show condK _ _ _ | show guardK _ _ _ _ _ _ _ _ _)); simp -implicitDefEqProofs [hJ, n_id4_id1, n_id1_id4, n_id7_id4, n_id4_id7, n_id7_id1, n_id1_id7])
        | ((with_reducible first | apply AWp.ret | apply AWp.skip | apply AWp.exit); try simp -implicitDefEqProofs [hJ, n_id4_id1, n_id1_id4, n_id7_id4, n_id4_id7, n_id7_id1, n_id1_id7]))
      obtain ⟨τ3, hG3, hle3⟩ := hG.weak hSle
      exact ⟨_, τ3, Wk.refl _, hle3, v, rfl, hG3⟩

end Go.Proofs.Ythpmabablfkekaa
