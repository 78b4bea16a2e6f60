/- Chapter 03: streams are joined, by the document. -/
import Derived.Test.YthpmabablfkekaaStr6
set_option linter.unusedSimpArgs false
set_option linter.unusedVariables false
set_option maxRecDepth 100000
set_option maxHeartbeats 3200000
namespace Go.Proofs.Ythpmabablfkekaa
open Go Go.AW

def rjA (id1 : Nat) (B : AS) (m : Nat) (f : Fr) (σ' : AS) : Prop :=
  ∃ k : Nat, m = 4 - k ∧ k ≤ 4 ∧ σ' = B ∧ f = mkF [(1, .ptr id1 0), (4, .sc (.int .i64 k))]
def rjB (s : Nat → List UInt8) (id1 th tb : Nat) (B : AS) (m : Nat) (f : Fr) (σ' : AS) : Prop :=
  ∃ (k : Nat) (nl : Bool), m = 4 - k ∧ k ≤ 4 ∧ σ' = (B.set th (.tok (hdP s k).length)).set tb (.tok (bdP s k).length) ∧
    f = mkF [(1, .ptr id1 0), (5, .lst 5 ((hdP s k).map u8) (.tok th) false), (6, .lst 5 ((bdP s k).map u8) (.tok tb) nl), (7, .sc (.int .i64 k))]
def rjC (bd : List UInt8) (H : List UInt8) (k : Nat) (id1 th tb : Nat) (B : AS) (m : Nat) (f : Fr) (σ' : AS) : Prop :=
  ∃ (r : Nat) (nl : Bool), m = pad bd.length - r ∧ r ≤ pad bd.length ∧ σ' = B.set tb (.tok (bd.length + r)) ∧
    f = mkF [(1, .ptr id1 0), (5, .lst 5 (H.map u8) (.tok th) false), (6, .lst 5 (bd.map u8 ++ List.replicate r (u8 0)) (.tok tb) nl), (7, .sc (.int .i64 k))]

theorem set_selfJ {σ : AS} {id : Nat} {x : ABlk} (h : σ id = some x) : σ.set id x = σ := by
  funext j
  by_cases e : j = id
  · subst e; simp [AS.set, h]
  · simp [AS.set, e]

theorem rjoin_ok (a0 a1 a2 a3 : List UInt8 × Bool) (o0 o1 o2 o3 : Own) (hl : ∀ j, (nth4 a0 a1 a2 a3 j).1.length ≤ 4000) (σ : AS) :
    ACalls Try.prog 17 [stO a0 a1 a2 a3 o0 o1 o2 o3] σ
      (Owns (fun tk => .tup [.lst 5 ((joinL (fun k => (nth4 a0 a1 a2 a3 k).1)).map u8) (.tok tk) false, .sc (.int .i64 0)]) (joinL (fun k => (nth4 a0 a1 a2 a3 k).1)).length σ) No := by
  have hpa := fun k hk σ => rpart_ok a0 a1 a2 a3 o0 o1 o2 o3 k hk σ
  generalize hsd : (fun k => (nth4 a0 a1 a2 a3 k).1) = s
  have hsk : ∀ k, (nth4 a0 a1 a2 a3 k).1 = s k := fun k => by rw [← hsd]
  have hs4 : ∀ k, (s k).length ≤ 4000 := fun k => by rw [← hsk]; exact hl k
  simp only [stO, sO, hsk] at *
  refine ACalls.of_body Try.func17 rfl rfl (by simp [Try.ntmps17]) ?_
  repeat (first
    | (with_reducible first | apply AWp.seq | apply AWp.block | refine And.intro (by first | omega | assumption | decide) ?_)
    | ((first | (with_reducible first | apply AWp.fork | apply AWp.region)); simp -implicitDefEqProofs)
    | ((with_reducible first | apply AWp.ret | apply AWp.skip | apply AWp.exit); try simp -implicitDefEqProofs))
  intro id1 h_id1
  repeat (first
    | (with_reducible first | apply AWp.seq | apply AWp.block | refine And.intro (by first | omega | assumption | decide) ?_)
    | ((first | (with_reducible first | apply AWp.fork | apply AWp.region)); simp -implicitDefEqProofs)
    | ((with_reducible first | apply AWp.ret | apply AWp.skip | apply AWp.exit); try simp -implicitDefEqProofs))
  obtain ⟨B, B_s, hB1, eq_B, le_B⟩ : ∃ B : AS, (σ.set id1 (.cells 25 [AV.lst 5 (a0.1.map u8) o0 a0.2, AV.lst 5 (a1.1.map u8) o1 a1.2, AV.lst 5 (a2.1.map u8) o2 a2.2, AV.lst 5 (a3.1.map u8) o3 a3.2])) = B ∧ B id1 = some (.cells 25 [AV.lst 5 (a0.1.map u8) o0 a0.2, AV.lst 5 (a1.1.map u8) o1 a1.2, AV.lst 5 (a2.1.map u8) o2 a2.2, AV.lst 5 (a3.1.map u8) o3 a3.2]) ∧ (∀ j, j ≠ id1 → B j = σ j) ∧ (∀ S' : AS, (∀ j, j ≠ id1 → ∀ y, B j = some y → S' j = some y) → AS.le σ S') := by
    refine ⟨_, rfl, by simp [], ?_, ?_⟩
    · intro j e_id1; simp [AS.set, e_id1]
    intro S' h j x hj
    have e_id1 : j ≠ id1 := by rintro rfl; rw [h_id1] at hj; cases hj
    exact h j e_id1 x (by simp [AS.set, e_id1, hj])
  simp only [B_s]
  clear B_s
  refine AWp.loopI (rjA id1 B) (k0 := 4) ⟨0, rfl, by omega, rfl, rfl⟩ (FrWk.mk (by simp)) (AS.le_refl _) ?_
  rintro m f σ' ⟨k, hm, hk, rfl, rfl⟩
  by_cases hlt : k < 4
  · have hK : ((k : Int) < 4) = True := by simp; omega
    have hk6 : (65536 < ((s k).length : Int)) = False := by have := hs4 k; simp; omega
    repeat (first
      | (with_reducible first | apply AWp.seq | apply AWp.block | refine And.intro (by first | omega | assumption | decide) ?_)
      | ((first | (with_reducible first | apply AWp.fork | apply AWp.region | show condK _ _ _ | show guardK _ _ _ _ _ _ _ _ _) | ((with_reducible apply aCall.id); first | apply aCall.gives (hpa k hlt _))); simp -implicitDefEqProofs [hK, hB1, hk6, hB1])
      | ((with_reducible first | apply AWp.ret | apply AWp.skip | apply AWp.exit); try simp -implicitDefEqProofs [hK, hB1, hk6, hB1]))
    exact ⟨m - 1, _, _, by omega, FrWk.mk (by simp [wInc (show k < 4000000000000000000 by omega)]), AS.le_refl _, k + 1, by omega, by omega, rfl, rfl⟩
  have hK : ((k : Int) < 4) = False := by simp; omega
  repeat (first
    | (with_reducible first | apply AWp.seq | apply AWp.block | refine And.intro (by first | omega | assumption | decide) ?_)
    | ((first | (with_reducible first | apply AWp.fork | ((fail_if_success (apply AWp.region (id := 10))); apply AWp.region) | show condK _ _ _ | show guardK _ _ _ _ _ _ _ _ _)); simp -implicitDefEqProofs [hK, hB1, hB1])
    | ((with_reducible first | apply AWp.ret | apply AWp.skip | apply AWp.exit); try simp -implicitDefEqProofs [hK, hB1, hB1]))
  intro th h_th
  have n_id1_th : ¬ id1 = th := by rintro rfl; rw [hB1] at h_th; cases h_th
  have n_th_id1 : ¬ th = id1 := fun e => n_id1_th e.symm
  repeat (first
    | (with_reducible first | apply AWp.seq | apply AWp.block | refine And.intro (by first | omega | assumption | decide) ?_)
    | ((first | (with_reducible first | apply AWp.fork | ((fail_if_success (apply AWp.region (id := 10))); apply AWp.region) | show condK _ _ _ | show guardK _ _ _ _ _ _ _ _ _)); simp -implicitDefEqProofs [hB1, n_th_id1, n_id1_th])
    | ((with_reducible first | apply AWp.ret | apply AWp.skip | apply AWp.exit); try simp -implicitDefEqProofs [hB1, n_th_id1, n_id1_th]))
  refine AWp.mint 6 5 [] true (by simp [Try.ntmps17]) (.inr ⟨by simp, rfl, rfl⟩) ?_
  simp -implicitDefEqProofs [hB1, n_th_id1, n_id1_th]
  intro tb n_tb_th h_tb
  have n_th_tb : ¬ th = tb := fun e => n_tb_th e.symm
  have n_id1_tb : ¬ id1 = tb := by rintro rfl; rw [hB1] at h_tb; cases h_tb
  have n_tb_id1 : ¬ tb = id1 := fun e => n_id1_tb e.symm
  repeat (first
    | (with_reducible first | apply AWp.seq | apply AWp.block | refine And.intro (by first | omega | assumption | decide) ?_)
    | ((first | (with_reducible first | apply AWp.fork | apply AWp.region | show condK _ _ _ | show guardK _ _ _ _ _ _ _ _ _)); simp -implicitDefEqProofs [hB1, n_th_id1, n_id1_th, n_tb_id1, n_id1_tb])
    | ((with_reducible first | apply AWp.ret | apply AWp.skip | apply AWp.exit); try simp -implicitDefEqProofs [hB1, n_th_id1, n_id1_th, n_tb_id1, n_id1_tb]))
  refine AWp.loopI (rjB s id1 th tb σ') (k0 := 4) ⟨0, true, rfl, by omega, rfl, rfl⟩ (FrWk.mk (by simp [hdP, bdP, u8])) (by simp [hdP, bdP]) ?_
  clear hm hk hlt hK
  rintro m1 f σ1 ⟨k, nl, hm, hk, hs1, rfl⟩
  have g1 : σ1 id1 = some (.cells 25 [AV.lst 5 (a0.1.map u8) o0 a0.2, AV.lst 5 (a1.1.map u8) o1 a1.2, AV.lst 5 (a2.1.map u8) o2 a2.2, AV.lst 5 (a3.1.map u8) o3 a3.2]) := by rw [hs1]; simp [n_id1_tb, n_id1_th, hB1]
  have gh : σ1 th = some (.tok (hdP s k).length) := by rw [hs1]; simp [n_th_tb]
  have gb : σ1 tb = some (.tok (bdP s k).length) := by rw [hs1]; simp
  have hbd := bdP_len (s := s) (k := k) (N := 4000) (fun j _ => hs4 j)
  have hbd' : (bdP s k).length ≤ 16012 := by
    have : k * (4000 + 3) ≤ 4 * 4003 := Nat.mul_le_mul hk (by omega)
    omega
  have hHl := hdP_len s k
  by_cases hlt : k < 4
  · have hK : ((k : Int) < 4) = True := by simp; omega
    have hH : hdP s (k + 1) = hdP s k ++ putB (plc s k) 4 ++ putB (s k).length 4 ++ tg k := rfl
    have hBd : bdP s (k + 1) = bdP s k ++ List.replicate (pad (bdP s k).length) 0 ++ s k := rfl
    have hpl : plc s k = 56 + (bdP s k).length + pad (bdP s k).length := rfl
    generalize hdP s k = H at *
    generalize bdP s k = bd at *
    generalize plc s k = p at *
    repeat (first
      | (with_reducible first | apply AWp.seq | apply AWp.block | refine And.intro (by first | omega | assumption | decide) ?_)
      | ((first | (with_reducible first | apply AWp.fork | apply AWp.region | show condK _ _ _ | show guardK _ _ _ _ _ _ _ _ _)); simp -implicitDefEqProofs [hK, hB1, n_th_id1, n_id1_th, n_tb_id1, n_id1_tb])
      | ((with_reducible first | apply AWp.ret | apply AWp.skip | apply AWp.exit); try simp -implicitDefEqProofs [hK, hB1, n_th_id1, n_id1_th, n_tb_id1, n_id1_tb]))
    refine AWp.loopI (rjC bd H k id1 th tb σ1) (k0 := pad bd.length) ⟨0, nl, by omega, by omega, rfl, rfl⟩ (FrWk.mk (by simp)) (by rw [Nat.add_zero, set_selfJ gb]; exact AS.le_refl _) ?_
    rintro m2 f σ2 ⟨r, nl2, hm2, hr, hs2, rfl⟩
    have hplt := pad_lt bd.length
    have hpal := pad_al bd.length
    have g2b : σ2 tb = some (.tok (bd.length + r)) := by rw [hs2]; simp
    have w1 : IntKind.i64.wrap ((bd.length : Int) + r) = (bd.length : Int) + r := in_i64 (by omega) (by omega)
    have w2 : ((bd.length : Int) + r).tmod 4 = ((bd.length : Int) + r) % 4 := Int.tmod_eq_emod_of_nonneg (by omega)
    by_cases hrp : r < pad bd.length
    · have hz : (((bd.length : Int) + r) % 4 = 0) = False := by simp; unfold pad at *; omega
      repeat (first
        | (with_reducible first | apply AWp.seq | apply AWp.block | refine And.intro (by first | omega | assumption | decide) ?_)
        | ((first | (with_reducible first | apply AWp.fork | apply AWp.region | show condK _ _ _ | show guardK _ _ _ _ _ _ _ _ _)); simp -implicitDefEqProofs [w1, w2, hz, g2b, hB1, n_th_id1, n_id1_th, n_tb_id1, n_id1_tb])
        | ((with_reducible first | apply AWp.ret | apply AWp.skip | apply AWp.exit); try simp -implicitDefEqProofs [w1, w2, hz, g2b, hB1, n_th_id1, n_id1_th, n_tb_id1, n_id1_tb]))
      refine ⟨m2 - 1, _, _, by omega, FrWk.mk ?_, ?_, r + 1, false, by omega, by omega, rfl, rfl⟩
      · simp [List.replicate_succ', u8]
      · rw [hs2]; simp [Nat.add_assoc]
    · obtain rfl : r = pad bd.length := by omega
      have hz : (((bd.length : Int) + (pad bd.length : Nat)) % 4 = 0) = True := by simp; omega
      have w3 : IntKind.i64.wrap (56 + ((bd.length : Int) + (pad bd.length : Nat))) = (p : Int) := by rw [in_i64 (by omega) (by omega)]; omega
      have w4 : IntKind.u64.wrap (p : Int) = (p : Int) := in_u64 (by omega) (by omega)
      have hlk := hs4 k
      have w5 : IntKind.u64.wrap ((s k).length : Int) = ((s k).length : Int) := in_u64 (by omega) (by omega)
      have hp1 := fun σ => rput_ok p 4 (by omega) (by omega) (by omega) (by omega) σ
      have hp2 := fun σ => rput_ok (s k).length 4 (by omega) (by omega) (by omega) (by omega) σ
      simp only [show (4 : Int).toNat = 4 from rfl] at hp1 hp2
      have htg := fun σ => rtag_ok k hlt σ
      have g2h : σ2 th = some (.tok H.length) := by rw [hs2]; simp [n_th_tb, gh]
      have g21 : σ2 id1 = some (.cells 25 [AV.lst 5 (a0.1.map u8) o0 a0.2, AV.lst 5 (a1.1.map u8) o1 a1.2, AV.lst 5 (a2.1.map u8) o2 a2.2, AV.lst 5 (a3.1.map u8) o3 a3.2]) := by rw [hs2]; simp [n_id1_tb, g1]
      repeat (first
        | (with_reducible first | apply AWp.seq | apply AWp.block | refine And.intro (by first | omega | assumption | decide) ?_)
        | ((first | (with_reducible first | apply AWp.fork | apply AWp.region | show condK _ _ _ | show guardK _ _ _ _ _ _ _ _ _)); simp -implicitDefEqProofs [w1, w2, w3, w4, w5, hz, g2b, hB1, n_th_id1, n_id1_th, n_tb_id1, n_id1_tb])
        | ((with_reducible first | apply AWp.ret | apply AWp.skip | apply AWp.exit); try simp -implicitDefEqProofs [w1, w2, w3, w4, w5, hz, g2b, hB1, n_th_id1, n_id1_th, n_tb_id1, n_id1_tb]))
      refine aCall.owns (hp1 _) (fun t1 ht1 => ?_)
      have n_th_t1 : ¬ th = t1 := by rintro rfl; rw [g2h] at ht1; cases ht1
      have n_t1_th : ¬ t1 = th := fun e => n_th_t1 e.symm
      have n_tb_t1 : ¬ tb = t1 := by rintro rfl; rw [g2b] at ht1; cases ht1
      have n_t1_tb : ¬ t1 = tb := fun e => n_tb_t1 e.symm
      have n_id1_t1 : ¬ id1 = t1 := by rintro rfl; rw [g21] at ht1; cases ht1
      have n_t1_id1 : ¬ t1 = id1 := fun e => n_id1_t1 e.symm
      simp -implicitDefEqProofs [putB_length, hB1, n_th_id1, n_id1_th, n_tb_id1, n_id1_tb, n_t1_th, n_th_t1, g2h, n_t1_tb, n_tb_t1, g2b, n_t1_id1, n_id1_t1, g21]
      repeat (first
        | (with_reducible first | apply AWp.seq | apply AWp.block | refine And.intro (by first | omega | assumption | decide) ?_)
        | ((first | (with_reducible first | apply AWp.fork | apply AWp.region | show condK _ _ _ | show guardK _ _ _ _ _ _ _ _ _)); simp -implicitDefEqProofs [putB_length, hB1, n_th_id1, n_id1_th, n_tb_id1, n_id1_tb, n_t1_th, n_th_t1, g2h, n_t1_tb, n_tb_t1, g2b, n_t1_id1, n_id1_t1, g21])
        | ((with_reducible first | apply AWp.ret | apply AWp.skip | apply AWp.exit); try simp -implicitDefEqProofs [putB_length, hB1, n_th_id1, n_id1_th, n_tb_id1, n_id1_tb, n_t1_th, n_th_t1, g2h, n_t1_tb, n_tb_t1, g2b, n_t1_id1, n_id1_t1, g21]))
      refine aCall.gives (hpa k hlt _) ?_
      simp -implicitDefEqProofs [putB_length, w5, hB1, n_th_id1, n_id1_th, n_tb_id1, n_id1_tb, n_t1_th, n_th_t1, g2h, n_t1_tb, n_tb_t1, g2b, n_t1_id1, n_id1_t1, g21]
      repeat (first
        | (with_reducible first | apply AWp.seq | apply AWp.block | refine And.intro (by first | omega | assumption | decide) ?_)
        | ((first | (with_reducible first | apply AWp.fork | apply AWp.region | show condK _ _ _ | show guardK _ _ _ _ _ _ _ _ _)); simp -implicitDefEqProofs [putB_length, w5, hB1, n_th_id1, n_id1_th, n_tb_id1, n_id1_tb, n_t1_th, n_th_t1, g2h, n_t1_tb, n_tb_t1, g2b, n_t1_id1, n_id1_t1, g21])
        | ((with_reducible first | apply AWp.ret | apply AWp.skip | apply AWp.exit); try simp -implicitDefEqProofs [putB_length, w5, hB1, n_th_id1, n_id1_th, n_tb_id1, n_id1_tb, n_t1_th, n_th_t1, g2h, n_t1_tb, n_tb_t1, g2b, n_t1_id1, n_id1_t1, g21]))
      refine aCall.owns (hp2 _) (fun t2 ht2 => ?_)
      have q1 : ¬ t2 = th := by rintro rfl; simp [AS.set] at ht2
      have q2 : ¬ t2 = t1 := by rintro rfl; simp [AS.set, q1] at ht2
      have ht2 : σ2 t2 = none := by simpa [AS.set, q1, q2] using ht2
      have n_tb_t2 : ¬ tb = t2 := by rintro rfl; rw [g2b] at ht2; cases ht2
      have n_t2_tb : ¬ t2 = tb := fun e => n_tb_t2 e.symm
      have n_id1_t2 : ¬ id1 = t2 := by rintro rfl; rw [g21] at ht2; cases ht2
      have n_t2_id1 : ¬ t2 = id1 := fun e => n_id1_t2 e.symm
      have q1' : ¬ th = t2 := fun e => q1 e.symm
      have q2' : ¬ t1 = t2 := fun e => q2 e.symm
      simp -implicitDefEqProofs [putB_length, q1, q1', q2, q2', hB1, n_th_id1, n_id1_th, n_tb_id1, n_id1_tb, n_t1_th, n_th_t1, g2h, n_t1_tb, n_tb_t1, g2b, n_t1_id1, n_id1_t1, g21, n_t2_tb, n_tb_t2, n_t2_id1, n_id1_t2]
      have htl := tg_len k
      have hbl : bd.length ≤ 20000 := by omega
      repeat (first
        | (with_reducible first | apply AWp.seq | apply AWp.block | refine And.intro (by first | omega | assumption | decide) ?_)
        | ((first | (with_reducible first | apply AWp.fork | apply AWp.region | show condK _ _ _ | show guardK _ _ _ _ _ _ _ _ _) | ((with_reducible apply aCall.id); first | apply aCall.gives (htg _) | apply aCall.gives (hpa k hlt _))); simp -implicitDefEqProofs [putB_length, q1, q1', q2, q2', htl, g2b, n_th_tb, n_tb_th, hB1, n_th_id1, n_id1_th, n_tb_id1, n_id1_tb, n_t1_th, n_th_t1, g2h, n_t1_tb, n_tb_t1, g2b, n_t1_id1, n_id1_t1, g21, n_t2_tb, n_tb_t2, n_t2_id1, n_id1_t2])
        | ((with_reducible first | apply AWp.ret | apply AWp.skip | apply AWp.exit); try simp -implicitDefEqProofs [putB_length, q1, q1', q2, q2', htl, g2b, n_th_tb, n_tb_th, hB1, n_th_id1, n_id1_th, n_tb_id1, n_id1_tb, n_t1_th, n_th_t1, g2h, n_t1_tb, n_tb_t1, g2b, n_t1_id1, n_id1_t1, g21, n_t2_tb, n_tb_t2, n_t2_id1, n_id1_t2]))
      have hHl1 : (hdP s (k + 1)).length = H.length + 12 := by rw [hH]; simp [putB_length, htl]
      have hBl1 : (bdP s (k + 1)).length = bd.length + (pad bd.length + (s k).length) := by rw [hBd]; simp [Nat.add_assoc]
      have hHe : List.map u8 (hdP s (k + 1)) = List.map u8 H ++ (List.map u8 (putB p 4) ++ (List.map u8 (putB (s k).length 4) ++ List.map u8 (tg k))) := by rw [hH]; simp
      have hBe : List.map u8 (bdP s (k + 1)) = List.map u8 bd ++ (List.replicate (pad bd.length) (u8 0) ++ List.map u8 (s k)) := by rw [hBd]; simp
      refine ⟨m1 - 1, _, _, by omega, FrWk.mk ?_, ?_, k + 1, nl2 && (s k).isEmpty, by omega, by omega, rfl, rfl⟩
      · simp [wInc (show k < 4000000000000000000 by omega), hHe, hBe, u8]
      · rw [hHl1, hBl1, hs2, hs1]
        clear hp1 hp2 hpa htg
        have ht1' : σ' t1 = none := by rw [hs2, hs1] at ht1; simpa [AS.set, n_t1_th, n_t1_tb] using ht1
        have ht2' : σ' t2 = none := by rw [hs2, hs1] at ht2; simpa [AS.set, q1, n_t2_tb] using ht2
        rw [show H.length + 8 + 4 = H.length + 12 by omega, show bd.length + pad bd.length + (s k).length = bd.length + (pad bd.length + (s k).length) by omega]
        intro j_ y_ hy_
        by_cases e_th : j_ = th
        · subst e_th; simp [AS.set, ht1', ht2', q1, q1', q2, q2', n_th_tb, n_tb_th, n_t1_th, n_t1_tb, n_t2_tb, n_th_t1, n_tb_t1, n_tb_t2, hB1, n_th_id1, n_id1_th, n_tb_id1, n_id1_tb, n_t1_th, n_th_t1, g2h, n_t1_tb, n_tb_t1, g2b, n_t1_id1, n_id1_t1, g21, n_t2_tb, n_tb_t2, n_t2_id1, n_id1_t2] at hy_ ⊢; try first | exact hy_ | (cases hy_; done)
        by_cases e_tb : j_ = tb
        · subst e_tb; simp [AS.set, ht1', ht2', q1, q1', q2, q2', n_th_tb, n_tb_th, n_t1_th, n_t1_tb, n_t2_tb, n_th_t1, n_tb_t1, n_tb_t2, hB1, n_th_id1, n_id1_th, n_tb_id1, n_id1_tb, n_t1_th, n_th_t1, g2h, n_t1_tb, n_tb_t1, g2b, n_t1_id1, n_id1_t1, g21, n_t2_tb, n_tb_t2, n_t2_id1, n_id1_t2] at hy_ ⊢; try first | exact hy_ | (cases hy_; done)
        by_cases e_t1 : j_ = t1
        · subst e_t1; simp [AS.set, ht1', ht2', q1, q1', q2, q2', n_th_tb, n_tb_th, n_t1_th, n_t1_tb, n_t2_tb, n_th_t1, n_tb_t1, n_tb_t2, hB1, n_th_id1, n_id1_th, n_tb_id1, n_id1_tb, n_t1_th, n_th_t1, g2h, n_t1_tb, n_tb_t1, g2b, n_t1_id1, n_id1_t1, g21, n_t2_tb, n_tb_t2, n_t2_id1, n_id1_t2] at hy_ ⊢; try first | exact hy_ | (cases hy_; done)
        by_cases e_t2 : j_ = t2
        · subst e_t2; simp [AS.set, ht1', ht2', q1, q1', q2, q2', n_th_tb, n_tb_th, n_t1_th, n_t1_tb, n_t2_tb, n_th_t1, n_tb_t1, n_tb_t2, hB1, n_th_id1, n_id1_th, n_tb_id1, n_id1_tb, n_t1_th, n_th_t1, g2h, n_t1_tb, n_tb_t1, g2b, n_t1_id1, n_id1_t1, g21, n_t2_tb, n_tb_t2, n_t2_id1, n_id1_t2] at hy_ ⊢; try first | exact hy_ | (cases hy_; done)
        simp [AS.set, ht1', ht2', q1, q1', q2, q2', n_th_tb, n_tb_th, n_t1_th, n_t1_tb, n_t2_tb, n_th_t1, n_tb_t1, n_tb_t2, hB1, n_th_id1, n_id1_th, n_tb_id1, n_id1_tb, n_t1_th, n_th_t1, g2h, n_t1_tb, n_tb_t1, g2b, n_t1_id1, n_id1_t1, g21, n_t2_tb, n_tb_t2, n_t2_id1, n_id1_t2, e_th, e_tb, e_t1, e_t2] at hy_ ⊢; try exact hy_
  · have hK : ((k : Int) < 4) = False := by simp; omega
    obtain rfl : k = 4 := by omega
    have hA : ((65536 : Int) < ((hdP s 4).length : Int) + ((bdP s 4).length : Int)) = False := by simp; omega
    have w1 : IntKind.i64.wrap (((hdP s 4).length : Int) + ((bdP s 4).length : Int)) = ((hdP s 4).length : Int) + ((bdP s 4).length : Int) := in_i64 (by omega) (by omega)
    have hbl : (bdP s 4).length ≤ 20000 := by omega
    repeat (first
      | (with_reducible first | apply AWp.seq | apply AWp.block | refine And.intro (by first | omega | assumption | decide) ?_)
      | ((first | (with_reducible first | apply AWp.fork | apply AWp.region | show condK _ _ _ | show guardK _ _ _ _ _ _ _ _ _)); simp -implicitDefEqProofs [hK, hA, w1, gh, gb, hB1, n_th_id1, n_id1_th, n_tb_id1, n_id1_tb])
      | ((with_reducible first | apply AWp.ret | apply AWp.skip | apply AWp.exit); try simp -implicitDefEqProofs [hK, hA, w1, gh, gb, hB1, n_th_id1, n_id1_th, n_tb_id1, n_id1_tb]))
    have hjl : joinL s = hdP s 4 ++ bdP s 4 := rfl
    rw [hjl]
    have hσth : σ th = none := by rw [← eq_B th n_th_id1]; exact h_th
    refine owns_end th hσth (by simp) ?_
    rw [List.length_append, hs1]
    intro j y hj
    by_cases ej : j = th
    · subst ej; simpa [AS.set] using hj
    · have hj' : σ j = some y := by simpa [AS.set, ej] using hj
      have a1 : j ≠ id1 := by rintro rfl; rw [h_id1] at hj'; cases hj'
      have hjB : σ' j = some y := by rw [eq_B j a1]; exact hj'
      have a2 : j ≠ tb := by rintro rfl; rw [h_tb] at hjB; cases hjB
      simp [AS.set, ej, a2, hjB]

end Go.Proofs.Ythpmabablfkekaa
