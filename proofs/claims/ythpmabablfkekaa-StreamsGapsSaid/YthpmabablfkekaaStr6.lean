/- Chapter 03: streams are joined, by the program. -/
import Derived.Test.YthpmabablfkekaaStr3
set_option linter.unusedSimpArgs false
set_option linter.unusedVariables false
set_option maxRecDepth 100000
set_option maxHeartbeats 3200000
namespace Go.Proofs.Ythpmabablfkekaa
open Go Go.AW

def pad (n : Nat) : Nat := (4 - n % 4) % 4
/-- The bodies of so many streams. -/
def bdP (s : Nat → List UInt8) : Nat → List UInt8
  | 0 => []
  | k + 1 => bdP s k ++ List.replicate (pad (bdP s k).length) 0 ++ s k
/-- The place of a stream. -/
def plc (s : Nat → List UInt8) (k : Nat) : Nat := 56 + (bdP s k).length + pad (bdP s k).length
/-- The head, with so many entries. -/
def hdP (s : Nat → List UInt8) : Nat → List UInt8
  | 0 => [67, 71, 82, 68, 1, 0, 4, 0]
  | k + 1 => hdP s k ++ putB (plc s k) 4 ++ putB (s k).length 4 ++ tg k
def joinL (s : Nat → List UInt8) : List UInt8 := hdP s 4 ++ bdP s 4

theorem tg_len (k : Nat) : (tg k).length = 4 := by
  unfold tg; split <;> rfl
theorem hdP_len (s : Nat → List UInt8) (k : Nat) : (hdP s k).length = 8 + 12 * k := by
  induction k with
  | zero => rfl
  | succ k ih => simp only [hdP, List.length_append, ih, putB_length, tg_len]; omega
theorem pad_lt (n : Nat) : pad n < 4 := by unfold pad; omega
theorem pad_al (n : Nat) : (n + pad n) % 4 = 0 := by unfold pad; omega
theorem pad_up (n : Nat) : (56 + n + 3) / 4 * 4 = 56 + n + pad n := by unfold pad; omega
theorem bdP_len {s : Nat → List UInt8} {k N : Nat} (hs : ∀ j, j < k → (s j).length ≤ N) : (bdP s k).length ≤ k * (N + 3) := by
  induction k with
  | zero => simp [bdP]
  | succ k ih =>
    have h1 := ih (fun j hj => hs j (by omega))
    have h2 := hs k (by omega)
    have h3 := pad_lt (bdP s k).length
    simp only [bdP, List.length_append, List.length_replicate]
    have : (k + 1) * (N + 3) = k * (N + 3) + (N + 3) := Nat.succ_mul _ _
    omega

theorem nth4_map {α β : Type} (f : α → β) (a0 a1 a2 a3 : α) (k : Nat) : f (nth4 a0 a1 a2 a3 k) = nth4 (f a0) (f a1) (f a2) (f a3) k := by
  unfold nth4; split <;> rfl
theorem get4 (a0 a1 a2 a3 : List UInt8 × Bool) (o0 o1 o2 o3 : Own) {k : Nat} (hk : k < 4) : [sO a0 o0, sO a1 o1, sO a2 o2, sO a3 o3][k]? = some (sO (nth4 a0 a1 a2 a3 k) (nth4 o0 o1 o2 o3 k)) := by
  match k, hk with
  | 0, _ => rfl
  | 1, _ => rfl
  | 2, _ => rfl
  | 3, _ => rfl

theorem tags_cut {k : Nat} (hk : k < 4) : List.take 4 (List.drop (4 * k) [AV.sc (.int .u8 82), AV.sc (.int .u8 79), AV.sc (.int .u8 87), AV.sc (.int .u8 83), AV.sc (.int .u8 78), AV.sc (.int .u8 65), AV.sc (.int .u8 77), AV.sc (.int .u8 69), AV.sc (.int .u8 66), AV.sc (.int .u8 76), AV.sc (.int .u8 79), AV.sc (.int .u8 66), AV.sc (.int .u8 67), AV.sc (.int .u8 79), AV.sc (.int .u8 68), AV.sc (.int .u8 69)]) = (tg k).map u8 := by
  match k, hk with
  | 0, _ => rfl
  | 1, _ => rfl
  | 2, _ => rfl
  | 3, _ => rfl

def jnA (s : Nat → List UInt8) (id1 id4 id7 : Nat) (B : AS) (m : Nat) (f : Fr) (σ' : AS) : Prop :=
  ∃ (k tk : Nat) (Pl : List Int), m = 4 - k ∧ k ≤ 4 ∧ B tk = none ∧ tk ≠ id7 ∧ Pl.length = 4 ∧ (∀ j, j < k → Pl[j]? = some (plc s j : Int)) ∧
    σ' = (B.set id7 (.cells 69 (Pl.map i64v))).set tk (.tok (hdP s k).length) ∧
    f = mkF [(1, .ptr id1 0), (4, .ptr id4 0), (5, .lst 5 ((hdP s k).map u8) (.tok tk) false), (6, .sc (.int .i64 ((56 + (bdP s k).length : Nat) : Int))), (7, .ptr id7 0), (36, .sc (.int .i64 k))]

def jnB (s : Nat → List UInt8) (H : List UInt8) (tk id4 id7 : Nat) (S : AS) (m : Nat) (f : Fr) (σ' : AS) : Prop :=
  ∃ k : Nat, m = 4 - k ∧ k ≤ 4 ∧ σ' = S.set tk (.tok (H.length + (bdP s k).length)) ∧
    f = mkF [(4, .ptr id4 0), (5, .lst 5 (H.map u8 ++ (bdP s k).map u8) (.tok tk) false), (7, .ptr id7 0), (79, .sc (.int .i64 k))]

theorem join_ok (a0 a1 a2 a3 : List UInt8 × Bool) (o0 o1 o2 o3 : Own) (hl : ∀ j, (nth4 a0 a1 a2 a3 j).1.length ≤ 4000) (σ : AS) :
    ACalls Try.prog 16 [stO a0 a1 a2 a3 o0 o1 o2 o3] σ
      (Owns (fun tk => .tup [.lst 5 ((joinL (fun k => (nth4 a0 a1 a2 a3 k).1)).map u8) (.tok tk) false, .sc (.int .i64 0)]) (joinL (fun k => (nth4 a0 a1 a2 a3 k).1)).length σ) No := by
  have q0 : (65536 < (a0.1.length : Int)) = False := by have := hl 0; simp [nth4] at this ⊢; omega
  have q1 : (65536 < (a1.1.length : Int)) = False := by have := hl 1; simp [nth4] at this ⊢; omega
  have q2 : (65536 < (a2.1.length : Int)) = False := by have := hl 2; simp [nth4] at this ⊢; omega
  have q3 : (65536 < (a3.1.length : Int)) = False := by have := hl 3; simp [nth4] at this ⊢; omega
  generalize hsd : (fun k => (nth4 a0 a1 a2 a3 k).1) = s
  have hsk : ∀ k, (nth4 a0 a1 a2 a3 k).1 = s k := fun k => by rw [← hsd]
  have hs4 : ∀ k, (s k).length ≤ 4000 := fun k => by rw [← hsk]; exact hl k
  simp only [stO]
  refine ACalls.of_body Try.func16 rfl rfl (by simp [Try.ntmps16]) ?_
  have hg := fun k hk => get4 a0 a1 a2 a3 o0 o1 o2 o3 (k := k) hk
  simp only [sO] at hg ⊢
  repeat (first
    | (with_reducible first | apply AWp.seq | apply AWp.block | refine And.intro (by first | omega | assumption | decide) ?_)
    | ((first | (with_reducible first | apply AWp.fork | ((fail_if_success (apply AWp.region (id := 4))); apply AWp.region))); simp -implicitDefEqProofs)
    | ((with_reducible first | apply AWp.ret | apply AWp.skip | apply AWp.exit); try simp -implicitDefEqProofs))
  intro id1 h_id1
  repeat (first
    | (with_reducible first | apply AWp.seq | apply AWp.block | refine And.intro (by first | omega | assumption | decide) ?_)
    | ((first | (with_reducible first | apply AWp.fork | ((fail_if_success (apply AWp.region (id := 4))); apply AWp.region))); simp -implicitDefEqProofs)
    | ((with_reducible first | apply AWp.ret | apply AWp.skip | apply AWp.exit); try simp -implicitDefEqProofs))
  intro id4 n_id4_id1 h_id4
  have n_id1_id4 : ¬ id1 = id4 := fun e => n_id4_id1 e.symm
  repeat (first
    | (with_reducible first | apply AWp.seq | apply AWp.block | refine And.intro (by first | omega | assumption | decide) ?_)
    | ((first | (with_reducible first | apply AWp.fork | ((fail_if_success (apply AWp.region (id := 4))); apply AWp.region) | show condK _ _ _ | show guardK _ _ _ _ _ _ _ _ _)); simp -implicitDefEqProofs [q0, q1, q2, q3, n_id4_id1, n_id1_id4])
    | ((with_reducible first | apply AWp.ret | apply AWp.skip | apply AWp.exit); try simp -implicitDefEqProofs [q0, q1, q2, q3, n_id4_id1, n_id1_id4]))
  with_reducible apply AWp.regionS
  refine sOps.sp rfl (SOp.buildM (by decide) ?_)
  simp -implicitDefEqProofs [aBuildSliceM]
  intro id5 n_id5_id4 n_id5_id1 h_id5
  refine sOps.sp rfl (SOp.convF (by decide) id5 (e := 5) (m := 8) (([67, 71, 82, 68, 1, 0, 4, 0] : List UInt8).map u8) (by simp [n_id5_id4, n_id5_id1, h_id5]) Try.underlying22 rfl Try.underlying5 (by simp) (by simp) (by simp) rfl ?_)
  refine sOps.rest ?_
  simp -implicitDefEqProofs
  repeat (first
    | (with_reducible first | apply AWp.seq | apply AWp.block | refine And.intro (by first | omega | assumption | decide) ?_)
    | ((first | (with_reducible first | apply AWp.fork | apply AWp.region | show condK _ _ _ | show guardK _ _ _ _ _ _ _ _ _)); simp -implicitDefEqProofs [n_id4_id1, n_id1_id4])
    | ((with_reducible first | apply AWp.ret | apply AWp.skip | apply AWp.exit); try simp -implicitDefEqProofs [n_id4_id1, n_id1_id4]))
  intro id7 n_id7_id4 n_id7_id1 h_id7
  have n_id4_id7 : ¬ id4 = id7 := fun e => n_id7_id4 e.symm
  have n_id1_id7 : ¬ id1 = id7 := fun e => n_id7_id1 e.symm
  refine AWp.mint 5 5 (([67, 71, 82, 68, 1, 0, 4, 0] : List UInt8).map u8) false (by simp [Try.ntmps16]) (.inl (by simp)) ?_
  simp -implicitDefEqProofs [n_id4_id1, n_id1_id4, n_id7_id4, n_id4_id7, n_id7_id1, n_id1_id7]
  intro tk0 n_tk0_id7 n_tk0_id4 n_tk0_id1 h_tk0
  obtain ⟨B, B_s, hB1, hB4, eq_B, le_B⟩ : ∃ B : AS, ((σ.set id1 (.cells 25 [AV.lst 5 (a0.1.map u8) o0 a0.2, AV.lst 5 (a1.1.map u8) o1 a1.2, AV.lst 5 (a2.1.map u8) o2 a2.2, AV.lst 5 (a3.1.map u8) o3 a3.2])).set id4 (.cells 54 [AV.lst 5 (a0.1.map u8) o0 a0.2, AV.lst 5 (a1.1.map u8) o1 a1.2, AV.lst 5 (a2.1.map u8) o2 a2.2, AV.lst 5 (a3.1.map u8) o3 a3.2])) = B ∧ B id1 = some (.cells 25 [AV.lst 5 (a0.1.map u8) o0 a0.2, AV.lst 5 (a1.1.map u8) o1 a1.2, AV.lst 5 (a2.1.map u8) o2 a2.2, AV.lst 5 (a3.1.map u8) o3 a3.2]) ∧ B id4 = some (.cells 54 [AV.lst 5 (a0.1.map u8) o0 a0.2, AV.lst 5 (a1.1.map u8) o1 a1.2, AV.lst 5 (a2.1.map u8) o2 a2.2, AV.lst 5 (a3.1.map u8) o3 a3.2]) ∧ (∀ j, j ≠ id1 → j ≠ id4 → B j = σ j) ∧ (∀ S' : AS, (∀ j, j ≠ id1 → j ≠ id4 → ∀ y, B j = some y → S' j = some y) → AS.le σ S') := by
    refine ⟨_, rfl, by simp [n_id1_id4, n_id4_id1], by simp [n_id1_id4, n_id4_id1], ?_, ?_⟩
    · intro j e_id1 e_id4; simp [AS.set, e_id1, e_id4]
    intro S' h j x hj
    have e_id1 : j ≠ id1 := by rintro rfl; rw [h_id1] at hj; cases hj
    have e_id4 : j ≠ id4 := by rintro rfl; rw [h_id4] at hj; cases hj
    exact h j e_id1 e_id4 x (by simp [AS.set, e_id1, e_id4, hj])
  simp only [B_s]
  clear B_s
  have hB7 : B id7 = none := by rw [eq_B id7 n_id7_id1 n_id7_id4]; exact h_id7
  have hBt : B tk0 = none := by rw [eq_B tk0 n_tk0_id1 n_tk0_id4]; exact h_tk0
  repeat (first
    | (with_reducible first | apply AWp.seq | apply AWp.block | refine And.intro (by first | omega | assumption | decide) ?_)
    | ((first | (with_reducible first | apply AWp.fork | apply AWp.region | show condK _ _ _ | show guardK _ _ _ _ _ _ _ _ _)); simp -implicitDefEqProofs [n_id4_id1, n_id1_id4, n_id7_id4, n_id4_id7, n_id7_id1, n_id1_id7, hB1, hB4])
    | ((with_reducible first | apply AWp.ret | apply AWp.skip | apply AWp.exit); try simp -implicitDefEqProofs [n_id4_id1, n_id1_id4, n_id7_id4, n_id4_id7, n_id7_id1, n_id1_id7, hB1, hB4]))
  refine AWp.loopI (jnA s id1 id4 id7 B) (k0 := 4) ⟨0, tk0, [0, 0, 0, 0], rfl, by omega, hBt, n_tk0_id7, rfl, by omega, rfl, rfl⟩ (FrWk.mk (by simp [hdP, bdP])) (by simp [hdP, i64v_def]) ?_
  rintro m f σ' ⟨k, tk, Pl, hm, hk, hBtk, n_tk_id7, hPl, hPj, hs, rfl⟩
  have n_id7_tk : ¬ id7 = tk := fun e => n_tk_id7 e.symm
  have h7 : σ' id7 = some (.cells 69 (Pl.map i64v)) := by rw [hs]; simp [n_id7_tk]
  have ht : σ' tk = some (.tok (hdP s k).length) := by rw [hs]; simp
  have n_id4_tk : ¬ id4 = tk := by rintro rfl; rw [hB4] at hBtk; cases hBtk
  have n_tk_id4 : ¬ tk = id4 := fun e => n_id4_tk e.symm
  have h4 : σ' id4 = B id4 := by rw [hs]; simp [n_id4_tk, n_id4_id7]
  rw [hB4] at h4
  have hbd := bdP_len (s := s) (k := k) (N := 4000) (fun j _ => hs4 j)
  have hbd' : (bdP s k).length ≤ 16012 := by
    have : k * (4000 + 3) ≤ 4 * 4003 := Nat.mul_le_mul hk (by omega)
    omega
  have hup := pad_up (bdP s k).length
  have hpl := pad_lt (bdP s k).length
  by_cases hlt : k < 4
  · have hK : ((k : Int) < 4) = True := by simp; omega
    have hH : hdP s (k + 1) = hdP s k ++ putB (plc s k) 4 ++ putB (s k).length 4 ++ tg k := rfl
    have hpn : 56 + (bdP s (k + 1)).length = plc s k + (s k).length := by simp only [bdP, plc, List.length_append, List.length_replicate]; omega
    have hP1 : plc s k = (56 + (bdP s k).length + 3) / 4 * 4 := by rw [plc]; omega
    have hP2 : plc s k < 20000 := by rw [plc]; omega
    have hlk := hs4 k
    have hHl := hdP_len s k
    generalize 56 + (bdP s k).length = A at hP1 hup ⊢
    obtain ⟨p, hpp⟩ : ∃ p, plc s k = p := ⟨_, rfl⟩
    rw [hpp] at hH hpn hP1 hP2
    have e1 : IntKind.i64.wrap ((A : Int) + 3) = (A : Int) + 3 := in_i64 (by omega) (by omega)
    have e2 : ((A : Int) + 3).tdiv 4 = (((A + 3) / 4 : Nat) : Int) := by rw [Int.tdiv_eq_ediv_of_nonneg (by omega)]; omega
    generalize (A + 3) / 4 = q at *
    have e3 : IntKind.i64.wrap (q : Int) = (q : Int) := in_i64 (by omega) (by omega)
    have e4 : IntKind.i64.wrap ((q : Int) * 4) = (p : Int) := by rw [in_i64 (by omega) (by omega)]; omega
    have e5 : IntKind.u64.wrap (p : Int) = (p : Int) := in_u64 (by omega) (by omega)
    have e6 : IntKind.u64.wrap ((s k).length : Int) = ((s k).length : Int) := in_u64 (by omega) (by omega)
    have e7 : IntKind.i64.wrap ((p : Int) + (s k).length) = ((p + (s k).length : Nat) : Int) := by rw [in_i64 (by omega) (by omega)]; simp
    have hp1 := fun σ => put_ok (hdP s k) (.tok tk) false (by simp) (by omega) p 4 (by omega) (by omega) rfl σ
    have hp2 := fun tk1 σ => put_ok (hdP s k ++ putB p 4) (.tok tk1) false (by simp) (by simp [putB_length]; omega) (s k).length 4 (by omega) (by omega) rfl σ
    simp only [show (4 : Int).toNat = 4 from rfl] at hp1 hp2
    have hL1l : (hdP s k ++ putB p 4).length = (hdP s k).length + 4 := by simp [putB_length]
    generalize hdP s k ++ putB p 4 = L1 at hp1 hp2 hH hL1l
    have hL2l : (L1 ++ putB (s k).length 4).length = L1.length + 4 := by simp [putB_length]
    generalize L1 ++ putB (s k).length 4 = L2 at hp2 hH hL2l
    have hgk := hg k hlt
    rw [hsk k] at hgk
    have hgk2 : ∀ h, [AV.lst 5 (a0.1.map u8) o0 a0.2, AV.lst 5 (a1.1.map u8) o1 a1.2, AV.lst 5 (a2.1.map u8) o2 a2.2, AV.lst 5 (a3.1.map u8) o3 a3.2][k]'h = AV.lst 5 ((s k).map u8) (nth4 o0 o1 o2 o3 k) (nth4 a0 a1 a2 a3 k).2 := fun h => (List.getElem?_eq_some_iff.1 hgk).2
    have hkP : k < Pl.length := by omega
    have hkPl : k < (Pl.map i64v).length := by simpa using hkP
    repeat (first
      | (with_reducible first | apply AWp.seq | apply AWp.block | refine And.intro (by first | omega | assumption | decide) ?_)
      | ((first | (with_reducible first | apply AWp.fork | apply AWp.region | show condK _ _ _ | show guardK _ _ _ _ _ _ _ _ _) | ((with_reducible apply aCall.id); first | apply aCall.gives (pick_ok id4 k hlt _))); simp -implicitDefEqProofs [hK, e1, e2, e3, e4, h4, h7, hgk2, hkP, hlt, e5, e6, n_id4_id1, n_id1_id4, n_id7_id4, n_id4_id7, n_id7_id1, n_id1_id7, hB1, hB4])
      | ((with_reducible first | apply AWp.ret | apply AWp.skip | apply AWp.exit); try simp -implicitDefEqProofs [hK, e1, e2, e3, e4, h4, h7, hgk2, hkP, hlt, e5, e6, n_id4_id1, n_id1_id4, n_id7_id4, n_id4_id7, n_id7_id1, n_id1_id7, hB1, hB4]))
    refine aCall.owns (hp1 _) (fun tk1 htk1 => ?_)
    have n1a : ¬ tk1 = tk := by rintro rfl; simp [AS.set, ht, n_tk_id7] at htk1
    have n1b : ¬ tk1 = id7 := by rintro rfl; simp [AS.set] at htk1
    have n1c : ¬ tk1 = id4 := by rintro rfl; simp [AS.set, h4, n_id4_id7] at htk1
    have htk1 : σ' tk1 = none := by simpa [AS.set, n1b] using htk1
    have n1a' : ¬ tk = tk1 := fun e => n1a e.symm
    have n1b' : ¬ id7 = tk1 := fun e => n1b e.symm
    have n1c' : ¬ id4 = tk1 := fun e => n1c e.symm
    simp -implicitDefEqProofs [n_id4_id1, n_id1_id4, n_id7_id4, n_id4_id7, n_id7_id1, n_id1_id7, hB1, hB4]
    repeat (first
      | (with_reducible first | apply AWp.seq | apply AWp.block | refine And.intro (by first | omega | assumption | decide) ?_)
      | ((first | (with_reducible first | apply AWp.fork | apply AWp.region | show condK _ _ _ | show guardK _ _ _ _ _ _ _ _ _)); simp -implicitDefEqProofs [e5, e6, n_id4_id1, n_id1_id4, n_id7_id4, n_id4_id7, n_id7_id1, n_id1_id7, hB1, hB4])
      | ((with_reducible first | apply AWp.ret | apply AWp.skip | apply AWp.exit); try simp -implicitDefEqProofs [e5, e6, n_id4_id1, n_id1_id4, n_id7_id4, n_id4_id7, n_id7_id1, n_id1_id7, hB1, hB4]))
    refine aCall.owns (hp2 tk1 _) (fun tk2 htk2 => ?_)
    have n2d : ¬ tk2 = tk1 := by rintro rfl; simp [AS.set] at htk2
    have n2a : ¬ tk2 = tk := by rintro rfl; simp [AS.set, ht, n_tk_id7, n1a'] at htk2
    have n2b : ¬ tk2 = id7 := by rintro rfl; simp [AS.set, n1b'] at htk2
    have n2c : ¬ tk2 = id4 := by rintro rfl; simp [AS.set, h4, n_id4_id7, n1c'] at htk2
    have htk2 : σ' tk2 = none := by simpa [AS.set, n2b, n2d] using htk2
    have n2a' : ¬ tk = tk2 := fun e => n2a e.symm
    have n2b' : ¬ id7 = tk2 := fun e => n2b e.symm
    have n2c' : ¬ id4 = tk2 := fun e => n2c e.symm
    have n2d' : ¬ tk1 = tk2 := fun e => n2d e.symm
    have e8 : IntKind.i64.wrap (4 * (k : Int)) = 4 * (k : Int) := in_i64 (by omega) (by omega)
    have e9 : IntKind.i64.wrap (4 * (k : Int) + 4) = 4 * (k : Int) + 4 := in_i64 (by omega) (by omega)
    have e10 : (4 * (k : Int)).toNat = 4 * k := by omega
    have e11 : (4 * (k : Int) + 4).toNat = 4 * k + 4 := by omega
    simp -implicitDefEqProofs [n_id4_id1, n_id1_id4, n_id7_id4, n_id4_id7, n_id7_id1, n_id1_id7, hB1, hB4]
    repeat (first
      | (with_reducible first | apply AWp.seq | apply AWp.block | refine And.intro (by first | omega | assumption | decide) ?_)
      | ((first | (with_reducible first | apply AWp.fork | apply AWp.region | show condK _ _ _ | show guardK _ _ _ _ _ _ _ _ _)); simp -implicitDefEqProofs [e8, e9, e10, e11, n_id4_id1, n_id1_id4, n_id7_id4, n_id4_id7, n_id7_id1, n_id1_id7, hB1, hB4])
      | ((with_reducible first | apply AWp.ret | apply AWp.skip | apply AWp.exit); try simp -implicitDefEqProofs [e8, e9, e10, e11, n_id4_id1, n_id1_id4, n_id7_id4, n_id4_id7, n_id7_id1, n_id1_id7, hB1, hB4]))
    refine ⟨m - 1, _, _, by omega, FrWk.mk ?_, ?_, k + 1, tk2, Pl.set k p, by omega, by omega, ?_, n2b, by simpa using hPl, fun j hj => ?_, rfl, rfl⟩
    · have hE : List.map u8 (hdP s (k + 1)) = List.map u8 L2 ++ List.map u8 (tg k) := by rw [hH, List.map_append]
      simp [wInc (show k < 4000000000000000000 by omega), e7, hpn, hE, tags_cut hlt]
    · clear hp1 hp2 hg hgk hgk2
      have hl1 := hdP_len s (k + 1)
      have hcut : List.take k (List.map i64v Pl) ++ AV.sc (Value.int IntKind.i64 p) :: List.drop (k + 1) (List.map i64v Pl) = (Pl.set k (p : Int)).map i64v := by
        rw [List.map_set, List.set_eq_take_append_cons_drop, if_pos hkPl]; rfl
      rw [hcut, show L2.length + min 4 (16 - 4 * k) = (hdP s (k + 1)).length by omega, hs]
      have htk1 : B tk1 = none := by rw [hs] at htk1; simpa [AS.set, n1a, n1b] using htk1
      have htk2 : B tk2 = none := by rw [hs] at htk2; simpa [AS.set, n2a, n2b] using htk2
      intro j_ y_ hy_
      by_cases e_id7 : j_ = id7
      · subst e_id7; simp [AS.set, htk1, htk2, hBtk, n1a, n1a', n1b, n1b', n2a, n2a', n2b, n2b', n2d, n2d', n_tk_id7, n_id7_tk, n_id4_id1, n_id1_id4, n_id7_id4, n_id4_id7, n_id7_id1, n_id1_id7, hB1, hB4] at hy_ ⊢; try first | exact hy_ | (cases hy_; done)
      by_cases e_tk2 : j_ = tk2
      · subst e_tk2; simp [AS.set, htk1, htk2, hBtk, n1a, n1a', n1b, n1b', n2a, n2a', n2b, n2b', n2d, n2d', n_tk_id7, n_id7_tk, n_id4_id1, n_id1_id4, n_id7_id4, n_id4_id7, n_id7_id1, n_id1_id7, hB1, hB4] at hy_ ⊢; try first | exact hy_ | (cases hy_; done)
      by_cases e_tk1 : j_ = tk1
      · subst e_tk1; simp [AS.set, htk1, htk2, hBtk, n1a, n1a', n1b, n1b', n2a, n2a', n2b, n2b', n2d, n2d', n_tk_id7, n_id7_tk, n_id4_id1, n_id1_id4, n_id7_id4, n_id4_id7, n_id7_id1, n_id1_id7, hB1, hB4] at hy_ ⊢; try first | exact hy_ | (cases hy_; done)
      by_cases e_tk : j_ = tk
      · subst e_tk; simp [AS.set, htk1, htk2, hBtk, n1a, n1a', n1b, n1b', n2a, n2a', n2b, n2b', n2d, n2d', n_tk_id7, n_id7_tk, n_id4_id1, n_id1_id4, n_id7_id4, n_id4_id7, n_id7_id1, n_id1_id7, hB1, hB4] at hy_ ⊢; try first | exact hy_ | (cases hy_; done)
      simp [AS.set, htk1, htk2, hBtk, n1a, n1a', n1b, n1b', n2a, n2a', n2b, n2b', n2d, n2d', n_tk_id7, n_id7_tk, n_id4_id1, n_id1_id4, n_id7_id4, n_id4_id7, n_id7_id1, n_id1_id7, hB1, hB4, e_id7, e_tk2, e_tk1, e_tk] at hy_ ⊢; try exact hy_
    · rw [hs] at htk2
      simpa [AS.set, n2a, n2b] using htk2
    · rw [List.getElem?_set]
      by_cases hj2 : k = j
      · subst hj2; simp [hkP, hpp]
      · rw [if_neg hj2]
        exact hPj j (by omega)
  · have hK : ((k : Int) < 4) = False := by simp; omega
    obtain rfl : k = 4 := by omega
    have hA : ((65536 : Int) < 56 + ((bdP s 4).length : Int)) = False := by simp; omega
    repeat (first
      | (with_reducible first | apply AWp.seq | apply AWp.block | refine And.intro (by first | omega | assumption | decide) ?_)
      | ((first | (with_reducible first | apply AWp.fork | apply AWp.region | show condK _ _ _ | show guardK _ _ _ _ _ _ _ _ _)); simp -implicitDefEqProofs [hK, hA, n_id4_id1, n_id1_id4, n_id7_id4, n_id4_id7, n_id7_id1, n_id1_id7, hB1, hB4])
      | ((with_reducible first | apply AWp.ret | apply AWp.skip | apply AWp.exit); try simp -implicitDefEqProofs [hK, hA, n_id4_id1, n_id1_id4, n_id7_id4, n_id4_id7, n_id7_id1, n_id1_id7, hB1, hB4]))
    have hl4 := hdP_len s 4
    generalize hH4 : hdP s 4 = H at hs hl4 ht
    have hjl : joinL s = H ++ bdP s 4 := by rw [joinL, hH4]
    rw [hjl]
    generalize hS : B.set id7 (.cells 69 (Pl.map i64v)) = S at hs
    have hS7 : S id7 = some (.cells 69 (Pl.map i64v)) := by rw [← hS]; simp
    have hS4 : S id4 = some (.cells 54 [AV.lst 5 (a0.1.map u8) o0 a0.2, AV.lst 5 (a1.1.map u8) o1 a1.2, AV.lst 5 (a2.1.map u8) o2 a2.2, AV.lst 5 (a3.1.map u8) o3 a3.2]) := by rw [← hS]; simp [n_id4_id7, hB4]
    refine AWp.loopI (jnB s H tk id4 id7 S) (k0 := 4) ⟨0, rfl, by omega, rfl, rfl⟩ (FrWk.mk (by simp [bdP])) (by rw [hs]; simp [bdP]) ?_
    rintro m2 f σ2 ⟨j, hm2, hj, hs2, rfl⟩
    have g7 : σ2 id7 = some (.cells 69 (Pl.map i64v)) := by rw [hs2]; simp [n_id7_tk, hS7]
    have g4 : σ2 id4 = some (.cells 54 [AV.lst 5 (a0.1.map u8) o0 a0.2, AV.lst 5 (a1.1.map u8) o1 a1.2, AV.lst 5 (a2.1.map u8) o2 a2.2, AV.lst 5 (a3.1.map u8) o3 a3.2]) := by rw [hs2]; simp [n_id4_tk, hS4]
    have gt : σ2 tk = some (.tok (H.length + (bdP s j).length)) := by rw [hs2]; simp
    have hbj := bdP_len (s := s) (k := j) (N := 4000) (fun j _ => hs4 j)
    have hbj' : (bdP s j).length ≤ 16012 := by
      have : j * (4000 + 3) ≤ 4 * 4003 := Nat.mul_le_mul hj (by omega)
      omega
    have hpl := pad_lt (bdP s j).length
    by_cases hjl4 : j < 4
    · have hJ : ((j : Int) < 4) = True := by simp; omega
      have hbd1 : bdP s (j + 1) = bdP s j ++ List.replicate (pad (bdP s j).length) 0 ++ s j := rfl
      have hPv := hPj j hjl4
      have hpd : plc s j = H.length + (bdP s j).length + pad (bdP s j).length := by rw [plc, hl4]
      have hkP : j < Pl.length := by omega
      have hPv2 : ∀ h, Pl[j]'h = (plc s j : Int) := fun h => (List.getElem?_eq_some_iff.1 hPv).2
      generalize plc s j = p at *
      generalize hpdd : pad (bdP s j).length = d at *
      have e1 : IntKind.i64.wrap ((p : Int) - ((H.length : Int) + ((bdP s j).length : Int))) = (d : Int) := by rw [in_i64 (by omega) (by omega)]; omega
      have hgk := hg j hjl4
      rw [hsk j] at hgk
      have hgk2 : ∀ h, [AV.lst 5 (a0.1.map u8) o0 a0.2, AV.lst 5 (a1.1.map u8) o1 a1.2, AV.lst 5 (a2.1.map u8) o2 a2.2, AV.lst 5 (a3.1.map u8) o3 a3.2][j]'h = AV.lst 5 ((s j).map u8) (nth4 o0 o1 o2 o3 j) (nth4 a0 a1 a2 a3 j).2 := fun h => (List.getElem?_eq_some_iff.1 hgk).2
      have hlj := hs4 j
      have d1 : (d : Int) ≤ 1000000 := by omega
      repeat (first
        | (with_reducible first | apply AWp.seq | apply AWp.block | refine And.intro (by first | omega | assumption | decide) ?_)
        | ((first | (with_reducible first | apply AWp.fork | apply AWp.region | show condK _ _ _ | show guardK _ _ _ _ _ _ _ _ _) | ((with_reducible apply aCall.id); first | apply aCall.gives (pick_ok id4 j hjl4 _))); simp -implicitDefEqProofs [hJ, g7, g4, hkP, hPv2, i64v_def, e1, hgk2, hjl4, gt, d1, n_id4_tk, n_id7_tk, Nat.add_assoc, n_id4_id1, n_id1_id4, n_id7_id4, n_id4_id7, n_id7_id1, n_id1_id7, hB1, hB4])
        | ((with_reducible first | apply AWp.ret | apply AWp.skip | apply AWp.exit); try simp -implicitDefEqProofs [hJ, g7, g4, hkP, hPv2, i64v_def, e1, hgk2, hjl4, gt, d1, n_id4_tk, n_id7_tk, Nat.add_assoc, n_id4_id1, n_id1_id4, n_id7_id4, n_id4_id7, n_id7_id1, n_id1_id7, hB1, hB4]))
      have hE : List.map u8 (bdP s (j + 1)) = List.map u8 (bdP s j) ++ (List.replicate d (u8 0) ++ List.map u8 (s j)) := by rw [hbd1, List.map_append, List.map_append, List.map_replicate, List.append_assoc]
      have hEl : (bdP s (j + 1)).length = (bdP s j).length + (d + (s j).length) := by rw [hbd1]; simp [Nat.add_assoc]
      refine ⟨m2 - 1, _, _, by omega, FrWk.mk ?_, ?_, j + 1, by omega, by omega, rfl, rfl⟩
      · simp [wInc (show j < 4000000000000000000 by omega), hE, u8]
      · rw [hs2, hEl]
        simp
    · have hJ : ((j : Int) < 4) = False := by simp; omega
      obtain rfl : j = 4 := by omega
      repeat (first
        | (with_reducible first | apply AWp.seq | apply AWp.block | refine And.intro (by first | omega | assumption | decide) ?_)
        | ((first | (with_reducible first | apply AWp.fork | apply AWp.region | show condK _ _ _ | show guardK _ _ _ _ _ _ _ _ _)); simp -implicitDefEqProofs [hJ, n_id4_id1, n_id1_id4, n_id7_id4, n_id4_id7, n_id7_id1, n_id1_id7, hB1, hB4])
        | ((with_reducible first | apply AWp.ret | apply AWp.skip | apply AWp.exit); try simp -implicitDefEqProofs [hJ, n_id4_id1, n_id1_id4, n_id7_id4, n_id4_id7, n_id7_id1, n_id1_id7, hB1, hB4]))
      have n_tk_id1 : ¬ tk = id1 := by rintro rfl; rw [hB1] at hBtk; cases hBtk
      have hσtk : σ tk = none := by rw [← eq_B tk n_tk_id1 n_tk_id4]; exact hBtk
      refine owns_end tk hσtk (by simp) ?_
      rw [hs2, ← hS]
      intro j y hj
      by_cases ej : j = tk
      · subst ej; simpa [AS.set] using hj
      · have hj' : σ j = some y := by simpa [AS.set, ej] using hj
        have a1 : j ≠ id1 := by rintro rfl; rw [h_id1] at hj'; cases hj'
        have a4 : j ≠ id4 := by rintro rfl; rw [h_id4] at hj'; cases hj'
        have a7 : j ≠ id7 := by rintro rfl; rw [h_id7] at hj'; cases hj'
        have := eq_B j a1 a4
        simp [AS.set, ej, a7, this, hj']

end Go.Proofs.Ythpmabablfkekaa
