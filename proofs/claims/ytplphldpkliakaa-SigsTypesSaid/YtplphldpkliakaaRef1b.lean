/- The reference's Pack and Unpack of chapter 01. -/
import Derived.Test.YtplphldpkliakaaRef1
import Derived.Test.YtplphldpkliakaaOct3
set_option linter.unusedSimpArgs false
set_option linter.unusedVariables false
set_option maxRecDepth 100000
set_option maxHeartbeats 800000
namespace Go.Proofs.Ytplphldpkliakaa
open Go Go.AW
abbrev sc_61_16_XRef1b : Sch := (Sch.step 0 (Sch.step 3 (Sch.step 4 (Sch.step 5 (Sch.step 6 (Sch.step 7 (Sch.read 1 (Sch.step 2 (Sch.read 8 (Sch.step 9 (Sch.step 10 (Sch.step 11 (Sch.alt 12 Sch.done Sch.none)))))))))))))
abbrev sc_61_17_XRef1b : Sch := (Sch.step 0 (Sch.step 3 (Sch.read 1 (Sch.alt 2 (Sch.read 4 (Sch.step 5 Sch.done)) (Sch.alt 4 (Sch.alt 2 (Sch.step 5 Sch.done) Sch.none) Sch.none)))))

theorem sizeI_cases (n : Int) (h0 : 0 ≤ n) (h1 : n ≤ 536870911) : (n < 128 ∧ sizeI n = 1) ∨ (¬ n < 128 ∧ n < 16384 ∧ sizeI n = 2) ∨ (¬ n < 128 ∧ ¬ n < 16384 ∧ sizeI n = 4) := by
  unfold sizeI
  rw [if_neg (by omega)]
  by_cases h2 : n < 128
  · simp [h2]
  · by_cases h3 : n < 16384 <;> simp [h2, h3]

theorem ofN (x : Int) : ((UInt8.ofNat (x % 256).toNat).toNat : Int) = x % 256 := by simp; omega

theorem rpack_ok (n : Int) (h0 : 0 ≤ n) (h1 : n ≤ 536870911) (σ : AS) :
    ACalls Try.prog 56 [.sc (.int .i64 n)] σ (Owns (fun tk => .lst 5 ((packL n).map u8) (.tok tk) false) (packL n).length σ) No := by
  refine ACalls.of_body Try.func56 rfl rfl (by simp [Try.ntmps56]) ?_
  have q1 : n.tdiv 256 = n / 256 := Int.tdiv_eq_ediv_of_nonneg h0
  have q2 : n.tdiv 65536 = n / 65536 := Int.tdiv_eq_ediv_of_nonneg h0
  have q3 : n.tdiv 16777216 = n / 16777216 := Int.tdiv_eq_ediv_of_nonneg h0
  have r1 : n.tmod 256 = n % 256 := Int.tmod_eq_emod_of_nonneg h0
  have r2 : (n / 256).tmod 256 = n / 256 % 256 := Int.tmod_eq_emod_of_nonneg (by omega)
  have r3 : (n / 65536).tmod 256 = n / 65536 % 256 := Int.tmod_eq_emod_of_nonneg (by omega)
  have w1 : IntKind.i64.wrap (n / 256) = n / 256 := in_i64 (by omega) (by omega)
  have w2 : IntKind.i64.wrap (n / 65536) = n / 65536 := in_i64 (by omega) (by omega)
  have w3 : IntKind.i64.wrap (n / 16777216) = n / 16777216 := in_i64 (by omega) (by omega)
  have w4 : IntKind.i64.wrap (128 + n / 256) = 128 + n / 256 := in_i64 (by omega) (by omega)
  have w5 : IntKind.i64.wrap (192 + n / 16777216) = 192 + n / 16777216 := in_i64 (by omega) (by omega)
  rcases sizeI_cases n h0 h1 with ⟨h2, hs⟩ | ⟨h2, h3, hs⟩ | ⟨h2, h3, hs⟩
  · have hp : packL n = [UInt8.ofNat (n % 256).toNat] := by simp [packL, hs, beL, packX, h2]
    have e0 := ofN n
    repeat (first
      | (with_reducible first | apply AWp.seq | apply AWp.block | refine And.intro (by first | omega | assumption | decide) ?_)
      | ((first | (with_reducible first | apply AWp.fork | apply AWp.region | show condK _ _ _ | show guardK _ _ _ _ _ _ _ _ _) | ((with_reducible apply aCall.id); first | apply aCall.gives (rsize_ok n _))); simp -implicitDefEqProofs [hs, Try.underlying3, Try.underlying5])
      | ((with_reducible first | apply AWp.ret | apply AWp.skip | apply AWp.exit); try simp -implicitDefEqProofs [hs, Try.underlying3, Try.underlying5]))
    intro tk htk
    repeat (first
      | (with_reducible first | apply AWp.seq | apply AWp.block | refine And.intro (by first | omega | assumption | decide) ?_)
      | ((first | (with_reducible first | apply AWp.fork | apply AWp.region)); simp -implicitDefEqProofs)
      | ((with_reducible first | apply AWp.ret | apply AWp.skip | apply AWp.exit); try simp -implicitDefEqProofs))
    exact owns_end tk htk (by rw [hp]; simp only [List.map, u8_app, e0, w_u8]; exact Wk.refl _) (by simp [hp])
  · have hp : packL n = [UInt8.ofNat ((128 + n / 256) % 256).toNat, UInt8.ofNat (n % 256).toNat] := by
      have : (n + 32768) / 256 % 256 = (128 + n / 256) % 256 := by omega
      have : (n + 32768) % 256 = n % 256 := by omega
      simp [packL, hs, beL, packX, h2, h3, *]
    have e0 := ofN n
    have e1 := ofN (128 + n / 256)
    have e9 : n % 256 % 256 = n % 256 := by omega
    repeat (first
      | (with_reducible first | apply AWp.seq | apply AWp.block | refine And.intro (by first | omega | assumption | decide) ?_)
      | ((first | (with_reducible first | apply AWp.fork | apply AWp.region | show condK _ _ _ | show guardK _ _ _ _ _ _ _ _ _) | ((with_reducible apply aCall.id); first | apply aCall.gives (rsize_ok n _))); simp -implicitDefEqProofs [hs, q1, r1, w1, w4, Try.underlying3, Try.underlying5])
      | ((with_reducible first | apply AWp.ret | apply AWp.skip | apply AWp.exit); try simp -implicitDefEqProofs [hs, q1, r1, w1, w4, Try.underlying3, Try.underlying5]))
    intro tk htk
    repeat (first
      | (with_reducible first | apply AWp.seq | apply AWp.block | refine And.intro (by first | omega | assumption | decide) ?_)
      | ((first | (with_reducible first | apply AWp.fork | apply AWp.region)); simp -implicitDefEqProofs)
      | ((with_reducible first | apply AWp.ret | apply AWp.skip | apply AWp.exit); try simp -implicitDefEqProofs))
    exact owns_end tk htk (by rw [hp]; simp only [List.map, u8_app, e0, e1, e9, w_u8]; exact Wk.refl _) (by simp [hp])
  · have hp : packL n = [UInt8.ofNat ((192 + n / 16777216) % 256).toNat, UInt8.ofNat (n / 65536 % 256).toNat, UInt8.ofNat (n / 256 % 256).toNat, UInt8.ofNat (n % 256).toNat] := by
      have a1 : (n + 3221225472) / 16777216 % 256 = (192 + n / 16777216) % 256 := by omega
      have a2 : (n + 3221225472) / 65536 % 256 = n / 65536 % 256 := by omega
      have a3 : (n + 3221225472) / 256 % 256 = n / 256 % 256 := by omega
      have a4 : (n + 3221225472) % 256 = n % 256 := by omega
      simp [packL, hs, beL, packX, h2, h3, a1, a2, a3, a4]
    have e0 := ofN n
    have e1 := ofN (n / 256)
    have e2 := ofN (n / 65536)
    have e3 := ofN (192 + n / 16777216)
    have e8 : n / 256 % 256 % 256 = n / 256 % 256 := by omega
    have e7 : n / 65536 % 256 % 256 = n / 65536 % 256 := by omega
    have e9 : n % 256 % 256 = n % 256 := by omega
    repeat (first
      | (with_reducible first | apply AWp.seq | apply AWp.block | refine And.intro (by first | omega | assumption | decide) ?_)
      | ((first | (with_reducible first | apply AWp.fork | apply AWp.region | show condK _ _ _ | show guardK _ _ _ _ _ _ _ _ _) | ((with_reducible apply aCall.id); first | apply aCall.gives (rsize_ok n _))); simp -implicitDefEqProofs [hs, q1, q2, q3, r1, r2, r3, w1, w2, w3, w5, Try.underlying3, Try.underlying5])
      | ((with_reducible first | apply AWp.ret | apply AWp.skip | apply AWp.exit); try simp -implicitDefEqProofs [hs, q1, q2, q3, r1, r2, r3, w1, w2, w3, w5, Try.underlying3, Try.underlying5]))
    intro tk htk
    repeat (first
      | (with_reducible first | apply AWp.seq | apply AWp.block | refine And.intro (by first | omega | assumption | decide) ?_)
      | ((first | (with_reducible first | apply AWp.fork | apply AWp.region)); simp -implicitDefEqProofs)
      | ((with_reducible first | apply AWp.ret | apply AWp.skip | apply AWp.exit); try simp -implicitDefEqProofs))
    exact owns_end tk htk (by rw [hp]; simp only [List.map, u8_app, e0, e1, e2, e3, e7, e8, e9, w_u8]; exact Wk.refl _) (by simp [hp])

/-- What Unpack's loop has come to behind i bytes. -/
def offI (k : Int) : Int := if k = 1 then 0 else if k = 2 then 128 else 192
def runI (L b : List UInt8) (o : Own) (nl : Bool) (at' off : Int) (id0 id : Nat) (σ : AS) (m : Nat) (s : Fr) (σ' : AS) : Prop :=
  ∃ i : Nat, m = L.length - i ∧ 1 ≤ i ∧ i ≤ L.length ∧ σ' = (σ.set id0 (.cells 97 [.sc (.int .i64 0), .sc (.int .i64 0), .sc (.int .i64 0)])).set id (.cells 97 [.sc (.int .i64 (beN (L.take i) - off * 256 ^ (i - 1))), .sc (.int .i64 L.length), .sc (.int .i64 0)]) ∧
    s = mkF [(0, .lst 5 (b.map u8) o nl), (1, .sc (.int .i64 at')), (4, .ptr id0 0), (6, .ptr id 0), (7, .sc (.int .i64 i))]

theorem bytes_of_len1 (L : List UInt8) (h : L.length = 1) : ∃ a, L = [a] := by match L, h with | [a], _ => exact ⟨a, rfl⟩
theorem bytes_of_len2 (L : List UInt8) (h : L.length = 2) : ∃ a b, L = [a, b] := by match L, h with | [a, b], _ => exact ⟨a, b, rfl⟩
theorem bytes_of_len4 (L : List UInt8) (h : L.length = 4) : ∃ a b c d, L = [a, b, c, d] := by match L, h with | [a, b, c, d], _ => exact ⟨a, b, c, d, rfl⟩

theorem runpack_ok (b : List UInt8) (o : Own) (nl : Bool) (at' : Int) (ha : 0 ≤ at') (hl : b.length ≤ 140737488355328) (ha2 : at' < 9000000000000000000) (x k e : Int) (hu : upk (b.drop at'.toNat) = (x, k, e)) (σ : AS) :
    ACalls Try.prog 61 [.lst 5 (b.map u8) o nl, .sc (.int .i64 at')] σ (Gives (.agg [.sc (.int .i64 x), .sc (.int .i64 k), .sc (.int .i64 e)]) σ) No := by
  refine ACalls.of_body Try.func61 rfl rfl (by simp [Try.ntmps61]) ?_
  repeat (first
    | (with_reducible first | apply AWp.seq | apply AWp.block | refine And.intro (by first | omega | assumption | decide) ?_)
    | ((first | (with_reducible first | apply AWp.fork | apply AWp.region) | ((with_reducible apply AWp.drawS (id := 16) (t := sc_61_16_XRef1b)); (exact mixed); kernel_rfl; kernel_rfl; (repeat (with_reducible first | apply PanQ.then | apply PanQ.block | apply PanQ.body | apply PanQ.no))) | ((with_reducible apply AWp.drawS (id := 17) (t := sc_61_17_XRef1b)); (exact mixed); kernel_rfl; kernel_rfl; (repeat (with_reducible first | apply PanQ.then | apply PanQ.block | apply PanQ.body | apply PanQ.no)))); simp -implicitDefEqProofs)
    | ((with_reducible first | apply AWp.ret | apply AWp.skip | apply AWp.exit); try simp -implicitDefEqProofs))
  intro id0 hid0
  by_cases h0 : (b.length : Int) ≤ at'
  · have hr : b.drop at'.toNat = [] := List.drop_of_length_le (by omega)
    rw [hr] at hu
    simp [upk] at hu
    obtain ⟨rfl, rfl, rfl⟩ := hu
    repeat (first
      | (with_reducible first | apply AWp.seq | apply AWp.block | refine And.intro (by first | omega | assumption | decide) ?_)
      | ((first | (with_reducible first | apply AWp.fork | apply AWp.region | show condK _ _ _ | show guardK _ _ _ _ _ _ _ _ _) | ((with_reducible apply AWp.drawS (id := 16) (t := sc_61_16_XRef1b)); (exact mixed); kernel_rfl; kernel_rfl; (repeat (with_reducible first | apply PanQ.then | apply PanQ.block | apply PanQ.body | apply PanQ.no))) | ((with_reducible apply AWp.drawS (id := 17) (t := sc_61_17_XRef1b)); (exact mixed); kernel_rfl; kernel_rfl; (repeat (with_reducible first | apply PanQ.then | apply PanQ.block | apply PanQ.body | apply PanQ.no)))); simp -implicitDefEqProofs [h0])
      | ((with_reducible first | apply AWp.ret | apply AWp.skip | apply AWp.exit); try simp -implicitDefEqProofs [h0]))
    exact le_set' hid0 (AS.le_refl σ)
  · have hlt : at'.toNat < b.length := by omega
    have hat : (at'.toNat : Int) = at' := by omega
    have hlt2 : at' < b.length := by omega
    have hr : b.drop at'.toNat = b[at'.toNat] :: b.drop (at'.toNat + 1) := List.drop_eq_getElem_cons hlt
    have hrl : ((b.drop at'.toNat).length : Int) = b.length - at' := by simp; omega
    have hb0 : b[at'.toNat].toNat < 256 := b[at'.toNat].toNat_lt
    generalize hc : b[at'.toNat] = c at *
    have wc : IntKind.i64.wrap c.toNat = c.toNat := in_i64 (by omega) (by omega)
    have wl : IntKind.i64.wrap ((b.length : Int) - at') = b.length - at' := in_i64 (by omega) (by omega)
    rw [hr] at hu
    have htop : 224 ≤ c.toNat ∨ ∃ K : Nat, wantsI c.toNat = K ∧ ((K = 1 ∧ c.toNat < 128) ∨ (K = 2 ∧ 128 ≤ c.toNat ∧ c.toNat < 192) ∨ (K = 4 ∧ 192 ≤ c.toNat ∧ c.toNat < 224)) := by
      unfold wantsI
      by_cases c1 : c.toNat < 128
      · exact .inr ⟨1, by rw [if_pos (by omega)]; rfl, .inl ⟨rfl, c1⟩⟩
      · by_cases c2 : c.toNat < 192
        · exact .inr ⟨2, by rw [if_neg (by omega), if_pos (by omega)]; rfl, .inr (.inl ⟨rfl, by omega, c2⟩)⟩
        · by_cases c3 : c.toNat < 224
          · exact .inr ⟨4, by rw [if_neg (by omega), if_neg (by omega), if_pos (by omega)]; rfl, .inr (.inr ⟨rfl, by omega, c3⟩)⟩
          · exact .inl (by omega)
    rcases htop with h4 | ⟨K, hw, hK⟩
    · have hw : wantsI c.toNat = 0 := by unfold wantsI; rw [if_neg (by omega), if_neg (by omega), if_neg (by omega)]
      simp [upk, hw] at hu
      obtain ⟨rfl, rfl, rfl⟩ := hu
      have h4' : (224 : Int) ≤ c.toNat := by omega
      repeat (first
        | (with_reducible first | apply AWp.seq | apply AWp.block | refine And.intro (by first | omega | assumption | decide) ?_)
        | ((first | (with_reducible first | apply AWp.fork | apply AWp.region | show condK _ _ _ | show guardK _ _ _ _ _ _ _ _ _) | ((with_reducible apply AWp.drawS (id := 16) (t := sc_61_16_XRef1b)); (exact mixed); kernel_rfl; kernel_rfl; (repeat (with_reducible first | apply PanQ.then | apply PanQ.block | apply PanQ.body | apply PanQ.no))) | ((with_reducible apply AWp.drawS (id := 17) (t := sc_61_17_XRef1b)); (exact mixed); kernel_rfl; kernel_rfl; (repeat (with_reducible first | apply PanQ.then | apply PanQ.block | apply PanQ.body | apply PanQ.no)))); simp -implicitDefEqProofs [h0, ha, hlt2, hlt, hc, wc])
        | ((with_reducible first | apply AWp.ret | apply AWp.skip | apply AWp.exit); try simp -implicitDefEqProofs [h0, ha, hlt2, hlt, hc, wc]))
      intro id ne hid
      have ne : id ≠ id0 := ne
      repeat (first
        | (with_reducible first | apply AWp.seq | apply AWp.block | refine And.intro (by first | omega | assumption | decide) ?_)
        | ((first | (with_reducible first | apply AWp.fork | apply AWp.region | show condK _ _ _ | show guardK _ _ _ _ _ _ _ _ _) | ((with_reducible apply AWp.drawS (id := 16) (t := sc_61_16_XRef1b)); (exact mixed); kernel_rfl; kernel_rfl; (repeat (with_reducible first | apply PanQ.then | apply PanQ.block | apply PanQ.body | apply PanQ.no))) | ((with_reducible apply AWp.drawS (id := 17) (t := sc_61_17_XRef1b)); (exact mixed); kernel_rfl; kernel_rfl; (repeat (with_reducible first | apply PanQ.then | apply PanQ.block | apply PanQ.body | apply PanQ.no)))); simp -implicitDefEqProofs [h4', wc, ne, ne.symm])
        | ((with_reducible first | apply AWp.ret | apply AWp.skip | apply AWp.exit); try simp -implicitDefEqProofs [h4', wc, ne, ne.symm]))
      all_goals (repeat (first | exact AS.le_refl _ | refine le_new (by simp [ne, hid, hid0]) ?_))
    · have h4' : ¬ (224 : Int) ≤ c.toNat := by omega
      have hK0 : ¬ (K : Int) = 0 := by omega
      have hu2 : ((b.length : Int) - at' < K → ((0 : Int), (0 : Int), (1 : Int)) = (x, k, e)) ∧ (¬ (b.length : Int) - at' < K → (if sizeI (beN (seg b at' K) % (maskI K + 1)) = K then (beN (seg b at' K) % (maskI K + 1), (K : Int), 0) else ((0 : Int), (0 : Int), (2 : Int))) = (x, k, e)) := by
        have e2 : (b.drop at'.toNat).take K = seg b at' K := by
          rw [seg, List.drop_take]
          congr 1
          omega
        rw [hr] at hrl e2
        constructor
        · intro hs
          rw [← hu]
          simp only [upk, hw, hK0, if_false]
          rw [if_pos (by rw [hrl]; exact hs)]
        · intro hs
          have h9 : ¬ ((c :: b.drop (at'.toNat + 1)).length : Int) < K := by rw [hrl]; exact hs
          rw [← hu]
          simp only [upk, hw, hK0, h9, if_false, Int.toNat_natCast, e2]
      have hstart : beN (seg b at' K |>.take 1) = c.toNat := by
        have : (seg b at' K).take 1 = [c] := by
          rw [seg, List.drop_take, hr]
          rw [show (at' + (K : Int)).toNat - at'.toNat = (K - 1) + 1 by omega]
          simp
        rw [this]; simp [beN]
      have hsl : ¬ (b.length : Int) - at' < K → ((seg b at' K).length : Int) = K := fun h => seg_length b at' K ha (by omega) (by omega)
      have k1 : ((192 : Int) ≤ c.toNat) = (K = 4) := by simp only [eq_iff_iff]; omega
      have k2 : ¬ K = 4 → ((128 : Int) ≤ c.toNat) = (K = 2) := fun h => by simp only [eq_iff_iff]; omega
      have k1' : decide ((192 : Int) ≤ c.toNat) = decide (K = 4) := by simp only [k1]
      have k2d : ¬ K = 4 → decide ((128 : Int) ≤ c.toNat) = decide (K = 2) := fun h => by simp only [k2 h]
      have x1 : IntKind.i64.wrap ((c.toNat : Int) - 192) = c.toNat - 192 := in_i64 (by omega) (by omega)
      have x2 : IntKind.i64.wrap ((c.toNat : Int) - 128) = c.toNat - 128 := in_i64 (by omega) (by omega)
      by_cases hs : (b.length : Int) - at' < K
      · have hu3 := hu2.1 hs
        simp only [Prod.mk.injEq] at hu3
        obtain ⟨rfl, rfl, rfl⟩ := hu3
        rcases hK with ⟨rfl, hcr⟩ | ⟨rfl, hcr, hcr2⟩ | ⟨rfl, hcr, hcr2⟩
        all_goals
          first
          | have k2' := k2d (by decide)
          | have k2' := trivial
          simp at hs
          repeat (first
            | (with_reducible first | apply AWp.seq | apply AWp.block | refine And.intro (by first | omega | assumption | decide) ?_)
            | ((first | (with_reducible first | apply AWp.fork | apply AWp.region | show condK _ _ _ | show guardK _ _ _ _ _ _ _ _ _) | ((with_reducible apply AWp.drawS (id := 16) (t := sc_61_16_XRef1b)); (exact mixed); kernel_rfl; kernel_rfl; (repeat (with_reducible first | apply PanQ.then | apply PanQ.block | apply PanQ.body | apply PanQ.no))) | ((with_reducible apply AWp.drawS (id := 17) (t := sc_61_17_XRef1b)); (exact mixed); kernel_rfl; kernel_rfl; (repeat (with_reducible first | apply PanQ.then | apply PanQ.block | apply PanQ.body | apply PanQ.no)))); simp -implicitDefEqProofs [h0, ha, hlt2, hlt, hc, wc])
            | ((with_reducible first | apply AWp.ret | apply AWp.skip | apply AWp.exit); try simp -implicitDefEqProofs [h0, ha, hlt2, hlt, hc, wc]))
          intro id ne hid
          have ne : id ≠ id0 := ne
          repeat (first
            | (with_reducible first | apply AWp.seq | apply AWp.block | refine And.intro (by first | omega | assumption | decide) ?_)
            | ((first | (with_reducible first | apply AWp.fork | apply AWp.region | show condK _ _ _ | show guardK _ _ _ _ _ _ _ _ _) | ((with_reducible apply AWp.drawS (id := 16) (t := sc_61_16_XRef1b)); (exact mixed); kernel_rfl; kernel_rfl; (repeat (with_reducible first | apply PanQ.then | apply PanQ.block | apply PanQ.body | apply PanQ.no))) | ((with_reducible apply AWp.drawS (id := 17) (t := sc_61_17_XRef1b)); (exact mixed); kernel_rfl; kernel_rfl; (repeat (with_reducible first | apply PanQ.then | apply PanQ.block | apply PanQ.body | apply PanQ.no)))); simp -implicitDefEqProofs [h4', wc, wl, k1', k2', x1, x2, hs, ne, ne.symm])
            | ((with_reducible first | apply AWp.ret | apply AWp.skip | apply AWp.exit); try simp -implicitDefEqProofs [h4', wc, wl, k1', k2', x1, x2, hs, ne, ne.symm]))
          all_goals (repeat (first | exact AS.le_refl _ | refine le_new (by simp [ne, hid, hid0]) ?_))
      · have hu3 := hu2.2 hs
        have hsd : decide ((b.length : Int) - at' < (K : Int)) = false := decide_eq_false hs
        have hsl := hsl hs
        have hbnd : 0 ≤ (c.toNat : Int) - offI K ∧ (c.toNat : Int) - offI K < 128 := by unfold offI; rcases hK with ⟨rfl, hcr⟩ | ⟨rfl, hcr, hcr2⟩ | ⟨rfl, hcr, hcr2⟩ <;> simp <;> omega
        have hget : ∀ (i : Nat) (hi : i < (seg b at' K).length), b[at'.toNat + i]? = some (seg b at' K)[i] := by
          intro i hi
          have : at'.toNat + i < b.length := by have := hi; simp [seg] at this; omega
          simp [seg, this]
        generalize hL : seg b at' K = L at *
        have hlen : L.length = K := by omega
        have hstep : ∀ i, 1 ≤ i → (hi : i < L.length) → 256 * (beN (L.take i) - offI K * 256 ^ (i - 1)) + L[i].toNat = beN (L.take (i + 1)) - offI K * 256 ^ i := by
          intro i h1 hi
          rw [← List.take_append_getElem hi, beN_snoc]
          obtain ⟨j, rfl⟩ : ∃ j, i = j + 1 := ⟨i - 1, by omega⟩
          rw [Nat.add_sub_cancel, Int.pow_succ, Int.mul_sub]
          rw [show offI K * (256 ^ j * 256) = 256 * (offI K * 256 ^ j) by rw [← Int.mul_assoc, Int.mul_comm]]
          omega
        have hrange : ∀ i, 1 ≤ i → i ≤ L.length → 0 ≤ beN (L.take i) - offI K * 256 ^ (i - 1) ∧ beN (L.take i) - offI K * 256 ^ (i - 1) < 128 * 256 ^ (i - 1) := by
          intro i h1
          induction i with
          | zero => omega
          | succ i ih =>
            intro hi
            by_cases hi0 : i = 0
            · subst hi0; simp [hstart]; omega
            · have h2 := ih (by omega) (by omega)
              have h3 := hstep i (by omega) (by omega)
              have hb := L[i].toNat_lt
              rw [Nat.add_sub_cancel, ← h3]
              obtain ⟨j, rfl⟩ : ∃ j, i = j + 1 := ⟨i - 1, by omega⟩
              rw [Int.pow_succ]
              simp only [Nat.add_sub_cancel] at h2 ⊢
              omega
        have hp4 : ∀ i : Nat, i < 4 → (256 : Int) ^ i ≤ 16777216 := by decide
        have hfin : beN L - offI K * 256 ^ (L.length - 1) = beN L % (maskI K + 1) := by
          rw [hlen]
          rcases hK with ⟨rfl, hcr⟩ | ⟨rfl, hcr, hcr2⟩ | ⟨rfl, hcr, hcr2⟩
          · obtain ⟨x1, rfl⟩ := bytes_of_len1 L hlen
            simp [beN, maskI, offI] at hstart ⊢
            omega
          · obtain ⟨x1, x2, rfl⟩ := bytes_of_len2 L hlen
            have := x2.toNat_lt
            simp [beN, maskI, offI] at hstart ⊢
            omega
          · obtain ⟨x1, x2, x3, x4, rfl⟩ := bytes_of_len4 L hlen
            have := x2.toNat_lt
            have := x3.toNat_lt
            have := x4.toNat_lt
            simp [beN, maskI, offI] at hstart ⊢
            omega
        obtain ⟨x0, hx0⟩ : ∃ x0, x0 = beN L % (maskI K + 1) := ⟨_, rfl⟩
        rw [← hx0] at hfin hu3
        have hoff : ∃ off, off = offI K := ⟨_, rfl⟩
        obtain ⟨off, hoff⟩ := hoff
        have hoffv : (K = 1 ∧ off = 0) ∨ (K = 2 ∧ off = 128) ∨ (K = 4 ∧ off = 192) := by rcases hK with ⟨rfl, hcr⟩ | ⟨rfl, hcr, hcr2⟩ | ⟨rfl, hcr, hcr2⟩ <;> simp [hoff, offI]
        rw [← hoff] at hstep hrange hfin hbnd
        have hinit : beN (L.take 1) - off * 256 ^ (1 - 1) = (c.toNat : Int) - off := by rw [hstart]; simp
        clear hoff hK hu2 hu hr hL hrl hw hK0 hstart
        rcases hoffv with ⟨rfl, rfl⟩ | ⟨rfl, rfl⟩ | ⟨rfl, rfl⟩
        all_goals
          first
          | have k2' := k2d (by decide)
          | have k2' := trivial
          push_cast at hsd
          simp at hs
          have hlenI : (L.length : Int) = _ := hsl
          repeat (first
            | (with_reducible first | apply AWp.seq | apply AWp.block | refine And.intro (by first | omega | assumption | decide) ?_)
            | ((first | (with_reducible first | apply AWp.fork | apply AWp.region | show condK _ _ _ | show guardK _ _ _ _ _ _ _ _ _) | ((with_reducible apply AWp.drawS (id := 16) (t := sc_61_16_XRef1b)); (exact mixed); kernel_rfl; kernel_rfl; (repeat (with_reducible first | apply PanQ.then | apply PanQ.block | apply PanQ.body | apply PanQ.no))) | ((with_reducible apply AWp.drawS (id := 17) (t := sc_61_17_XRef1b)); (exact mixed); kernel_rfl; kernel_rfl; (repeat (with_reducible first | apply PanQ.then | apply PanQ.block | apply PanQ.body | apply PanQ.no)))); simp -implicitDefEqProofs [h0, ha, hlt2, hlt, hc, wc])
            | ((with_reducible first | apply AWp.ret | apply AWp.skip | apply AWp.exit); try simp -implicitDefEqProofs [h0, ha, hlt2, hlt, hc, wc]))
          intro id ne hid
          have ne : id ≠ id0 := ne
          repeat (first
            | (with_reducible first | apply AWp.seq | apply AWp.block | refine And.intro (by first | omega | assumption | decide) ?_)
            | ((first | (with_reducible first | apply AWp.fork | apply AWp.region | show condK _ _ _ | show guardK _ _ _ _ _ _ _ _ _) | ((with_reducible apply AWp.drawS (id := 16) (t := sc_61_16_XRef1b)); (exact mixed); kernel_rfl; kernel_rfl; (repeat (with_reducible first | apply PanQ.then | apply PanQ.block | apply PanQ.body | apply PanQ.no))) | ((with_reducible apply AWp.drawS (id := 17) (t := sc_61_17_XRef1b)); (exact mixed); kernel_rfl; kernel_rfl; (repeat (with_reducible first | apply PanQ.then | apply PanQ.block | apply PanQ.body | apply PanQ.no)))); simp -implicitDefEqProofs [h4', wc, wl, k1', k2', x1, x2, hs, hsd, ne, ne.symm])
            | ((with_reducible first | apply AWp.ret | apply AWp.skip | apply AWp.exit); try simp -implicitDefEqProofs [h4', wc, wl, k1', k2', x1, x2, hs, hsd, ne, ne.symm]))
          refine AWp.loopI (runI L b o nl at' _ id0 id σ) (k0 := L.length - 1) ⟨1, rfl, by omega, by omega, by rw [hinit, hlenI], rfl⟩ (FrWk.mk (by simp)) (by simp) ?_
          rintro m s σ' ⟨i, hm, hi1, hi, rfl, rfl⟩
          by_cases hil : i < L.length
          · have hr1 := hrange i hi1 hi
            have hst := hstep i hi1 hil
            have hp := hp4 (i - 1) (by omega)
            have hbi := L[i].toNat_lt
            have hgt := hget i hil
            have hlt3 : at'.toNat + i < b.length := by
              rcases Nat.lt_or_ge (at'.toNat + i) b.length with h | h
              · exact h
              · rw [List.getElem?_eq_none h] at hgt; cases hgt
            have hgt2 : b[at'.toNat + i] = L[i] := by rw [List.getElem?_eq_getElem hlt3] at hgt; simpa using hgt
            have u2 : (at' + (i : Int)).toNat = at'.toNat + i := by omega
            have W2 : IntKind.i64.wrap (at' + (i : Int)) = at' + i := in_i64 (by omega) (by omega)
            have W3 : IntKind.i64.wrap L[i].toNat = L[i].toNat := in_i64 (by omega) (by omega)
            have W5 : IntKind.i64.wrap ((i : Int) + 1) = ((i + 1 : Nat) : Int) := by rw [in_i64 (by omega) (by omega)]; simp
            have hilI : (i : Int) < L.length := by omega
            have z1 : (0 : Int) ≤ at' + i := by omega
            have z2 : at' + (i : Int) < b.length := by omega
            generalize hx0 : beN (L.take i) - _ * 256 ^ (i - 1) = x0 at *
            have W1 : IntKind.i64.wrap (256 * x0) = 256 * x0 := in_i64 (by omega) (by omega)
            have W4 : IntKind.i64.wrap (256 * x0 + L[i].toNat) = 256 * x0 + L[i].toNat := in_i64 (by omega) (by omega)
            repeat (first
              | (with_reducible first | apply AWp.seq | apply AWp.block | refine And.intro (by first | omega | assumption | decide) ?_)
              | ((first | (with_reducible first | apply AWp.fork | apply AWp.region | show condK _ _ _ | show guardK _ _ _ _ _ _ _ _ _) | ((with_reducible apply AWp.drawS (id := 16) (t := sc_61_16_XRef1b)); (exact mixed); kernel_rfl; kernel_rfl; (repeat (with_reducible first | apply PanQ.then | apply PanQ.block | apply PanQ.body | apply PanQ.no))) | ((with_reducible apply AWp.drawS (id := 17) (t := sc_61_17_XRef1b)); (exact mixed); kernel_rfl; kernel_rfl; (repeat (with_reducible first | apply PanQ.then | apply PanQ.block | apply PanQ.body | apply PanQ.no)))); simp -implicitDefEqProofs [hil, W1, W2, W3, W4, z1, z2, hlt3, u2, hgt2, ne, ne.symm, Try.underlying3, Try.underlying5])
              | ((with_reducible first | apply AWp.ret | apply AWp.skip | apply AWp.exit); try simp -implicitDefEqProofs [hil, W1, W2, W3, W4, z1, z2, hlt3, u2, hgt2, ne, ne.symm, Try.underlying3, Try.underlying5]))
            refine ⟨m - 1, _, _, by omega, FrWk.mk ?_, ?_, i + 1, by omega, by omega, by omega, rfl, rfl⟩
            · simp [W5]
            · simp [hst]
          · have hiL : i = L.length := by omega
            subst hiL
            simp at hfin hu3
            have hcl : ∀ σ1, AS.le σ σ1 → AW.Ends Try.prog (Gives (.agg [.sc (.int .i64 x), .sc (.int .i64 k), .sc (.int .i64 e)]) σ) σ1 (.agg [.sc (.int .i64 x), .sc (.int .i64 k), .sc (.int .i64 e)]) := fun σ1 h => ⟨_, _, Wk.refl _, h, rfl, rfl⟩
            repeat (first
              | (with_reducible first | apply AWp.seq | apply AWp.block | refine And.intro (by first | omega | assumption | decide) ?_)
              | ((first | (with_reducible first | apply AWp.fork | apply AWp.region | show condK _ _ _ | show guardK _ _ _ _ _ _ _ _ _) | ((with_reducible apply AWp.drawS (id := 16) (t := sc_61_16_XRef1b)); (exact mixed); kernel_rfl; kernel_rfl; (repeat (with_reducible first | apply PanQ.then | apply PanQ.block | apply PanQ.body | apply PanQ.no))) | ((with_reducible apply AWp.drawS (id := 17) (t := sc_61_17_XRef1b)); (exact mixed); kernel_rfl; kernel_rfl; (repeat (with_reducible first | apply PanQ.then | apply PanQ.block | apply PanQ.body | apply PanQ.no)))); simp -implicitDefEqProofs [hil, ne, ne.symm, hfin])
              | ((with_reducible first | apply AWp.ret | apply AWp.skip | apply AWp.exit); try simp -implicitDefEqProofs [hil, ne, ne.symm, hfin]))
            by_cases hsz : sizeI x0 = (L.length : Int)
            · have hsz2 := hsz
              rw [hsl] at hsz2
              simp at hsz2
              simp only [hsz2, if_true, Prod.mk.injEq] at hu3
              obtain ⟨rfl, rfl, rfl⟩ := hu3
              refine ⟨?_, ?_⟩
              all_goals
                repeat (first
                  | (with_reducible first | apply AWp.seq | apply AWp.block | refine And.intro (by first | omega | assumption | decide) ?_)
                  | ((first | (with_reducible first | apply AWp.fork | apply AWp.region | show condK _ _ _ | show guardK _ _ _ _ _ _ _ _ _) | ((with_reducible apply AWp.drawS (id := 16) (t := sc_61_16_XRef1b)); (exact mixed); kernel_rfl; kernel_rfl; (repeat (with_reducible first | apply PanQ.then | apply PanQ.block | apply PanQ.body | apply PanQ.no))) | ((with_reducible apply AWp.drawS (id := 17) (t := sc_61_17_XRef1b)); (exact mixed); kernel_rfl; kernel_rfl; (repeat (with_reducible first | apply PanQ.then | apply PanQ.block | apply PanQ.body | apply PanQ.no))) | ((with_reducible apply aCall.id); first | apply aCall.gives (rsize_ok _ _))); simp -implicitDefEqProofs [hsz, hsz2, hsl, ne, ne.symm])
                  | ((with_reducible first | apply AWp.ret | apply AWp.skip | apply AWp.exit); try simp -implicitDefEqProofs [hsz, hsz2, hsl, ne, ne.symm]))
                all_goals (repeat (first | exact AS.le_refl _ | refine le_new (by simp [ne, hid, hid0]) ?_))
            · have hsz2 := hsz
              rw [hsl] at hsz2
              simp at hsz2
              simp only [hsz2, if_false, Prod.mk.injEq] at hu3
              obtain ⟨rfl, rfl, rfl⟩ := hu3
              refine ⟨?_, ?_⟩
              all_goals
                repeat (first
                  | (with_reducible first | apply AWp.seq | apply AWp.block | refine And.intro (by first | omega | assumption | decide) ?_)
                  | ((first | (with_reducible first | apply AWp.fork | apply AWp.region | show condK _ _ _ | show guardK _ _ _ _ _ _ _ _ _) | ((with_reducible apply AWp.drawS (id := 16) (t := sc_61_16_XRef1b)); (exact mixed); kernel_rfl; kernel_rfl; (repeat (with_reducible first | apply PanQ.then | apply PanQ.block | apply PanQ.body | apply PanQ.no))) | ((with_reducible apply AWp.drawS (id := 17) (t := sc_61_17_XRef1b)); (exact mixed); kernel_rfl; kernel_rfl; (repeat (with_reducible first | apply PanQ.then | apply PanQ.block | apply PanQ.body | apply PanQ.no))) | ((with_reducible apply aCall.id); first | apply aCall.gives (rsize_ok _ _))); simp -implicitDefEqProofs [hsz, hsz2, hsl, ne, ne.symm])
                  | ((with_reducible first | apply AWp.ret | apply AWp.skip | apply AWp.exit); try simp -implicitDefEqProofs [hsz, hsz2, hsl, ne, ne.symm]))
                all_goals (repeat (first | exact AS.le_refl _ | refine le_new (by simp [ne, hid, hid0]) ?_))

end Go.Proofs.Ytplphldpkliakaa
