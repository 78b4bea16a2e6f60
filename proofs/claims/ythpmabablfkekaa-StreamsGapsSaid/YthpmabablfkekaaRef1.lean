/- The reference's functions of chapter 01: what they compute. -/
import Derived.Test.YthpmabablfkekaaOct2
set_option linter.unusedSimpArgs false
set_option linter.unusedVariables false
set_option maxRecDepth 100000
namespace Go.Proofs.Ythpmabablfkekaa
open Go Go.AW

def rputI (x n : Int) (σ : AS) (m : Nat) (s : Fr) (σ' : AS) : Prop :=
  ∃ k : Nat, (m : Int) = n - k ∧ (k : Int) ≤ n ∧
    ((k = 0 ∧ σ' = σ ∧ s = mkF [(0, .sc (.int .u64 x)), (1, .sc (.int .i64 n)), (5, .nilS), (6, .sc (.int .i64 0))]) ∨
     ∃ tk, σ tk = none ∧ 0 < k ∧ σ' = σ.set tk (.tok k) ∧
      s = mkF [(0, .sc (.int .u64 (x / 256 ^ k))), (1, .sc (.int .i64 n)), (5, .lst 5 ((putB x k).map u8) (.tok tk) false), (6, .sc (.int .i64 k))])

theorem rput_ok (x n : Int) (hx : 0 ≤ x) (hx2 : x < 18446744073709551616) (h1 : 0 < n) (h8 : n ≤ 8) (σ : AS) :
    ACalls Try.prog 31 [.sc (.int .u64 x), .sc (.int .i64 n)] σ (Owns (fun tk => .lst 5 ((putB x n.toNat).map u8) (.tok tk) false) n.toNat σ) No := by
  refine ACalls.of_body Try.func31 rfl rfl (by simp [Try.ntmps31]) ?_
  repeat (first
    | (with_reducible first | apply AWp.seq | apply AWp.block | refine And.intro (by first | omega | assumption | decide) ?_)
    | ((first | (with_reducible first | apply AWp.fork | apply AWp.region)); simp -implicitDefEqProofs)
    | ((with_reducible first | apply AWp.ret | apply AWp.skip | apply AWp.exit); try simp -implicitDefEqProofs))
  refine AWp.loopI (rputI x n σ) (k0 := n.toNat) ⟨0, by omega, by omega, .inl ⟨rfl, rfl, rfl⟩⟩ (FrWk.mk (by simp)) (AS.le_refl _) ?_
  rintro m s σ' ⟨k, hm, hk, ⟨rfl, rfl, rfl⟩ | ⟨tk, htk, hk0, rfl, rfl⟩⟩
  · have e3 : IntKind.u8.wrap (x % 256) = ((UInt8.ofNat (x % 256).toNat).toNat : Int) := by rw [w_u8]; simp; omega
    have e4 : x.tmod 256 = x % 256 := Int.tmod_eq_emod_of_nonneg hx
    have e5 : x.tdiv 256 = x / 256 := Int.tdiv_eq_ediv_of_nonneg hx
    have e6 : IntKind.u64.wrap (x / 256) = x / 256 := in_u64 (by omega) (by omega)
    repeat (first
      | (with_reducible first | apply AWp.seq | apply AWp.block | refine And.intro (by first | omega | assumption | decide) ?_)
      | ((first | (with_reducible first | apply AWp.fork | apply AWp.region | show condK _ _ _ | show guardK _ _ _ _ _ _ _ _ _)); simp -implicitDefEqProofs [h1, e3, e4, e5, e6, Try.underlying48, Try.underlying5])
      | ((with_reducible first | apply AWp.ret | apply AWp.skip | apply AWp.exit); try simp -implicitDefEqProofs [h1, e3, e4, e5, e6, Try.underlying48, Try.underlying5]))
    intro tk htk
    have w8 : IntKind.i64.wrap 1 = 1 := by decide
    repeat (first
      | (with_reducible first | apply AWp.seq | apply AWp.block | refine And.intro (by first | omega | assumption | decide) ?_)
      | ((first | (with_reducible first | apply AWp.fork | apply AWp.region | show condK _ _ _ | show guardK _ _ _ _ _ _ _ _ _)); simp -implicitDefEqProofs [h1, e3, e4, e5, e6, Try.underlying48, Try.underlying5])
      | ((with_reducible first | apply AWp.ret | apply AWp.skip | apply AWp.exit); try simp -implicitDefEqProofs [h1, e3, e4, e5, e6, Try.underlying48, Try.underlying5]))
    refine ⟨m - 1, _, _, by omega, FrWk.mk ?_, AS.le_refl _, 1, by omega, by omega, .inr ⟨tk, htk, by omega, rfl, rfl⟩⟩
    simp [putB, w8]
  · have hd0 : 0 ≤ x / 256 ^ k := Int.ediv_nonneg hx (Int.le_of_lt (Int.pow_pos (by omega)))
    by_cases h : (k : Int) < n
    · have e3 : IntKind.u8.wrap (x / 256 ^ k % 256) = ((UInt8.ofNat (x / 256 ^ k % 256).toNat).toNat : Int) := by rw [w_u8]; simp; omega
      have e4 : (x / 256 ^ k).tmod 256 = x / 256 ^ k % 256 := Int.tmod_eq_emod_of_nonneg hd0
      have e5 : (x / 256 ^ k).tdiv 256 = x / 256 ^ k / 256 := Int.tdiv_eq_ediv_of_nonneg hd0
      have e1 : x / 256 ^ k / 256 = x / 256 ^ (k + 1) := by rw [Int.ediv_ediv_of_nonneg (Int.le_of_lt (Int.pow_pos (by omega))), Int.pow_succ]
      repeat (first
        | (with_reducible first | apply AWp.seq | apply AWp.block | refine And.intro (by first | omega | assumption | decide) ?_)
        | ((first | (with_reducible first | apply AWp.fork | apply AWp.region | show condK _ _ _ | show guardK _ _ _ _ _ _ _ _ _)); simp -implicitDefEqProofs [h, e3, e4, e5, Try.underlying48, Try.underlying5, putB_length])
        | ((with_reducible first | apply AWp.ret | apply AWp.skip | apply AWp.exit); try simp -implicitDefEqProofs [h, e3, e4, e5, Try.underlying48, Try.underlying5, putB_length]))
      refine ⟨m - 1, _, _, by omega, FrWk.mk ?_, AS.le_refl _, k + 1, by omega, by omega, .inr ⟨tk, htk, by omega, rfl, rfl⟩⟩
      have w8 : IntKind.i64.wrap ((k : Int) + 1) = ((k + 1 : Nat) : Int) := by rw [in_i64 (by omega) (by omega)]; simp
      have hd1 : 0 ≤ x / 256 ^ (k + 1) := Int.ediv_nonneg hx (Int.le_of_lt (Int.pow_pos (by omega)))
      have hd2 : x / 256 ^ (k + 1) ≤ x := Int.ediv_le_self _ hx
      have e7 : IntKind.u64.wrap (x / 256 ^ (k + 1)) = x / 256 ^ (k + 1) := in_u64 hd1 (by omega)
      simp [putB_snoc, w8, e1, e7]
    · repeat (first
        | (with_reducible first | apply AWp.seq | apply AWp.block | refine And.intro (by first | omega | assumption | decide) ?_)
        | ((first | (with_reducible first | apply AWp.fork | apply AWp.region | show condK _ _ _ | show guardK _ _ _ _ _ _ _ _ _)); simp -implicitDefEqProofs [h])
        | ((with_reducible first | apply AWp.ret | apply AWp.skip | apply AWp.exit); try simp -implicitDefEqProofs [h]))
      have : k = n.toNat := by omega
      subst this
      exact owns_end tk htk (by simp) (by simp)

def rnumI (L : List UInt8) (b : List UInt8) (own : Own) (nil : Bool) (at' n : Int) (σ : AS) (m : Nat) (s : Fr) (σ' : AS) : Prop :=
  m ≤ L.length ∧ σ' = σ ∧ s = mkF [(0, .lst 5 (b.map u8) own nil), (1, .sc (.int .i64 at')), (7, .sc (.int .u64 (numL (L.drop m)))), (8, .sc (.int .i64 (m - 1)))]

theorem rnum_ok (b : List UInt8) (own : Own) (nil : Bool) (at' n : Int) (ha : 0 ≤ at') (h0 : 0 ≤ n) (h8 : n ≤ 8) (h : n ≤ b.length - at') (hl : b.length ≤ 140737488355328) (σ : AS) :
    ACalls Try.prog 26 [.lst 5 (b.map u8) own nil, .sc (.int .i64 at'), .sc (.int .i64 n)] σ (Gives (.sc (.int .u64 (numL (seg b at' n)))) σ) No := by
  refine ACalls.of_body Try.func26 rfl rfl (by simp [Try.ntmps26]) ?_
  have hsl := seg_length b at' n ha h0 h
  have hw : IntKind.i64.wrap (n - 1) = n - 1 := in_i64 (by omega) (by omega)
  repeat (first
    | (with_reducible first | apply AWp.seq | apply AWp.block | refine And.intro (by first | omega | assumption | decide) ?_)
    | ((first | (with_reducible first | apply AWp.fork | apply AWp.region | show condK _ _ _ | show guardK _ _ _ _ _ _ _ _ _)); simp -implicitDefEqProofs [hw])
    | ((with_reducible first | apply AWp.ret | apply AWp.skip | apply AWp.exit); try simp -implicitDefEqProofs [hw]))
  refine AWp.loopI (rnumI (seg b at' n) b own nil at' n σ) (k0 := (seg b at' n).length) ⟨by omega, rfl, rfl⟩ (FrWk.mk (by simp [numL, hsl])) (AS.le_refl _) ?_
  rintro m s σ' ⟨hm, rfl, rfl⟩
  generalize hL : seg b at' n = L at *
  cases m with
  | zero =>
    repeat (first
      | (with_reducible first | apply AWp.seq | apply AWp.block | refine And.intro (by first | omega | assumption | decide) ?_)
      | ((first | (with_reducible first | apply AWp.fork | apply AWp.region)); simp -implicitDefEqProofs)
      | ((with_reducible first | apply AWp.ret | apply AWp.skip | apply AWp.exit); try simp -implicitDefEqProofs))
  | succ m =>
    have h5 : (0 : Int) ≤ m := by omega
    have hlt : m < L.length := by omega
    have hlt2 : at'.toNat + m < b.length := by omega
    have hget : b[at'.toNat + m] = L[m] := by
      subst hL
      simp [seg]
    have w1 : IntKind.i64.wrap (at' + (m : Int)) = at' + m := in_i64 (by omega) (by omega)
    have w2 : (at' + (m : Int)).toNat = at'.toNat + m := by omega
    have w3 : numL (L.drop m) = L[m].toNat + 256 * numL (L.drop (m + 1)) := by rw [List.drop_eq_getElem_cons hlt, numL]
    have w5 : numL (L.drop m) < 256 ^ 8 := by
      have q1 := numL_lt (L.drop m)
      have q2 : (L.drop m).length ≤ 8 := by simp; omega
      have q3 : ∀ j : Nat, j < 9 → (256 : Int) ^ j ≤ 256 ^ 8 := by decide
      have := q3 _ (show (L.drop m).length < 9 by omega)
      omega
    have e9 : (256 : Int) ^ 8 = 18446744073709551616 := by decide
    have hn1 := numL_nonneg (L.drop (m + 1))
    have hc := L[m].toNat_lt
    have w6 : IntKind.u64.wrap (256 * numL (L.drop (m + 1))) = 256 * numL (L.drop (m + 1)) := in_u64 (by omega) (by omega)
    have w7 : IntKind.u64.wrap (256 * numL (L.drop (m + 1)) + L[m].toNat) = numL (L.drop m) := by rw [in_u64 (by omega) (by omega)]; omega
    have w8 : IntKind.i64.wrap ((m : Int) - 1) = m - 1 := in_i64 (by omega) (by omega)
    have w9 : IntKind.u64.wrap L[m].toNat = L[m].toNat := in_u64 (by omega) (by omega)
    have w10 : (0 : Int) ≤ at' + m := by omega
    have w11 : at' + (m : Int) < b.length := by omega
    repeat (first
      | (with_reducible first | apply AWp.seq | apply AWp.block | refine And.intro (by first | omega | assumption | decide) ?_)
      | ((first | (with_reducible first | apply AWp.fork | apply AWp.region | show condK _ _ _ | show guardK _ _ _ _ _ _ _ _ _)); simp -implicitDefEqProofs [h5, w1, w2, w6, w9, w10, w11, hlt2, hget, Try.underlying48, Try.underlying5])
      | ((with_reducible first | apply AWp.ret | apply AWp.skip | apply AWp.exit); try simp -implicitDefEqProofs [h5, w1, w2, w6, w9, w10, w11, hlt2, hget, Try.underlying48, Try.underlying5]))
    refine ⟨m, _, _, by omega, FrWk.mk ?_, AS.le_refl _, by omega, rfl, rfl⟩
    simp [w7, w8]

end Go.Proofs.Ythpmabablfkekaa
