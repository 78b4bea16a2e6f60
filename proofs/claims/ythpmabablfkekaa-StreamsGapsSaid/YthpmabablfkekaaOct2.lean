/- Package octet's Pack, and its reader's readings. -/
import Derived.Test.YthpmabablfkekaaOct1
set_option linter.unusedSimpArgs false
set_option linter.unusedVariables false
set_option maxRecDepth 100000
namespace Go.Proofs.Ythpmabablfkekaa
open Go Go.AW
abbrev sc_35_7_XOct2 : Sch := (Sch.step 0 (Sch.step 1 (Sch.step 2 (Sch.step 4 (Sch.step 5 (Sch.step 6 (Sch.step 7 (Sch.read 3 (Sch.read 8 (Sch.step 9 (Sch.alt 10 (Sch.step 11 (Sch.step 12 Sch.done)) Sch.none)))))))))))
abbrev sc_34_2_XOct2 : Sch := (Sch.step 0 (Sch.step 1 (Sch.step 2 (Sch.step 4 (Sch.step 5 (Sch.step 6 (Sch.step 8 (Sch.step 9 (Sch.step 10 (Sch.step 12 (Sch.step 16 (Sch.read 3 (Sch.read 7 (Sch.read 11 (Sch.step 13 (Sch.step 14 (Sch.read 15 Sch.done)))))))))))))))))

theorem skip_nil (n : Int) (σ : AS) : ACalls Try.prog 19 [.sc (.pointer none), .sc (.int .i64 n)] σ (Gives (.sc (.int .i64 15)) σ) No := by
  refine ACalls.of_body Try.func19 rfl rfl (by simp [Try.ntmps19]) ?_
  repeat (first
    | (with_reducible first | apply AWp.seq | apply AWp.block | refine And.intro (by first | omega | assumption | decide) ?_)
    | ((first | (with_reducible first | apply AWp.fork | apply AWp.region | show condK _ _ _ | show guardK _ _ _ _ _ _ _ _ _)); simp -implicitDefEqProofs [Try.underlying45])
    | ((with_reducible first | apply AWp.ret | apply AWp.skip | apply AWp.exit); try simp -implicitDefEqProofs [Try.underlying45]))

/-- The reader's answer to Skip. -/
def skipE (b : List UInt8) (at' n : Int) : Int := if n < 0 then 3 else if b.length - at' < n then 1 else 0

theorem skip_bad (id : Nat) (b : List UInt8) (at' n : Int) (nl : Bool) (σ : AS) (h : σ id = some (rdC b at' nl)) (ha : 0 ≤ at') (hb : at' ≤ b.length) (hl : b.length ≤ 140737488355328) (he : skipE b at' n ≠ 0) :
    ACalls Try.prog 19 [.ptr id 0, .sc (.int .i64 n)] σ (Gives (.sc (.int .i64 (skipE b at' n))) σ) No := by
  refine ACalls.of_body Try.func19 rfl rfl (by simp [Try.ntmps19]) ?_
  by_cases h1 : n < 0
  · repeat (first
      | (with_reducible first | apply AWp.seq | apply AWp.block | refine And.intro (by first | omega | assumption | decide) ?_)
      | ((first | (with_reducible first | apply AWp.fork | apply AWp.region | show condK _ _ _ | show guardK _ _ _ _ _ _ _ _ _)); simp -implicitDefEqProofs [Try.underlying45, h1])
      | ((with_reducible first | apply AWp.ret | apply AWp.skip | apply AWp.exit); try simp -implicitDefEqProofs [Try.underlying45, h1]))
    simp [skipE, h1]
  · have h2 : b.length - at' < n := by
      by_cases h : b.length - at' < n
      · exact h
      · exact absurd (by simp [skipE, h1, h]) he
    repeat (first
      | (with_reducible first | apply AWp.seq | apply AWp.block | refine And.intro (by first | omega | assumption | decide) ?_)
      | ((first | (with_reducible first | apply AWp.fork | apply AWp.region | show condK _ _ _ | show guardK _ _ _ _ _ _ _ _ _)); simp -implicitDefEqProofs [Try.underlying45, h1, h2])
      | ((with_reducible first | apply AWp.ret | apply AWp.skip | apply AWp.exit); try simp -implicitDefEqProofs [Try.underlying45, h1, h2]))
    refine aCall.gives (left_ok id b at' nl _ h ha hb hl) ?_
    simp
    repeat (first
      | (with_reducible first | apply AWp.seq | apply AWp.block | refine And.intro (by first | omega | assumption | decide) ?_)
      | ((first | (with_reducible first | apply AWp.fork | apply AWp.region | show condK _ _ _ | show guardK _ _ _ _ _ _ _ _ _)); simp -implicitDefEqProofs [Try.underlying45, h1, h2])
      | ((with_reducible first | apply AWp.ret | apply AWp.skip | apply AWp.exit); try simp -implicitDefEqProofs [Try.underlying45, h1, h2]))
    simp [skipE, h1, h2]

theorem skip_ok (id : Nat) (b : List UInt8) (at' n : Int) (nl : Bool) (σ : AS) (h : σ id = some (rdC b at' nl)) (ha : 0 ≤ at') (hb : at' ≤ b.length) (hl : b.length ≤ 140737488355328) (h1 : 0 ≤ n) (h2 : n ≤ b.length - at') :
    ACalls Try.prog 19 [.ptr id 0, .sc (.int .i64 n)] σ (Gives (.sc (.int .i64 0)) (σ.set id (rdC b (at' + n) nl))) No := by
  refine ACalls.of_body Try.func19 rfl rfl (by simp [Try.ntmps19]) ?_
  have h1' : ¬ n < 0 := by omega
  have h2' : ¬ b.length - at' < n := by omega
  have e : IntKind.i64.wrap (at' + n) = at' + n := in_i64 (by omega) (by omega)
  repeat (first
    | (with_reducible first | apply AWp.seq | apply AWp.block | refine And.intro (by first | omega | assumption | decide) ?_)
    | ((first | (with_reducible first | apply AWp.fork | apply AWp.region | show condK _ _ _ | show guardK _ _ _ _ _ _ _ _ _)); simp -implicitDefEqProofs [Try.underlying45, h1', h2'])
    | ((with_reducible first | apply AWp.ret | apply AWp.skip | apply AWp.exit); try simp -implicitDefEqProofs [Try.underlying45, h1', h2']))
  refine aCall.gives (left_ok id b at' nl _ h ha hb hl) ?_
  simp
  repeat (first
    | (with_reducible first | apply AWp.seq | apply AWp.block | refine And.intro (by first | omega | assumption | decide) ?_)
    | ((first | (with_reducible first | apply AWp.fork | apply AWp.region | show condK _ _ _ | show guardK _ _ _ _ _ _ _ _ _)); simp -implicitDefEqProofs [Try.underlying45, h1', h2', h, rdC, e])
    | ((with_reducible first | apply AWp.ret | apply AWp.skip | apply AWp.exit); try simp -implicitDefEqProofs [Try.underlying45, h1', h2', h, rdC, e]))

theorem take_nil (n : Int) (σ : AS) : ACalls Try.prog 35 [.sc (.pointer none), .sc (.int .i64 n)] σ (Gives (.tup [.nilS, .sc (.int .i64 15)]) σ) No := by
  refine ACalls.of_body Try.func35 rfl rfl (by simp [Try.ntmps35]) ?_
  repeat (first
    | (with_reducible first | apply AWp.seq | apply AWp.block | refine And.intro (by first | omega | assumption | decide) ?_)
    | ((first | (with_reducible first | apply AWp.fork | apply AWp.region | show condK _ _ _ | show guardK _ _ _ _ _ _ _ _ _) | ((with_reducible apply AWp.drawS (id := 7) (t := sc_35_7_XOct2)); (exact mixed); kernel_rfl; kernel_rfl; (repeat (with_reducible first | apply PanQ.then | apply PanQ.block | apply PanQ.body | apply PanQ.no)))); simp -implicitDefEqProofs [Try.underlying45])
    | ((with_reducible first | apply AWp.ret | apply AWp.skip | apply AWp.exit); try simp -implicitDefEqProofs [Try.underlying45]))

theorem take_bad (id : Nat) (b : List UInt8) (at' n : Int) (nl : Bool) (σ : AS) (h : σ id = some (rdC b at' nl)) (ha : 0 ≤ at') (hb : at' ≤ b.length) (hl : b.length ≤ 140737488355328) (he : skipE b at' n ≠ 0) :
    ACalls Try.prog 35 [.ptr id 0, .sc (.int .i64 n)] σ (Gives (.tup [.nilS, .sc (.int .i64 (skipE b at' n))]) σ) No := by
  refine ACalls.of_body Try.func35 rfl rfl (by simp [Try.ntmps35]) ?_
  repeat (first
    | (with_reducible first | apply AWp.seq | apply AWp.block | refine And.intro (by first | omega | assumption | decide) ?_)
    | ((first | (with_reducible first | apply AWp.fork | apply AWp.region | show condK _ _ _ | show guardK _ _ _ _ _ _ _ _ _) | ((with_reducible apply AWp.drawS (id := 7) (t := sc_35_7_XOct2)); (exact mixed); kernel_rfl; kernel_rfl; (repeat (with_reducible first | apply PanQ.then | apply PanQ.block | apply PanQ.body | apply PanQ.no)))); simp -implicitDefEqProofs [Try.underlying45, h, rdC])
    | ((with_reducible first | apply AWp.ret | apply AWp.skip | apply AWp.exit); try simp -implicitDefEqProofs [Try.underlying45, h, rdC]))
  refine aCall.gives (skip_bad id b at' n nl _ h ha hb hl he) ?_
  simp
  repeat (first
    | (with_reducible first | apply AWp.seq | apply AWp.block | refine And.intro (by first | omega | assumption | decide) ?_)
    | ((first | (with_reducible first | apply AWp.fork | apply AWp.region | show condK _ _ _ | show guardK _ _ _ _ _ _ _ _ _) | ((with_reducible apply AWp.drawS (id := 7) (t := sc_35_7_XOct2)); (exact mixed); kernel_rfl; kernel_rfl; (repeat (with_reducible first | apply PanQ.then | apply PanQ.block | apply PanQ.body | apply PanQ.no)))); simp -implicitDefEqProofs [Try.underlying45, h, he])
    | ((with_reducible first | apply AWp.ret | apply AWp.skip | apply AWp.exit); try simp -implicitDefEqProofs [Try.underlying45, h, he]))

/-- What is taken. -/
def seg (b : List UInt8) (at' n : Int) : List UInt8 := (b.take (at' + n).toNat).drop at'.toNat

theorem take_ok (id : Nat) (b : List UInt8) (at' n : Int) (nl : Bool) (σ : AS) (hnl : nl = true → b = []) (h : σ id = some (rdC b at' nl)) (ha : 0 ≤ at') (hb : at' ≤ b.length) (hl : b.length ≤ 140737488355328) (h1 : 0 ≤ n) (h2 : n ≤ b.length - at') :
    ACalls Try.prog 35 [.ptr id 0, .sc (.int .i64 n)] σ (fun r σ' => ∃ tk, σ tk = none ∧ r = .tup [.lst 5 ((seg b at' n).map u8) (.tok tk) nl, .sc (.int .i64 0)] ∧
      σ' = (σ.set id (rdC b (at' + n) nl)).set tk (.tok (seg b at' n).length)) No := by
  refine ACalls.of_body Try.func35 rfl rfl (by simp [Try.ntmps35]) ?_
  repeat (first
    | (with_reducible first | apply AWp.seq | apply AWp.block | refine And.intro (by first | omega | assumption | decide) ?_)
    | ((first | (with_reducible first | apply AWp.fork | apply AWp.region | show condK _ _ _ | show guardK _ _ _ _ _ _ _ _ _) | ((with_reducible apply AWp.drawS (id := 7) (t := sc_35_7_XOct2)); (exact mixed); kernel_rfl; kernel_rfl; (repeat (with_reducible first | apply PanQ.then | apply PanQ.block | apply PanQ.body | apply PanQ.no)))); simp -implicitDefEqProofs [Try.underlying45, h, rdC])
    | ((with_reducible first | apply AWp.ret | apply AWp.skip | apply AWp.exit); try simp -implicitDefEqProofs [Try.underlying45, h, rdC]))
  refine aCall.gives (skip_ok id b at' n nl _ h ha hb hl h1 h2) ?_
  simp
  repeat (first
    | (with_reducible first | apply AWp.seq | apply AWp.block | refine And.intro (by first | omega | assumption | decide) ?_)
    | ((first | (with_reducible first | apply AWp.fork | apply AWp.region | show condK _ _ _ | show guardK _ _ _ _ _ _ _ _ _) | ((with_reducible apply AWp.drawS (id := 7) (t := sc_35_7_XOct2)); (exact mixed); kernel_rfl; kernel_rfl; (repeat (with_reducible first | apply PanQ.then | apply PanQ.block | apply PanQ.body | apply PanQ.no)))); simp -implicitDefEqProofs [Try.underlying45, rdC])
    | ((with_reducible first | apply AWp.ret | apply AWp.skip | apply AWp.exit); try simp -implicitDefEqProofs [Try.underlying45, rdC]))
  rw [show List.drop at'.toNat (List.take (at' + n).toNat (List.map u8 b)) = (seg b at' n).map u8 by simp [seg, List.map_drop, List.map_take]]
  refine aCall.owns (clone_ok _ .unk nl (fun h => by simp [seg, hnl h]) (by simp [seg]; omega) _) (fun tk htk => ?_)
  have h0 : σ tk = none := by
    by_cases e : tk = id
    · subst e; simp [AS.set] at htk
    · simpa [AS.set, e] using htk
  simp
  repeat (first
    | (with_reducible first | apply AWp.seq | apply AWp.block | refine And.intro (by first | omega | assumption | decide) ?_)
    | ((first | (with_reducible first | apply AWp.fork | apply AWp.region) | ((with_reducible apply AWp.drawS (id := 7) (t := sc_35_7_XOct2)); (exact mixed); kernel_rfl; kernel_rfl; (repeat (with_reducible first | apply PanQ.then | apply PanQ.block | apply PanQ.body | apply PanQ.no)))); simp -implicitDefEqProofs)
    | ((with_reducible first | apply AWp.ret | apply AWp.skip | apply AWp.exit); try simp -implicitDefEqProofs))
  exact ⟨_, _, Wk.refl _, AS.le_refl _, tk, h0, rfl, by simp [rdC]⟩

/-! ## numbers, the lowest byte first -/

def numL : List UInt8 → Int
  | [] => 0
  | c :: r => c.toNat + 256 * numL r

theorem numL_nonneg (l : List UInt8) : 0 ≤ numL l := by
  induction l with
  | nil => simp [numL]
  | cons c r ih => simp only [numL]; omega

theorem numL_lt (l : List UInt8) : numL l < 256 ^ l.length := by
  induction l with
  | nil => simp [numL]
  | cons c r ih =>
    simp only [numL, List.length_cons, Int.pow_succ]
    have := c.toNat_lt
    omega

theorem numL_snoc (l : List UInt8) (c : UInt8) : numL (l ++ [c]) = numL l + c.toNat * 256 ^ l.length := by
  induction l with
  | nil => simp [numL]
  | cons d r ih =>
    simp only [List.cons_append, numL, ih, List.length_cons, Int.pow_succ]
    rw [Int.mul_add, Int.add_assoc, Int.mul_comm (256 ^ r.length) 256, ← Int.mul_assoc (c.toNat : Int), Int.mul_comm (c.toNat : Int) 256, Int.mul_assoc]

theorem seg_length (b : List UInt8) (at' n : Int) (ha : 0 ≤ at') (hn : 0 ≤ n) (h : n ≤ b.length - at') : ((seg b at' n).length : Int) = n := by
  simp [seg]; omega

theorem pow256 (i : Nat) : (256 : Int) ^ i = 2 ^ (8 * i) := by
  rw [Int.pow_mul]; rfl

/-- A byte is laid on top. -/
theorem or_byte (x : Int) (c : UInt8) (i : Nat) (hi : i < 8) (hx : 0 ≤ x) (hx2 : x < 256 ^ i) :
    bOr 64 x (IntKind.u64.wrap (c.toNat * 2 ^ (8 * i))) = x + c.toNat * 256 ^ i := by
  have hc := c.toNat_lt
  have hp : (0 : Int) < 256 ^ i := Int.pow_pos (by omega)
  have e8 : (256 : Int) ^ i * 256 ≤ 256 ^ 8 := (show ∀ j : Nat, j < 8 → (256 : Int) ^ j * 256 ≤ 256 ^ 8 by decide) i hi
  have hm : (c.toNat : Int) * 256 ^ i ≤ 255 * 256 ^ i := Int.mul_le_mul_of_nonneg_right (by omega) (by omega)
  have hm0 : 0 ≤ (c.toNat : Int) * 256 ^ i := Int.mul_nonneg (by omega) (by omega)
  have e9 : (256 : Int) ^ 8 = 18446744073709551616 := by decide
  rw [← pow256, in_u64 hm0 (by omega), bOr_comm]
  rw [or_add (8 * i) hx (by rw [← pow256]; exact hx2) (c := c.toNat) (by omega) (by rw [← pow256, Int.mul_comm]) (by omega)]
  omega

def rawI (id : Nat) (σ : AS) (l : List UInt8) (n : Int) (nl : Bool) (m : Nat) (s : Fr) (σ' : AS) : Prop :=
  ∃ i : Nat, m = l.length - i ∧ i ≤ l.length ∧ σ' = σ ∧
    s = mkF [(0, .ptr id 0), (1, .sc (.int .i64 n)), (5, .sc (.int .u64 (numL (l.take i)))), (22, .lst 5 (l.map u8) .unk nl), (23, .sc (.int .i64 l.length)), (24, .sc (.int .i64 i))]

theorem raw_ok (id : Nat) (b : List UInt8) (at' n : Int) (nl : Bool) (σ : AS) (h : σ id = some (rdC b at' nl)) (ha : 0 ≤ at') (hb : at' ≤ b.length) (hl : b.length ≤ 140737488355328) (h1 : 0 ≤ n) (h2 : n ≤ b.length - at') (h8 : n ≤ 8) :
    ACalls Try.prog 34 [.ptr id 0, .sc (.int .i64 n)] σ (Gives (.sc (.int .u64 (numL (seg b at' n)))) (σ.set id (rdC b (at' + n) nl))) No := by
  refine ACalls.of_body Try.func34 rfl rfl (by simp [Try.ntmps34]) ?_
  have e : IntKind.i64.wrap (at' + n) = at' + n := in_i64 (by omega) (by omega)
  have hsl := seg_length b at' n ha h1 h2
  repeat (first
    | (with_reducible first | apply AWp.seq | apply AWp.block | refine And.intro (by first | omega | assumption | decide) ?_)
    | ((first | (with_reducible first | apply AWp.fork | apply AWp.region | show condK _ _ _ | show guardK _ _ _ _ _ _ _ _ _) | ((with_reducible apply AWp.drawS (id := 2) (t := sc_34_2_XOct2)); (exact mixed); kernel_rfl; kernel_rfl; (repeat (with_reducible first | apply PanQ.then | apply PanQ.block | apply PanQ.body | apply PanQ.no)))); simp -implicitDefEqProofs [Try.underlying45, h, rdC, e])
    | ((with_reducible first | apply AWp.ret | apply AWp.skip | apply AWp.exit); try simp -implicitDefEqProofs [Try.underlying45, h, rdC, e]))
  have e0 : min (at' + n).toNat b.length - at'.toNat = (seg b at' n).length := by simp [seg]
  have e1 : List.drop at'.toNat (List.take (at' + n).toNat (List.map u8 b)) = (seg b at' n).map u8 := by simp [seg, List.map_drop, List.map_take]
  refine AWp.loopI (rawI id σ (seg b at' n) n nl) (k0 := (seg b at' n).length) ⟨0, by omega, by omega, rfl, rfl⟩ (FrWk.mk (by simp [e0, e1, numL])) (AS.le_refl _) ?_
  rintro m s σ' ⟨i, hm, hi, rfl, rfl⟩
  generalize hL : seg b at' n = L at *
  by_cases hlt : i < L.length
  · have w1 : IntKind.i64.wrap (8 * (i : Int)) = ((8 * i : Nat) : Int) := by rw [in_i64 (by omega) (by omega)]; simp
    have w2 : IntKind.u64.wrap L[i].toNat = L[i].toNat := in_u64 (by omega) (by have := L[i].toNat_lt; omega)
    have w3 := or_byte (numL (L.take i)) L[i] i (by omega) (numL_nonneg _) (by have := numL_lt (L.take i); rwa [List.length_take, Nat.min_eq_left (by omega)] at this)
    have w4 : numL (L.take (i + 1)) = numL (L.take i) + L[i].toNat * 256 ^ i := by
      rw [← List.take_append_getElem hlt, numL_snoc, List.length_take, Nat.min_eq_left (by omega)]
    have w5 : numL (L.take (i + 1)) < 256 ^ 8 := by
      have q1 := numL_lt (L.take (i + 1))
      have q2 : (L.take (i + 1)).length ≤ 8 := by simp; omega
      have q3 : ∀ j : Nat, j < 9 → (256 : Int) ^ j ≤ 256 ^ 8 := by decide
      have := q3 _ (show (L.take (i + 1)).length < 9 by omega)
      omega
    have e9 : (256 : Int) ^ 8 = 18446744073709551616 := by decide
    have w6 : IntKind.u64.wrap (numL (L.take (i + 1))) = numL (L.take (i + 1)) := in_u64 (numL_nonneg _) (by omega)
    have w7 : min (8 * i) 64 = 8 * i := by omega
    have w8 : IntKind.i64.wrap ((i : Int) + 1) = ((i + 1 : Nat) : Int) := by rw [in_i64 (by omega) (by omega)]; simp
    rw [← w4] at w3
    have w9 : (8 * (i : Int)).toNat = 8 * i := by omega
    repeat (first
      | (with_reducible first | apply AWp.seq | apply AWp.block | refine And.intro (by first | omega | assumption | decide) ?_)
      | ((first | (with_reducible first | apply AWp.fork | apply AWp.region | show condK _ _ _ | show guardK _ _ _ _ _ _ _ _ _) | ((with_reducible apply AWp.drawS (id := 2) (t := sc_34_2_XOct2)); (exact mixed); kernel_rfl; kernel_rfl; (repeat (with_reducible first | apply PanQ.then | apply PanQ.block | apply PanQ.body | apply PanQ.no)))); simp -implicitDefEqProofs [hlt, Try.underlying48, Try.underlying5, w1, w2, w7, w9])
      | ((with_reducible first | apply AWp.ret | apply AWp.skip | apply AWp.exit); try simp -implicitDefEqProofs [hlt, Try.underlying48, Try.underlying5, w1, w2, w7, w9]))
    refine ⟨m - 1, _, _, by omega, FrWk.mk ?_, AS.le_refl _, i + 1, by omega, by omega, rfl, rfl⟩
    simp [w8, w3, w6]
  · have hi2 : L.take i = L := List.take_of_length_le (by omega)
    repeat (first
      | (with_reducible first | apply AWp.seq | apply AWp.block | refine And.intro (by first | omega | assumption | decide) ?_)
      | ((first | (with_reducible first | apply AWp.fork | apply AWp.region | show condK _ _ _ | show guardK _ _ _ _ _ _ _ _ _) | ((with_reducible apply AWp.drawS (id := 2) (t := sc_34_2_XOct2)); (exact mixed); kernel_rfl; kernel_rfl; (repeat (with_reducible first | apply PanQ.then | apply PanQ.block | apply PanQ.body | apply PanQ.no)))); simp -implicitDefEqProofs [hlt, h, rdC, e])
      | ((with_reducible first | apply AWp.ret | apply AWp.skip | apply AWp.exit); try simp -implicitDefEqProofs [hlt, h, rdC, e]))
    simp [hi2]

/-! ## Num -/

theorem num_nil (n : Int) (σ : AS) : ACalls Try.prog 21 [.sc (.pointer none), .sc (.int .i64 n)] σ (Gives (.tup [.sc (.int .u64 0), .sc (.int .i64 15)]) σ) No := by
  refine ACalls.of_body Try.func21 rfl rfl (by simp [Try.ntmps21]) ?_
  repeat (first
    | (with_reducible first | apply AWp.seq | apply AWp.block | refine And.intro (by first | omega | assumption | decide) ?_)
    | ((first | (with_reducible first | apply AWp.fork | apply AWp.region | show condK _ _ _ | show guardK _ _ _ _ _ _ _ _ _)); simp -implicitDefEqProofs [Try.underlying45])
    | ((with_reducible first | apply AWp.ret | apply AWp.skip | apply AWp.exit); try simp -implicitDefEqProofs [Try.underlying45]))

/-- The reader's answer to Num. -/
def numE (b : List UInt8) (at' n : Int) : Int := if wide n = true then if b.length - at' < n then 1 else 0 else 17

theorem num_bad (id : Nat) (b : List UInt8) (at' n : Int) (nl : Bool) (σ : AS) (h : σ id = some (rdC b at' nl)) (ha : 0 ≤ at') (hb : at' ≤ b.length) (hl : b.length ≤ 140737488355328) (he : numE b at' n ≠ 0) :
    ACalls Try.prog 21 [.ptr id 0, .sc (.int .i64 n)] σ (Gives (.tup [.sc (.int .u64 0), .sc (.int .i64 (numE b at' n))]) σ) No := by
  refine ACalls.of_body Try.func21 rfl rfl (by simp [Try.ntmps21]) ?_
  repeat (first
    | (with_reducible first | apply AWp.seq | apply AWp.block | refine And.intro (by first | omega | assumption | decide) ?_)
    | ((first | (with_reducible first | apply AWp.fork | apply AWp.region | show condK _ _ _ | show guardK _ _ _ _ _ _ _ _ _)); simp -implicitDefEqProofs [Try.underlying45])
    | ((with_reducible first | apply AWp.ret | apply AWp.skip | apply AWp.exit); try simp -implicitDefEqProofs [Try.underlying45]))
  refine aCall.gives (wide_ok n _) ?_
  simp
  by_cases hw : wide n = true
  · repeat (first
      | (with_reducible first | apply AWp.seq | apply AWp.block | refine And.intro (by first | omega | assumption | decide) ?_)
      | ((first | (with_reducible first | apply AWp.fork | apply AWp.region | show condK _ _ _ | show guardK _ _ _ _ _ _ _ _ _)); simp -implicitDefEqProofs [Try.underlying4, hw])
      | ((with_reducible first | apply AWp.ret | apply AWp.skip | apply AWp.exit); try simp -implicitDefEqProofs [Try.underlying4, hw]))
    refine aCall.gives (left_ok id b at' nl _ h ha hb hl) ?_
    simp
    have h2 : b.length - at' < n := by
      by_cases h : b.length - at' < n
      · exact h
      · exact absurd (by simp [numE, hw, h]) he
    repeat (first
      | (with_reducible first | apply AWp.seq | apply AWp.block | refine And.intro (by first | omega | assumption | decide) ?_)
      | ((first | (with_reducible first | apply AWp.fork | apply AWp.region | show condK _ _ _ | show guardK _ _ _ _ _ _ _ _ _)); simp -implicitDefEqProofs [h2])
      | ((with_reducible first | apply AWp.ret | apply AWp.skip | apply AWp.exit); try simp -implicitDefEqProofs [h2]))
    simp [numE, hw, h2]
  · repeat (first
      | (with_reducible first | apply AWp.seq | apply AWp.block | refine And.intro (by first | omega | assumption | decide) ?_)
      | ((first | (with_reducible first | apply AWp.fork | apply AWp.region | show condK _ _ _ | show guardK _ _ _ _ _ _ _ _ _)); simp -implicitDefEqProofs [Try.underlying4, hw])
      | ((with_reducible first | apply AWp.ret | apply AWp.skip | apply AWp.exit); try simp -implicitDefEqProofs [Try.underlying4, hw]))
    simp [numE, hw]

theorem num_ok (id : Nat) (b : List UInt8) (at' n : Int) (nl : Bool) (σ : AS) (h : σ id = some (rdC b at' nl)) (ha : 0 ≤ at') (hb : at' ≤ b.length) (hl : b.length ≤ 140737488355328) (hw : wide n = true) (h2 : n ≤ b.length - at') :
    ACalls Try.prog 21 [.ptr id 0, .sc (.int .i64 n)] σ (Gives (.tup [.sc (.int .u64 (numL (seg b at' n))), .sc (.int .i64 0)]) (σ.set id (rdC b (at' + n) nl))) No := by
  have hn1 : 1 ≤ n ∧ n ≤ 8 := by simp [wide] at hw; omega
  have h2' : ¬ b.length - at' < n := by omega
  refine ACalls.of_body Try.func21 rfl rfl (by simp [Try.ntmps21]) ?_
  repeat (first
    | (with_reducible first | apply AWp.seq | apply AWp.block | refine And.intro (by first | omega | assumption | decide) ?_)
    | ((first | (with_reducible first | apply AWp.fork | apply AWp.region | show condK _ _ _ | show guardK _ _ _ _ _ _ _ _ _)); simp -implicitDefEqProofs [Try.underlying45])
    | ((with_reducible first | apply AWp.ret | apply AWp.skip | apply AWp.exit); try simp -implicitDefEqProofs [Try.underlying45]))
  refine aCall.gives (wide_ok n _) ?_
  simp
  repeat (first
    | (with_reducible first | apply AWp.seq | apply AWp.block | refine And.intro (by first | omega | assumption | decide) ?_)
    | ((first | (with_reducible first | apply AWp.fork | apply AWp.region | show condK _ _ _ | show guardK _ _ _ _ _ _ _ _ _)); simp -implicitDefEqProofs [Try.underlying4, hw])
    | ((with_reducible first | apply AWp.ret | apply AWp.skip | apply AWp.exit); try simp -implicitDefEqProofs [Try.underlying4, hw]))
  refine aCall.gives (left_ok id b at' nl _ h ha hb hl) ?_
  simp
  repeat (first
    | (with_reducible first | apply AWp.seq | apply AWp.block | refine And.intro (by first | omega | assumption | decide) ?_)
    | ((first | (with_reducible first | apply AWp.fork | apply AWp.region | show condK _ _ _ | show guardK _ _ _ _ _ _ _ _ _)); simp -implicitDefEqProofs [h2'])
    | ((with_reducible first | apply AWp.ret | apply AWp.skip | apply AWp.exit); try simp -implicitDefEqProofs [h2']))
  refine aCall.gives (raw_ok id b at' n nl _ h ha hb hl (by omega) h2 (by omega)) ?_
  simp
  repeat (first
    | (with_reducible first | apply AWp.seq | apply AWp.block | refine And.intro (by first | omega | assumption | decide) ?_)
    | ((first | (with_reducible first | apply AWp.fork | apply AWp.region)); simp -implicitDefEqProofs)
    | ((with_reducible first | apply AWp.ret | apply AWp.skip | apply AWp.exit); try simp -implicitDefEqProofs))

end Go.Proofs.Ythpmabablfkekaa
