/- The contracts of package octet's functions and of the reference's (chapter 01), over abstract values. -/
import Derived.Test.YthpmabablfkekaaFacts
set_option linter.unusedSimpArgs false
set_option linter.unusedVariables false
set_option maxRecDepth 100000
namespace Go.Proofs.Ythpmabablfkekaa
open Go Go.AW
abbrev sc_32_3_XOct1 : Sch := (Sch.step 0 (Sch.step 1 (Sch.step 2 (Sch.step 5 (Sch.step 6 (Sch.step 7 (Sch.read 3 (Sch.read 4 (Sch.read 8 (Sch.step 9 (Sch.step 10 Sch.done)))))))))))
abbrev sc_13_6_XOct1 : Sch := (Sch.step 0 (Sch.step 1 (Sch.step 2 (Sch.step 4 (Sch.step 5 (Sch.step 6 (Sch.read 3 (Sch.read 7 (Sch.step 8 Sch.done)))))))))

theorem mixed : Tables.follows Try.prog.toTables .mixedOrders = true := by kernel_rfl

def wide (n : Int) : Bool := decide (n = 1) || decide (n = 2) || decide (n = 4) || decide (n = 8)

theorem wide_ok (n : Int) (σ : AS) : ACalls Try.prog 33 [.sc (.int .i64 n)] σ (Gives (.sc (.bool (wide n))) σ) No := by
  refine ACalls.of_body Try.func33 rfl rfl (by simp [Try.ntmps33]) ?_
  by_cases h1 : n = 1 <;> by_cases h2 : n = 2 <;> by_cases h4 : n = 4 <;> by_cases h8 : n = 8
  all_goals
    repeat (first
      | (with_reducible first | apply AWp.seq | apply AWp.block | refine And.intro (by first | omega | assumption | decide) ?_)
      | ((first | (with_reducible first | apply AWp.fork | apply AWp.region | show condK _ _ _ | show guardK _ _ _ _ _ _ _ _ _)); simp -implicitDefEqProofs [h1, h2, h4, h8])
      | ((with_reducible first | apply AWp.ret | apply AWp.skip | apply AWp.exit); try simp -implicitDefEqProofs [h1, h2, h4, h8]))
    simp [wide, h1, h2, h4, h8]

theorem clone_ok (l : List AV) (own : Own) (nil : Bool) (hn : nil = true → l = []) (hl : l.length ≤ 140737488355328) (σ : AS) :
    ACalls Try.prog 24 [.lst 5 l own nil] σ (Owns (fun tk => .lst 5 l (.tok tk) nil) l.length σ) No := by
  refine ACalls.of_body Try.func24 rfl rfl (by simp [Try.ntmps24]) ?_
  cases nil with
  | true =>
    obtain rfl := hn rfl
    refine AWp.seq (AWp.region ?_)
    simp
    refine AWp.seq (AWp.seq (AWp.region ?_))
    simp [Try.underlying22]
    refine AWp.cond rfl (fun h => ?_) (fun h => by simp at h)
    refine AWp.seq (AWp.region ?_)
    simp
    refine AWp.mint 2 5 [] true (by decide) (by simp) (fun tk htk => ?_)
    repeat (first
      | (with_reducible first | apply AWp.seq | apply AWp.block | refine And.intro (by first | omega | assumption | decide) ?_)
      | ((first | (with_reducible first | apply AWp.fork | apply AWp.region)); simp -implicitDefEqProofs)
      | ((with_reducible first | apply AWp.ret | apply AWp.skip | apply AWp.exit); try simp -implicitDefEqProofs))
    exact owns_end tk htk (by simp) (by simp)
  | false =>
    repeat (first
      | (with_reducible first | apply AWp.seq | apply AWp.block | refine And.intro (by first | omega | assumption | decide) ?_)
      | ((first | (with_reducible first | apply AWp.fork | apply AWp.region | show condK _ _ _ | show guardK _ _ _ _ _ _ _ _ _)); simp -implicitDefEqProofs [Try.underlying22, hl])
      | ((with_reducible first | apply AWp.ret | apply AWp.skip | apply AWp.exit); try simp -implicitDefEqProofs [Try.underlying22, hl]))
    intro tk htk
    repeat (first
      | (with_reducible first | apply AWp.seq | apply AWp.block | refine And.intro (by first | omega | assumption | decide) ?_)
      | ((first | (with_reducible first | apply AWp.fork | apply AWp.region)); simp -implicitDefEqProofs)
      | ((with_reducible first | apply AWp.ret | apply AWp.skip | apply AWp.exit); try simp -implicitDefEqProofs))
    exact owns_end tk htk (by simp) (by simp)

def putB (x : Int) : Nat → List UInt8
  | 0 => []
  | n + 1 => UInt8.ofNat (x % 256).toNat :: putB (x / 256) n

theorem putB_length (x : Int) (n : Nat) : (putB x n).length = n := by
  induction n generalizing x with
  | zero => rfl
  | succ n ih => simp [putB, ih]

theorem putB_snoc (x : Int) (n : Nat) : putB x (n + 1) = putB x n ++ [UInt8.ofNat (x / 256 ^ n % 256).toNat] := by
  induction n generalizing x with
  | zero => simp [putB]
  | succ n ih =>
    rw [putB, ih (x / 256), putB, List.cons_append]
    congr 4
    rw [Int.ediv_ediv_of_nonneg (by omega)]
    rw [Int.pow_succ, Int.mul_comm]

theorem put_bad (b : AV) (x n : Int) (h : wide n = false) (σ : AS) : ACalls Try.prog 30 [b, .sc (.int .u64 x), .sc (.int .i64 n)] σ (Gives (.tup [.nilS, .sc (.int .i64 17)]) σ) No := by
  refine ACalls.of_body Try.func30 rfl rfl (by simp [Try.ntmps30]) ?_
  repeat (first
    | (with_reducible first | apply AWp.seq | apply AWp.block | refine And.intro (by first | omega | assumption | decide) ?_)
    | ((first | (with_reducible first | apply AWp.fork | apply AWp.region)); simp -implicitDefEqProofs)
    | ((with_reducible first | apply AWp.ret | apply AWp.skip | apply AWp.exit); try simp -implicitDefEqProofs))
  refine aCall.gives (wide_ok n _) ?_
  simp [h]
  repeat (first
    | (with_reducible first | apply AWp.seq | apply AWp.block | refine And.intro (by first | omega | assumption | decide) ?_)
    | ((first | (with_reducible first | apply AWp.fork | apply AWp.region)); simp -implicitDefEqProofs)
    | ((with_reducible first | apply AWp.ret | apply AWp.skip | apply AWp.exit); try simp -implicitDefEqProofs))

/-- The loop of Put. -/
def putI (l : List UInt8) (x n : Int) (tk : Nat) (σ : AS) (m : Nat) (s : Fr) (σ' : AS) : Prop :=
  ∃ (k : Nat) (nl : Bool), (m : Int) = n - k ∧ (k : Int) ≤ n ∧ (nl = true → k = 0) ∧
    s = mkF [(1, .sc (.int .u64 (x / 256 ^ k))), (8, .lst 5 ((l ++ putB x k).map u8) (.tok tk) nl), (14, .sc (.int .i64 n)), (15, .sc (.int .i64 k))] ∧
    σ' = σ.set tk (.tok (l.length + k))

theorem put_ok (l : List UInt8) (own : Own) (nil : Bool) (hn : nil = true → l = []) (hl : l.length ≤ 1000000) (x n : Int) (hx : 0 ≤ x) (hx2 : x < 18446744073709551616) (hw : wide n = true) (σ : AS) :
    ACalls Try.prog 30 [.lst 5 (l.map u8) own nil, .sc (.int .u64 x), .sc (.int .i64 n)] σ
      (Owns (fun tk => .tup [.lst 5 ((l ++ putB x n.toNat).map u8) (.tok tk) false, .sc (.int .i64 0)]) (l.length + n.toNat) σ) No := by
  have hn1 : 1 ≤ n ∧ n ≤ 8 := by simp [wide] at hw; omega
  refine ACalls.of_body Try.func30 rfl rfl (by simp [Try.ntmps30]) ?_
  repeat (first
    | (with_reducible first | apply AWp.seq | apply AWp.block | refine And.intro (by first | omega | assumption | decide) ?_)
    | ((first | (with_reducible first | apply AWp.fork | apply AWp.region)); simp -implicitDefEqProofs)
    | ((with_reducible first | apply AWp.ret | apply AWp.skip | apply AWp.exit); try simp -implicitDefEqProofs))
  refine aCall.gives (wide_ok n _) ?_
  simp [hw]
  repeat (first
    | (with_reducible first | apply AWp.seq | apply AWp.block | refine And.intro (by first | omega | assumption | decide) ?_)
    | ((first | (with_reducible first | apply AWp.fork | apply AWp.region)); simp -implicitDefEqProofs)
    | ((with_reducible first | apply AWp.ret | apply AWp.skip | apply AWp.exit); try simp -implicitDefEqProofs))
  refine aCall.owns (clone_ok (l.map u8) own nil (fun h => by simp [hn h]) (by simp; omega) σ) (fun tk htk => ?_)
  simp
  repeat (first
    | (with_reducible first | apply AWp.seq | apply AWp.block | refine And.intro (by first | omega | assumption | decide) ?_)
    | ((first | (with_reducible first | apply AWp.fork | apply AWp.region)); simp -implicitDefEqProofs)
    | ((with_reducible first | apply AWp.ret | apply AWp.skip | apply AWp.exit); try simp -implicitDefEqProofs))
  refine AWp.loopI (putI l x n tk σ) (k0 := n.toNat) ⟨0, nil, by omega, by omega, by simp, rfl, rfl⟩ (FrWk.mk ?_) ?_ ?_
  · simp [putB]
  · simp
  · rintro m s σ' ⟨k, nl, hm, hk, hnl, rfl, rfl⟩
    have hpk : (0 : Int) < 256 ^ k := Int.pow_pos (by omega)
    have hd0 : 0 ≤ x / 256 ^ k := Int.ediv_nonneg hx (by omega)
    refine AWp.seq (AWp.region ?_)
    simp
    refine AWp.seq (AWp.cond rfl (fun h => ?_) (fun h => ?_))
    · simp at h
      repeat (first
        | (with_reducible first | apply AWp.seq | apply AWp.block | refine And.intro (by first | omega | assumption | decide) ?_)
        | ((first | (with_reducible first | apply AWp.fork | apply AWp.region | show condK _ _ _ | show guardK _ _ _ _ _ _ _ _ _)); simp -implicitDefEqProofs [Try.underlying48, Try.underlying5, putB_length])
        | ((with_reducible first | apply AWp.ret | apply AWp.skip | apply AWp.exit); try simp -implicitDefEqProofs [Try.underlying48, Try.underlying5, putB_length]))
      refine ⟨m - 1, _, _, by omega, FrWk.mk ?_, AS.le_refl _, k + 1, false, by omega, by omega, by simp, rfl, rfl⟩
      have e1 : x / 256 ^ (k + 1) = x / 256 ^ k / 256 := by rw [Int.ediv_ediv_of_nonneg (by omega), Int.pow_succ]
      have e2 : IntKind.i64.wrap ((k : Int) + 1) = ((k + 1 : Nat) : Int) := by rw [in_i64 (by omega) (by omega)]; simp
      have e3 : IntKind.u8.wrap (x / 256 ^ k) = ((UInt8.ofNat (x / 256 ^ k % 256).toNat).toNat : Int) := by rw [w_u8]; simp; omega
      simp [e1, e2, putB_snoc, u8, e3]
    · simp at h
      repeat (first
        | (with_reducible first | apply AWp.seq | apply AWp.block | refine And.intro (by first | omega | assumption | decide) ?_)
        | ((first | (with_reducible first | apply AWp.fork | apply AWp.region)); simp -implicitDefEqProofs)
        | ((with_reducible first | apply AWp.ret | apply AWp.skip | apply AWp.exit); try simp -implicitDefEqProofs))
      have hk' : k = n.toNat := by omega
      subst hk'
      have : nl = false := by cases nl with | false => rfl | true => have := hnl rfl; omega
      subst this
      exact owns_end tk htk (by simp) (by simp)

/-! ## packed numbers -/

def sizeI (n : Int) : Int := if n < 0 ∨ 536870911 < n then 0 else if n < 128 then 1 else if n < 16384 then 2 else 4

/-- A reader's cells. -/
def rdC (b : List UInt8) (at' : Int) (nl : Bool) : ABlk := .cells 73 [.lst 5 (b.map u8) .unk nl, .sc (.int .i64 at')]

theorem new_ok (l : List UInt8) (own : Own) (nil : Bool) (hn : nil = true → l = []) (hl : l.length ≤ 140737488355328) (σ : AS) :
    ACalls Try.prog 18 [.lst 5 (l.map u8) own nil] σ (fun r σ' => ∃ id, σ id = none ∧ r = .ptr id 0 ∧ σ' = σ.set id (rdC l 0 nil)) No := by
  refine ACalls.of_body Try.func18 rfl rfl (by simp [Try.ntmps18]) ?_
  repeat (first
    | (with_reducible first | apply AWp.seq | apply AWp.block | refine And.intro (by first | omega | assumption | decide) ?_)
    | ((first | (with_reducible first | apply AWp.fork | apply AWp.region)); simp -implicitDefEqProofs)
    | ((with_reducible first | apply AWp.ret | apply AWp.skip | apply AWp.exit); try simp -implicitDefEqProofs))
  refine aCall.owns (clone_ok (l.map u8) own nil (fun h => by simp [hn h]) (by simpa using hl) σ) (fun tk htk => ?_)
  simp
  intro id hne hid
  refine AWp.wkCells id [.lst 5 (l.map u8) .unk nil, .sc (.int .i64 0)] rfl (fun k hk => ?_) ?_
  · match k, hk with
    | 0, _ => simp
    | 1, _ => simp
  · have h0 : σ id = none := hid
    repeat (first
      | (with_reducible first | apply AWp.seq | apply AWp.block | refine And.intro (by first | omega | assumption | decide) ?_)
      | ((first | (with_reducible first | apply AWp.fork | apply AWp.region)); simp -implicitDefEqProofs)
      | ((with_reducible first | apply AWp.ret | apply AWp.skip | apply AWp.exit); try simp -implicitDefEqProofs))
    exact ⟨_, _, Wk.refl _, le_set2 (by simp [htk]), id, h0, rfl, rfl⟩

theorem at_ok (id : Nat) (b : List UInt8) (at' : Int) (nl : Bool) (σ : AS) (h : σ id = some (rdC b at' nl)) :
    ACalls Try.prog 20 [.ptr id 0] σ (Gives (.sc (.int .i64 at')) σ) No := by
  refine ACalls.of_body Try.func20 rfl rfl (by simp [Try.ntmps20]) ?_
  repeat (first
    | (with_reducible first | apply AWp.seq | apply AWp.block | refine And.intro (by first | omega | assumption | decide) ?_)
    | ((first | (with_reducible first | apply AWp.fork | apply AWp.region | show condK _ _ _ | show guardK _ _ _ _ _ _ _ _ _)); simp -implicitDefEqProofs [Try.underlying45, h, rdC])
    | ((with_reducible first | apply AWp.ret | apply AWp.skip | apply AWp.exit); try simp -implicitDefEqProofs [Try.underlying45, h, rdC]))

theorem at_nil (σ : AS) : ACalls Try.prog 20 [.sc (.pointer none)] σ (Gives (.sc (.int .i64 0)) σ) No := by
  refine ACalls.of_body Try.func20 rfl rfl (by simp [Try.ntmps20]) ?_
  repeat (first
    | (with_reducible first | apply AWp.seq | apply AWp.block | refine And.intro (by first | omega | assumption | decide) ?_)
    | ((first | (with_reducible first | apply AWp.fork | apply AWp.region | show condK _ _ _ | show guardK _ _ _ _ _ _ _ _ _)); simp -implicitDefEqProofs [Try.underlying45])
    | ((with_reducible first | apply AWp.ret | apply AWp.skip | apply AWp.exit); try simp -implicitDefEqProofs [Try.underlying45]))

theorem left_ok (id : Nat) (b : List UInt8) (at' : Int) (nl : Bool) (σ : AS) (h : σ id = some (rdC b at' nl)) (ha : 0 ≤ at') (hb : at' ≤ b.length) (hl : b.length ≤ 140737488355328) :
    ACalls Try.prog 32 [.ptr id 0] σ (Gives (.sc (.int .i64 (b.length - at'))) σ) No := by
  refine ACalls.of_body Try.func32 rfl rfl (by simp [Try.ntmps32]) ?_
  have e : IntKind.i64.wrap (b.length - at') = b.length - at' := in_i64 (by omega) (by omega)
  repeat (first
    | (with_reducible first | apply AWp.seq | apply AWp.block | refine And.intro (by first | omega | assumption | decide) ?_)
    | ((first | (with_reducible first | apply AWp.fork | apply AWp.region | show condK _ _ _ | show guardK _ _ _ _ _ _ _ _ _) | ((with_reducible apply AWp.drawS (id := 3) (t := sc_32_3_XOct1)); (exact mixed); kernel_rfl; kernel_rfl; (repeat (with_reducible first | apply PanQ.then | apply PanQ.block | apply PanQ.body | apply PanQ.no)))); simp -implicitDefEqProofs [Try.underlying45, h, rdC, e])
    | ((with_reducible first | apply AWp.ret | apply AWp.skip | apply AWp.exit); try simp -implicitDefEqProofs [Try.underlying45, h, rdC, e]))

theorem left_nil (σ : AS) : ACalls Try.prog 32 [.sc (.pointer none)] σ (Gives (.sc (.int .i64 0)) σ) No := by
  refine ACalls.of_body Try.func32 rfl rfl (by simp [Try.ntmps32]) ?_
  repeat (first
    | (with_reducible first | apply AWp.seq | apply AWp.block | refine And.intro (by first | omega | assumption | decide) ?_)
    | ((first | (with_reducible first | apply AWp.fork | apply AWp.region | show condK _ _ _ | show guardK _ _ _ _ _ _ _ _ _) | ((with_reducible apply AWp.drawS (id := 3) (t := sc_32_3_XOct1)); (exact mixed); kernel_rfl; kernel_rfl; (repeat (with_reducible first | apply PanQ.then | apply PanQ.block | apply PanQ.body | apply PanQ.no)))); simp -implicitDefEqProofs [Try.underlying45])
    | ((with_reducible first | apply AWp.ret | apply AWp.skip | apply AWp.exit); try simp -implicitDefEqProofs [Try.underlying45]))

def wantsI (c : Int) : Int := if c < 128 then 1 else if c < 192 then 2 else if c < 224 then 4 else 0

/-! ## Same -/

def sameI (l : List UInt8) (m : List UInt8) (k : Nat) (s : Fr) (σ' : AS) (o : Own) (n1 n2 : Bool) (o' : Own) (σ : AS) : Prop :=
  ∃ i : Nat, k = l.length - i ∧ i ≤ l.length ∧ l.take i = m.take i ∧ σ' = σ ∧
    s = mkF [(0, .lst 5 (l.map u8) o n1), (1, .lst 5 (m.map u8) o' n2), (5, .sc (.int .i64 i))]

theorem same_ok (l m : List UInt8) (o o' : Own) (n1 n2 : Bool) (hl : l.length ≤ 140737488355328) (σ : AS) :
    ACalls Try.prog 13 [.lst 5 (l.map u8) o n1, .lst 5 (m.map u8) o' n2] σ (Gives (.sc (.bool (decide (l = m)))) σ) No := by
  refine ACalls.of_body Try.func13 rfl rfl (by simp [Try.ntmps13]) ?_
  by_cases hlen : l.length = m.length
  · repeat (first
      | (with_reducible first | apply AWp.seq | apply AWp.block | refine And.intro (by first | omega | assumption | decide) ?_)
      | ((first | (with_reducible first | apply AWp.fork | apply AWp.region | show condK _ _ _ | show guardK _ _ _ _ _ _ _ _ _) | ((with_reducible apply AWp.drawS (id := 6) (t := sc_13_6_XOct1)); (exact mixed); kernel_rfl; kernel_rfl; (repeat (with_reducible first | apply PanQ.then | apply PanQ.block | apply PanQ.body | apply PanQ.no)))); simp -implicitDefEqProofs [hlen])
      | ((with_reducible first | apply AWp.ret | apply AWp.skip | apply AWp.exit); try simp -implicitDefEqProofs [hlen]))
    refine AWp.loopI (sameI l m · · · o n1 n2 o' σ) (k0 := l.length) ⟨0, by omega, by omega, by simp, rfl, rfl⟩ (FrWk.mk (by simp)) (AS.le_refl _) ?_
    rintro k s σ' ⟨i, hk, hi, ht, rfl, rfl⟩
    by_cases hlt : i < l.length
    · have hlt' : i < m.length := by omega
      by_cases he : l[i] = m[i]
      · repeat (first
          | (with_reducible first | apply AWp.seq | apply AWp.block | refine And.intro (by first | omega | assumption | decide) ?_)
          | ((first | (with_reducible first | apply AWp.fork | apply AWp.region | show condK _ _ _ | show guardK _ _ _ _ _ _ _ _ _) | ((with_reducible apply AWp.drawS (id := 6) (t := sc_13_6_XOct1)); (exact mixed); kernel_rfl; kernel_rfl; (repeat (with_reducible first | apply PanQ.then | apply PanQ.block | apply PanQ.body | apply PanQ.no)))); simp -implicitDefEqProofs [hlt, hlt', he])
          | ((with_reducible first | apply AWp.ret | apply AWp.skip | apply AWp.exit); try simp -implicitDefEqProofs [hlt, hlt', he]))
        refine ⟨k - 1, _, _, by omega, FrWk.mk ?_, AS.le_refl _, i + 1, by omega, by omega, ?_, rfl, rfl⟩
        · have e2 : IntKind.i64.wrap ((i : Int) + 1) = ((i + 1 : Nat) : Int) := by rw [in_i64 (by omega) (by omega)]; simp
          simp [e2]
        · rw [List.take_add_one, List.take_add_one, ht, List.getElem?_eq_getElem hlt, List.getElem?_eq_getElem hlt', he]
      · have hne : l ≠ m := fun h => he (by simp [h])
        have he' : ¬ l[i].toNat = m[i].toNat := fun h => he (UInt8.toNat_inj.1 h)
        repeat (first
          | (with_reducible first | apply AWp.seq | apply AWp.block | refine And.intro (by first | omega | assumption | decide) ?_)
          | ((first | (with_reducible first | apply AWp.fork | apply AWp.region | show condK _ _ _ | show guardK _ _ _ _ _ _ _ _ _) | ((with_reducible apply AWp.drawS (id := 6) (t := sc_13_6_XOct1)); (exact mixed); kernel_rfl; kernel_rfl; (repeat (with_reducible first | apply PanQ.then | apply PanQ.block | apply PanQ.body | apply PanQ.no)))); simp -implicitDefEqProofs [hlt, hlt', he', hne])
          | ((with_reducible first | apply AWp.ret | apply AWp.skip | apply AWp.exit); try simp -implicitDefEqProofs [hlt, hlt', he', hne]))
    · have : l = m := by
        have e1 : i = l.length := by omega
        subst e1
        rw [List.take_length, hlen, List.take_length] at ht
        exact ht
      repeat (first
        | (with_reducible first | apply AWp.seq | apply AWp.block | refine And.intro (by first | omega | assumption | decide) ?_)
        | ((first | (with_reducible first | apply AWp.fork | apply AWp.region | show condK _ _ _ | show guardK _ _ _ _ _ _ _ _ _) | ((with_reducible apply AWp.drawS (id := 6) (t := sc_13_6_XOct1)); (exact mixed); kernel_rfl; kernel_rfl; (repeat (with_reducible first | apply PanQ.then | apply PanQ.block | apply PanQ.body | apply PanQ.no)))); simp -implicitDefEqProofs [hlt])
        | ((with_reducible first | apply AWp.ret | apply AWp.skip | apply AWp.exit); try simp -implicitDefEqProofs [hlt]))
      simp [this]
  · have : l ≠ m := fun h => hlen (by rw [h])
    repeat (first
      | (with_reducible first | apply AWp.seq | apply AWp.block | refine And.intro (by first | omega | assumption | decide) ?_)
      | ((first | (with_reducible first | apply AWp.fork | apply AWp.region | show condK _ _ _ | show guardK _ _ _ _ _ _ _ _ _) | ((with_reducible apply AWp.drawS (id := 6) (t := sc_13_6_XOct1)); (exact mixed); kernel_rfl; kernel_rfl; (repeat (with_reducible first | apply PanQ.then | apply PanQ.block | apply PanQ.body | apply PanQ.no)))); simp -implicitDefEqProofs [hlen])
      | ((with_reducible first | apply AWp.ret | apply AWp.skip | apply AWp.exit); try simp -implicitDefEqProofs [hlen]))
    try simp [this]

end Go.Proofs.Ythpmabablfkekaa
