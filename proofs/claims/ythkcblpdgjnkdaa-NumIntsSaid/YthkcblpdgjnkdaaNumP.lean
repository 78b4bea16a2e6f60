/- NumInts: what ints come to is an int; wrapped once more it is itself. No condition. -/
import Derived.Test.YthkcblpdgjnkdaaNumL
set_option linter.unusedSimpArgs false
set_option linter.unusedVariables false
set_option maxRecDepth 100000
set_option maxHeartbeats 1600000
namespace Go.Proofs.Ythkcblpdgjnkdaa
open Go Go.AW Go.ChangeShapes Go.WideShapes Go.ChangeAt Go.RowKit

/-- A word that is an int's. -/
def isI (v : Int) : Prop := wr false v = v
theorem isI_wr (x : Int) : isI (wr false x) := by unfold isI; rw [wr, wr]; simp only [pl_f]; rw [w_u64, w_i32, w_u64, w_i32]; omega
theorem isI_0 : isI 0 := by unfold isI; decide
theorem isI_u (x : Int) (h : IntKind.i32.wrap x = x) : isI (IntKind.u64.wrap x) := by unfold isI; rw [wr]; simp only [pl_f, ww5]; rw [h]
theorem isI_pl (x : Int) : isI (IntKind.u64.wrap (pl false x)) := isI_u _ (by simp)
theorem isI_chk (x : Int) : isI (chkX false x) := by
  unfold chkX
  split
  · rename_i h
    simp [okR] at h
    exact isI_u _ (by rw [w_i32]; omega)
  · exact isI_0

theorem bit_i32 (a b : Int) (f : ∀ w, BitVec w → BitVec w → BitVec w) (hs : ∀ x y : BitVec 32, f 64 (x.signExtend 64) (y.signExtend 64) = (f 32 x y).signExtend 64) :
    IntKind.i32.wrap ((f 64 (BitVec.ofInt 64 (IntKind.i32.wrap a)) (BitVec.ofInt 64 (IntKind.i32.wrap b))).toInt) = (f 64 (BitVec.ofInt 64 (IntKind.i32.wrap a)) (BitVec.ofInt 64 (IntKind.i32.wrap b))).toInt := by
  have e : ∀ a : Int, BitVec.ofInt 64 (IntKind.i32.wrap a) = (BitVec.ofInt 32 a).signExtend 64 := by
    intro a
    apply BitVec.eq_of_toInt_eq
    rw [BitVec.toInt_signExtend_of_le (by omega), BitVec.toInt_ofInt, BitVec.toInt_ofInt, w_i32]
    simp [Int.bmod]; omega
  rw [e, e, hs, BitVec.toInt_signExtend_of_le (by omega), w_i32]
  have h1 := BitVec.toInt_lt (x := f 32 (BitVec.ofInt 32 a) (BitVec.ofInt 32 b))
  have h2 := BitVec.le_toInt (x := f 32 (BitVec.ofInt 32 a) (BitVec.ofInt 32 b))
  simp at h1 h2
  omega

theorem u_toInt (x : BitVec 64) : IntKind.u64.wrap (x.toNat : Int) = IntKind.u64.wrap x.toInt := by
  rw [w_u64, w_u64, BitVec.toInt_eq_toNat_cond]
  have := x.isLt
  split <;> omega

theorem isI_and (a b : Int) : isI (IntKind.u64.wrap (bAnd 64 (pl false a) (pl false b))) := by
  unfold bAnd
  rw [u_toInt]
  exact isI_u _ (bit_i32 a b (fun _ x y => x &&& y) (fun x y => by simp [BitVec.signExtend_and]))
theorem isI_or (a b : Int) : isI (IntKind.u64.wrap (bOr 64 (pl false a) (pl false b))) := by
  unfold bOr
  rw [u_toInt]
  exact isI_u _ (bit_i32 a b (fun _ x y => x ||| y) (fun x y => by simp [BitVec.signExtend_or]))
theorem isI_xor (a b : Int) : isI (IntKind.u64.wrap (bXor 64 (pl false a) (pl false b))) := by
  unfold bXor
  rw [u_toInt]
  exact isI_u _ (bit_i32 a b (fun _ x y => x ^^^ y) (fun x y => by simp [BitVec.signExtend_xor]))

theorem r32_pl (x : Int) : -2147483648 ≤ pl false x ∧ pl false x < 2147483648 := by simp only [pl_f]; rw [w_i32]; omega
theorem in_i32 {n : Int} (h1 : -2147483648 ≤ n) (h2 : n < 2147483648) : IntKind.i32.wrap n = n := by rw [w_i32]; omega

theorem isI_div (a b : Int) (ha : -2147483648 ≤ a ∧ a < 2147483648) (hb : -2147483648 ≤ b ∧ b < 2147483648) : isI (divX false a b) := by
  unfold divX
  by_cases h0 : b = 0
  · rw [if_pos h0]; exact isI_0
  · rw [if_neg h0]
    by_cases h1 : b = -1
    · rw [if_pos h1]; exact isI_chk _
    · rw [if_neg h1]
      refine isI_u _ (in_i32 ?_ ?_)
      all_goals
        by_cases h2 : b = 1
        · rw [h2, Int.tdiv_one]; omega
        · have h2 : 2 ≤ b.natAbs := by omega
          have : (a.tdiv b).natAbs ≤ 2147483648 / 2 := by
            rw [Int.natAbs_tdiv]
            exact Nat.le_trans (Nat.div_le_div_left h2 (by omega)) (Nat.div_le_div_right (by omega))
          omega
theorem isI_rem (a b : Int) (ha : -2147483648 ≤ a ∧ a < 2147483648) (hb : -2147483648 ≤ b ∧ b < 2147483648) : isI (remX a b) := by
  unfold remX
  by_cases h0 : b = 0
  · rw [if_pos h0]; exact isI_0
  · rw [if_neg h0]
    by_cases h1 : b = -1
    · rw [if_pos h1]; exact isI_0
    · rw [if_neg h1]
      have hlt : (a.tmod b).natAbs < b.natAbs := by rw [Int.natAbs_tmod]; exact Nat.mod_lt _ (by omega)
      exact isI_u _ (in_i32 (by omega) (by omega))
theorem isI_shr (a : Int) (n : Nat) (ha : -2147483648 ≤ a ∧ a < 2147483648) : isI (IntKind.u64.wrap (a / 2 ^ n)) := by
  have hp : (0 : Int) < 2 ^ n := Int.pow_pos (by omega)
  refine isI_u _ (in_i32 ?_ ?_)
  · rw [Int.le_ediv_iff_mul_le hp]
    have : (-2147483648 : Int) * 2 ^ n ≤ -2147483648 * 1 := Int.mul_le_mul_of_nonpos_left (by omega) (by omega)
    omega
  · have := Int.ediv_le_ediv hp (show a ≤ 2147483647 by omega)
    have h2 : (2147483647 : Int) / 2 ^ n ≤ 2147483647 := Int.ediv_le_self _ (by omega)
    omega

theorem isI_two (op x y : Int) : isI (twoR op false x y).1 := by
  have ha := r32_pl x
  have hb := r32_pl y
  rcases op_cases op with rfl | rfl | rfl | rfl | rfl | rfl | rfl | rfl | rfl | rfl | rfl | rfl | rfl | ⟨h1, h2, h3, h4, h5, h6, h7, h8, h9, h10, h11, h12, h13⟩
  · exact (show (twoR 13 false x y).1 = wr false (pl false x + pl false y) from rfl) ▸ isI_wr _
  · exact (show (twoR 14 false x y).1 = wr false (pl false x - pl false y) from rfl) ▸ isI_wr _
  · exact (show (twoR 15 false x y).1 = wr false (pl false x * pl false y) from rfl) ▸ isI_wr _
  · exact (show (twoR 25 false x y).1 = chkX false (pl false x + pl false y) from rfl) ▸ isI_chk _
  · exact (show (twoR 26 false x y).1 = chkX false (pl false x - pl false y) from rfl) ▸ isI_chk _
  · exact (show (twoR 27 false x y).1 = chkX false (pl false x * pl false y) from rfl) ▸ isI_chk _
  · exact (show (twoR 16 false x y).1 = divX false (pl false x) (pl false y) from rfl) ▸ isI_div _ _ ha hb
  · exact (show (twoR 17 false x y).1 = remX (pl false x) (pl false y) from rfl) ▸ isI_rem _ _ ha hb
  · exact (show (twoR 18 false x y).1 = IntKind.u64.wrap (bAnd 64 (pl false x) (pl false y)) from rfl) ▸ isI_and _ _
  · exact (show (twoR 19 false x y).1 = IntKind.u64.wrap (bOr 64 (pl false x) (pl false y)) from rfl) ▸ isI_or _ _
  · exact (show (twoR 20 false x y).1 = IntKind.u64.wrap (bXor 64 (pl false x) (pl false y)) from rfl) ▸ isI_xor _ _
  · exact (show (twoR 21 false x y).1 = wr false (pl false x * 2 ^ cntN false y) from rfl) ▸ isI_wr _
  · exact (show (twoR 22 false x y).1 = IntKind.u64.wrap (pl false x / 2 ^ cntN false y) from rfl) ▸ isI_shr _ _ ha
  · have e : (twoR op false x y).1 = 0 := by
      unfold twoR
      rw [if_neg h1, if_neg h2, if_neg h3, if_neg h4, if_neg h5, if_neg h6, if_neg h7, if_neg h8, if_neg h9, if_neg h10, if_neg h11, if_neg h12, if_neg h13]
    exact e ▸ isI_0

theorem isI_one (op x : Int) (w : Bool) (h : w = false ∨ op = 28 ∨ op = 30) : isI (oneR op w x).1 := by
  rcases h with rfl | rfl | rfl
  · have ha := r32_pl x
    rcases one_cases op with rfl | rfl | rfl | rfl | rfl | ⟨h1, h2, h3, h4, h5⟩
    · exact (show (oneR 23 false x).1 = wr false (-pl false x) from rfl) ▸ isI_wr _
    · exact (show (oneR 24 false x).1 = IntKind.u64.wrap (-1 - pl false x) from rfl) ▸ isI_u _ (in_i32 (by omega) (by omega))
    · exact (show (oneR 28 false x).1 = wr false (pl false x) from rfl) ▸ isI_wr _
    · exact (show (oneR 29 false x).1 = IntKind.u64.wrap (pl false x) from rfl) ▸ isI_pl _
    · exact (show (oneR 30 false x).1 = chkX false (pl false x) from rfl) ▸ isI_chk _
    · have e : (oneR op false x).1 = 0 := by
        unfold oneR
        rw [if_neg h1, if_neg h2, if_neg h3, if_neg h4, if_neg h5]
      exact e ▸ isI_0
  · exact (show (oneR 28 w x).1 = wr false (pl w x) from rfl) ▸ isI_wr _
  · exact (show (oneR 30 w x).1 = chkX false (pl w x) from rfl) ▸ isI_chk _

theorem numInts_ok (op : Int) (w : Bool) (a b : Int) :
    ACalls Try.prog 7 [.sc (.int .i64 op), .agg [.sc (.bool w), .sc (.int .u64 a), .sc (.int .u64 b)]] noAS IsTrue No := by
  have i1 : wr false (twoR op false a b).1 = (twoR op false a b).1 := isI_two op a b
  have i2 : wr false (oneR op false a).1 = (oneR op false a).1 := isI_one op a false (.inl rfl)
  refine ACalls.of_body Try.func7 rfl rfl (by simp [Try.ntmps7]) ?_
  repeat (first
    | (with_reducible refine AWp.seq ?_)
    | (with_reducible refine AWp.block ?_)
    | (with_reducible refine And.intro (by first | omega | assumption | decide) ?_)
    | ((with_reducible refine AWp.region ?_); simp)
    | ((with_reducible refine AWp.ret ?_); try simp)
    | ((with_reducible refine AWp.skip ?_); try simp)
    | ((with_reducible refine AWp.exit ?_); try simp)
    | ((refine AWp.cond rfl (fun _ => ?_) (fun hcf => absurd hcf ?hcd)); (case hcd => (simp; done)))
    | ((refine AWp.cond rfl (fun hcf => absurd hcf ?hcd) (fun _ => ?_)); (case hcd => (simp; done))))
  intro id hid
  by_cases h28 : op = 28
  · have i3 : wr false (oneR op true a).1 = (oneR op true a).1 := isI_one op a true (.inr (.inl h28))
    subst h28
    repeat (first
      | (with_reducible refine AWp.seq ?_)
      | (with_reducible refine AWp.block ?_)
      | (with_reducible refine And.intro (by first | omega | assumption | decide) ?_)
      | ((with_reducible refine AWp.region ?_); simp [Try.underlying2, Try.underlying22, i1, i2, i3])
      | ((refine aCall.gives (wakes_ok _) ?_); simp [Try.underlying2, Try.underlying22, i1, i2, i3])
      | ((refine aCall.gives (one_ok _ _ _ _) ?_); simp [Try.underlying2, Try.underlying22, i1, i2, i3])
      | ((refine aCall.gives (two_ok _ _ _ _ _) ?_); simp [Try.underlying2, Try.underlying22, i1, i2, i3])
      | ((refine aCall.gives (int_ok _ _) ?_); simp [Try.underlying2, Try.underlying22, i1, i2, i3])
      | ((with_reducible refine AWp.ret ?_); try simp [Try.underlying2, Try.underlying22, i1, i2, i3])
      | ((with_reducible refine AWp.skip ?_); try simp [Try.underlying2, Try.underlying22, i1, i2, i3])
      | ((with_reducible refine AWp.exit ?_); try simp [Try.underlying2, Try.underlying22, i1, i2, i3])
      | ((refine AWp.cond rfl (fun _ => ?_) (fun hcf => absurd hcf ?hcd)); (case hcd => (simp [Try.underlying2, Try.underlying22, i1, i2, i3]; done)))
      | ((refine AWp.cond rfl (fun hcf => absurd hcf ?hcd) (fun _ => ?_)); (case hcd => (simp [Try.underlying2, Try.underlying22, i1, i2, i3]; done))))
    exact ⟨_, _, Wk.refl _, AS.le_refl _, rfl⟩
  · by_cases h30 : op = 30
    · have i3 : wr false (oneR op true a).1 = (oneR op true a).1 := isI_one op a true (.inr (.inr h30))
      subst h30
      repeat (first
        | (with_reducible refine AWp.seq ?_)
        | (with_reducible refine AWp.block ?_)
        | (with_reducible refine And.intro (by first | omega | assumption | decide) ?_)
        | ((with_reducible refine AWp.region ?_); simp [Try.underlying2, Try.underlying22, i1, i2, i3])
        | ((refine aCall.gives (wakes_ok _) ?_); simp [Try.underlying2, Try.underlying22, i1, i2, i3])
        | ((refine aCall.gives (one_ok _ _ _ _) ?_); simp [Try.underlying2, Try.underlying22, i1, i2, i3])
        | ((refine aCall.gives (two_ok _ _ _ _ _) ?_); simp [Try.underlying2, Try.underlying22, i1, i2, i3])
        | ((refine aCall.gives (int_ok _ _) ?_); simp [Try.underlying2, Try.underlying22, i1, i2, i3])
        | ((with_reducible refine AWp.ret ?_); try simp [Try.underlying2, Try.underlying22, i1, i2, i3])
        | ((with_reducible refine AWp.skip ?_); try simp [Try.underlying2, Try.underlying22, i1, i2, i3])
        | ((with_reducible refine AWp.exit ?_); try simp [Try.underlying2, Try.underlying22, i1, i2, i3])
        | ((refine AWp.cond rfl (fun _ => ?_) (fun hcf => absurd hcf ?hcd)); (case hcd => (simp [Try.underlying2, Try.underlying22, i1, i2, i3]; done)))
        | ((refine AWp.cond rfl (fun hcf => absurd hcf ?hcd) (fun _ => ?_)); (case hcd => (simp [Try.underlying2, Try.underlying22, i1, i2, i3]; done))))
      exact ⟨_, _, Wk.refl _, AS.le_refl _, rfl⟩
    · repeat (first
        | (with_reducible refine AWp.seq ?_)
        | (with_reducible refine AWp.block ?_)
        | (with_reducible refine And.intro (by first | omega | assumption | decide) ?_)
        | ((with_reducible refine AWp.region ?_); simp [Try.underlying2, Try.underlying22, i1, i2, h28, h30])
        | ((refine aCall.gives (wakes_ok _) ?_); simp [Try.underlying2, Try.underlying22, i1, i2, h28, h30])
        | ((refine aCall.gives (one_ok _ _ _ _) ?_); simp [Try.underlying2, Try.underlying22, i1, i2, h28, h30])
        | ((refine aCall.gives (two_ok _ _ _ _ _) ?_); simp [Try.underlying2, Try.underlying22, i1, i2, h28, h30])
        | ((refine aCall.gives (int_ok _ _) ?_); simp [Try.underlying2, Try.underlying22, i1, i2, h28, h30])
        | ((with_reducible refine AWp.ret ?_); try simp [Try.underlying2, Try.underlying22, i1, i2, h28, h30])
        | ((with_reducible refine AWp.skip ?_); try simp [Try.underlying2, Try.underlying22, i1, i2, h28, h30])
        | ((with_reducible refine AWp.exit ?_); try simp [Try.underlying2, Try.underlying22, i1, i2, h28, h30])
        | ((refine AWp.cond rfl (fun _ => ?_) (fun hcf => absurd hcf ?hcd)); (case hcd => (simp [Try.underlying2, Try.underlying22, i1, i2, h28, h30]; done)))
        | ((refine AWp.cond rfl (fun hcf => absurd hcf ?hcd) (fun _ => ?_)); (case hcd => (simp [Try.underlying2, Try.underlying22, i1, i2, h28, h30]; done))))
      exact ⟨_, _, Wk.refl _, AS.le_refl _, rfl⟩

theorem numInts_reads (os : Os) {H : Type} (enc : TypeId × Value → H) : ∃ places, DataW.whole enc Try.prog ((World.holding Try.prog os ⟨#[], #[Value.int .i64 0, Value.agg #[.bool false, .int .u64 0, .int .u64 0]], []⟩).forCall (fun _ _ => 0) ⟨#[], #[Value.int .i64 0, Value.agg #[.bool false, .int .u64 0, .int .u64 0]], []⟩).memory Try.f7.params.toList Rows.numIntsSpec.vars false #[Value.int .i64 0, Value.agg #[.bool false, .int .u64 0, .int .u64 0]].toList 8 = some ([.lit (.int .i64 0), .agg [.lit (.bool false), .lit (.int .u64 0), .lit (.int .u64 0)]], [], places) :=
  ⟨[], by kernel_rfl⟩

theorem numInts_contract (H : Type) (enc : TypeId × Value → H) (W : World) (base : Nat) (args : Array Value) (ds gs : List (DataW H)) (before : List MemPlace)
    (hval : ∀ (j : Nat) t v, Try.f7.params[j]? = some t → args[j]? = some v → Value.okWide Try.prog W .any base t v)
    (hW : DataW.Whole enc Try.prog Try.f7.params.toList Rows.numIntsSpec.vars false W args.toList ds gs before)
    (hwt : (DataW.weightsEach Try.prog (Try.f7.params.toList ++ Rows.numIntsSpec.plain.varTypes Try.prog) (ds ++ gs)).all (· ≤ reachBytes) = true) :
    Calls Try.prog 7 args W fun e W' => ∃ v, e = .returned v ∧ Rows.numIntsSpec.post enc Try.prog Try.f7 false true false false W args v W' := by
  refine law_contract (P := Try.prog) (fn := Try.f7) (k := 4) (ts := [3, 24]) (tb := 4) (s := Rows.numIntsSpec) laidOut (by kernel_rfl) (by kernel_rfl) (by kernel_rfl) rfl Try.underlying4 rfl (fun ds h => ?_) (fun vs h => ?_) hval hW hwt
  · match ds, h with
    | [d1, d2], _ => rfl
  · obtain ⟨c1, r, rfl, h1, h⟩ := h.inv
    obtain ⟨c2, r, rfl, h2, h⟩ := h.inv
    obtain rfl := h.inv0
    obtain ⟨op, e1, _⟩ := arg_int Try.underlying3 h1
    obtain ⟨w, a, b, e2, ha, hb⟩ := arg_words h2
    rw [e1, e2]
    exact numInts_ok op w a b

theorem numInts_lifted (os : Os) (started : os.Started) (H : Type) (enc : TypeId × Value → H) (F : Stop.Interp) :
    ReturnsInHanded {} Try.checked os 7 .any ((OpenSpec.ofChange Rows.numIntsSpec).preRow enc Try.prog Try.f7 Rows.numIntsRow.domain false Rows.numIntsRow.laid)
      (((OpenSpec.ofChange Rows.numIntsSpec).at F).post enc Try.prog Try.f7 false true false false) := by
  obtain ⟨places, hx⟩ := numInts_reads os enc
  refine returnsInHanded_of_row (C := Try.checked) (s := OpenSpec.ofChange Rows.numIntsSpec) own started (by kernel_rfl) Try.func7
    (witness_row_at (enc := enc) (C := Try.checked) false (World.holding Try.prog os ⟨#[], #[Value.int .i64 0, Value.agg #[.bool false, .int .u64 0, .int .u64 0]], []⟩) #[Value.int .i64 0, Value.agg #[.bool false, .int .u64 0, .int .u64 0]] rfl (by kernel_rfl) (by kernel_rfl) (by kernel_rfl)
      (OpenSpec.preRow_of_cond 8 hx (by kernel_rfl) (fun k hk => by cases hk) (by kernel_rfl) (show laidMetH Try.prog [] _ from ⟨[], rfl, List.nodup_nil, fun _ _ h => by cases h⟩))) ?_
  intro W base args ds gs before hval hW _ _ hwt _ _ _
  exact numInts_contract H enc W base args ds gs before hval hW hwt

theorem numInts_holds : Rows.NumIntsSaid :=
  OpenClaim.holds_of_cond 7 Try.f7 rfl rfl rfl rfl rfl rfl rfl ⟨rfl, rfl, rfl, rfl, rfl⟩ rfl rfl rfl rfl rfl (by kernel_rfl) Try.func7 (by kernel_rfl)
    (of_decide_eq_true (by kernel_rfl)) (by unfold Func.isWrapper; first | (rw [if_pos (by decide +kernel)]; kernel_rfl) | (rw [if_neg (by decide +kernel)]; exact ⟨rfl, rfl⟩))
    (fun os started H enc _ F => by rw [OpenClaim.pre_eq_preRow]; exact numInts_lifted os started H enc F)


end Go.Proofs.Ythkcblpdgjnkdaa
