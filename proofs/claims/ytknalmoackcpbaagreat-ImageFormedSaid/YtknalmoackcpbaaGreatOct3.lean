/- Package octet's Size, Pack, and its reader's Packed. -/
import Derived.Test.YtknalmoackcpbaaGreatAwGo
import Derived.Test.YtknalmoackcpbaaGreatOct2
set_option linter.unusedSimpArgs false
set_option linter.unusedVariables false
set_option maxRecDepth 100000
namespace Go.Proofs.YtknalmoackcpbaaGreat
open Go Go.AW
abbrev sc_247_5_XOct3 : Sch := (Sch.step 0 (Sch.step 1 (Sch.step 2 (Sch.step 4 (Sch.step 5 (Sch.step 6 (Sch.read 3 (Sch.read 7 (Sch.step 8 (Sch.read 9 (Sch.alt 10 (Sch.step 11 Sch.done) Sch.none)))))))))))
abbrev sc_247_11_XOct3 : Sch := (Sch.step 0 (Sch.step 1 (Sch.step 2 (Sch.step 4 (Sch.step 5 (Sch.step 6 (Sch.step 8 (Sch.step 9 (Sch.step 10 (Sch.step 12 (Sch.step 16 (Sch.read 3 (Sch.read 7 (Sch.read 11 (Sch.step 13 (Sch.step 14 (Sch.read 15 Sch.done)))))))))))))))))
theorem D0_XOct3 (S : List Nat) : Plans Tryz.prog [] S := mixed
theorem D247_XOct3 (S : List Nat) : Plans Tryz.prog [(5, (Sch.step 0 (Sch.step 1 (Sch.step 2 (Sch.step 4 (Sch.step 5 (Sch.step 6 (Sch.read 3 (Sch.read 7 (Sch.step 8 (Sch.read 9 (Sch.alt 10 (Sch.step 11 Sch.done) Sch.none)))))))))))), (11, (Sch.step 0 (Sch.step 1 (Sch.step 2 (Sch.step 4 (Sch.step 5 (Sch.step 6 (Sch.step 8 (Sch.step 9 (Sch.step 10 (Sch.step 12 (Sch.step 16 (Sch.read 3 (Sch.read 7 (Sch.read 11 (Sch.step 13 (Sch.step 14 (Sch.read 15 Sch.done))))))))))))))))))] S := mixed
def beL (x : Int) : Nat → List UInt8
  | 0 => []
  | k + 1 => UInt8.ofNat (x / 256 ^ k % 256).toNat :: beL x k
theorem beL_length (x : Int) (k : Nat) : (beL x k).length = k := by
  induction k with
  | zero => rfl
  | succ k ih => simp [beL, ih]
def packX (n : Int) : Int := if n < 128 then n else if n < 16384 then n + 32768 else n + 3221225472
def packL (n : Int) : List UInt8 := beL (packX n) (sizeI n).toNat
def packI (l : List UInt8) (x : Int) (k tk : Nat) (σ : AS) (m : Nat) (s : Fr) (σ' : AS) : Prop :=
  ∃ (pre : List UInt8) (nl : Bool), pre ++ beL x m = beL x k ∧ m ≤ k ∧ (nl = true → m = k) ∧
    s = mkF [(7, .sc (.int .u32 x)), (8, .lst 5 ((l ++ pre).map u8) (.tok tk) nl), (9, .sc (.int .i64 (m - 1)))] ∧
    σ' = σ.set tk (.tok (l.length + pre.length))
theorem packX_bounds (n : Int) (h0 : 0 ≤ n) (h1 : n ≤ 536870911) : 0 ≤ packX n ∧ packX n < 4294967296 := by
  unfold packX; split <;> (try split) <;> omega
theorem pack_ok (l : List UInt8) (own : Own) (nil : Bool) (hn : nil = true → l = []) (hl : l.length ≤ 1000000) (n : Int) (h0 : 0 ≤ n) (h1 : n ≤ 536870911) (σ : AS) :
    ACalls Tryz.prog 73 [.lst 5 (l.map u8) own nil, .sc (.int .i64 n)] σ
      (Owns (fun tk => .tup [.lst 5 ((l ++ packL n).map u8) (.tok tk) false, .sc (.int .i64 0)]) (l ++ packL n).length σ) No := by
  refine ACalls.of_body Tryz.func73 rfl rfl (by simp [Tryz.ntmps73]) ?_
  refine gO (D0_XOct3 []) True.intro True.intro (k := ?_)
  refine aCall.gives (size_ok n _) ?_
  simp
  have hb := packX_bounds n h0 h1
  have hu : IntKind.u32.wrap n = n := by rw [w_u32]; omega
  have hsz : (sizeI n = 1 ∧ bOr 32 n 0 = packX n) ∨ (sizeI n = 2 ∧ bOr 32 n 32768 = packX n) ∨ (sizeI n = 4 ∧ bOr 32 n 3221225472 = packX n) := by
    unfold sizeI packX
    have e1 : ¬ (n < 0 ∨ 536870911 < n) := by omega
    rw [if_neg e1]
    by_cases h2 : n < 128
    · simp only [h2, if_true]
      refine .inl ⟨trivial, ?_⟩
      rw [bOr_comm]
      have := or_add (w := 32) (a := 0) (b := n) 7 h0 (by omega) (c := 0) (by omega) (by simp) (by omega)
      omega
    · by_cases h3 : n < 16384
      · simp only [h2, h3, if_true, if_false]
        refine .inr (.inl ⟨trivial, ?_⟩)
        rw [bOr_comm]
        have := or_add (w := 32) (a := 32768) (b := n) 14 h0 (by omega) (c := 2) (by omega) (by decide) (by omega)
        omega
      · simp only [h2, h3, if_false]
        refine .inr (.inr ⟨trivial, ?_⟩)
        rw [bOr_comm]
        have := or_add (w := 32) (a := 3221225472) (b := n) 30 h0 (by omega) (c := 3) (by omega) (by decide) (by omega)
        omega
  obtain ⟨k, hk, hk0, hk4, hor⟩ : ∃ k : Nat, sizeI n = k ∧ 0 < k ∧ k ≤ 4 ∧ bOr 32 n (([0, 0, 32768, 0, 3221225472] : List Int).getD k 0) = packX n := by
    rcases hsz with ⟨a, b⟩ | ⟨a, b⟩ | ⟨a, b⟩
    · exact ⟨1, a, by omega, by omega, b⟩
    · exact ⟨2, a, by omega, by omega, b⟩
    · exact ⟨4, a, by omega, by omega, b⟩
  have hux : IntKind.u32.wrap (packX n) = packX n := by rw [w_u32]; omega
  have hcase : k = 1 ∨ k = 2 ∨ k = 4 := by rcases hsz with ⟨a, _⟩ | ⟨a, _⟩ | ⟨a, _⟩ <;> omega
  have hkk : (sizeI n).toNat = k := by omega
  have hpl : packL n = beL (packX n) k := by simp [packL, hkk]
  rw [hk]
  rcases hcase with rfl | rfl | rfl
  all_goals
    simp at hor
    refine gO (D0_XOct3 []) (j4 @hu @hor @hux @Tryz.underlying206) True.intro (k := ?_)
    refine aCall.owns (clone_ok (l.map u8) own nil (fun h => by simp [hn h]) (by simp; omega) σ) (fun tk htk => ?_)
    simp
    refine gO (D0_XOct3 []) @w_i64 True.intro (k := ?_)
    refine AWp.loopI (packI l (packX n) (sizeI n).toNat tk σ) (k0 := (sizeI n).toNat) ⟨[], nil, rfl, Nat.le_refl _, fun _ => rfl, rfl, rfl⟩ (FrWk.mk (by simp [hkk])) (by simp) ?_
    rintro m s σ' ⟨pre, nl, hpre, hm, hnl, rfl, rfl⟩
    have hpl2 : pre.length + m = (sizeI n).toNat := by
      have := congrArg List.length hpre
      simpa [beL_length] using this
    cases m with
    | zero =>
      have hp : pre = packL n := by simpa [beL, packL] using hpre
      have : nl = false := by cases nl with | false => rfl | true => have := hnl rfl; omega
      subst this
      refine gO (D0_XOct3 []) True.intro True.intro (k := ?_)
      exact owns_end tk htk (by simp [hp]) (by simp [hp])
    | succ m =>
      have w1 : IntKind.i64.wrap (8 * (m : Int)) = ((8 * m : Nat) : Int) := by rw [in_i64 (by omega) (by omega)]; simp
      have w7 : min (8 * m) 32 = 8 * m := by omega
      have w9 : (8 * (m : Int)).toNat = 8 * m := by omega
      have w3 : IntKind.u8.wrap (packX n / 2 ^ (8 * m)) = ((UInt8.ofNat (packX n / 256 ^ m % 256).toNat).toNat : Int) := by rw [w_u8, ← pow256]; simp; omega
      have w8 : IntKind.i64.wrap ((m : Int) - 1) = m - 1 := in_i64 (by omega) (by omega)
      have h5 : (0 : Int) ≤ m := by omega
      refine gO (D0_XOct3 []) (j7 @h5 @w1 @w7 @w9 @w3 @Tryz.underlying206 @Tryz.underlying5) True.intro (k := ?_)
      refine ⟨m, _, _, by omega, FrWk.mk ?_, ?_, pre ++ [UInt8.ofNat (packX n / 256 ^ m % 256).toNat], false, by simpa [beL] using hpre, by omega, by simp, rfl, rfl⟩
      · simp [w8]
      · simp [Nat.add_assoc]
/-! ## Packed -/
def beN (l : List UInt8) : Int := l.foldl (fun x c => 256 * x + c.toNat) 0
theorem beN_snoc (l : List UInt8) (c : UInt8) : beN (l ++ [c]) = 256 * beN l + c.toNat := by simp [beN, List.foldl_append]
theorem beN_fold (l : List UInt8) : ∀ x : Int, 0 ≤ x → 0 ≤ l.foldl (fun (x : Int) (c : UInt8) => 256 * x + (c.toNat : Int)) x ∧ l.foldl (fun (x : Int) (c : UInt8) => 256 * x + (c.toNat : Int)) x < (x + 1) * 256 ^ l.length := by
  induction l with
  | nil => intro x hx; simp; omega
  | cons c r ih =>
    intro x hx
    have hc := c.toNat_lt
    obtain ⟨h1, h2⟩ := ih (256 * x + c.toNat) (by omega)
    refine ⟨h1, ?_⟩
    simp only [List.foldl_cons, List.length_cons, Int.pow_succ]
    have h3 : (256 * x + (c.toNat : Int) + 1) * 256 ^ r.length ≤ (x + 1) * 256 * 256 ^ r.length := Int.mul_le_mul_of_nonneg_right (by omega) (Int.le_of_lt (Int.pow_pos (by decide)))
    rw [Int.mul_comm (256 ^ r.length) 256, ← Int.mul_assoc]
    omega
theorem beN_bounds (l : List UInt8) : 0 ≤ beN l ∧ beN l < 256 ^ l.length := by
  have := beN_fold l 0 (by omega)
  simpa [beN] using this
def maskI (k : Int) : Int := if k = 1 then 127 else if k = 2 then 16383 else 536870911
def upk (b : List UInt8) : Int × Int × Int :=
  match b with
  | [] => (0, 0, 1)
  | c :: _ =>
    let k := wantsI c.toNat
    if k = 0 then (0, 0, 2) else if (b.length : Int) < k then (0, 0, 1) else
    let x := beN (b.take k.toNat) % (maskI k + 1)
    if sizeI x = k then (x, k, 0) else (0, 0, 2)
def packedI (id : Nat) (σ : AS) (L : List UInt8) (k : Int) (m : Nat) (s : Fr) (σ' : AS) : Prop :=
  ∃ i : Nat, m = L.length - i ∧ i ≤ L.length ∧ σ' = σ ∧
    s = mkF [(0, .ptr id 0), (4, .sc (.int .i64 k)), (5, .sc (.int .i64 (beN (L.take i)))), (46, .lst 5 (L.map u8) .unk false), (47, .sc (.int .i64 L.length)), (48, .sc (.int .i64 i))]
theorem packed_ok (id : Nat) (b : List UInt8) (at' : Int) (nl : Bool) (σ : AS) (hnl : nl = true → b = []) (h : σ id = some (rdC b at' nl)) (ha : 0 ≤ at') (hb : at' ≤ b.length) (hl : b.length ≤ 140737488355328) (x k e : Int) (hu : upk (b.drop at'.toNat) = (x, k, e)) :
    ACalls Tryz.prog 247 [.ptr id 0] σ (Gives (.tup [.sc (.int .i64 x), .sc (.int .i64 e)]) (if e = 0 then σ.set id (rdC b (at' + k) nl) else σ)) No := by
  refine ACalls.of_body Tryz.func247 rfl rfl (by simp [Tryz.ntmps247]) ?_
  refine gO (D247_XOct3 []) @Tryz.underlying160 True.intro (k := ?_)
  refine aCall.gives (left_ok id b at' nl _ h ha hb hl) ?_
  simp
  by_cases h0 : b.length - at' = 0
  · refine gO (D247_XOct3 []) @h0 True.intro (k := ?_)
    have hr : b.drop at'.toNat = [] := List.drop_of_length_le (by omega)
    rw [hr] at hu
    simp [upk] at hu
    obtain ⟨rfl, rfl, rfl⟩ := hu
    simp
  · have hlt : at'.toNat < b.length := by omega
    have hat : (at'.toNat : Int) = at' := by omega
    have hlt2 : at' < b.length := by omega
    have hr : b.drop at'.toNat = b[at'.toNat] :: b.drop (at'.toNat + 1) := List.drop_eq_getElem_cons hlt
    have hnl2 : nl = false := by
      cases nl with
      | false => rfl
      | true => have := hnl rfl; subst this; simp at hlt
    subst hnl2
    have hrl : ((b.drop at'.toNat).length : Int) = b.length - at' := by simp; omega
    generalize hc : b[at'.toNat] = c at *
    have hc' : (b.map u8).getD at'.toNat .any = .sc (.int .u8 c.toNat) := by rw [getD_map_u8 hlt, List.getD_eq_getElem?_getD, List.getElem?_eq_getElem hlt, hc]; rfl
    repeat (first
      | (with_reducible first | apply AWp.seq | apply AWp.block | refine And.intro (by first | omega | assumption | decide) ?_)
      | ((first | (with_reducible first | apply AWp.fork | apply AWp.region | show condK _ _ _ | show guardK _ _ _ _ _ _ _ _ _) | ((with_reducible apply AWp.drawS (id := 5) (t := sc_247_5_XOct3)); (exact mixed); kernel_rfl; kernel_rfl; (repeat (with_reducible first | apply PanQ.then | apply PanQ.block | apply PanQ.body | apply PanQ.no))) | ((with_reducible apply AWp.drawS (id := 11) (t := sc_247_11_XOct3)); (exact mixed); kernel_rfl; kernel_rfl; (repeat (with_reducible first | apply PanQ.then | apply PanQ.block | apply PanQ.body | apply PanQ.no)))); simp -implicitDefEqProofs [h0, h, rdC, ha, hlt2, hlt])
      | ((with_reducible first | apply AWp.ret | apply AWp.skip | apply AWp.exit); try simp -implicitDefEqProofs [h0, h, rdC, ha, hlt2, hlt]))
    rw [hc]
    refine aCall.gives (wants_ok c.toNat _) ?_
    simp
    have hK : wantsI c.toNat = 0 ∨ ∃ K : Nat, wantsI c.toNat = K ∧ (K = 1 ∨ K = 2 ∨ K = 4) := by
      unfold wantsI
      split
      · exact .inr ⟨1, rfl, by simp⟩
      · split
        · exact .inr ⟨2, rfl, by simp⟩
        · split
          · exact .inr ⟨4, rfl, by simp⟩
          · exact .inl rfl
    rw [hr] at hu
    rcases hK with hw | ⟨K, hw, hK⟩
    · refine gO (D247_XOct3 []) @hw True.intro (k := ?_)
      simp [upk, hw] at hu
      obtain ⟨rfl, rfl, rfl⟩ := hu
      simp
    · have hK0 : ¬ (K : Int) = 0 := by omega
      have hK1 : ¬ K = 0 := by omega
      by_cases hs : (b.length : Int) - at' < K
      · have hs2 : ((c :: b.drop (at'.toNat + 1)).length : Int) < K := by rw [← hr, hrl]; exact hs
        simp only [List.length_cons] at hs2
        refine gO (D247_XOct3 []) (j2 @hw @hK1) True.intro (k := ?_)
        refine aCall.gives (left_ok id b at' false _ h ha hb hl) ?_
        simp
        refine gO (D247_XOct3 []) @hs True.intro (k := ?_)
        have hu' : ((0 : Int), (0 : Int), (1 : Int)) = (x, k, e) := by
          rw [← hu]
          simp only [upk, hw, hK0, if_false, List.length_cons]
          rw [if_pos hs2]
        simp only [Prod.mk.injEq] at hu'
        obtain ⟨rfl, rfl, rfl⟩ := hu'
        simp
      · have hs2 : ¬ ((c :: b.drop (at'.toNat + 1)).length : Int) < K := by rw [← hr, hrl]; exact hs
        have ew : IntKind.i64.wrap (at' + (K : Int)) = at' + K := in_i64 (by omega) (by omega)
        have hsl := seg_length b at' K ha (by omega) (by omega)
        have e0 : min (at' + (K : Int)).toNat b.length - at'.toNat = (seg b at' K).length := by simp [seg]
        have e1 : List.drop at'.toNat (List.take (at' + (K : Int)).toNat (List.map u8 b)) = (seg b at' K).map u8 := by simp [seg, List.map_drop, List.map_take]
        have e2 : (b.drop at'.toNat).take K = seg b at' K := by
          rw [seg, List.drop_take]
          congr 1
          omega
        rw [← hr] at hs2 hu
        have hu' : (if sizeI (beN (seg b at' K) % (maskI K + 1)) = K then (beN (seg b at' K) % (maskI K + 1), (K : Int), 0) else ((0 : Int), (0 : Int), (2 : Int))) = (x, k, e) := by
          rw [hr] at hu hs2 e2
          simp only [upk, hw, hK0, hs2, if_false, Int.toNat_natCast, e2] at hu
          exact hu
        refine gO (D247_XOct3 []) (j2 @hw @hK1) True.intro (k := ?_)
        refine aCall.gives (left_ok id b at' false _ h ha hb hl) ?_
        simp
        repeat (first
          | (with_reducible first | apply AWp.seq | apply AWp.block | refine And.intro (by first | omega | assumption | decide) ?_)
          | ((first | (with_reducible first | apply AWp.fork | apply AWp.region | show condK _ _ _ | show guardK _ _ _ _ _ _ _ _ _) | ((with_reducible apply AWp.drawS (id := 5) (t := sc_247_5_XOct3)); (exact mixed); kernel_rfl; kernel_rfl; (repeat (with_reducible first | apply PanQ.then | apply PanQ.block | apply PanQ.body | apply PanQ.no))) | ((with_reducible apply AWp.drawS (id := 11) (t := sc_247_11_XOct3)); (exact mixed); kernel_rfl; kernel_rfl; (repeat (with_reducible first | apply PanQ.then | apply PanQ.block | apply PanQ.body | apply PanQ.no)))); simp -implicitDefEqProofs [hs, h, rdC, ew])
          | ((with_reducible first | apply AWp.ret | apply AWp.skip | apply AWp.exit); try simp -implicitDefEqProofs [hs, h, rdC, ew]))
        refine AWp.loopI (packedI id σ (seg b at' K) K) (k0 := (seg b at' K).length) ⟨0, by omega, by omega, rfl, rfl⟩ (FrWk.mk (by simp [e0, e1, beN])) (AS.le_refl _) ?_
        rintro m s σ' ⟨i, hm, hi, rfl, rfl⟩
        generalize hL : seg b at' K = L at *
        by_cases hlt : i < L.length
        · have hbd := beN_bounds (L.take i)
          have hpw : ∀ j : Nat, j < 4 → (256 : Int) ^ j ≤ 16777216 := by decide
          have hp := hpw (L.take i).length (by simp; omega)
          have w1 : IntKind.i64.wrap (beN (L.take i) * 2 ^ (8 : Nat)) = beN (L.take i) * 2 ^ (8 : Nat) := in_i64 (by omega) (by omega)
          have hc1 := L[i].toNat_lt
          have w2 : IntKind.i64.wrap L[i].toNat = L[i].toNat := in_i64 (by omega) (by omega)
          have w4 : beN (L.take (i + 1)) = 256 * beN (L.take i) + L[i].toNat := by rw [← List.take_append_getElem hlt, beN_snoc]
          have w3 : bOr 64 (beN (L.take i) * 256) L[i].toNat = beN (L.take (i + 1)) := by
            rw [w4, or_add 8 (by omega) (by omega) (c := beN (L.take i)) (by omega) (by omega) (by omega)]; omega
          have w6 : IntKind.i64.wrap (beN (L.take (i + 1))) = beN (L.take (i + 1)) := in_i64 (by omega) (by omega)
          have w8 : IntKind.i64.wrap ((i : Int) + 1) = ((i + 1 : Nat) : Int) := by rw [in_i64 (by omega) (by omega)]; simp
          have w1' : IntKind.i64.wrap (beN (L.take i) * 256) = beN (L.take i) * 256 := in_i64 (by omega) (by omega)
          repeat (first
            | (with_reducible first | apply AWp.seq | apply AWp.block | refine And.intro (by first | omega | assumption | decide) ?_)
            | ((first | (with_reducible first | apply AWp.fork | apply AWp.region | show condK _ _ _ | show guardK _ _ _ _ _ _ _ _ _) | ((with_reducible apply AWp.drawS (id := 5) (t := sc_247_5_XOct3)); (exact mixed); kernel_rfl; kernel_rfl; (repeat (with_reducible first | apply PanQ.then | apply PanQ.block | apply PanQ.body | apply PanQ.no))) | ((with_reducible apply AWp.drawS (id := 11) (t := sc_247_11_XOct3)); (exact mixed); kernel_rfl; kernel_rfl; (repeat (with_reducible first | apply PanQ.then | apply PanQ.block | apply PanQ.body | apply PanQ.no)))); simp -implicitDefEqProofs [hlt, Tryz.underlying3, Tryz.underlying5, w1, w1', w2])
            | ((with_reducible first | apply AWp.ret | apply AWp.skip | apply AWp.exit); try simp -implicitDefEqProofs [hlt, Tryz.underlying3, Tryz.underlying5, w1, w1', w2]))
          refine ⟨m - 1, _, _, by omega, FrWk.mk ?_, AS.le_refl _, i + 1, by omega, by omega, rfl, rfl⟩
          simp [w8, w3, w6]
        · have hi2 : L.take i = L := List.take_of_length_le (by omega)
          have hbd := beN_bounds L
          have hpw : ∀ j : Nat, j < 5 → (256 : Int) ^ j ≤ 4294967296 := by decide
          have hp := hpw L.length (by omega)
          have am1 : bAnd 64 (beN L) 127 = beN L % 128 := by have := and_mask (w := 64) (a := beN L) 7 hbd.1 (by omega) (by omega); simpa using this
          have am2 : bAnd 64 (beN L) 16383 = beN L % 16384 := by have := and_mask (w := 64) (a := beN L) 14 hbd.1 (by omega) (by omega); simpa using this
          have am4 : bAnd 64 (beN L) 536870911 = beN L % 536870912 := by have := and_mask (w := 64) (a := beN L) 29 hbd.1 (by omega) (by omega); simpa using this
          have wm : ∀ d : Int, 0 < d → d ≤ 4294967296 → IntKind.i64.wrap (beN L % d) = beN L % d := fun d h1 h2 => in_i64 (by have := Int.emod_nonneg (beN L) (show d ≠ 0 by omega); omega) (by have := Int.emod_lt_of_pos (beN L) h1; omega)
          by_cases hz : sizeI (beN L % (maskI K + 1)) = K
          · rw [if_pos hz] at hu'
            simp only [Prod.mk.injEq] at hu'
            obtain ⟨rfl, rfl, rfl⟩ := hu'
            rcases hK with rfl | rfl | rfl
            all_goals
              simp [maskI] at hz ew
              refine gO (D247_XOct3 []) (j8 @hlt @hi2 @am1 @am2 @am4 (wm 128) (wm 16384) (wm 536870912)) True.intro (k := ?_)
              refine aCall.gives (size_ok _ _) ?_
              simp
              repeat (first
                | (with_reducible first | apply AWp.seq | apply AWp.block | refine And.intro (by first | omega | assumption | decide) ?_)
                | ((first | (with_reducible first | apply AWp.fork | apply AWp.region | show condK _ _ _ | show guardK _ _ _ _ _ _ _ _ _) | ((with_reducible apply AWp.drawS (id := 5) (t := sc_247_5_XOct3)); (exact mixed); kernel_rfl; kernel_rfl; (repeat (with_reducible first | apply PanQ.then | apply PanQ.block | apply PanQ.body | apply PanQ.no))) | ((with_reducible apply AWp.drawS (id := 11) (t := sc_247_11_XOct3)); (exact mixed); kernel_rfl; kernel_rfl; (repeat (with_reducible first | apply PanQ.then | apply PanQ.block | apply PanQ.body | apply PanQ.no)))); simp -implicitDefEqProofs [hz, h, rdC, ew])
                | ((with_reducible first | apply AWp.ret | apply AWp.skip | apply AWp.exit); try simp -implicitDefEqProofs [hz, h, rdC, ew]))
              simp [maskI]
          · rw [if_neg hz] at hu'
            simp only [Prod.mk.injEq] at hu'
            obtain ⟨rfl, rfl, rfl⟩ := hu'
            rcases hK with rfl | rfl | rfl
            all_goals
              simp [maskI] at hz ew
              refine gO (D247_XOct3 []) (j8 @hlt @hi2 @am1 @am2 @am4 (wm 128) (wm 16384) (wm 536870912)) True.intro (k := ?_)
              refine aCall.gives (size_ok _ _) ?_
              simp
              repeat (first
                | (with_reducible first | apply AWp.seq | apply AWp.block | refine And.intro (by first | omega | assumption | decide) ?_)
                | ((first | (with_reducible first | apply AWp.fork | apply AWp.region | show condK _ _ _ | show guardK _ _ _ _ _ _ _ _ _) | ((with_reducible apply AWp.drawS (id := 5) (t := sc_247_5_XOct3)); (exact mixed); kernel_rfl; kernel_rfl; (repeat (with_reducible first | apply PanQ.then | apply PanQ.block | apply PanQ.body | apply PanQ.no))) | ((with_reducible apply AWp.drawS (id := 11) (t := sc_247_11_XOct3)); (exact mixed); kernel_rfl; kernel_rfl; (repeat (with_reducible first | apply PanQ.then | apply PanQ.block | apply PanQ.body | apply PanQ.no)))); simp -implicitDefEqProofs [hz, h, rdC, ew])
                | ((with_reducible first | apply AWp.ret | apply AWp.skip | apply AWp.exit); try simp -implicitDefEqProofs [hz, h, rdC, ew]))
end Go.Proofs.YtknalmoackcpbaaGreat
