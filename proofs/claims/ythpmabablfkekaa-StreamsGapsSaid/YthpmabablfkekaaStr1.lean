/- Chapter 03: tags, entries, what is wrong with an entry. -/
import Derived.Test.YthpmabablfkekaaRef1
import Derived.Test.YthpmabablfkekaaLe
import Derived.Test.YthpmabablfkekaaAwMut
set_option linter.unusedSimpArgs false
set_option linter.unusedVariables false
set_option maxRecDepth 100000
set_option maxHeartbeats 3200000
namespace Go.Proofs.Ythpmabablfkekaa
open Go Go.AW

/-- The streams' tags. -/
def tg : Nat → List UInt8
  | 0 => [82, 79, 87, 83]
  | 1 => [78, 65, 77, 69]
  | 2 => [66, 76, 79, 66]
  | _ => [67, 79, 68, 69]
def tagK (t : List UInt8) : Int := if t = tg 0 then 0 else if t = tg 1 then 1 else if t = tg 2 then 2 else if t = tg 3 then 3 else -1
def tagI (t : List UInt8) (σ : AS) (m : Nat) (s : Fr) (σ' : AS) : Prop :=
  ∃ k : Nat, m = 4 - k ∧ k ≤ 4 ∧ (∀ j, j < k → t ≠ tg j) ∧ σ' = σ ∧ s = mkF [(0, .sc (.string ⟨t.toArray⟩)), (4, .sc (.int .i64 k))]

theorem tagged_ok (t : List UInt8) (σ : AS) : ACalls Try.prog 36 [.sc (.string ⟨t.toArray⟩)] σ (Gives (.sc (.int .i64 (tagK t))) σ) No := by
  refine ACalls.of_body Try.func36 rfl rfl (by simp [Try.ntmps36]) ?_
  repeat (first
    | (with_reducible first | apply AWp.seq | apply AWp.block | refine And.intro (by first | omega | assumption | decide) ?_)
    | ((first | (with_reducible first | apply AWp.fork | apply AWp.region)); simp -implicitDefEqProofs)
    | ((with_reducible first | apply AWp.ret | apply AWp.skip | apply AWp.exit); try simp -implicitDefEqProofs))
  refine AWp.loopI (tagI t σ) (k0 := 4) ⟨0, rfl, by omega, by omega, rfl, rfl⟩ (FrWk.mk (by simp)) (AS.le_refl _) ?_
  rintro m s σ' ⟨k, hm, hk, hno, rfl, rfl⟩
  have hx : ∀ j, t ≠ tg j → (tg j = t) = False := fun j h => by simp; exact fun e => h e.symm
  match k, hk with
  | 0, _ =>
    by_cases h : t = tg 0
    · have h' : ([82, 79, 87, 83] = t) = True := by simp [h, tg]
      repeat (first
        | (with_reducible first | apply AWp.seq | apply AWp.block | refine And.intro (by first | omega | assumption | decide) ?_)
        | ((first | (with_reducible first | apply AWp.fork | apply AWp.region | show condK _ _ _ | show guardK _ _ _ _ _ _ _ _ _)); simp -implicitDefEqProofs [h'])
        | ((with_reducible first | apply AWp.ret | apply AWp.skip | apply AWp.exit); try simp -implicitDefEqProofs [h']))
      simp [tagK, h]
    · have h' : ([82, 79, 87, 83] = t) = False := hx 0 h
      repeat (first
        | (with_reducible first | apply AWp.seq | apply AWp.block | refine And.intro (by first | omega | assumption | decide) ?_)
        | ((first | (with_reducible first | apply AWp.fork | apply AWp.region | show condK _ _ _ | show guardK _ _ _ _ _ _ _ _ _)); simp -implicitDefEqProofs [h'])
        | ((with_reducible first | apply AWp.ret | apply AWp.skip | apply AWp.exit); try simp -implicitDefEqProofs [h']))
      refine ⟨m - 1, _, _, by omega, FrWk.mk (by simp), AS.le_refl _, 1, by omega, by omega, fun j hj => ?_, rfl, rfl⟩
      match j, hj with
      | 0, _ => exact h
  | 1, _ =>
    have h0 := hno 0 (by omega)
    by_cases h : t = tg 1
    · have h' : ([78, 65, 77, 69] = t) = True := by simp [h, tg]
      repeat (first
        | (with_reducible first | apply AWp.seq | apply AWp.block | refine And.intro (by first | omega | assumption | decide) ?_)
        | ((first | (with_reducible first | apply AWp.fork | apply AWp.region | show condK _ _ _ | show guardK _ _ _ _ _ _ _ _ _)); simp -implicitDefEqProofs [h'])
        | ((with_reducible first | apply AWp.ret | apply AWp.skip | apply AWp.exit); try simp -implicitDefEqProofs [h']))
      rw [tagK, if_neg h0, if_pos h]
      exact Wk.refl _
    · have h' : ([78, 65, 77, 69] = t) = False := hx 1 h
      repeat (first
        | (with_reducible first | apply AWp.seq | apply AWp.block | refine And.intro (by first | omega | assumption | decide) ?_)
        | ((first | (with_reducible first | apply AWp.fork | apply AWp.region | show condK _ _ _ | show guardK _ _ _ _ _ _ _ _ _)); simp -implicitDefEqProofs [h'])
        | ((with_reducible first | apply AWp.ret | apply AWp.skip | apply AWp.exit); try simp -implicitDefEqProofs [h']))
      refine ⟨m - 1, _, _, by omega, FrWk.mk (by simp), AS.le_refl _, 2, by omega, by omega, fun j hj => ?_, rfl, rfl⟩
      match j, hj with
      | 0, _ => exact h0
      | 1, _ => exact h
  | 2, _ =>
    have h0 := hno 0 (by omega)
    have h1 := hno 1 (by omega)
    by_cases h : t = tg 2
    · have h' : ([66, 76, 79, 66] = t) = True := by simp [h, tg]
      repeat (first
        | (with_reducible first | apply AWp.seq | apply AWp.block | refine And.intro (by first | omega | assumption | decide) ?_)
        | ((first | (with_reducible first | apply AWp.fork | apply AWp.region | show condK _ _ _ | show guardK _ _ _ _ _ _ _ _ _)); simp -implicitDefEqProofs [h'])
        | ((with_reducible first | apply AWp.ret | apply AWp.skip | apply AWp.exit); try simp -implicitDefEqProofs [h']))
      rw [tagK, if_neg h0, if_neg h1, if_pos h]
      exact Wk.refl _
    · have h' : ([66, 76, 79, 66] = t) = False := hx 2 h
      repeat (first
        | (with_reducible first | apply AWp.seq | apply AWp.block | refine And.intro (by first | omega | assumption | decide) ?_)
        | ((first | (with_reducible first | apply AWp.fork | apply AWp.region | show condK _ _ _ | show guardK _ _ _ _ _ _ _ _ _)); simp -implicitDefEqProofs [h'])
        | ((with_reducible first | apply AWp.ret | apply AWp.skip | apply AWp.exit); try simp -implicitDefEqProofs [h']))
      refine ⟨m - 1, _, _, by omega, FrWk.mk (by simp), AS.le_refl _, 3, by omega, by omega, fun j hj => ?_, rfl, rfl⟩
      match j, hj with
      | 0, _ => exact h0
      | 1, _ => exact h1
      | 2, _ => exact h
  | 3, _ =>
    have h0 := hno 0 (by omega)
    have h1 := hno 1 (by omega)
    have h2 := hno 2 (by omega)
    by_cases h : t = tg 3
    · have h' : ([67, 79, 68, 69] = t) = True := by simp [h, tg]
      repeat (first
        | (with_reducible first | apply AWp.seq | apply AWp.block | refine And.intro (by first | omega | assumption | decide) ?_)
        | ((first | (with_reducible first | apply AWp.fork | apply AWp.region | show condK _ _ _ | show guardK _ _ _ _ _ _ _ _ _)); simp -implicitDefEqProofs [h'])
        | ((with_reducible first | apply AWp.ret | apply AWp.skip | apply AWp.exit); try simp -implicitDefEqProofs [h']))
      rw [tagK, if_neg h0, if_neg h1, if_neg h2, if_pos h]
      exact Wk.refl _
    · have h' : ([67, 79, 68, 69] = t) = False := hx 3 h
      repeat (first
        | (with_reducible first | apply AWp.seq | apply AWp.block | refine And.intro (by first | omega | assumption | decide) ?_)
        | ((first | (with_reducible first | apply AWp.fork | apply AWp.region | show condK _ _ _ | show guardK _ _ _ _ _ _ _ _ _)); simp -implicitDefEqProofs [h'])
        | ((with_reducible first | apply AWp.ret | apply AWp.skip | apply AWp.exit); try simp -implicitDefEqProofs [h']))
      refine ⟨m - 1, _, _, by omega, FrWk.mk (by simp), AS.le_refl _, 4, by omega, by omega, fun j hj => ?_, rfl, rfl⟩
      match j, hj with
      | 0, _ => exact h0
      | 1, _ => exact h1
      | 2, _ => exact h2
      | 3, _ => exact h
  | 4, _ =>
    repeat (first
      | (with_reducible first | apply AWp.seq | apply AWp.block | refine And.intro (by first | omega | assumption | decide) ?_)
      | ((first | (with_reducible first | apply AWp.fork | apply AWp.region)); simp -implicitDefEqProofs)
      | ((with_reducible first | apply AWp.ret | apply AWp.skip | apply AWp.exit); try simp -implicitDefEqProofs))
    rw [tagK, if_neg (hno 0 (by omega)), if_neg (hno 1 (by omega)), if_neg (hno 2 (by omega)), if_neg (hno 3 (by omega))]
    exact Wk.refl _

def spV (a e : Int) : AV := .agg [.sc (.int .i64 a), .sc (.int .i64 e)]

theorem entry_ok (id : Nat) (b : List UInt8) (a : Int) (nl : Bool) (σ : AS) (hnl : nl = true → b = []) (h : σ id = some (rdC b a nl)) (ha : 0 ≤ a) (hb : a + 12 ≤ b.length) (hl : b.length ≤ 140737488355328) :
    ACalls Try.prog 22 [.ptr id 0] σ (Gives (.tup [.sc (.int .i64 (tagK (seg b (a + 8) 4))), spV (numL (seg b a 4)) (numL (seg b a 4) + numL (seg b (a + 4) 4))]) (σ.set id (rdC b (a + 12) nl))) No := by
  have e9 : (256 : Int) ^ 4 = 4294967296 := by decide
  have b1 := numL_lt (seg b a 4)
  have b2 := numL_lt (seg b (a + 4) 4)
  have l1 := seg_length b a 4 ha (by omega) (by omega)
  have l2 := seg_length b (a + 4) 4 (by omega) (by omega) (by omega)
  rw [show (seg b a 4).length = 4 by omega, e9] at b1
  rw [show (seg b (a + 4) 4).length = 4 by omega, e9] at b2
  have p1 := numL_nonneg (seg b a 4)
  have p2 := numL_nonneg (seg b (a + 4) 4)
  have nn1 := fun σ h => num_ok id b a 4 nl σ h ha (by omega) hl rfl (by omega)
  have n2 := fun σ h => num_ok id b (a + 4) 4 nl σ h (by omega) (by omega) hl rfl (by omega)
  have n3 := fun σ h => take_ok id b (a + 8) 4 nl σ hnl h (by omega) (by omega) hl (by omega) (by omega)
  have tt := fun σ => tagged_ok (seg b (a + 8) 4) σ
  rw [show a + 4 + 4 = a + 8 by omega] at n2
  rw [show a + 8 + 4 = a + 12 by omega] at n3
  generalize numL (seg b a 4) = x at *
  generalize numL (seg b (a + 4) 4) = y at *
  generalize seg b (a + 8) 4 = t at *
  have w1 : IntKind.i64.wrap x = x := in_i64 (by omega) (by omega)
  have w2 : IntKind.i64.wrap y = y := in_i64 (by omega) (by omega)
  have w3 : IntKind.i64.wrap (x + y) = x + y := in_i64 (by omega) (by omega)
  refine ACalls.of_body Try.func22 rfl rfl (by simp [Try.ntmps22]) ?_
  repeat (first
    | (with_reducible first | apply AWp.seq | apply AWp.block | refine And.intro (by first | omega | assumption | decide) ?_)
    | ((first | (with_reducible first | apply AWp.fork | apply AWp.region)); simp -implicitDefEqProofs)
    | ((with_reducible first | apply AWp.ret | apply AWp.skip | apply AWp.exit); try simp -implicitDefEqProofs))
  intro id2 h_id2
  have n1 : ¬ id = id2 := by rintro rfl; rw [h] at h_id2; cases h_id2
  have n1' : ¬ id2 = id := fun e => n1 e.symm
  repeat (first
    | (with_reducible first | apply AWp.seq | apply AWp.block | refine And.intro (by first | omega | assumption | decide) ?_)
    | ((first | (with_reducible first | apply AWp.fork | apply AWp.region)); simp -implicitDefEqProofs)
    | ((with_reducible first | apply AWp.ret | apply AWp.skip | apply AWp.exit); try simp -implicitDefEqProofs))
  refine aCall.gives (nn1 _ (by simp [n1, h])) ?_
  simp -implicitDefEqProofs
  repeat (first
    | (with_reducible first | apply AWp.seq | apply AWp.block | refine And.intro (by first | omega | assumption | decide) ?_)
    | ((first | (with_reducible first | apply AWp.fork | apply AWp.region | show condK _ _ _ | show guardK _ _ _ _ _ _ _ _ _)); simp -implicitDefEqProofs [n1, n1'])
    | ((with_reducible first | apply AWp.ret | apply AWp.skip | apply AWp.exit); try simp -implicitDefEqProofs [n1, n1']))
  refine aCall.gives (n2 _ (by simp)) ?_
  simp -implicitDefEqProofs
  repeat (first
    | (with_reducible first | apply AWp.seq | apply AWp.block | refine And.intro (by first | omega | assumption | decide) ?_)
    | ((first | (with_reducible first | apply AWp.fork | apply AWp.region | show condK _ _ _ | show guardK _ _ _ _ _ _ _ _ _)); simp -implicitDefEqProofs [n1, n1'])
    | ((with_reducible first | apply AWp.ret | apply AWp.skip | apply AWp.exit); try simp -implicitDefEqProofs [n1, n1']))
  refine aCall.of (n3 _ (by simp)) ?_ (fun _ _ h => h.elim)
  rintro r σ1 ⟨tk, htk, rfl, rfl⟩
  have n4 : ¬ id = tk := by rintro rfl; simp at htk
  have n5 : ¬ id2 = tk := by rintro rfl; simp [n1'] at htk
  simp -implicitDefEqProofs [n1, n1', n4, n5]
  repeat (first
    | (with_reducible first | apply AWp.seq | apply AWp.block | refine And.intro (by first | omega | assumption | decide) ?_)
    | ((first | (with_reducible first | apply AWp.fork | apply AWp.region | show condK _ _ _ | show guardK _ _ _ _ _ _ _ _ _) | ((with_reducible apply aCall.id); first | apply aCall.gives (tt _))); simp -implicitDefEqProofs [n1, n1', n4, n5, w1, w2, w3, allU8_map, spV])
    | ((with_reducible first | apply AWp.ret | apply AWp.skip | apply AWp.exit); try simp -implicitDefEqProofs [n1, n1', n4, n5, w1, w2, w3, allU8_map, spV]))
  have e1 : ¬ tk = id := fun e => n4 e.symm
  have e2 : ¬ tk = id2 := fun e => n5 e.symm
  have h_tk : σ tk = none := by simpa [AS.set, e1, e2] using htk
  clear htk nn1 n2 n3 tt
  intro j_ y_ hy_
  by_cases e_id : j_ = id
  · subst e_id; simp [AS.set, h_id2, h_tk, n1, n1', n4, n5, e1, e2] at hy_ ⊢; try first | exact hy_ | (cases hy_; done)
  by_cases e_id2 : j_ = id2
  · subst e_id2; simp [AS.set, h_id2, h_tk, n1, n1', n4, n5, e1, e2] at hy_ ⊢; try first | exact hy_ | (cases hy_; done)
  by_cases e_tk : j_ = tk
  · subst e_tk; simp [AS.set, h_id2, h_tk, n1, n1', n4, n5, e1, e2] at hy_ ⊢; try first | exact hy_ | (cases hy_; done)
  simp [AS.set, h_id2, h_tk, n1, n1', n4, n5, e1, e2, e_id, e_id2, e_tk] at hy_ ⊢; try exact hy_

/-- Do two spans meet? -/
def ov (a e : Int) (x : Int × Int × Int) : Bool := decide (a < x.2.2 ∧ x.2.1 < e ∧ a < e ∧ x.2.1 < x.2.2)
def wrongS (len : Int) (M : List (Int × Int × Int)) (k a e : Int) : Int :=
  if k < 0 ∨ M.any (fun x => x.1 == k) = true then 2 else if a < 56 ∨ a % 4 ≠ 0 then 3 else if len < e then 1 else if M.any (ov a e) = true then 2 else 0
def mV (M : List (Int × Int × Int)) : List (Int × AV) := M.map fun x => (x.1, spV x.2.1 x.2.2)

theorem findI_mV (k : Int) (M : List (Int × Int × Int)) : (findI k (mV M)).isSome = M.any (fun x => x.1 == k) := by
  induction M with
  | nil => rfl
  | cons x M ih =>
    simp only [mV, List.map_cons, findI, List.any_cons] at ih ⊢
    by_cases h : k = x.1
    · simp [h]
    · have h' : (x.1 == k) = false := by simpa using fun e : x.1 = k => h e.symm
      rw [if_neg h, h', Bool.false_or]
      exact ih
theorem findI_spV (k : Int) (M : List (Int × Int × Int)) : ∃ a e : Int, (findI k (mV M)).getD (spV 0 0) = spV a e := by
  induction M with
  | nil => exact ⟨0, 0, rfl⟩
  | cons x M ih =>
    simp only [mV, List.map_cons, findI] at ih ⊢
    by_cases h : k = x.1
    · rw [if_pos h]; exact ⟨_, _, rfl⟩
    · rw [if_neg h]; exact ih

theorem range_mp {P : Program} {σ : AS} {t kt et mid : Nat} {es : List (AV × AV)} {K : AV → AS → Prop} (hu : P.underlying t = some (.map kt et)) (hσ : σ mid = some (.map es))
    (h : ∀ id, σ id = none → K (.ptr id 0) (σ.set id (.miter mid es.length []))) : aRange P σ t (.mp mid) K := by
  simp only [aRange, hu, hσ]; exact h
theorem next_mp {σ : AS} {id mid n0 : Nat} {done : List Nat} {es : List (AV × AV)} {K : AV → AS → Prop} (h2 : σ mid = some (.map es)) (hn : es.length = n0)
    (hf : (∀ k, k < n0 → k ∈ done) → K (.tup [.sc (.bool false)]) σ)
    (hk : ∀ k, k < n0 → k ∉ done → K (.tup [.sc (.bool true), (es.getD k (.any, .any)).1, (es.getD k (.any, .any)).2]) (σ.set id (.miter mid n0 (k :: done)))) : nextM id mid n0 done σ K := by
  simp only [nextM, h2]
  exact ⟨hn, hf, hk⟩
theorem entry_mp {σ : AS} {id mid n0 k : Nat} {done : List Nat} {es : List (AV × AV)} {K : AV → Prop} (h1 : σ id = some (.miter mid n0 (k :: done))) (h2 : σ mid = some (.map es)) (hn : es.length = n0)
    (h : K (.tup [(es.getD k (.any, .any)).1, (es.getD k (.any, .any)).2])) : aEntry σ (.ptr id 0) K := by
  simp only [aEntry, h1, h2]
  exact ⟨trivial, hn, h⟩
theorem left_lt {n k : Nat} {done : List Nat} (hk : k < n) (hd : k ∉ done) : ((List.range n).filter (fun i => decide (i ∉ k :: done))).length < ((List.range n).filter (fun i => decide (i ∉ done))).length := by
  have e : (List.range n).filter (fun i => decide (i ∉ k :: done)) = ((List.range n).filter (fun i => decide (i ∉ done))).filter (fun i => decide (i ≠ k)) := by
    rw [List.filter_filter]
    congr 1
    funext i
    simp [Bool.and_comm]
  rw [e]
  refine Nat.lt_of_le_of_ne (List.length_filter_le _ _) fun h => ?_
  have h2 := List.length_filter_eq_length_iff.1 h k (by simp [hk, hd])
  simp at h2

def wrI (mid id5 idr : Nat) (a e : Int) (M : List (Int × Int × Int)) (B : AS) (m : Nat) (f : Fr) (σ' : AS) : Prop :=
  ∃ done : List Nat, m = ((List.range M.length).filter (fun i => decide (i ∉ done))).length ∧ (∀ i x, i ∈ done → M[i]? = some x → ov a e x = false) ∧
    σ' = B.set idr (.miter mid M.length done) ∧ f = mkF [(5, .ptr id5 0), (41, .ptr idr 0)]

theorem wrong_ok (mid : Nat) (k a e len : Int) (M : List (Int × Int × Int)) (σ : AS) (ha : 0 ≤ a) (h : σ mid = some (.map (ikvs (mV M)))) :
    ACalls Try.prog 23 [.sc (.int .i64 k), spV a e, .sc (.int .i64 len), .mp mid] σ (Gives (.sc (.int .i64 (wrongS len M k a e))) σ) No := by
  have hz : zeroAV Try.prog 56 = spV 0 0 := by simp [spV]
  have hmod : a.tmod 4 = a % 4 := Int.tmod_eq_emod_of_nonneg ha
  have hf := findI_mV k M
  obtain ⟨fa, fe, hfv⟩ := findI_spV k M
  refine ACalls.of_body Try.func23 rfl rfl (by simp [Try.ntmps23]) ?_
  simp only [spV]
  repeat (first
    | (with_reducible first | apply AWp.seq | apply AWp.block | refine And.intro (by first | omega | assumption | decide) ?_)
    | ((first | (with_reducible first | apply AWp.fork | ((fail_if_success (apply AWp.region (id := 1))); apply AWp.region))); simp -implicitDefEqProofs)
    | ((with_reducible first | apply AWp.ret | apply AWp.skip | apply AWp.exit); try simp -implicitDefEqProofs))
  intro id5 h_id5
  repeat (first
    | (with_reducible first | apply AWp.seq | apply AWp.block | refine And.intro (by first | omega | assumption | decide) ?_)
    | ((first | (with_reducible first | apply AWp.fork | ((fail_if_success (apply AWp.region (id := 1))); apply AWp.region))); simp -implicitDefEqProofs)
    | ((with_reducible first | apply AWp.ret | apply AWp.skip | apply AWp.exit); try simp -implicitDefEqProofs))
  with_reducible apply AWp.regionS
  refine sOps.first 2 ?_
  simp -implicitDefEqProofs
  have nm : ¬ mid = id5 := by rintro rfl; rw [h] at h_id5; cases h_id5
  simp only [spV] at hz hfv
  refine sOps.sp rfl (SOp.lookupI (by decide) mid k (mV M) Try.underlying53 Try.underlying3 (by simp) (by simp) (by simp) (by simp [nm, h]) ?_)
  refine sOps.rest ?_
  simp -implicitDefEqProofs [lookV, hz, hfv, hf]
  intro id9 h_id95 h_id9
  have h_id59 : ¬ id5 = id9 := fun e => h_id95 e.symm
  have nm9 : ¬ mid = id9 := by rintro rfl; rw [h] at h_id9; cases h_id9
  have hle : AS.le σ ((σ.set id5 (ABlk.cells 56 [AV.sc (Value.int IntKind.i64 a), AV.sc (Value.int IntKind.i64 e)])).set id9 (ABlk.cells 56 [AV.sc (Value.int IntKind.i64 fa), AV.sc (Value.int IntKind.i64 fe)])) := le_new (by simp [h_id9, h_id95]) (le_new h_id5 (AS.le_refl _))
  simp only [wrongS]
  by_cases hk : k < 0
  · repeat (first
      | (with_reducible first | apply AWp.seq | apply AWp.block | refine And.intro (by first | omega | assumption | decide) ?_)
      | ((first | (with_reducible first | apply AWp.fork | apply AWp.region | show condK _ _ _ | show guardK _ _ _ _ _ _ _ _ _)); simp -implicitDefEqProofs [hk, h_id95, h_id59])
      | ((with_reducible first | apply AWp.ret | apply AWp.skip | apply AWp.exit); try simp -implicitDefEqProofs [hk, h_id95, h_id59]))
    exact hle
  by_cases hT : (M.any fun x => x.1 == k) = true
  · repeat (first
      | (with_reducible first | apply AWp.seq | apply AWp.block | refine And.intro (by first | omega | assumption | decide) ?_)
      | ((first | (with_reducible first | apply AWp.fork | apply AWp.region | show condK _ _ _ | show guardK _ _ _ _ _ _ _ _ _)); simp -implicitDefEqProofs [hk, hT, h_id95, h_id59])
      | ((with_reducible first | apply AWp.ret | apply AWp.skip | apply AWp.exit); try simp -implicitDefEqProofs [hk, hT, h_id95, h_id59]))
    exact hle
  rw [Bool.not_eq_true] at hT
  by_cases h1 : a < 56
  · repeat (first
      | (with_reducible first | apply AWp.seq | apply AWp.block | refine And.intro (by first | omega | assumption | decide) ?_)
      | ((first | (with_reducible first | apply AWp.fork | apply AWp.region | show condK _ _ _ | show guardK _ _ _ _ _ _ _ _ _)); simp -implicitDefEqProofs [hk, hT, h1, h_id95, h_id59])
      | ((with_reducible first | apply AWp.ret | apply AWp.skip | apply AWp.exit); try simp -implicitDefEqProofs [hk, hT, h1, h_id95, h_id59]))
    exact hle
  by_cases h2 : a % 4 = 0
  · by_cases h3 : len < e
    · repeat (first
        | (with_reducible first | apply AWp.seq | apply AWp.block | refine And.intro (by first | omega | assumption | decide) ?_)
        | ((first | (with_reducible first | apply AWp.fork | apply AWp.region | show condK _ _ _ | show guardK _ _ _ _ _ _ _ _ _)); simp -implicitDefEqProofs [hk, hT, h1, h2, h3, hmod, h_id95, h_id59])
        | ((with_reducible first | apply AWp.ret | apply AWp.skip | apply AWp.exit); try simp -implicitDefEqProofs [hk, hT, h1, h2, h3, hmod, h_id95, h_id59]))
      exact hle
    repeat (first
      | (with_reducible first | apply AWp.seq | apply AWp.block | refine And.intro (by first | omega | assumption | decide) ?_)
      | ((first | (with_reducible first | apply AWp.fork | apply AWp.region | show condK _ _ _ | show guardK _ _ _ _ _ _ _ _ _)); simp -implicitDefEqProofs [hk, hT, h1, h2, h3, hmod, h_id95, h_id59])
      | ((with_reducible first | apply AWp.ret | apply AWp.skip | apply AWp.exit); try simp -implicitDefEqProofs [hk, hT, h1, h2, h3, hmod, h_id95, h_id59]))
    refine range_mp (es := ikvs (mV M)) Try.underlying53 (by simp [nm, nm9, h]) ?_
    generalize hB : (σ.set id5 (ABlk.cells 56 [AV.sc (Value.int IntKind.i64 a), AV.sc (Value.int IntKind.i64 e)])).set id9 (ABlk.cells 56 [AV.sc (Value.int IntKind.i64 fa), AV.sc (Value.int IntKind.i64 fe)]) = B at *
    have hB5 : B id5 = some (.cells 56 [.sc (.int .i64 a), .sc (.int .i64 e)]) := by rw [← hB]; simp [AS.set, h_id59]
    have hBm : B mid = some (.map (ikvs (mV M))) := by rw [← hB]; simp [nm, nm9, h]
    have hlen : (ikvs (mV M)).length = M.length := by simp [ikvs, mV]
    intro idr h_idr
    have n_id5_idr : ¬ id5 = idr := by rintro rfl; rw [hB5] at h_idr; cases h_idr
    have n_idr_id5 : ¬ idr = id5 := fun e => n_id5_idr e.symm
    have n_mid_idr : ¬ mid = idr := by rintro rfl; rw [hBm] at h_idr; cases h_idr
    have n_idr_mid : ¬ idr = mid := fun e => n_mid_idr e.symm
    rw [hlen]
    simp -implicitDefEqProofs [n_idr_id5, n_id5_idr, hB5, n_idr_mid, n_mid_idr, hBm]
    repeat (first
      | (with_reducible first | apply AWp.seq | apply AWp.block | refine And.intro (by first | omega | assumption | decide) ?_)
      | ((first | (with_reducible first | apply AWp.fork | apply AWp.region | show condK _ _ _ | show guardK _ _ _ _ _ _ _ _ _)); simp -implicitDefEqProofs [n_idr_id5, n_id5_idr, hB5, n_idr_mid, n_mid_idr, hBm])
      | ((with_reducible first | apply AWp.ret | apply AWp.skip | apply AWp.exit); try simp -implicitDefEqProofs [n_idr_id5, n_id5_idr, hB5, n_idr_mid, n_mid_idr, hBm]))
    refine AWp.loopI (wrI mid id5 idr a e M B) (k0 := ((List.range M.length).filter (fun i => decide (i ∉ ([] : List Nat)))).length) ⟨[], rfl, fun i x hi => (by cases hi), rfl, rfl⟩ (FrWk.mk (by simp)) (AS.le_refl _) ?_
    rintro m f σ' ⟨done, hm, hov, hσ, rfl⟩
    have hS5 : σ' id5 = some (.cells 56 [.sc (.int .i64 a), .sc (.int .i64 e)]) := by rw [hσ]; simp [n_id5_idr, hB5]
    have hSm : σ' mid = some (.map (ikvs (mV M))) := by rw [hσ]; simp [n_mid_idr, hBm]
    have hSr : σ' idr = some (.miter mid M.length done) := by rw [hσ]; simp
    repeat (first
      | (with_reducible first | apply AWp.seq | apply AWp.block | refine And.intro (by first | omega | assumption | decide) ?_)
      | ((first | (with_reducible first | apply AWp.fork | apply AWp.region | show condK _ _ _ | show guardK _ _ _ _ _ _ _ _ _)); simp -implicitDefEqProofs [hSr, n_idr_id5, n_id5_idr, hB5, n_idr_mid, n_mid_idr, hBm])
      | ((with_reducible first | apply AWp.ret | apply AWp.skip | apply AWp.exit); try simp -implicitDefEqProofs [hSr, n_idr_id5, n_id5_idr, hB5, n_idr_mid, n_mid_idr, hBm]))
    refine next_mp hSm hlen (fun hd => ?_) (fun i hi hnd => ?_)
    · simp -implicitDefEqProofs [n_idr_id5, n_id5_idr, hB5, n_idr_mid, n_mid_idr, hBm]
      repeat (first
        | (with_reducible first | apply AWp.seq | apply AWp.block | refine And.intro (by first | omega | assumption | decide) ?_)
        | ((first | (with_reducible first | apply AWp.fork | apply AWp.region | show condK _ _ _ | show guardK _ _ _ _ _ _ _ _ _)); simp -implicitDefEqProofs [n_idr_id5, n_id5_idr, hB5, n_idr_mid, n_mid_idr, hBm])
        | ((with_reducible first | apply AWp.ret | apply AWp.skip | apply AWp.exit); try simp -implicitDefEqProofs [n_idr_id5, n_id5_idr, hB5, n_idr_mid, n_mid_idr, hBm]))
      have hno : M.any (ov a e) = false := by
        rw [List.any_eq_false]
        intro x hx
        obtain ⟨i, hi, rfl⟩ := List.getElem_of_mem hx
        rw [hov i _ (hd i hi) (List.getElem?_eq_getElem hi)]
        simp
      rw [hno]
      exact ⟨Wk.refl _, by rw [hσ]; exact le_new h_idr hle⟩
    · obtain ⟨⟨k', a', e'⟩, hx⟩ : ∃ x, M[i]? = some x := ⟨_, List.getElem?_eq_getElem hi⟩
      have hg : (ikvs (mV M))[i]? = some (.sc (.int .i64 k'), .agg [.sc (.int .i64 a'), .sc (.int .i64 e')]) := by
        simp [ikvs, mV, hx, spV]
      have hlt := left_lt hi hnd
      rw [← hm] at hlt
      rw [show (ikvs (mV M)).getD i (.any, .any) = (.sc (.int .i64 k'), .agg [.sc (.int .i64 a'), .sc (.int .i64 e')]) by rw [List.getD_eq_getElem?_getD, hg]; rfl]
      simp -implicitDefEqProofs [n_idr_id5, n_id5_idr, hB5, n_idr_mid, n_mid_idr, hBm]
      repeat (first
        | (with_reducible first | apply AWp.seq | apply AWp.block | refine And.intro (by first | omega | assumption | decide) ?_)
        | ((first | (with_reducible first | apply AWp.fork | apply AWp.region | show condK _ _ _ | show guardK _ _ _ _ _ _ _ _ _)); simp -implicitDefEqProofs [hSm, hg, hlen, n_idr_id5, n_id5_idr, hB5, n_idr_mid, n_mid_idr, hBm])
        | ((with_reducible first | apply AWp.ret | apply AWp.skip | apply AWp.exit); try simp -implicitDefEqProofs [hSm, hg, hlen, n_idr_id5, n_id5_idr, hB5, n_idr_mid, n_mid_idr, hBm]))
      intro id12 h12 h12'
      have n_id5_id12 : ¬ id5 = id12 := by rintro rfl; rw [hS5] at h12'; cases h12'
      have n_id12_id5 : ¬ id12 = id5 := fun e => n_id5_id12 e.symm
      have hcont : ov a e (k', a', e') = false → ∀ i' x, i' ∈ i :: done → M[i']? = some x → ov a e x = false := by
        intro h i' x hi' hx'
        rcases List.mem_cons.1 hi' with rfl | hi'
        · rw [hx] at hx'; cases hx'; exact h
        · exact hov i' x hi' hx'
      have hle12 : AS.le (B.set idr (.miter mid M.length (i :: done))) ((σ'.set idr (.miter mid M.length (i :: done))).set id12 (.cells 56 [.sc (.int .i64 a'), .sc (.int .i64 e')])) := by
        refine le_new (by simp [AS.set, h12, h12']) ?_
        rw [hσ]
        intro j y hj
        by_cases ej : j = idr
        · simpa [AS.set, ej] using hj
        · simpa [AS.set, ej] using hj
      by_cases c1 : a < e'
      · by_cases c2 : a' < e
        · by_cases c3 : a < e
          · by_cases c4 : a' < e'
            · repeat (first
                | (with_reducible first | apply AWp.seq | apply AWp.block | refine And.intro (by first | omega | assumption | decide) ?_)
                | ((first | (with_reducible first | apply AWp.fork | apply AWp.region | show condK _ _ _ | show guardK _ _ _ _ _ _ _ _ _)); simp -implicitDefEqProofs [h12, c1, c2, c3, c4, n_idr_id5, n_id5_idr, hB5, n_idr_mid, n_mid_idr, hBm, n_id12_id5, n_id5_id12, hS5])
                | ((with_reducible first | apply AWp.ret | apply AWp.skip | apply AWp.exit); try simp -implicitDefEqProofs [h12, c1, c2, c3, c4, n_idr_id5, n_id5_idr, hB5, n_idr_mid, n_mid_idr, hBm, n_id12_id5, n_id5_id12, hS5]))
              have : M.any (ov a e) = true := List.any_eq_true.2 ⟨_, List.mem_of_getElem? hx, by simp [ov, c1, c2, c3, c4]⟩
              rw [this]
              refine ⟨Wk.refl _, ?_⟩
              exact AS.le_trans (le_new h_idr hle) hle12
            · repeat (first
                | (with_reducible first | apply AWp.seq | apply AWp.block | refine And.intro (by first | omega | assumption | decide) ?_)
                | ((first | (with_reducible first | apply AWp.fork | apply AWp.region | show condK _ _ _ | show guardK _ _ _ _ _ _ _ _ _)); simp -implicitDefEqProofs [h12, c1, c2, c3, c4, n_idr_id5, n_id5_idr, hB5, n_idr_mid, n_mid_idr, hBm, n_id12_id5, n_id5_id12, hS5])
                | ((with_reducible first | apply AWp.ret | apply AWp.skip | apply AWp.exit); try simp -implicitDefEqProofs [h12, c1, c2, c3, c4, n_idr_id5, n_id5_idr, hB5, n_idr_mid, n_mid_idr, hBm, n_id12_id5, n_id5_id12, hS5]))
              exact ⟨_, _, _, hlt, FrWk.mk (by simp), hle12, i :: done, rfl, hcont (by simp [ov, c4]), rfl, rfl⟩
          · repeat (first
              | (with_reducible first | apply AWp.seq | apply AWp.block | refine And.intro (by first | omega | assumption | decide) ?_)
              | ((first | (with_reducible first | apply AWp.fork | apply AWp.region | show condK _ _ _ | show guardK _ _ _ _ _ _ _ _ _)); simp -implicitDefEqProofs [h12, c1, c2, c3, n_idr_id5, n_id5_idr, hB5, n_idr_mid, n_mid_idr, hBm, n_id12_id5, n_id5_id12, hS5])
              | ((with_reducible first | apply AWp.ret | apply AWp.skip | apply AWp.exit); try simp -implicitDefEqProofs [h12, c1, c2, c3, n_idr_id5, n_id5_idr, hB5, n_idr_mid, n_mid_idr, hBm, n_id12_id5, n_id5_id12, hS5]))
            exact ⟨_, _, _, hlt, FrWk.mk (by simp), hle12, i :: done, rfl, hcont (by simp [ov, c3]), rfl, rfl⟩
        · repeat (first
            | (with_reducible first | apply AWp.seq | apply AWp.block | refine And.intro (by first | omega | assumption | decide) ?_)
            | ((first | (with_reducible first | apply AWp.fork | apply AWp.region | show condK _ _ _ | show guardK _ _ _ _ _ _ _ _ _)); simp -implicitDefEqProofs [h12, c1, c2, n_idr_id5, n_id5_idr, hB5, n_idr_mid, n_mid_idr, hBm, n_id12_id5, n_id5_id12, hS5])
            | ((with_reducible first | apply AWp.ret | apply AWp.skip | apply AWp.exit); try simp -implicitDefEqProofs [h12, c1, c2, n_idr_id5, n_id5_idr, hB5, n_idr_mid, n_mid_idr, hBm, n_id12_id5, n_id5_id12, hS5]))
          exact ⟨_, _, _, hlt, FrWk.mk (by simp), hle12, i :: done, rfl, hcont (by simp [ov, c2]), rfl, rfl⟩
      · repeat (first
          | (with_reducible first | apply AWp.seq | apply AWp.block | refine And.intro (by first | omega | assumption | decide) ?_)
          | ((first | (with_reducible first | apply AWp.fork | apply AWp.region | show condK _ _ _ | show guardK _ _ _ _ _ _ _ _ _)); simp -implicitDefEqProofs [h12, c1, n_idr_id5, n_id5_idr, hB5, n_idr_mid, n_mid_idr, hBm, n_id12_id5, n_id5_id12, hS5])
          | ((with_reducible first | apply AWp.ret | apply AWp.skip | apply AWp.exit); try simp -implicitDefEqProofs [h12, c1, n_idr_id5, n_id5_idr, hB5, n_idr_mid, n_mid_idr, hBm, n_id12_id5, n_id5_id12, hS5]))
        exact ⟨_, _, _, hlt, FrWk.mk (by simp), hle12, i :: done, rfl, hcont (by simp [ov, c1]), rfl, rfl⟩
  · repeat (first
      | (with_reducible first | apply AWp.seq | apply AWp.block | refine And.intro (by first | omega | assumption | decide) ?_)
      | ((first | (with_reducible first | apply AWp.fork | apply AWp.region | show condK _ _ _ | show guardK _ _ _ _ _ _ _ _ _)); simp -implicitDefEqProofs [hk, hT, h1, h2, hmod, h_id95, h_id59])
      | ((with_reducible first | apply AWp.ret | apply AWp.skip | apply AWp.exit); try simp -implicitDefEqProofs [hk, hT, h1, h2, hmod, h_id95, h_id59]))
    exact hle

theorem prows_ok (id : Nat) (σ : AS) : ACalls Try.prog 37 [.ptr id 0] σ (Gives (.ptr id 0) σ) No := by
  refine ACalls.of_body Try.func37 rfl rfl (by simp [Try.ntmps37]) ?_
  repeat (first
    | (with_reducible first | apply AWp.seq | apply AWp.block | refine And.intro (by first | omega | assumption | decide) ?_)
    | ((first | (with_reducible first | apply AWp.fork | apply AWp.region)); simp -implicitDefEqProofs)
    | ((with_reducible first | apply AWp.ret | apply AWp.skip | apply AWp.exit); try simp -implicitDefEqProofs))
theorem pnames_ok (id : Nat) (σ : AS) : ACalls Try.prog 38 [.ptr id 0] σ (Gives (.ptr id 1) σ) No := by
  refine ACalls.of_body Try.func38 rfl rfl (by simp [Try.ntmps38]) ?_
  repeat (first
    | (with_reducible first | apply AWp.seq | apply AWp.block | refine And.intro (by first | omega | assumption | decide) ?_)
    | ((first | (with_reducible first | apply AWp.fork | apply AWp.region)); simp -implicitDefEqProofs)
    | ((with_reducible first | apply AWp.ret | apply AWp.skip | apply AWp.exit); try simp -implicitDefEqProofs))
theorem pblobs_ok (id : Nat) (σ : AS) : ACalls Try.prog 39 [.ptr id 0] σ (Gives (.ptr id 2) σ) No := by
  refine ACalls.of_body Try.func39 rfl rfl (by simp [Try.ntmps39]) ?_
  repeat (first
    | (with_reducible first | apply AWp.seq | apply AWp.block | refine And.intro (by first | omega | assumption | decide) ?_)
    | ((first | (with_reducible first | apply AWp.fork | apply AWp.region)); simp -implicitDefEqProofs)
    | ((with_reducible first | apply AWp.ret | apply AWp.skip | apply AWp.exit); try simp -implicitDefEqProofs))
theorem pcode_ok (id : Nat) (σ : AS) : ACalls Try.prog 40 [.ptr id 0] σ (Gives (.ptr id 3) σ) No := by
  refine ACalls.of_body Try.func40 rfl rfl (by simp [Try.ntmps40]) ?_
  repeat (first
    | (with_reducible first | apply AWp.seq | apply AWp.block | refine And.intro (by first | omega | assumption | decide) ?_)
    | ((first | (with_reducible first | apply AWp.fork | apply AWp.region)); simp -implicitDefEqProofs)
    | ((with_reducible first | apply AWp.ret | apply AWp.skip | apply AWp.exit); try simp -implicitDefEqProofs))
theorem pick_ok (id : Nat) (k : Nat) (hk : k < 4) (σ : AS) : ACalls Try.prog 25 [.ptr id 0, .sc (.int .i64 k)] σ (Gives (.ptr id k) σ) No := by
  have p0 := prows_ok id σ
  have p1 := pnames_ok id σ
  have p2 := pblobs_ok id σ
  have p3 := pcode_ok id σ
  match k, hk with
  | 0, _ =>
    refine ACalls.of_body Try.func25 rfl rfl (by simp [Try.ntmps25]) ?_
    repeat (first
      | (with_reducible first | apply AWp.seq | apply AWp.block | refine And.intro (by first | omega | assumption | decide) ?_)
      | ((first | (with_reducible first | apply AWp.fork | apply AWp.region) | ((with_reducible apply aCall.id); first | apply aCall.gives (p0))); simp -implicitDefEqProofs)
      | ((with_reducible first | apply AWp.ret | apply AWp.skip | apply AWp.exit); try simp -implicitDefEqProofs))
  | 1, _ =>
    refine ACalls.of_body Try.func25 rfl rfl (by simp [Try.ntmps25]) ?_
    repeat (first
      | (with_reducible first | apply AWp.seq | apply AWp.block | refine And.intro (by first | omega | assumption | decide) ?_)
      | ((first | (with_reducible first | apply AWp.fork | apply AWp.region) | ((with_reducible apply aCall.id); first | apply aCall.gives (p1))); simp -implicitDefEqProofs)
      | ((with_reducible first | apply AWp.ret | apply AWp.skip | apply AWp.exit); try simp -implicitDefEqProofs))
  | 2, _ =>
    refine ACalls.of_body Try.func25 rfl rfl (by simp [Try.ntmps25]) ?_
    repeat (first
      | (with_reducible first | apply AWp.seq | apply AWp.block | refine And.intro (by first | omega | assumption | decide) ?_)
      | ((first | (with_reducible first | apply AWp.fork | apply AWp.region) | ((with_reducible apply aCall.id); first | apply aCall.gives (p2))); simp -implicitDefEqProofs)
      | ((with_reducible first | apply AWp.ret | apply AWp.skip | apply AWp.exit); try simp -implicitDefEqProofs))
  | 3, _ =>
    refine ACalls.of_body Try.func25 rfl rfl (by simp [Try.ntmps25]) ?_
    repeat (first
      | (with_reducible first | apply AWp.seq | apply AWp.block | refine And.intro (by first | omega | assumption | decide) ?_)
      | ((first | (with_reducible first | apply AWp.fork | apply AWp.region) | ((with_reducible apply aCall.id); first | apply aCall.gives (p3))); simp -implicitDefEqProofs)
      | ((with_reducible first | apply AWp.ret | apply AWp.skip | apply AWp.exit); try simp -implicitDefEqProofs))

end Go.Proofs.Ythpmabablfkekaa
