/- Chapter 03: the document's Split. -/
import Derived.Test.YthpmabablfkekaaStr3
set_option linter.unusedSimpArgs false
set_option linter.unusedVariables false
set_option maxRecDepth 100000
set_option maxHeartbeats 3200000
namespace Go.Proofs.Ythpmabablfkekaa
open Go Go.AW
abbrev sc_11_24_XStr5 : Sch := (Sch.step 0 (Sch.step 2 (Sch.step 3 (Sch.step 4 (Sch.step 5 (Sch.step 6 (Sch.step 7 (Sch.step 8 (Sch.alt 1 (Sch.step 9 (Sch.step 10 (Sch.step 11 (Sch.step 12 (Sch.step 13 (Sch.read 14 (Sch.step 15 (Sch.step 16 Sch.done)))))))) Sch.none)))))))))
abbrev sc_11_24b_XStr5 : Sch := (Sch.step 0 (Sch.step 2 (Sch.step 3 (Sch.step 4 (Sch.step 5 (Sch.step 6 (Sch.step 7 (Sch.step 8 (Sch.pure 1 (Sch.step 9 (Sch.step 10 (Sch.step 11 (Sch.step 12 (Sch.step 13 (Sch.read 14 (Sch.step 15 (Sch.step 16 Sch.done)))))))))))))))))

def nz (x : List UInt8 × Bool) : List UInt8 × Bool := (x.1, x.1.isEmpty)
def PV (x : Strs × Int × Int) : AV := .agg ((x.1.map nz).map sV ++ [.sc (.int .i64 x.2.1), .sc (.int .i64 x.2.2)])
def iw (x : Int) : AV := .sc (.int .i64 x)
def bw (x : Bool) : AV := .sc (.bool x)
def metL (M : List (Int × Int × Int)) : List Bool := [M.any (fun x => x.1 == 0), M.any (fun x => x.1 == 1), M.any (fun x => x.1 == 2), M.any (fun x => x.1 == 3)]

theorem Wk_agg6 {P : Program} {a b c d e f a' b' c' d' e' f' : AV} (h1 : AV.Wk P a a') (h2 : AV.Wk P b b') (h3 : AV.Wk P c c') (h4 : AV.Wk P d d') (h5 : AV.Wk P e e') (h6 : AV.Wk P f f') : AV.Wk P (.agg [a, b, c, d, e, f]) (.agg [a', b', c', d', e', f']) := by
  intro G v h
  cases h with
  | agg vs l h =>
    refine .agg vs l fun i hi => ?_
    match i, hi with
    | 0, _ => exact h1 G _ (h 0 (by simp))
    | 1, _ => exact h2 G _ (h 1 (by simp))
    | 2, _ => exact h3 G _ (h 2 (by simp))
    | 3, _ => exact h4 G _ (h 3 (by simp))
    | 4, _ => exact h5 G _ (h 4 (by simp))
    | 5, _ => exact h6 G _ (h 5 (by simp))
theorem Wk_PV {P : Program} {x y : Int} : AV.Wk P (.agg [.nilS, .nilS, .nilS, .nilS, .sc (.int .i64 x), .sc (.int .i64 y)]) (PV (E4, x, y)) := by
  refine Wk_agg6 ?_ ?_ ?_ ?_ ?_ ?_ <;> simp [sV, nz]

theorem tagK_eq {t : List UInt8} {j : Nat} (hj : j < 4) : tg j = t ↔ tagK t = j := by
  constructor
  · rintro rfl
    match j, hj with
    | 0, _ => decide
    | 1, _ => decide
    | 2, _ => decide
    | 3, _ => decide
  · intro h
    unfold tagK at h
    split at h
    · rename_i ht
      obtain rfl : j = 0 := by omega
      exact ht.symm
    split at h
    · rename_i ht
      obtain rfl : j = 1 := by omega
      exact ht.symm
    split at h
    · rename_i ht
      obtain rfl : j = 2 := by omega
      exact ht.symm
    split at h
    · rename_i ht
      obtain rfl : j = 3 := by omega
      exact ht.symm
    · omega

theorem rsplit_bad (b : List UInt8) (own : Own) (nl : Bool) (hn : nl = true → b = []) (σ : AS) (hlen : b.length ≤ 140737488355328) (hb : 65536 < b.length ∨ b.length < 56 ∨ b.take 4 ≠ CGRD) :
    ACalls Try.prog 11 [.lst 5 (b.map u8) own nl] σ (Gives (PV (splitS b)) σ) No := by
  refine ACalls.of_body Try.func11 rfl rfl (by simp [Try.ntmps11]) ?_
  by_cases h1 : 65536 < b.length
  · have h1' : (65536 < (b.length : Int)) = True := by simp; omega
    repeat (first
      | (with_reducible first | apply AWp.seq | apply AWp.block | refine And.intro (by first | omega | assumption | decide) ?_)
      | ((first | (with_reducible first | apply AWp.fork | apply AWp.region | show condK _ _ _ | show guardK _ _ _ _ _ _ _ _ _) | ((with_reducible apply AWp.drawS (id := 24) (t := sc_11_24_XStr5)); (exact mixed); kernel_rfl; kernel_rfl; (repeat (with_reducible first | apply PanQ.then | apply PanQ.block | apply PanQ.body | apply PanQ.no)))); simp -implicitDefEqProofs [h1'])
      | ((with_reducible first | apply AWp.ret | apply AWp.skip | apply AWp.exit); try simp -implicitDefEqProofs [h1']))
    intro id2 h_id2
    repeat (first
      | (with_reducible first | apply AWp.seq | apply AWp.block | refine And.intro (by first | omega | assumption | decide) ?_)
      | ((first | (with_reducible first | apply AWp.fork | apply AWp.region | show condK _ _ _ | show guardK _ _ _ _ _ _ _ _ _) | ((with_reducible apply AWp.drawS (id := 24) (t := sc_11_24_XStr5)); (exact mixed); kernel_rfl; kernel_rfl; (repeat (with_reducible first | apply PanQ.then | apply PanQ.block | apply PanQ.body | apply PanQ.no)))); simp -implicitDefEqProofs [h1'])
      | ((with_reducible first | apply AWp.ret | apply AWp.skip | apply AWp.exit); try simp -implicitDefEqProofs [h1']))
    rw [splitS, if_pos h1]
    refine ⟨Wk_PV, ?_⟩
    all_goals (repeat (first | exact AS.le_refl _ | refine le_new (by simp [h_id2]) ?_))
  have h1' : (65536 < (b.length : Int)) = False := by simp; omega
  by_cases h2 : b.length < 56
  · have h2' : ((b.length : Int) < 56) = True := by simp; omega
    repeat (first
      | (with_reducible first | apply AWp.seq | apply AWp.block | refine And.intro (by first | omega | assumption | decide) ?_)
      | ((first | (with_reducible first | apply AWp.fork | apply AWp.region | show condK _ _ _ | show guardK _ _ _ _ _ _ _ _ _) | ((with_reducible apply AWp.drawS (id := 24) (t := sc_11_24_XStr5)); (exact mixed); kernel_rfl; kernel_rfl; (repeat (with_reducible first | apply PanQ.then | apply PanQ.block | apply PanQ.body | apply PanQ.no)))); simp -implicitDefEqProofs [h1', h2'])
      | ((with_reducible first | apply AWp.ret | apply AWp.skip | apply AWp.exit); try simp -implicitDefEqProofs [h1', h2']))
    intro id2 h_id2
    repeat (first
      | (with_reducible first | apply AWp.seq | apply AWp.block | refine And.intro (by first | omega | assumption | decide) ?_)
      | ((first | (with_reducible first | apply AWp.fork | apply AWp.region | show condK _ _ _ | show guardK _ _ _ _ _ _ _ _ _) | ((with_reducible apply AWp.drawS (id := 24) (t := sc_11_24_XStr5)); (exact mixed); kernel_rfl; kernel_rfl; (repeat (with_reducible first | apply PanQ.then | apply PanQ.block | apply PanQ.body | apply PanQ.no)))); simp -implicitDefEqProofs [h1', h2'])
      | ((with_reducible first | apply AWp.ret | apply AWp.skip | apply AWp.exit); try simp -implicitDefEqProofs [h1', h2']))
    rw [splitS, if_neg h1, if_pos h2]
    refine ⟨Wk_PV, ?_⟩
    all_goals (repeat (first | exact AS.le_refl _ | refine le_new (by simp [h_id2]) ?_))
  have h2' : ((b.length : Int) < 56) = False := by simp; omega
  have h3 : b.take 4 ≠ CGRD := by rcases hb with h | h | h; omega; omega; exact h
  have h4 : allU8 (List.take 4 (b.map u8)) = some (b.take 4) := by rw [← List.map_take]; exact allU8_map _
  have h44 : (4 : Int) ≤ b.length := by omega
  have h3' : ((b.take 4) = [67, 71, 82, 68]) = False := by simpa [CGRD] using h3
  have hnl : nl = false := by
    cases nl with
    | false => rfl
    | true => rw [hn rfl] at h2; simp at h2
  subst hnl
  repeat (first
    | (with_reducible first | apply AWp.seq | apply AWp.block | refine And.intro (by first | omega | assumption | decide) ?_)
    | ((first | (with_reducible first | apply AWp.fork | apply AWp.region | show condK _ _ _ | show guardK _ _ _ _ _ _ _ _ _) | ((with_reducible apply AWp.drawS (id := 24) (t := sc_11_24_XStr5)); (exact mixed); kernel_rfl; kernel_rfl; (repeat (with_reducible first | apply PanQ.then | apply PanQ.block | apply PanQ.body | apply PanQ.no)))); simp -implicitDefEqProofs [h1', h2', h4, h44, h3'])
    | ((with_reducible first | apply AWp.ret | apply AWp.skip | apply AWp.exit); try simp -implicitDefEqProofs [h1', h2', h4, h44, h3']))
  intro id2 h_id2
  repeat (first
    | (with_reducible first | apply AWp.seq | apply AWp.block | refine And.intro (by first | omega | assumption | decide) ?_)
    | ((first | (with_reducible first | apply AWp.fork | apply AWp.region | show condK _ _ _ | show guardK _ _ _ _ _ _ _ _ _) | ((with_reducible apply AWp.drawS (id := 24) (t := sc_11_24_XStr5)); (exact mixed); kernel_rfl; kernel_rfl; (repeat (with_reducible first | apply PanQ.then | apply PanQ.block | apply PanQ.body | apply PanQ.no)))); simp -implicitDefEqProofs [h1', h2', h4, h44, h3'])
    | ((with_reducible first | apply AWp.ret | apply AWp.skip | apply AWp.exit); try simp -implicitDefEqProofs [h1', h2', h4, h44, h3']))
  rw [splitS, if_neg h1, if_neg h2, if_pos h3]
  refine ⟨Wk_PV, ?_⟩
  all_goals (repeat (first | exact AS.le_refl _ | refine le_new (by simp [h_id2]) ?_))

/-- The number of a tag that is not yet met, of those below j. -/
def kk (t : List UInt8) (M : List (Int × Int × Int)) (j : Nat) : Int := if tagK t < j ∧ M.any (fun x => x.1 == tagK t) = false then tagK t else -1

theorem flatZ_iw (n : Nat) : flatZ n (.sc (.int .i64 0)) = (List.replicate n (0 : Int)).map iw := by
  induction n with
  | zero => rfl
  | succ n ih =>
    simp only [flatZ, List.replicate_succ, List.flatMap_cons, List.map_cons] at ih ⊢
    rw [ih]; rfl
theorem flatZ_bw : flatZ 4 (.sc (.bool false)) = (metL []).map bw := rfl

def rsO (b : List UInt8) (id2 id3 wid mid : Nat) (v : AV) (X : Strs × Int × Int) (B : AS) (m : Nat) (f : Fr) (σ' : AS) : Prop :=
  ∃ (i : Nat) (M : List (Int × Int × Int)) (o : Strs) (W : List Int), m = 4 - i ∧ i ≤ 4 ∧ o.length = 4 ∧ W.length = b.length ∧ splitL b (4 - i) (8 + 12 * i) M o = X ∧
    (∀ j : Nat, 0 < W.getD j 0 ↔ ∃ x ∈ M, x.2.1 ≤ (j : Int) ∧ (j : Int) < x.2.2) ∧ (∀ x ∈ M, 0 ≤ x.2.1 ∧ x.2.2 ≤ b.length) ∧
    σ' = ((B.set id3 (.cells 30 ((o.map nz).map sV ++ [iw 0, iw 0]))).set wid (.cells 3 (W.map iw))).set mid (.cells 4 ((metL M).map bw)) ∧
    f = mkF [(0, v), (2, .ptr id2 0), (3, .ptr id3 0), (4, .msl wid 0 b.length b.length), (5, .msl mid 0 4 4), (6, .sc (.int .i64 i))]

theorem kk_step {t : List UInt8} {M : List (Int × Int × Int)} {j : Nat} (hj : j < 4) : kk t M (j + 1) = if tg j = t ∧ M.any (fun x => x.1 == (j : Int)) = false then (j : Int) else kk t M j := by
  have e := tagK_eq (t := t) hj
  unfold kk
  generalize tagK t = k at *
  by_cases hk : k = j
  · subst hk
    have : ¬ ((j : Int) < (j : Int)) := by omega
    have h2 : (j : Int) < ((j + 1 : Nat) : Int) := by omega
    simp only [this, h2, e.2 rfl, true_and, false_and, if_false]
  · have h1 : ¬ (tg j = t) := fun h => hk (e.1 h)
    have h2 : k < ((j + 1 : Nat) : Int) ↔ k < (j : Int) := by omega
    simp only [h1, h2, false_and, if_false]
theorem kk_4 {t : List UInt8} {M : List (Int × Int × Int)} : kk t M 4 = if M.any (fun x => x.1 == tagK t) = false then tagK t else -1 := by
  have := tagK_lt t
  unfold kk
  have h : tagK t < ((4 : Nat) : Int) := by omega
  simp only [h, true_and]

theorem metL_get {M : List (Int × Int × Int)} {j : Nat} (hj : j < 4) : ((metL M).map bw)[j]? = some (bw (M.any (fun x => x.1 == (j : Int)))) := by
  match j, hj with
  | 0, _ => rfl
  | 1, _ => rfl
  | 2, _ => rfl
  | 3, _ => rfl

def rsT (b : List UInt8) (c i : Nat) (x y : Int) (id2 id3 wid mid : Nat) (t : List UInt8) (M : List (Int × Int × Int)) (v : AV) (S : AS) (m : Nat) (f : Fr) (σ' : AS) : Prop :=
  ∃ j : Nat, m = 4 - j ∧ j ≤ 4 ∧ σ' = S ∧
    f = mkF [(0, v), (2, .ptr id2 0), (3, .ptr id3 0), (4, .msl wid 0 b.length b.length), (5, .msl mid 0 4 4), (6, .sc (.int .i64 i)), (7, .sc (.int .i64 c)), (8, .sc (.int .i64 x)), (9, .sc (.int .i64 y)),
      (10, .sc (.int .i64 (kk t M j))), (11, .sc (.int .i64 j))]

theorem setS_self {σ : AS} {id : Nat} {x : ABlk} (h : σ id = some x) : σ.set id x = σ := by
  funext j
  by_cases e : j = id
  · subst e; simp [AS.set, h]
  · simp [AS.set, e]

theorem cut_set {L : List AV} {p : Nat} {v : AV} (h : p < L.length) : L.take p ++ v :: L.drop (p + 1) = L.set p v := by rw [List.set_eq_take_append_cons_drop, if_pos h]
theorem le_setset {σ : AS} {id : Nat} {x : ABlk} (y : ABlk) : AS.le (σ.set id y) ((σ.set id x).set id y) := by
  intro j z hj
  by_cases e : j = id
  · subst e; simpa [AS.set] using hj
  · simpa [AS.set, e] using hj
theorem metL_snoc {M : List (Int × Int × Int)} {k : Nat} (hk : k < 4) (a e : Int) : (metL M).set k true = metL (M ++ [((k : Int), a, e)]) := by
  match k, hk with
  | 0, _ => simp [metL]
  | 1, _ => simp [metL]
  | 2, _ => simp [metL]
  | 3, _ => simp [metL]

theorem four_set {α : Type} (a0 a1 a2 a3 z : α) {k : Nat} (hk : k < 4) : ∃ p0 p1 p2 p3, [a0, a1, a2, a3].set k z = [p0, p1, p2, p3] := by
  match k, hk with
  | 0, _ => exact ⟨_, _, _, _, rfl⟩
  | 1, _ => exact ⟨_, _, _, _, rfl⟩
  | 2, _ => exact ⟨_, _, _, _, rfl⟩
  | 3, _ => exact ⟨_, _, _, _, rfl⟩

def rsW (b : List UInt8) (c i xn yn kn : Nat) (id2 id3 wid mid : Nat) (W : List Int) (v : AV) (S : AS) (m : Nat) (f : Fr) (σ' : AS) : Prop :=
  ∃ (p : Nat) (W' : List Int), m = xn + yn - p ∧ xn ≤ p ∧ p ≤ xn + yn ∧ W'.length = b.length ∧ (∀ q, W'.getD q 0 = if xn ≤ q ∧ q < p then (kn : Int) + 1 else W.getD q 0) ∧ (∀ q, xn ≤ q → q < p → ¬ 0 < W.getD q 0) ∧
    σ' = S.set wid (.cells 3 (W'.map iw)) ∧
    f = mkF [(0, v), (2, .ptr id2 0), (3, .ptr id3 0), (4, .msl wid 0 b.length b.length), (5, .msl mid 0 4 4), (6, .sc (.int .i64 i)), (7, .sc (.int .i64 c)), (8, .sc (.int .i64 xn)), (9, .sc (.int .i64 yn)),
      (10, .sc (.int .i64 kn)), (12, .sc (.int .i64 p))]


theorem rsplit_ok (b : List UInt8) (own : Own) (nl : Bool) (hn : nl = true → b = []) (σ : AS) (hlen : b.length ≤ 140737488355328) (hb : ¬ (65536 < b.length ∨ b.length < 56 ∨ b.take 4 ≠ CGRD)) :
    ACalls Try.prog 11 [.lst 5 (b.map u8) own nl] σ (Gives (PV (splitS b)) σ) No := by
  simp only [not_or, Decidable.not_not] at hb
  obtain ⟨h1, h2, h3⟩ := hb
  have h1' : (65536 < (b.length : Int)) = False := by simp; omega
  have h2' : ((b.length : Int) < 56) = False := by simp; omega
  have h4 : allU8 (List.take 4 (b.map u8)) = some (b.take 4) := by rw [← List.map_take]; exact allU8_map _
  have h44 : (4 : Int) ≤ b.length := by omega
  have h3' : ((b.take 4) = [67, 71, 82, 68]) = True := by simp [h3, CGRD]
  have hnl : nl = false := by
    cases nl with
    | false => rfl
    | true => rw [hn rfl] at h2; simp at h2
  subst hnl
  have hN1 := fun σ => rnum_ok b own false 4 2 (by omega) (by omega) (by omega) (by omega) hlen σ
  have hN2 := fun σ => rnum_ok b own false 6 2 (by omega) (by omega) (by omega) (by omega) hlen σ
  refine ACalls.of_body Try.func11 rfl rfl (by simp [Try.ntmps11]) ?_
  repeat (first
    | (with_reducible first | apply AWp.seq | apply AWp.block | refine And.intro (by first | omega | assumption | decide) ?_)
    | ((first | (with_reducible first | apply AWp.fork | apply AWp.region | show condK _ _ _ | show guardK _ _ _ _ _ _ _ _ _) | ((with_reducible apply AWp.drawS (id := 24) (t := sc_11_24b_XStr5)); (exact mixed); kernel_rfl; kernel_rfl; (repeat (with_reducible first | apply PanQ.then | apply PanQ.block | apply PanQ.body | apply PanQ.no)))); simp -implicitDefEqProofs [h1', h2', h4, h44, h3'])
    | ((with_reducible first | apply AWp.ret | apply AWp.skip | apply AWp.exit); try simp -implicitDefEqProofs [h1', h2', h4, h44, h3']))
  intro id2 h_id2
  by_cases g1 : numL (seg b 4 2) = 1
  · by_cases g2 : numL (seg b 6 2) = 4
    · have hX : splitS b = splitL b 4 8 [] E4 := by rw [splitS, if_neg (by omega), if_neg (by omega), if_neg (by simpa using h3), if_neg (by simpa using g1), if_neg (by simpa using g2)]
      rw [hX]
      rw [g1] at hN1
      rw [g2] at hN2
      repeat (first
        | (with_reducible first | apply AWp.seq | apply AWp.block | refine And.intro (by first | omega | assumption | decide) ?_)
        | ((first | (with_reducible first | apply AWp.fork | apply AWp.region | show condK _ _ _ | show guardK _ _ _ _ _ _ _ _ _) | ((with_reducible apply AWp.drawS (id := 24) (t := sc_11_24b_XStr5)); (exact mixed); kernel_rfl; kernel_rfl; (repeat (with_reducible first | apply PanQ.then | apply PanQ.block | apply PanQ.body | apply PanQ.no))) | ((with_reducible apply aCall.id); first | apply aCall.gives (hN1 _) | apply aCall.gives (hN2 _)) | ((with_reducible apply pureCall.id); first | apply pureCall.gives (fun _ => hN1 _) | apply pureCall.gives (fun _ => hN2 _))); simp -implicitDefEqProofs [h1', h2', h4, h44, h3'])
        | ((with_reducible first | apply AWp.ret | apply AWp.skip | apply AWp.exit); try simp -implicitDefEqProofs [h1', h2', h4, h44, h3']))
      intro id3 n_id3_id2 h_id3
      have n_id2_id3 : ¬ id2 = id3 := fun e => n_id3_id2 e.symm
      repeat (first
        | (with_reducible first | apply AWp.seq | apply AWp.block | refine And.intro (by first | omega | assumption | decide) ?_)
        | ((first | (with_reducible first | apply AWp.fork | apply AWp.region | show condK _ _ _ | show guardK _ _ _ _ _ _ _ _ _) | ((with_reducible apply AWp.drawS (id := 24) (t := sc_11_24b_XStr5)); (exact mixed); kernel_rfl; kernel_rfl; (repeat (with_reducible first | apply PanQ.then | apply PanQ.block | apply PanQ.body | apply PanQ.no)))); simp -implicitDefEqProofs [n_id3_id2, n_id2_id3])
        | ((with_reducible first | apply AWp.ret | apply AWp.skip | apply AWp.exit); try simp -implicitDefEqProofs [n_id3_id2, n_id2_id3]))
      intro wid n_wid_id3 n_wid_id2 h_wid
      have n_id3_wid : ¬ id3 = wid := fun e => n_wid_id3 e.symm
      have n_id2_wid : ¬ id2 = wid := fun e => n_wid_id2 e.symm
      repeat (first
        | (with_reducible first | apply AWp.seq | apply AWp.block | refine And.intro (by first | omega | assumption | decide) ?_)
        | ((first | (with_reducible first | apply AWp.fork | apply AWp.region | show condK _ _ _ | show guardK _ _ _ _ _ _ _ _ _) | ((with_reducible apply AWp.drawS (id := 24) (t := sc_11_24b_XStr5)); (exact mixed); kernel_rfl; kernel_rfl; (repeat (with_reducible first | apply PanQ.then | apply PanQ.block | apply PanQ.body | apply PanQ.no)))); simp -implicitDefEqProofs [n_id3_id2, n_id2_id3, n_wid_id3, n_id3_wid, n_wid_id2, n_id2_wid])
        | ((with_reducible first | apply AWp.ret | apply AWp.skip | apply AWp.exit); try simp -implicitDefEqProofs [n_id3_id2, n_id2_id3, n_wid_id3, n_id3_wid, n_wid_id2, n_id2_wid]))
      intro mid n_mid_wid n_mid_id3 n_mid_id2 h_mid
      have n_wid_mid : ¬ wid = mid := fun e => n_mid_wid e.symm
      have n_id3_mid : ¬ id3 = mid := fun e => n_mid_id3 e.symm
      have n_id2_mid : ¬ id2 = mid := fun e => n_mid_id2 e.symm
      rw [flatZ_iw, flatZ_bw]
      refine AWp.wkC id3 ((E4.map nz).map sV ++ [iw 0, iw 0]) (by simp [n_id3_wid, n_id3_mid]; exact ⟨rfl, rfl⟩) (by simp [E4]) (fun k hk => ?_) ?_
      · match k, hk with
        | 0, _ => simp [E4, sV, nz]
        | 1, _ => simp [E4, sV, nz]
        | 2, _ => simp [E4, sV, nz]
        | 3, _ => simp [E4, sV, nz]
        | 4, _ => simp [E4, sV, nz, iw]
        | 5, _ => simp [E4, sV, nz, iw]
      simp -implicitDefEqProofs [n_id3_id2, n_id2_id3, n_wid_id3, n_id3_wid, n_wid_id2, n_id2_wid, n_mid_wid, n_wid_mid, n_mid_id3, n_id3_mid, n_mid_id2, n_id2_mid]
      obtain ⟨B, B_s, hB2, eq_B, le_B⟩ : ∃ B : AS, (σ.set id2 (.cells 30 [.nilS, .nilS, .nilS, .nilS, .sc (.int .i64 0), .sc (.int .i64 0)])) = B ∧ B id2 = some (.cells 30 [.nilS, .nilS, .nilS, .nilS, .sc (.int .i64 0), .sc (.int .i64 0)]) ∧ (∀ j, j ≠ id2 → B j = σ j) ∧ (∀ S' : AS, (∀ j, j ≠ id2 → ∀ y, B j = some y → S' j = some y) → AS.le σ S') := by
        refine ⟨_, rfl, by simp [], ?_, ?_⟩
        · intro j e_id2; simp [AS.set, e_id2]
        intro S' h j x hj
        have e_id2 : j ≠ id2 := by rintro rfl; rw [h_id2] at hj; cases hj
        exact h j e_id2 x (by simp [AS.set, e_id2, hj])
      simp only [B_s]
      clear B_s
      have hB3 : B id3 = none := by rw [eq_B id3 n_id3_id2]; exact h_id3
      have hBw : B wid = none := by rw [eq_B wid n_wid_id2]; exact h_wid
      have hBm : B mid = none := by rw [eq_B mid n_mid_id2]; exact h_mid
      repeat (first
        | (with_reducible first | apply AWp.seq | apply AWp.block | refine And.intro (by first | omega | assumption | decide) ?_)
        | ((first | (with_reducible first | apply AWp.fork | apply AWp.region | show condK _ _ _ | show guardK _ _ _ _ _ _ _ _ _) | ((with_reducible apply AWp.drawS (id := 24) (t := sc_11_24b_XStr5)); (exact mixed); kernel_rfl; kernel_rfl; (repeat (with_reducible first | apply PanQ.then | apply PanQ.block | apply PanQ.body | apply PanQ.no)))); simp -implicitDefEqProofs [n_id3_id2, n_id2_id3, n_wid_id3, n_id3_wid, n_wid_id2, n_id2_wid, n_mid_wid, n_wid_mid, n_mid_id3, n_id3_mid, n_mid_id2, n_id2_mid, hB2])
        | ((with_reducible first | apply AWp.ret | apply AWp.skip | apply AWp.exit); try simp -implicitDefEqProofs [n_id3_id2, n_id2_id3, n_wid_id3, n_id3_wid, n_wid_id2, n_id2_wid, n_mid_wid, n_wid_mid, n_mid_id3, n_id3_mid, n_mid_id2, n_id2_mid, hB2]))
      generalize hX1 : splitL b 4 8 [] E4 = X
      refine AWp.loopI (rsO b id2 id3 wid mid (.lst 5 (b.map u8) own false) X B) (k0 := 4) ⟨0, [], E4, List.replicate b.length 0, rfl, by omega, rfl, by simp, hX1, fun j => ?_, by simp, rfl, rfl⟩ (FrWk.mk (by simp)) ?_ ?_
      · rw [List.getD_eq_getElem?_getD, List.getElem?_replicate]
        by_cases hj : j < b.length <;> simp [hj]
      · simp [List.map_map, List.map_replicate]
      clear hX1
      rintro m f σ' ⟨i, M, o, W, hm, hi, ho, hW, hX, hp, hM, hs, rfl⟩
      have hS2 : σ' id2 = some (.cells 30 [.nilS, .nilS, .nilS, .nilS, .sc (.int .i64 0), .sc (.int .i64 0)]) := by rw [hs]; simp [n_id2_wid, n_id2_mid, n_id2_id3, hB2]
      have le_S : ∀ S : AS, (∀ j, j ≠ id2 → j ≠ id3 → j ≠ wid → j ≠ mid → ∀ y, σ' j = some y → S j = some y) → AS.le σ S := by
        intro S h
        refine le_B S fun j a1 y hj => ?_
        have a2 : j ≠ id3 := by rintro rfl; rw [hB3] at hj; cases hj
        have a3 : j ≠ wid := by rintro rfl; rw [hBw] at hj; cases hj
        have a4 : j ≠ mid := by rintro rfl; rw [hBm] at hj; cases hj
        refine h j a1 a2 a3 a4 y ?_
        rw [hs]
        simp [AS.set, a2, a3, a4, hj]
      by_cases hlt : i < 4
      · have hI : ((i : Int) < 4) = True := by simp; omega
        generalize hc : 8 + 12 * i = c at hX
        have w1 : IntKind.i64.wrap (12 * (i : Int)) = 12 * (i : Int) := in_i64 (by omega) (by omega)
        have w2 : IntKind.i64.wrap (8 + 12 * (i : Int)) = (c : Int) := by rw [in_i64 (by omega) (by omega)]; omega
        have w3 : IntKind.i64.wrap ((c : Int) + 4) = (c : Int) + 4 := in_i64 (by omega) (by omega)
        have w4 : IntKind.i64.wrap ((c : Int) + 8) = (c : Int) + 8 := in_i64 (by omega) (by omega)
        have w5 : IntKind.i64.wrap ((c : Int) + 12) = (c : Int) + 12 := in_i64 (by omega) (by omega)
        have hM1 := fun σ => rnum_ok b own false c 4 (by omega) (by omega) (by omega) (by omega) hlen σ
        have hM2 := fun σ => rnum_ok b own false (c + 4) 4 (by omega) (by omega) (by omega) (by omega) hlen σ
        have u1 := numL_lt (seg b c 4)
        have u2 := numL_lt (seg b (c + 4) 4)
        have l1 := seg_length b c 4 (by omega) (by omega) (by omega)
        have l2 := seg_length b (c + 4) 4 (by omega) (by omega) (by omega)
        have e9 : (256 : Int) ^ 4 = 4294967296 := by decide
        rw [show (seg b c 4).length = 4 by omega, e9] at u1
        rw [show (seg b (c + 4) 4).length = 4 by omega, e9] at u2
        have e0 : 0 ≤ numL (seg b c 4) := numL_nonneg _
        have e1 : 0 ≤ numL (seg b (c + 4) 4) := numL_nonneg _
        rw [show 4 - i = (4 - (i + 1)) + 1 by omega, splitL] at hX
        generalize numL (seg b c 4) = x at *
        generalize numL (seg b (c + 4) 4) = y at *
        have w6 : IntKind.i64.wrap x = x := in_i64 (by omega) (by omega)
        have w7 : IntKind.i64.wrap y = y := in_i64 (by omega) (by omega)
        have w8 : IntKind.i64.wrap (x + y) = x + y := in_i64 (by omega) (by omega)
        repeat (first
          | (with_reducible first | apply AWp.seq | apply AWp.block | refine And.intro (by first | omega | assumption | decide) ?_)
          | ((first | (with_reducible first | apply AWp.fork | apply AWp.region | show condK _ _ _ | show guardK _ _ _ _ _ _ _ _ _) | ((with_reducible apply AWp.drawS (id := 24) (t := sc_11_24b_XStr5)); (exact mixed); kernel_rfl; kernel_rfl; (repeat (with_reducible first | apply PanQ.then | apply PanQ.block | apply PanQ.body | apply PanQ.no))) | ((with_reducible apply aCall.id); first | apply aCall.gives (hM1 _) | apply aCall.gives (hM2 _)) | ((with_reducible apply pureCall.id); first | apply pureCall.gives (fun _ => hM1 _) | apply pureCall.gives (fun _ => hM2 _))); simp -implicitDefEqProofs [hI, w1, w2, w3, w6, w7, n_id3_id2, n_id2_id3, n_wid_id3, n_id3_wid, n_wid_id2, n_id2_wid, n_mid_wid, n_wid_mid, n_mid_id3, n_id3_mid, n_mid_id2, n_id2_mid, hB2])
          | ((with_reducible first | apply AWp.ret | apply AWp.skip | apply AWp.exit); try simp -implicitDefEqProofs [hI, w1, w2, w3, w6, w7, n_id3_id2, n_id2_id3, n_wid_id3, n_id3_wid, n_wid_id2, n_id2_wid, n_mid_wid, n_wid_mid, n_mid_id3, n_id3_mid, n_mid_id2, n_id2_mid, hB2]))
        have ht : seg b (c + 8) 4 = List.drop ((c : Int) + 8).toNat (List.take ((c : Int) + 12).toNat b) := by
          simp only [seg]
          rw [show (c : Int) + 8 + 4 = c + 12 by omega]
        have hA : allU8 (List.drop ((c : Int) + 8).toNat (List.take ((c : Int) + 12).toNat (List.map u8 b))) = some (seg b (c + 8) 4) := by
          rw [ht, ← List.map_take, ← List.map_drop]; exact allU8_map _
        have tl := tagK_lt (seg b (c + 8) 4)
        generalize seg b (c + 8) 4 = t at hX hA tl
        refine AWp.loopI (rsT b c i x y id2 id3 wid mid t M (.lst 5 (b.map u8) own false) σ') (k0 := 4) ⟨0, rfl, by omega, rfl, rfl⟩ (FrWk.mk ?_) (AS.le_refl _) ?_
        · have : kk t M 0 = -1 := by
            unfold kk
            split
            · rename_i h
              omega
            · rfl
          simp [this]
        rintro m2 f σ2 ⟨j, hm2, hj, rfl, rfl⟩
        have hDm : σ2 mid = some (.cells 4 ((metL M).map bw)) := by rw [hs]; simp
        by_cases hjl : j < 4
        · have hJ : ((j : Int) < 4) = True := by simp; omega
          have htag := rtag_ok j hjl
          have hte := tagK_eq (t := t) hjl
          have z1 : (c : Int) + 8 ≤ c + 12 := by omega
          have z2 : (c : Int) + 12 ≤ b.length := by omega
          have z3 : (0 : Int) ≤ c + 8 := by omega
          have hDj := metL_get (M := M) hjl
          have hDl : ((metL M).map bw).length = 4 := rfl
          by_cases ht2 : tg j = t
          · have hkj := hte.1 ht2
            by_cases hmj : M.any (fun x => x.1 == (j : Int)) = true
            · rw [hmj] at hDj
              repeat (first
                | (with_reducible first | apply AWp.seq | apply AWp.block | refine And.intro (by first | omega | assumption | decide) ?_)
                | ((first | (with_reducible first | apply AWp.fork | apply AWp.region | show condK _ _ _ | show guardK _ _ _ _ _ _ _ _ _) | ((with_reducible apply AWp.drawS (id := 24) (t := sc_11_24b_XStr5)); (exact mixed); kernel_rfl; kernel_rfl; (repeat (with_reducible first | apply PanQ.then | apply PanQ.block | apply PanQ.body | apply PanQ.no))) | ((with_reducible apply aCall.id); first | apply aCall.gives (htag _)) | ((with_reducible apply pureCall.id); first | apply pureCall.gives (fun _ => htag _))); simp -implicitDefEqProofs [hJ, w4, w5, hA, ht2, hDm, hDj, hDl, z1, z2, z3, bw, n_id3_id2, n_id2_id3, n_wid_id3, n_id3_wid, n_wid_id2, n_id2_wid, n_mid_wid, n_wid_mid, n_mid_id3, n_id3_mid, n_mid_id2, n_id2_mid, hB2])
                | ((with_reducible first | apply AWp.ret | apply AWp.skip | apply AWp.exit); try simp -implicitDefEqProofs [hJ, w4, w5, hA, ht2, hDm, hDj, hDl, z1, z2, z3, bw, n_id3_id2, n_id2_id3, n_wid_id3, n_id3_wid, n_wid_id2, n_id2_wid, n_mid_wid, n_wid_mid, n_mid_id3, n_id3_mid, n_mid_id2, n_id2_mid, hB2]))
              refine ⟨m2 - 1, _, _, by omega, FrWk.mk ?_, AS.le_refl _, j + 1, by omega, by omega, rfl, rfl⟩
              rw [kk_step hjl, if_neg (by rw [hmj]; simp)]
              simp [wInc (show j < 4000000000000000000 by omega)]
            · rw [Bool.not_eq_true] at hmj
              rw [hmj] at hDj
              repeat (first
                | (with_reducible first | apply AWp.seq | apply AWp.block | refine And.intro (by first | omega | assumption | decide) ?_)
                | ((first | (with_reducible first | apply AWp.fork | apply AWp.region | show condK _ _ _ | show guardK _ _ _ _ _ _ _ _ _) | ((with_reducible apply AWp.drawS (id := 24) (t := sc_11_24b_XStr5)); (exact mixed); kernel_rfl; kernel_rfl; (repeat (with_reducible first | apply PanQ.then | apply PanQ.block | apply PanQ.body | apply PanQ.no))) | ((with_reducible apply aCall.id); first | apply aCall.gives (htag _)) | ((with_reducible apply pureCall.id); first | apply pureCall.gives (fun _ => htag _))); simp -implicitDefEqProofs [hJ, w4, w5, hA, ht2, hDm, hDj, hDl, z1, z2, z3, bw, n_id3_id2, n_id2_id3, n_wid_id3, n_id3_wid, n_wid_id2, n_id2_wid, n_mid_wid, n_wid_mid, n_mid_id3, n_id3_mid, n_mid_id2, n_id2_mid, hB2])
                | ((with_reducible first | apply AWp.ret | apply AWp.skip | apply AWp.exit); try simp -implicitDefEqProofs [hJ, w4, w5, hA, ht2, hDm, hDj, hDl, z1, z2, z3, bw, n_id3_id2, n_id2_id3, n_wid_id3, n_id3_wid, n_wid_id2, n_id2_wid, n_mid_wid, n_wid_mid, n_mid_id3, n_id3_mid, n_mid_id2, n_id2_mid, hB2]))
              refine ⟨m2 - 1, _, _, by omega, FrWk.mk ?_, AS.le_refl _, j + 1, by omega, by omega, rfl, rfl⟩
              rw [kk_step hjl, if_pos ⟨ht2, hmj⟩]
              simp [wInc (show j < 4000000000000000000 by omega)]
          · repeat (first
              | (with_reducible first | apply AWp.seq | apply AWp.block | refine And.intro (by first | omega | assumption | decide) ?_)
              | ((first | (with_reducible first | apply AWp.fork | apply AWp.region | show condK _ _ _ | show guardK _ _ _ _ _ _ _ _ _) | ((with_reducible apply AWp.drawS (id := 24) (t := sc_11_24b_XStr5)); (exact mixed); kernel_rfl; kernel_rfl; (repeat (with_reducible first | apply PanQ.then | apply PanQ.block | apply PanQ.body | apply PanQ.no))) | ((with_reducible apply aCall.id); first | apply aCall.gives (htag _)) | ((with_reducible apply pureCall.id); first | apply pureCall.gives (fun _ => htag _))); simp -implicitDefEqProofs [hJ, w4, w5, hA, ht2, hDm, hDj, hDl, z1, z2, z3, bw, n_id3_id2, n_id2_id3, n_wid_id3, n_id3_wid, n_wid_id2, n_id2_wid, n_mid_wid, n_wid_mid, n_mid_id3, n_id3_mid, n_mid_id2, n_id2_mid, hB2])
              | ((with_reducible first | apply AWp.ret | apply AWp.skip | apply AWp.exit); try simp -implicitDefEqProofs [hJ, w4, w5, hA, ht2, hDm, hDj, hDl, z1, z2, z3, bw, n_id3_id2, n_id2_id3, n_wid_id3, n_id3_wid, n_wid_id2, n_id2_wid, n_mid_wid, n_wid_mid, n_mid_id3, n_id3_mid, n_mid_id2, n_id2_mid, hB2]))
            refine ⟨m2 - 1, _, _, by omega, FrWk.mk ?_, AS.le_refl _, j + 1, by omega, by omega, rfl, rfl⟩
            rw [kk_step hjl, if_neg (fun h => ht2 h.1)]
            simp [wInc (show j < 4000000000000000000 by omega)]
        · have hJ : ((j : Int) < 4) = False := by simp; omega
          obtain rfl : j = 4 := by omega
          clear hM1 hM2 hA ht hN1 hN2
          have hk4 := kk_4 (t := t) (M := M)
          generalize kk t M 4 = k4 at hk4 ⊢
          generalize tagK t = k at hX hk4 tl
          by_cases hk : k4 < 0
          · have hw : wrongS b.length M k x (x + y) = 2 := by
              unfold wrongS
              rw [if_pos]
              by_cases hany : M.any (fun x => x.1 == k) = true
              · exact .inr hany
              · rw [Bool.not_eq_true] at hany
                rw [if_pos hany] at hk4
                exact .inl (by omega)
            rw [if_neg (by omega), hw] at hX
            repeat (first
              | (with_reducible first | apply AWp.seq | apply AWp.block | refine And.intro (by first | omega | assumption | decide) ?_)
              | ((first | (with_reducible first | apply AWp.fork | apply AWp.region | show condK _ _ _ | show guardK _ _ _ _ _ _ _ _ _) | ((with_reducible apply AWp.drawS (id := 24) (t := sc_11_24b_XStr5)); (exact mixed); kernel_rfl; kernel_rfl; (repeat (with_reducible first | apply PanQ.then | apply PanQ.block | apply PanQ.body | apply PanQ.no)))); simp -implicitDefEqProofs [hJ, hk, hS2, n_id3_id2, n_id2_id3, n_wid_id3, n_id3_wid, n_wid_id2, n_id2_wid, n_mid_wid, n_wid_mid, n_mid_id3, n_id3_mid, n_mid_id2, n_id2_mid, hB2])
              | ((with_reducible first | apply AWp.ret | apply AWp.skip | apply AWp.exit); try simp -implicitDefEqProofs [hJ, hk, hS2, n_id3_id2, n_id2_id3, n_wid_id3, n_id3_wid, n_wid_id2, n_id2_wid, n_mid_wid, n_wid_mid, n_mid_id3, n_id3_mid, n_mid_id2, n_id2_mid, hB2]))
            rw [← hX]
            refine ⟨Wk_PV, ?_⟩
            refine le_S _ fun j a1 a2 a3 a4 y hy => ?_
            simp [AS.set, a1, hy]
          by_cases hany : M.any (fun x => x.1 == k) = true
          · rw [if_neg (by simpa using hany)] at hk4
            omega
          rw [Bool.not_eq_true] at hany
          rw [if_pos hany] at hk4
          subst k4
          by_cases hx56 : x < 56
          · have hw : wrongS b.length M k x (x + y) = 3 := by
              unfold wrongS
              rw [if_neg (by rintro (h | h); exact hk h; rw [hany] at h; cases h), if_pos (.inl hx56)]
            rw [if_neg (by omega), hw] at hX
            repeat (first
              | (with_reducible first | apply AWp.seq | apply AWp.block | refine And.intro (by first | omega | assumption | decide) ?_)
              | ((first | (with_reducible first | apply AWp.fork | apply AWp.region | show condK _ _ _ | show guardK _ _ _ _ _ _ _ _ _) | ((with_reducible apply AWp.drawS (id := 24) (t := sc_11_24b_XStr5)); (exact mixed); kernel_rfl; kernel_rfl; (repeat (with_reducible first | apply PanQ.then | apply PanQ.block | apply PanQ.body | apply PanQ.no)))); simp -implicitDefEqProofs [hJ, hk, hx56, hS2, n_id3_id2, n_id2_id3, n_wid_id3, n_id3_wid, n_wid_id2, n_id2_wid, n_mid_wid, n_wid_mid, n_mid_id3, n_id3_mid, n_mid_id2, n_id2_mid, hB2])
              | ((with_reducible first | apply AWp.ret | apply AWp.skip | apply AWp.exit); try simp -implicitDefEqProofs [hJ, hk, hx56, hS2, n_id3_id2, n_id2_id3, n_wid_id3, n_id3_wid, n_wid_id2, n_id2_wid, n_mid_wid, n_wid_mid, n_mid_id3, n_id3_mid, n_mid_id2, n_id2_mid, hB2]))
            rw [← hX]
            refine ⟨Wk_PV, ?_⟩
            refine le_S _ fun j a1 a2 a3 a4 y hy => ?_
            simp [AS.set, a1, hy]
          have hmod : x.tmod 4 = x % 4 := Int.tmod_eq_emod_of_nonneg e0
          by_cases hx4 : x % 4 = 0
          case neg =>
            have hw : wrongS b.length M k x (x + y) = 3 := by
              unfold wrongS
              rw [if_neg (by rintro (h | h); exact hk h; rw [hany] at h; cases h), if_pos (.inr hx4)]
            rw [if_neg (by omega), hw] at hX
            repeat (first
              | (with_reducible first | apply AWp.seq | apply AWp.block | refine And.intro (by first | omega | assumption | decide) ?_)
              | ((first | (with_reducible first | apply AWp.fork | apply AWp.region | show condK _ _ _ | show guardK _ _ _ _ _ _ _ _ _) | ((with_reducible apply AWp.drawS (id := 24) (t := sc_11_24b_XStr5)); (exact mixed); kernel_rfl; kernel_rfl; (repeat (with_reducible first | apply PanQ.then | apply PanQ.block | apply PanQ.body | apply PanQ.no)))); simp -implicitDefEqProofs [hJ, hk, hx56, hmod, hx4, hS2, n_id3_id2, n_id2_id3, n_wid_id3, n_id3_wid, n_wid_id2, n_id2_wid, n_mid_wid, n_wid_mid, n_mid_id3, n_id3_mid, n_mid_id2, n_id2_mid, hB2])
              | ((with_reducible first | apply AWp.ret | apply AWp.skip | apply AWp.exit); try simp -implicitDefEqProofs [hJ, hk, hx56, hmod, hx4, hS2, n_id3_id2, n_id2_id3, n_wid_id3, n_id3_wid, n_wid_id2, n_id2_wid, n_mid_wid, n_wid_mid, n_mid_id3, n_id3_mid, n_mid_id2, n_id2_mid, hB2]))
            rw [← hX]
            refine ⟨Wk_PV, ?_⟩
            refine le_S _ fun j a1 a2 a3 a4 y hy => ?_
            simp [AS.set, a1, hy]
          have hno3 : ¬ (x < 56 ∨ x % 4 ≠ 0) := by omega
          by_cases hxe : b.length < x + y
          · have hw : wrongS b.length M k x (x + y) = 1 := by
              unfold wrongS
              rw [if_neg (by rintro (h | h); exact hk h; rw [hany] at h; cases h), if_neg hno3, if_pos hxe]
            rw [if_neg (by omega), hw] at hX
            repeat (first
              | (with_reducible first | apply AWp.seq | apply AWp.block | refine And.intro (by first | omega | assumption | decide) ?_)
              | ((first | (with_reducible first | apply AWp.fork | apply AWp.region | show condK _ _ _ | show guardK _ _ _ _ _ _ _ _ _) | ((with_reducible apply AWp.drawS (id := 24) (t := sc_11_24b_XStr5)); (exact mixed); kernel_rfl; kernel_rfl; (repeat (with_reducible first | apply PanQ.then | apply PanQ.block | apply PanQ.body | apply PanQ.no)))); simp -implicitDefEqProofs [hJ, hk, hx56, hmod, hx4, w8, hxe, hS2, n_id3_id2, n_id2_id3, n_wid_id3, n_id3_wid, n_wid_id2, n_id2_wid, n_mid_wid, n_wid_mid, n_mid_id3, n_id3_mid, n_mid_id2, n_id2_mid, hB2])
              | ((with_reducible first | apply AWp.ret | apply AWp.skip | apply AWp.exit); try simp -implicitDefEqProofs [hJ, hk, hx56, hmod, hx4, w8, hxe, hS2, n_id3_id2, n_id2_id3, n_wid_id3, n_id3_wid, n_wid_id2, n_id2_wid, n_mid_wid, n_wid_mid, n_mid_id3, n_id3_mid, n_mid_id2, n_id2_mid, hB2]))
            rw [← hX]
            refine ⟨Wk_PV, ?_⟩
            refine le_S _ fun j a1 a2 a3 a4 y hy => ?_
            simp [AS.set, a1, hy]
          have hwv : wrongS b.length M k x (x + y) = if M.any (ov x (x + y)) = true then 2 else 0 := by
            unfold wrongS
            rw [if_neg (by rintro (h | h); exact hk h; rw [hany] at h; cases h), if_neg hno3, if_neg hxe]
          rw [hwv] at hX
          obtain ⟨xn, rfl⟩ := Int.eq_ofNat_of_zero_le e0
          obtain ⟨yn, rfl⟩ := Int.eq_ofNat_of_zero_le e1
          obtain ⟨kn, rfl⟩ := Int.eq_ofNat_of_zero_le (show 0 ≤ k by omega)
          repeat (first
            | (with_reducible first | apply AWp.seq | apply AWp.block | refine And.intro (by first | omega | assumption | decide) ?_)
            | ((first | (with_reducible first | apply AWp.fork | apply AWp.region | show condK _ _ _ | show guardK _ _ _ _ _ _ _ _ _) | ((with_reducible apply AWp.drawS (id := 24) (t := sc_11_24b_XStr5)); (exact mixed); kernel_rfl; kernel_rfl; (repeat (with_reducible first | apply PanQ.then | apply PanQ.block | apply PanQ.body | apply PanQ.no)))); simp -implicitDefEqProofs [hJ, hk, hx56, hmod, hx4, w8, hxe, hS2, n_id3_id2, n_id2_id3, n_wid_id3, n_id3_wid, n_wid_id2, n_id2_wid, n_mid_wid, n_wid_mid, n_mid_id3, n_id3_mid, n_mid_id2, n_id2_mid, hB2])
            | ((with_reducible first | apply AWp.ret | apply AWp.skip | apply AWp.exit); try simp -implicitDefEqProofs [hJ, hk, hx56, hmod, hx4, w8, hxe, hS2, n_id3_id2, n_id2_id3, n_wid_id3, n_id3_wid, n_wid_id2, n_id2_wid, n_mid_wid, n_wid_mid, n_mid_id3, n_id3_mid, n_mid_id2, n_id2_mid, hB2]))
          have hSw : σ2 wid = some (.cells 3 (W.map iw)) := by rw [hs]; simp [n_wid_mid]
          refine AWp.loopI (rsW b c i xn yn kn id2 id3 wid mid W (.lst 5 (b.map u8) own false) σ2) (k0 := yn) ⟨xn, W, by omega, by omega, by omega, hW, fun q => by rw [if_neg (by omega)], by omega, rfl, rfl⟩ (FrWk.mk (by simp)) (by rw [setS_self hSw]; exact AS.le_refl _) ?_
          rintro m3 f σ3 ⟨p, W', hm3, hp1, hp2, hW', hWq, hnq, hs3, rfl⟩
          have hS2' : σ3 id2 = some (.cells 30 [.nilS, .nilS, .nilS, .nilS, .sc (.int .i64 0), .sc (.int .i64 0)]) := by rw [hs3]; simp [n_id2_wid, hS2]
          have hSw' : σ3 wid = some (.cells 3 (W'.map iw)) := by rw [hs3]; simp
          by_cases hpe : p < xn + yn
          · have hP : ((p : Int) < xn + yn) = True := by simp; omega
            have hpl : p < W'.length := by omega
            have hpb : p < b.length := by omega
            have hpb' : (p : Int) < b.length := by omega
            have hget : W'[p] = W.getD p 0 := by
              have := hWq p
              rw [if_neg (by omega), List.getD_eq_getElem?_getD, List.getElem?_eq_getElem hpl] at this
              exact this
            by_cases hpos : 0 < W.getD p 0
            · have hpos' : 0 < W'[p] := by rw [hget]; exact hpos
              have hany2 : M.any (ov xn (xn + yn)) = true := by
                obtain ⟨z, hz, z1, z2⟩ := (hp p).1 hpos
                refine List.any_eq_true.2 ⟨z, hz, ?_⟩
                simp only [ov, decide_eq_true_eq]
                omega
              rw [if_pos hany2] at hX
              repeat (first
                | (with_reducible first | apply AWp.seq | apply AWp.block | refine And.intro (by first | omega | assumption | decide) ?_)
                | ((first | (with_reducible first | apply AWp.fork | apply AWp.region | show condK _ _ _ | show guardK _ _ _ _ _ _ _ _ _) | ((with_reducible apply AWp.drawS (id := 24) (t := sc_11_24b_XStr5)); (exact mixed); kernel_rfl; kernel_rfl; (repeat (with_reducible first | apply PanQ.then | apply PanQ.block | apply PanQ.body | apply PanQ.no)))); simp -implicitDefEqProofs [hP, w8, hSw', hS2', hpl, hpb, hpb', hpos', iw, n_id3_id2, n_id2_id3, n_wid_id3, n_id3_wid, n_wid_id2, n_id2_wid, n_mid_wid, n_wid_mid, n_mid_id3, n_id3_mid, n_mid_id2, n_id2_mid, hB2])
                | ((with_reducible first | apply AWp.ret | apply AWp.skip | apply AWp.exit); try simp -implicitDefEqProofs [hP, w8, hSw', hS2', hpl, hpb, hpb', hpos', iw, n_id3_id2, n_id2_id3, n_wid_id3, n_id3_wid, n_wid_id2, n_id2_wid, n_mid_wid, n_wid_mid, n_mid_id3, n_id3_mid, n_mid_id2, n_id2_mid, hB2]))
              rw [if_neg (by omega)] at hX
              rw [← hX]
              refine ⟨Wk_PV, ?_⟩
              refine le_S _ fun j a1 a2 a3 a4 y hy => ?_
              rw [hs3]
              simp [AS.set, a1, a3, hy]
            · have hpos' : (0 < W'[p]) = False := by rw [hget]; simpa using hpos
              have wk1 : IntKind.i64.wrap ((kn : Int) + 1) = (kn : Int) + 1 := in_i64 (by omega) (by omega)
              repeat (first
                | (with_reducible first | apply AWp.seq | apply AWp.block | refine And.intro (by first | omega | assumption | decide) ?_)
                | ((first | (with_reducible first | apply AWp.fork | apply AWp.region | show condK _ _ _ | show guardK _ _ _ _ _ _ _ _ _) | ((with_reducible apply AWp.drawS (id := 24) (t := sc_11_24b_XStr5)); (exact mixed); kernel_rfl; kernel_rfl; (repeat (with_reducible first | apply PanQ.then | apply PanQ.block | apply PanQ.body | apply PanQ.no)))); simp -implicitDefEqProofs [hP, w8, hSw', hS2', hpl, hpb, hpb', hpos', iw, wk1, n_id3_id2, n_id2_id3, n_wid_id3, n_id3_wid, n_wid_id2, n_id2_wid, n_mid_wid, n_wid_mid, n_mid_id3, n_id3_mid, n_mid_id2, n_id2_mid, hB2])
                | ((with_reducible first | apply AWp.ret | apply AWp.skip | apply AWp.exit); try simp -implicitDefEqProofs [hP, w8, hSw', hS2', hpl, hpb, hpb', hpos', iw, wk1, n_id3_id2, n_id2_id3, n_wid_id3, n_id3_wid, n_wid_id2, n_id2_wid, n_mid_wid, n_wid_mid, n_mid_id3, n_id3_mid, n_mid_id2, n_id2_mid, hB2]))
              refine ⟨m3 - 1, _, _, by omega, FrWk.mk ?_, ?_, p + 1, W'.set p ((kn : Int) + 1), by omega, by omega, by omega, by simpa using hW', fun q => ?_, fun q h1 h2 => ?_, rfl, rfl⟩
              · simp [wInc (show p < 4000000000000000000 by omega)]
              · rw [hs3, cut_set (by simpa using hpl), List.map_set]
                exact le_setset _
              · have := hWq q
                rw [List.getD_eq_getElem?_getD] at this ⊢
                rw [List.getElem?_set]
                by_cases hq : p = q
                · subst hq
                  rw [if_pos rfl, if_pos hpl, if_pos ⟨hp1, by omega⟩]; rfl
                · rw [if_neg hq, this]
                  by_cases hq2 : xn ≤ q ∧ q < p
                  · rw [if_pos hq2, if_pos ⟨hq2.1, by omega⟩]
                  · rw [if_neg hq2, if_neg (by omega)]
              · by_cases hq : q = p
                · subst hq; exact hpos
                · exact hnq q h1 (by omega)
          · have hP : ((p : Int) < xn + yn) = False := by simp; omega
            obtain rfl : p = xn + yn := by omega
            have hany2 : M.any (ov xn (xn + yn)) = false := by
              rw [List.any_eq_false]
              intro z hz h
              simp only [ov, decide_eq_true_eq] at h
              obtain ⟨q1, q2⟩ := hM z hz
              obtain ⟨za, hza⟩ := Int.eq_ofNat_of_zero_le q1
              have hq := (hp (max xn za)).2 ⟨z, hz, by omega, by omega⟩
              exact hnq (max xn za) (by omega) (by omega) hq
            rw [if_neg (show ¬ M.any (ov xn (xn + yn)) = true by rw [hany2]; simp), if_pos rfl] at hX
            have hSm' : σ3 mid = some (.cells 4 ((metL M).map bw)) := by rw [hs3]; simp [n_mid_wid, hDm]
            have hk4 : kn < 4 := by omega
            have hml : kn < ((metL M).map bw).length := hk4
            have hml2 : kn + 1 ≤ (metL M).length := hk4
            have hkl : ((kn : Int) < 4) = True := by simp; omega
            have hx6 : (xn : Int) ≤ xn + yn := by omega
            have hx7 : (xn : Int) + yn ≤ b.length := by omega
            repeat (first
              | (with_reducible first | apply AWp.seq | apply AWp.block | refine And.intro (by first | omega | assumption | decide) ?_)
              | ((first | (with_reducible first | apply AWp.fork | apply AWp.region | show condK _ _ _ | show guardK _ _ _ _ _ _ _ _ _) | ((with_reducible apply AWp.drawS (id := 24) (t := sc_11_24b_XStr5)); (exact mixed); kernel_rfl; kernel_rfl; (repeat (with_reducible first | apply PanQ.then | apply PanQ.block | apply PanQ.body | apply PanQ.no)))); simp -implicitDefEqProofs [hP, w8, hSw', hS2', hSm', hml, hml2, hkl, hx6, hx7, n_id3_id2, n_id2_id3, n_wid_id3, n_id3_wid, n_wid_id2, n_id2_wid, n_mid_wid, n_wid_mid, n_mid_id3, n_id3_mid, n_mid_id2, n_id2_mid, hB2])
              | ((with_reducible first | apply AWp.ret | apply AWp.skip | apply AWp.exit); try simp -implicitDefEqProofs [hP, w8, hSw', hS2', hSm', hml, hml2, hkl, hx6, hx7, n_id3_id2, n_id2_id3, n_wid_id3, n_id3_wid, n_wid_id2, n_id2_wid, n_mid_wid, n_wid_mid, n_mid_id3, n_id3_mid, n_mid_id2, n_id2_mid, hB2]))
            intro tk n_tk_mid h_tk
            have n_mid_tk : ¬ mid = tk := fun e => n_tk_mid e.symm
            match o, ho with
            | [o0, o1, o2, o3], _ =>
              have hS3 : σ3 id3 = some (.cells 30 [sV (nz o0), sV (nz o1), sV (nz o2), sV (nz o3), iw 0, iw 0]) := by rw [hs3, hs]; simp [n_id3_wid, n_id3_mid]
              have n_tk_id3 : ¬ tk = id3 := by rintro rfl; rw [hS3] at h_tk; cases h_tk
              have n_id3_tk : ¬ id3 = tk := fun e => n_tk_id3 e.symm
              have hset := fun σ => rset_ok (nz o0) (nz o1) (nz o2) (nz o3) (seg b xn yn, (seg b xn yn).isEmpty) (.tok tk) kn hk4 σ
              simp only [sV, sO] at hS3 hset
              have hL : ([o0, o1, o2, o3].set kn (seg b xn yn, false)).map nz = [nz o0, nz o1, nz o2, nz o3].set kn (seg b xn yn, (seg b xn yn).isEmpty) := by rw [List.map_set]; rfl
              obtain ⟨p0, p1, p2, p3, hL2⟩ := four_set (nz o0) (nz o1) (nz o2) (nz o3) (seg b xn yn, (seg b xn yn).isEmpty) hk4
              rw [hL2] at hL hset
              simp only [strV, List.map_cons, List.map_nil, sV] at hset
              repeat (first
                | (with_reducible first | apply AWp.seq | apply AWp.block | refine And.intro (by first | omega | assumption | decide) ?_)
                | ((first | (with_reducible first | apply AWp.fork | apply AWp.region | show condK _ _ _ | show guardK _ _ _ _ _ _ _ _ _) | ((with_reducible apply AWp.drawS (id := 24) (t := sc_11_24b_XStr5)); (exact mixed); kernel_rfl; kernel_rfl; (repeat (with_reducible first | apply PanQ.then | apply PanQ.block | apply PanQ.body | apply PanQ.no)))); simp -implicitDefEqProofs [hS3, n_id3_tk, n_id3_mid, w8, hx6, hx7, iw, n_id3_id2, n_id2_id3, n_wid_id3, n_id3_wid, n_wid_id2, n_id2_wid, n_mid_wid, n_wid_mid, n_mid_id3, n_id3_mid, n_mid_id2, n_id2_mid, hB2])
                | ((with_reducible first | apply AWp.ret | apply AWp.skip | apply AWp.exit); try simp -implicitDefEqProofs [hS3, n_id3_tk, n_id3_mid, w8, hx6, hx7, iw, n_id3_id2, n_id2_id3, n_wid_id3, n_id3_wid, n_wid_id2, n_id2_wid, n_mid_wid, n_wid_mid, n_mid_id3, n_id3_mid, n_mid_id2, n_id2_mid, hB2]))
              have hseg : List.drop xn (List.take ((xn : Int) + yn).toNat (List.map u8 b)) = (seg b xn yn).map u8 := by simp [seg, List.map_drop, List.map_take]
              rw [hseg, show ((seg b xn yn).map u8).isEmpty = (seg b xn yn).isEmpty by simp]
              refine aCall.gives (hset _) ?_
              simp -implicitDefEqProofs [hS3, n_id3_tk, n_id3_mid, n_id3_id2, n_id2_id3, n_wid_id3, n_id3_wid, n_wid_id2, n_id2_wid, n_mid_wid, n_wid_mid, n_mid_id3, n_id3_mid, n_mid_id2, n_id2_mid, hB2]
              repeat (first
                | (with_reducible first | apply AWp.seq | apply AWp.block | refine And.intro (by first | omega | assumption | decide) ?_)
                | ((first | (with_reducible first | apply AWp.fork | apply AWp.region | show condK _ _ _ | show guardK _ _ _ _ _ _ _ _ _) | ((with_reducible apply AWp.drawS (id := 24) (t := sc_11_24b_XStr5)); (exact mixed); kernel_rfl; kernel_rfl; (repeat (with_reducible first | apply PanQ.then | apply PanQ.block | apply PanQ.body | apply PanQ.no)))); simp -implicitDefEqProofs [hS3, n_id3_tk, n_id3_mid, n_id3_id2, n_id2_id3, n_wid_id3, n_id3_wid, n_wid_id2, n_id2_wid, n_mid_wid, n_wid_mid, n_mid_id3, n_id3_mid, n_mid_id2, n_id2_mid, hB2])
                | ((with_reducible first | apply AWp.ret | apply AWp.skip | apply AWp.exit); try simp -implicitDefEqProofs [hS3, n_id3_tk, n_id3_mid, n_id3_id2, n_id2_id3, n_wid_id3, n_id3_wid, n_wid_id2, n_id2_wid, n_mid_wid, n_wid_mid, n_mid_id3, n_id3_mid, n_mid_id2, n_id2_mid, hB2]))
              refine ⟨m - 1, _, _, by omega, FrWk.mk ?_, ?_, i + 1, M ++ [((kn : Int), (xn : Int), (xn : Int) + yn)], [o0, o1, o2, o3].set kn (seg b xn yn, false), W', by omega, by omega, by simp, hW', ?_, fun q => ?_, fun z hz => ?_, rfl, rfl⟩
              · simp [wInc (show i < 4000000000000000000 by omega)]
              · have n_tk_wid : ¬ tk = wid := by rintro rfl; rw [hSw'] at h_tk; cases h_tk
                have n_wid_tk : ¬ wid = tk := fun e => n_tk_wid e.symm
                have h_tk' : B tk = none := by rw [hs3, hs] at h_tk; simpa [AS.set, n_tk_wid, n_tk_mid, n_tk_id3] using h_tk
                rw [show AV.sc (Value.bool true) = bw true from rfl, cut_set hml, hL, ← metL_snoc hk4, List.map_set, hs3, hs]
                simp only [List.map_cons, List.map_nil, sV, List.cons_append, List.nil_append]
                intro j_ y_ hy_
                by_cases e_id3 : j_ = id3
                · subst e_id3; simp [AS.set, h_tk', n_tk_id3, n_id3_tk, n_tk_wid, n_wid_tk, n_tk_mid, n_mid_tk, n_id3_wid, n_wid_id3, n_id3_mid, n_mid_id3, n_wid_mid, n_mid_wid, n_id3_id2, n_id2_id3, n_wid_id3, n_id3_wid, n_wid_id2, n_id2_wid, n_mid_wid, n_wid_mid, n_mid_id3, n_id3_mid, n_mid_id2, n_id2_mid, hB2] at hy_ ⊢; try first | exact hy_ | (cases hy_; done)
                by_cases e_wid : j_ = wid
                · subst e_wid; simp [AS.set, h_tk', n_tk_id3, n_id3_tk, n_tk_wid, n_wid_tk, n_tk_mid, n_mid_tk, n_id3_wid, n_wid_id3, n_id3_mid, n_mid_id3, n_wid_mid, n_mid_wid, n_id3_id2, n_id2_id3, n_wid_id3, n_id3_wid, n_wid_id2, n_id2_wid, n_mid_wid, n_wid_mid, n_mid_id3, n_id3_mid, n_mid_id2, n_id2_mid, hB2] at hy_ ⊢; try first | exact hy_ | (cases hy_; done)
                by_cases e_mid : j_ = mid
                · subst e_mid; simp [AS.set, h_tk', n_tk_id3, n_id3_tk, n_tk_wid, n_wid_tk, n_tk_mid, n_mid_tk, n_id3_wid, n_wid_id3, n_id3_mid, n_mid_id3, n_wid_mid, n_mid_wid, n_id3_id2, n_id2_id3, n_wid_id3, n_id3_wid, n_wid_id2, n_id2_wid, n_mid_wid, n_wid_mid, n_mid_id3, n_id3_mid, n_mid_id2, n_id2_mid, hB2] at hy_ ⊢; try first | exact hy_ | (cases hy_; done)
                by_cases e_tk : j_ = tk
                · subst e_tk; simp [AS.set, h_tk', n_tk_id3, n_id3_tk, n_tk_wid, n_wid_tk, n_tk_mid, n_mid_tk, n_id3_wid, n_wid_id3, n_id3_mid, n_mid_id3, n_wid_mid, n_mid_wid, n_id3_id2, n_id2_id3, n_wid_id3, n_id3_wid, n_wid_id2, n_id2_wid, n_mid_wid, n_wid_mid, n_mid_id3, n_id3_mid, n_mid_id2, n_id2_mid, hB2] at hy_ ⊢; try first | exact hy_ | (cases hy_; done)
                simp [AS.set, h_tk', n_tk_id3, n_id3_tk, n_tk_wid, n_wid_tk, n_tk_mid, n_mid_tk, n_id3_wid, n_wid_id3, n_id3_mid, n_mid_id3, n_wid_mid, n_mid_wid, n_id3_id2, n_id2_id3, n_wid_id3, n_id3_wid, n_wid_id2, n_id2_wid, n_mid_wid, n_wid_mid, n_mid_id3, n_id3_mid, n_mid_id2, n_id2_mid, hB2, e_id3, e_wid, e_mid, e_tk] at hy_ ⊢; try exact hy_
              · rw [← hX, ← hc]
                rfl
              · rw [hWq q]
                constructor
                · intro h
                  by_cases hq : xn ≤ q ∧ q < xn + yn
                  · exact ⟨_, List.mem_append_right _ (List.mem_singleton.2 rfl), by show (xn : Int) ≤ q; omega, by show (q : Int) < xn + yn; omega⟩
                  · rw [if_neg hq] at h
                    obtain ⟨z, hz, z1⟩ := (hp q).1 h
                    exact ⟨z, List.mem_append_left _ hz, z1⟩
                · rintro ⟨z, hz, z1, z2⟩
                  by_cases hq : xn ≤ q ∧ q < xn + yn
                  · rw [if_pos hq]; omega
                  · rw [if_neg hq]
                    rcases List.mem_append.1 hz with hz | hz
                    · exact (hp q).2 ⟨z, hz, z1, z2⟩
                    · obtain rfl := List.mem_singleton.1 hz
                      exact absurd ⟨by simp only at z1; omega, by simp only at z2; omega⟩ hq
              · rcases List.mem_append.1 hz with hz | hz
                · exact hM z hz
                · obtain rfl := List.mem_singleton.1 hz
                  exact ⟨by omega, hx7⟩
      · have hI : ((i : Int) < 4) = False := by simp; omega
        obtain rfl : i = 4 := by omega
        simp only [Nat.sub_self, splitL] at hX
        match o, ho with
        | [o0, o1, o2, o3], _ =>
          have hS3 : σ' id3 = some (.cells 30 [sV (nz o0), sV (nz o1), sV (nz o2), sV (nz o3), iw 0, iw 0]) := by rw [hs]; simp [n_id3_wid, n_id3_mid]
          simp only [sV] at hS3
          repeat (first
            | (with_reducible first | apply AWp.seq | apply AWp.block | refine And.intro (by first | omega | assumption | decide) ?_)
            | ((first | (with_reducible first | apply AWp.fork | apply AWp.region | show condK _ _ _ | show guardK _ _ _ _ _ _ _ _ _) | ((with_reducible apply AWp.drawS (id := 24) (t := sc_11_24b_XStr5)); (exact mixed); kernel_rfl; kernel_rfl; (repeat (with_reducible first | apply PanQ.then | apply PanQ.block | apply PanQ.body | apply PanQ.no)))); simp -implicitDefEqProofs [hI, hS2, hS3, iw, n_id3_id2, n_id2_id3, n_wid_id3, n_id3_wid, n_wid_id2, n_id2_wid, n_mid_wid, n_wid_mid, n_mid_id3, n_id3_mid, n_mid_id2, n_id2_mid, hB2])
            | ((with_reducible first | apply AWp.ret | apply AWp.skip | apply AWp.exit); try simp -implicitDefEqProofs [hI, hS2, hS3, iw, n_id3_id2, n_id2_id3, n_wid_id3, n_id3_wid, n_wid_id2, n_id2_wid, n_mid_wid, n_wid_mid, n_mid_id3, n_id3_mid, n_mid_id2, n_id2_mid, hB2]))
          rw [← hX]
          refine ⟨Wk.refl _, ?_⟩
          refine le_S _ fun j a1 a2 a3 a4 y hy => ?_
          simp [AS.set, a1, hy]
    · rw [g1] at hN1
      repeat (first
        | (with_reducible first | apply AWp.seq | apply AWp.block | refine And.intro (by first | omega | assumption | decide) ?_)
        | ((first | (with_reducible first | apply AWp.fork | apply AWp.region | show condK _ _ _ | show guardK _ _ _ _ _ _ _ _ _) | ((with_reducible apply AWp.drawS (id := 24) (t := sc_11_24b_XStr5)); (exact mixed); kernel_rfl; kernel_rfl; (repeat (with_reducible first | apply PanQ.then | apply PanQ.block | apply PanQ.body | apply PanQ.no))) | ((with_reducible apply aCall.id); first | apply aCall.gives (hN1 _) | apply aCall.gives (hN2 _)) | ((with_reducible apply pureCall.id); first | apply pureCall.gives (fun _ => hN1 _) | apply pureCall.gives (fun _ => hN2 _))); simp -implicitDefEqProofs [h1', h2', h4, h44, h3', g2])
        | ((with_reducible first | apply AWp.ret | apply AWp.skip | apply AWp.exit); try simp -implicitDefEqProofs [h1', h2', h4, h44, h3', g2]))
      rw [splitS, if_neg (by omega), if_neg (by omega), if_neg (by simpa using h3), if_neg (by simpa using g1), if_pos g2]
      refine ⟨Wk_PV, ?_⟩
      all_goals (repeat (first | exact AS.le_refl _ | refine le_new (by simp [h_id2]) ?_))
  · repeat (first
      | (with_reducible first | apply AWp.seq | apply AWp.block | refine And.intro (by first | omega | assumption | decide) ?_)
      | ((first | (with_reducible first | apply AWp.fork | apply AWp.region | show condK _ _ _ | show guardK _ _ _ _ _ _ _ _ _) | ((with_reducible apply AWp.drawS (id := 24) (t := sc_11_24b_XStr5)); (exact mixed); kernel_rfl; kernel_rfl; (repeat (with_reducible first | apply PanQ.then | apply PanQ.block | apply PanQ.body | apply PanQ.no))) | ((with_reducible apply aCall.id); first | apply aCall.gives (hN1 _)) | ((with_reducible apply pureCall.id); first | apply pureCall.gives (fun _ => hN1 _))); simp -implicitDefEqProofs [h1', h2', h4, h44, h3', g1])
      | ((with_reducible first | apply AWp.ret | apply AWp.skip | apply AWp.exit); try simp -implicitDefEqProofs [h1', h2', h4, h44, h3', g1]))
    rw [splitS, if_neg (by omega), if_neg (by omega), if_neg (by simpa using h3), if_pos g1]
    refine ⟨Wk_PV, ?_⟩
    all_goals (repeat (first | exact AS.le_refl _ | refine le_new (by simp [h_id2]) ?_))

theorem rsplit_any (b : List UInt8) (own : Own) (nl : Bool) (hn : nl = true → b = []) (σ : AS) (hlen : b.length ≤ 140737488355328) :
    ACalls Try.prog 11 [.lst 5 (b.map u8) own nl] σ (Gives (PV (splitS b)) σ) No := by
  by_cases h : 65536 < b.length ∨ b.length < 56 ∨ b.take 4 ≠ CGRD
  · exact rsplit_bad b own nl hn σ hlen h
  · exact rsplit_ok b own nl hn σ hlen h

end Go.Proofs.Ythpmabablfkekaa
