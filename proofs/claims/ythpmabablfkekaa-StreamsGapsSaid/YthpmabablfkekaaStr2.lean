/- Chapter 03: an image is parted, by the program. -/
import Derived.Test.YthpmabablfkekaaStr1
set_option linter.unusedSimpArgs false
set_option linter.unusedVariables false
set_option maxRecDepth 100000
set_option maxHeartbeats 3200000
namespace Go.Proofs.Ythpmabablfkekaa
open Go Go.AW
abbrev sc_10_27_XStr2 : Sch := (Sch.step 0 (Sch.step 2 (Sch.step 3 (Sch.step 5 (Sch.pure 1 (Sch.read 4 (Sch.read 6 (Sch.step 7 (Sch.alt 8 (Sch.step 9 (Sch.alt 10 Sch.done Sch.none)) Sch.none)))))))))

abbrev Strs := List (List UInt8 × Bool)
def sV (x : List UInt8 × Bool) : AV := .lst 5 (x.1.map u8) .unk x.2
def E4 : Strs := [([], true), ([], true), ([], true), ([], true)]
def strV (o : Strs) : AV := .agg (o.map sV)
/-- What an image's entries, so many, from a place on, come to. -/
def splitL (b : List UInt8) : Nat → Nat → List (Int × Int × Int) → Strs → Strs × Int × Int
  | 0, _, _, o => (o, 0, 0)
  | m + 1, a, M, o =>
    if wrongS b.length M (tagK (seg b (a + 8) 4)) (numL (seg b a 4)) (numL (seg b a 4) + numL (seg b (a + 4) 4)) = 0 then
      splitL b m (a + 12) (M ++ [(tagK (seg b (a + 8) 4), numL (seg b a 4), numL (seg b a 4) + numL (seg b (a + 4) 4))]) (o.set (tagK (seg b (a + 8) 4)).toNat (seg b (numL (seg b a 4)) (numL (seg b (a + 4) 4)), false))
    else (E4, a, wrongS b.length M (tagK (seg b (a + 8) 4)) (numL (seg b a 4)) (numL (seg b a 4) + numL (seg b (a + 4) 4)))
def CGRD : List UInt8 := [67, 71, 82, 68]
def splitS (b : List UInt8) : Strs × Int × Int :=
  if 65536 < b.length then (E4, 0, 4) else if b.length < 56 then (E4, b.length, 1) else if b.take 4 ≠ CGRD then (E4, 0, 2)
  else if numL (seg b 4 2) ≠ 1 then (E4, 4, 2) else if numL (seg b 6 2) ≠ 4 then (E4, 6, 2) else splitL b 4 8 [] E4
def RS (x : Strs × Int × Int) : AV := .tup [strV x.1, .sc (.int .i64 x.2.1), .sc (.int .i64 x.2.2)]

theorem Wk_agg4 {P : Program} {a b c d a' b' c' d' : AV} (h1 : AV.Wk P a a') (h2 : AV.Wk P b b') (h3 : AV.Wk P c c') (h4 : AV.Wk P d d') : AV.Wk P (.agg [a, b, c, d]) (.agg [a', b', c', d']) := by
  intro G v h
  cases h with
  | agg vs l h =>
    refine .agg vs l fun i hi => ?_
    match i, hi with
    | 0, _ => exact h1 G _ (h 0 (by simp))
    | 1, _ => exact h2 G _ (h 1 (by simp))
    | 2, _ => exact h3 G _ (h 2 (by simp))
    | 3, _ => exact h4 G _ (h 3 (by simp))
theorem Wk_E4 {P : Program} : AV.Wk P (.agg [.nilS, .nilS, .nilS, .nilS]) (strV E4) := by
  refine Wk_agg4 ?_ ?_ ?_ ?_ <;> simp [sV]
theorem Wk_RS {P : Program} {x y : Int} : AV.Wk P (.tup [.agg [.nilS, .nilS, .nilS, .nilS], .sc (.int .i64 x), .sc (.int .i64 y)]) (RS (E4, x, y)) := Wk_tup3 Wk_E4 (Wk.refl _) (Wk.refl _)

theorem tagK_lt (t : List UInt8) : -1 ≤ tagK t ∧ tagK t < 4 := by
  unfold tagK
  repeat' split
  all_goals omega

theorem wrongS_ok {len k a e : Int} {M : List (Int × Int × Int)} (h : wrongS len M k a e = 0) : 0 ≤ k ∧ M.any (fun x => x.1 == k) = false ∧ 56 ≤ a ∧ a % 4 = 0 ∧ e ≤ len ∧ M.any (ov a e) = false := by
  unfold wrongS at h
  split at h
  · cases h
  rename_i h1
  split at h
  · cases h
  rename_i h2
  split at h
  · cases h
  rename_i h3
  split at h
  · cases h
  rename_i h4
  simp only [not_or, Bool.not_eq_true] at h1 h2 h4
  refine ⟨by omega, h1.2, by omega, by omega, by omega, h4⟩
theorem updI_mV {k a e : Int} {M : List (Int × Int × Int)} (h : M.any (fun x => x.1 == k) = false) : updI k (spV a e) (mV M) = mV (M ++ [(k, a, e)]) := by
  induction M with
  | nil => rfl
  | cons x M ih =>
    simp only [List.any_cons, Bool.or_eq_false_iff] at h
    have h1 : ¬ k = x.1 := by intro e; simp [e] at h
    have := ih h.2
    simp only [mV, List.map_cons, List.cons_append, updI] at this ⊢
    rw [if_neg h1, this]

theorem Wk_put {P : Program} {L : List AV} {k : Nat} {v v' : AV} (hk : k < L.length) (h : AV.Wk P v v') (j : Nat) : AV.Wk P ((L.take k ++ v :: L.drop (k + 1)).getD j .any) ((L.set k v').getD j .any) := by
  have e : L.take k ++ v :: L.drop (k + 1) = L.set k v := by rw [List.set_eq_take_append_cons_drop, if_pos hk]
  rw [e, List.getD_eq_getElem?_getD, List.getD_eq_getElem?_getD, List.getElem?_set, List.getElem?_set]
  by_cases hj : k = j
  · subst hj; simp [hk, h]
  · simp [hj]

def spA (b : List UInt8) (id2 rid : Nat) (v : AV) (B : AS) (m : Nat) (f : Fr) (σ' : AS) : Prop :=
  ∃ i : Nat, m = 2 - i ∧ i ≤ 2 ∧ (0 < i → numL (seg b 4 2) = 1) ∧ (1 < i → numL (seg b 6 2) = 4) ∧ σ' = B.set rid (rdC b ((4 + 2 * i : Nat) : Int) false) ∧
    f = mkF [(0, v), (2, .ptr id2 0), (5, .ptr rid 0), (39, .agg [.sc (.int .u64 1), .sc (.int .u64 4)]), (40, .sc (.int .i64 i))]

def spB (b : List UInt8) (id2 rid mid oid : Nat) (v : AV) (X : Strs × Int × Int) (B : AS) (m : Nat) (f : Fr) (σ' : AS) : Prop :=
  ∃ (i : Nat) (M : List (Int × Int × Int)) (o : Strs), m = 4 - i ∧ i ≤ 4 ∧ o.length = 4 ∧ splitL b (4 - i) (8 + 12 * i) M o = X ∧
    σ' = ((B.set rid (rdC b ((8 + 12 * i : Nat) : Int) false)).set mid (.map (ikvs (mV M)))).set oid (.cells 54 (o.map sV)) ∧
    f = mkF [(0, v), (2, .ptr id2 0), (5, .ptr rid 0), (11, .mp mid), (12, .ptr oid 0), (57, .sc (.int .i64 i))]


theorem split_ok (b : List UInt8) (own : Own) (nl : Bool) (hn : nl = true → b = []) (σ : AS) (hlen : b.length ≤ 140737488355328) :
    ACalls Try.prog 10 [.lst 5 (b.map u8) own nl] σ (Gives (RS (splitS b)) σ) No := by
  refine ACalls.of_body Try.func10 rfl rfl (by simp [Try.ntmps10]) ?_
  by_cases h1 : 65536 < b.length
  · have h1' : (65536 < (b.length : Int)) = True := by simp; omega
    repeat (first
      | (with_reducible first | apply AWp.seq | apply AWp.block | refine And.intro (by first | omega | assumption | decide) ?_)
      | ((first | (with_reducible first | apply AWp.fork | apply AWp.region | show condK _ _ _ | show guardK _ _ _ _ _ _ _ _ _) | ((with_reducible apply AWp.drawS (id := 27) (t := sc_10_27_XStr2)); (exact mixed); kernel_rfl; kernel_rfl; (repeat (with_reducible first | apply PanQ.then | apply PanQ.block | apply PanQ.body | apply PanQ.no)))); simp -implicitDefEqProofs [h1'])
      | ((with_reducible first | apply AWp.ret | apply AWp.skip | apply AWp.exit); try simp -implicitDefEqProofs [h1']))
    intro id2 h_id2
    repeat (first
      | (with_reducible first | apply AWp.seq | apply AWp.block | refine And.intro (by first | omega | assumption | decide) ?_)
      | ((first | (with_reducible first | apply AWp.fork | apply AWp.region | show condK _ _ _ | show guardK _ _ _ _ _ _ _ _ _) | ((with_reducible apply AWp.drawS (id := 27) (t := sc_10_27_XStr2)); (exact mixed); kernel_rfl; kernel_rfl; (repeat (with_reducible first | apply PanQ.then | apply PanQ.block | apply PanQ.body | apply PanQ.no)))); simp -implicitDefEqProofs [h1'])
      | ((with_reducible first | apply AWp.ret | apply AWp.skip | apply AWp.exit); try simp -implicitDefEqProofs [h1']))
    rw [splitS, if_pos h1]
    refine ⟨Wk_RS, ?_⟩
    all_goals (repeat (first | exact AS.le_refl _ | refine le_new (by simp [h_id2]) ?_))
  have h1' : (65536 < (b.length : Int)) = False := by simp; omega
  by_cases h2 : b.length < 56
  · have h2' : ((b.length : Int) < 56) = True := by simp; omega
    repeat (first
      | (with_reducible first | apply AWp.seq | apply AWp.block | refine And.intro (by first | omega | assumption | decide) ?_)
      | ((first | (with_reducible first | apply AWp.fork | apply AWp.region | show condK _ _ _ | show guardK _ _ _ _ _ _ _ _ _) | ((with_reducible apply AWp.drawS (id := 27) (t := sc_10_27_XStr2)); (exact mixed); kernel_rfl; kernel_rfl; (repeat (with_reducible first | apply PanQ.then | apply PanQ.block | apply PanQ.body | apply PanQ.no)))); simp -implicitDefEqProofs [h1', h2'])
      | ((with_reducible first | apply AWp.ret | apply AWp.skip | apply AWp.exit); try simp -implicitDefEqProofs [h1', h2']))
    intro id2 h_id2
    repeat (first
      | (with_reducible first | apply AWp.seq | apply AWp.block | refine And.intro (by first | omega | assumption | decide) ?_)
      | ((first | (with_reducible first | apply AWp.fork | apply AWp.region | show condK _ _ _ | show guardK _ _ _ _ _ _ _ _ _) | ((with_reducible apply AWp.drawS (id := 27) (t := sc_10_27_XStr2)); (exact mixed); kernel_rfl; kernel_rfl; (repeat (with_reducible first | apply PanQ.then | apply PanQ.block | apply PanQ.body | apply PanQ.no)))); simp -implicitDefEqProofs [h1', h2'])
      | ((with_reducible first | apply AWp.ret | apply AWp.skip | apply AWp.exit); try simp -implicitDefEqProofs [h1', h2']))
    rw [splitS, if_neg h1, if_pos h2]
    refine ⟨Wk_RS, ?_⟩
    all_goals (repeat (first | exact AS.le_refl _ | refine le_new (by simp [h_id2]) ?_))
  have h2' : ((b.length : Int) < 56) = False := by simp; omega
  have hnl : nl = false := by
    cases nl with
    | false => rfl
    | true => rw [hn rfl] at h2; simp at h2
  subst hnl
  have h4 : allU8 (List.take 4 (b.map u8)) = some (b.take 4) := by rw [← List.map_take]; exact allU8_map _
  have h44 : (4 : Int) ≤ b.length := by omega
  by_cases h3 : b.take 4 = CGRD
  · have h3' : ((b.take 4) = [67, 71, 82, 68]) = True := by simp [h3, CGRD]
    repeat (first
      | (with_reducible first | apply AWp.seq | apply AWp.block | refine And.intro (by first | omega | assumption | decide) ?_)
      | ((first | (with_reducible first | apply AWp.fork | apply AWp.region | show condK _ _ _ | show guardK _ _ _ _ _ _ _ _ _) | ((with_reducible apply AWp.drawS (id := 27) (t := sc_10_27_XStr2)); (exact mixed); kernel_rfl; kernel_rfl; (repeat (with_reducible first | apply PanQ.then | apply PanQ.block | apply PanQ.body | apply PanQ.no)))); simp -implicitDefEqProofs [h1', h2', h4, h44, h3'])
      | ((with_reducible first | apply AWp.ret | apply AWp.skip | apply AWp.exit); try simp -implicitDefEqProofs [h1', h2', h4, h44, h3']))
    intro id2 h_id2
    repeat (first
      | (with_reducible first | apply AWp.seq | apply AWp.block | refine And.intro (by first | omega | assumption | decide) ?_)
      | ((first | (with_reducible first | apply AWp.fork | apply AWp.region | show condK _ _ _ | show guardK _ _ _ _ _ _ _ _ _) | ((with_reducible apply AWp.drawS (id := 27) (t := sc_10_27_XStr2)); (exact mixed); kernel_rfl; kernel_rfl; (repeat (with_reducible first | apply PanQ.then | apply PanQ.block | apply PanQ.body | apply PanQ.no)))); simp -implicitDefEqProofs [h1', h2', h4, h44, h3'])
      | ((with_reducible first | apply AWp.ret | apply AWp.skip | apply AWp.exit); try simp -implicitDefEqProofs [h1', h2', h4, h44, h3']))
    refine aCall.of (new_ok b own false hn hlen _) ?_ (fun _ _ h => h.elim)
    rintro r σ1 ⟨rid, h_rid, rfl, rfl⟩
    have n_rid_id2 : ¬ rid = id2 := by rintro rfl; simp at h_rid
    have n_id2_rid : ¬ id2 = rid := fun e => n_rid_id2 e.symm
    have h_rid : σ rid = none := by simpa [AS.set, n_rid_id2] using h_rid
    simp -implicitDefEqProofs [n_rid_id2, n_id2_rid]
    repeat (first
      | (with_reducible first | apply AWp.seq | apply AWp.block | refine And.intro (by first | omega | assumption | decide) ?_)
      | ((first | (with_reducible first | apply AWp.fork | apply AWp.region | show condK _ _ _ | show guardK _ _ _ _ _ _ _ _ _) | ((with_reducible apply AWp.drawS (id := 27) (t := sc_10_27_XStr2)); (exact mixed); kernel_rfl; kernel_rfl; (repeat (with_reducible first | apply PanQ.then | apply PanQ.block | apply PanQ.body | apply PanQ.no)))); simp -implicitDefEqProofs [n_rid_id2, n_id2_rid])
      | ((with_reducible first | apply AWp.ret | apply AWp.skip | apply AWp.exit); try simp -implicitDefEqProofs [n_rid_id2, n_id2_rid]))
    refine aCall.gives (skip_ok rid b 0 4 false _ (by simp) (by omega) (by omega) hlen (by omega) (by omega)) ?_
    simp -implicitDefEqProofs [n_rid_id2, n_id2_rid]
    obtain ⟨B, B_s, hB2, eq_B, le_B⟩ : ∃ B : AS, (σ.set id2 (.cells 25 [.nilS, .nilS, .nilS, .nilS])) = B ∧ B id2 = some (.cells 25 [.nilS, .nilS, .nilS, .nilS]) ∧ (∀ j, j ≠ id2 → B j = σ j) ∧ (∀ S' : AS, (∀ j, j ≠ id2 → ∀ y, B j = some y → S' j = some y) → AS.le σ S') := by
      refine ⟨_, rfl, by simp [], ?_, ?_⟩
      · intro j e_id2; simp [AS.set, e_id2]
      intro S' h j x hj
      have e_id2 : j ≠ id2 := by rintro rfl; rw [h_id2] at hj; cases hj
      exact h j e_id2 x (by simp [AS.set, e_id2, hj])
    simp only [B_s]
    clear B_s
    have hBr : B rid = none := by rw [eq_B rid n_rid_id2]; exact h_rid
    repeat (first
      | (with_reducible first | apply AWp.seq | apply AWp.block | refine And.intro (by first | omega | assumption | decide) ?_)
      | ((first | (with_reducible first | apply AWp.fork | apply AWp.region | show condK _ _ _ | show guardK _ _ _ _ _ _ _ _ _) | ((with_reducible apply AWp.drawS (id := 27) (t := sc_10_27_XStr2)); (exact mixed); kernel_rfl; kernel_rfl; (repeat (with_reducible first | apply PanQ.then | apply PanQ.block | apply PanQ.body | apply PanQ.no)))); simp -implicitDefEqProofs [n_rid_id2, n_id2_rid, hB2])
      | ((with_reducible first | apply AWp.ret | apply AWp.skip | apply AWp.exit); try simp -implicitDefEqProofs [n_rid_id2, n_id2_rid, hB2]))
    refine AWp.loopI (spA b id2 rid (.lst 5 (b.map u8) own false) B) (k0 := 2) ⟨0, rfl, by omega, by omega, by omega, rfl, rfl⟩ (FrWk.mk (by simp)) ?_ ?_
    · simp
    rintro m f σ' ⟨i, hm, hi, g1, g2, hs, rfl⟩
    have hSr : σ' rid = some (rdC b ((4 + 2 * i : Nat) : Int) false) := by rw [hs]; simp
    have hS2 : σ' id2 = some (.cells 25 [.nilS, .nilS, .nilS, .nilS]) := by rw [hs]; simp [n_id2_rid, hB2]
    by_cases hlt : i < 2
    · obtain rfl | rfl : i = 0 ∨ i = 1 := by omega
      · have hSr : σ' rid = some (rdC b 4 false) := by rw [hs]; simp
        have hat := at_ok rid b 4 false σ' hSr
        have hnum := num_ok rid b 4 2 false σ' hSr (by omega) (by omega) hlen rfl (by omega)
        by_cases hc : numL (seg b 4 2) = 1
        · repeat (first
            | (with_reducible first | apply AWp.seq | apply AWp.block | refine And.intro (by first | omega | assumption | decide) ?_)
            | ((first | (with_reducible first | apply AWp.fork | apply AWp.region | show condK _ _ _ | show guardK _ _ _ _ _ _ _ _ _) | ((with_reducible apply AWp.drawS (id := 27) (t := sc_10_27_XStr2)); (exact mixed); kernel_rfl; kernel_rfl; (repeat (with_reducible first | apply PanQ.then | apply PanQ.block | apply PanQ.body | apply PanQ.no))) | ((with_reducible apply aCall.id); first | apply aCall.gives (hat) | apply aCall.gives (hnum)) | ((with_reducible apply pureCall.id); first | apply pureCall.gives (fun _ => hat) | apply pureCall.gives (fun _ => hnum))); simp -implicitDefEqProofs [hSr, hS2, hc, n_rid_id2, n_id2_rid, hB2])
            | ((with_reducible first | apply AWp.ret | apply AWp.skip | apply AWp.exit); try simp -implicitDefEqProofs [hSr, hS2, hc, n_rid_id2, n_id2_rid, hB2]))
          refine ⟨m - 1, _, _, by omega, FrWk.mk (by simp), ?_, 1, by omega, by omega, fun _ => hc, by omega, rfl, rfl⟩
          rw [hs]
          simp
        · repeat (first
            | (with_reducible first | apply AWp.seq | apply AWp.block | refine And.intro (by first | omega | assumption | decide) ?_)
            | ((first | (with_reducible first | apply AWp.fork | apply AWp.region | show condK _ _ _ | show guardK _ _ _ _ _ _ _ _ _) | ((with_reducible apply AWp.drawS (id := 27) (t := sc_10_27_XStr2)); (exact mixed); kernel_rfl; kernel_rfl; (repeat (with_reducible first | apply PanQ.then | apply PanQ.block | apply PanQ.body | apply PanQ.no))) | ((with_reducible apply aCall.id); first | apply aCall.gives (hat) | apply aCall.gives (hnum)) | ((with_reducible apply pureCall.id); first | apply pureCall.gives (fun _ => hat) | apply pureCall.gives (fun _ => hnum))); simp -implicitDefEqProofs [hSr, hS2, hc, n_rid_id2, n_id2_rid, hB2])
            | ((with_reducible first | apply AWp.ret | apply AWp.skip | apply AWp.exit); try simp -implicitDefEqProofs [hSr, hS2, hc, n_rid_id2, n_id2_rid, hB2]))
          rw [splitS, if_neg h1, if_neg h2, if_neg (by simpa using h3), if_pos hc]
          refine ⟨Wk_RS, ?_⟩
          rw [hs]
          intro j_ y_ hy_
          by_cases e_id2 : j_ = id2
          · subst e_id2; simp [AS.set, h_id2, h_rid, n_rid_id2, n_id2_rid, hB2] at hy_ ⊢; try first | exact hy_ | (cases hy_; done)
          by_cases e_rid : j_ = rid
          · subst e_rid; simp [AS.set, h_id2, h_rid, n_rid_id2, n_id2_rid, hB2] at hy_ ⊢; try first | exact hy_ | (cases hy_; done)
          simp [AS.set, h_id2, h_rid, n_rid_id2, n_id2_rid, hB2, e_id2, e_rid] at hy_ ⊢; try exact hy_
          exact eq_B _ (by assumption) ▸ hy_
      · have hSr : σ' rid = some (rdC b 6 false) := by rw [hs]; simp
        have g1 := g1 (by omega)
        have hat := at_ok rid b 6 false σ' hSr
        have hnum := num_ok rid b 6 2 false σ' hSr (by omega) (by omega) hlen rfl (by omega)
        by_cases hc : numL (seg b 6 2) = 4
        · repeat (first
            | (with_reducible first | apply AWp.seq | apply AWp.block | refine And.intro (by first | omega | assumption | decide) ?_)
            | ((first | (with_reducible first | apply AWp.fork | apply AWp.region | show condK _ _ _ | show guardK _ _ _ _ _ _ _ _ _) | ((with_reducible apply AWp.drawS (id := 27) (t := sc_10_27_XStr2)); (exact mixed); kernel_rfl; kernel_rfl; (repeat (with_reducible first | apply PanQ.then | apply PanQ.block | apply PanQ.body | apply PanQ.no))) | ((with_reducible apply aCall.id); first | apply aCall.gives (hat) | apply aCall.gives (hnum)) | ((with_reducible apply pureCall.id); first | apply pureCall.gives (fun _ => hat) | apply pureCall.gives (fun _ => hnum))); simp -implicitDefEqProofs [hSr, hS2, hc, n_rid_id2, n_id2_rid, hB2])
            | ((with_reducible first | apply AWp.ret | apply AWp.skip | apply AWp.exit); try simp -implicitDefEqProofs [hSr, hS2, hc, n_rid_id2, n_id2_rid, hB2]))
          refine ⟨m - 1, _, _, by omega, FrWk.mk (by simp), ?_, 2, by omega, by omega, fun _ => g1, fun _ => hc, rfl, rfl⟩
          rw [hs]
          simp
        · repeat (first
            | (with_reducible first | apply AWp.seq | apply AWp.block | refine And.intro (by first | omega | assumption | decide) ?_)
            | ((first | (with_reducible first | apply AWp.fork | apply AWp.region | show condK _ _ _ | show guardK _ _ _ _ _ _ _ _ _) | ((with_reducible apply AWp.drawS (id := 27) (t := sc_10_27_XStr2)); (exact mixed); kernel_rfl; kernel_rfl; (repeat (with_reducible first | apply PanQ.then | apply PanQ.block | apply PanQ.body | apply PanQ.no))) | ((with_reducible apply aCall.id); first | apply aCall.gives (hat) | apply aCall.gives (hnum)) | ((with_reducible apply pureCall.id); first | apply pureCall.gives (fun _ => hat) | apply pureCall.gives (fun _ => hnum))); simp -implicitDefEqProofs [hSr, hS2, hc, n_rid_id2, n_id2_rid, hB2])
            | ((with_reducible first | apply AWp.ret | apply AWp.skip | apply AWp.exit); try simp -implicitDefEqProofs [hSr, hS2, hc, n_rid_id2, n_id2_rid, hB2]))
          rw [splitS, if_neg h1, if_neg h2, if_neg (by simpa using h3), if_neg (by simpa using g1), if_pos hc]
          refine ⟨Wk_RS, ?_⟩
          rw [hs]
          intro j_ y_ hy_
          by_cases e_id2 : j_ = id2
          · subst e_id2; simp [AS.set, h_id2, h_rid, n_rid_id2, n_id2_rid, hB2] at hy_ ⊢; try first | exact hy_ | (cases hy_; done)
          by_cases e_rid : j_ = rid
          · subst e_rid; simp [AS.set, h_id2, h_rid, n_rid_id2, n_id2_rid, hB2] at hy_ ⊢; try first | exact hy_ | (cases hy_; done)
          simp [AS.set, h_id2, h_rid, n_rid_id2, n_id2_rid, hB2, e_id2, e_rid] at hy_ ⊢; try exact hy_
          exact eq_B _ (by assumption) ▸ hy_
    · have hI : ((i : Int) < 2) = False := by simp; omega
      obtain rfl : i = 2 := by omega
      have g1 := g1 (by omega)
      have g2 := g2 (by omega)
      have hX : splitS b = splitL b 4 8 [] E4 := by rw [splitS, if_neg h1, if_neg h2, if_neg (by simpa using h3), if_neg (by simpa using g1), if_neg (by simpa using g2)]
      rw [hX]
      have hSr : σ' rid = some (rdC b 8 false) := by rw [hs]; simp
      have hleS : AS.le σ σ' := by
        rw [hs]
        exact le_B _ fun j hj y hy => by
          have : j ≠ rid := by rintro rfl; rw [hBr] at hy; cases hy
          simpa [AS.set, this] using hy
      clear hs
      repeat (first
        | (with_reducible first | apply AWp.seq | apply AWp.block | refine And.intro (by first | omega | assumption | decide) ?_)
        | ((first | (with_reducible first | apply AWp.fork | apply AWp.region | show condK _ _ _ | show guardK _ _ _ _ _ _ _ _ _) | ((with_reducible apply AWp.drawS (id := 27) (t := sc_10_27_XStr2)); (exact mixed); kernel_rfl; kernel_rfl; (repeat (with_reducible first | apply PanQ.then | apply PanQ.block | apply PanQ.body | apply PanQ.no)))); simp -implicitDefEqProofs [hI, hSr, hS2, n_rid_id2, n_id2_rid, hB2])
        | ((with_reducible first | apply AWp.ret | apply AWp.skip | apply AWp.exit); try simp -implicitDefEqProofs [hI, hSr, hS2, n_rid_id2, n_id2_rid, hB2]))
      intro mid h_mid
      have n_rid_mid : ¬ rid = mid := by rintro rfl; rw [hSr] at h_mid; cases h_mid
      have n_mid_rid : ¬ mid = rid := fun e => n_rid_mid e.symm
      have n_id2_mid : ¬ id2 = mid := by rintro rfl; rw [hS2] at h_mid; cases h_mid
      have n_mid_id2 : ¬ mid = id2 := fun e => n_id2_mid e.symm
      simp -implicitDefEqProofs [n_rid_id2, n_id2_rid, hB2, n_mid_rid, n_rid_mid, hSr, n_mid_id2, n_id2_mid, hS2]
      repeat (first
        | (with_reducible first | apply AWp.seq | apply AWp.block | refine And.intro (by first | omega | assumption | decide) ?_)
        | ((first | (with_reducible first | apply AWp.fork | apply AWp.region | show condK _ _ _ | show guardK _ _ _ _ _ _ _ _ _) | ((with_reducible apply AWp.drawS (id := 27) (t := sc_10_27_XStr2)); (exact mixed); kernel_rfl; kernel_rfl; (repeat (with_reducible first | apply PanQ.then | apply PanQ.block | apply PanQ.body | apply PanQ.no)))); simp -implicitDefEqProofs [n_rid_id2, n_id2_rid, hB2, n_mid_rid, n_rid_mid, hSr, n_mid_id2, n_id2_mid, hS2])
        | ((with_reducible first | apply AWp.ret | apply AWp.skip | apply AWp.exit); try simp -implicitDefEqProofs [n_rid_id2, n_id2_rid, hB2, n_mid_rid, n_rid_mid, hSr, n_mid_id2, n_id2_mid, hS2]))
      intro oid n_oid_mid h_oid
      have n_rid_oid : ¬ rid = oid := by rintro rfl; rw [hSr] at h_oid; cases h_oid
      have n_oid_rid : ¬ oid = rid := fun e => n_rid_oid e.symm
      have n_id2_oid : ¬ id2 = oid := by rintro rfl; rw [hS2] at h_oid; cases h_oid
      have n_oid_id2 : ¬ oid = id2 := fun e => n_id2_oid e.symm
      have n_mid_oid : ¬ mid = oid := fun e => n_oid_mid e.symm
      refine AWp.wkC oid (E4.map sV) (by simp [n_oid_mid]; exact ⟨rfl, rfl⟩) (by simp [E4]) (fun k hk => ?_) ?_
      · match k, hk with
        | 0, _ => simp [E4, sV]
        | 1, _ => simp [E4, sV]
        | 2, _ => simp [E4, sV]
        | 3, _ => simp [E4, sV]
      simp -implicitDefEqProofs [n_rid_id2, n_id2_rid, hB2, n_mid_rid, n_rid_mid, hSr, n_mid_id2, n_id2_mid, hS2, n_oid_rid, n_rid_oid, n_oid_id2, n_id2_oid]
      repeat (first
        | (with_reducible first | apply AWp.seq | apply AWp.block | refine And.intro (by first | omega | assumption | decide) ?_)
        | ((first | (with_reducible first | apply AWp.fork | apply AWp.region | show condK _ _ _ | show guardK _ _ _ _ _ _ _ _ _) | ((with_reducible apply AWp.drawS (id := 27) (t := sc_10_27_XStr2)); (exact mixed); kernel_rfl; kernel_rfl; (repeat (with_reducible first | apply PanQ.then | apply PanQ.block | apply PanQ.body | apply PanQ.no)))); simp -implicitDefEqProofs [n_rid_id2, n_id2_rid, hB2, n_mid_rid, n_rid_mid, hSr, n_mid_id2, n_id2_mid, hS2, n_oid_rid, n_rid_oid, n_oid_id2, n_id2_oid])
        | ((with_reducible first | apply AWp.ret | apply AWp.skip | apply AWp.exit); try simp -implicitDefEqProofs [n_rid_id2, n_id2_rid, hB2, n_mid_rid, n_rid_mid, hSr, n_mid_id2, n_id2_mid, hS2, n_oid_rid, n_rid_oid, n_oid_id2, n_id2_oid]))
      generalize hX1 : splitL b 4 8 [] E4 = X
      refine AWp.loopI (spB b id2 rid mid oid (.lst 5 (b.map u8) own false) X σ') (k0 := 4) ⟨0, [], E4, rfl, by omega, rfl, hX1, rfl, rfl⟩ (FrWk.mk (by simp)) ?_ ?_
      · intro j y hj
        by_cases ej : j = rid
        · subst ej
          have hy : rdC b 8 false = y := by simpa [AS.set, n_rid_mid, n_rid_oid] using hj
          simp [AS.set, n_rid_mid, n_rid_oid, hSr, hy]
        · simpa [AS.set, ej, ikvs, mV] using hj
      rintro m f σ2 ⟨i, M, o, hm, hi, ho, hX, hs, rfl⟩
      have le_S : ∀ S : AS, (∀ j, j ≠ id2 → j ≠ rid → j ≠ mid → j ≠ oid → ∀ y, σ2 j = some y → S j = some y) → AS.le σ S := by
        intro S h j y hj
        have hj' := hleS j y hj
        have a1 : j ≠ id2 := by rintro rfl; rw [h_id2] at hj; cases hj
        have a2 : j ≠ rid := by rintro rfl; rw [h_rid] at hj; cases hj
        have a3 : j ≠ mid := by rintro rfl; rw [h_mid] at hj'; cases hj'
        have a4 : j ≠ oid := by rintro rfl; rw [h_oid] at hj'; cases hj'
        refine h j a1 a2 a3 a4 y ?_
        rw [hs]
        simp [AS.set, a2, a3, a4, hj']
      clear hX1
      generalize hc : 8 + 12 * i = c at hX hs
      generalize hv : AV.lst 5 (b.map u8) own false = bv
      have gR : σ2 rid = some (rdC b c false) := by rw [hs]; simp [n_rid_mid, n_rid_oid]
      have gM : σ2 mid = some (.map (ikvs (mV M))) := by rw [hs]; simp [n_mid_oid]
      have gO : σ2 oid = some (.cells 54 (o.map sV)) := by rw [hs]; simp
      have g2 : σ2 id2 = some (.cells 25 [.nilS, .nilS, .nilS, .nilS]) := by rw [hs]; simp [n_id2_mid, n_id2_oid, n_id2_rid, hS2]
      by_cases hlt : i < 4
      · have hI : ((i : Int) < 4) = True := by simp; omega
        have hat := at_ok rid b c false σ2 gR
        have hent := entry_ok rid b c false σ2 (by simp) gR (by omega) (by omega) hlen
        rw [show 4 - i = (4 - (i + 1)) + 1 by omega, splitL] at hX
        have e0 : 0 ≤ numL (seg b c 4) := numL_nonneg _
        have e1 : 0 ≤ numL (seg b (c + 4) 4) := numL_nonneg _
        have e2 := tagK_lt (seg b (c + 8) 4)
        generalize numL (seg b c 4) = x at hent hX e0
        generalize numL (seg b (c + 4) 4) = y at hent hX e1
        generalize tagK (seg b (c + 8) 4) = k at hent hX e2
        simp only [spV] at hent
        have hwr := fun σ h => wrong_ok mid k x (x + y) b.length M σ e0 h
        simp only [spV] at hwr
        repeat (first
          | (with_reducible first | apply AWp.seq | apply AWp.block | refine And.intro (by first | omega | assumption | decide) ?_)
          | ((first | (with_reducible first | apply AWp.fork | apply AWp.region | show condK _ _ _ | show guardK _ _ _ _ _ _ _ _ _) | ((with_reducible apply AWp.drawS (id := 27) (t := sc_10_27_XStr2)); (exact mixed); kernel_rfl; kernel_rfl; (repeat (with_reducible first | apply PanQ.then | apply PanQ.block | apply PanQ.body | apply PanQ.no))) | ((with_reducible apply aCall.id); first | apply aCall.gives (hat) | apply aCall.gives (hent)) | ((with_reducible apply pureCall.id); first | apply pureCall.gives (fun _ => hat) | apply pureCall.gives (fun _ => hent))); simp -implicitDefEqProofs [hI, gR, g2, n_rid_id2, n_id2_rid, hB2, n_mid_rid, n_rid_mid, hSr, n_mid_id2, n_id2_mid, hS2, n_oid_rid, n_rid_oid, n_oid_id2, n_id2_oid])
          | ((with_reducible first | apply AWp.ret | apply AWp.skip | apply AWp.exit); try simp -implicitDefEqProofs [hI, gR, g2, n_rid_id2, n_id2_rid, hB2, n_mid_rid, n_rid_mid, hSr, n_mid_id2, n_id2_mid, hS2, n_oid_rid, n_rid_oid, n_oid_id2, n_id2_oid]))
        intro id15 n15 h15
        have n_id2_id15 : ¬ id2 = id15 := by rintro rfl; rw [g2] at h15; cases h15
        have n_id15_id2 : ¬ id15 = id2 := fun e => n_id2_id15 e.symm
        have n_mid_id15 : ¬ mid = id15 := by rintro rfl; rw [gM] at h15; cases h15
        have n_id15_mid : ¬ id15 = mid := fun e => n_mid_id15 e.symm
        have n_oid_id15 : ¬ oid = id15 := by rintro rfl; rw [gO] at h15; cases h15
        have n_id15_oid : ¬ id15 = oid := fun e => n_oid_id15 e.symm
        have n_rid_id15 : ¬ rid = id15 := by rintro rfl; rw [gR] at h15; cases h15
        have n_id15_rid : ¬ id15 = rid := fun e => n_rid_id15 e.symm
        by_cases hw : wrongS b.length M k x (x + y) = 0
        · rw [if_pos hw] at hX
          rw [hw] at hwr
          repeat (first
            | (with_reducible first | apply AWp.seq | apply AWp.block | refine And.intro (by first | omega | assumption | decide) ?_)
            | ((first | (with_reducible first | apply AWp.fork | ((fail_if_success (apply AWp.region (id := 26))); apply AWp.region) | show condK _ _ _ | show guardK _ _ _ _ _ _ _ _ _) | ((with_reducible apply AWp.drawS (id := 27) (t := sc_10_27_XStr2)); (exact mixed); kernel_rfl; kernel_rfl; (repeat (with_reducible first | apply PanQ.then | apply PanQ.block | apply PanQ.body | apply PanQ.no))) | ((with_reducible apply aCall.id); first | apply aCall.gives (hwr _ (by simp [AS.set, n_mid_id15, n_mid_rid, gM]))) | ((with_reducible apply pureCall.id); first | apply pureCall.gives (fun _ => hwr _ (by simp [AS.set, n_mid_id15, n_mid_rid, gM])))); simp -implicitDefEqProofs [← hv, n_rid_id2, n_id2_rid, hB2, n_mid_rid, n_rid_mid, hSr, n_mid_id2, n_id2_mid, hS2, n_oid_rid, n_rid_oid, n_oid_id2, n_id2_oid, n_id15_id2, n_id2_id15, g2, n_id15_mid, n_mid_id15, gM, n_id15_oid, n_oid_id15, gO, n_id15_rid, n_rid_id15, gR])
            | ((with_reducible first | apply AWp.ret | apply AWp.skip | apply AWp.exit); try simp -implicitDefEqProofs [← hv, n_rid_id2, n_id2_rid, hB2, n_mid_rid, n_rid_mid, hSr, n_mid_id2, n_id2_mid, hS2, n_oid_rid, n_rid_oid, n_oid_id2, n_id2_oid, n_id15_id2, n_id2_id15, g2, n_id15_mid, n_mid_id15, gM, n_id15_oid, n_oid_id15, gO, n_id15_rid, n_rid_id15, gR]))
          with_reducible apply AWp.regionS
          refine sOps.first 3 ?_
          simp -implicitDefEqProofs [← hv]
          refine sOps.sp rfl (SOp.mapUpdateI mid k (mV M) Try.underlying53 Try.underlying3 (by simp) (by simp) (by simp [n_mid_id15, n_mid_rid, gM]) ?_)
          refine sOps.rest ?_
          simp -implicitDefEqProofs [← hv]
          obtain ⟨w1, w2, w3, w4, w5, w6⟩ := wrongS_ok hw
          obtain ⟨kn, rfl⟩ := Int.eq_ofNat_of_zero_le w1
          have hk4 : kn < 4 := by omega
          have hu := updI_mV (a := x) (e := x + y) w2
          simp only [spV] at hu
          rw [hu]
          generalize hBv : AV.lst 5 (b.map u8) own false = bv
          have hk5 : 0 ≤ x := e0
          have hk6 : x ≤ x + y := by omega
          repeat (first
            | (with_reducible first | apply AWp.seq | apply AWp.block | refine And.intro (by first | omega | assumption | decide) ?_)
            | ((first | (with_reducible first | apply AWp.fork | apply AWp.region | show condK _ _ _ | show guardK _ _ _ _ _ _ _ _ _) | ((with_reducible apply AWp.drawS (id := 27) (t := sc_10_27_XStr2)); (exact mixed); kernel_rfl; kernel_rfl; (repeat (with_reducible first | apply PanQ.then | apply PanQ.block | apply PanQ.body | apply PanQ.no))) | ((with_reducible apply aCall.id); first | apply aCall.gives (pick_ok oid kn hk4 _)) | ((with_reducible apply pureCall.id); first | apply pureCall.gives (fun _ => pick_ok oid kn hk4 _))); simp -implicitDefEqProofs [hk5, hk6, w5, ← hBv, n_rid_id2, n_id2_rid, hB2, n_mid_rid, n_rid_mid, hSr, n_mid_id2, n_id2_mid, hS2, n_oid_rid, n_rid_oid, n_oid_id2, n_id2_oid, n_id15_id2, n_id2_id15, g2, n_id15_mid, n_mid_id15, gM, n_id15_oid, n_oid_id15, gO, n_id15_rid, n_rid_id15, gR])
            | ((with_reducible first | apply AWp.ret | apply AWp.skip | apply AWp.exit); try simp -implicitDefEqProofs [hk5, hk6, w5, ← hBv, n_rid_id2, n_id2_rid, hB2, n_mid_rid, n_rid_mid, hSr, n_mid_id2, n_id2_mid, hS2, n_oid_rid, n_rid_oid, n_oid_id2, n_id2_oid, n_id15_id2, n_id2_id15, g2, n_id15_mid, n_mid_id15, gM, n_id15_oid, n_oid_id15, gO, n_id15_rid, n_rid_id15, gR]))
          rw [show List.drop x.toNat (List.take (x + y).toNat (List.map u8 b)) = (seg b x y).map u8 by simp [seg, List.map_drop, List.map_take]]
          have hsl : (seg b x y).length ≤ 140737488355328 := by simp [seg]; omega
          refine aCall.owns (clone_ok _ .unk false (by simp) (by simpa using hsl) _) (fun tk htk => ?_)
          have n_tk_rid : ¬ tk = rid := by rintro rfl; simp [AS.set, n_rid_mid, n_rid_id15] at htk
          have n_tk_id15 : ¬ tk = id15 := by rintro rfl; simp [AS.set, n_id15_mid] at htk
          have n_tk_mid : ¬ tk = mid := by rintro rfl; simp [AS.set] at htk
          have n_tk_oid : ¬ tk = oid := by rintro rfl; simp [AS.set, n_oid_rid, n_oid_mid, n_oid_id15, gO] at htk
          have n_tk_id2 : ¬ tk = id2 := by rintro rfl; simp [AS.set, n_id2_rid, n_id2_mid, n_id2_id15, g2] at htk
          have h_tk : σ2 tk = none := by simpa [AS.set, n_tk_rid, n_tk_id15, n_tk_mid] using htk
          clear htk
          have n_oid_tk : ¬ oid = tk := fun e => n_tk_oid e.symm
          have n_rid_tk : ¬ rid = tk := fun e => n_tk_rid e.symm
          have n_id15_tk : ¬ id15 = tk := fun e => n_tk_id15 e.symm
          have n_mid_tk : ¬ mid = tk := fun e => n_tk_mid e.symm
          have n_id2_tk : ¬ id2 = tk := fun e => n_tk_id2 e.symm
          have hk7 : kn < o.length := by omega
          simp -implicitDefEqProofs [n_oid_tk, n_oid_mid, n_oid_rid, hk7, n_rid_id2, n_id2_rid, hB2, n_mid_rid, n_rid_mid, hSr, n_mid_id2, n_id2_mid, hS2, n_oid_rid, n_rid_oid, n_oid_id2, n_id2_oid, n_id15_id2, n_id2_id15, g2, n_id15_mid, n_mid_id15, gM, n_id15_oid, n_oid_id15, gO, n_id15_rid, n_rid_id15, gR]
          refine ⟨by omega, ?_⟩
          refine AWp.wkC oid ((o.set kn (seg b x y, false)).map sV) (by simp; exact ⟨rfl, rfl⟩) (by simp; omega) (fun j hj => ?_) ?_
          · rw [List.map_set]
            refine Wk_put (by simpa using hk7) ?_ j
            simp [sV]
          simp -implicitDefEqProofs [n_rid_id2, n_id2_rid, hB2, n_mid_rid, n_rid_mid, hSr, n_mid_id2, n_id2_mid, hS2, n_oid_rid, n_rid_oid, n_oid_id2, n_id2_oid, n_id15_id2, n_id2_id15, g2, n_id15_mid, n_mid_id15, gM, n_id15_oid, n_oid_id15, gO, n_id15_rid, n_rid_id15, gR]
          repeat (first
            | (with_reducible first | apply AWp.seq | apply AWp.block | refine And.intro (by first | omega | assumption | decide) ?_)
            | ((first | (with_reducible first | apply AWp.fork | apply AWp.region | show condK _ _ _ | show guardK _ _ _ _ _ _ _ _ _) | ((with_reducible apply AWp.drawS (id := 27) (t := sc_10_27_XStr2)); (exact mixed); kernel_rfl; kernel_rfl; (repeat (with_reducible first | apply PanQ.then | apply PanQ.block | apply PanQ.body | apply PanQ.no)))); simp -implicitDefEqProofs [n_rid_id2, n_id2_rid, hB2, n_mid_rid, n_rid_mid, hSr, n_mid_id2, n_id2_mid, hS2, n_oid_rid, n_rid_oid, n_oid_id2, n_id2_oid, n_id15_id2, n_id2_id15, g2, n_id15_mid, n_mid_id15, gM, n_id15_oid, n_oid_id15, gO, n_id15_rid, n_rid_id15, gR])
            | ((with_reducible first | apply AWp.ret | apply AWp.skip | apply AWp.exit); try simp -implicitDefEqProofs [n_rid_id2, n_id2_rid, hB2, n_mid_rid, n_rid_mid, hSr, n_mid_id2, n_id2_mid, hS2, n_oid_rid, n_rid_oid, n_oid_id2, n_id2_oid, n_id15_id2, n_id2_id15, g2, n_id15_mid, n_mid_id15, gM, n_id15_oid, n_oid_id15, gO, n_id15_rid, n_rid_id15, gR]))
          have h_tk' : σ' tk = none := by rw [hs] at h_tk; simpa [AS.set, n_tk_oid, n_tk_mid, n_tk_rid] using h_tk
          have h15' : σ' id15 = none := by rw [hs] at h15; simpa [AS.set, n_id15_oid, n_id15_mid, n_id15_rid] using h15
          have hcc : ((8 + 12 * (i + 1) : Nat) : Int) = (c : Int) + 12 := by omega
          refine ⟨m - 1, _, _, by omega, FrWk.mk ?_, ?_, i + 1, M ++ [((kn : Int), x, x + y)], o.set kn (seg b x y, false), by omega, by omega, by simpa using ho, ?_, rfl, rfl⟩
          · simp [wInc (show i < 4000000000000000000 by omega)]
          · rw [hs, hcc, List.map_set]
            intro j_ y_ hy_
            by_cases e_rid : j_ = rid
            · subst e_rid; simp [AS.set, h_tk', h15', n_tk_rid, n_rid_tk, n_tk_mid, n_mid_tk, n_tk_oid, n_oid_tk, n_tk_id15, n_id15_tk, n_mid_oid, n_oid_mid, n_rid_id2, n_id2_rid, hB2, n_mid_rid, n_rid_mid, hSr, n_mid_id2, n_id2_mid, hS2, n_oid_rid, n_rid_oid, n_oid_id2, n_id2_oid, n_id15_id2, n_id2_id15, g2, n_id15_mid, n_mid_id15, gM, n_id15_oid, n_oid_id15, gO, n_id15_rid, n_rid_id15, gR] at hy_ ⊢; try first | exact hy_ | (cases hy_; done)
            by_cases e_mid : j_ = mid
            · subst e_mid; simp [AS.set, h_tk', h15', n_tk_rid, n_rid_tk, n_tk_mid, n_mid_tk, n_tk_oid, n_oid_tk, n_tk_id15, n_id15_tk, n_mid_oid, n_oid_mid, n_rid_id2, n_id2_rid, hB2, n_mid_rid, n_rid_mid, hSr, n_mid_id2, n_id2_mid, hS2, n_oid_rid, n_rid_oid, n_oid_id2, n_id2_oid, n_id15_id2, n_id2_id15, g2, n_id15_mid, n_mid_id15, gM, n_id15_oid, n_oid_id15, gO, n_id15_rid, n_rid_id15, gR] at hy_ ⊢; try first | exact hy_ | (cases hy_; done)
            by_cases e_oid : j_ = oid
            · subst e_oid; simp [AS.set, h_tk', h15', n_tk_rid, n_rid_tk, n_tk_mid, n_mid_tk, n_tk_oid, n_oid_tk, n_tk_id15, n_id15_tk, n_mid_oid, n_oid_mid, n_rid_id2, n_id2_rid, hB2, n_mid_rid, n_rid_mid, hSr, n_mid_id2, n_id2_mid, hS2, n_oid_rid, n_rid_oid, n_oid_id2, n_id2_oid, n_id15_id2, n_id2_id15, g2, n_id15_mid, n_mid_id15, gM, n_id15_oid, n_oid_id15, gO, n_id15_rid, n_rid_id15, gR] at hy_ ⊢; try first | exact hy_ | (cases hy_; done)
            by_cases e_tk : j_ = tk
            · subst e_tk; simp [AS.set, h_tk', h15', n_tk_rid, n_rid_tk, n_tk_mid, n_mid_tk, n_tk_oid, n_oid_tk, n_tk_id15, n_id15_tk, n_mid_oid, n_oid_mid, n_rid_id2, n_id2_rid, hB2, n_mid_rid, n_rid_mid, hSr, n_mid_id2, n_id2_mid, hS2, n_oid_rid, n_rid_oid, n_oid_id2, n_id2_oid, n_id15_id2, n_id2_id15, g2, n_id15_mid, n_mid_id15, gM, n_id15_oid, n_oid_id15, gO, n_id15_rid, n_rid_id15, gR] at hy_ ⊢; try first | exact hy_ | (cases hy_; done)
            by_cases e_id15 : j_ = id15
            · subst e_id15; simp [AS.set, h_tk', h15', n_tk_rid, n_rid_tk, n_tk_mid, n_mid_tk, n_tk_oid, n_oid_tk, n_tk_id15, n_id15_tk, n_mid_oid, n_oid_mid, n_rid_id2, n_id2_rid, hB2, n_mid_rid, n_rid_mid, hSr, n_mid_id2, n_id2_mid, hS2, n_oid_rid, n_rid_oid, n_oid_id2, n_id2_oid, n_id15_id2, n_id2_id15, g2, n_id15_mid, n_mid_id15, gM, n_id15_oid, n_oid_id15, gO, n_id15_rid, n_rid_id15, gR] at hy_ ⊢; try first | exact hy_ | (cases hy_; done)
            simp [AS.set, h_tk', h15', n_tk_rid, n_rid_tk, n_tk_mid, n_mid_tk, n_tk_oid, n_oid_tk, n_tk_id15, n_id15_tk, n_mid_oid, n_oid_mid, n_rid_id2, n_id2_rid, hB2, n_mid_rid, n_rid_mid, hSr, n_mid_id2, n_id2_mid, hS2, n_oid_rid, n_rid_oid, n_oid_id2, n_id2_oid, n_id15_id2, n_id2_id15, g2, n_id15_mid, n_mid_id15, gM, n_id15_oid, n_oid_id15, gO, n_id15_rid, n_rid_id15, gR, e_rid, e_mid, e_oid, e_tk, e_id15] at hy_ ⊢; try exact hy_
          · rw [← hX, ← hc]
            rfl
        · rw [if_neg hw] at hX
          repeat (first
            | (with_reducible first | apply AWp.seq | apply AWp.block | refine And.intro (by first | omega | assumption | decide) ?_)
            | ((first | (with_reducible first | apply AWp.fork | apply AWp.region | show condK _ _ _ | show guardK _ _ _ _ _ _ _ _ _) | ((with_reducible apply AWp.drawS (id := 27) (t := sc_10_27_XStr2)); (exact mixed); kernel_rfl; kernel_rfl; (repeat (with_reducible first | apply PanQ.then | apply PanQ.block | apply PanQ.body | apply PanQ.no))) | ((with_reducible apply aCall.id); first | apply aCall.gives (hwr _ (by simp [AS.set, n_mid_id15, n_mid_rid, gM]))) | ((with_reducible apply pureCall.id); first | apply pureCall.gives (fun _ => hwr _ (by simp [AS.set, n_mid_id15, n_mid_rid, gM])))); simp -implicitDefEqProofs [hw, ← hv, n_rid_id2, n_id2_rid, hB2, n_mid_rid, n_rid_mid, hSr, n_mid_id2, n_id2_mid, hS2, n_oid_rid, n_rid_oid, n_oid_id2, n_id2_oid, n_id15_id2, n_id2_id15, g2, n_id15_mid, n_mid_id15, gM, n_id15_oid, n_oid_id15, gO, n_id15_rid, n_rid_id15, gR])
            | ((with_reducible first | apply AWp.ret | apply AWp.skip | apply AWp.exit); try simp -implicitDefEqProofs [hw, ← hv, n_rid_id2, n_id2_rid, hB2, n_mid_rid, n_rid_mid, hSr, n_mid_id2, n_id2_mid, hS2, n_oid_rid, n_rid_oid, n_oid_id2, n_id2_oid, n_id15_id2, n_id2_id15, g2, n_id15_mid, n_mid_id15, gM, n_id15_oid, n_oid_id15, gO, n_id15_rid, n_rid_id15, gR]))
          rw [← hX]
          refine ⟨Wk_RS, ?_⟩
          refine le_S _ fun j a1 a2 a3 a4 y hy => ?_
          have a5 : j ≠ id15 := by rintro rfl; rw [h15] at hy; cases hy
          simp [AS.set, a1, a2, a3, a4, a5, hy]
      · have hI : ((i : Int) < 4) = False := by simp; omega
        obtain rfl : i = 4 := by omega
        simp only [Nat.sub_self, splitL] at hX
        match o, ho with
        | [o0, o1, o2, o3], _ =>
          simp only [List.map_cons, List.map_nil, sV] at gO
          repeat (first
            | (with_reducible first | apply AWp.seq | apply AWp.block | refine And.intro (by first | omega | assumption | decide) ?_)
            | ((first | (with_reducible first | apply AWp.fork | apply AWp.region | show condK _ _ _ | show guardK _ _ _ _ _ _ _ _ _) | ((with_reducible apply AWp.drawS (id := 27) (t := sc_10_27_XStr2)); (exact mixed); kernel_rfl; kernel_rfl; (repeat (with_reducible first | apply PanQ.then | apply PanQ.block | apply PanQ.body | apply PanQ.no)))); simp -implicitDefEqProofs [hI, gO, g2, n_rid_id2, n_id2_rid, hB2, n_mid_rid, n_rid_mid, hSr, n_mid_id2, n_id2_mid, hS2, n_oid_rid, n_rid_oid, n_oid_id2, n_id2_oid])
            | ((with_reducible first | apply AWp.ret | apply AWp.skip | apply AWp.exit); try simp -implicitDefEqProofs [hI, gO, g2, n_rid_id2, n_id2_rid, hB2, n_mid_rid, n_rid_mid, hSr, n_mid_id2, n_id2_mid, hS2, n_oid_rid, n_rid_oid, n_oid_id2, n_id2_oid]))
          rw [← hX]
          refine ⟨Wk.refl _, ?_⟩
          refine le_S _ fun j a1 a2 a3 a4 y hy => ?_
          simp [AS.set, a1, hy]
  · have h3' : ((b.take 4) = [67, 71, 82, 68]) = False := by simpa [CGRD] using h3
    repeat (first
      | (with_reducible first | apply AWp.seq | apply AWp.block | refine And.intro (by first | omega | assumption | decide) ?_)
      | ((first | (with_reducible first | apply AWp.fork | apply AWp.region | show condK _ _ _ | show guardK _ _ _ _ _ _ _ _ _) | ((with_reducible apply AWp.drawS (id := 27) (t := sc_10_27_XStr2)); (exact mixed); kernel_rfl; kernel_rfl; (repeat (with_reducible first | apply PanQ.then | apply PanQ.block | apply PanQ.body | apply PanQ.no)))); simp -implicitDefEqProofs [h1', h2', h4, h44, h3'])
      | ((with_reducible first | apply AWp.ret | apply AWp.skip | apply AWp.exit); try simp -implicitDefEqProofs [h1', h2', h4, h44, h3']))
    intro id2 h_id2
    repeat (first
      | (with_reducible first | apply AWp.seq | apply AWp.block | refine And.intro (by first | omega | assumption | decide) ?_)
      | ((first | (with_reducible first | apply AWp.fork | apply AWp.region | show condK _ _ _ | show guardK _ _ _ _ _ _ _ _ _) | ((with_reducible apply AWp.drawS (id := 27) (t := sc_10_27_XStr2)); (exact mixed); kernel_rfl; kernel_rfl; (repeat (with_reducible first | apply PanQ.then | apply PanQ.block | apply PanQ.body | apply PanQ.no)))); simp -implicitDefEqProofs [h1', h2', h4, h44, h3'])
      | ((with_reducible first | apply AWp.ret | apply AWp.skip | apply AWp.exit); try simp -implicitDefEqProofs [h1', h2', h4, h44, h3']))
    rw [splitS, if_neg h1, if_neg h2, if_pos h3]
    refine ⟨Wk_RS, ?_⟩
    all_goals (repeat (first | exact AS.le_refl _ | refine le_new (by simp [h_id2]) ?_))

end Go.Proofs.Ythpmabablfkekaa
