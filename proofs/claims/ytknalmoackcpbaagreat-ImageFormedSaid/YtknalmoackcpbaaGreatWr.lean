/- What is wrong with a stream: its contract, and the same for the evaluator. -/
import Derived.Test.YtknalmoackcpbaaGreatFacts
import Derived.Test.YtknalmoackcpbaaGreatAwMut
import Derived.Test.YtknalmoackcpbaaGreatEvCall
set_option linter.unusedSimpArgs false
set_option linter.unusedVariables false
set_option maxRecDepth 100000
set_option maxHeartbeats 3200000
namespace Go.Proofs.YtknalmoackcpbaaGreat.Wr
open Go Go.AW
theorem mixed : Tryz.prog.follows .mixedOrders = true := by kernel_rfl
def spV (a e : Int) : AV := .agg [.sc (.int .i64 a), .sc (.int .i64 e)]
def ov (a e : Int) (x : Int × Int × Int) : Bool := decide (a < x.2.2 ∧ x.2.1 < e ∧ a < e ∧ x.2.1 < x.2.2)
def wrongS (len : Int) (M : List (Int × Int × Int)) (k a e : Int) : Int :=
  if k < 0 ∨ M.any (fun x => x.1 == k) = true then 2 else if a < 56 ∨ a % 4 ≠ 0 then 3 else if len < e then 1 else if M.any (ov a e) = true then 2 else 0
def mV (M : List (Int × Int × Int)) : List (Int × AV) := M.map fun x => (x.1, spV x.2.1 x.2.2)
theorem findI_mV (k : Int) (M : List (Int × Int × Int)) : (findI k (mV M)).isSome = M.any (fun x => x.1 == k) := by
  induction M with
  | nil => rfl
  | cons x M ih =>
    simp only [mV, List.map_cons, findI, List.any_cons] at ih ⊢
    by_cases h : k = x.1
    · simp [h]
    · have h' : (x.1 == k) = false := by simpa using fun e : x.1 = k => h e.symm
      rw [if_neg h, h', Bool.false_or]
      exact ih
theorem findI_spV (k : Int) (M : List (Int × Int × Int)) : ∃ a e : Int, (findI k (mV M)).getD (spV 0 0) = spV a e := by
  induction M with
  | nil => exact ⟨0, 0, rfl⟩
  | cons x M ih =>
    simp only [mV, List.map_cons, findI] at ih ⊢
    by_cases h : k = x.1
    · rw [if_pos h]; exact ⟨_, _, rfl⟩
    · rw [if_neg h]; exact ih
theorem range_mp {P : Program} {σ : AS} {t kt et mid : Nat} {es : List (AV × AV)} {K : AV → AS → Prop} (hu : P.underlying t = some (.map kt et)) (hσ : σ mid = some (.map es))
    (h : ∀ id, σ id = none → K (.ptr id 0) (σ.set id (.miter mid es.length []))) : aRange P σ t (.mp mid) K := by
  simp only [aRange, hu, hσ]; exact h
theorem next_mp {σ : AS} {id mid n0 : Nat} {done : List Nat} {es : List (AV × AV)} {K : AV → AS → Prop} (h2 : σ mid = some (.map es)) (hn : es.length = n0)
    (hf : (∀ k, k < n0 → k ∈ done) → K (.tup [.sc (.bool false)]) σ)
    (hk : ∀ k, k < n0 → k ∉ done → K (.tup [.sc (.bool true), (es.getD k (.any, .any)).1, (es.getD k (.any, .any)).2]) (σ.set id (.miter mid n0 (k :: done)))) : nextM id mid n0 done σ K := by
  simp only [nextM, h2]
  exact ⟨hn, hf, hk⟩
theorem left_lt {n k : Nat} {done : List Nat} (hk : k < n) (hd : k ∉ done) : ((List.range n).filter (fun i => decide (i ∉ k :: done))).length < ((List.range n).filter (fun i => decide (i ∉ done))).length := by
  have e : (List.range n).filter (fun i => decide (i ∉ k :: done)) = ((List.range n).filter (fun i => decide (i ∉ done))).filter (fun i => decide (i ≠ k)) := by
    rw [List.filter_filter]
    congr 1
    funext i
    simp [Bool.and_comm]
  rw [e]
  refine Nat.lt_of_le_of_ne (List.length_filter_le _ _) fun h => ?_
  have h2 := List.length_filter_eq_length_iff.1 h k (by simp [hk, hd])
  simp at h2
def wrI (mid id5 idr : Nat) (a e : Int) (M : List (Int × Int × Int)) (B : AS) (m : Nat) (f : Fr) (σ' : AS) : Prop :=
  ∃ done : List Nat, m = ((List.range M.length).filter (fun i => decide (i ∉ done))).length ∧ (∀ i x, i ∈ done → M[i]? = some x → ov a e x = false) ∧
    σ' = B.set idr (.miter mid M.length done) ∧ f = mkF [(5, .ptr id5 0), (41, .ptr idr 0)]
theorem wrong_ok (mid : Nat) (k a e len : Int) (M : List (Int × Int × Int)) (σ : AS) (ha : 0 ≤ a) (h : σ mid = some (.map (ikvs (mV M)))) :
    ACalls Tryz.prog 102 [.sc (.int .i64 k), spV a e, .sc (.int .i64 len), .mp mid] σ (Gives (.sc (.int .i64 (wrongS len M k a e))) σ) No := by
  have hz : zeroAV Tryz.prog 169 = spV 0 0 := by simp [spV]
  have hmod : a.tmod 4 = a % 4 := Int.tmod_eq_emod_of_nonneg ha
  have hf := findI_mV k M
  obtain ⟨fa, fe, hfv⟩ := findI_spV k M
  refine ACalls.of_body Tryz.func102 rfl rfl (by simp [Tryz.ntmps102]) ?_
  simp only [spV]
  repeat (first
    | (with_reducible first | apply AWp.seq | apply AWp.block | refine And.intro (by first | omega | assumption | decide) ?_)
    | ((first | (with_reducible first | apply AWp.fork | ((fail_if_success (apply AWp.region (id := 1))); apply AWp.region))); simp -implicitDefEqProofs)
    | ((with_reducible first | apply AWp.ret | apply AWp.skip | apply AWp.exit); try simp -implicitDefEqProofs))
  intro id5 h_id5
  repeat (first
    | (with_reducible first | apply AWp.seq | apply AWp.block | refine And.intro (by first | omega | assumption | decide) ?_)
    | ((first | (with_reducible first | apply AWp.fork | ((fail_if_success (apply AWp.region (id := 1))); apply AWp.region))); simp -implicitDefEqProofs)
    | ((with_reducible first | apply AWp.ret | apply AWp.skip | apply AWp.exit); try simp -implicitDefEqProofs))
  with_reducible apply AWp.regionS
  refine sOps.first 2 ?_
  simp -implicitDefEqProofs
  have nm : ¬ mid = id5 := by rintro rfl; rw [h] at h_id5; cases h_id5
  simp only [spV] at hz hfv
  refine sOps.sp rfl (SOp.lookupI (by decide) mid k (mV M) Tryz.underlying167 Tryz.underlying3 (by simp) (by simp) (by simp) (by simp [nm, h]) ?_)
  refine sOps.rest ?_
  simp -implicitDefEqProofs [lookV, hz, hfv, hf]
  intro id9 h_id95 h_id9
  have h_id59 : ¬ id5 = id9 := fun e => h_id95 e.symm
  have nm9 : ¬ mid = id9 := by rintro rfl; rw [h] at h_id9; cases h_id9
  have hle : AS.le σ ((σ.set id5 (ABlk.cells 169 [AV.sc (Value.int IntKind.i64 a), AV.sc (Value.int IntKind.i64 e)])).set id9 (ABlk.cells 169 [AV.sc (Value.int IntKind.i64 fa), AV.sc (Value.int IntKind.i64 fe)])) := le_new (by simp [h_id9, h_id95]) (le_new h_id5 (AS.le_refl _))
  simp only [wrongS]
  by_cases hk : k < 0
  · repeat (first
      | (with_reducible first | apply AWp.seq | apply AWp.block | refine And.intro (by first | omega | assumption | decide) ?_)
      | ((first | (with_reducible first | apply AWp.fork | apply AWp.region | show condK _ _ _ | show guardK _ _ _ _ _ _ _ _ _)); simp -implicitDefEqProofs [hk, h_id95, h_id59])
      | ((with_reducible first | apply AWp.ret | apply AWp.skip | apply AWp.exit); try simp -implicitDefEqProofs [hk, h_id95, h_id59]))
    exact hle
  by_cases hT : (M.any fun x => x.1 == k) = true
  · repeat (first
      | (with_reducible first | apply AWp.seq | apply AWp.block | refine And.intro (by first | omega | assumption | decide) ?_)
      | ((first | (with_reducible first | apply AWp.fork | apply AWp.region | show condK _ _ _ | show guardK _ _ _ _ _ _ _ _ _)); simp -implicitDefEqProofs [hk, hT, h_id95, h_id59])
      | ((with_reducible first | apply AWp.ret | apply AWp.skip | apply AWp.exit); try simp -implicitDefEqProofs [hk, hT, h_id95, h_id59]))
    exact hle
  rw [Bool.not_eq_true] at hT
  by_cases h1 : a < 56
  · repeat (first
      | (with_reducible first | apply AWp.seq | apply AWp.block | refine And.intro (by first | omega | assumption | decide) ?_)
      | ((first | (with_reducible first | apply AWp.fork | apply AWp.region | show condK _ _ _ | show guardK _ _ _ _ _ _ _ _ _)); simp -implicitDefEqProofs [hk, hT, h1, h_id95, h_id59])
      | ((with_reducible first | apply AWp.ret | apply AWp.skip | apply AWp.exit); try simp -implicitDefEqProofs [hk, hT, h1, h_id95, h_id59]))
    exact hle
  by_cases h2 : a % 4 = 0
  · by_cases h3 : len < e
    · repeat (first
        | (with_reducible first | apply AWp.seq | apply AWp.block | refine And.intro (by first | omega | assumption | decide) ?_)
        | ((first | (with_reducible first | apply AWp.fork | apply AWp.region | show condK _ _ _ | show guardK _ _ _ _ _ _ _ _ _)); simp -implicitDefEqProofs [hk, hT, h1, h2, h3, hmod, h_id95, h_id59])
        | ((with_reducible first | apply AWp.ret | apply AWp.skip | apply AWp.exit); try simp -implicitDefEqProofs [hk, hT, h1, h2, h3, hmod, h_id95, h_id59]))
      exact hle
    repeat (first
      | (with_reducible first | apply AWp.seq | apply AWp.block | refine And.intro (by first | omega | assumption | decide) ?_)
      | ((first | (with_reducible first | apply AWp.fork | apply AWp.region | show condK _ _ _ | show guardK _ _ _ _ _ _ _ _ _)); simp -implicitDefEqProofs [hk, hT, h1, h2, h3, hmod, h_id95, h_id59])
      | ((with_reducible first | apply AWp.ret | apply AWp.skip | apply AWp.exit); try simp -implicitDefEqProofs [hk, hT, h1, h2, h3, hmod, h_id95, h_id59]))
    refine range_mp (es := ikvs (mV M)) Tryz.underlying167 (by simp [nm, nm9, h]) ?_
    generalize hB : (σ.set id5 (ABlk.cells 169 [AV.sc (Value.int IntKind.i64 a), AV.sc (Value.int IntKind.i64 e)])).set id9 (ABlk.cells 169 [AV.sc (Value.int IntKind.i64 fa), AV.sc (Value.int IntKind.i64 fe)]) = B at *
    have hB5 : B id5 = some (.cells 169 [.sc (.int .i64 a), .sc (.int .i64 e)]) := by rw [← hB]; simp [AS.set, h_id59]
    have hBm : B mid = some (.map (ikvs (mV M))) := by rw [← hB]; simp [nm, nm9, h]
    have hlen : (ikvs (mV M)).length = M.length := by simp [ikvs, mV]
    intro idr h_idr
    have n_id5_idr : ¬ id5 = idr := by rintro rfl; rw [hB5] at h_idr; cases h_idr
    have n_idr_id5 : ¬ idr = id5 := fun e => n_id5_idr e.symm
    have n_mid_idr : ¬ mid = idr := by rintro rfl; rw [hBm] at h_idr; cases h_idr
    have n_idr_mid : ¬ idr = mid := fun e => n_mid_idr e.symm
    rw [hlen]
    simp -implicitDefEqProofs [n_idr_id5, n_id5_idr, hB5, n_idr_mid, n_mid_idr, hBm]
    repeat (first
      | (with_reducible first | apply AWp.seq | apply AWp.block | refine And.intro (by first | omega | assumption | decide) ?_)
      | ((first | (with_reducible first | apply AWp.fork | apply AWp.region | show condK _ _ _ | show guardK _ _ _ _ _ _ _ _ _)); simp -implicitDefEqProofs [n_idr_id5, n_id5_idr, hB5, n_idr_mid, n_mid_idr, hBm])
      | ((with_reducible first | apply AWp.ret | apply AWp.skip | apply AWp.exit); try simp -implicitDefEqProofs [n_idr_id5, n_id5_idr, hB5, n_idr_mid, n_mid_idr, hBm]))
    refine AWp.loopI (wrI mid id5 idr a e M B) (k0 := ((List.range M.length).filter (fun i => decide (i ∉ ([] : List Nat)))).length) ⟨[], rfl, fun i x hi => (by cases hi), rfl, rfl⟩ (FrWk.mk (by simp)) (AS.le_refl _) ?_
    rintro m f σ' ⟨done, hm, hov, hσ, rfl⟩
    have hS5 : σ' id5 = some (.cells 169 [.sc (.int .i64 a), .sc (.int .i64 e)]) := by rw [hσ]; simp [n_id5_idr, hB5]
    have hSm : σ' mid = some (.map (ikvs (mV M))) := by rw [hσ]; simp [n_mid_idr, hBm]
    have hSr : σ' idr = some (.miter mid M.length done) := by rw [hσ]; simp
    repeat (first
      | (with_reducible first | apply AWp.seq | apply AWp.block | refine And.intro (by first | omega | assumption | decide) ?_)
      | ((first | (with_reducible first | apply AWp.fork | apply AWp.region | show condK _ _ _ | show guardK _ _ _ _ _ _ _ _ _)); simp -implicitDefEqProofs [hSr, n_idr_id5, n_id5_idr, hB5, n_idr_mid, n_mid_idr, hBm])
      | ((with_reducible first | apply AWp.ret | apply AWp.skip | apply AWp.exit); try simp -implicitDefEqProofs [hSr, n_idr_id5, n_id5_idr, hB5, n_idr_mid, n_mid_idr, hBm]))
    refine next_mp hSm hlen (fun hd => ?_) (fun i hi hnd => ?_)
    · simp -implicitDefEqProofs [n_idr_id5, n_id5_idr, hB5, n_idr_mid, n_mid_idr, hBm]
      repeat (first
        | (with_reducible first | apply AWp.seq | apply AWp.block | refine And.intro (by first | omega | assumption | decide) ?_)
        | ((first | (with_reducible first | apply AWp.fork | apply AWp.region | show condK _ _ _ | show guardK _ _ _ _ _ _ _ _ _)); simp -implicitDefEqProofs [n_idr_id5, n_id5_idr, hB5, n_idr_mid, n_mid_idr, hBm])
        | ((with_reducible first | apply AWp.ret | apply AWp.skip | apply AWp.exit); try simp -implicitDefEqProofs [n_idr_id5, n_id5_idr, hB5, n_idr_mid, n_mid_idr, hBm]))
      have hno : M.any (ov a e) = false := by
        rw [List.any_eq_false]
        intro x hx
        obtain ⟨i, hi, rfl⟩ := List.getElem_of_mem hx
        rw [hov i _ (hd i hi) (List.getElem?_eq_getElem hi)]
        simp
      rw [hno]
      exact ⟨Wk.refl _, by rw [hσ]; exact le_new h_idr hle⟩
    · obtain ⟨⟨k', a', e'⟩, hx⟩ : ∃ x, M[i]? = some x := ⟨_, List.getElem?_eq_getElem hi⟩
      have hg : (ikvs (mV M))[i]? = some (.sc (.int .i64 k'), .agg [.sc (.int .i64 a'), .sc (.int .i64 e')]) := by
        simp [ikvs, mV, hx, spV]
      have hlt := left_lt hi hnd
      rw [← hm] at hlt
      rw [show (ikvs (mV M)).getD i (.any, .any) = (.sc (.int .i64 k'), .agg [.sc (.int .i64 a'), .sc (.int .i64 e')]) by rw [List.getD_eq_getElem?_getD, hg]; rfl]
      simp -implicitDefEqProofs [n_idr_id5, n_id5_idr, hB5, n_idr_mid, n_mid_idr, hBm]
      repeat (first
        | (with_reducible first | apply AWp.seq | apply AWp.block | refine And.intro (by first | omega | assumption | decide) ?_)
        | ((first | (with_reducible first | apply AWp.fork | apply AWp.region | show condK _ _ _ | show guardK _ _ _ _ _ _ _ _ _)); simp -implicitDefEqProofs [hSm, hg, hlen, n_idr_id5, n_id5_idr, hB5, n_idr_mid, n_mid_idr, hBm])
        | ((with_reducible first | apply AWp.ret | apply AWp.skip | apply AWp.exit); try simp -implicitDefEqProofs [hSm, hg, hlen, n_idr_id5, n_id5_idr, hB5, n_idr_mid, n_mid_idr, hBm]))
      intro id12 h12 h12'
      have n_id5_id12 : ¬ id5 = id12 := by rintro rfl; rw [hS5] at h12'; cases h12'
      have n_id12_id5 : ¬ id12 = id5 := fun e => n_id5_id12 e.symm
      have hcont : ov a e (k', a', e') = false → ∀ i' x, i' ∈ i :: done → M[i']? = some x → ov a e x = false := by
        intro h i' x hi' hx'
        rcases List.mem_cons.1 hi' with rfl | hi'
        · rw [hx] at hx'; cases hx'; exact h
        · exact hov i' x hi' hx'
      have hle12 : AS.le (B.set idr (.miter mid M.length (i :: done))) ((σ'.set idr (.miter mid M.length (i :: done))).set id12 (.cells 169 [.sc (.int .i64 a'), .sc (.int .i64 e')])) := by
        refine le_new (by simp [AS.set, h12, h12']) ?_
        rw [hσ]
        intro j y hj
        by_cases ej : j = idr
        · simpa [AS.set, ej] using hj
        · simpa [AS.set, ej] using hj
      by_cases c1 : a < e'
      · by_cases c2 : a' < e
        · by_cases c3 : a < e
          · by_cases c4 : a' < e'
            · repeat (first
                | (with_reducible first | apply AWp.seq | apply AWp.block | refine And.intro (by first | omega | assumption | decide) ?_)
                | ((first | (with_reducible first | apply AWp.fork | apply AWp.region | show condK _ _ _ | show guardK _ _ _ _ _ _ _ _ _)); simp -implicitDefEqProofs [h12, c1, c2, c3, c4, n_idr_id5, n_id5_idr, hB5, n_idr_mid, n_mid_idr, hBm, n_id12_id5, n_id5_id12, hS5])
                | ((with_reducible first | apply AWp.ret | apply AWp.skip | apply AWp.exit); try simp -implicitDefEqProofs [h12, c1, c2, c3, c4, n_idr_id5, n_id5_idr, hB5, n_idr_mid, n_mid_idr, hBm, n_id12_id5, n_id5_id12, hS5]))
              have : M.any (ov a e) = true := List.any_eq_true.2 ⟨_, List.mem_of_getElem? hx, by simp [ov, c1, c2, c3, c4]⟩
              rw [this]
              refine ⟨Wk.refl _, ?_⟩
              exact AS.le_trans (le_new h_idr hle) hle12
            · repeat (first
                | (with_reducible first | apply AWp.seq | apply AWp.block | refine And.intro (by first | omega | assumption | decide) ?_)
                | ((first | (with_reducible first | apply AWp.fork | apply AWp.region | show condK _ _ _ | show guardK _ _ _ _ _ _ _ _ _)); simp -implicitDefEqProofs [h12, c1, c2, c3, c4, n_idr_id5, n_id5_idr, hB5, n_idr_mid, n_mid_idr, hBm, n_id12_id5, n_id5_id12, hS5])
                | ((with_reducible first | apply AWp.ret | apply AWp.skip | apply AWp.exit); try simp -implicitDefEqProofs [h12, c1, c2, c3, c4, n_idr_id5, n_id5_idr, hB5, n_idr_mid, n_mid_idr, hBm, n_id12_id5, n_id5_id12, hS5]))
              exact ⟨_, _, _, hlt, FrWk.mk (by simp), hle12, i :: done, rfl, hcont (by simp [ov, c4]), rfl, rfl⟩
          · repeat (first
              | (with_reducible first | apply AWp.seq | apply AWp.block | refine And.intro (by first | omega | assumption | decide) ?_)
              | ((first | (with_reducible first | apply AWp.fork | apply AWp.region | show condK _ _ _ | show guardK _ _ _ _ _ _ _ _ _)); simp -implicitDefEqProofs [h12, c1, c2, c3, n_idr_id5, n_id5_idr, hB5, n_idr_mid, n_mid_idr, hBm, n_id12_id5, n_id5_id12, hS5])
              | ((with_reducible first | apply AWp.ret | apply AWp.skip | apply AWp.exit); try simp -implicitDefEqProofs [h12, c1, c2, c3, n_idr_id5, n_id5_idr, hB5, n_idr_mid, n_mid_idr, hBm, n_id12_id5, n_id5_id12, hS5]))
            exact ⟨_, _, _, hlt, FrWk.mk (by simp), hle12, i :: done, rfl, hcont (by simp [ov, c3]), rfl, rfl⟩
        · repeat (first
            | (with_reducible first | apply AWp.seq | apply AWp.block | refine And.intro (by first | omega | assumption | decide) ?_)
            | ((first | (with_reducible first | apply AWp.fork | apply AWp.region | show condK _ _ _ | show guardK _ _ _ _ _ _ _ _ _)); simp -implicitDefEqProofs [h12, c1, c2, n_idr_id5, n_id5_idr, hB5, n_idr_mid, n_mid_idr, hBm, n_id12_id5, n_id5_id12, hS5])
            | ((with_reducible first | apply AWp.ret | apply AWp.skip | apply AWp.exit); try simp -implicitDefEqProofs [h12, c1, c2, n_idr_id5, n_id5_idr, hB5, n_idr_mid, n_mid_idr, hBm, n_id12_id5, n_id5_id12, hS5]))
          exact ⟨_, _, _, hlt, FrWk.mk (by simp), hle12, i :: done, rfl, hcont (by simp [ov, c2]), rfl, rfl⟩
      · repeat (first
          | (with_reducible first | apply AWp.seq | apply AWp.block | refine And.intro (by first | omega | assumption | decide) ?_)
          | ((first | (with_reducible first | apply AWp.fork | apply AWp.region | show condK _ _ _ | show guardK _ _ _ _ _ _ _ _ _)); simp -implicitDefEqProofs [h12, c1, n_idr_id5, n_id5_idr, hB5, n_idr_mid, n_mid_idr, hBm, n_id12_id5, n_id5_id12, hS5])
          | ((with_reducible first | apply AWp.ret | apply AWp.skip | apply AWp.exit); try simp -implicitDefEqProofs [h12, c1, n_idr_id5, n_id5_idr, hB5, n_idr_mid, n_mid_idr, hBm, n_id12_id5, n_id5_id12, hS5]))
        exact ⟨_, _, _, hlt, FrWk.mk (by simp), hle12, i :: done, rfl, hcont (by simp [ov, c1]), rfl, rfl⟩
  · repeat (first
      | (with_reducible first | apply AWp.seq | apply AWp.block | refine And.intro (by first | omega | assumption | decide) ?_)
      | ((first | (with_reducible first | apply AWp.fork | apply AWp.region | show condK _ _ _ | show guardK _ _ _ _ _ _ _ _ _)); simp -implicitDefEqProofs [hk, hT, h1, h2, hmod, h_id95, h_id59])
      | ((with_reducible first | apply AWp.ret | apply AWp.skip | apply AWp.exit); try simp -implicitDefEqProofs [hk, hT, h1, h2, hmod, h_id95, h_id59]))
    exact hle
open Go.AW.Ev in
/-- The map's entries, as numbers. -/
def toM : List (EV × EV) → Option (List (Int × Int × Int))
  | [] => some []
  | (.int .i64 k, .agg [.int .i64 a, .int .i64 e]) :: r => (toM r).map ((k, a, e) :: ·)
  | _ => none
open Go.AW.Ev in
def wrongO (args : List EV) (H : Hp) : Res := match args with
  | [.int .i64 k, .agg [.int .i64 (.ofNat a), .int .i64 e], .int .i64 len, .mp i] => (match H.get i with
    | .map es => (match toM es with
      | some M => .ok (.int .i64 (wrongS len M k (.ofNat a) e)) H
      | none => .fail 500)
    | _ => .fail 501)
  | _ => .fail 502
open Go.AW.Ev in
def orc : Orc := fun f => bif Nat.beq f 102 then some wrongO else none
open Go.AW.Ev in
theorem toM_ok {ρ : Ren} : ∀ {es : List (EV × EV)} {bs : List (AV × AV)} {M : List (Int × Int × Int)}, PL ρ es bs → toM es = some M → bs = ikvs (mV M)
  | [], [], M, _, h => by simp only [toM, Option.some.injEq] at h; subst h; rfl
  | [], _ :: _, _, hp, _ => hp.elim
  | _ :: _, [], _, hp, _ => hp.elim
  | (k, v) :: es, (ak, av) :: bs, M, hp, h => by
    obtain ⟨h1, h2, h3⟩ := hp
    unfold toM at h
    split at h
    · cases ‹_ :: _ = []›
    · rename_i k a e r heq
      cases heq
      rw [Option.map_eq_some_iff] at h
      obtain ⟨M', g1, rfl⟩ := h
      cases h1
      obtain ⟨l, rfl, hl⟩ := h2.agg_inv
      cases hl with
      | cons q1 t1 => cases t1 with
        | cons q2 t2 =>
          cases t2
          cases q1
          cases q2
          rw [toM_ok h3 g1]
          rfl
    · cases h
open Go.AW.Ev in
theorem orc_ok : OrcOK Tryz.prog orc := by
  intro f o ho args H v H' h
  unfold orc at ho
  cases hf : Nat.beq f 102 with
  | false => rw [hf] at ho; cases ho
  | true =>
    rw [hf] at ho
    simp only [cond_true, Option.some.injEq] at ho
    subst ho
    obtain rfl := Nat.eq_of_beq_eq_true hf
    unfold wrongO at h
    split at h
    · rename_i k a e len i
      split at h
      · rename_i es hg
        split at h
        · rename_i M hM
          simp only [Res.ok.injEq] at h
          obtain ⟨rfl, rfl⟩ := h
          refine ⟨Nat.le_refl _, fun ρ σ0 σ avs hR hv => ?_⟩
          cases hv with
          | cons a1 t1 => cases t1 with
            | cons a2 t2 => cases t2 with
              | cons a3 t3 => cases t3 with
                | cons a4 t4 =>
                  cases t4
                  cases a1
                  cases a3
                  obtain ⟨l, rfl, hl⟩ := a2.agg_inv
                  cases hl with
                  | cons q1 u1 => cases u1 with
                    | cons q2 u2 =>
                      cases u2
                      cases q1
                      cases q2
                      cases a4 with
                      | mp hp =>
                        obtain ⟨bs, m1, m2, _⟩ := hR.rb.map hp hg
                        rw [toM_ok m2 hM] at m1
                        refine (wrong_ok _ k (Int.ofNat a) e len M σ (Int.natCast_nonneg a) m1).mono ?_ (fun _ _ h => h)
                        rintro r σ' ⟨rfl, rfl⟩
                        exact ⟨ρ, .refl ρ, .int _ _, hR⟩
        · cases h
      · cases h
    · cases h
end Go.Proofs.YtknalmoackcpbaaGreat.Wr
