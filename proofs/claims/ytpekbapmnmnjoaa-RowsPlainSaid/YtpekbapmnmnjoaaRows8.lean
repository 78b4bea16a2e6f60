/- Chapter 04: wakes; RowsWrites, RowsCodes as walks. -/
import Derived.Test.YtpekbapmnmnjoaaRows7
set_option linter.unusedSimpArgs false
set_option linter.unusedVariables false
set_option maxRecDepth 100000
set_option maxHeartbeats 3200000
namespace Go.Proofs.Ytpekbapmnmnjoaa
open Go Go.AW

theorem write_okE (en : Int) (R : Tab) (o : Own) (nl : Bool) (hr : ∀ x ∈ R, x.1.length ≤ 1500) (hc : ∀ x ∈ R, ∀ y ∈ x.1, y.1.length ≤ 1000) (hF : formedS (pl R) = true) (hW : okW (pl R) en = true) (σ : AS) :
    ACalls Try.prog 17 [tbV en R o nl] σ (Owns (fun tk => .tup [.lst 5 ((writeW (pl R) en).map u8) (.tok tk) false, .sc (.int .i64 0)]) (writeW (pl R) en).length σ) No :=
  (write_any en R o nl hr hc hF σ).mono (fun r σ' h => by rcases h with ⟨_, h⟩ | ⟨h, _⟩; exact h; rw [hW] at h; cases h) (fun _ _ h => h)
theorem write_badE (en : Int) (R : Tab) (o : Own) (nl : Bool) (hr : ∀ x ∈ R, x.1.length ≤ 1500) (hc : ∀ x ∈ R, ∀ y ∈ x.1, y.1.length ≤ 1000) (hF : formedS (pl R) = true) (hW : okW (pl R) en = false) (σ : AS) :
    ACalls Try.prog 17 [tbV en R o nl] σ (Gives (.tup [.nilS, .sc (.int .i64 3)]) σ) No :=
  (write_any en R o nl hr hc hF σ).mono (fun r σ' h => by rcases h with ⟨h, _⟩ | ⟨_, h⟩; rw [hW] at h; cases h; exact h) (fun _ _ h => h)
theorem write_arg (en : Int) (R : Tab) (o : Own) (nl : Bool) (hR : R.length ≤ 1000) (hr : ∀ x ∈ R, x.1.length ≤ 1500) (hc : ∀ x ∈ R, ∀ y ∈ x.1, y.1.length ≤ 1000) (hF : formedS (pl R) = false) (σ : AS) :
    ACalls Try.prog 17 [tbV en R o nl] σ (Gives (.tup [.nilS, .sc (.int .i64 17)]) σ) No := by
  have hf := fun σ => formed_ok en R o nl hR hr hc σ
  rw [hF] at hf
  simp only [tbV] at hf ⊢
  refine ACalls.of_body Try.func17 rfl rfl (by simp [Try.ntmps17]) ?_
  repeat (first
    | (with_reducible apply AWp.seq)
    | (with_reducible apply AWp.block)
    | ((with_reducible apply AWp.fork); simp -implicitDefEqProofs)
    | ((with_reducible apply AWp.region); simp -implicitDefEqProofs)
    | (with_reducible refine And.intro (by first | omega | assumption | decide) ?_)
    | (((with_reducible apply AWp.drawS (id := 20) (t := (Sch.step 0 (Sch.step 1 (Sch.step 2 (Sch.step 3 (Sch.step 5 (Sch.alt 4 (Sch.alt 6 (Sch.alt 7 (Sch.step 8 Sch.done) Sch.none) Sch.none) (Sch.alt 6 (Sch.read 4 (Sch.alt 7 (Sch.step 8 Sch.done) Sch.none)) Sch.none))))))))); (exact mixed); kernel_rfl; kernel_rfl; (repeat (with_reducible first | apply PanQ.then | apply PanQ.block | apply PanQ.body | apply PanQ.no))); simp -implicitDefEqProofs)
    | ((with_reducible apply AWp.ret); try simp -implicitDefEqProofs)
    | ((with_reducible apply AWp.skip); try simp -implicitDefEqProofs)
    | ((with_reducible apply AWp.exit); try simp -implicitDefEqProofs))
  intro id1 h_id1
  repeat (first
    | (with_reducible apply AWp.seq)
    | (with_reducible apply AWp.block)
    | ((with_reducible apply AWp.fork); simp -implicitDefEqProofs)
    | ((with_reducible apply AWp.region); simp -implicitDefEqProofs)
    | (with_reducible refine And.intro (by first | omega | assumption | decide) ?_)
    | (((with_reducible apply AWp.drawS (id := 20) (t := (Sch.step 0 (Sch.step 1 (Sch.step 2 (Sch.step 3 (Sch.step 5 (Sch.alt 4 (Sch.alt 6 (Sch.alt 7 (Sch.step 8 Sch.done) Sch.none) Sch.none) (Sch.alt 6 (Sch.read 4 (Sch.alt 7 (Sch.step 8 Sch.done) Sch.none)) Sch.none))))))))); (exact mixed); kernel_rfl; kernel_rfl; (repeat (with_reducible first | apply PanQ.then | apply PanQ.block | apply PanQ.body | apply PanQ.no))); simp -implicitDefEqProofs)
    | ((with_reducible apply aCall.id); first
        | ((apply aCall.gives (hf _)); simp -implicitDefEqProofs))
    | ((with_reducible apply AWp.ret); try simp -implicitDefEqProofs)
    | ((with_reducible apply AWp.skip); try simp -implicitDefEqProofs)
    | ((with_reducible apply AWp.exit); try simp -implicitDefEqProofs))
  exact le_new h_id1 (AS.le_refl _)
theorem rwrite_okE (en : Int) (R : Tab) (o : Own) (nl : Bool) (hR : R.length ≤ 1000) (hr : ∀ x ∈ R, x.1.length ≤ 1000) (hc : ∀ x ∈ R, ∀ y ∈ x.1, y.1.length ≤ 1000) (hF : formedS (pl R) = true) (hW : okW (pl R) en = true) (σ : AS) :
    ACalls Try.prog 18 [tbV en R o nl] σ (Owns (fun tk => .tup [.lst 5 ((writeW (pl R) en).map u8) (.tok tk) false, .sc (.int .i64 0)]) (writeW (pl R) en).length σ) No :=
  (rwrite_any en R o nl hR hr hc σ).mono (fun r σ' h => by
    rcases h with ⟨_, ⟨_, h⟩ | ⟨h, _⟩⟩ | ⟨h, _⟩
    · exact h
    · rw [hW] at h; cases h
    · rw [hF] at h; cases h) (fun _ _ h => h)
theorem rwrite_badE (en : Int) (R : Tab) (o : Own) (nl : Bool) (hR : R.length ≤ 1000) (hr : ∀ x ∈ R, x.1.length ≤ 1000) (hc : ∀ x ∈ R, ∀ y ∈ x.1, y.1.length ≤ 1000) (hF : formedS (pl R) = true) (hW : okW (pl R) en = false) (σ : AS) :
    ACalls Try.prog 18 [tbV en R o nl] σ (Gives (.tup [.nilS, .sc (.int .i64 3)]) σ) No :=
  (rwrite_any en R o nl hR hr hc σ).mono (fun r σ' h => by
    rcases h with ⟨_, ⟨h, _⟩ | ⟨_, h⟩⟩ | ⟨h, _⟩
    · rw [hW] at h; cases h
    · exact h
    · rw [hF] at h; cases h) (fun _ _ h => h)
theorem rwrite_arg (en : Int) (R : Tab) (o : Own) (nl : Bool) (hR : R.length ≤ 1000) (hr : ∀ x ∈ R, x.1.length ≤ 1000) (hc : ∀ x ∈ R, ∀ y ∈ x.1, y.1.length ≤ 1000) (hF : formedS (pl R) = false) (σ : AS) :
    ACalls Try.prog 18 [tbV en R o nl] σ (Gives (.tup [.nilS, .sc (.int .i64 17)]) σ) No :=
  (rwrite_any en R o nl hR hr hc σ).mono (fun r σ' h => by
    rcases h with ⟨h, _⟩ | ⟨_, h⟩
    · rw [hF] at h; cases h
    · exact h) (fun _ _ h => h)

/-- Lists whose elements are told less of, one by one. -/
theorem Wk_lstE {P : Program} {e : TypeId} {l l' : List AV} {o : Own} {nl : Bool} (hl : l.length = l'.length) (h : ∀ i, i < l'.length → (l.getD i .any).cells = [l.getD i .any] ∧ (l'.getD i .any).cells = [l'.getD i .any] ∧ AV.Wk P (l.getD i .any) (l'.getD i .any)) : AV.Wk P (.lst e l o nl) (.lst e l' o nl) := by
  intro G v hv
  generalize hL : l = L at hv
  cases hv with
  | lstN ho =>
    subst hL
    have : l' = [] := List.length_eq_zero_iff.1 (by simpa using hl.symm)
    subst this
    exact .lstN ho
  | lstZ =>
    subst hL
    have : l' = [] := List.length_eq_zero_iff.1 (by simpa using hl.symm)
    subst this
    exact .lstZ
  | lst vs hl2 hm hr hcap ho =>
    subst hL
    rw [hl] at hcap ho ⊢
    refine .lst vs (fun i hi => ?_) (fun k hk => hm k (by rw [hl]; exact hk)) (fun i j hi hj => ?_) hcap ho
    · obtain ⟨h1, h2, _⟩ := h i hi
      have h3 := hl2 i (by rw [hl]; exact hi)
      rw [h1] at h3
      rw [h2]; exact h3
    · obtain ⟨h1, h2, h4⟩ := h i hi
      have h3 := hl2 i (by rw [hl]; exact hi)
      have h5 := hr i j (by rw [hl]; exact hi) hj
      rw [h1] at h3 h5
      simp at h3
      obtain rfl : j = 0 := by omega
      rw [h2]
      exact h4 _ _ h5

def R6 : Tab := List.replicate 6 ([], true)

theorem wakes_write (σ : AS) (id : Nat) (h0 : σ id = none) : ACalls Try.prog 17 [.agg [.sc (.int .i64 0), .msl id 0 6 6]] (σ.set id (.cells 69 (flatZ 6 .nilS)))
    (Owns (fun tk => .tup [.lst 5 (([0, 0, 0, 0] : List UInt8).map u8) (.tok tk) false, .sc (.int .i64 0)]) 4 σ) No := by
  have h1 := write_okE 0 R6 .full false (by simp [R6]) (by simp [R6]) (by decide) (by decide) σ
  rw [show writeW (pl R6) 0 = [0, 0, 0, 0] by decide] at h1
  have h2 : ACalls Try.prog 17 [.agg [.sc (.int .i64 0), .lst 69 (List.replicate 6 .nilS) .full false]] σ (Owns (fun tk => .tup [.lst 5 (([0, 0, 0, 0] : List UInt8).map u8) (.tok tk) false, .sc (.int .i64 0)]) 4 σ) No := by
    refine h1.wk _ rfl (fun i hi => ?_)
    match i, hi with
    | 0, _ =>
      refine Wk_agg2 (by simp) (Wk_lstE (by simp [R6]) fun i hi => ?_)
      have h6 : i < 6 := by simpa [R6] using hi
      have e1 : (List.replicate 6 AV.nilS).getD i .any = .nilS := by rw [List.getD_eq_getElem?_getD, List.getElem?_replicate, if_pos h6]; rfl
      have e2 : (R6.map lV).getD i .any = lV ([], true) := by rw [R6, List.map_replicate, List.getD_eq_getElem?_getD, List.getElem?_replicate, if_pos h6]; rfl
      rw [e1, e2]
      exact ⟨rfl, rfl, by simp [lV]⟩
  refine h2.frz id (e := 69) (m := 6) (List.replicate 6 .nilS) h0 (by simp) (fun v hv => ?_) rfl (fun G G' xs hle conv hr => ?_)
  · obtain rfl := List.eq_of_mem_replicate hv
    simp
  · refine ⟨hr.1, fun i hi => ?_⟩
    have := hr.2 i hi
    match i, hi with
    | 0, _ =>
      simp only [List.getD_cons_zero] at this ⊢
      generalize xs.getD 0 undef = X at this
      cases this with
      | agg vs l h =>
        refine .agg vs l fun k hk => ?_
        have := h k hk
        match k, hk with
        | 0, _ => exact this.mono hle
        | 1, _ => exact conv _ this

theorem rwakes_ok (σ : AS) : ACalls Try.prog 14 [] σ (Gives (.sc (.bool true)) σ) No := by
  have hcd := fun σ => code_ok 4 2 σ
  rw [show codeS 4 2 = (10, 0) by decide] at hcd
  have h61 : allU8 [.sc (.int .u8 0), .sc (.int .u8 0), .sc (.int .u8 0), .sc (.int .u8 0)] = some [0, 0, 0, 0] := by decide +kernel
  have hss : ((⟨[0, 0, 0, 0].toArray⟩ : ByteArray) == ⟨#[0, 0, 0, 0]⟩) = true := by decide +kernel
  refine ACalls.of_body Try.func14 rfl rfl (by simp [Try.ntmps14]) ?_
  repeat (first
    | (with_reducible apply AWp.seq)
    | (with_reducible apply AWp.block)
    | ((with_reducible apply AWp.fork); simp -implicitDefEqProofs)
    | ((with_reducible apply AWp.region); simp -implicitDefEqProofs)
    | (with_reducible refine And.intro (by first | omega | assumption | decide) ?_)
    | ((with_reducible apply AWp.ret); try simp -implicitDefEqProofs)
    | ((with_reducible apply AWp.skip); try simp -implicitDefEqProofs)
    | ((with_reducible apply AWp.exit); try simp -implicitDefEqProofs))
  intro id hid
  refine aCall.of (wakes_write _ id hid) ?_ (fun _ _ h => h.elim)
  rintro r σ1 ⟨tk, htk, rfl, rfl⟩
  simp -implicitDefEqProofs
  repeat (first
    | (with_reducible apply AWp.seq)
    | (with_reducible apply AWp.block)
    | ((with_reducible apply AWp.fork); simp -implicitDefEqProofs [h61, hss])
    | ((with_reducible apply AWp.region); simp -implicitDefEqProofs [h61, hss])
    | (with_reducible refine And.intro (by first | omega | assumption | decide) ?_)
    | ((with_reducible show condK _ _ _); simp -implicitDefEqProofs [h61, hss])
    | ((with_reducible show guardK _ _ _ _ _ _ _ _ _); simp -implicitDefEqProofs [h61, hss])
    | ((with_reducible apply aCall.id); first
        | ((apply aCall.gives (hcd _)); simp -implicitDefEqProofs [h61, hss]))
    | ((with_reducible apply AWp.ret); try simp -implicitDefEqProofs [h61, hss])
    | ((with_reducible apply AWp.skip); try simp -implicitDefEqProofs [h61, hss])
    | ((with_reducible apply AWp.exit); try simp -implicitDefEqProofs [h61, hss]))
  exact le_new htk (AS.le_refl _)

theorem longT_no {R : Tab} (h : longT R = false) : R.length ≤ 20 ∧ (∀ x ∈ R, x.1.length ≤ 100) ∧ ∀ x ∈ R, ∀ y ∈ x.1, y.1.length ≤ 20 := by
  simp only [longT, Bool.or_eq_false_iff, decide_eq_false_iff_not, List.any_eq_false, long1] at h
  refine ⟨by omega, fun x hx => ?_, fun x hx y hy => ?_⟩
  · have := h.2 x hx
    simp at this
    exact this.1
  · have := h.2 x hx
    simp only [Bool.or_eq_true, decide_eq_true_eq, List.any_eq_true, not_or, not_exists, not_and] at this
    have := this.2 y hy
    omega

theorem pl_cpT (R : Tab) : pl (R.map cpT) = pl R := by
  simp [pl, pl1, cpT, cp1, List.map_map, Function.comp_def]

theorem rowB_len : ∀ (ks : List UInt8) (r : List Int), (rowB ks r).length ≤ 4 * ks.length := by
  intro ks
  induction ks with
  | nil => intro r; simp [rowB]
  | cons k ks ih =>
    intro r
    cases r with
    | nil => simp [rowB]
    | cons x r =>
      have h1 := ih r
      have h2 := putB_length x (wK k 0).toNat
      have h3 := wK_24 k 0
      simp only [rowB, List.length_append, List.length_cons, h2]
      omega
theorem tabB_len (t : Nat) (l : List (List Int)) : (tabB t l).length ≤ 24 * l.length := by
  induction l with
  | nil => simp [tabB]
  | cons r l ih =>
    have h1 := rowB_len (kindsL t) r
    have h2 := kinds_len (t : Int)
    simp only [tabB, List.flatMap_cons, List.length_append, List.length_cons] at ih ⊢
    omega
theorem bodyB_len : ∀ (L : List (List (List Int))) (t : Nat), (∀ l ∈ L, l.length ≤ 100) → (bodyB t L).length ≤ 2400 * L.length := by
  intro L
  induction L with
  | nil => intro t _; simp [bodyB]
  | cons l L ih =>
    intro t h
    have h1 := tabB_len t l
    have h2 := h l (by simp)
    have h3 := ih (t + 1) fun x hx => h x (by simp [hx])
    simp only [bodyB, List.length_append, List.length_cons]
    omega
theorem cntB_len (L : List (List (List Int))) : (cntB L).length ≤ 2 * L.length := by
  induction L with
  | nil => simp [cntB]
  | cons l L ih =>
    have h2 := putB_length (l.length : Int) 2
    have h3 : (cnt1 l).length ≤ 2 := by unfold cnt1; split <;> simp [putB_length]
    simp only [cntB, List.flatMap_cons, List.length_append, List.length_cons] at ih ⊢
    omega
theorem writeW_len {R : Tab} {en : Int} (h1 : R.length ≤ 20) (h2 : ∀ x ∈ R, x.1.length ≤ 100) : (writeW (pl R) en).length ≤ 100000 := by
  have e1 : (pl R).length = R.length := by simp [pl]
  have e2 := cntB_len (pl R)
  have e3 := bodyB_len (pl R) 0 (fun l hl => by
    obtain ⟨x, hx, rfl⟩ := List.mem_map.1 hl
    simpa [pl1] using h2 x hx)
  have e4 := putB_length en 2
  simp only [writeW, List.length_append, List.length_cons, List.length_nil]
  omega

theorem rowsWrites_ok (en : Int) (R : Tab) (nl : Bool) (hR : R.length ≤ 140737488355328) (hr : ∀ x ∈ R, x.1.length ≤ 140737488355328) (hc : ∀ x ∈ R, ∀ y ∈ x.1, y.1.length ≤ 140737488355328) :
    ACalls Try.prog 3 [tbV en R .unk nl] noAS IsTrue No := by
  have hl := fun σ => rlong_ok en R .unk nl hR hr hc σ
  cases hL : longT R with
  | true =>
    rw [hL] at hl
    simp only [tbV] at hl ⊢
    refine ACalls.of_body Try.func3 rfl rfl (by simp [Try.ntmps3]) ?_
    repeat (first
      | (with_reducible apply AWp.seq)
      | (with_reducible apply AWp.block)
      | ((with_reducible apply AWp.fork); simp -implicitDefEqProofs)
      | ((with_reducible apply AWp.region); simp -implicitDefEqProofs)
      | (with_reducible refine And.intro (by first | omega | assumption | decide) ?_)
      | ((with_reducible apply AWp.ret); try simp -implicitDefEqProofs)
      | ((with_reducible apply AWp.skip); try simp -implicitDefEqProofs)
      | ((with_reducible apply AWp.exit); try simp -implicitDefEqProofs))
    intro id1 h_id1
    repeat (first
      | (with_reducible apply AWp.seq)
      | (with_reducible apply AWp.block)
      | ((with_reducible apply AWp.fork); simp -implicitDefEqProofs)
      | ((with_reducible apply AWp.region); simp -implicitDefEqProofs)
      | (with_reducible refine And.intro (by first | omega | assumption | decide) ?_)
      | ((with_reducible apply aCall.id); first
          | ((apply aCall.gives (rwakes_ok _)); simp -implicitDefEqProofs)
          | ((apply aCall.gives (hl _)); simp -implicitDefEqProofs))
      | ((with_reducible apply AWp.ret); try simp -implicitDefEqProofs)
      | ((with_reducible apply AWp.skip); try simp -implicitDefEqProofs)
      | ((with_reducible apply AWp.exit); try simp -implicitDefEqProofs))
  | false =>
    obtain ⟨b1, b2, b3⟩ := longT_no hL
    have hco := fun σ => copied_ok en R .unk nl b1 b2 b3 σ
    have hpc := pl_cpT R
    have c1 : (R.map cpT).length ≤ 20 := by simpa using b1
    have c2 : ∀ x ∈ R.map cpT, x.1.length ≤ 100 := by
      intro x hx
      obtain ⟨y, hy, rfl⟩ := List.mem_map.1 hx
      simpa [cpT] using b2 y hy
    have c3 : ∀ x ∈ R.map cpT, ∀ y ∈ x.1, y.1.length ≤ 20 := by
      intro x hx y hy
      obtain ⟨z, hz, rfl⟩ := List.mem_map.1 hx
      simp only [cpT] at hy
      obtain ⟨u, hu, rfl⟩ := List.mem_map.1 hy
      exact b3 z hz u hu
    generalize R.map cpT = S at *
    have hs := fun σ => rsame_ok en en S R .unk .unk (decide (R = [])) nl (by omega) (fun x hx => by have := c2 x hx; omega) (fun x hx y hy => by have := c3 x hx y hy; omega) hR hr hc σ
    rw [show (decide (en = en) && decide (pl S = pl R)) = true by simp [hpc]] at hs
    rw [hL] at hl
    cases hF : formedS (pl R) with
    | false =>
      have hw := fun σ => write_arg en S .unk (decide (R = [])) (by omega) (fun x hx => by have := c2 x hx; omega) (fun x hx y hy => by have := c3 x hx y hy; omega) (by rw [hpc]; exact hF) σ
      have hrw := fun σ => rwrite_arg en R .unk nl (by omega) (fun x hx => by have := b2 x hx; omega) (fun x hx y hy => by have := b3 x hx y hy; omega) hF σ
      have hsm : ∀ σ, ACalls Try.prog 19 [.nilS, .nilS] σ (Gives (.sc (.bool true)) σ) No := fun σ => (same_ok [] [] .unk .unk true true (by simp) σ).wk _ rfl (fun i hi => by
        match i, hi with
        | 0, _ => simp
        | 1, _ => simp)
      simp only [tbV] at hl hco hs hw hrw ⊢
      refine ACalls.of_body Try.func3 rfl rfl (by simp [Try.ntmps3]) ?_
      repeat (first
        | (with_reducible apply AWp.seq)
        | (with_reducible apply AWp.block)
        | ((with_reducible apply AWp.fork); simp -implicitDefEqProofs)
        | ((with_reducible apply AWp.region); simp -implicitDefEqProofs)
        | (with_reducible refine And.intro (by first | omega | assumption | decide) ?_)
        | ((with_reducible apply AWp.ret); try simp -implicitDefEqProofs)
        | ((with_reducible apply AWp.skip); try simp -implicitDefEqProofs)
        | ((with_reducible apply AWp.exit); try simp -implicitDefEqProofs))
      intro id1 h_id1
      repeat (first
        | (with_reducible apply AWp.seq)
        | (with_reducible apply AWp.block)
        | ((with_reducible apply AWp.fork); simp -implicitDefEqProofs)
        | ((with_reducible apply AWp.region); simp -implicitDefEqProofs)
        | (with_reducible refine And.intro (by first | omega | assumption | decide) ?_)
        | ((with_reducible apply aCall.id); first
            | ((apply aCall.gives (rwakes_ok _)); simp -implicitDefEqProofs)
            | ((apply aCall.gives (hl _)); simp -implicitDefEqProofs)
            | ((apply aCall.gives (hco _)); simp -implicitDefEqProofs))
        | ((with_reducible apply AWp.ret); try simp -implicitDefEqProofs)
        | ((with_reducible apply AWp.skip); try simp -implicitDefEqProofs)
        | ((with_reducible apply AWp.exit); try simp -implicitDefEqProofs))
      intro id3 n_id3_id1 h_id3
      have n_id1_id3 : ¬ id1 = id3 := fun e => n_id3_id1 e.symm
      repeat (first
        | (with_reducible apply AWp.seq)
        | (with_reducible apply AWp.block)
        | ((with_reducible apply AWp.fork); simp -implicitDefEqProofs [n_id3_id1, n_id1_id3])
        | ((with_reducible apply AWp.region); simp -implicitDefEqProofs [n_id3_id1, n_id1_id3])
        | (with_reducible refine And.intro (by first | omega | assumption | decide) ?_)
        | ((with_reducible show condK _ _ _); simp -implicitDefEqProofs [n_id3_id1, n_id1_id3])
        | ((with_reducible show guardK _ _ _ _ _ _ _ _ _); simp -implicitDefEqProofs [n_id3_id1, n_id1_id3])
        | ((with_reducible apply aCall.id); first
            | ((apply aCall.gives (hw _)); simp -implicitDefEqProofs [n_id3_id1, n_id1_id3])
            | ((apply aCall.gives (hrw _)); simp -implicitDefEqProofs [n_id3_id1, n_id1_id3])
            | ((apply aCall.gives (hsm _)); simp -implicitDefEqProofs [n_id3_id1, n_id1_id3])
            | ((apply aCall.gives (hs _)); simp -implicitDefEqProofs [n_id3_id1, n_id1_id3]))
        | ((with_reducible apply AWp.ret); try simp -implicitDefEqProofs [n_id3_id1, n_id1_id3])
        | ((with_reducible apply AWp.skip); try simp -implicitDefEqProofs [n_id3_id1, n_id1_id3])
        | ((with_reducible apply AWp.exit); try simp -implicitDefEqProofs [n_id3_id1, n_id1_id3]))
    | true =>
      cases hW : okW (pl R) en with
      | false =>
        have hw := fun σ => write_badE en S .unk (decide (R = [])) (fun x hx => by have := c2 x hx; omega) (fun x hx y hy => by have := c3 x hx y hy; omega) (by rw [hpc]; exact hF) (by rw [hpc]; exact hW) σ
        have hrw := fun σ => rwrite_badE en R .unk nl (by omega) (fun x hx => by have := b2 x hx; omega) (fun x hx y hy => by have := b3 x hx y hy; omega) hF hW σ
        have hsm : ∀ σ, ACalls Try.prog 19 [.nilS, .nilS] σ (Gives (.sc (.bool true)) σ) No := fun σ => (same_ok [] [] .unk .unk true true (by simp) σ).wk _ rfl (fun i hi => by
          match i, hi with
          | 0, _ => simp
          | 1, _ => simp)
        simp only [tbV] at hl hco hs hw hrw ⊢
        refine ACalls.of_body Try.func3 rfl rfl (by simp [Try.ntmps3]) ?_
        repeat (first
          | (with_reducible apply AWp.seq)
          | (with_reducible apply AWp.block)
          | ((with_reducible apply AWp.fork); simp -implicitDefEqProofs)
          | ((with_reducible apply AWp.region); simp -implicitDefEqProofs)
          | (with_reducible refine And.intro (by first | omega | assumption | decide) ?_)
          | ((with_reducible apply AWp.ret); try simp -implicitDefEqProofs)
          | ((with_reducible apply AWp.skip); try simp -implicitDefEqProofs)
          | ((with_reducible apply AWp.exit); try simp -implicitDefEqProofs))
        intro id1 h_id1
        repeat (first
          | (with_reducible apply AWp.seq)
          | (with_reducible apply AWp.block)
          | ((with_reducible apply AWp.fork); simp -implicitDefEqProofs)
          | ((with_reducible apply AWp.region); simp -implicitDefEqProofs)
          | (with_reducible refine And.intro (by first | omega | assumption | decide) ?_)
          | ((with_reducible apply aCall.id); first
              | ((apply aCall.gives (rwakes_ok _)); simp -implicitDefEqProofs)
              | ((apply aCall.gives (hl _)); simp -implicitDefEqProofs)
              | ((apply aCall.gives (hco _)); simp -implicitDefEqProofs))
          | ((with_reducible apply AWp.ret); try simp -implicitDefEqProofs)
          | ((with_reducible apply AWp.skip); try simp -implicitDefEqProofs)
          | ((with_reducible apply AWp.exit); try simp -implicitDefEqProofs))
        intro id3 n_id3_id1 h_id3
        have n_id1_id3 : ¬ id1 = id3 := fun e => n_id3_id1 e.symm
        repeat (first
          | (with_reducible apply AWp.seq)
          | (with_reducible apply AWp.block)
          | ((with_reducible apply AWp.fork); simp -implicitDefEqProofs [n_id3_id1, n_id1_id3])
          | ((with_reducible apply AWp.region); simp -implicitDefEqProofs [n_id3_id1, n_id1_id3])
          | (with_reducible refine And.intro (by first | omega | assumption | decide) ?_)
          | ((with_reducible show condK _ _ _); simp -implicitDefEqProofs [n_id3_id1, n_id1_id3])
          | ((with_reducible show guardK _ _ _ _ _ _ _ _ _); simp -implicitDefEqProofs [n_id3_id1, n_id1_id3])
          | ((with_reducible apply aCall.id); first
              | ((apply aCall.gives (hw _)); simp -implicitDefEqProofs [n_id3_id1, n_id1_id3])
              | ((apply aCall.gives (hrw _)); simp -implicitDefEqProofs [n_id3_id1, n_id1_id3])
              | ((apply aCall.gives (hsm _)); simp -implicitDefEqProofs [n_id3_id1, n_id1_id3])
              | ((apply aCall.gives (hs _)); simp -implicitDefEqProofs [n_id3_id1, n_id1_id3]))
          | ((with_reducible apply AWp.ret); try simp -implicitDefEqProofs [n_id3_id1, n_id1_id3])
          | ((with_reducible apply AWp.skip); try simp -implicitDefEqProofs [n_id3_id1, n_id1_id3])
          | ((with_reducible apply AWp.exit); try simp -implicitDefEqProofs [n_id3_id1, n_id1_id3]))
      | true =>
        have hw := fun σ => write_okE en S .unk (decide (R = [])) (fun x hx => by have := c2 x hx; omega) (fun x hx y hy => by have := c3 x hx y hy; omega) (by rw [hpc]; exact hF) (by rw [hpc]; exact hW) σ
        rw [hpc] at hw
        have hrw := fun σ => rwrite_okE en R .unk nl (by omega) (fun x hx => by have := b2 x hx; omega) (fun x hx y hy => by have := b3 x hx y hy; omega) hF hW σ
        have hlen : (writeW (pl R) en).length ≤ 140737488355328 := by have := writeW_len (R := R) (en := en) b1 b2; omega
        have hsm := fun o o' σ => same_ok (writeW (pl R) en) (writeW (pl R) en) o o' false false hlen σ
        generalize writeW (pl R) en = W at *
        simp only [tbV] at hl hco hs hw hrw ⊢
        refine ACalls.of_body Try.func3 rfl rfl (by simp [Try.ntmps3]) ?_
        repeat (first
          | (with_reducible apply AWp.seq)
          | (with_reducible apply AWp.block)
          | ((with_reducible apply AWp.fork); simp -implicitDefEqProofs)
          | ((with_reducible apply AWp.region); simp -implicitDefEqProofs)
          | (with_reducible refine And.intro (by first | omega | assumption | decide) ?_)
          | ((with_reducible apply AWp.ret); try simp -implicitDefEqProofs)
          | ((with_reducible apply AWp.skip); try simp -implicitDefEqProofs)
          | ((with_reducible apply AWp.exit); try simp -implicitDefEqProofs))
        intro id1 h_id1
        repeat (first
          | (with_reducible apply AWp.seq)
          | (with_reducible apply AWp.block)
          | ((with_reducible apply AWp.fork); simp -implicitDefEqProofs)
          | ((with_reducible apply AWp.region); simp -implicitDefEqProofs)
          | (with_reducible refine And.intro (by first | omega | assumption | decide) ?_)
          | ((with_reducible apply aCall.id); first
              | ((apply aCall.gives (rwakes_ok _)); simp -implicitDefEqProofs)
              | ((apply aCall.gives (hl _)); simp -implicitDefEqProofs)
              | ((apply aCall.gives (hco _)); simp -implicitDefEqProofs))
          | ((with_reducible apply AWp.ret); try simp -implicitDefEqProofs)
          | ((with_reducible apply AWp.skip); try simp -implicitDefEqProofs)
          | ((with_reducible apply AWp.exit); try simp -implicitDefEqProofs))
        intro id3 n_id3_id1 h_id3
        have n_id1_id3 : ¬ id1 = id3 := fun e => n_id3_id1 e.symm
        repeat (first
          | (with_reducible apply AWp.seq)
          | (with_reducible apply AWp.block)
          | ((with_reducible apply AWp.fork); simp -implicitDefEqProofs [n_id3_id1, n_id1_id3])
          | ((with_reducible apply AWp.region); simp -implicitDefEqProofs [n_id3_id1, n_id1_id3])
          | (with_reducible refine And.intro (by first | omega | assumption | decide) ?_)
          | ((with_reducible show condK _ _ _); simp -implicitDefEqProofs [n_id3_id1, n_id1_id3])
          | ((with_reducible show guardK _ _ _ _ _ _ _ _ _); simp -implicitDefEqProofs [n_id3_id1, n_id1_id3])
          | ((with_reducible apply aCall.id); first
              | ((apply aCall.owns (hw _)); simp -implicitDefEqProofs [n_id3_id1, n_id1_id3]))
          | ((with_reducible apply AWp.ret); try simp -implicitDefEqProofs [n_id3_id1, n_id1_id3])
          | ((with_reducible apply AWp.skip); try simp -implicitDefEqProofs [n_id3_id1, n_id1_id3])
          | ((with_reducible apply AWp.exit); try simp -implicitDefEqProofs [n_id3_id1, n_id1_id3]))
        intro tk n_tk_id3 n_tk_id1 h_tk
        have n_id3_tk : ¬ id3 = tk := fun e => n_tk_id3 e.symm
        have n_id1_tk : ¬ id1 = tk := fun e => n_tk_id1 e.symm
        repeat (first
          | (with_reducible apply AWp.seq)
          | (with_reducible apply AWp.block)
          | ((with_reducible apply AWp.fork); simp -implicitDefEqProofs [n_id3_id1, n_id1_id3, n_tk_id3, n_id3_tk, n_tk_id1, n_id1_tk])
          | ((with_reducible apply AWp.region); simp -implicitDefEqProofs [n_id3_id1, n_id1_id3, n_tk_id3, n_id3_tk, n_tk_id1, n_id1_tk])
          | (with_reducible refine And.intro (by first | omega | assumption | decide) ?_)
          | ((with_reducible show condK _ _ _); simp -implicitDefEqProofs [n_id3_id1, n_id1_id3, n_tk_id3, n_id3_tk, n_tk_id1, n_id1_tk])
          | ((with_reducible show guardK _ _ _ _ _ _ _ _ _); simp -implicitDefEqProofs [n_id3_id1, n_id1_id3, n_tk_id3, n_id3_tk, n_tk_id1, n_id1_tk])
          | ((with_reducible apply aCall.id); first
              | ((apply aCall.owns (hrw _)); simp -implicitDefEqProofs [n_id3_id1, n_id1_id3, n_tk_id3, n_id3_tk, n_tk_id1, n_id1_tk]))
          | ((with_reducible apply AWp.ret); try simp -implicitDefEqProofs [n_id3_id1, n_id1_id3, n_tk_id3, n_id3_tk, n_tk_id1, n_id1_tk])
          | ((with_reducible apply AWp.skip); try simp -implicitDefEqProofs [n_id3_id1, n_id1_id3, n_tk_id3, n_id3_tk, n_tk_id1, n_id1_tk])
          | ((with_reducible apply AWp.exit); try simp -implicitDefEqProofs [n_id3_id1, n_id1_id3, n_tk_id3, n_id3_tk, n_tk_id1, n_id1_tk]))
        intro tk2 n_tk2_tk n_tk2_id3 n_tk2_id1 h_tk2
        have n_tk_tk2 : ¬ tk = tk2 := fun e => n_tk2_tk e.symm
        have n_id3_tk2 : ¬ id3 = tk2 := fun e => n_tk2_id3 e.symm
        have n_id1_tk2 : ¬ id1 = tk2 := fun e => n_tk2_id1 e.symm
        repeat (first
          | (with_reducible apply AWp.seq)
          | (with_reducible apply AWp.block)
          | ((with_reducible apply AWp.fork); simp -implicitDefEqProofs [n_id3_id1, n_id1_id3, n_tk_id3, n_id3_tk, n_tk_id1, n_id1_tk, n_tk2_tk, n_tk_tk2, n_tk2_id3, n_id3_tk2, n_tk2_id1, n_id1_tk2])
          | ((with_reducible apply AWp.region); simp -implicitDefEqProofs [n_id3_id1, n_id1_id3, n_tk_id3, n_id3_tk, n_tk_id1, n_id1_tk, n_tk2_tk, n_tk_tk2, n_tk2_id3, n_id3_tk2, n_tk2_id1, n_id1_tk2])
          | (with_reducible refine And.intro (by first | omega | assumption | decide) ?_)
          | ((with_reducible show condK _ _ _); simp -implicitDefEqProofs [n_id3_id1, n_id1_id3, n_tk_id3, n_id3_tk, n_tk_id1, n_id1_tk, n_tk2_tk, n_tk_tk2, n_tk2_id3, n_id3_tk2, n_tk2_id1, n_id1_tk2])
          | ((with_reducible show guardK _ _ _ _ _ _ _ _ _); simp -implicitDefEqProofs [n_id3_id1, n_id1_id3, n_tk_id3, n_id3_tk, n_tk_id1, n_id1_tk, n_tk2_tk, n_tk_tk2, n_tk2_id3, n_id3_tk2, n_tk2_id1, n_id1_tk2])
          | ((with_reducible apply aCall.id); first
              | ((apply aCall.gives (hsm _ _ _)); simp -implicitDefEqProofs [n_id3_id1, n_id1_id3, n_tk_id3, n_id3_tk, n_tk_id1, n_id1_tk, n_tk2_tk, n_tk_tk2, n_tk2_id3, n_id3_tk2, n_tk2_id1, n_id1_tk2])
              | ((apply aCall.gives (hs _)); simp -implicitDefEqProofs [n_id3_id1, n_id1_id3, n_tk_id3, n_id3_tk, n_tk_id1, n_id1_tk, n_tk2_tk, n_tk_tk2, n_tk2_id3, n_id3_tk2, n_tk2_id1, n_id1_tk2]))
          | ((with_reducible apply AWp.ret); try simp -implicitDefEqProofs [n_id3_id1, n_id1_id3, n_tk_id3, n_id3_tk, n_tk_id1, n_id1_tk, n_tk2_tk, n_tk_tk2, n_tk2_id3, n_id3_tk2, n_tk2_id1, n_id1_tk2])
          | ((with_reducible apply AWp.skip); try simp -implicitDefEqProofs [n_id3_id1, n_id1_id3, n_tk_id3, n_id3_tk, n_tk_id1, n_id1_tk, n_tk2_tk, n_tk_tk2, n_tk2_id3, n_id3_tk2, n_tk2_id1, n_id1_tk2])
          | ((with_reducible apply AWp.exit); try simp -implicitDefEqProofs [n_id3_id1, n_id1_id3, n_tk_id3, n_id3_tk, n_tk_id1, n_id1_tk, n_tk2_tk, n_tk_tk2, n_tk2_id3, n_id3_tk2, n_tk2_id1, n_id1_tk2]))

theorem codedS_codeS {t r : Int} (h : (codeS t r).2 = 0) (h0 : 0 ≤ t) : codedS (codeS t r).1 = (t, r, 0) := by
  unfold codeS at h ⊢
  split at h
  · omega
  · rename_i a1
    rw [if_neg a1]
    split at h
    · simp at h
    · rename_i a2
      rw [if_neg a2]
      split at h
      · simp at h
      · rename_i a3
        rw [if_neg a3]
        have a4 : t = 0 ∨ t = 4 := by omega
        rcases a4 with rfl | rfl
        · simp only [show ¬ (0 : Int) = 4 by omega, if_false, codedS]
          rw [if_neg (by omega), if_neg (by omega), if_pos (by omega)]
          simp
        · simp only [if_true, codedS]
          rw [if_neg (by omega), if_neg (by omega), if_neg (by omega), if_pos (by omega)]
          simp
          omega

theorem rowsCodes_ok (t r x : Int) : ACalls Try.prog 4 [.sc (.int .i64 t), .sc (.int .i64 r), .sc (.int .i64 x)] noAS IsTrue No := by
  have h1 := fun σ => code_ok t r σ
  have h2 := fun σ => rcode_ok t r σ
  have h3 := fun σ => coded_ok x σ
  have h4 := fun σ => rcoded_ok x σ
  have h5 := fun σ => columns_ok t σ
  have h6 := fun σ => rcolumns_ok t σ
  have h7 := fun σ => coded_ok (codeS t r).1 σ
  have hcs := fun h h0 => codedS_codeS (t := t) (r := r) h h0
  generalize (codeS t r).1 = y at *
  generalize (codeS t r).2 = e at *
  obtain ⟨c1, c2, c3⟩ := codedS x
  refine ACalls.of_body Try.func4 rfl rfl (by simp [Try.ntmps4]) ?_
  by_cases he : e = 0
  · by_cases ht : 0 ≤ t
    · rw [hcs he ht] at h7
      repeat (first
        | (with_reducible apply AWp.seq)
        | (with_reducible apply AWp.block)
        | ((with_reducible apply AWp.fork); simp -implicitDefEqProofs)
        | ((with_reducible apply AWp.region); simp -implicitDefEqProofs)
        | (with_reducible refine And.intro (by first | omega | assumption | decide) ?_)
        | ((with_reducible apply aCall.id); first
            | ((apply aCall.gives (rwakes_ok _)); simp -implicitDefEqProofs)
            | ((apply aCall.gives (h1 _)); simp -implicitDefEqProofs)
            | ((apply aCall.gives (h2 _)); simp -implicitDefEqProofs)
            | ((apply aCall.gives (h3 _)); simp -implicitDefEqProofs)
            | ((apply aCall.gives (h4 _)); simp -implicitDefEqProofs)
            | ((apply aCall.gives (h5 _)); simp -implicitDefEqProofs)
            | ((apply aCall.gives (h6 _)); simp -implicitDefEqProofs))
        | ((with_reducible apply AWp.ret); try simp -implicitDefEqProofs)
        | ((with_reducible apply AWp.skip); try simp -implicitDefEqProofs)
        | ((with_reducible apply AWp.exit); try simp -implicitDefEqProofs))
      intro id h_id
      repeat (first
        | (with_reducible apply AWp.seq)
        | (with_reducible apply AWp.block)
        | ((with_reducible apply AWp.fork); simp -implicitDefEqProofs [he, ht])
        | ((with_reducible apply AWp.region); simp -implicitDefEqProofs [he, ht])
        | (with_reducible refine And.intro (by first | omega | assumption | decide) ?_)
        | ((with_reducible show condK _ _ _); simp -implicitDefEqProofs [he, ht])
        | ((with_reducible show guardK _ _ _ _ _ _ _ _ _); simp -implicitDefEqProofs [he, ht])
        | ((with_reducible apply aCall.id); first
            | ((apply aCall.gives (h7 _)); simp -implicitDefEqProofs [he, ht])
            | ((apply aCall.gives (h5 _)); simp -implicitDefEqProofs [he, ht])
            | ((apply aCall.gives (h6 _)); simp -implicitDefEqProofs [he, ht]))
        | ((with_reducible apply AWp.ret); try simp -implicitDefEqProofs [he, ht])
        | ((with_reducible apply AWp.skip); try simp -implicitDefEqProofs [he, ht])
        | ((with_reducible apply AWp.exit); try simp -implicitDefEqProofs [he, ht]))
    · repeat (first
        | (with_reducible apply AWp.seq)
        | (with_reducible apply AWp.block)
        | ((with_reducible apply AWp.fork); simp -implicitDefEqProofs)
        | ((with_reducible apply AWp.region); simp -implicitDefEqProofs)
        | (with_reducible refine And.intro (by first | omega | assumption | decide) ?_)
        | ((with_reducible apply aCall.id); first
            | ((apply aCall.gives (rwakes_ok _)); simp -implicitDefEqProofs)
            | ((apply aCall.gives (h1 _)); simp -implicitDefEqProofs)
            | ((apply aCall.gives (h2 _)); simp -implicitDefEqProofs)
            | ((apply aCall.gives (h3 _)); simp -implicitDefEqProofs)
            | ((apply aCall.gives (h4 _)); simp -implicitDefEqProofs)
            | ((apply aCall.gives (h5 _)); simp -implicitDefEqProofs)
            | ((apply aCall.gives (h6 _)); simp -implicitDefEqProofs))
        | ((with_reducible apply AWp.ret); try simp -implicitDefEqProofs)
        | ((with_reducible apply AWp.skip); try simp -implicitDefEqProofs)
        | ((with_reducible apply AWp.exit); try simp -implicitDefEqProofs))
      intro id h_id
      repeat (first
        | (with_reducible apply AWp.seq)
        | (with_reducible apply AWp.block)
        | ((with_reducible apply AWp.fork); simp -implicitDefEqProofs [he, ht])
        | ((with_reducible apply AWp.region); simp -implicitDefEqProofs [he, ht])
        | (with_reducible refine And.intro (by first | omega | assumption | decide) ?_)
        | ((with_reducible show condK _ _ _); simp -implicitDefEqProofs [he, ht])
        | ((with_reducible show guardK _ _ _ _ _ _ _ _ _); simp -implicitDefEqProofs [he, ht])
        | ((with_reducible apply aCall.id); first
            | ((apply aCall.gives (h5 _)); simp -implicitDefEqProofs [he, ht])
            | ((apply aCall.gives (h6 _)); simp -implicitDefEqProofs [he, ht]))
        | ((with_reducible apply AWp.ret); try simp -implicitDefEqProofs [he, ht])
        | ((with_reducible apply AWp.skip); try simp -implicitDefEqProofs [he, ht])
        | ((with_reducible apply AWp.exit); try simp -implicitDefEqProofs [he, ht]))
  · repeat (first
      | (with_reducible apply AWp.seq)
      | (with_reducible apply AWp.block)
      | ((with_reducible apply AWp.fork); simp -implicitDefEqProofs)
      | ((with_reducible apply AWp.region); simp -implicitDefEqProofs)
      | (with_reducible refine And.intro (by first | omega | assumption | decide) ?_)
      | ((with_reducible apply aCall.id); first
          | ((apply aCall.gives (rwakes_ok _)); simp -implicitDefEqProofs)
          | ((apply aCall.gives (h1 _)); simp -implicitDefEqProofs)
          | ((apply aCall.gives (h2 _)); simp -implicitDefEqProofs)
          | ((apply aCall.gives (h3 _)); simp -implicitDefEqProofs)
          | ((apply aCall.gives (h4 _)); simp -implicitDefEqProofs)
          | ((apply aCall.gives (h5 _)); simp -implicitDefEqProofs)
          | ((apply aCall.gives (h6 _)); simp -implicitDefEqProofs))
      | ((with_reducible apply AWp.ret); try simp -implicitDefEqProofs)
      | ((with_reducible apply AWp.skip); try simp -implicitDefEqProofs)
      | ((with_reducible apply AWp.exit); try simp -implicitDefEqProofs))
    intro id h_id
    repeat (first
      | (with_reducible apply AWp.seq)
      | (with_reducible apply AWp.block)
      | ((with_reducible apply AWp.fork); simp -implicitDefEqProofs [he])
      | ((with_reducible apply AWp.region); simp -implicitDefEqProofs [he])
      | (with_reducible refine And.intro (by first | omega | assumption | decide) ?_)
      | ((with_reducible show condK _ _ _); simp -implicitDefEqProofs [he])
      | ((with_reducible show guardK _ _ _ _ _ _ _ _ _); simp -implicitDefEqProofs [he])
      | ((with_reducible apply aCall.id); first
          | ((apply aCall.gives (h5 _)); simp -implicitDefEqProofs [he])
          | ((apply aCall.gives (h6 _)); simp -implicitDefEqProofs [he]))
      | ((with_reducible apply AWp.ret); try simp -implicitDefEqProofs [he])
      | ((with_reducible apply AWp.skip); try simp -implicitDefEqProofs [he])
      | ((with_reducible apply AWp.exit); try simp -implicitDefEqProofs [he]))

end Go.Proofs.Ytpekbapmnmnjoaa
