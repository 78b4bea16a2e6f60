/- A layer of abstract values over the model's machine: own work for this claim, part EvHeap. -/
import Derived.Test.YtknalmoackcpbaaGreatEvCore
set_option linter.unusedSimpArgs false
set_option linter.unusedVariables false
namespace Go.AW.Ev
open Go Go.RowKit
variable {P : Program}
/-! ## where elements are taken from -/
def Took (P : Program) (ρ : Ren) (G : Gh) (w : World) (e tx : TypeId) (vx : Value) (n : Nat) (xs : List EV) : Prop :=
  ∃ (news : List Value) (xc : List AV), SrcG P e tx vx n news w ∧ news.length = n * P.cellsOf e ∧ xc.length = news.length ∧ VL ρ xs xc ∧ ∀ k, k < xc.length → Rep P G (xc.getD k .any) (news.getD k undef)
theorem repL_ok {ρ : Ren} {z : List EV} {a : AV} (h : VL ρ z a.cells) : ∀ n, VL ρ (repL n z) (flatZ n a)
  | 0 => .nil
  | n + 1 => by
    show VL ρ (z ++ repL n z) _
    unfold flatZ
    rw [List.replicate_succ, List.flatMap_cons]
    exact h.app (repL_ok h n)
theorem VL.one_cells {ρ : Ren} : ∀ {es : List EV} {as : List AV}, VL ρ es as → allOne es = true → (∀ v ∈ as, v.cells = [v]) ∧ as.all AV.one = true := by
  intro es as h
  induction h with
  | nil => intro _; exact ⟨by simp, rfl⟩
  | cons h t ih =>
    intro ha
    simp only [allOne, Bool.and_eq_true] at ha
    obtain ⟨i1, i2⟩ := ih ha.2
    have ho := h.one ha.1
    refine ⟨fun v hv => ?_, by rw [List.all_cons, ho, i2]; rfl⟩
    rcases List.mem_cons.1 hv with rfl | hv
    · cases v <;> first | rfl | simp [AV.one] at ho
    · exact i1 v hv
theorem took_s {ρ : Ren} {G : Gh} {σ : AS} {w : World} {H : Hp} (hi : Inv P G σ w) (hb : RB P ρ H σ) {e tx e1 : TypeId} (hu : P.underlying tx = some (.slice e1)) {x : EV} {ax : AV} {vx : Value} (hx : VR ρ x ax) (hr : Rep P G ax vx)
    {n : Nat} {xs : List EV} (h : srcS e (P.cellsOf e) x H = some (n, xs)) : Took P ρ G w e tx vx n xs := by
  have msl : ∀ {i a off len cap N : Nat} {ec : Cap}, x = .sl i off len ec → ρ i = some (a, N) → ax = .msl a off len cap → Took P ρ G w e tx vx n xs := by
    rintro i a off len cap N ec rfl hp rfl
    simp only [srcS] at h
    cases hg : H.get i with
    | cells ty cs full =>
      rw [hg] at h
      simp only at h
      cases ht : takeL (dropL cs off) (Nat.mul len (P.cellsOf e)) with
      | none => rw [ht] at h; cases h
      | some l =>
        rw [ht] at h
        simp only [Option.some.injEq, Prod.mk.injEq] at h
        obtain ⟨rfl, rfl⟩ := h
        obtain ⟨t1, rfl⟩ := takeL_eq _ _ _ ht
        rw [dropL_eq, List.length_drop] at t1
        rw [show Nat.mul len (P.cellsOf e) = len * P.cellsOf e from rfl] at t1 ⊢
        obtain ⟨ab, h1, h2⟩ := hb.at hp (by rw [hg]; rfl)
        rw [hg] at h2
        obtain ⟨as, spl, rfl, h3, _⟩ := h2
        have hlen := h3.len
        cases hr with
        | msl hbk =>
          rename_i b
          obtain ⟨b', cur, k1, k2, k3, k4⟩ := hi.cells a ty (as ++ spl) h1
          rw [hbk] at k1
          obtain rfl := Option.some.inj k1
          rw [List.length_append] at k3 k4
          by_cases hl0 : len * P.cellsOf e = 0
          · refine ⟨[], [], ?_, by simp [hl0], rfl, ?_, by simp⟩
            · exact .inl (Src.ofSlice w hu _ len _ [] (by simp [hl0]) (by simp) (by simp))
            · rw [hl0, List.take_zero]; exact .nil
          · have hfit : off + len * P.cellsOf e ≤ as.length := by omega
            refine ⟨(cur.toList.drop off).take (len * P.cellsOf e), (as.drop off).take (len * P.cellsOf e), .inl (Src.ofSlice w hu ⟨b, off, none⟩ len _ _ ?_ (fun j u hj => ?_) (fun u hu' => ?_)), ?_, ?_, ?_, fun k hk => ?_⟩
            · simp; omega
            · have hjl : j < len * P.cellsOf e := by
                rcases Nat.lt_or_ge j (len * P.cellsOf e) with h | h
                · exact h
                · rw [List.getElem?_eq_none (by simp; omega)] at hj; cases hj
              rw [List.getElem?_take_of_lt hjl, List.getElem?_drop] at hj
              rw [Addr.add_lit]
              show w.cell? ⟨b, off + j, none⟩ = some u
              simp only [World.cell?, k2]
              simpa using hj
            · have hm := List.mem_of_mem_take hu'
              obtain ⟨j, hj, rfl⟩ := List.mem_iff_getElem.1 hm
              have hj' : off + j < cur.size := by simp at hj; omega
              have := (k4 (off + j) (by omega)).2
              rw [Array.getD_eq_getD_getElem?, Array.getElem?_eq_getElem hj'] at this
              simpa using this
            · simp; omega
            · simp; omega
            · rw [dropL_eq]; exact (h3.drop _).take _
            · simp only [List.length_take, List.length_drop] at hk
              have := (k4 (off + k) (by omega)).1
              rw [app_getD (by omega)] at this
              rw [List.getD_eq_getElem?_getD, List.getElem?_take_of_lt (by omega), List.getElem?_drop, ← List.getD_eq_getElem?_getD, List.getD_eq_getElem?_getD (l := (cur.toList.drop off).take _), List.getElem?_take_of_lt (by omega), List.getElem?_drop]
              rw [Array.getD_eq_getD_getElem?] at this
              simpa using this
    | _ => rw [hg] at h; cases h
  cases hx with
  | nilS =>
    simp only [srcS, Option.some.injEq, Prod.mk.injEq] at h
    obtain ⟨rfl, rfl⟩ := h
    cases hr
    exact ⟨[], [], .inl (Src.ofNil w hu 0), by simp, rfl, .nil, by simp⟩
  | slK off len c hp => exact msl rfl hp rfl
  | slR off len d hp hl => exact msl rfl hp rfl
  | lst full l hl =>
    rename_i e' es as
    have hv := VL.of l hl
    simp only [srcS] at h
    cases hc : (Nat.beq e' e && Nat.beq (P.cellsOf e) 1 && allOne es) with
    | false => rw [hc] at h; cases h
    | true =>
      rw [hc] at h
      simp only [cond_true, Option.some.injEq, Prod.mk.injEq] at h
      obtain ⟨rfl, rfl⟩ := h
      simp only [Bool.and_eq_true, beq_dec, decide_eq_true_eq] at hc
      obtain ⟨⟨rfl, h1⟩, h2⟩ := hc
      obtain ⟨o1, o2⟩ := hv.one_cells h2
      generalize (if full then Own.full else Own.unk) = own at hr
      cases hr with
      | lstZ =>
        have : es = [] := List.length_eq_zero_iff.1 (by simpa using l)
        subst this
        exact ⟨[], [], .inl (Src.ofSlice w hu _ 0 _ [] (by simp) (by simp) (by simp)), by simp, rfl, .nil, by simp⟩
      | lst vs hl' hm hr' hc' ho =>
        rename_i b off cap
        rw [h1, Nat.mul_one] at hm
        simp only [h1] at hr'
        refine ⟨(List.range as.length).map vs, as, .inl ?_, by simp [h1, l], by simp, hv, fun k hk => ?_⟩
        · rw [l]
          refine Src.ofSlice w hu ⟨b, off, none⟩ as.length cap _ (by simp [h1]) (fun j u hu' => ?_) (fun u hu' => ?_)
          · have hj : j < as.length := by
              rcases Nat.lt_or_ge j as.length with h | h
              · exact h
              · rw [List.getElem?_eq_none (by simpa using h)] at hu'; cases hu'
            simp [hj] at hu'
            subst hu'
            rw [Addr.add_lit]
            exact (hi.mem _ _ _ (hm j hj)).1
          · simp at hu'
            obtain ⟨j, hj, rfl⟩ := hu'
            exact (hi.mem _ _ _ (hm j hj)).2
        · have := hr' k 0 hk (by omega)
          have hmem : as.getD k .any ∈ as := by rw [List.getD_eq_getElem?_getD, List.getElem?_eq_getElem hk]; exact List.getElem_mem _
          rw [o1 _ hmem] at this
          simpa [List.getD_eq_getElem?_getD, hk] using this
  | _ => cases h
theorem took_of_src {ρ : Ren} {G : Gh} {σ : AS} {w : World} (hi : Inv P G σ w) {e tx : TypeId} (hc0 : P.cellsOf e ≠ 0) (hz1 : (zeroAV P e).laid = true) (hz2 : (zeroAV P e).cells.length = P.cellsOf e) {ax : AV} {vx : Value} (hr : Rep P G ax vx) {es : List AV} (h : srcElems P e tx ax = some es)
    (hel : ∀ v ∈ es, v.cells.length = P.cellsOf e) {xs : List EV} (hv : VL ρ xs (flatC es)) : Took P ρ G w e tx vx es.length xs := by
  obtain ⟨news, h1, h2⟩ := src_ok hi hz1 hz2 hr h
  have hfl := flatC_len hel
  refine ⟨news, flatC es, h1, h2.len, by rw [hfl, h2.len], hv, fun k hk => ?_⟩
  exact (flat_rep (P := P) (G := G) (by omega : 0 < P.cellsOf e) hel (vs := fun k => news.getD k undef) (p := fun _ => True) (fun i j hi' hj => ⟨h2.rep i j hi' hj, trivial⟩) k hk).1
theorem took_t {ρ : Ren} {G : Gh} {σ : AS} {w : World} (hi : Inv P G σ w) {e tx : TypeId} (hz1 : (zeroAV P e).laid = true) (hz2 : (zeroAV P e).cells.length = P.cellsOf e) (hu : P.underlying tx = some .string) (he : u8T P e = true) {x : EV} {ax : AV} {vx : Value} (hx : VR ρ x ax) (hr : Rep P G ax vx)
    {n : Nat} {xs : List EV} (h : srcT x = some (n, xs)) : Took P ρ G w e tx vx n xs := by
  obtain ⟨e1, e2⟩ := u8T_eq he
  cases hx with
  | sc v =>
    cases v <;> first | (cases h; done) | skip
    case string s =>
      simp only [srcT, Option.some.injEq, Prod.mk.injEq] at h
      obtain ⟨rfl, rfl⟩ := h
      have hs : srcElems P e tx (.sc (.string s)) = some (s.data.toList.map u8) := by simp [srcElems, hu, e2]
      have hel : ∀ v ∈ s.data.toList.map u8, v.cells.length = P.cellsOf e := by
        intro v hv
        obtain ⟨b, _, rfl⟩ := List.mem_map.1 hv
        rw [e2]; rfl
      have hf : flatC (s.data.toList.map u8) = s.data.toList.map u8 := by
        generalize s.data.toList = l
        induction l with
        | nil => rfl
        | cons b r ih => rw [List.map_cons, flatC_cons, ih]; rfl
      have := took_of_src (ρ := ρ) hi (by omega) hz1 hz2 hr hs hel (xs := u8L s.data.toList) (by rw [hf]; exact u8L_ok _)
      rw [List.length_map] at this
      exact this
  | _ => cases h
theorem took_i {ρ : Ren} {G : Gh} {σ : AS} {w : World} (hi : Inv P G σ w) {e tx : TypeId} {k0 : IntKind} (hc0 : P.cellsOf e ≠ 0) (hz : (zeroV P e).laid = true) (hz2 : (zeroAV P e).cells.length = P.cellsOf e) (hu : P.underlying tx = some (.int k0)) (hb : P.bytesOf e ≤ 1000) {x : EV} {ax : AV} {vx : Value} (hx : VR ρ x ax) (hr : Rep P G ax vx)
    {n : Nat} {xs : List EV} (h : srcI (zeroV P e).cells x = some (n, xs)) : Took P ρ G w e tx vx n xs := by
  have hz1 := laid_av (VR.zero (P := P) ρ e) hz
  cases hx with
  | int k m =>
    cases m with
    | negSucc m => cases h
    | ofNat m =>
      simp only [srcI, ble_dec] at h
      by_cases hm : m ≤ 1000000
      · simp only [hm, decide_true, cond_true, Option.some.injEq, Prod.mk.injEq] at h
        obtain ⟨rfl, rfl⟩ := h
        have hs : srcElems P e tx (.sc (.int k (Int.ofNat m))) = some (List.replicate m (zeroAV P e)) := by
          simp only [srcElems, hu]
          rw [if_pos ⟨by show (0 : Int) ≤ (m : Int); omega, by show (m : Int) ≤ 1000000; omega, hb⟩]
          rfl
        have := took_of_src (ρ := ρ) hi hc0 hz1 hz2 hr hs (fun v hv => by rw [(List.mem_replicate.1 hv).2]; exact hz2) (xs := repL m (zeroV P e).cells) (repL_ok ((VR.zero ρ e).cells hz).1 m)
        rwa [List.length_replicate] at this
      · simp only [hm, decide_false, cond_false] at h; cases h
  | _ => cases h
theorem roomN_ok {be n : Nat} (h : roomN be n = true) : n * be ≤ roomB be ∧ n ≤ 140737488355328 := by
  simp only [roomN, Bool.and_eq_true, ble_dec, decide_eq_true_eq] at h
  obtain ⟨h1, h2⟩ := h
  have h1' : n * be ≤ 1000000000 := h1
  refine ⟨?_, by omega⟩
  unfold roomB
  split
  · omega
  · split <;> omega
theorem R.dropped {ρ : Ren} {σ0 σ : AS} {H : Hp} (h : R P ρ σ0 H σ) {i a N : Nat} (hp : ρ i = some (a, N)) (hl : (H.get i).live = true) : R P ρ σ0 (H.set i .non) (fun j => if j = a then none else σ j) := by
  refine (h.drop (h.rb.lt _ _ hp)).away (fun j b hj => ?_) (fun j x M hlj hj => ?_)
  · have : j ≠ a := by rintro rfl; rw [h.out i _ N hl hp] at hj; cases hj
    simp only [this, if_false]
    exact h.le j b hj
  · have hlt := h.rb.lt _ _ hj
    rw [Hp.get_set (h.rb.lt _ _ hp) hlt] at hlj
    split at hlj
    · cases hlj
    · rename_i hne
      have : x ≠ a := by rintro rfl; exact hne (h.inj j i _ _ _ hlj hl hj hp)
      simp only [this, if_false]
theorem set_if (σ : AS) (a : Nat) (b : ABlk) : AS.set (fun j => if j = a then none else σ j) a b = σ.set a b := by
  funext j
  by_cases h : j = a <;> simp [AS.set, h]
section
variable {ρ : Ren} {G : Gh} {σ σ0 : AS} {w : World} {H H' : Hp} {K Pn : AV → AS → Prop}
theorem app_ok (hi : Inv P G σ w) (hR : R P ρ σ0 H σ) {t tx ty e : TypeId} (he : sliceT P t = some e) (hc0 : P.cellsOf e ≠ 0) (hz1 : (zeroAV P e).laid = true) (hz2 : (zeroAV P e).cells.length = P.cellsOf e)
    {s : EV} {as' : AV} {vs vx : Value} (hs : VR ρ s as') (hrs : Rep P G as' vs) {src : Option (Nat × List EV)} (hsrc : ∀ n xs, src = some (n, xs) → Took P ρ G w e tx vx n xs) {v : EV}
    (h0 : appE e (P.cellsOf e) (P.bytesOf e) src s H = .ok v H') : H.c ≤ H'.c ∧ ((∀ ρ' av σ', Ren.le ρ ρ' → VR ρ' v av → R P ρ' σ0 H' σ' → K av σ') →
    Out P G K Pn (((do pure (Next.value (← Builtin.append_ #[t, tx] ty #[vs, vx]))) : Sem Next).run P w)) := by
  have hu := sliceT_eq he
  unfold appE at h0
  cases src with
  | none => cases h0
  | some p =>
    obtain ⟨n, xs⟩ := p
    obtain ⟨news, xc, t1, t2, t3, t4, t5⟩ := hsrc n xs rfl
    have hxl := t4.len
    simp only at h0
    -- a new block
    have fresh : ∀ {H1 : Hp} {σ1 : AS} {len : Nat} {old : List EV} {oc : List AV}, R P ρ σ0 H1 σ1 → H1.c < 32768 → old.length = len * P.cellsOf e → VL ρ old oc → (∀ j, σ1 j = σ j ∨ σ1 j = none) → v = .sl H1.c 0 (len + n) (.rest 0) → H' = H1.new (.cells e (old ++ xs) false) →
        (∀ ρ' av σ', Ren.le ρ ρ' → VR ρ' v av → R P ρ' σ0 H' σ' → K av σ') → ∀ id nc zs, σ id = none → len + n ≤ nc → zs.length = (nc - (len + n)) * P.cellsOf e → (∀ j, j = id ∨ σ1 j = none ∨ (σ.set id (.cells e (oc ++ xc ++ zs))) j = σ1 j) → K (.msl id 0 (len + n) nc) (σ.set id (.cells e (oc ++ xc ++ zs))) := by
      intro H1 σ1 len old oc hR1 hc1 hol hov hσ1 hv hH' hk id nc zs hid hnc hzs hsame
      have hid1 : σ1 id = none := by rcases hσ1 id with h | h; rw [h]; exact hid; exact h
      have hbr : BR P (ρ.ext H1.c (id, nc)) nc (.cells e (old ++ xs) false) (.cells e (oc ++ xc ++ zs)) := by
        have hle := Ren.le_ext (hR1.fresh _ (Nat.le_refl _)) (id, nc)
        refine ⟨oc ++ xc, zs, rfl, (hov.app t4).mono hle, (fun h => by cases h), fun _ => ?_⟩
        have l1 := hov.len
        rw [hzs, List.length_append, ← l1, hol, t3, t2, ← Nat.add_mul, ← Nat.add_mul]
        congr 1; omega
      obtain ⟨g1, g2⟩ := hR1.new hc1 hid1 hbr
      subst hv hH'
      refine hk _ _ _ g1 ?_ (g2.away ?_ ?_)
      · have := VR.slR (ρ := ρ.ext H1.c (id, nc)) (i := H1.c) 0 (len + n) 0 (Ren.ext_same ρ H1.c (id, nc)) (by omega : len + n ≤ nc - 0)
        exact this
      · intro j b hj
        by_cases hji : j = id
        · subst hji
          have := hR1.le j b hj
          rw [hid1] at this; cases this
        · have h1 := hR1.le j b hj
          rcases hsame j with h | h | h
          · exact absurd h hji
          · rw [h] at h1; cases h1
          · rw [h]; exact h1
      · intro j x M hlj hj
        by_cases hx : x = id
        · subst hx; simp
        · rw [AS.set_ne _ _ hx]
          obtain ⟨ab, q1, _⟩ := g2.rb.at hj hlj
          rw [AS.set_ne _ _ hx] at q1
          rcases hsame x with h | h | h
          · exact absurd h hx
          · rw [h] at q1; cases q1
          · rw [AS.set_ne _ _ hx] at h
            rw [AS.set_ne _ _ hx]
            exact h
    cases hs with
    | nilS =>
      simp only [beq_dec] at h0
      cases hrs
      by_cases hn : n = 0
      · subst hn
        simp only [decide_true, cond_true, Res.ok.injEq] at h0
        obtain ⟨rfl, rfl⟩ := h0
        refine ⟨Nat.le_refl _, fun hk => ?_⟩
        have hn0 : news = [] := by simpa using t2
        subst hn0
        obtain ⟨it, hit, _⟩ := info_of_cells (P := P) (t := e) hc0
        exact Out.value (app_zero hu hit t1) (.refl G) hi .nilS (hk ρ _ _ (.refl ρ) .nilS hR)
      · simp only [hn, decide_false, cond_false] at h0
        cases hc : (roomN (P.bytesOf e) n && Nat.blt H.c 32768) with
        | false => rw [hc] at h0; cases h0
        | true =>
          rw [hc] at h0
          simp only [cond_true, Res.ok.injEq] at h0
          obtain ⟨rfl, rfl⟩ := h0
          simp only [Bool.and_eq_true, blt_dec, decide_eq_true_eq] at hc
          obtain ⟨r1, r2⟩ := roomN_ok hc.1
          refine ⟨Nat.le_succ _, fun hk => ?_⟩
          refine grow_out (len := 0) (cap := 0) (n := n) (oc := []) (olds := []) hi he hc0 hz1 hz2 t1 t2 t3 t5 (by simp) rfl (by simp) (by simp [Builtin.firstCells]) (by omega) (by simpa using r1) (by simpa using r2) ?_
          intro id nc zs hid hnc hzs
          exact fresh (old := []) (oc := []) hR hc.2 (by simp) .nil (fun j => .inl rfl) (by simp) (by simp) hk id nc zs hid hnc hzs (fun j => by
            by_cases hj : j = id
            · exact .inl hj
            · exact .inr (.inr (AS.set_ne _ _ hj)))
    | slK off len c hp =>
      rename_i i a N
      simp only at h0
      cases hg : H.get i with
      | cells ety cs full =>
        rw [hg] at h0
        simp only at h0
        cases ht : takeL (dropL cs off) (Nat.mul len (P.cellsOf e)) with
        | none => rw [ht] at h0; cases h0
        | some old =>
          rw [ht] at h0
          simp only at h0
          obtain ⟨k1, rfl⟩ := takeL_eq _ _ _ ht
          rw [dropL_eq, List.length_drop] at k1
          rw [show Nat.mul len (P.cellsOf e) = len * P.cellsOf e from rfl] at k1 h0
          cases hc : (roomN (P.bytesOf e) (Nat.add len n) && Nat.blt H.c 32768 && Nat.beq ety e) with
          | false => rw [hc] at h0; cases h0
          | true =>
            rw [hc] at h0
            simp only [Bool.and_eq_true, blt_dec, beq_dec, decide_eq_true_eq] at hc
            obtain ⟨⟨c1, c2⟩, rfl⟩ := hc
            obtain ⟨r1, r2⟩ := roomN_ok c1
            simp only [cond_true, ble_dec] at h0
            obtain ⟨ab, h1, h2⟩ := hR.rb.at hp (by rw [hg]; rfl)
            rw [hg] at h2
            obtain ⟨as, spl, rfl, h3, h4, h5⟩ := h2
            have hlen := h3.len
            by_cases hroom : Nat.add len n ≤ c
            · simp only [hroom, decide_true, cond_true] at h0
              cases hput : putL cs (Nat.add off (len * P.cellsOf ety)) xs with
              | none => rw [hput] at h0; cases h0
              | some cs' =>
                rw [hput] at h0
                simp only [Res.ok.injEq] at h0
                obtain ⟨rfl, rfl⟩ := h0
                obtain ⟨p1, rfl⟩ := putL_eq _ _ _ _ hput
                rw [show Nat.add off (len * P.cellsOf ety) = off + len * P.cellsOf ety from rfl] at p1 ⊢
                refine ⟨Nat.le_refl _, fun hk => ?_⟩
                refine room_out hi he hc0 hrs h1 t1 t2 t3 t5 hroom (by rw [List.length_append]; omega) (hk ρ _ _ (.refl ρ) (.slK _ _ _ hp) (hR.set hp (by rw [hg]; rfl) ?_))
                refine ⟨as.take (off + len * P.cellsOf ety) ++ xc ++ as.drop (off + len * P.cellsOf ety + xc.length), spl, ?_, ?_, h4, fun hf => ?_⟩
                · rw [List.take_append_of_le_length (by omega), List.drop_append_of_le_length (by omega)]
                  simp only [List.append_assoc]
                · rw [← hxl]
                  exact ((h3.take _).app t4).app (h3.drop _)
                · rw [← h5 hf]; simp; omega
            · simp only [hroom, decide_false, cond_false, Res.ok.injEq] at h0
              obtain ⟨rfl, rfl⟩ := h0
              refine ⟨Nat.le_succ _, fun hk => ?_⟩
              cases hrs with
              | msl hb =>
                rename_i b
                obtain ⟨b', cur, q1, q2, q3, q4⟩ := hi.cells a ety (as ++ spl) h1
                rw [hb] at q1
                obtain rfl := Option.some.inj q1
                rw [List.length_append] at q3 q4
                by_cases hl0 : len * P.cellsOf ety = 0
                · have hlz : len = 0 := by rcases Nat.mul_eq_zero.1 hl0 with h | h; exact h; exact absurd h hc0
                  subst hlz
                  refine grow_out (len := 0) (cap := c) (n := n) (oc := []) (olds := []) hi he hc0 hz1 hz2 t1 t2 t3 t5 (by simp) rfl (by simp) (run_firstCells_some (P := P) w.drew _ 0 ⟨b, off, none⟩ 0 c [] (by simp) (by simp)) (by rw [show Nat.add 0 n = 0 + n from rfl] at hroom; omega) (by simpa using r1) (by simpa using r2) ?_
                  intro id nc zs hid hnc hzs
                  exact fresh (len := 0) (old := []) (oc := []) hR c2 (by simp) .nil (fun j => .inl rfl) (by simp) (by simp) hk id nc zs hid hnc hzs (fun j => by
                    by_cases hj : j = id
                    · exact .inl hj
                    · exact .inr (.inr (AS.set_ne _ _ hj)))
                · have hfit : off + len * P.cellsOf ety ≤ as.length := by omega
                  refine grow_out (len := len) (cap := c) (n := n) (oc := (as.drop off).take (len * P.cellsOf ety)) (olds := (cur.toList.drop off).take (len * P.cellsOf ety)) hi he hc0 hz1 hz2 t1 t2 t3 t5 (by simp; omega) (by simp; omega) (fun k hk => ?_)
                    (run_firstCells_some (P := P) w.drew _ len ⟨b, off, none⟩ len c _ (by simp; omega) (fun j u hj => ?_)) (by rw [show Nat.add len n = len + n from rfl] at hroom; omega) r1 r2 ?_
                  · simp only [List.length_take, List.length_drop] at hk
                    have := q4 (off + k) (by omega)
                    rw [app_getD (by omega)] at this
                    rw [List.getD_eq_getElem?_getD, List.getElem?_take_of_lt (by omega), List.getElem?_drop, ← List.getD_eq_getElem?_getD, List.getD_eq_getElem?_getD (l := (cur.toList.drop off).take _), List.getElem?_take_of_lt (by omega), List.getElem?_drop]
                    rw [Array.getD_eq_getD_getElem?] at this
                    simpa using this
                  · have hjl : j < len * P.cellsOf ety := by
                      rcases Nat.lt_or_ge j (len * P.cellsOf ety) with h | h
                      · exact h
                      · rw [List.getElem?_eq_none (by simp; omega)] at hj; cases hj
                    rw [List.getElem?_take_of_lt hjl, List.getElem?_drop] at hj
                    rw [Addr.add_lit]
                    show w.cell? ⟨b, off + j, none⟩ = some u
                    simp only [World.cell?, q2]
                    simpa using hj
                  · intro id nc zs hid hnc hzs
                    exact fresh (len := len) (old := (dropL cs off).take (len * P.cellsOf ety)) (oc := (as.drop off).take (len * P.cellsOf ety)) hR c2 (by rw [dropL_eq]; simp; omega) (by rw [dropL_eq]; exact (h3.drop _).take _) (fun j => .inl rfl) rfl rfl hk id nc zs hid hnc hzs (fun j => by
                      by_cases hj : j = id
                      · exact .inl hj
                      · exact .inr (.inr (AS.set_ne _ _ hj)))
      | _ => rw [hg] at h0; cases h0
    | slR off len d hp hlen =>
      rename_i i a N
      simp only at h0
      cases hg : H.get i with
      | cells ety cs full =>
        rw [hg] at h0
        simp only at h0
        cases ht : takeL (dropL cs off) (Nat.mul len (P.cellsOf e)) with
        | none => rw [ht] at h0; cases h0
        | some old =>
          rw [ht] at h0
          simp only at h0
          obtain ⟨k1, rfl⟩ := takeL_eq _ _ _ ht
          rw [dropL_eq, List.length_drop] at k1
          rw [show Nat.mul len (P.cellsOf e) = len * P.cellsOf e from rfl] at k1 h0
          cases hc : (roomN (P.bytesOf e) (Nat.add len n) && Nat.blt H.c 32768 && Nat.beq ety e) with
          | false => rw [hc] at h0; cases h0
          | true =>
            rw [hc] at h0
            simp only [Bool.and_eq_true, blt_dec, beq_dec, decide_eq_true_eq] at hc
            obtain ⟨⟨c1, c2⟩, rfl⟩ := hc
            obtain ⟨r1, r2⟩ := roomN_ok c1
            simp only [cond_true] at h0
            cases hc' : (Nat.beq d 0 && Nat.beq off 0 && !full) with
            | false => rw [hc'] at h0; cases h0
            | true =>
              rw [hc'] at h0
              simp only [Bool.and_eq_true, beq_dec, decide_eq_true_eq, Bool.not_eq_true'] at hc'
              obtain ⟨⟨rfl, rfl⟩, rfl⟩ := hc'
              have hd0 : dropL cs 0 = cs := by rw [dropL_eq, List.drop_zero]
              rw [hd0] at ht h0
              simp only [cond_true, Res.ok.injEq] at h0
              obtain ⟨rfl, rfl⟩ := h0
              obtain ⟨ab, h1, h2⟩ := hR.rb.at hp (by rw [hg]; rfl)
              rw [hg] at h2
              obtain ⟨as, spl, rfl, h3, h4, h5⟩ := h2
              have hlen' := h3.len
              have htot := h5 rfl
              have hli : (H.get i).live = true := by rw [hg]; rfl
              have hc3 : (H.set i .non).c < 32768 := c2
              refine ⟨Nat.le_succ _, fun hk => ?_⟩
              have hfit : len * P.cellsOf ety ≤ as.length := by omega
              have hRd := hR.dropped hp hli
              by_cases hroom : len + n ≤ N - 0
              · have hN : (len + n) * P.cellsOf ety ≤ N * P.cellsOf ety := Nat.mul_le_mul_right _ (by omega)
                rw [Nat.add_mul] at hN
                refine room_out hi he hc0 hrs h1 t1 t2 t3 t5 hroom (by rw [List.length_append]; omega) ?_
                -- the same block under a new name
                have hbr : BR P (ρ.ext (H.set i .non).c (a, N)) N (.cells ety (cs.take (len * P.cellsOf ety) ++ xs) false) (.cells ety ((as ++ spl).take (0 + len * P.cellsOf ety) ++ xc ++ (as ++ spl).drop (0 + len * P.cellsOf ety + xc.length))) := by
                  have hle := Ren.le_ext (hRd.fresh _ (Nat.le_refl _)) (a, N)
                  refine ⟨as.take (len * P.cellsOf ety) ++ xc, (as ++ spl).drop (len * P.cellsOf ety + xc.length), ?_, ((h3.take _).app t4).mono hle, (fun h => by cases h), fun _ => ?_⟩
                  · rw [Nat.zero_add, List.take_append_of_le_length (by omega)]
                  · simp; omega
                obtain ⟨g1, g2⟩ := hRd.new hc3 (by simp) hbr
                rw [set_if] at g2
                refine hk _ _ _ g1 ?_ g2
                exact VR.slR (ρ := ρ.ext (H.set i .non).c (a, N)) (i := (H.set i .non).c) 0 (len + n) 0 (Ren.ext_same ρ (H.set i .non).c (a, N)) hroom
              · cases hrs with
                | msl hb =>
                  rename_i b
                  obtain ⟨b', cur, q1, q2, q3, q4⟩ := hi.cells a ety (as ++ spl) h1
                  rw [hb] at q1
                  obtain rfl := Option.some.inj q1
                  rw [List.length_append] at q3 q4
                  refine grow_out (len := len) (cap := N - 0) (n := n) (oc := as.take (len * P.cellsOf ety)) (olds := cur.toList.take (len * P.cellsOf ety)) hi he hc0 hz1 hz2 t1 t2 t3 t5 (by simp; omega) (by simp; omega) (fun k hk => ?_)
                    (run_firstCells_some (P := P) w.drew _ len ⟨b, 0, none⟩ len (N - 0) _ (by simp; omega) (fun j u hj => ?_)) (by omega) r1 r2 ?_
                  · simp only [List.length_take] at hk
                    have := q4 k (by omega)
                    rw [app_getD (by omega)] at this
                    rw [List.getD_eq_getElem?_getD, List.getElem?_take_of_lt (by omega), ← List.getD_eq_getElem?_getD, List.getD_eq_getElem?_getD (l := cur.toList.take _), List.getElem?_take_of_lt (by omega)]
                    rw [Array.getD_eq_getD_getElem?] at this
                    simpa using this
                  · have hjl : j < len * P.cellsOf ety := by
                      rcases Nat.lt_or_ge j (len * P.cellsOf ety) with h | h
                      · exact h
                      · rw [List.getElem?_eq_none (by simp; omega)] at hj; cases hj
                    rw [List.getElem?_take_of_lt hjl] at hj
                    rw [Addr.add_lit, Nat.zero_add]
                    show w.cell? ⟨b, j, none⟩ = some u
                    simp only [World.cell?, q2]
                    simpa using hj
                  · intro id nc zs hid hnc hzs
                    refine fresh (len := len) (old := cs.take (len * P.cellsOf ety)) (oc := as.take (len * P.cellsOf ety)) hRd hc3 (by simp; omega) (h3.take _) (fun j => ?_) rfl rfl hk id nc zs hid hnc hzs (fun j => ?_)
                    · by_cases hj : j = a
                      · exact .inr (by simp [hj])
                      · exact .inl (by simp [hj])
                    · by_cases hj : j = id
                      · exact .inl hj
                      · by_cases hja : j = a
                        · exact .inr (.inl (by simp [hja]))
                        · exact .inr (.inr (by rw [AS.set_ne _ _ hj]; simp [hja]))
      | _ => rw [hg] at h0; cases h0
    | lst full l hl =>
      rename_i e' es as
      have hv := VL.of l hl
      cases full with
      | false => cases h0
      | true =>
        simp only at h0
        cases hc : (roomN (P.bytesOf e) (Nat.add es.length n) && Nat.blt H.c 32768 && Nat.beq e' e && Nat.beq (P.cellsOf e) 1 && allOne es && Nat.blt 0 n) with
        | false => rw [hc] at h0; cases h0
        | true =>
          rw [hc] at h0
          simp only [cond_true, Res.ok.injEq] at h0
          obtain ⟨rfl, rfl⟩ := h0
          simp only [Bool.and_eq_true, blt_dec, beq_dec, decide_eq_true_eq] at hc
          obtain ⟨⟨⟨⟨⟨c1, c2⟩, rfl⟩, c4⟩, c5⟩, c6⟩ := hc
          obtain ⟨r1, r2⟩ := roomN_ok c1
          obtain ⟨o1, o2⟩ := hv.one_cells c5
          refine ⟨Nat.le_succ _, fun hk => ?_⟩
          have hrs' : Rep P G (.lst e' as .full false) vs := hrs
          cases hrs' with
          | lst vs' hl' hm hr' hc' ho =>
            rename_i b off cap
            rw [c4, Nat.mul_one] at hm
            simp only [c4] at hr'
            obtain ⟨a0, hown⟩ := ho
            have hcap : cap = as.length := by injection hown
            refine grow_out (len := as.length) (cap := cap) (n := n) (oc := as) (olds := (List.range as.length).map vs') hi he hc0 hz1 hz2 t1 t2 t3 t5 (by simp [c4]) (by simp) (fun k hk => ?_)
              (run_firstCells_some (P := P) w.drew _ as.length ⟨b, off, none⟩ as.length cap _ (by simp [c4]) (fun j u hj => ?_)) (by omega) (by rw [← l]; exact r1) (by rw [← l]; exact r2) ?_
            · have h6 := hr' k 0 hk (by omega)
              have hmem : as.getD k .any ∈ as := by rw [List.getD_eq_getElem?_getD, List.getElem?_eq_getElem hk]; exact List.getElem_mem _
              rw [o1 _ hmem] at h6
              have h7 := (hi.mem _ _ _ (hm k hk)).2
              refine ⟨by simpa [List.getD_eq_getElem?_getD, hk] using h6, by simpa [List.getD_eq_getElem?_getD, hk] using h7⟩
            · have hj' : j < as.length := by
                rcases Nat.lt_or_ge j as.length with h | h
                · exact h
                · rw [List.getElem?_eq_none (by simpa using h)] at hj; cases hj
              simp [hj'] at hj
              subst hj
              rw [Addr.add_lit]
              exact (hi.mem _ _ _ (hm j hj')).1
            · intro id nc zs hid hnc hzs
              exact fresh (len := as.length) (old := es) (oc := as) hR c2 (by rw [c4, l, Nat.mul_one]) hv (fun j => .inl rfl) (by rw [← l]; rfl) rfl hk id nc zs hid hnc hzs (fun j => by
                by_cases hj : j = id
                · exact .inl hj
                · exact .inr (.inr (AS.set_ne _ _ hj)))
    | _ => cases h0
end
end Go.AW.Ev

set_option linter.unusedSimpArgs false
set_option linter.unusedVariables false
namespace Go.AW.Ev
open Go Go.RowKit
variable {P : Program}
section
variable {ρ : Ren} {G : Gh} {σ σ0 : AS} {w : World} {H H' : Hp} {K Pn : AV → AS → Prop}
theorem VL.all_one {es : List EV} {as : List AV} (h : VL ρ es as) (ha : allOne es = true) : as.all AV.one = true := (h.one_cells ha).2
theorem copy_ok (hR : R P ρ σ0 H σ) {t e : TypeId} (he : sliceT P t = some e) (hc0 : P.cellsOf e ≠ 0) {x y : EV} {ax ay : AV} (hx : VR ρ x ax) (hy : VR ρ y ay) {v : EV}
    (h0 : copyE e (P.cellsOf e) (srcC e (P.cellsOf e) y H) x H = .ok v H') : H.c ≤ H'.c ∧ ((∀ ρ' av σ', Ren.le ρ ρ' → VR ρ' v av → R P ρ' σ0 H' σ' → K av σ') → aCopy P σ t ax ay K) := by
  have main : ∀ {i a off len cap N : Nat} {ec : Cap}, x = .sl i off len ec → ρ i = some (a, N) → ax = .msl a off len cap → H.c ≤ H'.c ∧ ((∀ ρ' av σ', Ren.le ρ ρ' → VR ρ' v av → R P ρ' σ0 H' σ' → K av σ') → aCopy P σ t ax ay K) := by
    rintro i a off len cap N ec rfl hp rfl
    simp only [copyE] at h0
    cases hs : srcC e (P.cellsOf e) y H with
    | none => rw [hs] at h0; cases h0
    | some p =>
      obtain ⟨n, xs⟩ := p
      rw [hs] at h0
      cases hg : H.get i with
      | cells ty cs full =>
        rw [hg] at h0
        simp only at h0
        cases ht : takeL xs (Nat.mul (Nat.min n len) (P.cellsOf e)) with
        | none => rw [ht] at h0; cases h0
        | some ys =>
          rw [ht] at h0
          simp only at h0
          cases ht2 : partL cs off (Nat.mul len (P.cellsOf e)) with
          | none => rw [ht2] at h0; cases h0
          | some zs =>
            cases hput : putL cs off ys with
            | none => rw [ht2, hput] at h0; cases h0
            | some cs' =>
              rw [ht2, hput] at h0
              simp only [Res.ok.injEq] at h0
              obtain ⟨rfl, rfl⟩ := h0
              obtain ⟨p1, rfl⟩ := putL_eq _ _ _ _ hput
              obtain ⟨q1, rfl⟩ := takeL_eq _ _ _ ht
              obtain ⟨r1, _⟩ := partL_eq _ _ _ _ ht2
              rw [show Nat.mul (Nat.min n len) (P.cellsOf e) = Nat.min n len * P.cellsOf e from rfl] at p1 q1 ⊢
              rw [show Nat.mul len (P.cellsOf e) = len * P.cellsOf e from rfl] at r1
              obtain ⟨ab, h1, h2⟩ := hR.rb.at hp (by rw [hg]; rfl)
              rw [hg] at h2
              obtain ⟨as, spl, rfl, h3, h4, h5⟩ := h2
              have hlen := h3.len
              -- the source's cells
              have src : ∃ av, copyCells P σ e ay = some (n, av) ∧ VL ρ xs av := by
                have msl : ∀ {j b of2 n2 cap2 M : Nat} {ec : Cap}, y = .sl j of2 n2 ec → ρ j = some (b, M) → ay = .msl b of2 n2 cap2 → ∃ av, copyCells P σ e ay = some (n, av) ∧ VL ρ xs av := by
                  rintro j b of2 n2 cap2 M ec rfl hpj rfl
                  simp only [srcC] at hs
                  cases hgj : H.get j with
                  | cells ty2 cs2 full2 =>
                    rw [hgj] at hs
                    simp only at hs
                    cases htj : partL cs2 of2 (Nat.mul n2 (P.cellsOf e)) with
                    | none => rw [htj] at hs; cases hs
                    | some l =>
                      rw [htj] at hs
                      simp only [Option.some.injEq, Prod.mk.injEq] at hs
                      obtain ⟨rfl, rfl⟩ := hs
                      obtain ⟨t1, rfl⟩ := partL_eq _ _ _ _ htj
                      rw [show Nat.mul n2 (P.cellsOf e) = n2 * P.cellsOf e from rfl] at t1 ⊢
                      obtain ⟨ab2, g1, g2⟩ := hR.rb.at hpj (by rw [hgj]; rfl)
                      rw [hgj] at g2
                      obtain ⟨as2, spl2, rfl, g3, _⟩ := g2
                      have gl := g3.len
                      refine ⟨(as2.drop of2).take (n2 * P.cellsOf e), ?_, (g3.drop _).take _⟩
                      simp only [copyCells, g1]
                      rw [if_pos (by rw [List.length_append]; omega), app_part (by omega)]
                  | _ => rw [hgj] at hs; cases hs
                cases hy with
                | nilS => cases hs
                | slK of2 n2 c2 hpj => exact msl rfl hpj rfl
                | slR of2 n2 d2 hpj hl => exact msl rfl hpj rfl
                | lst fl l hl =>
                  rename_i e' es as2
                  have hv := VL.of l hl
                  simp only [srcC] at hs
                  cases hcc : (Nat.beq e' e && Nat.beq (P.cellsOf e) 1 && allOne es) with
                  | false => rw [hcc] at hs; cases hs
                  | true =>
                    rw [hcc] at hs
                    simp only [cond_true, Option.some.injEq, Prod.mk.injEq] at hs
                    obtain ⟨rfl, rfl⟩ := hs
                    simp only [Bool.and_eq_true, beq_dec, decide_eq_true_eq] at hcc
                    obtain ⟨⟨rfl, c4⟩, c5⟩ := hcc
                    refine ⟨as2, ?_, hv⟩
                    simp only [copyCells]
                    rw [if_pos ⟨trivial, c4, hv.all_one c5⟩, l]
                | _ => cases hs
              obtain ⟨av, s1, s2⟩ := src
              have s3 := s2.len
              refine ⟨Nat.le_refl _, fun hk => ?_⟩
              unfold aCopy
              simp only [he, h1, s1]
              have hmin : Nat.min n len * P.cellsOf e ≤ av.length := by omega
              refine ⟨hc0, ?_, ?_⟩
              · rw [List.length_append]; omega
              · have hyl : (av.take (Nat.min n len * P.cellsOf e)).length = (xs.take (Nat.min n len * P.cellsOf e)).length := by simp; omega
                refine hk ρ _ _ (.refl ρ) (.int _ _) (hR.set hp (by rw [hg]; rfl) ?_)
                refine ⟨as.take off ++ av.take (Nat.min n len * P.cellsOf e) ++ as.drop (off + (av.take (Nat.min n len * P.cellsOf e)).length), spl, ?_, ?_, h4, fun hf => ?_⟩
                · rw [List.take_append_of_le_length (by omega), List.drop_append_of_le_length (by omega)]
                  simp only [List.append_assoc]
                · rw [hyl]
                  exact ((h3.take _).app (s2.take _)).app (h3.drop _)
                · rw [← h5 hf]; rw [List.length_append, List.length_append, List.length_take, List.length_drop]; omega
      | _ => rw [hg] at h0; cases h0
  cases hx with
  | slK off len c hp => exact main rfl hp rfl
  | slR off len d hp hl => exact main rfl hp rfl
  | _ => cases h0
/-! ## maps -/
theorem bs_iff {a b : ByteArray} : eqB a b = decide (a = b) := by
  unfold eqB
  congr 1
  simp only [eq_iff_iff]
  constructor
  · intro h
    cases a; cases b
    simp only at h
    rw [Array.toList_inj.1 h]
  · rintro rfl; rfl
theorem findE_str {k : ByteArray} : ∀ {es : List (EV × EV)} {as : List (AV × AV)} {r : Option EV}, PL ρ es as → ((∃ kvs, as = skvs kvs) ∨ ∃ kvs, as = ikvs kvs) → findE (.sc (.string k)) es = some r →
    (∀ kvs, as = skvs kvs → match r with | some v => ∃ a, findS k kvs = some a ∧ VR ρ v a | none => findS k kvs = none) ∧ ∃ kvs, as = skvs kvs := by
  intro es
  induction es with
  | nil =>
    intro as r hp hk h
    cases as with
    | cons _ _ => exact hp.elim
    | nil =>
      simp only [findE, Option.some.injEq] at h
      subst h
      refine ⟨fun kvs hkv => ?_, [], rfl⟩
      cases kvs with
      | nil => rfl
      | cons _ _ => simp [skvs] at hkv
  | cons p es ih =>
    intro as r hp hk h
    obtain ⟨k', v⟩ := p
    cases as with
    | nil => exact hp.elim
    | cons q as =>
      obtain ⟨qk, qv⟩ := q
      obtain ⟨h1, h2, h3⟩ := hp
      simp only [findE] at h
      cases h1 <;> (try simp only at h) <;> first | (cases h; done) | skip
      rename_i kv
      cases kv <;> (try simp only at h) <;> first | (cases h; done) | skip
      rename_i b
      -- the first key is a text
      have hs : ∃ kvs, (AV.sc (.string b), qv) :: as = skvs kvs := by
        rcases hk with hk | ⟨kvs, hk⟩
        · exact hk
        · cases kvs with
          | nil => simp [ikvs] at hk
          | cons _ _ => simp [ikvs] at hk
      obtain ⟨kvs0, hk0⟩ := hs
      cases kvs0 with
      | nil => simp [skvs] at hk0
      | cons q0 kvs0 =>
        obtain ⟨b0, v0⟩ := q0
        simp only [skvs, List.map_cons, List.cons.injEq, Prod.mk.injEq, AV.sc.injEq, Value.string.injEq] at hk0
        obtain ⟨⟨rfl, rfl⟩, hrest⟩ := hk0
        refine ⟨fun kvs hkv => ?_, (b, qv) :: kvs0, by simp [skvs, hrest]⟩
        cases kvs with
        | nil => simp [skvs] at hkv
        | cons q1 kvs =>
          obtain ⟨b1, v1⟩ := q1
          simp only [skvs, List.map_cons, List.cons.injEq, Prod.mk.injEq, AV.sc.injEq, Value.string.injEq] at hkv
          obtain ⟨⟨rfl, rfl⟩, hrest1⟩ := hkv
          rw [bs_iff] at h
          by_cases he : k = b
          · simp only [he, decide_true, cond_true, Option.some.injEq] at h
            subst h
            exact ⟨_, by simp [findS, he], h2⟩
          · simp only [he, decide_false, cond_false] at h
            have := (ih h3 (.inl ⟨kvs, hrest1⟩) h).1 kvs hrest1
            simpa only [findS, if_neg he] using this
theorem findE_int {k : Int} : ∀ {es : List (EV × EV)} {as : List (AV × AV)} {r : Option EV}, PL ρ es as → ((∃ kvs, as = skvs kvs) ∨ ∃ kvs, as = ikvs kvs) → findE (.int .i64 k) es = some r →
    (∀ kvs, as = ikvs kvs → match r with | some v => ∃ a, findI k kvs = some a ∧ VR ρ v a | none => findI k kvs = none) ∧ ∃ kvs, as = ikvs kvs := by
  intro es
  induction es with
  | nil =>
    intro as r hp hk h
    cases as with
    | cons _ _ => exact hp.elim
    | nil =>
      simp only [findE, Option.some.injEq] at h
      subst h
      refine ⟨fun kvs hkv => ?_, [], rfl⟩
      cases kvs with
      | nil => rfl
      | cons _ _ => simp [ikvs] at hkv
  | cons p es ih =>
    intro as r hp hk h
    obtain ⟨k', v⟩ := p
    cases as with
    | nil => exact hp.elim
    | cons q as =>
      obtain ⟨qk, qv⟩ := q
      obtain ⟨h1, h2, h3⟩ := hp
      simp only [findE] at h
      cases h1 <;> (try simp only at h) <;> first | (cases h; done) | skip
      rename_i kd b
      cases kd <;> (try simp only at h) <;> first | (cases h; done) | skip
      have hs : ∃ kvs, (AV.sc (.int .i64 b), qv) :: as = ikvs kvs := by
        rcases hk with ⟨kvs, hk⟩ | hk
        · cases kvs with
          | nil => simp [skvs] at hk
          | cons _ _ => simp [skvs] at hk
        · exact hk
      obtain ⟨kvs0, hk0⟩ := hs
      cases kvs0 with
      | nil => simp [ikvs] at hk0
      | cons q0 kvs0 =>
        obtain ⟨b0, v0⟩ := q0
        simp only [ikvs, List.map_cons, List.cons.injEq, Prod.mk.injEq, AV.sc.injEq, Value.int.injEq, true_and] at hk0
        obtain ⟨⟨rfl, rfl⟩, hrest⟩ := hk0
        refine ⟨fun kvs hkv => ?_, (b, qv) :: kvs0, by simp [ikvs, hrest]⟩
        cases kvs with
        | nil => simp [ikvs] at hkv
        | cons q1 kvs =>
          obtain ⟨b1, v1⟩ := q1
          simp only [ikvs, List.map_cons, List.cons.injEq, Prod.mk.injEq, AV.sc.injEq, Value.int.injEq, true_and] at hkv
          obtain ⟨⟨rfl, rfl⟩, hrest1⟩ := hkv
          rw [eqI_eq] at h
          by_cases he : k = b
          · simp only [he, decide_true, cond_true, Option.some.injEq] at h
            subst h
            exact ⟨_, by simp [findI, he], h2⟩
          · simp only [he, decide_false, cond_false] at h
            have := (ih h3 (.inr ⟨kvs, hrest1⟩) h).1 kvs hrest1
            simpa only [findI, if_neg he] using this
theorem lookV_ok {et : TypeId} {ok : Bool} {r : Option EV} {q : Option AV} (h : match r with | some v => ∃ a, q = some a ∧ VR ρ v a | none => q = none) : VR ρ (lookV ok (zeroV P et) r) (AW.lookV P et q ok) := by
  cases r with
  | some v =>
    obtain ⟨a, rfl, hv⟩ := h
    cases ok
    · exact hv
    · exact VR.tup' (.cons hv (.cons (.bool true) .nil))
  | none =>
    simp only at h
    subst h
    cases ok
    · exact VR.zero ρ et
    · exact VR.tup' (.cons (VR.zero ρ et) (.cons (.bool false) .nil))
theorem lookup_ok (hi : Inv P G σ w) (hb : RB P ρ H σ) {t kt et : TypeId} (hm : P.underlying t = some (.map kt et)) (hkt : keyT P kt = true) (hz : (zeroV P et).laid = true) {ok : Bool} {x k : EV} {ax ak : AV} {vx vk : Value}
    (hx : VR ρ x ax) (hk : VR ρ k ak) (hrx : Rep P G ax vx) (hrk : Rep P G ak vk) (h0 : eLookup ok (keyI P kt) (zeroV P et) x k H ≠ .any) (h : ∀ av, VR ρ (eLookup ok (keyI P kt) (zeroV P et) x k H) av → K av σ) :
    Out P G K Pn (((do pure (Next.value (← Instr.lookup t vx vk ok))) : Sem Next).run P w) := by
  have hz' := laid_av (VR.zero (P := P) ρ et) hz
  cases hx with
  | mp hp =>
    rename_i i a N
    simp only [eLookup] at h h0
    cases hg : H.get i with
    | map es =>
      rw [hg] at h h0
      simp only at h h0
      obtain ⟨as, h1, h2, h3⟩ := hb.map hp hg
      cases hki : isI k with
      | true =>
        cases hk with
        | int kd n =>
          cases kd <;> first | (cases hki; done) | skip
          cases hkk : keyI P kt with
          | false => rw [hkk] at h0; exact absurd rfl h0
          | true =>
            rw [hkk] at h h0
            simp only [isI, eqBool, cond_true] at h h0
            cases hf : findE (.int .i64 n) es with
            | none => rw [hf] at h0; exact absurd rfl h0
            | some r =>
              rw [hf] at h
              obtain ⟨f1, kvs, rfl⟩ := findE_int h2 h3 hf
              have hku : P.underlying kt = some (.int .i64) := by
                unfold keyI at hkk
                split at hkk
                · assumption
                · cases hkk
              exact lookup_outI hi hm hku hz' hrx hrk h1 (h _ (lookV_ok (f1 kvs rfl)))
        | _ => cases hki
      | false =>
        cases hkk : keyI P kt with
        | true => rw [hkk] at h0; simp only [hki, eqBool] at h0; exact absurd rfl h0
        | false =>
          rw [hkk] at h h0
          simp only [hki, eqBool, Bool.not_false, cond_true] at h h0
          cases hf : findE k es with
          | none => rw [hf] at h0; cases hss : isS k <;> rw [hss] at h0 <;> exact absurd rfl h0
          | some r =>
            rw [hf] at h
            have hku : P.underlying kt = some .string := by
              unfold keyT at hkt
              unfold keyI at hkk
              split at hkt
              · assumption
              · rename_i hu; rw [hu] at hkk; cases hkk
              · cases hkt
            cases hk with
            | sc v =>
              cases v with
              | string s =>
                obtain ⟨f1, kvs, rfl⟩ := findE_str h2 h3 hf
                exact lookup_out hi hm hku hz' hrx hrk h1 (h _ (lookV_ok (f1 kvs rfl)))
              | _ => simp only [isS] at h0; exact absurd rfl h0
            | _ => simp only [isS] at h0; exact absurd rfl h0
    | _ => rw [hg] at h0; exact absurd rfl h0
  | _ => exact absurd rfl h0
end
end Go.AW.Ev

set_option linter.unusedSimpArgs false
set_option linter.unusedVariables false
namespace Go.AW.Ev
open Go Go.RowKit
variable {P : Program}
section
variable {ρ : Ren} {G : Gh} {σ σ0 : AS} {w : World} {H H' : Hp} {K Pn : AV → AS → Prop}
theorem updE_str {k : ByteArray} {v : EV} {av : AV} (hv : VR ρ v av) : ∀ {es es' : List (EV × EV)} {as : List (AV × AV)}, PL ρ es as → ((∃ kvs, as = skvs kvs) ∨ ∃ kvs, as = ikvs kvs) → updE (.sc (.string k)) v es = some es' →
    ∃ kvs, as = skvs kvs ∧ PL ρ es' (skvs (updS k av kvs)) := by
  intro es
  induction es with
  | nil =>
    intro es' as hp hk h
    cases as with
    | cons _ _ => exact hp.elim
    | nil =>
      simp only [updE, Option.some.injEq] at h
      subst h
      exact ⟨[], rfl, .sc _, hv, trivial⟩
  | cons p es ih =>
    intro es' as hp hk h
    obtain ⟨k', v'⟩ := p
    cases as with
    | nil => exact hp.elim
    | cons q as =>
      obtain ⟨qk, qv⟩ := q
      obtain ⟨h1, h2, h3⟩ := hp
      simp only [updE] at h
      cases h1 <;> (try simp only at h) <;> first | (cases h; done) | skip
      rename_i kv
      cases kv <;> (try simp only at h) <;> first | (cases h; done) | skip
      rename_i b
      have hs : ∃ kvs, (AV.sc (.string b), qv) :: as = skvs kvs := by
        rcases hk with hk | ⟨kvs, hk⟩
        · exact hk
        · cases kvs with
          | nil => simp [ikvs] at hk
          | cons _ _ => simp [ikvs] at hk
      obtain ⟨kvs0, hk0⟩ := hs
      cases kvs0 with
      | nil => simp [skvs] at hk0
      | cons q0 kvs0 =>
        obtain ⟨b0, v0⟩ := q0
        simp only [skvs, List.map_cons, List.cons.injEq, Prod.mk.injEq, AV.sc.injEq, Value.string.injEq] at hk0
        obtain ⟨⟨rfl, rfl⟩, hrest⟩ := hk0
        rw [bs_iff] at h
        by_cases he : k = b
        · simp only [he, decide_true, cond_true, Option.some.injEq] at h
          subst h
          refine ⟨(b, qv) :: kvs0, by simp [skvs, hrest], ?_⟩
          simp only [updS, he, if_true]
          exact ⟨.sc _, hv, by rw [show List.map _ kvs0 = as from hrest.symm]; exact h3⟩
        · simp only [he, decide_false, cond_false, Option.map_eq_some_iff] at h
          obtain ⟨es1, g1, rfl⟩ := h
          obtain ⟨kvs, g2, g3⟩ := ih h3 (.inl ⟨kvs0, hrest⟩) g1
          refine ⟨(b, qv) :: kvs, by simp [skvs, g2], ?_⟩
          simp only [updS, if_neg he]
          exact ⟨.sc _, h2, g3⟩
theorem updE_int {k : Int} {v : EV} {av : AV} (hv : VR ρ v av) : ∀ {es es' : List (EV × EV)} {as : List (AV × AV)}, PL ρ es as → ((∃ kvs, as = skvs kvs) ∨ ∃ kvs, as = ikvs kvs) → updE (.int .i64 k) v es = some es' →
    ∃ kvs, as = ikvs kvs ∧ PL ρ es' (ikvs (updI k av kvs)) := by
  intro es
  induction es with
  | nil =>
    intro es' as hp hk h
    cases as with
    | cons _ _ => exact hp.elim
    | nil =>
      simp only [updE, Option.some.injEq] at h
      subst h
      exact ⟨[], rfl, .int _ _, hv, trivial⟩
  | cons p es ih =>
    intro es' as hp hk h
    obtain ⟨k', v'⟩ := p
    cases as with
    | nil => exact hp.elim
    | cons q as =>
      obtain ⟨qk, qv⟩ := q
      obtain ⟨h1, h2, h3⟩ := hp
      simp only [updE] at h
      cases h1 <;> (try simp only at h) <;> first | (cases h; done) | skip
      rename_i kd b
      cases kd <;> (try simp only at h) <;> first | (cases h; done) | skip
      have hs : ∃ kvs, (AV.sc (.int .i64 b), qv) :: as = ikvs kvs := by
        rcases hk with ⟨kvs, hk⟩ | hk
        · cases kvs with
          | nil => simp [skvs] at hk
          | cons _ _ => simp [skvs] at hk
        · exact hk
      obtain ⟨kvs0, hk0⟩ := hs
      cases kvs0 with
      | nil => simp [ikvs] at hk0
      | cons q0 kvs0 =>
        obtain ⟨b0, v0⟩ := q0
        simp only [ikvs, List.map_cons, List.cons.injEq, Prod.mk.injEq, AV.sc.injEq, Value.int.injEq, true_and] at hk0
        obtain ⟨⟨rfl, rfl⟩, hrest⟩ := hk0
        rw [eqI_eq] at h
        by_cases he : k = b
        · simp only [he, decide_true, cond_true, Option.some.injEq] at h
          subst h
          refine ⟨(b, qv) :: kvs0, by simp [ikvs, hrest], ?_⟩
          simp only [updI, he, if_true]
          exact ⟨.int _ _, hv, by rw [show List.map _ kvs0 = as from hrest.symm]; exact h3⟩
        · simp only [he, decide_false, cond_false, Option.map_eq_some_iff] at h
          obtain ⟨es1, g1, rfl⟩ := h
          obtain ⟨kvs, g2, g3⟩ := ih h3 (.inr ⟨kvs0, hrest⟩) g1
          refine ⟨(b, qv) :: kvs, by simp [ikvs, g2], ?_⟩
          simp only [updI, if_neg he]
          exact ⟨.int _ _, h2, g3⟩
theorem update_ok (hi : Inv P G σ w) (hR : R P ρ σ0 H σ) {t kt et : TypeId} (hm : P.underlying t = some (.map kt et)) (hkt : keyT P kt = true) {x k v r : EV} {ax ak av : AV} {vx vk vv : Value}
    (hx : VR ρ x ax) (hk : VR ρ k ak) (hv : VR ρ v av) (hrx : Rep P G ax vx) (hrk : Rep P G ak vk) (hrv : Rep P G av vv) (h0 : eMapUpdate (keyI P kt) x k v H = .ok r H') :
    H.c ≤ H'.c ∧ ((∀ ρ' av σ', Ren.le ρ ρ' → VR ρ' r av → R P ρ' σ0 H' σ' → K av σ') → Out P G K Pn (((do Instr.mapUpdate t vx vk vv; pure Next.skip) : Sem Next).run P w)) := by
  cases hx with
  | mp hp =>
    rename_i i a N
    simp only [eMapUpdate] at h0
    cases hg : H.get i with
    | map es =>
      rw [hg] at h0
      simp only at h0
      obtain ⟨as, h1, h2, h3⟩ := hR.rb.map hp hg
      cases hcc : (eqBool (keyI P kt) (isI k) && (isI k || isS k)) with
      | false => rw [hcc] at h0; cases h0
      | true =>
        rw [hcc] at h0
        simp only [cond_true] at h0
        simp only [Bool.and_eq_true, eqBool_eq, beq_iff_eq] at hcc
        obtain ⟨c1, c2⟩ := hcc
        cases hu : updE k v es with
        | none => rw [hu] at h0; cases h0
        | some es' =>
          rw [hu] at h0
          simp only [Res.ok.injEq] at h0
          obtain ⟨rfl, rfl⟩ := h0
          refine ⟨Nat.le_refl _, fun hK => ?_⟩
          cases hki : isI k with
          | true =>
            rw [hki] at c1
            cases hk with
            | int kd n =>
              cases kd <;> first | (cases hki; done) | skip
              obtain ⟨kvs, rfl, g2⟩ := updE_int hv h2 h3 hu
              have hku : P.underlying kt = some (.int .i64) := by
                unfold keyI at c1
                split at c1
                · assumption
                · cases c1
              exact mapUpdate_outI hi hm hku hrx hrk hrv h1 (hK ρ _ _ (.refl ρ) (.any _) (hR.set hp (by rw [hg]; rfl) ⟨_, rfl, g2, .inr ⟨_, rfl⟩⟩))
            | _ => cases hki
          | false =>
            rw [hki] at c1 c2
            have hku : P.underlying kt = some .string := by
              unfold keyT at hkt
              unfold keyI at c1
              split at hkt
              · assumption
              · rename_i hu; rw [hu] at c1; cases c1
              · cases hkt
            cases hk with
            | sc vv0 =>
              cases vv0 with
              | string s =>
                obtain ⟨kvs, rfl, g2⟩ := updE_str hv h2 h3 hu
                exact mapUpdate_out hi hm hku hrx hrk hrv h1 (hK ρ _ _ (.refl ρ) (.any _) (hR.set hp (by rw [hg]; rfl) ⟨_, rfl, g2, .inl ⟨_, rfl⟩⟩))
              | _ => cases c2
            | _ => cases c2
    | _ => rw [hg] at h0; cases h0
  | _ => cases h0
theorem next_ok (hR : R P ρ σ0 H σ) {x r : EV} {ax : AV} (hx : VR ρ x ax) (h0 : eNextS x H = .ok r H') : H.c ≤ H'.c ∧ ((∀ ρ' av σ', Ren.le ρ ρ' → VR ρ' r av → R P ρ' σ0 H' σ' → K av σ') → aNext σ ax true K) := by
  cases hx with
  | ptr off hp =>
    rename_i i a N
    cases off with
    | succ o => cases h0
    | zero =>
      simp only [eNextS] at h0
      cases hg : H.get i with
      | siter b pos =>
        rw [hg] at h0
        simp only [blt_dec] at h0
        obtain ⟨ab, h1, h2⟩ := hR.rb.at hp (by rw [hg]; rfl)
        rw [hg] at h2
        have h2' : ab = .siter b pos := h2
        subst h2'
        by_cases hlt : pos < b.size
        · simp only [hlt, decide_true, cond_true, Res.ok.injEq] at h0
          obtain ⟨rfl, rfl⟩ := h0
          refine ⟨Nat.le_refl _, fun hk => ?_⟩
          unfold aNext
          simp only [h1]
          refine ⟨trivial, ?_⟩
          unfold nextS
          rw [if_pos hlt]
          exact hk ρ _ _ (.refl ρ) (VR.tup' (.cons (.bool true) (.cons (.int _ _) (.cons (.int _ _) .nil)))) (hR.set hp (by rw [hg]; rfl) rfl)
        · simp only [hlt, decide_false, cond_false, Res.ok.injEq] at h0
          obtain ⟨rfl, rfl⟩ := h0
          refine ⟨Nat.le_refl _, fun hk => ?_⟩
          unfold aNext
          simp only [h1]
          refine ⟨trivial, ?_⟩
          unfold nextS
          rw [if_neg hlt]
          exact hk ρ _ _ (.refl ρ) (VR.tup' (.cons (.bool false) .nil)) hR
      | _ => rw [hg] at h0; cases h0
  | _ => cases h0
theorem unU8L_ok : ∀ {l : List EV} {as : List AV} {bs : List UInt8}, VL ρ l as → unU8L l = some bs → allU8 as = some bs := by
  intro l as bs h
  induction h generalizing bs with
  | nil => intro h; simp only [unU8L, Option.some.injEq] at h; subst h; rfl
  | cons hv _ ih =>
    intro h
    simp only [unU8L] at h
    cases hv <;> (try simp only at h) <;> first | (cases h; done) | skip
    rename_i k n
    cases k <;> (try simp only at h) <;> first | (cases h; done) | skip
    cases n <;> (try simp only at h) <;> first | (cases h; done) | skip
    rename_i m
    rw [blt_dec] at h
    by_cases hm : m < 256
    · simp only [hm, decide_true, cond_true, Option.map_eq_some_iff] at h
      obtain ⟨r, h1, rfl⟩ := h
      have h2 := ih h1
      unfold allU8 at h2 ⊢
      rw [List.mapM_cons, h2]
      have : unU8 (.sc (.int .u8 (Int.ofNat m))) = some (UInt8.ofNat m) := by
        simp only [unU8]
        rw [if_pos ⟨by simp, by show (m : Int) < 256; omega⟩]
        rfl
      rw [this]; rfl
    · simp only [hm, decide_false, cond_false] at h; cases h
theorem convSS_ok (hi : Inv P G σ w) (hb : RB P ρ H σ) {src dst e : TypeId} (hs : P.underlying src = some (.slice e)) (hd : P.underlying dst = some .string) (he : u8T P e = true) {x : EV} {ax : AV} {vx : Value} (hx : VR ρ x ax) (hrx : Rep P G ax vx)
    (h0 : convSS P x H ≠ .any) (h : ∀ av, VR ρ (convSS P x H) av → K av σ) : Out P G K Pn (((do pure (Next.value (← convert src dst vx))) : Sem Next).run P w) := by
  obtain ⟨e1, e2⟩ := u8T_eq he
  have msl : ∀ {i a off len cap N : Nat} {ec : Cap}, x = .sl i off len ec → ρ i = some (a, N) → ax = .msl a off len cap → Out P G K Pn (((do pure (Next.value (← convert src dst vx))) : Sem Next).run P w) := by
    rintro i a off len cap N ec rfl hp rfl
    simp only [convSS] at h h0
    cases hg : H.get i with
    | cells ty cs full =>
      rw [hg] at h h0
      simp only at h h0
      cases ht : takeL (dropL cs off) len with
      | none => rw [ht] at h0; exact absurd rfl h0
      | some l =>
        rw [ht] at h h0
        simp only at h h0
        cases hu : unU8L l with
        | none => rw [hu] at h0; exact absurd rfl h0
        | some bs =>
          rw [hu] at h
          obtain ⟨t1, rfl⟩ := takeL_eq _ _ _ ht
          rw [dropL_eq, List.length_drop] at t1
          obtain ⟨ab, h1, h2⟩ := hb.at hp (by rw [hg]; rfl)
          rw [hg] at h2
          obtain ⟨as, spl, rfl, h3, _⟩ := h2
          have hlen := h3.len
          rw [dropL_eq] at hu
          have hall := unU8L_ok ((h3.drop off).take len) hu
          obtain ⟨b1, b2⟩ := allU8_spec hall
          cases hrx with
          | msl hbk =>
            rename_i b
            obtain ⟨b', cur, k1, k2, k3, k4⟩ := hi.cells a ty (as ++ spl) h1
            rw [hbk] at k1
            obtain rfl := Option.some.inj k1
            rw [List.length_append] at k3 k4
            have hbl : bs.length = len := by
              have : ((as.drop off).take len).length = len := by simp; omega
              omega
            refine Out.pure hi (v := .string ⟨bs.toArray⟩) ?_ (.sc _) (h _ (.sc _))
            have := run_convert_bytes_back (P := P) w src dst e ⟨b, off, none⟩ cap bs hs e1 hd (fun j hj => ?_)
            · rw [hbl] at this
              exact this
            · have hj' : off + j < as.length := by omega
              have h4 := (k4 (off + j) (by omega)).1
              rw [app_getD hj'] at h4
              have h5 := b2 j (by simp; omega)
              rw [List.getD_eq_getElem?_getD, List.getElem?_take_of_lt (by omega), List.getElem?_drop, ← List.getD_eq_getElem?_getD] at h5
              rw [h5] at h4
              rw [Addr.add_lit]
              show w.cell? ⟨b, off + j, none⟩ = _
              rw [cell_of_heap k2 (by omega)]
              generalize cur.getD (off + j) undef = u at h4
              cases h4
              simp [List.getD_eq_getElem?_getD, List.getElem?_eq_getElem hj]
    | _ => rw [hg] at h0; exact absurd rfl h0
  cases hx with
  | nilS => exact aConvert_out hi hrx (by simp only [aConvert, hs, hd]; exact ⟨e1, h _ (.sc _)⟩)
  | slK off len c hp => exact msl rfl hp rfl
  | slR off len d hp hl => exact msl rfl hp rfl
  | lst full l hl =>
    rename_i e' es as
    have hv := VL.of l hl
    simp only [convSS] at h h0
    cases hc : (Nat.beq (P.cellsOf e') 1) with
    | false => rw [hc] at h0; exact absurd rfl h0
    | true =>
      rw [hc] at h h0
      simp only [cond_true] at h h0
      cases hu : unU8L es with
      | none => rw [hu] at h0; exact absurd rfl h0
      | some bs =>
        rw [hu] at h
        refine aConvert_out hi hrx ?_
        simp only [aConvert, hs, hd, unU8L_ok hv hu]
        exact ⟨e1, Nat.eq_of_beq_eq_true hc, h _ (.sc _)⟩
  | _ => exact absurd rfl h0
theorem flatC_one {as : List AV} (h : ∀ v ∈ as, v.cells = [v]) : flatC as = as := by
  induction as with
  | nil => rfl
  | cons a r ih => rw [flatC_cons, h a (by simp), ih (fun v hv => h v (by simp [hv]))]; rfl
end
end Go.AW.Ev

set_option linter.unusedSimpArgs false
set_option linter.unusedVariables false
namespace Go.AW.Ev
open Go Go.RowKit
variable {P : Program} {n : Nat} {ds : List Deferred} {Q : AQ}
def CallOK (P : Program) (call : Call) : Prop :=
  ∀ f args H v H', call f args H = .ok v H' → H.c ≤ H'.c ∧ ∀ ρ σ0 σ avs, R P ρ σ0 H σ → VL ρ args avs →
    ACalls P f avs σ (fun r σ' => ∃ ρ', Ren.le ρ ρ' ∧ VR ρ' v r ∧ R P ρ' σ0 H' σ') No
def sK (o : Oper) (s : AW.Fr) (K : AV → AS → Prop) (s' : AW.Fr) (σ' : AS) : Prop := ∃ av, s' = s.put o.dst av ∧ K av σ'
def EOK (P : Program) (n : Nat) (ds : List Deferred) (Q : AQ) (o : Oper) : EO → Prop
  | .pur f => ∀ (ρ : Ren) (F : Fr) (s : AW.Fr) (σ : AS), (∀ x ∈ o.op.operands, XR ρ F s x) → f F ≠ .any → ∀ K Pn : AV → AS → Prop, (∀ av, VR ρ (f F) av → K av σ) → XO P o s σ K Pn
  | .val f => ∀ (ρ : Ren) (F : Fr) (s : AW.Fr) (σ : AS) (H : Hp), (∀ x ∈ o.op.operands, XR ρ F s x) → RB P ρ H σ → f F H ≠ .any → ∀ K Pn : AV → AS → Prop, (∀ av, VR ρ (f F H) av → K av σ) → XO P o s σ K Pn
  | .new f => ∀ (ρ : Ren) (F : Fr) (s : AW.Fr) (σ : AS) (b : Blk) (mk : Nat → EV) (c : Nat), (∀ x ∈ o.op.operands, XR ρ F s x) → f F = some (b, mk) → ρ c = none → b.live = true ∧ ∀ K Pn : AV → AS → Prop,
      (∀ x N ab av, σ x = none → BR P (ρ.ext c (x, N)) N b ab → VR (ρ.ext c (x, N)) (mk c) av → K av (σ.set x ab)) → XO P o s σ K Pn
  | .eff f => ∀ call, CallOK P call → ∀ (ρ : Ren) (F : Fr) (s : AW.Fr) (σ0 σ : AS) (H : Hp) (v : EV) (H' : Hp), (∀ x ∈ o.op.operands, XR ρ F s x) → R P ρ σ0 H σ → f call F H = .ok v H' → H.c ≤ H'.c ∧ ∀ K : AV → AS → Prop,
      (∀ ρ' av σ', Ren.le ρ ρ' → VR ρ' v av → R P ρ' σ0 H' σ' → K av σ') → okD n o.dst = true → SOp P n ds Q o s σ (sK o s K)
  | .bad _ => True
theorem okD_eq {d : Option Nat} : okD n d = true → (match d with | none => True | some d => d < n) := by
  cases d with
  | none => intro _; trivial
  | some d => intro h; unfold okD at h; simp only [blt_dec, decide_eq_true_eq] at h; exact h
theorem XO.sop {o : Oper} {s : AW.Fr} {σ : AS} {K : AV → AS → Prop} (h : ∀ Pn, XO P o s σ K Pn) (hd : okD n o.dst = true) : SOp P n ds Q o s σ (sK o s K) :=
  SOp.of_out (okD_eq hd) fun G a w hs => (h (fun v σ' => Q (.panic v) s σ') G a.eval w hs.inv hs.ev).mono (fun v σ' hk => ⟨v, rfl, hk⟩) (fun _ _ h => h)
theorem convBB_out {G : Gh} {σ : AS} {w : World} {K Pn : AV → AS → Prop} {src : TypeId} {id : Nat} {e : TypeId} {m : Nat} {es cs : List AV} {vx : Value} (hi : Inv P G (σ.set id (.cells e cs)) w) (h0 : σ id = none)
    (hs : P.underlying src = some (.slice e)) (he : P.underlying e = some (.int .u8)) (hrx : Rep P G (.msl id 0 m m) vx) (hm : es.length = m) (hl : ∀ v ∈ es, v.cells.length = P.cellsOf e) (hc : cs = flatC es)
    (h : K (.lst e es .full false) σ) : Out P G K Pn (((do pure (Next.value (← convert src src vx))) : Sem Next).run P w) := by
  subst hc
  obtain ⟨b, vs, k1, k2, k3, k4⟩ := hi.cells id e (flatC es) (by simp [AS.set])
  obtain ⟨G', hle, hi', conv⟩ := hi.freeze h0 hm hl
  have hv := conv _ hrx
  cases hrx with
  | msl hb =>
    rw [k1] at hb
    obtain rfl := Option.some.inj hb
    have hinj := hle.inj _ _ k1
    have hlt := lt_of_heap k2
    have hmk : Inv P G' σ { w with heap := w.heap.setIfInBounds b (.cells vs e (vs.size, vs.size + 1)) } := by
      refine hi'.marked k2 (hi'.injB id b hinj).1 (fun i ty cs hs' hc' => ?_) (fun t r c o et ea hr hcb => ?_)
      · have := hi'.inj1 i id b hc' hinj
        subst this
        rw [h0] at hs'; cases hs'
      · subst hcb
        have := (hi'.own t r et).2.2 c o ea (r.len * P.cellsOf r.ety) (Nat.le_refl _) hr
        exact this.2.2.2.1 id hinj
    have hrun : (convert src src (.slice (some ⟨b, 0, none⟩) m m)).run P w = .ok (.slice (some ⟨b, 0, none⟩) m m) { w with heap := w.heap.setIfInBounds b (.cells vs e (vs.size, vs.size + 1)) } := by
      have hsh : w.shape? b = some (e, vs.size) := by simp [World.shape?, k2]
      have hfr : w.freeze ⟨b, vs.size, none⟩ 1 = { w with heap := w.heap.setIfInBounds b (.cells vs e (vs.size, vs.size + 1)) } := by
        unfold World.freeze
        rw [if_neg (by decide)]
        have hg : w.heap[b] = .cells vs e (0, 0) := by
          have := k2
          rw [Array.getElem?_eq_getElem hlt] at this
          exact Option.some.inj this
        congr 1
        apply Array.ext
        · simp
        · intro i h1 h2
          by_cases hib : b = i
          · subst hib
            simp [Array.getElem_modify, hg]
          · rw [Array.getElem_modify, if_neg hib]
            exact (Array.getElem_setIfInBounds_ne (by simpa using h1) hib).symm
      simp [convert, run_underlying hs, run_underlying he, markStringish, shape, freeze, Sem.run_bind, Result.andThen, Sem.run, hsh, hfr]
    exact Out.value hrun hle hmk hv h
section
variable {d : Option Nat} {ty : TypeId} {pos : String} {af : Array Edge} {g : Option (Nat × Bool)}
theorem eff_of {o : Oper} {f : Call → Fr → Hp → Res} (h : ∀ call (ρ : Ren) (F : Fr) (s : AW.Fr) (σ0 σ : AS) (H : Hp) (v : EV) (H' : Hp), (∀ x ∈ o.op.operands, XR ρ F s x) → R P ρ σ0 H σ → f call F H = .ok v H' → H.c ≤ H'.c ∧ ∀ K Pn : AV → AS → Prop,
      (∀ ρ' av σ', Ren.le ρ ρ' → VR ρ' v av → R P ρ' σ0 H' σ' → K av σ') → XO P o s σ K Pn) : EOK P n ds Q o (.eff f) := by
  intro call _ ρ F s σ0 σ H v H' hx hR he
  obtain ⟨h1, h2⟩ := h call ρ F s σ0 σ H v H' hx hR he
  exact ⟨h1, fun K hk hd => XO.sop (fun Pn => h2 K Pn hk) hd⟩
theorem ok_move {x : Operand} : EOK P n ds Q ⟨d, .move x, ty, pos, af, g⟩ (compOp P (.move x)) := fun ρ F s σ hx h0 K Pn h => XO.aop (h _ (hx x (by simp [Op.operands])))
theorem ok_assign {x : Operand} : EOK P n ds Q ⟨d, .assign x, ty, pos, af, g⟩ (compOp P (.assign x)) := fun ρ F s σ hx h0 K Pn h => XO.aop (h _ (hx x (by simp [Op.operands])))
theorem ok_pick {c a b : Operand} : EOK P n ds Q ⟨d, .pick c a b, ty, pos, af, g⟩ (compOp P (.pick c a b)) := by
  intro ρ F s σ hx h0 K Pn h
  have hc : XR ρ F s c := hx c (by simp [Op.operands])
  have ha : XR ρ F s a := hx a (by simp [Op.operands])
  have hb : XR ρ F s b := hx b (by simp [Op.operands])
  refine XO.aop ?_
  simp only [AW.aop]
  simp only at h h0
  unfold XR at hc
  generalize (opd c).get F = cv at hc h h0
  generalize ev s c = ac at hc
  cases hc with
  | bool t => cases t with
    | false => exact h _ hb
    | true => exact h _ ha
  | _ => exact absurd rfl h0
theorem ok_alloc {e : TypeId} : EOK P n ds Q ⟨d, .alloc e, ty, pos, af, g⟩ (compOp P (.alloc e)) := by
  show EOK P n ds Q _ (bif (zeroV P e).laid then _ else _)
  cases hz : (zeroV P e).laid with
  | false => trivial
  | true =>
    intro ρ F s σ b mk c hx he hc
    simp only [Option.some.injEq, Prod.mk.injEq] at he
    obtain ⟨rfl, rfl⟩ := he
    refine ⟨rfl, fun K Pn h => XO.aop ⟨laid_av (VR.zero (P := P) ρ e) hz, fun id hid => ?_⟩⟩
    refine h id 0 _ _ hid ⟨(zeroAV P e).cells, [], by simp, (((VR.zero ρ e).cells hz).1).mono (Ren.le_ext hc _), fun _ => rfl, fun h => by cases h⟩ (.ptr 0 (Ren.ext_same _ _ _))
theorem ok_box {e : TypeId} {x : Operand} : EOK P n ds Q ⟨d, .box e x, ty, pos, af, g⟩ (compOp P (.box e x)) := by
  intro ρ F s σ b mk c hx he hc
  have hv : XR ρ F s x := hx x (by simp [Op.operands])
  simp only at he
  cases hl : ((opd x).get F).laid with
  | false => rw [hl] at he; cases he
  | true =>
    rw [hl] at he
    simp only [cond_true, Option.some.injEq, Prod.mk.injEq] at he
    obtain ⟨rfl, rfl⟩ := he
    refine ⟨rfl, fun K Pn h => XO.aop ⟨laid_av hv hl, fun id hid => ?_⟩⟩
    exact h id 0 _ _ hid ⟨(ev s x).cells, [], by simp, ((VR.cells hv hl).1).mono (Ren.le_ext hc _), fun _ => rfl, fun h => by cases h⟩ (.ptr 0 (Ren.ext_same _ _ _))
theorem ok_build {t : TypeId} {ps : Array (Nat × Operand)} : EOK P n ds Q ⟨d, .build t ps, ty, pos, af, g⟩ (compOp P (.build t ps)) := by
  show EOK P n ds Q _ (bif buildT P t && (zeroV P t).laid then _ else _)
  cases hz : (buildT P t && (zeroV P t).laid) with
  | false => trivial
  | true =>
    simp only [Bool.and_eq_true] at hz
    intro ρ F s σ hx h0 K Pn h
    exact XO.aop (build_ok (PI.of fun p hp => hx p.2 (by simp only [Op.operands, List.mem_toArray, List.mem_map]; exact ⟨p, hp, rfl⟩)) hz.1 hz.2 h0 h)
theorem flat_ok {ρ : Ren} {m : Nat} : ∀ {ps : List (Nat × EV)} {qs : List (Nat × AV)} {k : Nat} {cs : List EV}, PI ρ ps qs → flat m k ps = some cs → VL ρ cs (flatC (qs.map (·.2))) ∧ aElems m k qs = true
  | [], [], k, cs, _, h => by simp only [flat, Option.some.injEq] at h; subst h; exact ⟨.nil, rfl⟩
  | [], _ :: _, _, _, hp, _ => hp.elim
  | _ :: _, [], _, _, hp, _ => hp.elim
  | (i, v) :: ps, (j, a) :: qs, k, cs, hp, h => by
    obtain ⟨rfl, hv, hp⟩ := hp
    simp only [flat] at h
    cases hc : (Nat.beq i k && v.laid && lenB v.cells m) with
    | false => rw [hc] at h; cases h
    | true =>
      rw [hc] at h
      simp only [cond_true, Option.map_eq_some_iff] at h
      obtain ⟨r, h1, rfl⟩ := h
      simp only [Bool.and_eq_true, beq_dec, decide_eq_true_eq, lenB_eq] at hc
      obtain ⟨⟨rfl, c2⟩, c3⟩ := hc
      obtain ⟨g1, g2⟩ := flat_ok hp h1
      have hcl := (hv.cells c2).1
      have hlen := hcl.len
      refine ⟨by rw [List.map_cons, flatC_cons]; exact hcl.app g1, ?_⟩
      simp only [aElems, Bool.and_eq_true, beq_iff_eq]
      exact ⟨⟨⟨trivial, laid_av hv c2⟩, by rw [← hlen]; exact c3⟩, g2⟩
theorem PI.len {ρ : Ren} : ∀ {ps : List (Nat × EV)} {qs : List (Nat × AV)}, PI ρ ps qs → ps.length = qs.length
  | [], [], _ => rfl
  | [], _ :: _, hp => hp.elim
  | _ :: _, [], hp => hp.elim
  | _ :: _, _ :: _, hp => by simp [PI.len hp.2.2]
theorem zero_ok {e : TypeId} (hz : (zeroV P e).laid = true) (hl : lenB (zeroV P e).cells (P.cellsOf e) = true) : (zeroAV P e).laid = true ∧ (zeroAV P e).cells.length = P.cellsOf e := by
  have h1 := VR.zero (P := P) (fun _ => none) e
  refine ⟨laid_av h1 hz, ?_⟩
  rw [← (h1.cells hz).1.len]
  exact (lenB_eq _ _).1 hl
theorem ok_buildSlice {t : TypeId} {m : Nat} {ps : Array (Nat × Operand)} : EOK P n ds Q ⟨d, .buildSlice t m ps, ty, pos, af, g⟩ (compOp P (.buildSlice t m ps)) := by
  simp only [compOp]
  cases hs : sliceT P t with
  | none => trivial
  | some e =>
    simp only
    cases hc : (Nat.beq (P.cellsOf e) 0 || !(zeroV P e).laid || !lenB (zeroV P e).cells (P.cellsOf e)) with
    | true => trivial
    | false =>
      simp only [Bool.or_eq_false_iff, Bool.not_eq_false', beq_dec, decide_eq_false_iff_not] at hc
      obtain ⟨⟨c1, c2⟩, c3⟩ := hc
      obtain ⟨z1, z2⟩ := zero_ok c2 c3
      intro ρ F s σ b mk c hx he hcc
      have hp : PI ρ (parts ps.toList F) (ps.toList.map fun p => (p.1, ev s p.2)) := PI.of fun p hp => hx p.2 (by simp only [Op.operands, List.mem_toArray, List.mem_map]; exact ⟨p, hp, rfl⟩)
      simp only [eBuildSlice] at he
      cases hcd : (lenB (parts ps.toList F) m && Nat.ble (Nat.mul m (P.cellsOf e)) 16777216) with
      | false => rw [hcd] at he; cases he
      | true =>
        rw [hcd] at he
        simp only [Bool.and_eq_true, lenB_eq, ble_dec, decide_eq_true_eq] at hcd
        obtain ⟨d1, d2⟩ := hcd
        simp only [cond_true] at he
        cases hf : flat (P.cellsOf e) 0 (parts ps.toList F) with
        | none => rw [hf] at he; cases he
        | some cs =>
          rw [hf] at he
          simp only [Option.some.injEq, Prod.mk.injEq] at he
          obtain ⟨rfl, rfl⟩ := he
          obtain ⟨f1, f2⟩ := flat_ok hp hf
          refine ⟨rfl, fun K Pn h G r w hi hr => ?_⟩
          refine aBuildSliceM_out hi hr ?_
          unfold aBuildSliceM
          rw [hs]
          refine ⟨by rw [← hp.len]; exact d1, c1, d2, z1, z2, f2, fun id hid => ?_⟩
          exact h id 0 _ _ hid ⟨_, [], by simp, f1.mono (Ren.le_ext hcc _), fun _ => rfl, fun h => by cases h⟩ (.slK 0 m m (Ren.ext_same _ _ _))
theorem ok_load {t : TypeId} {a : Operand} : EOK P n ds Q ⟨d, .load t a, ty, pos, af, g⟩ (compOp P (.load t a)) := fun ρ F s σ H hx hb h0 K Pn h => XO.aop (load_ok (hx a (by simp [Op.operands])) hb h0 h)
theorem ok_store {t : TypeId} {a v : Operand} : EOK P n ds Q ⟨d, .store t a v, ty, pos, af, g⟩ (compOp P (.store t a v)) := by
  refine eff_of fun call ρ F s σ0 σ H v' H' hx hR he => ?_
  have key := fun K h => store_ok (K := K) (hx a (by simp [Op.operands])) (hx v (by simp [Op.operands])) hR he h
  obtain ⟨_, k2, k3⟩ := key (fun _ => True) (fun _ _ => trivial)
  refine ⟨by rw [k3]; exact Nat.le_refl _, fun K Pn h => XO.aop ?_⟩
  refine (key (fun σ' => K .any σ') (fun σ' hR' => h ρ _ _ (.refl ρ) ?_ hR')).1
  rw [k2]; exact .any _
theorem ok_nilCheck {x : Operand} : EOK P n ds Q ⟨d, .nilCheck x, ty, pos, af, g⟩ (compOp P (.nilCheck x)) := fun ρ F s σ hx h0 K Pn h => XO.aop (nilCheck_ok (hx x (by simp [Op.operands])) h0 h)
theorem ok_binOp {o : BinOp} {t yt : TypeId} {x y : Operand} : EOK P n ds Q ⟨d, .binOp o t x y yt, ty, pos, af, g⟩ (compOp P (.binOp o t x y yt)) := fun ρ F s σ hx h0 K Pn h => XO.aop (bin_ok (hx x (by simp [Op.operands])) (hx y (by simp [Op.operands])) h0 h)
theorem ok_unOp {o : UnOp} {t : TypeId} {x : Operand} : EOK P n ds Q ⟨d, .unOp o t x, ty, pos, af, g⟩ (compOp P (.unOp o t x)) := fun ρ F s σ hx h0 K Pn h => XO.aop (un_ok (hx x (by simp [Op.operands])) h0 h)
theorem ok_convert {src dst : TypeId} {x : Operand} : EOK P n ds Q ⟨d, .convert src dst x, ty, pos, af, g⟩ (compOp P (.convert src dst x)) := by
  show EOK P n ds Q _ (cConv P src dst (opd x))
  unfold cConv
  have hop : x ∈ (Op.convert src dst x).operands := by simp [Op.operands]
  split
  · rename_i e hs hd
    cases he : u8T P e with
    | false => trivial
    | true => exact fun ρ F s σ H hx hb h0 K Pn h G r w hi hr => convSS_ok hi hb hs hd he (hx x hop) (hr x) h0 h
  · rename_i e hs hd
    cases he : u8T P e with
    | false => trivial
    | true => exact fun ρ F s σ hx h0 K Pn h => XO.aop (convSB_ok hs hd he (hx x hop) h0 h)
  · rename_i e e2 hs hd
    cases hc : (Nat.beq src dst && u8T P e) with
    | false => trivial
    | true =>
      simp only [Bool.and_eq_true, beq_dec, decide_eq_true_eq] at hc
      obtain ⟨rfl, he⟩ := hc
      obtain ⟨e1, e2'⟩ := u8T_eq he
      refine eff_of fun call ρ F s σ0 σ H v H' hx hR hev => ?_
      have hxx : XR ρ F s x := hx x hop
      simp only [convBB] at hev
      cases hxv : (opd x).get F <;> rw [hxv] at hev <;> (try simp only at hev) <;> first | (cases hev; done) | skip
      rename_i i off len cap
      cases off <;> cases cap <;> (try simp only at hev) <;> first | (cases hev; done) | skip
      rename_i c
      cases hg : H.get i with
      | cells tyy cs full =>
        rw [hg] at hev
        cases full with
        | false => cases hev
        | true =>
          simp only at hev
          cases hcd : (Nat.beq tyy e && Nat.beq len c && Nat.beq (P.cellsOf e) 1 && lenB cs len && allOne cs) with
          | false => rw [hcd] at hev; cases hev
          | true =>
            rw [hcd] at hev
            simp only [cond_true, Res.ok.injEq] at hev
            obtain ⟨rfl, rfl⟩ := hev
            simp only [Bool.and_eq_true, beq_dec, decide_eq_true_eq, lenB_eq] at hcd
            obtain ⟨⟨⟨⟨rfl, rfl⟩, d3⟩, d4⟩, d5⟩ := hcd
            refine ⟨Nat.le_refl _, fun K Pn h => ?_⟩
            unfold XR at hxx
            rw [hxv] at hxx
            generalize hax : ev s x = ax at hxx
            cases hxx with
            | slK _ _ _ hp =>
              rename_i a N
              have hli : (H.get i).live = true := by rw [hg]; rfl
              obtain ⟨ab, h1, h2⟩ := hR.rb.at hp hli
              rw [hg] at h2
              obtain ⟨as, spl, rfl, h3, h4, h5⟩ := h2
              obtain rfl := h4 rfl
              rw [List.append_nil] at h1
              obtain ⟨o1, o2⟩ := h3.one_cells d5
              have hσ : σ = AS.set (fun j => if j = a then none else σ j) a (.cells tyy as) := by rw [set_if, AS.set_id _ _ _ h1]
              have hRd := hR.dropped hp hli
              intro G r w hi hr
              have hrx := hr x
              rw [hax] at hrx
              rw [hσ] at hi
              exact convBB_out hi (by simp) hs e1 hrx (by rw [← h3.len]; exact d4) (fun v hv => by rw [o1 v hv, e2']; rfl) (flatC_one o1).symm (h ρ _ _ (.refl ρ) (VR.lst' true h3) hRd)
      | _ => rw [hg] at hev; cases hev
  · rename_i hs hd
    exact fun ρ F s σ hx h0 K Pn h => XO.aop (convS_ok hs hd (hx x hop) h0 h)
  · rename_i k0 k hs hd
    exact fun ρ F s σ hx h0 K Pn h => XO.aop (convI_ok hs hd (hx x hop) h0 h)
  · trivial
theorem ok_makeInterface {t : TypeId} {x : Operand} : EOK P n ds Q ⟨d, .makeInterface t x, ty, pos, af, g⟩ (compOp P (.makeInterface t x)) := by
  show EOK P n ds Q _ (bif P.concrete t then _ else _)
  cases hc : P.concrete t with
  | false => trivial
  | true => exact fun ρ F s σ hx h0 K Pn h => XO.aop ⟨hc, h _ (.ifc t (hx x (by simp [Op.operands])))⟩
theorem ok_makeFunc {f : Fn} {first cap : Array Operand} : EOK P n ds Q ⟨d, .makeFunc f first cap, ty, pos, af, g⟩ (compOp P (.makeFunc f first cap)) := by
  simp only [compOp]
  cases f with
  | func f =>
    exact fun ρ F s σ hx h0 K Pn h => XO.aop (h _ (VR.fn' (VL.opds fun x hm => hx x (by simp [Op.operands]; exact .inl (by simpa using hm))) (VL.opds fun x hm => hx x (by simp [Op.operands]; exact .inr (by simpa using hm)))))
  | _ => trivial
theorem ok_makeMap {t : TypeId} {r : Option Operand} : EOK P n ds Q ⟨d, .makeMap t r, ty, pos, af, g⟩ (compOp P (.makeMap t r)) := by
  cases r with
  | some x => trivial
  | none =>
    intro ρ F s σ b mk c hx he hc
    simp only [Option.some.injEq, Prod.mk.injEq] at he
    obtain ⟨rfl, rfl⟩ := he
    exact ⟨rfl, fun K Pn h => XO.aop ⟨rfl, fun id hid => h id 0 _ _ hid ⟨[], rfl, trivial, .inl ⟨[], rfl⟩⟩ (.mp (Ren.ext_same _ _ _))⟩⟩
theorem ok_lookup {t : TypeId} {x i : Operand} {ok : Bool} : EOK P n ds Q ⟨d, .lookup t x i ok, ty, pos, af, g⟩ (compOp P (.lookup t x i ok)) := by
  simp only [compOp]
  split
  · rename_i kt et hu
    cases hc : (keyT P kt && (zeroV P et).laid) with
    | false => trivial
    | true =>
      simp only [Bool.and_eq_true] at hc
      exact fun ρ F s σ H hx hb h0 K Pn h G r w hi hr => lookup_ok hi hb hu hc.1 hc.2 (hx x (by simp [Op.operands])) (hx i (by simp [Op.operands])) (hr x) (hr i) h0 h
  · trivial
theorem ok_mapUpdate {t : TypeId} {x i v : Operand} : EOK P n ds Q ⟨d, .mapUpdate t x i v, ty, pos, af, g⟩ (compOp P (.mapUpdate t x i v)) := by
  simp only [compOp]
  split
  · rename_i kt et hu
    cases hc : keyT P kt with
    | false => trivial
    | true =>
      refine eff_of fun call ρ F s σ0 σ H v' H' hx hR he => ?_
      have e1 : XR ρ F s x := hx x (by simp [Op.operands])
      have e2 : XR ρ F s i := hx i (by simp [Op.operands])
      have e3 : XR ρ F s v := hx v (by simp [Op.operands])
      refine ⟨?_, fun K Pn h G r w hi hr => (update_ok hi hR hu hc e1 e2 e3 (hr x) (hr i) (hr v) he).2 h⟩
      -- the counter stays
      simp only [eMapUpdate] at he
      split at he
      · split at he
        · rename_i es hg
          cases hcc : (eqBool (keyI P kt) (isI ((opd i).get F)) && (isI ((opd i).get F) || isS ((opd i).get F))) with
          | false => rw [hcc] at he; cases he
          | true =>
            rw [hcc] at he
            simp only [cond_true] at he
            split at he
            · simp only [Res.ok.injEq] at he
              rw [← he.2]; exact Nat.le_refl _
            · cases he
        · cases he
      · cases he
  · trivial
theorem ok_range {t : TypeId} {x : Operand} : EOK P n ds Q ⟨d, .range t x, ty, pos, af, g⟩ (compOp P (.range t x)) := by
  show EOK P n ds Q _ (bif isStr P t then _ else _)
  cases hs : isStr P t with
  | false => trivial
  | true =>
    have hu : P.underlying t = some .string := by
      unfold isStr at hs
      split at hs
      · assumption
      · cases hs
    intro ρ F s σ b mk c hx he hc
    have hxx : XR ρ F s x := hx x (by simp [Op.operands])
    simp only [eRangeS] at he
    split at he
    · rename_i bs hv
      simp only [Option.some.injEq, Prod.mk.injEq] at he
      obtain ⟨rfl, rfl⟩ := he
      refine ⟨rfl, fun K Pn h => XO.aop ?_⟩
      simp only [AW.aop]
      unfold XR at hxx
      rw [hv] at hxx
      generalize ev s x = ax at hxx
      cases hxx
      exact ⟨hu, fun id hid => h id 0 _ _ hid rfl (.ptr 0 (Ren.ext_same _ _ _))⟩
    · cases he
theorem ok_next {it : Operand} {str : Bool} : EOK P n ds Q ⟨d, .next it str, ty, pos, af, g⟩ (compOp P (.next it str)) := by
  cases str with
  | false => trivial
  | true =>
    refine eff_of fun call ρ F s σ0 σ H v' H' hx hR he => ?_
    have e1 : XR ρ F s it := hx it (by simp [Op.operands])
    have key := fun K h => next_ok (K := K) hR e1 he |>.2 h
    exact ⟨(next_ok (K := fun _ _ => True) hR e1 he).1, fun K Pn h => XO.aop (key K h)⟩
theorem ok_makeSlice {t : TypeId} {l c : Operand} : EOK P n ds Q ⟨d, .makeSlice t l c, ty, pos, af, g⟩ (compOp P (.makeSlice t l c)) := by
  simp only [compOp]
  cases hs : sliceT P t with
  | none => trivial
  | some e =>
    simp only
    cases hc : (Nat.beq (P.cellsOf e) 0 || !(zeroV P e).laid || !lenB (zeroV P e).cells (P.cellsOf e)) with
    | true => trivial
    | false =>
      simp only [Bool.or_eq_false_iff, Bool.not_eq_false', beq_dec, decide_eq_false_iff_not] at hc
      obtain ⟨⟨c1, c2⟩, c3⟩ := hc
      obtain ⟨z1, z2⟩ := zero_ok c2 c3
      intro ρ F s σ b mk cc hx he hcc
      have hl : XR ρ F s l := hx l (by simp [Op.operands])
      have hcp : XR ρ F s c := hx c (by simp [Op.operands])
      simp only [eMakeSlice] at he
      unfold XR at hl hcp
      generalize (opd l).get F = lv at hl he
      generalize (opd c).get F = cv at hcp he
      cases lv <;> first | (cases he; done) | skip
      rename_i k1 l'
      cases l' <;> first | (cases he; done) | skip
      rename_i m
      cases cv <;> first | (cases he; done) | skip
      rename_i k2 c'
      cases c' <;> first | (cases he; done) | skip
      rename_i m2
      simp only at he
      cases hcd : (Nat.beq m m2 && Nat.ble m 1000000 && Nat.ble (Nat.mul (P.bytesOf e) m) 8000000) with
      | false => rw [hcd] at he; cases he
      | true =>
        rw [hcd] at he
        simp only [cond_true, Option.some.injEq, Prod.mk.injEq] at he
        obtain ⟨rfl, rfl⟩ := he
        simp only [Bool.and_eq_true, beq_dec, ble_dec, decide_eq_true_eq] at hcd
        obtain ⟨⟨rfl, d2⟩, d3⟩ := hcd
        refine ⟨rfl, fun K Pn h => XO.aop ?_⟩
        simp only [AW.aop]
        generalize ev s l = al at hl
        generalize ev s c = ac at hcp
        cases hl
        cases hcp
        unfold aMakeSlice
        rw [hs]
        have d3' : P.bytesOf e * m ≤ 8000000 := d3
        refine ⟨rfl, by show (0 : Int) ≤ (m : Int); omega, by show (m : Int) ≤ 1000000; omega, c1, by have h9 : ((P.bytesOf e * m : Nat) : Int) ≤ ((8000000 : Nat) : Int) := Int.ofNat_le.2 d3'; rw [Int.natCast_mul] at h9; exact h9, z1, z2, fun id hid => ?_⟩
        exact h id 0 _ _ hid ⟨_, [], by simp, ((repL_ok ((VR.zero ρ e).cells c2).1 m).mono (Ren.le_ext hcc _)), fun _ => rfl, fun h => by cases h⟩ (.slK 0 m m (Ren.ext_same _ _ _))
theorem opt_rel {ρ : Ren} {F : Fr} {s : AW.Fr} {o : Option Operand} (h : ∀ x ∈ o, XR ρ F s x) : (optGet (o.map opd) F = none ∧ o.map (ev s) = none) ∨ ∃ v a, optGet (o.map opd) F = some v ∧ o.map (ev s) = some a ∧ VR ρ v a := by
  cases o with
  | none => exact .inl ⟨rfl, rfl⟩
  | some x => exact .inr ⟨_, _, rfl, rfl, h x rfl⟩
theorem ok_slice {t : TypeId} {x : Operand} {lo hi mx : Option Operand} : EOK P n ds Q ⟨d, .slice t x lo hi mx, ty, pos, af, g⟩ (compOp P (.slice t x lo hi mx)) := by
  simp only [compOp]
  cases mx with
  | some m => trivial
  | none =>
    simp only
    split
    · rename_i hu
      exact fun ρ F s σ hx h0 K Pn h => XO.aop (sliceT_ok hu (hx x (by simp [Op.operands])) (opt_rel fun y hy => hx y (by simp [Op.operands]; simp at hy; simp [hy])) (opt_rel fun y hy => hx y (by simp [Op.operands]; simp at hy; simp [hy])) h0 h)
    · rename_i e hu
      cases hc : Nat.beq (P.cellsOf e) 0 with
      | true => trivial
      | false =>
        rw [beq_dec] at hc
        simp only [decide_eq_false_iff_not] at hc
        intro ρ F s σ hx h0 K Pn h G r w hi' hr
        have rel : ∀ o : Option Operand, (∀ y ∈ o, y ∈ (Op.slice t x lo hi none).operands) → (optGet (o.map opd) F = none ∧ o.map (ev s) = none ∧ o.map r = none) ∨ ∃ v a b, optGet (o.map opd) F = some v ∧ o.map (ev s) = some a ∧ o.map r = some b ∧ VR ρ v a ∧ Rep P G a b := by
          intro o ho
          cases o with
          | none => exact .inl ⟨rfl, rfl, rfl⟩
          | some y => exact .inr ⟨_, _, _, rfl, rfl, rfl, hx y (ho y rfl), hr y⟩
        exact slice_out hi' hu hc (hx x (by simp [Op.operands])) (hr x) (rel lo fun y hy => by simp [Op.operands]; simp at hy; simp [hy]) (rel hi fun y hy => by simp [Op.operands]; simp at hy; simp [hy]) h0 h
    · trivial
theorem ok_fieldAddr {t f : Nat} {x : Operand} : EOK P n ds Q ⟨d, .fieldAddr t x f, ty, pos, af, g⟩ (compOp P (.fieldAddr t x f)) := by
  simp only [compOp]
  split
  · rename_i fs hu
    exact fun ρ F s σ hx h0 K Pn h => XO.aop (fieldAddr_ok hu (hx x (by simp [Op.operands])) h0 h)
  · trivial
theorem ok_field {t f : Nat} {x : Operand} : EOK P n ds Q ⟨d, .field t x f, ty, pos, af, g⟩ (compOp P (.field t x f)) := fun ρ F s σ hx h0 K Pn h => XO.aop (field_ok (hx x (by simp [Op.operands])) h0 h)
theorem ok_indexAddr {t : Nat} {x i : Operand} : EOK P n ds Q ⟨d, .indexAddr t x i, ty, pos, af, g⟩ (compOp P (.indexAddr t x i)) := by
  simp only [compOp]
  split
  · rename_i e hu
    cases hc : Nat.beq (P.cellsOf e) 0 with
    | true => trivial
    | false =>
      rw [beq_dec] at hc
      simp only [decide_eq_false_iff_not] at hc
      exact fun ρ F s σ hx h0 K Pn h => XO.aop (indexAddr_ok hu hc (hx x (by simp [Op.operands])) (hx i (by simp [Op.operands])) h0 h)
  · rename_i m e hu
    cases hc : Nat.beq (P.cellsOf e) 0 with
    | true => trivial
    | false =>
      rw [beq_dec] at hc
      simp only [decide_eq_false_iff_not] at hc
      exact fun ρ F s σ hx h0 K Pn h => XO.aop (indexArr_ok hu hc (hx x (by simp [Op.operands])) (hx i (by simp [Op.operands])) h0 h)
  · trivial
theorem ok_index {t : Nat} {x i : Operand} : EOK P n ds Q ⟨d, .index t x i, ty, pos, af, g⟩ (compOp P (.index t x i)) := by
  simp only [compOp]
  split
  · rename_i m e hu
    exact fun ρ F s σ hx h0 K Pn h => XO.aop (index_ok hu (hx x (by simp [Op.operands])) (hx i (by simp [Op.operands])) h0 h)
  · rename_i hu
    exact fun ρ F s σ hx h0 K Pn h => XO.aop (indexS_ok hu (hx x (by simp [Op.operands])) (hx i (by simp [Op.operands])) h0 h)
  · trivial
theorem ok_extract {x : Operand} {i : Nat} : EOK P n ds Q ⟨d, .extract x i, ty, pos, af, g⟩ (compOp P (.extract x i)) := fun ρ F s σ hx h0 K Pn h => XO.aop (extract_ok (hx x (by simp [Op.operands])) h0 h)
theorem ok_typeAssert {x : Operand} {t u : TypeId} {ok : Bool} : EOK P n ds Q ⟨d, .typeAssert x t u ok, ty, pos, af, g⟩ (compOp P (.typeAssert x t u ok)) := by
  show EOK P n ds Q _ (bif ok && (zeroV P u).laid && noIface P u then _ else _)
  cases hc : (ok && (zeroV P u).laid && noIface P u) with
  | false => trivial
  | true =>
    simp only [Bool.and_eq_true] at hc
    obtain ⟨⟨rfl, hz⟩, hn⟩ := hc
    intro ρ F s σ hx h0 K Pn h G r w hi hr
    have hxx : XR ρ F s x := hx x (by simp [Op.operands])
    have hrx := hr x
    simp only [eAssertN] at h h0
    unfold XR at hxx
    generalize (opd x).get F = xv at hxx h h0
    generalize ev s x = ax at hxx hrx
    cases hxx with
    | sc v =>
      cases v <;> first | exact absurd rfl h0 | skip
      case nilIface =>
        show Out P G _ _ ((do pure (Next.value (← Instr.typeAssert (r x) t u true)) : Sem Next).run P w)
        generalize r x = vx at hrx
        cases hrx
        obtain ⟨it, z, hit, hzv, hzr⟩ := zeroAV_info (laid_av (VR.zero (P := P) ρ u) hz)
        cases hu : P.underlying u with
        | none => simp [noIface, hu] at hn
        | some td =>
          have hrun : (Instr.typeAssert .nilIface t u true).run P w = .ok (.tuple #[z, .bool false]) w := by
            cases td <;> first | (simp [noIface, hu] at hn; done) | simp [Instr.typeAssert, Sem.run_bind, run_underlying hu, Result.andThen, zeroValue, run_typeInfo w hit, hzv]
          refine Out.value hrun (.refl G) hi ?_ (h _ (VR.tup' (.cons (VR.zero ρ u) (.cons (.bool false) .nil))))
          refine .tup [z, .bool false] rfl fun i hi => ?_
          match i, hi with
          | 0, _ => rw [show ([zeroAV P u, AV.sc (.bool false)]).getD 0 .any = zeroAV P u from rfl, hzr]; exact rep_ofC z
          | 1, _ => exact .sc _
    | _ => exact absurd rfl h0
end
end Go.AW.Ev
