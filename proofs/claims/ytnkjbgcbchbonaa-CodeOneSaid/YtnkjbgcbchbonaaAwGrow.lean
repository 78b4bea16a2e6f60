/- A layer of abstract values over the model's machine: own work for this claim, part AwGrow. -/
import Derived.Test.YtnkjbgcbchbonaaAwLoop
set_option linter.unusedSimpArgs false
set_option linter.unusedVariables false
namespace Go.AW
open Go Go.RowKit

variable {P : Program} {n : Nat} {ds : List Deferred} {Q : AQ} {s : Fr} {σ : AS} {G : Gh} {w : World} {K Pn : AV → AS → Prop}

/-! ## a slice that grows and is written to -/

theorem flatC_len {m : Nat} {l : List AV} (h : ∀ v ∈ l, v.cells.length = m) : (flatC l).length = l.length * m := (flatC_get l h).1
theorem flatC_app (a b : List AV) : flatC (a ++ b) = flatC a ++ flatC b := by simp [flatC]
theorem flatC_split {m : Nat} {l : List AV} (h : ∀ v ∈ l, v.cells.length = m) {i : Nat} (hi : i < l.length) :
    flatC l = flatC (l.take i) ++ (l[i].cells ++ flatC (l.drop (i + 1))) ∧ (flatC (l.take i)).length = i * m := by
  have h1 : l = l.take i ++ l[i] :: l.drop (i + 1) := by
    conv => lhs; rw [← List.take_append_drop i l, List.drop_eq_getElem_cons hi]
  refine ⟨?_, ?_⟩
  · conv => lhs; rw [h1]
    rw [flatC_app, flatC_cons]
  · rw [flatC_len (m := m) (fun v hv => h v (List.mem_of_mem_take hv)), List.length_take, Nat.min_eq_left (by omega)]
theorem flatC_at {m : Nat} {l : List AV} (h : ∀ v ∈ l, v.cells.length = m) {i : Nat} (hi : i < l.length) : ((flatC l).drop (i * m)).take m = l[i].cells := by
  obtain ⟨h1, h2⟩ := flatC_split h hi
  have h3 := h l[i] (List.getElem_mem hi)
  rw [h1, List.drop_append_of_le_length (by omega), List.drop_eq_nil_of_le (by omega), List.nil_append, List.take_append_of_le_length (by omega), List.take_of_length_le (by omega)]
theorem flatC_set {m : Nat} {l : List AV} (h : ∀ v ∈ l, v.cells.length = m) {i : Nat} (hi : i < l.length) {v : AV} (hv : v.cells.length = m) :
    (flatC l).take (i * m) ++ (v.cells ++ (flatC l).drop (i * m + m)) = flatC (l.set i v) := by
  obtain ⟨h1, h2⟩ := flatC_split h hi
  have h3 := h l[i] (List.getElem_mem hi)
  have h4 : l.set i v = l.take i ++ v :: l.drop (i + 1) := by
    rw [List.set_eq_take_append_cons_drop, if_pos hi]
  rw [h4, flatC_app, flatC_cons, h1, List.take_append_of_le_length (by omega), List.take_of_length_le (by omega)]
  congr 1
  rw [← List.append_assoc, List.drop_append_of_le_length (by simp; omega), List.drop_eq_nil_of_le (by simp; omega), List.nil_append]

theorem flat_rep {ES : List AV} {m : Nat} (hm : 0 < m) (h : ∀ v ∈ ES, v.cells.length = m) {vs : Nat → Value} {p : Value → Prop}
    (hr : ∀ i j, i < ES.length → j < m → Rep P G ((ES.getD i .any).cells.getD j .any) (vs (i * m + j)) ∧ p (vs (i * m + j))) : ∀ k, k < (flatC ES).length → Rep P G ((flatC ES).getD k .any) (vs k) ∧ p (vs k) := by
  intro k hk
  obtain ⟨f1, f2⟩ := flatC_get ES h
  rw [f1] at hk
  have k1 : k / m < ES.length := Nat.div_lt_of_lt_mul (by rw [Nat.mul_comm]; exact hk)
  have k2 : k % m < m := Nat.mod_lt _ hm
  have k3 : (k / m) * m + k % m = k := by rw [Nat.mul_comm]; exact Nat.div_add_mod k _
  have h1 := f2 _ _ k1 k2
  have h2 := hr _ _ k1 k2
  rw [k3] at h1 h2
  rw [h1]
  exact h2
theorem flat_rep' {ES : List AV} {m : Nat} (h : ∀ v ∈ ES, v.cells.length = m) {vs : Nat → Value} {p : Value → Prop}
    (hr : ∀ k, k < (flatC ES).length → Rep P G ((flatC ES).getD k .any) (vs k) ∧ p (vs k)) : ∀ i j, i < ES.length → j < m → Rep P G ((ES.getD i .any).cells.getD j .any) (vs (i * m + j)) ∧ p (vs (i * m + j)) := by
  intro i j hi hj
  obtain ⟨f1, f2⟩ := flatC_get ES h
  rw [← f2 i j hi hj]
  exact hr _ (by rw [f1]; exact idx_lt hi hj)

/-- v is a slice of the elements es, written to by none else; τ is S and its block, if it has one. -/
def GV (P : Program) (e : TypeId) (es : List AV) (v : AV) (S τ : AS) : Prop :=
  (es = [] ∧ v = .nilS ∧ τ = S) ∨ ∃ (id cap : Nat) (spl : List AV), S id = none ∧ v = .msl id 0 es.length cap ∧ τ = S.set id (.cells e (flatC (es ++ spl))) ∧ (∀ x ∈ es ++ spl, x.cells.length = P.cellsOf e) ∧ es.length + spl.length = cap

theorem GV.nil {e : TypeId} {S : AS} : GV P e [] .nilS S S := .inl ⟨rfl, rfl, rfl⟩
theorem GV.le {e : TypeId} {es : List AV} {v : AV} {S τ : AS} (h : GV P e es v S τ) : AS.le S τ := by
  rcases h with ⟨_, _, rfl⟩ | ⟨id, cap, spl, h0, _, rfl, _⟩
  · exact AS.le_refl _
  · exact le_new h0 (AS.le_refl _)
theorem GV.set {e : TypeId} {es : List AV} {v : AV} {S τ : AS} (h : GV P e es v S τ) {j : Nat} {b : ABlk} (hj : τ j = none) : GV P e es v (S.set j b) (τ.set j b) := by
  rcases h with ⟨h1, h2, rfl⟩ | ⟨id, cap, spl, h0, h1, rfl, h3⟩
  · exact .inl ⟨h1, h2, rfl⟩
  · have hne : j ≠ id := by rintro rfl; simp at hj
    exact .inr ⟨id, cap, spl, by have h9 : ¬ id = j := fun e => hne e.symm; simp [h9, h0], h1, (AS.set_comm hne.symm).symm ▸ rfl, h3⟩
theorem GV.weak {e : TypeId} {es : List AV} {v : AV} {S S' τ' : AS} (h : GV P e es v S' τ') (hle : AS.le S S') : ∃ τ, GV P e es v S τ ∧ AS.le τ τ' := by
  rcases h with ⟨h1, h2, rfl⟩ | ⟨id, cap, spl, h0, h1, rfl, h3⟩
  · exact ⟨S, .inl ⟨h1, h2, rfl⟩, hle⟩
  · have hs : S id = none := by
      cases hx : S id with
      | none => rfl
      | some b => have := hle id b hx; rw [h0] at this; cases this
    exact ⟨_, .inr ⟨id, cap, spl, hs, h1, rfl, h3⟩, le_set2 hle⟩

theorem GV.fresh {e : TypeId} {es : List AV} {v : AV} {S τ : AS} (h : GV P e es v S τ) {j : Nat} (hj : τ j = none) : S j = none := by
  cases hx : S j with
  | none => rfl
  | some b => have := h.le j b hx; rw [hj] at this; cases this

theorem appendG_out (hi : Inv P G σ w) {t tx ty e : TypeId} {es xs : List AV} {S : AS} {v x : AV} {vs vx : Value} (he : sliceT P t = some e) (hc0 : P.cellsOf e ≠ 0) (hz1 : (zeroAV P e).laid = true) (hz2 : (zeroAV P e).cells.length = P.cellsOf e)
    (hs : Rep P G v vs) (hG : GV P e es v S σ) (hx : Rep P G x vx) (hsrc : srcElems P e tx x = some xs) (hxs : ∀ x ∈ xs, x.cells.length = P.cellsOf e)
    (hroom : (es.length + xs.length) * P.bytesOf e ≤ roomB (P.bytesOf e)) (hmax : es.length + xs.length ≤ 140737488355328) (h : ∀ v' τ', GV P e (es ++ xs) v' S τ' → K v' τ') :
    Out P G K Pn (((do pure (Next.value (← Builtin.append_ #[t, tx] ty #[vs, vx]))) : Sem Next).run P w) := by
  have hu := sliceT_eq he
  obtain ⟨it, z, hit, hz, hzr⟩ := zeroAV_info hz1
  have hsize : it.size = P.cellsOf e := by simp [Program.cellsOf, hit]
  have hbytes : it.bytes = P.bytesOf e := by simp [Program.bytesOf, hit]
  have hrz : Rep P G (zeroAV P e) z := by rw [hzr]; exact rep_ofC z
  obtain ⟨z1, z2⟩ := laid_cells hrz hz1
  rw [hz2] at z1 z2
  obtain ⟨news, s1, s2⟩ := src_ok hi hz1 hz2 hx hsrc
  have hpos : 0 < P.cellsOf e := by omega
  have hnl : news.length = xs.length * P.cellsOf e := s2.len
  have hcapfit : ∀ old, old < es.length + xs.length → Builtin.nextslicecap (es.length + xs.length) old * it.bytes ≤ 281474976710656 := by
    intro old ho
    rw [hbytes]
    exact roomB_ok ho hroom
  have one_get : ∀ i, i < news.length → (news.getD i undef).oneCell' = true := fun i hi' => by
    rw [List.getD_eq_getElem?_getD, List.getElem?_eq_getElem hi']
    exact s1.one _ (List.getElem_mem _)
  -- a new block
  have grow : ∀ (base : Option Addr) (cap : Nat) (olds : List Value), vs = .slice base es.length cap → (∀ x ∈ es, x.cells.length = P.cellsOf e) → olds.length = es.length * P.cellsOf e → cap < es.length + xs.length →
      (Builtin.firstCells it.size es.length (.slice base es.length cap)).run P w.drew = .ok olds.toArray w.drew →
      (∀ i j, i < es.length → j < P.cellsOf e → Rep P G ((es.getD i .any).cells.getD j .any) (olds.getD (i * P.cellsOf e + j) undef) ∧ (olds.getD (i * P.cellsOf e + j) undef).oneCell' = true) → Inv P G S w →
      Out P G K Pn (((do pure (Next.value (← Builtin.append_ #[t, tx] ty #[vs, vx]))) : Sem Next).run P w) := by
    intro base cap olds hvs hel hol hlt hold hor hiS
    have hrun := app_grow (P := P) w t tx ty e it z hu hit hz base es.length cap olds hold vx xs.length news s1 hlt (by omega) (hcapfit cap hlt)
    have hcapge := grownCap_ge w (es.length + xs.length) cap e
    generalize grownCap w (es.length + xs.length) cap e = nc at hrun hcapge
    have hES : ∀ x ∈ es ++ xs ++ List.replicate (nc - (es.length + xs.length)) (zeroAV P e), x.cells.length = P.cellsOf e := by
      intro x hx
      rcases List.mem_append.1 hx with hx | hx
      · rcases List.mem_append.1 hx with hx | hx
        · exact hel x hx
        · exact hxs x hx
      · rw [(List.mem_replicate.1 hx).2]; exact hz2
    have hrow : (olds ++ news).toArray ++ Builtin.zeroCells z.cells (nc - (es.length + xs.length)) = (olds ++ news ++ (Builtin.zeroCells z.cells (nc - (es.length + xs.length))).toList).toArray := by
      apply Array.ext'; simp
    have hzl : ((Builtin.zeroCells z.cells (nc - (es.length + xs.length))).toList).length = (nc - (es.length + xs.length)) * P.cellsOf e := by
      simp [Builtin.zeroCells, z1]
    obtain ⟨G', g1, g2, g3⟩ := hiS.drew.allocCells e ((olds ++ news).toArray ++ Builtin.zeroCells z.cells (nc - (es.length + xs.length))) (flatC (es ++ xs ++ List.replicate (nc - (es.length + xs.length)) (zeroAV P e)))
      (by rw [hrow, flatC_len hES]; simp [hol, hnl, hzl, Nat.add_mul]) (by
        refine flat_rep (P := P) (G := G) hpos hES (vs := fun k => ((olds ++ news).toArray ++ Builtin.zeroCells z.cells (nc - (es.length + xs.length))).getD k undef) (p := fun v => v.oneCell' = true) ?_
        intro i j hi' hj
        have hg : ∀ k, ((olds ++ news).toArray ++ Builtin.zeroCells z.cells (nc - (es.length + xs.length))).getD k undef = (olds ++ news ++ (Builtin.zeroCells z.cells (nc - (es.length + xs.length))).toList).getD k undef := by
          intro k; rw [hrow]; simp [List.getD_eq_getElem?_getD]
        simp only [hg]
        simp only [List.length_append, List.length_replicate] at hi'
        by_cases c1 : i < es.length
        · have e1 := idx_lt c1 hj
          rw [getD_append_left _ _ _ (by simp; omega), getD_append_left _ _ _ c1, getD_append_left _ _ _ (by simp; omega), getD_append_left _ _ _ (by omega)]
          exact hor i j c1 hj
        · by_cases c2 : i < es.length + xs.length
          · have e1 := idx_lt (n := es.length + xs.length) c2 hj
            have e2 := idx_ge (sz := P.cellsOf e) (j := j) (show es.length ≤ i by omega)
            rw [Nat.add_mul] at e1
            have e4 : es.length * P.cellsOf e ≤ i * P.cellsOf e := Nat.mul_le_mul_right _ (by omega)
            have e3 : i * P.cellsOf e + j - olds.length = (i - es.length) * P.cellsOf e + j := by rw [hol, Nat.sub_mul]; omega
            have hres := s2.rep (i - es.length) j (by omega) hj
            have hone := one_get ((i - es.length) * P.cellsOf e + j) (by rw [hnl]; exact idx_lt (by omega) hj)
            rw [getD_append_left _ _ _ (by simp; omega), getD_append_right _ _ _ (by omega), getD_append_left _ _ _ (by simp; omega), getD_append_right _ _ _ (by omega), e3]
            exact ⟨hres, hone⟩
          · have e2 := idx_ge (sz := P.cellsOf e) (j := j) (show es.length + xs.length ≤ i by omega)
            rw [Nat.add_mul] at e2
            have e4 : (es.length + xs.length) * P.cellsOf e ≤ i * P.cellsOf e := Nat.mul_le_mul_right _ (by omega)
            rw [Nat.add_mul] at e4
            have e3 : i * P.cellsOf e + j - (olds ++ news).length = (i - (es.length + xs.length)) * P.cellsOf e + j := by
              rw [List.length_append, hol, hnl, Nat.sub_mul, Nat.add_mul]; omega
            rw [getD_append_right _ _ _ (by simp; omega), getD_append_right _ _ _ (by simp [hol, hnl]; omega), e3]
            rw [zeros_get z1 (nc - (es.length + xs.length)) (i - (es.length + xs.length)) j (by omega) hj]
            have hgr : (List.replicate (nc - (es.length + xs.length)) (zeroAV P e)).getD (i - (es ++ xs).length) .any = zeroAV P e := by
              rw [List.getD_eq_getElem?_getD, List.getElem?_replicate, if_pos (by simp; omega)]; rfl
            rw [hgr]
            exact z2 j hj)
    rw [hvs]
    refine Out.value hrun g1 g3 (.msl g2) (h _ _ (.inr ⟨G.top, nc, List.replicate (nc - (es.length + xs.length)) (zeroAV P e), hiS.fresh, by simp, rfl, hES, by simp; omega⟩))
  rcases hG with ⟨rfl, rfl, rfl⟩ | ⟨id, cap, spl, h0, rfl, rfl, hES, hcap⟩
  · cases hs
    by_cases hx0 : xs = []
    · subst hx0
      have hn0 : news = [] := by simpa using hnl
      subst hn0
      exact Out.value (app_zero hu hit s1) (.refl G) hi .nilS (h _ _ GV.nil)
    · have : 0 < xs.length := List.length_pos_iff.2 hx0
      exact grow none 0 [] rfl (by simp) (by simp) (by simp; omega) (by simp [Builtin.firstCells]) (fun i j hi' => by simp at hi') hi
  · cases hs with
    | msl hb =>
      rename_i b
      obtain ⟨b', cur, k1, k2, k3, k4⟩ := hi.cells id e (flatC (es ++ spl)) (by simp)
      rw [hb] at k1
      obtain rfl := Option.some.inj k1
      have hfl := flatC_len hES
      have hesl : ∀ x ∈ es, x.cells.length = P.cellsOf e := fun x hx => hES x (by simp [hx])
      have hrepES := flat_rep' (P := P) (G := G) hES (vs := fun k => cur.getD k undef) (p := fun v => v.oneCell' = true) k4
      by_cases hfit : es.length + xs.length ≤ cap
      · have hcurl : cur.size = cap * P.cellsOf e := by rw [k3, hfl, List.length_append, hcap]
        have hle2 : (es.length + xs.length) * P.cellsOf e ≤ cap * P.cellsOf e := Nat.mul_le_mul_right _ hfit
        rw [Nat.add_mul] at hle2
        have hrun := app_room (P := P) w t tx ty e it hu hit b 0 es.length cap vx xs.length news s1 hfit
          (fun j hj => by
            rw [hsize]
            simp only [World.cell?, k2]
            have : es.length * P.cellsOf e + j < cur.size := by rw [hcurl]; omega
            simp [this]) (fun j hj => by
            simp only [World.frozen?, k2]
            simp)
        rw [hsize, Nat.zero_add] at hrun
        have hst := hi.store (i := id) (ty := e) (cs := flatC (es ++ spl)) (by simp) (es.length * P.cellsOf e) news (flatC xs) (by rw [hnl, flatC_len hxs]) (by rw [hnl, ← k3, hcurl]; exact hle2)
          (flat_rep (P := P) (G := G) hpos hxs (vs := fun k => news.getD k undef) (p := fun v => v.oneCell' = true) (fun i j hi' hj => ⟨s2.rep i j hi' hj, one_get _ (by rw [hnl]; exact idx_lt hi' hj)⟩)) b hb
        have hcs : (flatC (es ++ spl)).take (es.length * P.cellsOf e) ++ flatC xs ++ (flatC (es ++ spl)).drop (es.length * P.cellsOf e + (flatC xs).length) = flatC (es ++ xs ++ spl.drop xs.length) := by
          have hl1 := flatC_len hesl
          have hspl : ∀ x ∈ spl, x.cells.length = P.cellsOf e := fun x hx => hES x (by simp [hx])
          have hd : (flatC spl).drop (xs.length * P.cellsOf e) = flatC (spl.drop xs.length) := by
            have e1 : spl = spl.take xs.length ++ spl.drop xs.length := (List.take_append_drop _ _).symm
            have e2 : (flatC (spl.take xs.length)).length = xs.length * P.cellsOf e := by
              rw [flatC_len (m := P.cellsOf e) (fun x hx => hspl x (List.mem_of_mem_take hx)), List.length_take, Nat.min_eq_left (by omega)]
            conv => lhs; rw [e1]
            rw [flatC_app, ← e2, List.drop_left]
          rw [flatC_app es spl, flatC_app (es ++ xs), flatC_app es xs, ← hl1, List.take_left, ← List.drop_drop, List.drop_left, flatC_len hxs, hd]
        rw [hcs] at hst
        rw [AS.set_set] at hst
        refine Out.value hrun (.refl G) hst (.msl hb) (h _ _ (.inr ⟨id, cap, spl.drop xs.length, h0, by simp, rfl, fun x hx => ?_, by simp; omega⟩))
        rcases List.mem_append.1 hx with hx | hx
        · rcases List.mem_append.1 hx with hx | hx
          · exact hesl x hx
          · exact hxs x hx
        · exact hES x (by simp [List.mem_of_mem_drop hx])
      · have hel2 : es.length * P.cellsOf e ≤ cur.size := by rw [k3, hfl]; exact Nat.mul_le_mul_right _ (by simp)
        refine grow (some ⟨b, 0, none⟩) cap (cur.toList.take (es.length * P.cellsOf e)) rfl hesl (by simp; omega) (by omega) ?_ ?_ (hi.weaken (le_new h0 (AS.le_refl _)))
        · refine run_firstCells_some (P := P) w.drew it.size es.length ⟨b, 0, none⟩ es.length cap _ (by rw [hsize]; simp; omega) (fun j u hu' => ?_)
          have hj : j < es.length * P.cellsOf e := by
            rcases Nat.lt_or_ge j (es.length * P.cellsOf e) with h1 | h1
            · exact h1
            · rw [List.getElem?_eq_none (by simp; omega)] at hu'; cases hu'
          rw [List.getElem?_take_of_lt hj] at hu'
          rw [Addr.add_lit, Nat.zero_add]
          show w.cell? ⟨b, j, none⟩ = some u
          simp only [World.cell?, k2]
          simpa using hu'
        · intro i j hi' hj
          have hr := hrepES i j (by simp; omega) hj
          have hlt := idx_lt hi' hj
          rw [getD_append_left _ _ _ hi'] at hr
          have eg : (cur.toList.take (es.length * P.cellsOf e)).getD (i * P.cellsOf e + j) undef = cur.getD (i * P.cellsOf e + j) undef := by
            rw [List.getD_eq_getElem?_getD, List.getElem?_take_of_lt hlt]; simp
          rw [eg]
          exact hr

theorem SOp.appendG {d : Nat} {t tx : TypeId} {a b : Operand} {ty : TypeId} {pos : String} {af : Array Edge} {g : Option (Nat × Bool)} {K : Fr → AS → Prop} (hd : d < n) (e : TypeId) (es xs : List AV) (S : AS) (he : sliceT P t = some e) (hc0 : P.cellsOf e ≠ 0)
    (hz1 : (zeroAV P e).laid = true) (hz2 : (zeroAV P e).cells.length = P.cellsOf e) (hv : GV P e es (ev s a) S σ) (hx : srcElems P e tx (ev s b) = some xs) (hxs : ∀ x ∈ xs, x.cells.length = P.cellsOf e)
    (hroom : (es.length + xs.length) * P.bytesOf e ≤ roomB (P.bytesOf e)) (hmax : es.length + xs.length ≤ 140737488355328)
    (h : ∀ v' τ', GV P e (es ++ xs) v' S τ' → K (s.put (some d) v') τ') : SOp P n ds Q ⟨some d, .call ⟨.builtin .append, #[a, b], #[t, tx]⟩, ty, pos, af, g⟩ s σ K :=
  SOp.of_out hd fun G act w hs => by
    show Out P G _ _ ((do let d ← resolve act.eval ⟨.builtin .append, #[a, b], #[t, tx]⟩ ty; invoke d.target d.args : Sem Next).run P w)
    simp only [resolve, Sem.run_bind, Sem.run_pure, Result.andThen_ok, invoke]
    have e1 : (#[a, b] : Array Operand).map act.eval = #[act.eval a, act.eval b] := by simp
    rw [e1]
    exact appendG_out (ty := ty) hs.inv he hc0 hz1 hz2 (hs.ev a) hv (hs.ev b) hx hxs hroom hmax h

/-! slice expressions of such a slice -/

theorem SOp.sliceM {d t : Nat} {x : Operand} {lo hi : Option Operand} {ty : TypeId} {pos : String} {af : Array Edge} {g : Option (Nat × Bool)} {K : Fr → AS → Prop} (hd : d < n) (e : TypeId) (id off len cap l h : Nat) (he : sliceT P t = some e) (hc0 : P.cellsOf e ≠ 0)
    (hx : ev s x = .msl id off len cap) (hlo : (lo = none ∧ l = 0) ∨ ∃ o k, lo = some o ∧ ev s o = .sc (.int k l)) (hhi : (hi = none ∧ h = len) ∨ ∃ o k, hi = some o ∧ ev s o = .sc (.int k h)) (h1 : h ≤ cap) (h2 : l ≤ h) (h3 : l < cap)
    (hk : K (s.put (some d) (.msl id (off + l * P.cellsOf e) (h - l) (cap - l))) σ) : SOp P n ds Q ⟨some d, .slice t x lo hi none, ty, pos, af, g⟩ s σ K :=
  SOp.of_out hd fun G act w hs => by
    have hu := sliceT_eq he
    obtain ⟨inf, hinf, hsz2, _⟩ := info_of_cells (P := P) (t := e) hc0
    have hr := hs.ev x
    rw [hx] at hr
    show Out P G _ _ (((do pure (Next.value (← Instr.sliceAt t (act.eval x) (lo.map act.eval) (hi.map act.eval) none))) : Sem Next).run P w)
    generalize act.eval x = xv at hr ⊢
    cases hr with
    | msl hb =>
      rename_i b
      have vlo : (lo.map act.eval = none ∧ l = 0) ∨ ∃ k, lo.map act.eval = some (.int k l) := by
        rcases hlo with ⟨rfl, rfl⟩ | ⟨o, k, rfl, ho⟩
        · exact .inl ⟨rfl, rfl⟩
        · have := hs.ev o
          rw [ho] at this
          generalize hz : act.eval o = ov at this
          cases this
          exact .inr ⟨k, by simp [hz]⟩
      have vhi : (hi.map act.eval = none ∧ h = len) ∨ ∃ k, hi.map act.eval = some (.int k h) := by
        rcases hhi with ⟨rfl, rfl⟩ | ⟨o, k, rfl, ho⟩
        · exact .inl ⟨rfl, rfl⟩
        · have := hs.ev o
          rw [ho] at this
          generalize hz : act.eval o = ov at this
          cases this
          exact .inr ⟨k, by simp [hz]⟩
      have sb : ∀ (kd : IntKind) (m y : Nat) (code : BoundsCode), m ≤ y → (Instr.sliceBound (.int kd m) y code).run P w = .ok m w := by
        intro kd m y code hm
        have : (0 : Int) ≤ m ∧ (m : Int) ≤ (y : Int) := ⟨by omega, by omega⟩
        simp [Instr.sliceBound, asIntOf, hm]
      have hrun : (Instr.sliceBounds true len cap (lo.map act.eval) (hi.map act.eval) none).run P w = .ok (l, h, cap) w := by
        rcases vlo with ⟨q1, rfl⟩ | ⟨k, q1⟩ <;> rcases vhi with ⟨q2, rfl⟩ | ⟨k2, q2⟩ <;> rw [q1, q2]
        · simp [Instr.sliceBounds]
        · simp [Instr.sliceBounds, sb _ _ _ _ h1]
        · simp [Instr.sliceBounds, sb _ _ _ _ h2]
        · simp [Instr.sliceBounds, sb _ _ _ _ h1, sb _ _ _ _ h2]
      have hcl : ¬ cap = l := by omega
      refine Out.pure hs.inv (v := .slice (some ⟨b, off + l * P.cellsOf e, none⟩) (h - l) (cap - l)) ?_ (.msl hb) hk
      simp [Instr.sliceAt, Instr.slice, run_underlying hu, hrun, sizeOf, run_typeInfo w hinf, hcl, hsz2, Addr.add_lit]

theorem AS.set_self' {σ : AS} {i : Nat} {x : ABlk} (h : σ i = some x) : σ.set i x = σ := AS.set_id _ _ _ h

/-- What a part of such a slice holds is made zero. -/
theorem SOp.clearM {t : Nat} {x : Operand} {ty : TypeId} {pos : String} {af : Array Edge} {g : Option (Nat × Bool)} {K : Fr → AS → Prop} (e : TypeId) (id off len cap : Nat) (cs : List AV) (he : sliceT P t = some e) (hc0 : P.cellsOf e ≠ 0)
    (hz1 : (zeroAV P e).laid = true) (hz2 : (zeroAV P e).cells.length = P.cellsOf e) (hx : ev s x = .msl id off len cap) (h0 : 0 < len) (hσ : σ id = some (.cells e cs)) (hfit : off + len * P.cellsOf e ≤ cs.length)
    (hk : K s (σ.set id (.cells e (cs.take off ++ flatC (List.replicate len (zeroAV P e)) ++ cs.drop (off + len * P.cellsOf e))))) : SOp P n ds Q ⟨none, .call ⟨.builtin .clear, #[x], #[t]⟩, ty, pos, af, g⟩ s σ K :=
  SOp.of_out trivial fun G act w hs => by
    have hu := sliceT_eq he
    have hi := hs.inv
    obtain ⟨it, z, hit, hz, hzr⟩ := zeroAV_info hz1
    have hsize : it.size = P.cellsOf e := by simp [Program.cellsOf, hit]
    have hrz : Rep P G (zeroAV P e) z := by rw [hzr]; exact rep_ofC z
    obtain ⟨z1, z2⟩ := laid_cells hrz hz1
    rw [hz2] at z1 z2
    have hpos : 0 < P.cellsOf e := by omega
    have hr := hs.ev x
    rw [hx] at hr
    obtain ⟨b', cur, k1, k2, k3, k4⟩ := hi.cells id e cs hσ
    show Out P G _ _ ((do let d ← resolve act.eval ⟨.builtin .clear, #[x], #[t]⟩ ty; invoke d.target d.args : Sem Next).run P w)
    simp only [resolve, Sem.run_bind, Sem.run_pure, Result.andThen_ok, invoke]
    have e1 : (#[x] : Array Operand).map act.eval = #[act.eval x] := by simp
    rw [e1]
    generalize act.eval x = xv at hr ⊢
    cases hr with
    | msl hb =>
      rename_i b
      rw [hb] at k1
      obtain rfl := Option.some.inj k1
      have hES : ∀ v ∈ List.replicate len (zeroAV P e), v.cells.length = P.cellsOf e := fun v hv => by rw [(List.mem_replicate.1 hv).2]; exact hz2
      have hfl := flatC_len hES
      rw [List.length_replicate] at hfl
      have hnl : ((Builtin.zeroCells z.cells len).toList).length = len * P.cellsOf e := by simp [Builtin.zeroCells, z1]
      have hone : ∀ i j, i < len → j < P.cellsOf e → ((Builtin.zeroCells z.cells len).toList.getD (i * P.cellsOf e + j) undef).oneCell' = true := fun i j hi' hj => by
        rw [zeros_get z1 _ _ _ hi' hj]; exact (z2 j hj).2
      have hst := hi.store (i := id) (ty := e) (cs := cs) hσ off (Builtin.zeroCells z.cells len).toList (flatC (List.replicate len (zeroAV P e))) (by rw [hnl, hfl]) (by rw [hnl]; exact hfit)
        (flat_rep (P := P) (G := G) hpos hES (vs := fun k => (Builtin.zeroCells z.cells len).toList.getD k undef) (p := fun v => v.oneCell' = true) (fun i j hi' hj => by
          simp only [List.length_replicate] at hi'
          refine ⟨?_, hone i j hi' hj⟩
          rw [zeros_get z1 _ _ _ hi' hj]
          have hgr : (List.replicate len (zeroAV P e)).getD i .any = zeroAV P e := by
            rw [List.getD_eq_getElem?_getD, List.getElem?_replicate, if_pos hi']; rfl
          rw [hgr]
          exact (z2 j hj).1)) b hb
      rw [hfl] at hst
      have hall : ∀ u ∈ (Builtin.zeroCells z.cells len).toList, u.oneCell' = true := by
        intro u hu'
        obtain ⟨p, hp, rfl⟩ := List.getElem_of_mem hu'
        rw [hnl] at hp
        have hm1 : p % P.cellsOf e < P.cellsOf e := Nat.mod_lt _ hpos
        have hm2 : p / P.cellsOf e < len := Nat.div_lt_of_lt_mul (by rw [Nat.mul_comm]; exact hp)
        have hm3 : (p / P.cellsOf e) * P.cellsOf e + p % P.cellsOf e = p := by rw [Nat.mul_comm]; exact Nat.div_add_mod p _
        have := hone _ _ hm2 hm1
        rw [hm3, List.getD_eq_getElem?_getD, List.getElem?_eq_getElem (by rw [hnl]; exact hp)] at this
        exact this
      have hsto := run_storeCells_cells (P := P) b off (Builtin.zeroCells z.cells len).toList 0 w (by
        intro j hj
        rw [hnl] at hj
        simp only [World.cell?, k2]
        have : off + (0 + j) < cur.size := by omega
        simp; omega) (by
        intro j hj
        simp only [World.frozen?, k2]
        simp) hall
      simp only [Nat.add_zero] at hsto
      have hlen0 : len ≠ 0 := by omega
      have hrun : (Builtin.clear_ #[t] ty #[.slice (some ⟨b, off, none⟩) len cap]).run P w = .ok (.tuple #[]) (w.setCells b off (Builtin.zeroCells z.cells len).toList) := by
        obtain ⟨l', rfl⟩ : ∃ l', len = l' + 1 := ⟨len - 1, by omega⟩
        simp [Builtin.clear_, run_underlying hu, zeroValue, Sem.run_bind, run_typeInfo w hit, hz, hsto]
      exact Out.value (v := .tuple #[]) hrun (.refl G) hst (.any _) hk

/-! what is not written to any more -/

theorem Inv.freezeG {id : Nat} {e : TypeId} {ES : List AV} (hi : Inv P G (σ.set id (.cells e (flatC ES))) w) (h0 : σ id = none) (hl : ∀ v ∈ ES, v.cells.length = P.cellsOf e) :
    ∃ G', G.Le G' ∧ Inv P G' σ w ∧ ∀ o m cap y, o + m ≤ ES.length → m ≤ cap → Rep P G (.msl id (o * P.cellsOf e) m cap) y → Rep P G' (.lst e ((ES.drop o).take m) .unk false) y := by
  obtain ⟨b, vs, k1, k2, k3, k4⟩ := hi.cells id e (flatC ES) (by simp [AS.set])
  obtain ⟨f1, f2⟩ := flatC_get (m := P.cellsOf e) ES hl
  have hfree : ∀ o, G.mem b o = none := (hi.injB id b k1).2.2 e (flatC ES) (by simp [AS.set])
  have hle : G.Le (G.keep b 0 (flatC ES).length (fun k => vs.getD k undef)) := by
    refine ⟨rfl, rfl, fun b' o v em => ?_, fun _ _ e => e, fun t r e => ⟨r, e, rfl, .inl rfl⟩⟩
    rw [Gh.keep_out]
    · exact em
    · rintro ⟨rfl, _⟩; rw [hfree o] at em; cases em
  have old : ∀ j x, σ j = some x → j ≠ id ∧ (σ.set id (.cells e (flatC ES))) j = some x := by
    intro j x ej
    have : j ≠ id := by intro e'; subst e'; rw [h0] at ej; cases ej
    exact ⟨this, by simp [AS.set, this, ej]⟩
  refine ⟨_, hle, ⟨hi.below, hi.base, ?_, hi.top, ?_, hi.inj1, ?_, ?_, ?_, ?_, ?_⟩, ?_⟩
  · intro b' o v em
    by_cases hc : b' = b ∧ 0 ≤ o ∧ o < 0 + (flatC ES).length
    · obtain ⟨rfl, h3, h4⟩ := hc
      rw [Gh.keep_in h3 h4] at em
      obtain rfl := Option.some.inj em
      have ho : o < vs.size := by omega
      refine ⟨?_, (k4 o (by omega)).2⟩
      simp [World.cell?, k2, ho]
    · rw [Gh.keep_out hc] at em
      exact hi.mem b' o v em
  · intro j c ej
    have := hi.injB j c ej
    refine ⟨this.1, this.2.1, fun ty cs' hn o => ?_⟩
    obtain ⟨hne, hset⟩ := old j _ hn
    have hcb : c ≠ b := fun e' => hne (hi.inj1 j id b (e' ▸ ej) k1)
    rw [Gh.keep_out (fun hh => hcb hh.1)]
    exact this.2.2 ty cs' hset o
  · intro j ty cs' ej
    obtain ⟨c, vs', m1, m2, m3, m4⟩ := hi.cells j ty cs' (old j _ ej).2
    exact ⟨c, vs', m1, m2, m3, fun k hk => ⟨(m4 k hk).1.mono hle, (m4 k hk).2⟩⟩
  · intro j es' ej
    obtain ⟨c, ms, cl, m1, m2, m3, m4⟩ := hi.maps j es' (old j _ ej).2
    refine ⟨c, ms, cl, m1, m2, m3, fun k hk => ?_⟩
    obtain ⟨q, q1, q2, q3⟩ := m4 k hk
    exact ⟨q, q1, q2.mono hle, q3.mono hle⟩
  · intro j s' p ej
    exact hi.iters j s' p (old j _ ej).2
  · intro j m ej
    exact hi.tok j m (old j _ ej).2
  · intro t r et
    obtain ⟨m1, m2, m3⟩ := hi.own t r et
    refine ⟨m1, m2, fun c o ea k hk1 hk2 => ?_⟩
    obtain ⟨q1, q2, q3, q4, q5, q6, q7⟩ := m3 c o ea k hk1 hk2
    refine ⟨q1, q2, ?_, q4, q5, q6, q7⟩
    rw [Gh.keep_out (fun hh => q4 id (by rw [k1, hh.1]))]
    exact q3
  · intro o m cap y hom hmc hy
    cases hy with
    | msl hb =>
      rw [k1] at hb
      obtain rfl := Option.some.inj hb
      have hlen : ((ES.drop o).take m).length = m := by simp; omega
      have hget : ∀ i, i < m → ((ES.drop o).take m).getD i .any = ES.getD (o + i) .any := fun i hi' => by
        rw [List.getD_eq_getElem?_getD, List.getElem?_take_of_lt hi', List.getElem?_drop, List.getD_eq_getElem?_getD]
      refine Rep.lst' (fun k => vs.getD (o * P.cellsOf e + k) undef) hlen (fun i hi' => ?_) (fun k hk => ?_) (fun i j hi' hj => ?_) hmc trivial
      · rw [hlen] at hi'
        rw [hget i hi', List.getD_eq_getElem?_getD, List.getElem?_eq_getElem (by omega)]
        exact hl _ (List.getElem_mem _)
      · have h1 : (o + m) * P.cellsOf e ≤ ES.length * P.cellsOf e := Nat.mul_le_mul_right _ hom
        rw [Nat.add_mul] at h1
        rw [Gh.keep_in (by omega) (by omega)]; simp
      · rw [hlen] at hi'
        have h1 : (o + i) * P.cellsOf e + j < ES.length * P.cellsOf e := idx_lt (by omega) hj
        have := (k4 ((o + i) * P.cellsOf e + j) (by rw [f1]; exact h1)).1
        rw [f2 (o + i) j (by omega) hj, Nat.add_mul, Nat.add_assoc] at this
        rw [hget i hi']
        exact this.mono hle

theorem AWp.freezeG {c : Code} (i : Nat) {e : TypeId} {es : List AV} {S : AS} (hs : GV P e es (s i) S σ) (h : ∀ nl, (nl = true → es = []) → AWp P n ds c Q (s.put (some i) (.lst e es .unk nl)) S) : AWp P n ds c Q s σ := by
  intro G0 G a w h1 h2
  rcases hs with ⟨rfl, hv, rfl⟩ | ⟨id, cap, spl, h0, hv, rfl, hES, hcap⟩
  · refine h true (fun _ => rfl) G0 G a w h1 ⟨h2.inv, h2.size, h2.ds, fun j => ?_⟩
    by_cases hj : j = i
    · subst hj
      have := h2.rep j
      rw [hv] at this
      simp only [put_app, if_true]
      generalize a.tmps.getD j undef = v at this ⊢
      cases this
      exact .lstN trivial
    · simp only [put_app, hj, if_false]; exact h2.rep j
  · obtain ⟨G', hle, hi', conv⟩ := h2.inv.freezeG h0 hES
    refine h false (fun hh => by cases hh) G0 G' a w (h1.trans hle) ⟨hi', h2.size, h2.ds, fun j => ?_⟩
    by_cases hj : j = i
    · subst hj
      have := h2.rep j
      rw [hv] at this
      simp only [put_app, if_true]
      have := conv 0 es.length cap _ (by simp) (by omega) (by rw [Nat.zero_mul]; exact this)
      simpa using this
    · simp only [put_app, hj, if_false]; exact (h2.rep j).mono hle

end Go.AW
