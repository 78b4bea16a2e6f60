/- Chapter 04, plain laws: what is written is read to what it was; what is read is written by no more bytes. -/
import Derived.Test.YtpekbapmnmnjoaaRowsD
set_option linter.unusedSimpArgs false
set_option linter.unusedVariables false
namespace Go.Proofs.Ytpekbapmnmnjoaa
open Go Go.AW

theorem re_num {b : List UInt8} {a n : Nat} {x : Int} (h : At b a (putB x n)) (h0 : 0 ≤ x) (h1 : x < 256 ^ n) : rNum b a n = .ok (x, a + n) := by
  obtain ⟨h2, h3⟩ := h.num h0 h1
  unfold rNum
  rw [if_pos h2, h3]
theorem re_row {b : List UInt8} : ∀ {ks : List UInt8} {r : List Int} {a : Nat}, r.length = ks.length → rowFit ks r = true → At b a (rowB ks r) → rRow b 0 ks a = .ok (r, a + (rowB ks r).length) := by
  intro ks
  induction ks with
  | nil =>
    intro r a hl _ _
    match r, hl with
    | [], _ => simp [rRow, rowB]
  | cons k ks ih =>
    intro r a hl hf hA
    match r, hl with
    | x :: r, hl =>
      simp only [rowFit, Bool.and_eq_true] at hf
      simp only [rowB] at hA ⊢
      rw [At.app, putB_length] at hA
      obtain ⟨f1, f2, f3⟩ := fitsB_le hf.1
      rw [rRow, re_num hA.1 f1 f3]
      simp only
      rw [ih (by simpa using hl) hf.2 hA.2]
      simp [putB_length]; omega
theorem re_rows {b : List UInt8} {t : Nat} : ∀ {l : List (List Int)} {a : Nat}, (∀ r ∈ l, r.length = (kindsL (t : Int)).length) → tabFit t l = true → At b a (tabB t l) →
    rRws b 0 (kindsL (t : Int)) l.length a = .ok (l, a + (tabB t l).length) := by
  intro l
  induction l with
  | nil => intro a _ _ _; simp [rRws, tabB]
  | cons r l ih =>
    intro a hl hf hA
    simp only [tabFit, List.all_cons, Bool.and_eq_true] at hf
    simp only [tabB, List.flatMap_cons] at hA ⊢
    rw [At.app] at hA
    rw [List.length_cons, rRws, re_row (hl r (by simp)) hf.1 hA.1]
    simp only
    rw [ih (fun r hr => hl r (by simp [hr])) hf.2 hA.2]
    simp [preR, tabB]; omega
theorem re_tabs {b : List UInt8} : ∀ {L : List (List (List Int))} {t a : Nat}, formF t L = true → allFit t L = true → At b a (bodyB t L) →
    rTbs b 0 (L.map fun l => (l.length : Int)) t a = .ok (L, a + (bodyB t L).length) := by
  intro L
  induction L with
  | nil => intro t a _ _ _; simp [rTbs, bodyB]
  | cons l L ih =>
    intro t a hF hf hA
    simp only [formF, allFit, Bool.and_eq_true] at hF hf
    simp only [bodyB] at hA ⊢
    rw [At.app] at hA
    rw [List.map_cons, rTbs, Int.toNat_natCast, re_rows (fun r hr => by simpa using List.all_eq_true.1 hF.1 r hr) hf.1 hA.1]
    simp only
    rw [ih hF.2 hf.2 hA.2]
    simp [preR]; omega

/-- The tables that are there, from the last one on. -/
def tN : List (List (List Int)) → Nat
  | [] => 0
  | l :: r => (if l = [] then 0 else 1) + 2 * tN r
theorem thereN_tN : ∀ (L : List (List (List Int))) (t : Nat), thereN t L = 2 ^ t * tN L := by
  intro L
  induction L with
  | nil => intro t; simp [thereN, tN]
  | cons l L ih =>
    intro t
    rw [thereN, tN, ih, Nat.pow_succ, Nat.mul_add]
    split <;> simp [Nat.mul_assoc]
theorem tN_lt : ∀ (L : List (List (List Int))), tN L < 2 ^ L.length := by
  intro L
  induction L with
  | nil => simp [tN]
  | cons l L ih => rw [tN, List.length_cons, Nat.pow_succ]; split <;> omega
theorem tN_drop : ∀ (L : List (List (List Int))) (t : Nat), tN L / 2 ^ t = tN (L.drop t) := by
  intro L t
  induction t generalizing L with
  | zero => simp
  | succ t ih =>
    cases L with
    | nil => simp [tN]
    | cons l L =>
      rw [List.drop_succ_cons, ← ih, Nat.pow_succ, Nat.mul_comm, ← Nat.div_div_eq_div_mul, tN]
      congr 1
      split <;> omega
theorem re_cnt {b : List UInt8} {R : List (List (List Int))} : ∀ {m t a : Nat}, t + m = R.length → (∀ l ∈ R, l.length ≤ 65535) → At b a (cntB (R.drop t)) →
    rCnt b (tN R) m t a = .ok ((R.drop t).map (fun l => (l.length : Int)), a + (cntB (R.drop t)).length) := by
  intro m
  induction m with
  | zero =>
    intro t a ht _ _
    rw [List.drop_eq_nil_of_le (by omega)]
    simp [rCnt, cntB]
  | succ m ih =>
    intro t a ht hl hA
    obtain ⟨l, hg, hd, hm, _⟩ := at_lt R (show t < R.length by omega)
    rw [hd] at hA ⊢
    rw [rCnt, tN_drop, hd, tN]
    simp only [cntB, List.flatMap_cons] at hA ⊢
    rw [At.app] at hA
    by_cases he : l = []
    · subst he
      simp only [cnt1, if_true, List.length_nil, Nat.add_zero] at hA ⊢
      rw [if_neg (by omega), ih (by omega) hl hA.2]
      simp [preR, cntB]
    · have hll := hl l hm
      rw [show cnt1 l = putB l.length 2 by simp [cnt1, he], putB_length] at hA
      simp only [he, if_false]
      rw [if_pos (by omega), re_num hA.1 (by omega) (by simp; omega)]
      simp only
      rw [ih (by omega) hl hA.2]
      simp [preR, cntB, cnt1, he, putB_length]; omega

theorem re_least {b : List UInt8} {a : Nat} {c : UInt8} {most : Int} (h : At b a [c]) (hc : (c.toNat : Int) ≤ most) : rLeast b a most = .ok ((c.toNat : Int), a + 1) := by
  have h1 := h.len
  simp at h1
  rw [rLeast_1 (by omega)]
  have h2 := h.2
  unfold sg at h2
  rw [List.drop_eq_getElem_cons (show a < b.length by omega)] at h2
  have h3 : b[a] = c := by
    rw [show [c].length = 1 from rfl, List.take_succ_cons] at h2
    exact (List.cons.inj h2).1
  rw [h3, if_neg (by omega)]

theorem formF_mem {L : List (List (List Int))} (h : formF 0 L = true) {k : Nat} {l : List (List Int)} (hk : L[k]? = some l) : ∀ row ∈ l, row.length = (kindsL (k : Int)).length := by
  have := formF_get h hk
  simpa using this

/-- What is written is read to what it was. -/
theorem read_write {R : List (List (List Int))} {en : Int} (hF : formedS R = true) (hW : okW R en = true) (hl : ∀ l ∈ R, l.length ≤ 65535) : readR (writeW R en) = (some (en, R), 0, 0) := by
  simp only [formedS, Bool.and_eq_true, decide_eq_true_eq] at hF
  simp only [okW, Bool.and_eq_true] at hW
  obtain ⟨f1, f2, f3⟩ := fitsB_le hW.2
  have hth : thereN 0 R = tN R := by rw [thereN_tN]; simp
  have htl := tN_lt R
  rw [hF.1] at htl
  have htn : (UInt8.ofNat (tN R)).toNat = tN R := by simp; omega
  have hA : At (writeW R en) 0 (writeW R en) := ⟨by simp, by simp [sg]⟩
  obtain ⟨b, hb⟩ : ∃ b, writeW R en = b := ⟨_, rfl⟩
  rw [hb] at hA ⊢
  have hA2 : At b 0 (writeW R en) := by rw [hb]; exact hA
  unfold writeW at hA2
  rw [hth, At.app, At.app, At.app, At.cons] at hA2
  obtain ⟨⟨⟨a1, a2⟩, a3, a4⟩, a5⟩ := hA2
  simp only [List.length_append, List.length_cons, List.length_nil, putB_length] at a3 a4 a5
  have hlen : b.length = 0 + 1 + 1 + (cntB R).length + 2 + (bodyB 0 R).length := by rw [← hb, writeW]; simp [putB_length]; omega
  have h1 := re_least (most := 3) a1 (by decide)
  have h2 := re_least (most := 63) a2 (by rw [htn]; omega)
  have h3 := re_cnt (R := R) (b := b) (m := 6) (t := 0) (a := 0 + 1 + 1) (by omega) hl (by simpa using a3)
  have h4 := re_num (n := 2) (by simpa using a4) f1 f3
  have h5 := re_tabs (b := b) (L := R) (t := 0) hF.2 hW.1 (by simpa [Nat.add_assoc] using a5)
  rw [List.drop_zero] at h3
  have hAll : rAll b = .ok ((en, R), b.length) := by
    unfold rAll
    rw [h1]
    simp only
    rw [h2]
    simp only [htn, Int.toNat_natCast]
    rw [h3]
    simp only
    rw [show 0 + 1 + 1 + (cntB R).length = 2 + (cntB R).length by omega]
    rw [h4]
    simp only
    rw [show UInt8.toNat 0 = 0 from rfl, show 2 + (cntB R).length + 2 = 2 + ((cntB R).length + 2) by omega, h5, hlen]
    simp; omega
  unfold readR
  rw [hAll]
  simp

/-! ## what is read -/

theorem wK_le (k : UInt8) (m : Nat) : (wK k 0).toNat ≤ (wK k m).toNat := by
  unfold wK
  by_cases h : k = 52
  · simp [h]
  · simp [h]; split <;> omega
theorem wK_fit {b : List UInt8} {a : Nat} {k : UInt8} (h : a + (wK k 0).toNat ≤ b.length) : fitsB (numL (seg b a (wK k 0).toNat)) (wK k 0) = true := by
  obtain ⟨h1, h2⟩ := numL_bound h
  rcases wK_24 k 0 with e | e <;> rw [e] at h1 h2 ⊢ <;> simp at h1 h2 <;> simp [fitsB] <;> omega
theorem rd_row {b : List UInt8} {mk : Nat} : ∀ {ks : List UInt8} {a : Nat} {r : List Int} {a' : Nat}, rRow b mk ks a = .ok (r, a') →
    r.length = ks.length ∧ a + (rowB ks r).length ≤ a' ∧ (mk = 0 → rowFit ks r = true) := by
  intro ks
  induction ks with
  | nil => intro a r a' h; cases h; exact ⟨rfl, by simp [rowB], fun _ => rfl⟩
  | cons k ks ih =>
    intro a r a' h
    rw [rRow] at h
    cases hN : rNum b a (wK k mk).toNat with
    | error e => rw [hN] at h; cases h
    | ok z =>
      obtain ⟨v, a2⟩ := z
      rw [hN] at h
      simp only at h
      obtain ⟨z1, z2, z3⟩ := rNum_ok hN
      cases hR : rRow b mk ks a2 with
      | error e => rw [hR] at h; cases h
      | ok z =>
        obtain ⟨l2, a3⟩ := z
        rw [hR] at h
        cases h
        obtain ⟨i1, i2, i3⟩ := ih hR
        have hw := wK_le k mk
        refine ⟨by simp [i1], by simp only [rowB, List.length_append, putB_length]; omega, fun hm => ?_⟩
        subst hm
        simp only [rowFit, i3 rfl, Bool.and_true]
        rw [z2]
        exact wK_fit z1
theorem rd_rows {b : List UInt8} {mk t : Nat} : ∀ {n a : Nat} {l : List (List Int)} {a' : Nat}, rRws b mk (kindsL (t : Int)) n a = .ok (l, a') →
    l.length = n ∧ (∀ r ∈ l, r.length = (kindsL (t : Int)).length) ∧ a + (tabB t l).length ≤ a' ∧ (mk = 0 → tabFit t l = true) := by
  intro n
  induction n with
  | zero => intro a l a' h; cases h; exact ⟨rfl, by simp, by simp [tabB], fun _ => rfl⟩
  | succ n ih =>
    intro a l a' h
    rw [rRws] at h
    cases hN : rRow b mk (kindsL (t : Int)) a with
    | error e => rw [hN] at h; cases h
    | ok z =>
      obtain ⟨v, a2⟩ := z
      rw [hN] at h
      simp only at h
      obtain ⟨r1, r2, r3⟩ := rd_row hN
      cases hR : rRws b mk (kindsL (t : Int)) n a2 with
      | error e => rw [hR] at h; cases h
      | ok z =>
        obtain ⟨l2, a3⟩ := z
        rw [hR] at h
        cases h
        obtain ⟨i1, i2, i3, i4⟩ := ih hR
        refine ⟨by simp [i1], ?_, by simp only [tabB, List.singleton_append, List.flatMap_cons, List.length_append] at i3 ⊢; omega, fun hm => ?_⟩
        · intro r hr
          rcases List.mem_cons.1 (by simpa using hr) with rfl | hr
          · exact r1
          · exact i2 r hr
        · simp only [tabFit, List.singleton_append, List.all_cons, r3 hm, Bool.true_and]
          exact i4 hm
theorem rd_tabs {b : List UInt8} {mk : Nat} : ∀ {cs : List Int} {t a : Nat} {L : List (List (List Int))} {a' : Nat}, rTbs b mk cs t a = .ok (L, a') →
    L.map (fun l => (l.length : Int)) = cs.map (fun c => (c.toNat : Int)) ∧ formF t L = true ∧ a + (bodyB t L).length ≤ a' ∧ (mk = 0 → allFit t L = true) := by
  intro cs
  induction cs with
  | nil => intro t a L a' h; cases h; exact ⟨rfl, rfl, by simp [bodyB], fun _ => rfl⟩
  | cons c cs ih =>
    intro t a L a' h
    rw [rTbs] at h
    cases hN : rRws b mk (kindsL (t : Int)) c.toNat a with
    | error e => rw [hN] at h; cases h
    | ok z =>
      obtain ⟨v, a2⟩ := z
      rw [hN] at h
      simp only at h
      obtain ⟨r0, r1, r2, r3⟩ := rd_rows hN
      cases hR : rTbs b mk cs (t + 1) a2 with
      | error e => rw [hR] at h; cases h
      | ok z =>
        obtain ⟨l2, a3⟩ := z
        rw [hR] at h
        cases h
        obtain ⟨i1, i2, i3, i4⟩ := ih hR
        refine ⟨by simp [r0, i1], ?_, by simp only [bodyB, List.singleton_append, List.length_append]; omega, fun hm => ?_⟩
        · simp only [List.singleton_append, formF, i2, Bool.and_true]
          exact List.all_eq_true.2 fun r hr => by simpa using r1 r hr
        · simp [allFit, r3 hm, i4 hm]
theorem rd_cnt {b : List UInt8} {th : Nat} : ∀ {m t a : Nat} {cs : List Int} {a' : Nat}, rCnt b th m t a = .ok (cs, a') → a ≤ b.length →
    cs.length = m ∧ ∀ L : List (List (List Int)), L.map (fun l => (l.length : Int)) = cs.map (fun c => (c.toNat : Int)) → a + (cntB L).length ≤ a' := by
  intro m
  induction m with
  | zero => intro t a cs a' h _; cases h; exact ⟨rfl, fun L hL => by have : L = [] := by simpa using hL
                                                                     subst this; simp [cntB]⟩
  | succ m ih =>
    intro t a cs a' h ha
    rw [rCnt] at h
    have key : ∀ (v : Int) (a2 : Nat), (v.toNat = 0 ∨ a + 2 ≤ a2) → a ≤ a2 → a2 ≤ b.length → preR [v] (rCnt b th m (t + 1) a2) = .ok (cs, a') →
        cs.length = m + 1 ∧ ∀ L : List (List (List Int)), L.map (fun l => (l.length : Int)) = cs.map (fun c => (c.toNat : Int)) → a + (cntB L).length ≤ a' := by
      intro v a2 hv ha2 ha3 h
      cases hR : rCnt b th m (t + 1) a2 with
      | error e => rw [hR] at h; cases h
      | ok z =>
        obtain ⟨l2, a3⟩ := z
        rw [hR] at h
        cases h
        obtain ⟨i1, i2⟩ := ih hR ha3
        refine ⟨by simp [i1], fun L hL => ?_⟩
        cases L with
        | nil => simp at hL
        | cons l L =>
          simp at hL
          have := i2 L (by simpa using hL.2)
          have e1 : (cntB (l :: L)).length = (cnt1 l).length + (cntB L).length := by simp only [cntB, List.flatMap_cons, List.length_append]
          rw [e1]
          by_cases he : l = []
          · rw [show cnt1 l = [] by simp [cnt1, he], List.length_nil]; omega
          · have hll : 0 < l.length := List.length_pos_iff.2 he
            rw [show cnt1 l = putB l.length 2 by simp [cnt1, he], putB_length]; omega
    split at h
    · cases hN : rNum b a 2 with
      | error e => rw [hN] at h; cases h
      | ok z =>
        obtain ⟨v, a2⟩ := z
        rw [hN] at h
        obtain ⟨z1, z2, z3⟩ := rNum_ok hN
        exact key v a2 (.inr (by omega)) (by omega) (by omega) h
    · exact key 0 a (.inl rfl) (by omega) ha h

/-- What is read has its form, and is written by no more bytes; where the marks are none, it fits. -/
theorem read_plain {b : List UInt8} {en : Int} {T : List (List (List Int))} (h : readR b = (some (en, T), 0, 0)) :
    formedS T = true ∧ (writeW T en).length ≤ b.length ∧ (b.getD 0 0 = 0 → okW T en = true) ∧ (∀ l ∈ T, l.length ≤ 65535) ∧ fitsB en 2 = true ∧ 0 < b.length := by
  rcases readR_cases b with ⟨e, _, hS⟩ | ⟨v, a, hE, ⟨_, hS⟩ | ⟨ha, hS⟩⟩
  · rw [hS] at h; cases h
  · rw [hS] at h; cases h
  rw [hS] at h
  cases h
  have hal := rAll_len hE
  unfold rAll at hE
  cases h1 : rLeast b 0 3 with
  | error e => rw [h1] at hE; cases hE
  | ok z =>
    obtain ⟨mk, a1⟩ := z
    rw [h1] at hE
    simp only at hE
    cases h2 : rLeast b a1 63 with
    | error e => rw [h2] at hE; cases hE
    | ok z =>
      obtain ⟨th, a2⟩ := z
      rw [h2] at hE
      simp only at hE
      obtain ⟨p1, p2, p3⟩ := rNum_ok (rLeast_ok h1).1
      obtain ⟨q1, q2, q3⟩ := rNum_ok (rLeast_ok h2).1
      cases h3 : rCnt b th.toNat 6 0 a2 with
      | error e => rw [h3] at hE; cases hE
      | ok z =>
        obtain ⟨cs, a3⟩ := z
        rw [h3] at hE
        simp only at hE
        cases h4 : rNum b a3 2 with
        | error e => rw [h4] at hE; cases hE
        | ok z =>
          obtain ⟨en', a4⟩ := z
          rw [h4] at hE
          simp only at hE
          obtain ⟨z1, z2, z3⟩ := rNum_ok h4
          cases h5 : rTbs b mk.toNat cs 0 a4 with
          | error e => rw [h5] at hE; cases hE
          | ok z =>
            obtain ⟨T', a5⟩ := z
            rw [h5] at hE
            cases hE
            obtain ⟨t1, t2, t3, t4⟩ := rd_tabs h5
            obtain ⟨c1, c2⟩ := rd_cnt h3 (by omega)
            obtain ⟨c3, c4⟩ := rCnt_pos h3 (by omega)
            have c5 := c2 T t1
            have hT6 : T.length = 6 := by
              have := congrArg List.length t1
              simpa [c1] using this
            have hfe : fitsB en 2 = true := by
              obtain ⟨b1, b2⟩ := numL_bound (b := b) (a := a3) (n := 2) z1
              rw [← z2] at b1 b2
              simp at b2
              simp [fitsB]; omega
            refine ⟨by simp [formedS, hT6, t2], ?_, fun h0 => ?_, fun l hl => ?_, hfe, by omega⟩
            · simp only [writeW, List.length_append, List.length_cons, List.length_nil, putB_length]
              omega
            · have hmk : mk.toNat = 0 := by
                rw [p2]
                rw [show numL (seg b ((0 : Nat) : Int) ((1 : Nat) : Int)) = b[0].toNat from num_1 (by omega)]
                rw [List.getD_eq_getElem?_getD, List.getElem?_eq_getElem (by omega)] at h0
                simp at h0
                rw [h0]; rfl
              simp [okW, t4 hmk, hfe]
            · have : (l.length : Int) ∈ T.map (fun l => (l.length : Int)) := List.mem_map.2 ⟨l, hl, rfl⟩
              rw [t1] at this
              obtain ⟨c, hc, hc2⟩ := List.mem_map.1 this
              have := c3 c hc
              omega

end Go.Proofs.Ytpekbapmnmnjoaa
