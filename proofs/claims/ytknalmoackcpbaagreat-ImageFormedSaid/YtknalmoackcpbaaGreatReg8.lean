/- Chapter 09, plain law: the two ways to check clauses are one. -/
import Derived.Test.YtknalmoackcpbaaGreatReg7
set_option linter.unusedSimpArgs false
set_option linter.unusedVariables false
namespace Go.Proofs.YtknalmoackcpbaaGreat
namespace Rg
open Go Go.AW
structure Wf (c : Cl) : Prop where
  k1 : 1 ≤ c.k
  k4 : c.k ≤ 4
  t0 : 0 ≤ c.tf
  t1 : c.tf < c.tt
  h0 : 0 ≤ c.hf
  h1 : c.hf < c.ht
  f1 : c.k = 2 → 0 ≤ c.fl ∧ c.fl < c.hf
  f2 : ¬ c.k = 2 → c.fl = -1
  d1 : meetsS ⟨c.tf, c.tt⟩ ⟨c.hf, c.ht⟩ = false
  d2 : c.k = 2 → meetsS ⟨c.tf, c.tt⟩ ⟨c.fl, c.hf⟩ = false
theorem meets_comm (s t : Sn) : meetsS s t = meetsS t s := by unfold meetsS; rw [Bool.and_comm]
theorem parts_2 {k : Int} {c : Cl} (h : c.k = 2) : partsS k c = [⟨k, 1, ⟨c.tf, c.tt⟩⟩, ⟨k, 2, ⟨c.hf, c.ht⟩⟩, ⟨k, 3, ⟨c.fl, c.hf⟩⟩] := by simp [partsS, h]
theorem parts_n {k : Int} {c : Cl} (h : ¬ c.k = 2) : partsS k c = [⟨k, 1, ⟨c.tf, c.tt⟩⟩, ⟨k, 2, ⟨c.hf, c.ht⟩⟩] := by simp [partsS, h]
theorem meetB_eq {s t : Sn} (h1 : s.f < s.t) (h2 : t.f < t.t) : meetB s t = meetsS s t := by simp [meetB, meetsS, h1, h2]
theorem meetB_z1 {t : Sn} : meetB ⟨0, 0⟩ t = false := by simp [meetB]
theorem meetB_z2 {s : Sn} : meetB s ⟨0, 0⟩ = false := by simp [meetB]
theorem withB_eq {s t : Sn} (h1 : s.f < s.t) : withB s t = withinS s t := by
  obtain ⟨a, b⟩ := s
  obtain ⟨c, d⟩ := t
  simp only [withB, withinS, Sn.mk.injEq] at h1 ⊢
  rw [Bool.eq_iff_iff]
  simp
  omega
theorem withB_z {t : Sn} : withB ⟨0, 0⟩ t = true := by simp [withB]
theorem alone_eq (n : Int) (c : Cl) : aloneR n c = aloneS n c := by
  unfold aloneR aloneS
  split
  · rfl
  split
  · rfl
  rename_i h1 h2
  simp [insideS] at h1 h2
  have e : clashS (partsS 0 c) (partsS 0 c) sameR = (meetB (bnd c 1) (bnd c 2) || (meetB (bnd c 1) (bnd c 3) || meetB (bnd c 2) (bnd c 3))) := by
    by_cases hk : c.k = 2
    · rw [parts_2 hk]
      have b1 : bnd c 1 = ⟨c.tf, c.tt⟩ := rfl
      have b2 : bnd c 2 = ⟨c.hf, c.ht⟩ := rfl
      have b3 : bnd c 3 = ⟨c.fl, c.hf⟩ := by simp [bnd, hk]
      rw [b1, b2, b3, meetB_eq (by simp; omega) (by simp; omega), meetB_eq (by simp; omega) (by simp; omega), meetB_eq (by simp; omega) (by simp; omega)]
      simp [clashS, sameR, meets_comm ⟨c.hf, c.ht⟩ ⟨c.tf, c.tt⟩, meets_comm ⟨c.fl, c.hf⟩ ⟨c.tf, c.tt⟩, meets_comm ⟨c.fl, c.hf⟩ ⟨c.hf, c.ht⟩]
      generalize meetsS ⟨c.tf, c.tt⟩ ⟨c.hf, c.ht⟩ = x
      generalize meetsS ⟨c.tf, c.tt⟩ ⟨c.fl, c.hf⟩ = y
      generalize meetsS ⟨c.hf, c.ht⟩ ⟨c.fl, c.hf⟩ = z
      revert x y z; decide
    · rw [parts_n hk]
      have b1 : bnd c 1 = ⟨c.tf, c.tt⟩ := rfl
      have b2 : bnd c 2 = ⟨c.hf, c.ht⟩ := rfl
      have b3 : bnd c 3 = ⟨0, 0⟩ := by simp [bnd, hk]
      rw [b1, b2, b3, meetB_eq (by simp; omega) (by simp; omega), meetB_z2, meetB_z2]
      simp [clashS, sameR, meets_comm ⟨c.hf, c.ht⟩ ⟨c.tf, c.tt⟩]
  rw [e]
theorem wf_of {n : Int} {c : Cl} (h : aloneS n c = 0) : Wf c ∧ c.tt ≤ n ∧ c.ht ≤ n := by
  unfold aloneS at h
  split at h
  · cases h
  split at h
  · cases h
  split at h
  · cases h
  rename_i h1 h2 h3
  simp [insideS] at h1 h2
  by_cases hk : c.k = 2
  · rw [parts_2 hk] at h3
    simp [clashS, sameR] at h3
    exact ⟨⟨by omega, by omega, by omega, by omega, by omega, by omega, fun _ => by omega, fun h => absurd hk h, h3.1.1, fun _ => h3.1.2⟩, by omega, by omega⟩
  · rw [parts_n hk] at h3
    simp [clashS, sameR] at h3
    exact ⟨⟨by omega, by omega, by omega, by omega, by omega, by omega, fun h => absurd h hk, fun _ => by omega, h3.1, fun h => absurd h hk⟩, by omega, by omega⟩
theorem fits_eq {a b : Cl} (ha : Wf a) (hb : Wf b) : fitsR a b = fitsS a b := by
  have a1 : bnd a 1 = ⟨a.tf, a.tt⟩ := rfl
  have a2 : bnd a 2 = ⟨a.hf, a.ht⟩ := rfl
  have b1 : bnd b 1 = ⟨b.tf, b.tt⟩ := rfl
  have b2 : bnd b 2 = ⟨b.hf, b.ht⟩ := rfl
  have at1 := ha.t1
  have ah1 := ha.h1
  have bt1 := hb.t1
  have bh1 := hb.h1
  have af := ha.f1
  have bf := hb.f1
  -- what lies in one
  have hin : ∀ t : Sn, ∀ k p : Int, allIn (partsS 0 a) ⟨k, p, t⟩ = (withB (bnd a 1) t && (withB (bnd a 2) t && withB (bnd a 3) t)) := by
    intro t k p
    by_cases hk : a.k = 2
    · have a3 : bnd a 3 = ⟨a.fl, a.hf⟩ := by simp [bnd, hk]
      have := af hk
      rw [parts_2 hk, a1, a2, a3, withB_eq (by simp; omega), withB_eq (by simp; omega), withB_eq (by simp; omega)]
      simp [allIn]
    · have a3 : bnd a 3 = ⟨0, 0⟩ := by simp [bnd, hk]
      rw [parts_n hk, a1, a2, a3, withB_eq (by simp; omega), withB_eq (by simp; omega), withB_z]
      simp [allIn]
  have hbeg : ∀ t : Sn, ∀ p : Int, ((partsS 0 a).any (fun y => !decide (y.p = 1) && decide (y.s.f = t.f))) = (decide (a.hf = t.f) || (decide (a.k = 2) && decide (a.fl = t.f))) := by
    intro t p
    by_cases hk : a.k = 2
    · rw [parts_2 hk]; simp [hk]
    · rw [parts_n hk]; simp [hk]
  have hclash : (if (decide (a.tf = b.tf) && decide (a.tt = b.tt)) = true then !clashS (partsS 0 a) (partsS 1 b) triesB else !clashS (partsS 0 a) (partsS 1 b) noB) = nR a b := by
    unfold nR mR
    have e : (decide (a.tf = b.tf) && decide (a.tt = b.tt)) = sameT a b := rfl
    rw [e]
    by_cases hk : a.k = 2 <;> by_cases hk2 : b.k = 2
    · have a3 : bnd a 3 = ⟨a.fl, a.hf⟩ := by simp [bnd, hk]
      have b3 : bnd b 3 = ⟨b.fl, b.hf⟩ := by simp [bnd, hk2]
      have := af hk
      have := bf hk2
      simp only [List.all_cons, List.all_nil, a1, a2, a3, b1, b2, b3]
      rw [meetB_eq (by simp; omega) (by simp; omega), meetB_eq (by simp; omega) (by simp; omega), meetB_eq (by simp; omega) (by simp; omega), meetB_eq (by simp; omega) (by simp; omega), meetB_eq (by simp; omega) (by simp; omega), meetB_eq (by simp; omega) (by simp; omega), meetB_eq (by simp; omega) (by simp; omega), meetB_eq (by simp; omega) (by simp; omega), meetB_eq (by simp; omega) (by simp; omega)]
      rw [parts_2 hk, parts_2 hk2]
      cases sameT a b <;> simp [clashS, triesB, noB, Bool.and_assoc]
    · have a3 : bnd a 3 = ⟨a.fl, a.hf⟩ := by simp [bnd, hk]
      have b3 : bnd b 3 = ⟨0, 0⟩ := by simp [bnd, hk2]
      have := af hk
      simp only [List.all_cons, List.all_nil, a1, a2, a3, b1, b2, b3, meetB_z2]
      rw [meetB_eq (by simp; omega) (by simp; omega), meetB_eq (by simp; omega) (by simp; omega), meetB_eq (by simp; omega) (by simp; omega), meetB_eq (by simp; omega) (by simp; omega), meetB_eq (by simp; omega) (by simp; omega), meetB_eq (by simp; omega) (by simp; omega)]
      rw [parts_2 hk, parts_n hk2]
      cases sameT a b <;> simp [clashS, triesB, noB, Bool.and_assoc]
    · have a3 : bnd a 3 = ⟨0, 0⟩ := by simp [bnd, hk]
      have b3 : bnd b 3 = ⟨b.fl, b.hf⟩ := by simp [bnd, hk2]
      have := bf hk2
      simp only [List.all_cons, List.all_nil, a1, a2, a3, b1, b2, b3, meetB_z1]
      rw [meetB_eq (by simp; omega) (by simp; omega), meetB_eq (by simp; omega) (by simp; omega), meetB_eq (by simp; omega) (by simp; omega), meetB_eq (by simp; omega) (by simp; omega), meetB_eq (by simp; omega) (by simp; omega), meetB_eq (by simp; omega) (by simp; omega)]
      rw [parts_n hk, parts_2 hk2]
      cases sameT a b <;> simp [clashS, triesB, noB, Bool.and_assoc]
    · have a3 : bnd a 3 = ⟨0, 0⟩ := by simp [bnd, hk]
      have b3 : bnd b 3 = ⟨0, 0⟩ := by simp [bnd, hk2]
      simp only [List.all_cons, List.all_nil, a1, a2, a3, b1, b2, b3, meetB_z1, meetB_z2]
      rw [meetB_eq (by simp; omega) (by simp; omega), meetB_eq (by simp; omega) (by simp; omega), meetB_eq (by simp; omega) (by simp; omega), meetB_eq (by simp; omega) (by simp; omega)]
      rw [parts_n hk, parts_n hk2]
      cases sameT a b <;> simp [clashS, triesB, noB, Bool.and_assoc]
  have g1 : ∀ k p : Int, gR a b 1 = allIn (partsS 0 a) ⟨k, p, ⟨b.tf, b.tt⟩⟩ := fun k p => by unfold gR; rw [hin, b1]; simp [bt1]
  have g2 : ∀ k p : Int, gR a b 2 = allIn (partsS 0 a) ⟨k, p, ⟨b.hf, b.ht⟩⟩ := fun k p => by unfold gR; rw [hin, b2]; simp [bh1]
  unfold fitsR fitsS
  rw [hclash]
  simp only [g1 1 1, g2 1 2]
  by_cases hk2 : b.k = 2
  · have b3 : bnd b 3 = ⟨b.fl, b.hf⟩ := by simp [bnd, hk2]
    have hb3 := bf hk2
    have g3 : ∀ k p : Int, gR a b 3 = allIn (partsS 0 a) ⟨k, p, ⟨b.fl, b.hf⟩⟩ := fun k p => by unfold gR; rw [hin, b3]; simp [hb3]
    simp only [g3 1 3, parts_2 hk2, List.find?]
    cases allIn (partsS 0 a) ⟨1, 1, ⟨b.tf, b.tt⟩⟩ with
    | true => simp [rR]
    | false =>
      cases allIn (partsS 0 a) ⟨1, 2, ⟨b.hf, b.ht⟩⟩ with
      | true => simp only [rR, b2]; rw [← hbeg ⟨b.hf, b.ht⟩ 0]; simp
      | false =>
        cases allIn (partsS 0 a) ⟨1, 3, ⟨b.fl, b.hf⟩⟩ with
        | true => simp only [rR, b3]; rw [← hbeg ⟨b.fl, b.hf⟩ 0]; simp
        | false => simp
  · have b3 : bnd b 3 = ⟨0, 0⟩ := by simp [bnd, hk2]
    have g3 : gR a b 3 = false := by unfold gR; rw [b3]; simp
    simp only [g3, parts_n hk2, List.find?]
    cases allIn (partsS 0 a) ⟨1, 1, ⟨b.tf, b.tt⟩⟩ with
    | true => simp [rR]
    | false =>
      cases allIn (partsS 0 a) ⟨1, 2, ⟨b.hf, b.ht⟩⟩ with
      | true => simp only [rR, b2]; rw [← hbeg ⟨b.hf, b.ht⟩ 0]; simp
      | false => simp
theorem chkF_eq {al : Cl → Int} {ft ft' : Cl → Cl → Bool} (h : ∀ a b, al a = 0 → al b = 0 → ft a b = ft' a b) : ∀ (l pre : List Cl), (∀ a ∈ pre, al a = 0) → chkF al ft pre l = chkF al ft' pre l := by
  intro l
  induction l with
  | nil => intro pre _; rfl
  | cons c l ih =>
    intro pre hp
    unfold chkF
    by_cases h0 : al c = 0
    · rw [if_pos h0, if_pos h0, show pre.all (fun a => ft a c) = pre.all (fun a => ft' a c) from by
        rw [Bool.eq_iff_iff, List.all_eq_true, List.all_eq_true]
        exact ⟨fun q x hx => by rw [← h x c (hp x hx) h0]; exact q x hx, fun q x hx => by rw [h x c (hp x hx) h0]; exact q x hx⟩]
      rw [ih (pre ++ [c]) (fun a ha => by
        rcases List.mem_append.1 ha with ha | ha
        · exact hp a ha
        · simp at ha; rw [ha]; exact h0)]
    · rw [if_neg h0, if_neg h0]
theorem check_eq (n : Int) (l : List Cl) : checkS (aloneR n) fitsR l = checkS (aloneS n) fitsS l := by
  have : aloneR n = aloneS n := by funext c; exact alone_eq n c
  rw [this]
  unfold checkS
  rw [chkF_eq (fun a b ha hb => fits_eq (wf_of ha).1 (wf_of hb).1) l [] (by simp)]
end Rg
end Go.Proofs.YtknalmoackcpbaaGreat
