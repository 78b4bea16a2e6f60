/- Packed numbers: there and back. -/
import Derived.Test.YtknalmoackcpbaaGreatRef1
set_option linter.unusedSimpArgs false
set_option linter.unusedVariables false
set_option maxRecDepth 100000
set_option maxHeartbeats 3200000
namespace Go.Proofs.YtknalmoackcpbaaGreat
open Go Go.AW
theorem packL_1 (n : Int) (h0 : 0 ≤ n) (h2 : n < 128) : packL n = [UInt8.ofNat (n % 256).toNat] := by
  have hs : sizeI n = 1 := by rcases sizeI_cases n h0 (by omega) with ⟨_, hs⟩ | ⟨h, _⟩ | ⟨h, _⟩ <;> first | exact hs | omega
  simp [packL, hs, beL, packX, h2]
theorem packL_2 (n : Int) (h2 : ¬ n < 128) (h3 : n < 16384) : packL n = [UInt8.ofNat ((128 + n / 256) % 256).toNat, UInt8.ofNat (n % 256).toNat] := by
  have hs : sizeI n = 2 := by rcases sizeI_cases n (by omega) (by omega) with ⟨h, _⟩ | ⟨_, _, hs⟩ | ⟨_, h, _⟩ <;> first | exact hs | omega
  have : (n + 32768) / 256 % 256 = (128 + n / 256) % 256 := by omega
  have : (n + 32768) % 256 = n % 256 := by omega
  simp [packL, hs, beL, packX, h2, h3, *]
theorem packL_4 (n : Int) (h1 : n ≤ 536870911) (h3 : ¬ n < 16384) : packL n = [UInt8.ofNat ((192 + n / 16777216) % 256).toNat, UInt8.ofNat (n / 65536 % 256).toNat, UInt8.ofNat (n / 256 % 256).toNat, UInt8.ofNat (n % 256).toNat] := by
  have h2 : ¬ n < 128 := by omega
  have hs : sizeI n = 4 := by rcases sizeI_cases n (by omega) (by omega) with ⟨h, _⟩ | ⟨_, h, _⟩ | ⟨_, _, hs⟩ <;> first | exact hs | omega
  have a1 : (n + 3221225472) / 16777216 % 256 = (192 + n / 16777216) % 256 := by omega
  have a2 : (n + 3221225472) / 65536 % 256 = n / 65536 % 256 := by omega
  have a3 : (n + 3221225472) / 256 % 256 = n / 256 % 256 := by omega
  have a4 : (n + 3221225472) % 256 = n % 256 := by omega
  simp [packL, hs, beL, packX, h2, h3, a1, a2, a3, a4]
theorem upk_pack (n : Int) (h0 : 0 ≤ n) (h1 : n ≤ 536870911) : upk (packL n) = (n, sizeI n, 0) := by
  rcases sizeI_cases n h0 h1 with ⟨h2, hs⟩ | ⟨h2, h3, hs⟩ | ⟨h2, h3, hs⟩
  · rw [packL_1 n h0 h2]
    have e0 := ofN n
    generalize UInt8.ofNat (n % 256).toNat = c at *
    have hw : wantsI c.toNat = 1 := by unfold wantsI; rw [if_pos (by omega)]
    have hb : (c.toNat : Int) = n := by omega
    have h7 : n % 128 = n := by omega
    rw [hb] at hw
    simp [upk, hw, beN, maskI, hs, hb, h7]
  · rw [packL_2 n h2 h3]
    have e0 := ofN n
    have e1 := ofN (128 + n / 256)
    generalize UInt8.ofNat (n % 256).toNat = d at *
    generalize UInt8.ofNat ((128 + n / 256) % 256).toNat = c at *
    have hw : wantsI c.toNat = 2 := by unfold wantsI; rw [if_neg (by omega), if_pos (by omega)]
    have hb : 256 * (c.toNat : Int) + d.toNat = n + 32768 := by omega
    have h7 : (n + 32768) % 16384 = n := by omega
    simp [upk, hw, beN, maskI, hs, hb, h7]
  · rw [packL_4 n h1 h3]
    have e0 := ofN n
    have e1 := ofN (n / 256)
    have e2 := ofN (n / 65536)
    have e3 := ofN (192 + n / 16777216)
    generalize UInt8.ofNat (n % 256).toNat = d at *
    generalize UInt8.ofNat (n / 256 % 256).toNat = d1 at *
    generalize UInt8.ofNat (n / 65536 % 256).toNat = d2 at *
    generalize UInt8.ofNat ((192 + n / 16777216) % 256).toNat = c at *
    have hw : wantsI c.toNat = 4 := by unfold wantsI; rw [if_neg (by omega), if_neg (by omega), if_pos (by omega)]
    have hb : 256 * (256 * (256 * (c.toNat : Int) + d2.toNat) + d1.toNat) + d.toNat = n + 3221225472 := by omega
    have h7 : (n + 3221225472) % 536870912 = n := by omega
    simp [upk, hw, beN, maskI, hs, hb, h7]
theorem ofNat_eq {m : Nat} {c : UInt8} (h : m = c.toNat) : UInt8.ofNat m = c := by subst h; simp
theorem upk_one (b : List UInt8) (x k : Int) (h : upk b = (x, k, 0)) : 0 ≤ x ∧ x ≤ 536870911 ∧ sizeI x = k ∧ 0 ≤ k ∧ k ≤ b.length ∧ b.take k.toNat = packL x := by
  match b, h with
  | [], h => simp [upk] at h
  | c :: r, h =>
    have hc := c.toNat_lt
    simp only [upk] at h
    by_cases h0 : wantsI c.toNat = 0
    · simp [h0] at h
    · by_cases hl : ((c :: r).length : Int) < wantsI c.toNat
      · rw [if_neg h0, if_pos hl] at h; simp at h
      · rw [if_neg h0, if_neg hl] at h
        by_cases hz : sizeI (beN ((c :: r).take (wantsI c.toNat).toNat) % (maskI (wantsI c.toNat) + 1)) = wantsI c.toNat
        · rw [if_pos hz] at h
          simp only [Prod.mk.injEq] at h
          obtain ⟨hx, rfl, _⟩ := h
          rw [hx] at hz
          simp only [List.length_cons] at hl
          have hxx : 0 ≤ x ∧ x ≤ 536870911 := by
            have : maskI (wantsI c.toNat) + 1 = 128 ∨ maskI (wantsI c.toNat) + 1 = 16384 ∨ maskI (wantsI c.toNat) + 1 = 536870912 := by unfold maskI; split <;> (try split) <;> simp
            rcases this with e | e | e <;> rw [e] at hx <;> omega
          have hK : (wantsI c.toNat = 1 ∧ c.toNat < 128) ∨ (wantsI c.toNat = 2 ∧ 128 ≤ c.toNat ∧ c.toNat < 192) ∨ (wantsI c.toNat = 4 ∧ 192 ≤ c.toNat ∧ c.toNat < 224) := by
            unfold wantsI at h0 ⊢
            split at h0
            · rename_i h; rw [if_pos h]; exact .inl ⟨rfl, by omega⟩
            · split at h0
              · rename_i h h'; rw [if_neg h, if_pos h']; exact .inr (.inl ⟨rfl, by omega, by omega⟩)
              · split at h0
                · rename_i h h' h''; rw [if_neg h, if_neg h', if_pos h'']; exact .inr (.inr ⟨rfl, by omega, by omega⟩)
                · exact absurd rfl h0
          refine ⟨hxx.1, hxx.2, hz, by omega, by simp only [List.length_cons]; omega, ?_⟩
          rcases hK with ⟨e, h1⟩ | ⟨e, h1, h2⟩ | ⟨e, h1, h2⟩
          · rw [e] at hx hz ⊢
            simp [beN, maskI] at hx
            rw [packL_1 x hxx.1 (by omega)]
            simp
            exact (ofNat_eq (by omega)).symm
          · rw [e] at hx hz ⊢
            match r, hl, hx with
            | [], hl, hx => simp at hl; omega
            | d :: r, hl, hx =>
              have hd := d.toNat_lt
              simp [beN, maskI] at hx
              rcases sizeI_cases x hxx.1 hxx.2 with ⟨h4, hs⟩ | ⟨h4, h3, hs⟩ | ⟨h4, h3, hs⟩
              · omega
              · rw [packL_2 x h4 h3]
                simp
                exact ⟨(ofNat_eq (by omega)).symm, (ofNat_eq (by omega)).symm⟩
              · omega
          · rw [e] at hx hz ⊢
            match r, hl, hx with
            | [], hl, hx => simp at hl; omega
            | [_], hl, hx => simp at hl; omega
            | [_, _], hl, hx => simp at hl; omega
            | d1 :: d2 :: d3 :: r, hl, hx =>
              have hd1 := d1.toNat_lt
              have hd2 := d2.toNat_lt
              have hd3 := d3.toNat_lt
              simp [beN, maskI] at hx
              rcases sizeI_cases x hxx.1 hxx.2 with ⟨h4, hs⟩ | ⟨h4, h3, hs⟩ | ⟨h4, h3, hs⟩
              · omega
              · omega
              · rw [packL_4 x hxx.2 h3]
                simp
                exact ⟨(ofNat_eq (by omega)).symm, (ofNat_eq (by omega)).symm, (ofNat_eq (by omega)).symm, (ofNat_eq (by omega)).symm⟩
        · rw [if_neg hz] at h; simp at h
theorem upk_facts (b : List UInt8) (x k e : Int) (h : upk b = (x, k, e)) : 0 ≤ e ∧ e ≤ 2 ∧ (e = 0 → 1 ≤ k ∧ k ≤ 4 ∧ k ≤ b.length ∧ 0 ≤ x ∧ x ≤ 536870911) := by
  unfold upk at h
  split at h
  · cases h; simp
  · rename_i c r
    simp only at h
    split at h
    · cases h; simp
    · rename_i h0
      split at h
      · cases h; simp
      · rename_i h1
        split at h
        · rename_i h2
          simp only [Prod.mk.injEq] at h
          obtain ⟨rfl, rfl, rfl⟩ := h
          refine ⟨by omega, by omega, fun _ => ?_⟩
          have hk : wantsI c.toNat = 1 ∨ wantsI c.toNat = 2 ∨ wantsI c.toNat = 4 := by
            unfold wantsI at h0 ⊢
            split
            · simp
            · split
              · simp
              · split
                · simp
                · rename_i a b d; simp [a, b, d] at h0
          have hm : 0 < maskI (wantsI c.toNat) + 1 ∧ maskI (wantsI c.toNat) + 1 ≤ 536870912 := by
            rcases hk with h | h | h <;> rw [h] <;> simp [maskI]
          have m1 := Int.emod_nonneg (beN ((c :: r).take (wantsI c.toNat).toNat)) (show maskI (wantsI c.toNat) + 1 ≠ 0 by omega)
          have m2 := Int.emod_lt_of_pos (beN ((c :: r).take (wantsI c.toNat).toNat)) hm.1
          refine ⟨?_, ?_, ?_, m1, by omega⟩
          · rcases hk with h | h | h <;> omega
          · rcases hk with h | h | h <;> omega
          · omega
        · cases h; simp
theorem upk_app (b r : List UInt8) (x k : Int) (h : upk b = (x, k, 0)) : upk (b ++ r) = (x, k, 0) := by
  match b, h with
  | [], h => simp [upk] at h
  | c :: t, h =>
    simp only [upk] at h
    by_cases h0 : wantsI c.toNat = 0
    · simp [h0] at h
    · by_cases hl : ((c :: t).length : Int) < wantsI c.toNat
      · rw [if_neg h0, if_pos hl] at h; simp at h
      · rw [if_neg h0, if_neg hl] at h
        have hl' : ¬ (((c :: t ++ r).length : Int) < wantsI c.toNat) := by simp at hl ⊢; omega
        have ht : (c :: t ++ r).take (wantsI c.toNat).toNat = (c :: t).take (wantsI c.toNat).toNat := by
          apply List.take_append_of_le_length
          simp at hl ⊢; omega
        show (let k := wantsI c.toNat; if k = 0 then _ else _) = _
        simp only [List.cons_append] at ht hl' ⊢
        rw [if_neg h0, if_neg hl', ht]
        exact h
end Go.Proofs.YtknalmoackcpbaaGreat
