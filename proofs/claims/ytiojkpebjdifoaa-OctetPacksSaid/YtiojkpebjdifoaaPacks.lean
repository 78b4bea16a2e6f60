/- OctetPacks: any number is packed behind any bytes as the document says, or refused, and read back. No condition. -/
import Derived.Test.YtiojkpebjdifoaaWakes
import Derived.Test.YtiojkpebjdifoaaRef1b
import Derived.Test.YtiojkpebjdifoaaRows
set_option linter.unusedSimpArgs false
set_option linter.unusedVariables false
set_option maxRecDepth 100000
set_option maxHeartbeats 800000
namespace Go.Proofs.Ytiojkpebjdifoaa
open Go Go.AW Go.ChangeShapes Go.WideShapes Go.ChangeAt Go.RowKit

theorem packL_1 (n : Int) (h0 : 0 ≤ n) (h2 : n < 128) : packL n = [UInt8.ofNat (n % 256).toNat] := by
  have hs : sizeI n = 1 := by rcases sizeI_cases n h0 (by omega) with ⟨_, hs⟩ | ⟨h, _⟩ | ⟨h, _⟩ <;> first | exact hs | omega
  simp [packL, hs, beL, packX, h2]
theorem packL_2 (n : Int) (h2 : ¬ n < 128) (h3 : n < 16384) : packL n = [UInt8.ofNat ((128 + n / 256) % 256).toNat, UInt8.ofNat (n % 256).toNat] := by
  have hs : sizeI n = 2 := by rcases sizeI_cases n (by omega) (by omega) with ⟨h, _⟩ | ⟨_, _, hs⟩ | ⟨_, h, _⟩ <;> first | exact hs | omega
  have : (n + 32768) / 256 % 256 = (128 + n / 256) % 256 := by omega
  have : (n + 32768) % 256 = n % 256 := by omega
  simp [packL, hs, beL, packX, h2, h3, *]
theorem packL_4 (n : Int) (h1 : n ≤ 536870911) (h3 : ¬ n < 16384) : packL n = [UInt8.ofNat ((192 + n / 16777216) % 256).toNat, UInt8.ofNat (n / 65536 % 256).toNat, UInt8.ofNat (n / 256 % 256).toNat, UInt8.ofNat (n % 256).toNat] := by
  have h2 : ¬ n < 128 := by omega
  have hs : sizeI n = 4 := by rcases sizeI_cases n (by omega) (by omega) with ⟨h, _⟩ | ⟨_, h, _⟩ | ⟨_, _, hs⟩ <;> first | exact hs | omega
  have a1 : (n + 3221225472) / 16777216 % 256 = (192 + n / 16777216) % 256 := by omega
  have a2 : (n + 3221225472) / 65536 % 256 = n / 65536 % 256 := by omega
  have a3 : (n + 3221225472) / 256 % 256 = n / 256 % 256 := by omega
  have a4 : (n + 3221225472) % 256 = n % 256 := by omega
  simp [packL, hs, beL, packX, h2, h3, a1, a2, a3, a4]

theorem upk_pack (n : Int) (h0 : 0 ≤ n) (h1 : n ≤ 536870911) : upk (packL n) = (n, sizeI n, 0) := by
  rcases sizeI_cases n h0 h1 with ⟨h2, hs⟩ | ⟨h2, h3, hs⟩ | ⟨h2, h3, hs⟩
  · rw [packL_1 n h0 h2]
    have e0 := ofN n
    generalize UInt8.ofNat (n % 256).toNat = c at *
    have hw : wantsI c.toNat = 1 := by unfold wantsI; rw [if_pos (by omega)]
    have hb : (c.toNat : Int) = n := by omega
    have h7 : n % 128 = n := by omega
    rw [hb] at hw
    simp [upk, hw, beN, maskI, hs, hb, h7]
  · rw [packL_2 n h2 h3]
    have e0 := ofN n
    have e1 := ofN (128 + n / 256)
    generalize UInt8.ofNat (n % 256).toNat = d at *
    generalize UInt8.ofNat ((128 + n / 256) % 256).toNat = c at *
    have hw : wantsI c.toNat = 2 := by unfold wantsI; rw [if_neg (by omega), if_pos (by omega)]
    have hb : 256 * (c.toNat : Int) + d.toNat = n + 32768 := by omega
    have h7 : (n + 32768) % 16384 = n := by omega
    simp [upk, hw, beN, maskI, hs, hb, h7]
  · rw [packL_4 n h1 h3]
    have e0 := ofN n
    have e1 := ofN (n / 256)
    have e2 := ofN (n / 65536)
    have e3 := ofN (192 + n / 16777216)
    generalize UInt8.ofNat (n % 256).toNat = d at *
    generalize UInt8.ofNat (n / 256 % 256).toNat = d1 at *
    generalize UInt8.ofNat (n / 65536 % 256).toNat = d2 at *
    generalize UInt8.ofNat ((192 + n / 16777216) % 256).toNat = c at *
    have hw : wantsI c.toNat = 4 := by unfold wantsI; rw [if_neg (by omega), if_neg (by omega), if_pos (by omega)]
    have hb : 256 * (256 * (256 * (c.toNat : Int) + d2.toNat) + d1.toNat) + d.toNat = n + 3221225472 := by omega
    have h7 : (n + 3221225472) % 536870912 = n := by omega
    simp [upk, hw, beN, maskI, hs, hb, h7]

theorem ofNat_eq {m : Nat} {c : UInt8} (h : m = c.toNat) : UInt8.ofNat m = c := by subst h; simp

theorem upk_one (b : List UInt8) (x k : Int) (h : upk b = (x, k, 0)) : 0 ≤ x ∧ x ≤ 536870911 ∧ sizeI x = k ∧ 0 ≤ k ∧ k ≤ b.length ∧ b.take k.toNat = packL x := by
  match b, h with
  | [], h => simp [upk] at h
  | c :: r, h =>
    have hc := c.toNat_lt
    simp only [upk] at h
    by_cases h0 : wantsI c.toNat = 0
    · simp [h0] at h
    · by_cases hl : ((c :: r).length : Int) < wantsI c.toNat
      · rw [if_neg h0, if_pos hl] at h; simp at h
      · rw [if_neg h0, if_neg hl] at h
        by_cases hz : sizeI (beN ((c :: r).take (wantsI c.toNat).toNat) % (maskI (wantsI c.toNat) + 1)) = wantsI c.toNat
        · rw [if_pos hz] at h
          simp only [Prod.mk.injEq] at h
          obtain ⟨hx, rfl, _⟩ := h
          rw [hx] at hz
          simp only [List.length_cons] at hl
          have hxx : 0 ≤ x ∧ x ≤ 536870911 := by
            have : maskI (wantsI c.toNat) + 1 = 128 ∨ maskI (wantsI c.toNat) + 1 = 16384 ∨ maskI (wantsI c.toNat) + 1 = 536870912 := by unfold maskI; split <;> (try split) <;> simp
            rcases this with e | e | e <;> rw [e] at hx <;> omega
          have hK : (wantsI c.toNat = 1 ∧ c.toNat < 128) ∨ (wantsI c.toNat = 2 ∧ 128 ≤ c.toNat ∧ c.toNat < 192) ∨ (wantsI c.toNat = 4 ∧ 192 ≤ c.toNat ∧ c.toNat < 224) := by
            unfold wantsI at h0 ⊢
            split at h0
            · rename_i h; rw [if_pos h]; exact .inl ⟨rfl, by omega⟩
            · split at h0
              · rename_i h h'; rw [if_neg h, if_pos h']; exact .inr (.inl ⟨rfl, by omega, by omega⟩)
              · split at h0
                · rename_i h h' h''; rw [if_neg h, if_neg h', if_pos h'']; exact .inr (.inr ⟨rfl, by omega, by omega⟩)
                · exact absurd rfl h0
          refine ⟨hxx.1, hxx.2, hz, by omega, by simp only [List.length_cons]; omega, ?_⟩
          rcases hK with ⟨e, h1⟩ | ⟨e, h1, h2⟩ | ⟨e, h1, h2⟩
          · rw [e] at hx hz ⊢
            simp [beN, maskI] at hx
            rw [packL_1 x hxx.1 (by omega)]
            simp
            exact (ofNat_eq (by omega)).symm
          · rw [e] at hx hz ⊢
            match r, hl, hx with
            | [], hl, hx => simp at hl; omega
            | d :: r, hl, hx =>
              have hd := d.toNat_lt
              simp [beN, maskI] at hx
              rcases sizeI_cases x hxx.1 hxx.2 with ⟨h4, hs⟩ | ⟨h4, h3, hs⟩ | ⟨h4, h3, hs⟩
              · omega
              · rw [packL_2 x h4 h3]
                simp
                exact ⟨(ofNat_eq (by omega)).symm, (ofNat_eq (by omega)).symm⟩
              · omega
          · rw [e] at hx hz ⊢
            match r, hl, hx with
            | [], hl, hx => simp at hl; omega
            | [_], hl, hx => simp at hl; omega
            | [_, _], hl, hx => simp at hl; omega
            | d1 :: d2 :: d3 :: r, hl, hx =>
              have hd1 := d1.toNat_lt
              have hd2 := d2.toNat_lt
              have hd3 := d3.toNat_lt
              simp [beN, maskI] at hx
              rcases sizeI_cases x hxx.1 hxx.2 with ⟨h4, hs⟩ | ⟨h4, h3, hs⟩ | ⟨h4, h3, hs⟩
              · omega
              · omega
              · rw [packL_4 x hxx.2 h3]
                simp
                exact ⟨(ofNat_eq (by omega)).symm, (ofNat_eq (by omega)).symm, (ofNat_eq (by omega)).symm, (ofNat_eq (by omega)).symm⟩
        · rw [if_neg hz] at h; simp at h

theorem sizeI_zero (n : Int) : sizeI n = 0 ↔ n < 0 ∨ 536870911 < n := by
  unfold sizeI
  by_cases h : n < 0 ∨ 536870911 < n
  · simp [h]
  · rw [if_neg h]
    simp only [h, iff_false]
    split
    · omega
    · split <;> omega

theorem packL_length (n : Int) : (packL n).length = (sizeI n).toNat := by simp [packL, beL_length]

theorem packs_ok (l : List UInt8) (nl : Bool) (hn : nl = true → l = []) (n : Int) :
    ACalls Try.prog 4 [.lst 5 (l.map u8) .unk nl, .sc (.int .i64 n)] noAS IsTrue No := by
  refine ACalls.of_body Try.func4 rfl rfl (by simp [Try.ntmps4]) ?_
  repeat (first
    | (with_reducible refine AWp.seq ?_)
    | (with_reducible refine AWp.block ?_)
    | (with_reducible refine And.intro (by first | omega | assumption | decide) ?_)
    | ((with_reducible refine AWp.region ?_); simp)
    | ((with_reducible refine AWp.ret ?_); try simp)
    | ((with_reducible refine AWp.skip ?_); try simp)
    | ((with_reducible refine AWp.exit ?_); try simp)
    | ((refine AWp.cond rfl (fun _ => ?_) (fun hcf => absurd hcf ?hcd)); (case hcd => (simp; done)))
    | ((refine AWp.cond rfl (fun hcf => absurd hcf ?hcd) (fun _ => ?_)); (case hcd => (simp; done))))
  refine aCall.of (wakes_ok _) ?_ (fun _ _ h => h.elim)
  rintro r σ rfl
  simp
  by_cases hl : 4096 < (l.length : Int)
  · repeat (first
      | (with_reducible refine AWp.seq ?_)
      | (with_reducible refine AWp.block ?_)
      | (with_reducible refine And.intro (by first | omega | assumption | decide) ?_)
      | ((with_reducible refine AWp.region ?_); simp [hl])
      | ((with_reducible refine AWp.ret ?_); try simp [hl])
      | ((with_reducible refine AWp.skip ?_); try simp [hl])
      | ((with_reducible refine AWp.exit ?_); try simp [hl])
      | ((refine AWp.cond rfl (fun _ => ?_) (fun hcf => absurd hcf ?hcd)); (case hcd => (simp [hl]; done)))
      | ((refine AWp.cond rfl (fun hcf => absurd hcf ?hcd) (fun _ => ?_)); (case hcd => (simp [hl]; done))))
    exact ⟨_, _, Wk.refl _, AS.le_refl _, rfl⟩
  · have hl1 : l.length ≤ 140737488355328 := by omega
    repeat (first
      | (with_reducible refine AWp.seq ?_)
      | (with_reducible refine AWp.block ?_)
      | (with_reducible refine And.intro (by first | omega | assumption | decide) ?_)
      | ((with_reducible refine AWp.region ?_); simp [hl, hl1])
      | ((with_reducible refine AWp.ret ?_); try simp [hl, hl1])
      | ((with_reducible refine AWp.skip ?_); try simp [hl, hl1])
      | ((with_reducible refine AWp.exit ?_); try simp [hl, hl1])
      | ((refine AWp.cond rfl (fun _ => ?_) (fun hcf => absurd hcf ?hcd)); (case hcd => (simp [hl, hl1]; done)))
      | ((refine AWp.cond rfl (fun hcf => absurd hcf ?hcd) (fun _ => ?_)); (case hcd => (simp [hl, hl1]; done))))
    intro tk htk
    repeat (first
      | (with_reducible refine AWp.seq ?_)
      | (with_reducible refine AWp.block ?_)
      | (with_reducible refine And.intro (by first | omega | assumption | decide) ?_)
      | ((with_reducible refine AWp.region ?_); simp)
      | ((with_reducible refine AWp.ret ?_); try simp)
      | ((with_reducible refine AWp.skip ?_); try simp)
      | ((with_reducible refine AWp.exit ?_); try simp)
      | ((refine AWp.cond rfl (fun _ => ?_) (fun hcf => absurd hcf ?hcd)); (case hcd => (simp; done)))
      | ((refine AWp.cond rfl (fun hcf => absurd hcf ?hcd) (fun _ => ?_)); (case hcd => (simp; done))))
    by_cases hz : sizeI n = 0
    · refine aCall.gives (pack_bad _ n hz _) ?_
      simp
      repeat (first
        | (with_reducible refine AWp.seq ?_)
        | (with_reducible refine AWp.block ?_)
        | (with_reducible refine And.intro (by first | omega | assumption | decide) ?_)
        | ((with_reducible refine AWp.region ?_); simp [hz])
        | ((refine aCall.gives (size_ok n _) ?_); simp [hz])
        | ((refine aCall.gives (rsize_ok n _) ?_); simp [hz])
        | ((with_reducible refine AWp.ret ?_); try simp [hz])
        | ((with_reducible refine AWp.skip ?_); try simp [hz])
        | ((with_reducible refine AWp.exit ?_); try simp [hz])
        | ((refine AWp.cond rfl (fun _ => ?_) (fun hcf => absurd hcf ?hcd)); (case hcd => (simp [hz]; done)))
        | ((refine AWp.cond rfl (fun hcf => absurd hcf ?hcd) (fun _ => ?_)); (case hcd => (simp [hz]; done))))
      exact ⟨_, _, Wk.refl _, AS.le_refl _, rfl⟩
    · have hr : ¬ (n < 0 ∨ 536870911 < n) := fun h => hz ((sizeI_zero n).2 h)
      have h0 : 0 ≤ n := by omega
      have h1 : n ≤ 536870911 := by omega
      have hlen := packL_length n
      have hz4 : sizeI n = 1 ∨ sizeI n = 2 ∨ sizeI n = 4 := by rcases sizeI_cases n h0 h1 with ⟨_, h⟩ | ⟨_, _, h⟩ | ⟨_, _, h⟩ <;> simp [h]
      refine aCall.owns (pack_ok l (.tok tk) false (by simp) (by omega) n h0 h1 _) (fun tk2 htk2 => ?_)
      simp
      repeat (first
        | (with_reducible refine AWp.seq ?_)
        | (with_reducible refine AWp.block ?_)
        | (with_reducible refine And.intro (by first | omega | assumption | decide) ?_)
        | ((with_reducible refine AWp.region ?_); simp [hz])
        | ((refine aCall.gives (size_ok n _) ?_); simp [hz])
        | ((refine aCall.gives (rsize_ok n _) ?_); simp [hz])
        | ((with_reducible refine AWp.ret ?_); try simp [hz])
        | ((with_reducible refine AWp.skip ?_); try simp [hz])
        | ((with_reducible refine AWp.exit ?_); try simp [hz])
        | ((refine AWp.cond rfl (fun _ => ?_) (fun hcf => absurd hcf ?hcd)); (case hcd => (simp [hz]; done)))
        | ((refine AWp.cond rfl (fun hcf => absurd hcf ?hcd) (fun _ => ?_)); (case hcd => (simp [hz]; done))))
      repeat (first
        | (with_reducible refine AWp.seq ?_)
        | (with_reducible refine AWp.block ?_)
        | (with_reducible refine And.intro (by first | omega | assumption | decide) ?_)
        | ((with_reducible refine AWp.region ?_); simp [hl1])
        | ((with_reducible refine AWp.ret ?_); try simp [hl1])
        | ((with_reducible refine AWp.skip ?_); try simp [hl1])
        | ((with_reducible refine AWp.exit ?_); try simp [hl1])
        | ((refine AWp.cond rfl (fun _ => ?_) (fun hcf => absurd hcf ?hcd)); (case hcd => (simp [hl1]; done)))
        | ((refine AWp.cond rfl (fun hcf => absurd hcf ?hcd) (fun _ => ?_)); (case hcd => (simp [hl1]; done))))
      intro tk3 hne3 hne3' htk3
      refine aCall.owns (rpack_ok n h0 h1 _) (fun tk4 htk4 => ?_)
      have ne34 : tk3 ≠ tk4 := by intro h; subst h; simp at htk4
      have hpl : (l ++ packL n).length ≤ 140737488355328 := by simp; omega
      simp [ne34, hlen]
      refine ⟨by omega, ?_⟩
      simp only [← List.map_append]
      refine aCall.gives (same_ok (l ++ packL n) (l ++ packL n) (.tok tk2) (.tok tk3) false false hpl _) ?_
      simp
      repeat (first
        | (with_reducible refine AWp.seq ?_)
        | (with_reducible refine AWp.block ?_)
        | (with_reducible refine And.intro (by first | omega | assumption | decide) ?_)
        | ((with_reducible refine AWp.region ?_); simp)
        | ((with_reducible refine AWp.ret ?_); try simp)
        | ((with_reducible refine AWp.skip ?_); try simp)
        | ((with_reducible refine AWp.exit ?_); try simp)
        | ((refine AWp.cond rfl (fun _ => ?_) (fun hcf => absurd hcf ?hcd)); (case hcd => (simp; done)))
        | ((refine AWp.cond rfl (fun hcf => absurd hcf ?hcd) (fun _ => ?_)); (case hcd => (simp; done))))
      simp only [← List.map_append]
      refine aCall.of (new_ok (l ++ packL n) (.tok tk2) false (by simp) hpl _) ?_ (fun _ _ h => h.elim)
      rintro r σ2 ⟨id, hid, rfl, rfl⟩
      simp
      repeat (first
        | (with_reducible refine AWp.seq ?_)
        | (with_reducible refine AWp.block ?_)
        | (with_reducible refine And.intro (by first | omega | assumption | decide) ?_)
        | ((with_reducible refine AWp.region ?_); simp)
        | ((with_reducible refine AWp.ret ?_); try simp)
        | ((with_reducible refine AWp.skip ?_); try simp)
        | ((with_reducible refine AWp.exit ?_); try simp)
        | ((refine AWp.cond rfl (fun _ => ?_) (fun hcf => absurd hcf ?hcd)); (case hcd => (simp; done)))
        | ((refine AWp.cond rfl (fun hcf => absurd hcf ?hcd) (fun _ => ?_)); (case hcd => (simp; done))))
      have hpi : ((l ++ packL n).length : Int) = l.length + sizeI n := by simp [hlen]; omega
      refine aCall.gives (skip_ok id (l ++ packL n) 0 l.length false _ (by simp) (by omega) (by omega) hpl (by omega) (by omega)) ?_
      simp
      repeat (first
        | (with_reducible refine AWp.seq ?_)
        | (with_reducible refine AWp.block ?_)
        | (with_reducible refine And.intro (by first | omega | assumption | decide) ?_)
        | ((with_reducible refine AWp.region ?_); simp)
        | ((with_reducible refine AWp.ret ?_); try simp)
        | ((with_reducible refine AWp.skip ?_); try simp)
        | ((with_reducible refine AWp.exit ?_); try simp)
        | ((refine AWp.cond rfl (fun _ => ?_) (fun hcf => absurd hcf ?hcd)); (case hcd => (simp; done)))
        | ((refine AWp.cond rfl (fun hcf => absurd hcf ?hcd) (fun _ => ?_)); (case hcd => (simp; done))))
      refine aCall.gives (packed_ok id (l ++ packL n) l.length false _ (by simp) (by simp) (by omega) (by omega) hpl n (sizeI n) 0 (by simpa using upk_pack n h0 h1)) ?_
      simp
      repeat (first
        | (with_reducible refine AWp.seq ?_)
        | (with_reducible refine AWp.block ?_)
        | (with_reducible refine And.intro (by first | omega | assumption | decide) ?_)
        | ((with_reducible refine AWp.region ?_); simp)
        | ((with_reducible refine AWp.ret ?_); try simp)
        | ((with_reducible refine AWp.skip ?_); try simp)
        | ((with_reducible refine AWp.exit ?_); try simp)
        | ((refine AWp.cond rfl (fun _ => ?_) (fun hcf => absurd hcf ?hcd)); (case hcd => (simp; done)))
        | ((refine AWp.cond rfl (fun hcf => absurd hcf ?hcd) (fun _ => ?_)); (case hcd => (simp; done))))
      refine aCall.gives (done_ok id (l ++ packL n) (l.length + sizeI n) false _ (by simp) (by omega) (by omega) hpl) ?_
      rw [hpi]
      simp
      repeat (first
        | (with_reducible refine AWp.seq ?_)
        | (with_reducible refine AWp.block ?_)
        | (with_reducible refine And.intro (by first | omega | assumption | decide) ?_)
        | ((with_reducible refine AWp.region ?_); simp)
        | ((with_reducible refine AWp.ret ?_); try simp)
        | ((with_reducible refine AWp.skip ?_); try simp)
        | ((with_reducible refine AWp.exit ?_); try simp)
        | ((refine AWp.cond rfl (fun _ => ?_) (fun hcf => absurd hcf ?hcd)); (case hcd => (simp; done)))
        | ((refine AWp.cond rfl (fun hcf => absurd hcf ?hcd) (fun _ => ?_)); (case hcd => (simp; done))))
      exact ⟨_, _, Wk.refl _, AS.le_refl _, rfl⟩

theorem octetPacks_reads (os : Os) {H : Type} (enc : TypeId × Value → H) : ∃ places, DataW.whole enc Try.prog ((World.holding Try.prog os ⟨#[], #[Value.slice none 0 0, Value.int .i64 0], []⟩).forCall (fun _ _ => 0) ⟨#[], #[Value.slice none 0 0, Value.int .i64 0], []⟩).memory Try.f4.params.toList Rows.octetPacksSpec.vars false #[Value.slice none 0 0, Value.int .i64 0].toList 8 = some ([.nil, .lit (.int .i64 0)], [], places) :=
  ⟨[], by kernel_rfl⟩

theorem octetPacks_contract (H : Type) (enc : TypeId × Value → H) (W : World) (base : Nat) (args : Array Value) (ds gs : List (DataW H)) (before : List MemPlace)
    (hval : ∀ (j : Nat) t v, Try.f4.params[j]? = some t → args[j]? = some v → Value.okWide Try.prog W .any base t v)
    (hW : DataW.Whole enc Try.prog Try.f4.params.toList Rows.octetPacksSpec.vars false W args.toList ds gs before)
    (hwt : (DataW.weightsEach Try.prog (Try.f4.params.toList ++ Rows.octetPacksSpec.plain.varTypes Try.prog) (ds ++ gs)).all (· ≤ reachBytes) = true) :
    Calls Try.prog 4 args W fun e W' => ∃ v, e = .returned v ∧ Rows.octetPacksSpec.post enc Try.prog Try.f4 false true false false W args v W' := by
  refine law_contract (P := Try.prog) (fn := Try.f4) (k := 4) (ts := [22, 3]) (tb := 4) (s := Rows.octetPacksSpec) laidOut (by kernel_rfl) (by kernel_rfl) (by kernel_rfl) rfl Try.underlying4 rfl (fun ds h => ?_) (fun vs h => ?_) hval hW hwt
  · match ds, h with
    | [d1, d2], _ => rfl
  · obtain ⟨c1, r, rfl, h1, h⟩ := h.inv
    obtain ⟨c2, r, rfl, h2, h⟩ := h.inv
    obtain rfl := h.inv0
    obtain ⟨l, nl, e1, hn, _⟩ := arg_bytes Try.underlying22 Try.underlying5 h1
    obtain ⟨n, e2, _⟩ := arg_int Try.underlying3 h2
    rw [e1, e2]
    exact packs_ok l nl hn n

theorem octetPacks_lifted (os : Os) (started : os.Started) (H : Type) (enc : TypeId × Value → H) (F : Stop.Interp) :
    ReturnsInHanded {} Try.checked os 4 .any ((OpenSpec.ofChange Rows.octetPacksSpec).preRow enc Try.prog Try.f4 Rows.octetPacksRow.domain false Rows.octetPacksRow.laid)
      (((OpenSpec.ofChange Rows.octetPacksSpec).at F).post enc Try.prog Try.f4 false true false false) := by
  obtain ⟨places, hx⟩ := octetPacks_reads os enc
  refine returnsInHanded_of_row (C := Try.checked) (s := OpenSpec.ofChange Rows.octetPacksSpec) own started (by kernel_rfl) Try.func4
    (witness_row_at (enc := enc) (C := Try.checked) false (World.holding Try.prog os ⟨#[], #[Value.slice none 0 0, Value.int .i64 0], []⟩) #[Value.slice none 0 0, Value.int .i64 0] rfl (by kernel_rfl) (by kernel_rfl) (by kernel_rfl)
      (OpenSpec.preRow_of_cond 8 hx (by kernel_rfl) (fun k hk => by cases hk) (by kernel_rfl) (show laidMetH Try.prog [] _ from ⟨[], rfl, List.nodup_nil, fun _ _ h => by cases h⟩))) ?_
  intro W base args ds gs before hval hW _ _ hwt _ _ _
  exact octetPacks_contract H enc W base args ds gs before hval hW hwt

theorem octetPacks_holds : Rows.OctetPacksSaid :=
  OpenClaim.holds_of_cond 4 Try.f4 rfl rfl rfl rfl rfl rfl rfl ⟨rfl, rfl, rfl, rfl, rfl⟩ rfl rfl rfl rfl rfl (by kernel_rfl) Try.func4 (by kernel_rfl)
    (of_decide_eq_true (by kernel_rfl)) (by unfold Func.isWrapper; first | (rw [if_pos (by decide +kernel)]; kernel_rfl) | (rw [if_neg (by decide +kernel)]; exact ⟨rfl, rfl⟩))
    (fun os started H enc _ F => by rw [OpenClaim.pre_eq_preRow]; exact octetPacks_lifted os started H enc F)


end Go.Proofs.Ytiojkpebjdifoaa
