/- Chapter 03: StreamsCut as a walk. -/
import Derived.Test.YthpmabablfkekaaStrC
set_option linter.unusedSimpArgs false
set_option linter.unusedVariables false
set_option maxRecDepth 100000
set_option maxHeartbeats 3200000
namespace Go.Proofs.Ythpmabablfkekaa
open Go Go.AW

theorem At.cut {b t : List UInt8} {a k : Nat} (h : At b a t) (hk : a + t.length ≤ k) : At (b.take k) a t := by
  obtain ⟨h1, h2⟩ := h
  refine ⟨by rw [List.length_take]; omega, ?_⟩
  unfold Proofs.Ythpmabablfkekaa.sg at h2 ⊢
  rw [List.drop_take, List.take_take, Nat.min_eq_left (by omega)]
  exact h2

theorem cut_split {s : Nat → List UInt8} (hs : ∀ k, k < 4 → (s k).length ≤ 4000) {n : Nat} (hn : n < (joinL s).length) : (splitS ((joinL s).take n)).2.2 = 1 := by
  have hb := (joinL_held hs).big
  have hl : ((joinL s).take n).length = n := by rw [List.length_take]; omega
  by_cases h56 : n < 56
  · rw [splitS, if_neg (by omega), if_pos (by omega)]
  have H := joinL_held hs
  have h : Held s ((joinL s).take n) := {
    hd := H.hd.cut (by simp; omega)
    en := fun k hk => (H.en k hk).cut (by rw [ent_len]; omega)
    lo := hs
    big := by omega }
  rw [h.start]
  rw [joinL_len] at hn
  by_cases c0 : n < plc s 0 + (s 0).length
  · exact h.short (k := 0) (by omega) (M := []) (by simp) (by omega) 3 E4
  have s0 := h.step (k := 0) (by omega) (M := []) (by simp) ((joinL_at (by omega)).cut (by omega)) 3 E4
  by_cases c1 : n < plc s 1 + (s 1).length
  · exact (congrArg (fun x => x.2.2) s0).trans (h.short (k := 1) (by omega) (M := [sp s 0]) (in1 s) (by omega) 2 _)
  have s1 := h.step (k := 1) (by omega) (M := [sp s 0]) (in1 s) ((joinL_at (by omega)).cut (by omega)) 2 (E4.set 0 (s 0, false))
  by_cases c2 : n < plc s 2 + (s 2).length
  · exact (congrArg (fun x => x.2.2) (s0.trans s1)).trans (h.short (k := 2) (by omega) (M := [sp s 0, sp s 1]) (in2 s) (by omega) 1 _)
  have s2 := h.step (k := 2) (by omega) (M := [sp s 0, sp s 1]) (in2 s) ((joinL_at (by omega)).cut (by omega)) 1 ((E4.set 0 (s 0, false)).set 1 (s 1, false))
  exact (congrArg (fun x => x.2.2) (s0.trans (s1.trans s2))).trans (h.short (k := 3) (by omega) (M := [sp s 0, sp s 1, sp s 2]) (in3 s) (by omega) 0 _)

theorem streamsCut_ok (a0 a1 a2 a3 : List UInt8 × Bool) (n : Int) (hn0 : 0 ≤ n) (hn1 : n < 65536) :
    ACalls Try.prog 7 [stO a0 a1 a2 a3 .unk .unk .unk .unk, .sc (.int .u16 n)] noAS IsTrue No := by
  have hw := fun σ => swakes_ok σ
  have hlg := fun σ => slong_ok a0 a1 a2 a3 .unk .unk .unk .unk σ
  cases hL : longS a0 a1 a2 a3 with
  | true =>
    rw [hL] at hlg
    simp only [stO, sO] at hlg ⊢
    refine ACalls.of_body Try.func7 rfl rfl (by simp [Try.ntmps7]) ?_
    repeat (first
      | (with_reducible first | apply AWp.seq | apply AWp.block | refine And.intro (by first | omega | assumption | decide) ?_)
      | ((first | (with_reducible first | apply AWp.fork | apply AWp.region)); simp -implicitDefEqProofs)
      | ((with_reducible first | apply AWp.ret | apply AWp.skip | apply AWp.exit); try simp -implicitDefEqProofs))
    intro id2 h_id2
    repeat (first
      | (with_reducible first | apply AWp.seq | apply AWp.block | refine And.intro (by first | omega | assumption | decide) ?_)
      | ((first | (with_reducible first | apply AWp.fork | apply AWp.region) | ((with_reducible apply aCall.id); first | apply aCall.gives (hw _) | apply aCall.gives (hlg _))); simp -implicitDefEqProofs)
      | ((with_reducible first | apply AWp.ret | apply AWp.skip | apply AWp.exit); try simp -implicitDefEqProofs))
  | false =>
    rw [hL] at hlg
    obtain ⟨l0, l1, l2, l3⟩ := longS_no hL
    have hl2 : ∀ j, (nth4 a0 a1 a2 a3 j).1.length ≤ 4000 := fun j => by unfold nth4; split <;> omega
    have hj := fun σ => join_ok a0 a1 a2 a3 .unk .unk .unk .unk hl2 σ
    have hcut := fun n hn => cut_split (s := fun k => (nth4 a0 a1 a2 a3 k).1) (fun k _ => hl2 k) (n := n) hn
    have hJl := joinL_short (s := fun k => (nth4 a0 a1 a2 a3 k).1) (fun k _ => hl2 k)
    have hJ56 : 56 ≤ (joinL (fun k => (nth4 a0 a1 a2 a3 k).1)).length := by rw [joinL, List.length_append, hdP_len]; omega
    generalize hJ : joinL (fun k => (nth4 a0 a1 a2 a3 k).1) = J at hj hcut hJl hJ56
    obtain ⟨nn, rfl⟩ := Int.eq_ofNat_of_zero_le hn0
    have hmod : nn % J.length < J.length := Nat.mod_lt _ (by omega)
    have hcut := hcut (nn % J.length) hmod
    have h56 : ((J.length : Int) < 56) = False := by simp; omega
    have w1 : IntKind.i64.wrap (nn : Int) = (nn : Int) := in_i64 (by omega) (by omega)
    have w2 : ((nn : Int)).tmod (J.length : Int) = ((nn % J.length : Nat) : Int) := by rw [Int.tmod_eq_emod_of_nonneg (by omega)]; exact (Int.natCast_emod nn J.length).symm
    have wz : (J = []) = False := by simp; rintro rfl; simp at hJ56
    have hm0 : (0 : Int) ≤ ((nn % J.length : Nat) : Int) := by omega
    have hm1 : ((nn % J.length : Nat) : Int) ≤ J.length := by omega
    have hsp := fun σ => split_ok (J.take (nn % J.length)) .unk false (by simp) σ (by rw [List.length_take]; omega)
    obtain ⟨o0, o1, o2, o3, a, e, hS⟩ := splitS_four (J.take (nn % J.length))
    rw [hS] at hsp hcut
    obtain rfl : e = 1 := hcut
    generalize hk : nn % J.length = k at *
    simp only [stO, sO, strV, List.map_cons, List.map_nil, sV, RS, List.map_take] at hlg hj hsp ⊢
    refine ACalls.of_body Try.func7 rfl rfl (by simp [Try.ntmps7]) ?_
    repeat (first
      | (with_reducible first | apply AWp.seq | apply AWp.block | refine And.intro (by first | omega | assumption | decide) ?_)
      | ((first | (with_reducible first | apply AWp.fork | apply AWp.region)); simp -implicitDefEqProofs)
      | ((with_reducible first | apply AWp.ret | apply AWp.skip | apply AWp.exit); try simp -implicitDefEqProofs))
    intro id2 h_id2
    repeat (first
      | (with_reducible first | apply AWp.seq | apply AWp.block | refine And.intro (by first | omega | assumption | decide) ?_)
      | ((first | (with_reducible first | apply AWp.fork | apply AWp.region) | ((with_reducible apply aCall.id); first | apply aCall.gives (hw _) | apply aCall.gives (hlg _) | apply aCall.owns (hj _))); simp -implicitDefEqProofs)
      | ((with_reducible first | apply AWp.ret | apply AWp.skip | apply AWp.exit); try simp -implicitDefEqProofs))
    intro t1 n_t1_id2 h_t1
    have n_id2_t1 : ¬ id2 = t1 := fun e => n_t1_id2 e.symm
    repeat (first
      | (with_reducible first | apply AWp.seq | apply AWp.block | refine And.intro (by first | omega | assumption | decide) ?_)
      | ((first | (with_reducible first | apply AWp.fork | apply AWp.region | show condK _ _ _ | show guardK _ _ _ _ _ _ _ _ _) | ((with_reducible apply aCall.id); first | apply aCall.gives (hsp _))); simp -implicitDefEqProofs [h56, w1, w2, wz, hm0, hm1, n_t1_id2, n_id2_t1])
      | ((with_reducible first | apply AWp.ret | apply AWp.skip | apply AWp.exit); try simp -implicitDefEqProofs [h56, w1, w2, wz, hm0, hm1, n_t1_id2, n_id2_t1]))
    intro id8 n_id8_t1 n_id8_id2 h_id8
    have n_t1_id8 : ¬ t1 = id8 := fun e => n_id8_t1 e.symm
    have n_id2_id8 : ¬ id2 = id8 := fun e => n_id8_id2 e.symm
    repeat (first
      | (with_reducible first | apply AWp.seq | apply AWp.block | refine And.intro (by first | omega | assumption | decide) ?_)
      | ((first | (with_reducible first | apply AWp.fork | apply AWp.region | show condK _ _ _ | show guardK _ _ _ _ _ _ _ _ _)); simp -implicitDefEqProofs [n_t1_id2, n_id2_t1, n_id8_t1, n_t1_id8, n_id8_id2, n_id2_id8])
      | ((with_reducible first | apply AWp.ret | apply AWp.skip | apply AWp.exit); try simp -implicitDefEqProofs [n_t1_id2, n_id2_t1, n_id8_t1, n_t1_id8, n_id8_id2, n_id2_id8]))

end Go.Proofs.Ythpmabablfkekaa
