/- Chapter 03: StreamsGaps as a walk. -/
import Derived.Test.YthpmabablfkekaaStrF
set_option linter.unusedSimpArgs false
set_option linter.unusedVariables false
set_option maxRecDepth 100000
set_option maxHeartbeats 3200000
namespace Go.Proofs.Ythpmabablfkekaa
open Go Go.AW

theorem At.set {b t : List UInt8} {a k : Nat} {x : UInt8} (h : At b a t) (hk : k < a ∨ a + t.length ≤ k) : At (b.set k x) a t := by
  refine ⟨by simpa using h.1, ?_⟩
  have h2 := h.2
  unfold Proofs.Ythpmabablfkekaa.sg at h2 ⊢
  rcases hk with hk | hk
  · rw [List.drop_set_of_lt hk]; exact h2
  · rw [List.drop_set]
    rw [if_neg (by omega), List.take_set_of_le (by omega)]; exact h2
theorem At.app_r {b t r : List UInt8} {a : Nat} (h : At b a t) : At (b ++ r) a t := by
  refine ⟨by have := h.1; simp; omega, ?_⟩
  have h1 := h.1
  have h2 := h.2
  unfold Proofs.Ythpmabablfkekaa.sg at h2 ⊢
  rw [List.drop_append_of_le_length (by omega), List.take_append_of_le_length (by simp; omega)]; exact h2
theorem gap_set {s : Nat → List UInt8} (hs : ∀ k, k < 4 → (s k).length ≤ 4000) {k : Nat} {x : UInt8} (h56 : 56 ≤ k) (ho : ∀ j, j < 4 → k < plc s j ∨ plc s j + (s j).length ≤ k) : splitS ((joinL s).set k x) = (outS s, 0, 0) := by
  have hh := joinL_held hs
  refine split_of ⟨hh.hd.set (.inr (by simp; omega)), fun j hj => (hh.en j hj).set (.inr (by rw [ent_len]; omega)), hs, by simpa using hh.big⟩ fun j hj => (joinL_at hj).set (ho j hj)
theorem gap_app {s : Nat → List UInt8} (hs : ∀ k, k < 4 → (s k).length ≤ 4000) (x : UInt8) : splitS (joinL s ++ [x]) = (outS s, 0, 0) := by
  have hh := joinL_held hs
  refine split_of ⟨hh.hd.app_r, fun j hj => (hh.en j hj).app_r, hs, ?_⟩ fun j hj => (joinL_at hj).app_r
  have := bdP_len (s := s) (k := 4) (N := 4000) hs
  rw [List.length_append, joinL, List.length_append, hdP_len]
  simp; omega

theorem flat_u8 (L : List UInt8) : flatC (L.map u8) = L.map u8 := by
  induction L with
  | nil => rfl
  | cons a r ih => simp only [List.map_cons, flatC_cons, ih]; rfl

theorem streamsGaps_ok (a0 a1 a2 a3 : List UInt8 × Bool) (n : Nat) (hn : n < 65536) (c : UInt8) :
    ACalls Try.prog 8 [stO a0 a1 a2 a3 .unk .unk .unk .unk, .sc (.int .u16 n), .sc (.int .u8 c.toNat)] noAS IsTrue No := by
  have hw := fun σ => swakes_ok σ
  have hlg := fun σ => slong_ok a0 a1 a2 a3 .unk .unk .unk .unk σ
  cases hL : longS a0 a1 a2 a3 with
  | true =>
    rw [hL] at hlg
    simp only [stO, sO] at hlg ⊢
    refine ACalls.of_body Try.func8 rfl rfl (by simp [Try.ntmps8]) ?_
    repeat (first
      | (with_reducible first | apply AWp.seq | apply AWp.block | refine And.intro (by first | omega | assumption | decide) ?_)
      | ((first | (with_reducible first | apply AWp.fork | apply AWp.region)); simp -implicitDefEqProofs)
      | ((with_reducible first | apply AWp.ret | apply AWp.skip | apply AWp.exit); try simp -implicitDefEqProofs))
    intro id3 h_id3
    repeat (first
      | (with_reducible first | apply AWp.seq | apply AWp.block | refine And.intro (by first | omega | assumption | decide) ?_)
      | ((first | (with_reducible first | apply AWp.fork | apply AWp.region) | ((with_reducible apply aCall.id); first | apply aCall.gives (hw _) | apply aCall.gives (hlg _))); simp -implicitDefEqProofs)
      | ((with_reducible first | apply AWp.ret | apply AWp.skip | apply AWp.exit); try simp -implicitDefEqProofs))
  | false =>
    rw [hL] at hlg
    obtain ⟨l0, l1, l2, l3⟩ := longS_no hL
    have hl2 : ∀ j, (nth4 a0 a1 a2 a3 j).1.length ≤ 4000 := fun j => by unfold nth4; split <;> omega
    have hj := fun σ => join_gv a0 a1 a2 a3 .unk .unk .unk .unk hl2 σ
    have hg := fun k hk => get4 a0 a1 a2 a3 .unk .unk .unk .unk (k := k) hk
    have hsam : ∀ p0 p1 p2 p3 σ, ACalls Try.prog 12 [stO a0 a1 a2 a3 .unk .unk .unk .unk, stO (a0.1, false) (a1.1, false) (a2.1, false) (a3.1, false) p0 p1 p2 p3] σ (Gives (.sc (.bool true)) σ) No := fun p0 p1 p2 p3 σ => by
      have := ssame_ok a0 a1 a2 a3 (a0.1, false) (a1.1, false) (a2.1, false) (a3.1, false) .unk .unk .unk .unk p0 p1 p2 p3 (fun j => by have := hl2 j; omega) σ
      simpa [eqS] using this
    have hgs := fun k x => gap_set (s := fun k => (nth4 a0 a1 a2 a3 k).1) (fun k _ => hl2 k) (k := k) (x := x)
    have hga := fun x => gap_app (s := fun k => (nth4 a0 a1 a2 a3 k).1) (fun k _ => hl2 k) x
    have hJn := joinL_len (s := fun k => (nth4 a0 a1 a2 a3 k).1)
    have hJl := joinL_short (s := fun k => (nth4 a0 a1 a2 a3 k).1) (fun k _ => hl2 k)
    have hJ56 : 56 ≤ (joinL (fun k => (nth4 a0 a1 a2 a3 k).1)).length := by rw [joinL, List.length_append, hdP_len]; omega
    have hJb : (joinL (fun k => (nth4 a0 a1 a2 a3 k).1)).length ≤ 65536 := (joinL_held (s := fun k => (nth4 a0 a1 a2 a3 k).1) (fun k _ => hl2 k)).big
    have hout : outS (fun k => (nth4 a0 a1 a2 a3 k).1) = [(a0.1, false), (a1.1, false), (a2.1, false), (a3.1, false)] := rfl
    rw [hout] at hgs hga
    generalize hsd : (fun k => (nth4 a0 a1 a2 a3 k).1) = s at *
    have hsk : ∀ k, (nth4 a0 a1 a2 a3 k).1 = s k := fun k => by rw [← hsd]
    have hs4 : ∀ k, (s k).length ≤ 4000 := fun k => by rw [← hsk]; exact hl2 k
    have h56 : ((((joinL s).length : Nat) : Int) < 56) = False := by simp; omega
    have w1 : IntKind.i64.wrap (n : Int) = (n : Int) := in_i64 (by omega) (by omega)
    have w2 : IntKind.i64.wrap ((((joinL s).length : Nat) : Int) - 55) = (((joinL s).length - 55 : Nat) : Int) := by rw [in_i64 (by omega) (by omega)]; omega
    have w3 : ((n : Int)).tmod (((joinL s).length - 55 : Nat) : Int) = ((n % ((joinL s).length - 55) : Nat) : Int) := by rw [Int.tmod_eq_emod_of_nonneg (by omega)]; exact (Int.natCast_emod n _).symm
    have hmod : n % ((joinL s).length - 55) < (joinL s).length - 55 := Nat.mod_lt _ (by omega)
    have w5 : ((((joinL s).length - 55 : Nat) : Int) = 0) = False := eq_false (by omega)
    generalize hq : n % ((joinL s).length - 55) = q at *
    have w4 : IntKind.i64.wrap (56 + (q : Int)) = ((56 + q : Nat) : Int) := by rw [in_i64 (by omega) (by omega)]; omega
    simp only [stO, sO] at hlg hj hsam hg ⊢
    refine ACalls.of_body Try.func8 rfl rfl (by simp [Try.ntmps8]) ?_
    repeat (first
      | (with_reducible first | apply AWp.seq | apply AWp.block | refine And.intro (by first | omega | assumption | decide) ?_)
      | ((first | (with_reducible first | apply AWp.fork | ((fail_if_success (apply AWp.region (id := 5))); apply AWp.region) | show condK _ _ _ | show guardK _ _ _ _ _ _ _ _ _)); simp -implicitDefEqProofs [ci_lt, ci_le])
      | ((with_reducible first | apply AWp.ret | apply AWp.skip | apply AWp.exit); try simp -implicitDefEqProofs [ci_lt, ci_le]))
    intro id3 h_id3
    repeat (first
      | (with_reducible first | apply AWp.seq | apply AWp.block | refine And.intro (by first | omega | assumption | decide) ?_)
      | ((first | (with_reducible first | apply AWp.fork | ((fail_if_success (apply AWp.region (id := 5))); apply AWp.region) | show condK _ _ _ | show guardK _ _ _ _ _ _ _ _ _) | ((with_reducible apply aCall.id); first | apply aCall.gives (hw _) | apply aCall.gives (hlg _))); simp -implicitDefEqProofs [ci_lt, ci_le])
      | ((with_reducible first | apply AWp.ret | apply AWp.skip | apply AWp.exit); try simp -implicitDefEqProofs [ci_lt, ci_le]))
    repeat (first
      | (with_reducible first | apply AWp.seq | apply AWp.block | refine And.intro (by first | omega | assumption | decide) ?_)
      | ((first | (with_reducible first | apply AWp.fork | apply AWp.region | show condK _ _ _ | show guardK _ _ _ _ _ _ _ _ _)); simp -implicitDefEqProofs [ci_lt, ci_le])
      | ((with_reducible first | apply AWp.ret | apply AWp.skip | apply AWp.exit); try simp -implicitDefEqProofs [ci_lt, ci_le]))
    refine aCall.of (hj _) ?_ (fun _ _ h => h.elim)
    rintro r τ ⟨v, rfl, hG⟩
    clear hj
    obtain ⟨B3, hB3⟩ : ∃ x, x = ABlk.cells 25 [AV.lst 5 (a0.1.map u8) .unk a0.2, AV.lst 5 (a1.1.map u8) .unk a1.2, AV.lst 5 (a2.1.map u8) .unk a2.2, AV.lst 5 (a3.1.map u8) .unk a3.2] := ⟨_, rfl⟩
    rw [← hB3] at hG
    obtain ⟨S, hS⟩ : ∃ S : AS, S = noAS.set id3 B3 := ⟨_, rfl⟩
    rw [← hS] at hG
    have hS3 : S id3 = some B3 := by rw [hS]; simp
    have g3 := bv_get hG hS3
    have hgl := bv_len hG
    rw [hB3] at g3
    simp -implicitDefEqProofs [ci_lt, ci_le]
    by_cases hk : 56 + q < (joinL s).length
    · have hk2 : ((((joinL s).length : Nat) : Int) ≤ 56 + (q : Int)) = False := eq_false (by omega)
      repeat (first
        | (with_reducible first | apply AWp.seq | apply AWp.block | refine And.intro (by first | omega | assumption | decide) ?_)
        | ((first | (with_reducible first | apply AWp.fork | apply AWp.region | show condK _ _ _ | show guardK _ _ _ _ _ _ _ _ _)); simp -implicitDefEqProofs [↓hgl, h56, w1, w2, w3, w4, w5, hk2, g3, ci_lt, ci_le])
        | ((with_reducible first | apply AWp.ret | apply AWp.skip | apply AWp.exit); try simp -implicitDefEqProofs [↓hgl, h56, w1, w2, w3, w4, w5, hk2, g3, ci_lt, ci_le]))
      obtain ⟨x, hx⟩ : ∃ x, x = 56 + q := ⟨_, rfl⟩
      have hxi : (56 : Int) + (q : Int) = (x : Int) := by omega
      rw [hxi]
      refine AWp.loopA (α := (Nat)) (0) (fun j => 4 - j) (fun j => j ≤ 4 ∧ ∀ i, i < j → x < plc s i ∨ plc s i + (s i).length ≤ x) [(2, ?_), (3, ?_), (7, ?_), (9, ?_), (51, ?_)] (fun j => [(10, .sc (.int .i64 ((56 + (bdP s j).length : Nat) : Int))), (52, .sc (.int .i64 j))]) (fun j => τ) ?_ ?_ ?_ ?_
      rotate_left 5
      · (try dsimp only); (simp only [List.cons_append, List.nil_append]; repeat (first | exact FrWk.nil | refine FrWk.cons (by first | (simp -implicitDefEqProofs [ci_lt, ci_le]; done) | exact Wk.of (by (try simp -implicitDefEqProofs [ci_lt, ci_le]) <;> rfl)) ?_))
      · (try dsimp only); (exact AS.le_refl _)
      · exact ⟨by omega, fun i hi => by omega⟩
      intro j hx_
      try dsimp only at hx_ ⊢
      obtain ⟨hj4, hO⟩ := hx_
      simp only [List.cons_append, List.nil_append]
      by_cases hlt : j < 4
      · clear hsam hw hlg hga hgs hgl hS3 g3 hG w1 w2 w3 w4 w5 hmod h56 hk hk2 hxi hq hx
        have hJ : ((j : Int) < 4) = True := by simp; omega
        have hbj := bdP_len (s := s) (k := j) (N := 4000) (fun j _ => hs4 j)
        have hbj' : (bdP s j).length ≤ 16012 := by
          have : j * (4000 + 3) ≤ 4 * 4003 := Nat.mul_le_mul hj4 (by omega)
          omega
        have hup := pad_up (bdP s j).length
        have hpl := pad_lt (bdP s j).length
        have hpn : 56 + (bdP s (j + 1)).length = plc s j + (s j).length := by simp only [bdP, plc, List.length_append, List.length_replicate]; omega
        have hP1 : plc s j = (56 + (bdP s j).length + 3) / 4 * 4 := by rw [plc]; omega
        have hP2 : plc s j < 20000 := by rw [plc]; omega
        have hlk := hs4 j
        generalize 56 + (bdP s j).length = A at hP1 hup ⊢
        obtain ⟨p, hpp⟩ : ∃ p, plc s j = p := ⟨_, rfl⟩
        rw [hpp] at hpn hP1 hP2
        have e1 : IntKind.i64.wrap ((A : Int) + 3) = (A : Int) + 3 := in_i64 (by omega) (by omega)
        have e2 : ((A : Int) + 3).tdiv 4 = (((A + 3) / 4 : Nat) : Int) := by rw [Int.tdiv_eq_ediv_of_nonneg (by omega)]; omega
        generalize (A + 3) / 4 = r at *
        have e3 : IntKind.i64.wrap (r : Int) = (r : Int) := in_i64 (by omega) (by omega)
        have e4 : IntKind.i64.wrap ((r : Int) * 4) = (p : Int) := by rw [in_i64 (by omega) (by omega)]; omega
        have e7 : IntKind.i64.wrap ((p : Int) + (s j).length) = (p : Int) + (s j).length := in_i64 (by omega) (by omega)
        have hgk := hg j hlt
        rw [hsk j] at hgk
        have hgk2 : ∀ h, [AV.lst 5 (a0.1.map u8) .unk a0.2, AV.lst 5 (a1.1.map u8) .unk a1.2, AV.lst 5 (a2.1.map u8) .unk a2.2, AV.lst 5 (a3.1.map u8) .unk a3.2][j]'h = AV.lst 5 ((s j).map u8) (nth4 .unk .unk .unk .unk j) (nth4 a0 a1 a2 a3 j).2 := fun h => (List.getElem?_eq_some_iff.1 hgk).2
        have c1 : ∀ b : Bool, decide (p ≤ x) = b → decide ((p : Int) ≤ x) = b := fun b h => by rw [← h, decide_eq_decide]; omega
        have wi_j : IntKind.i64.wrap ((j : Int) + 1) = ((j + 1 : Nat) : Int) := ci_wi (by omega)
        by_cases h1 : p ≤ x
        · have h1' : ((p : Int) ≤ x) = True := eq_true (by omega)
          by_cases h2 : x < p + (s j).length
          · have h2' : ((x : Int) < p + (s j).length) = True := eq_true (by omega)
            repeat (first
              | (with_reducible first | apply AWp.seq | apply AWp.block | refine And.intro (by first | omega | assumption | decide) ?_)
              | ((first | (with_reducible first | apply AWp.fork | apply AWp.region | show condK _ _ _ | show guardK _ _ _ _ _ _ _ _ _)); simp -implicitDefEqProofs [hJ, hlt, hgk2, e1, e2, e3, e4, e7, h1', h2', h1, h2, ci_lt, ci_le, wi_j])
              | ((with_reducible first | apply AWp.ret | apply AWp.skip | apply AWp.exit); try simp -implicitDefEqProofs [hJ, hlt, hgk2, e1, e2, e3, e4, e7, h1', h2', h1, h2, ci_lt, ci_le, wi_j]))
          · have h2' : ((x : Int) < p + (s j).length) = False := eq_false (by omega)
            have hpn2 : (56 : Int) + (bdP s (j + 1)).length = (p : Int) + (s j).length := by omega
            repeat (first
              | (with_reducible first | apply AWp.seq | apply AWp.block | refine And.intro (by first | omega | assumption | decide) ?_)
              | ((first | (with_reducible first | apply AWp.fork | apply AWp.region | show condK _ _ _ | show guardK _ _ _ _ _ _ _ _ _)); simp -implicitDefEqProofs [hJ, hlt, hgk2, e1, e2, e3, e4, e7, h1', h2', h1, h2, ci_lt, ci_le, wi_j])
              | ((with_reducible first | apply AWp.ret | apply AWp.skip | apply AWp.exit); try simp -implicitDefEqProofs [hJ, hlt, hgk2, e1, e2, e3, e4, e7, h1', h2', h1, h2, ci_lt, ci_le, wi_j]))
            refine stepA.mk ((j + 1)) (by (try dsimp only); omega) (by (try dsimp only); (simp only [List.cons_append, List.nil_append]; repeat (first | exact FrWk.nil | refine FrWk.cons (by first | (simp -implicitDefEqProofs [hpn2, ci_lt, ci_le, wi_j]; done) | exact Wk.of (by (try simp -implicitDefEqProofs [hpn2, ci_lt, ci_le, wi_j]) <;> rfl)) ?_))) (by (try dsimp only); exact AS.le_refl _) ?_
            try dsimp only
            refine ⟨hlt, fun i hi => ?_⟩
            by_cases hij : i = j
            · subst hij; right; omega
            · exact hO i (by omega)
        · have h1' : ((p : Int) ≤ x) = False := eq_false (by omega)
          have hpn2 : (56 : Int) + (bdP s (j + 1)).length = (p : Int) + (s j).length := by omega
          repeat (first
            | (with_reducible first | apply AWp.seq | apply AWp.block | refine And.intro (by first | omega | assumption | decide) ?_)
            | ((first | (with_reducible first | apply AWp.fork | apply AWp.region | show condK _ _ _ | show guardK _ _ _ _ _ _ _ _ _)); simp -implicitDefEqProofs [hJ, hlt, hgk2, e1, e2, e3, e4, e7, h1', h1, ci_lt, ci_le, wi_j])
            | ((with_reducible first | apply AWp.ret | apply AWp.skip | apply AWp.exit); try simp -implicitDefEqProofs [hJ, hlt, hgk2, e1, e2, e3, e4, e7, h1', h1, ci_lt, ci_le, wi_j]))
          refine stepA.mk ((j + 1)) (by (try dsimp only); omega) (by (try dsimp only); (simp only [List.cons_append, List.nil_append]; repeat (first | exact FrWk.nil | refine FrWk.cons (by first | (simp -implicitDefEqProofs [hpn2, ci_lt, ci_le, wi_j]; done) | exact Wk.of (by (try simp -implicitDefEqProofs [hpn2, ci_lt, ci_le, wi_j]) <;> rfl)) ?_))) (by (try dsimp only); exact AS.le_refl _) ?_
          try dsimp only
          refine ⟨hlt, fun i hi => ?_⟩
          by_cases hij : i = j
          · subst hij; left; omega
          · exact hO i (by omega)
      · have hJ : ((j : Int) < 4) = False := by simp; omega
        obtain rfl : j = 4 := by omega
        have hxl : x < ((joinL s).map u8).length := by simp; omega
        repeat (first
          | (with_reducible first | apply AWp.seq | apply AWp.block | refine And.intro (by first | omega | assumption | decide) ?_)
          | ((first | (with_reducible first | apply AWp.fork | ((fail_if_success (apply AWp.region (id := 20))); apply AWp.region) | show condK _ _ _ | show guardK _ _ _ _ _ _ _ _ _)); simp -implicitDefEqProofs [hJ, ci_lt, ci_le])
          | ((with_reducible first | apply AWp.ret | apply AWp.skip | apply AWp.exit); try simp -implicitDefEqProofs [hJ, ci_lt, ci_le]))
        rcases hG with ⟨h1, _, _⟩ | ⟨id, cap, spl, h0, rfl, rfl, hES, hcap⟩
        · have : joinL s = [] := by simpa using h1
          rw [this] at hJ56; simp at hJ56
        have hfl : flatC ((joinL s).map u8 ++ spl) = (joinL s).map u8 ++ flatC spl := by rw [flatC_app, flat_u8]
        have hgx : ((joinL s).map u8 ++ flatC spl)[x]? = some (u8 (joinL s)[x]) := by
          rw [List.getElem?_append_left (by simpa using hxl), List.getElem?_map, List.getElem?_eq_getElem (by simpa using hxl)]; rfl
        rw [hfl]
        with_reducible apply AWp.regionS
        refine sOps.rest ?_
        simp -implicitDefEqProofs [hgx]
        refine ⟨by simpa using hxl, by simp at hxl; omega, by simpa using hxl, by simp at hxl; omega, ?_⟩
        generalize hzz : IntKind.u8.wrap _ = z
        have hz : 0 ≤ z ∧ z < 256 := by rw [← hzz, w_u8]; omega
        clear hzz
        obtain ⟨y, rfl⟩ : ∃ y : UInt8, z = (y.toNat : Int) := ⟨UInt8.ofNat z.toNat, by simp; omega⟩
        have hxJ : x < (joinL s).length := by simpa using hxl
        obtain ⟨L, hLL⟩ : ∃ L, L = (joinL s).set x y := ⟨_, rfl⟩
        have hLs : splitS L = _ := hLL ▸ hgs x y (by omega) (fun j hj => by rw [hsk]; exact hO j hj)
        have hLn : 56 ≤ L.length ∧ L.length ≤ 65537 := by rw [hLL]; simp; omega
        have hcut : List.take x ((joinL s).map u8 ++ flatC spl) ++ u8 y :: List.drop (x + 1) ((joinL s).map u8 ++ flatC spl) = flatC (L.map u8 ++ spl) := by
          rw [flatC_app]
          have hfl2 := flat_u8 L
          rw [hfl2, hLL, List.map_set, List.set_eq_take_append_cons_drop, if_pos hxl, List.take_append_of_le_length (by omega), List.drop_append_of_le_length (by omega)]
          simp
        have hG2 : BV L (.msl id 0 L.length cap) S (S.set id (.cells 5 (flatC (L.map u8 ++ spl)))) := by
          refine .inr ⟨id, cap, spl, h0, by simp, rfl, fun x hx => ?_, by rw [← hcap, hLL]; simp⟩
          rcases List.mem_append.1 hx with hx | hx
          · obtain ⟨a, _, rfl⟩ := List.mem_map.1 hx; simp [u8]
          · exact hES x (List.mem_append.2 (.inr hx))
        have hcut2 := hcut
        simp only [u8] at hcut2
        have hLl : (joinL s).length = L.length := by rw [hLL]; simp
        rw [hcut2]
        refine frz5 (i := 7) (l := L) (S := S) (o0 := .full) (by omega) (.inr (by simpa [hLl] using hG2)) ?_
        intro o
        have hsp := fun σ => split_ok L o false (by simp) σ (by omega)
        rw [hLs] at hsp
        simp only [strV, List.map_cons, List.map_nil, sV, RS] at hsp
        rw [hB3] at hS3
        repeat (first
          | (with_reducible first | apply AWp.seq | apply AWp.block | refine And.intro (by first | omega | assumption | decide) ?_)
          | ((first | (with_reducible first | apply AWp.fork | apply AWp.region | show condK _ _ _ | show guardK _ _ _ _ _ _ _ _ _) | ((with_reducible apply aCall.id); first | apply aCall.gives (hsp _))); simp -implicitDefEqProofs [hS3, ci_lt, ci_le])
          | ((with_reducible first | apply AWp.ret | apply AWp.skip | apply AWp.exit); try simp -implicitDefEqProofs [hS3, ci_lt, ci_le]))
        intro id13 h_id13
        have hid : ¬ id3 = id13 := by rintro rfl; rw [hS3] at h_id13; cases h_id13
        have hid' : ¬ id13 = id3 := fun e => hid e.symm
        repeat (first
          | (with_reducible first | apply AWp.seq | apply AWp.block | refine And.intro (by first | omega | assumption | decide) ?_)
          | ((first | (with_reducible first | apply AWp.fork | apply AWp.region | show condK _ _ _ | show guardK _ _ _ _ _ _ _ _ _) | ((with_reducible apply aCall.id); first | apply aCall.gives (hsam _ _ _ _ _))); simp -implicitDefEqProofs [hS3, hid, hid', ci_lt, ci_le])
          | ((with_reducible first | apply AWp.ret | apply AWp.skip | apply AWp.exit); try simp -implicitDefEqProofs [hS3, hid, hid', ci_lt, ci_le]))
    · have hk2 : ((((joinL s).length : Nat) : Int) ≤ 56 + (q : Int)) = True := eq_true (by omega)
      repeat (first
        | (with_reducible first | apply AWp.seq | apply AWp.block | refine And.intro (by first | omega | assumption | decide) ?_)
        | ((first | (with_reducible first | apply AWp.fork | ((fail_if_success (apply AWp.region (id := 10))); apply AWp.region) | show condK _ _ _ | show guardK _ _ _ _ _ _ _ _ _)); simp -implicitDefEqProofs [↓hgl, h56, w1, w2, w3, w4, w5, hk2, ci_lt, ci_le])
        | ((with_reducible first | apply AWp.ret | apply AWp.skip | apply AWp.exit); try simp -implicitDefEqProofs [↓hgl, h56, w1, w2, w3, w4, w5, hk2, ci_lt, ci_le]))
      with_reducible apply AWp.regionS
      refine sOps.first 3 ?_
      simp -implicitDefEqProofs
      refine sOps.sp rfl (SOp.appendG (by decide) 5 ((joinL s).map u8) ([c].map u8) S (by simp) (by simp) (by simp) (by simp) (by exact hG) (by simp [srcElems, Try.underlying22, u8]) (by simp) (by simp [roomB]; omega) (by simp; omega) ?_)
      intro v2 τ2 hG2
      rw [← List.map_append] at hG2
      refine sOps.rest ?_
      simp -implicitDefEqProofs
      obtain ⟨L, hLL⟩ : ∃ L, L = joinL s ++ [c] := ⟨_, rfl⟩
      have hLs : splitS L = _ := hLL ▸ hga c
      have hLn : 56 ≤ L.length ∧ L.length ≤ 65537 := by rw [hLL]; simp; omega
      rw [← hLL] at hG2
      refine frz5 (i := 7) (l := L) (S := S) (o0 := .full) (by omega) (.inr (by simpa using hG2)) ?_
      intro o
      have hsp := fun σ => split_ok L o false (by simp) σ (by omega)
      rw [hLs] at hsp
      simp only [strV, List.map_cons, List.map_nil, sV, RS] at hsp
      rw [hB3] at hS3
      repeat (first
        | (with_reducible first | apply AWp.seq | apply AWp.block | refine And.intro (by first | omega | assumption | decide) ?_)
        | ((first | (with_reducible first | apply AWp.fork | apply AWp.region | show condK _ _ _ | show guardK _ _ _ _ _ _ _ _ _) | ((with_reducible apply aCall.id); first | apply aCall.gives (hsp _))); simp -implicitDefEqProofs [hS3, ci_lt, ci_le])
        | ((with_reducible first | apply AWp.ret | apply AWp.skip | apply AWp.exit); try simp -implicitDefEqProofs [hS3, ci_lt, ci_le]))
      intro id13 h_id13
      have hid : ¬ id3 = id13 := by rintro rfl; rw [hS3] at h_id13; cases h_id13
      have hid' : ¬ id13 = id3 := fun e => hid e.symm
      repeat (first
        | (with_reducible first | apply AWp.seq | apply AWp.block | refine And.intro (by first | omega | assumption | decide) ?_)
        | ((first | (with_reducible first | apply AWp.fork | apply AWp.region | show condK _ _ _ | show guardK _ _ _ _ _ _ _ _ _) | ((with_reducible apply aCall.id); first | apply aCall.gives (hsam _ _ _ _ _))); simp -implicitDefEqProofs [hS3, hid, hid', ci_lt, ci_le])
        | ((with_reducible first | apply AWp.ret | apply AWp.skip | apply AWp.exit); try simp -implicitDefEqProofs [hS3, hid, hid', ci_lt, ci_le]))

end Go.Proofs.Ythpmabablfkekaa
