/- Package regions: fits. -/
import Derived.Test.YtknalmoackcpbaaGreatReg3
set_option linter.unusedSimpArgs false
set_option linter.unusedVariables false
set_option maxRecDepth 100000
set_option maxHeartbeats 3200000
namespace Go.Proofs.YtknalmoackcpbaaGreat
namespace Rg
open Go Go.AW
abbrev sc_179_1_XReg4 : Sch := (Sch.read 0 (Sch.pure 1 (Sch.read 2 (Sch.pure 3 (Sch.step 4 (Sch.step 5 Sch.done))))))
abbrev sc_179_9_XReg4 : Sch := (Sch.step 0 (Sch.step 1 (Sch.step 2 (Sch.step 4 (Sch.step 5 (Sch.step 6 (Sch.read 3 (Sch.read 7 (Sch.step 8 Sch.done)))))))))
def triesB (a b : Pt) : Bool := decide (a.p = 1) && decide (b.p = 1)
def noB (_ _ : Pt) : Bool := false
def allIn (l : List Pt) (x : Pt) : Bool := !l.any fun y => !withinS y.s x.s
def fitsS (a b : Cl) : Bool :=
  match (partsS 1 b).find? (allIn (partsS 0 a)) with
  | some x => decide (x.p = 1) || !(partsS 0 a).any (fun y => !decide (y.p = 1) && decide (y.s.f = x.s.f))
  | none => if (decide (a.tf = b.tf) && decide (a.tt = b.tt)) = true then !clashS (partsS 0 a) (partsS 1 b) triesB else !clashS (partsS 0 a) (partsS 1 b) noB
theorem parts_len (k : Int) (c : Cl) : (partsS k c).length ≤ 3 := by simp [partsS]; split <;> simp
theorem find_at {α : Type} {g : α → Bool} {l : List α} {i : Nat} (h : i < l.length) (h1 : ∀ x ∈ l.take i, g x = false) (h2 : g l[i] = true) : l.find? g = some l[i] := by
  rw [List.find?_eq_some_iff_getElem]
  refine ⟨h2, i, h, rfl, fun j hj => ?_⟩
  rw [h1 _ (by rw [List.mem_take_iff_getElem]; exact ⟨j, by omega, rfl⟩)]; rfl
theorem find_no {α : Type} {g : α → Bool} {l : List α} (h1 : ∀ x ∈ l, g x = false) : l.find? g = none := by
  rw [List.find?_eq_none]
  intro x hx; rw [h1 x hx]; simp
theorem fits_ok (a b : Cl) (σ : AS) : ACalls Tryz.prog 179 [clV a, clV b] σ (Gives (.sc (.bool (fitsS a b))) σ) No := by
  have hp := fun σ => parts_ok 0 a σ
  have hq := fun σ => parts_ok 1 b σ
  have hl := parts_len 0 a
  have hm := parts_len 1 b
  have z0 : 0 < (partsS 0 a).length := by simp [partsS]
  have z1 : 0 < (partsS 1 b).length := by simp [partsS]
  have e0 : (partsS 0 a)[0]'z0 = ⟨0, 1, ⟨a.tf, a.tt⟩⟩ := rfl
  have e1 : (partsS 1 b)[0]'z1 = ⟨1, 1, ⟨b.tf, b.tt⟩⟩ := rfl
  have hc1 := fun σ => clash_ok (partsS 0 a) (partsS 1 b) .unk .unk false false (by omega) (by omega) 227 triesB tries_ok σ
  have hc2 := fun σ => clash_ok (partsS 0 a) (partsS 1 b) .unk .unk false false (by omega) (by omega) 228 noB never_ok σ
  have hw := fun (x : Pt) id (σ : AS) h => contains_ok (partsS 0 a) .unk false (.fn (.func 224) [] [.ptr id 0]) (fun y => !withinS y.s x.s) σ (by omega) (fun y _ => FnG.fn (first := []) (args := [ptV y]) (cap := [.ptr id 0]) (fits1_ok x y id σ h))
  have hb := fun (x : Pt) id (σ : AS) h => contains_ok (partsS 0 a) .unk false (.fn (.func 226) [] [.ptr id 0]) (fun y => !decide (y.p = 1) && decide (y.s.f = x.s.f)) σ (by omega) (fun y _ => FnG.fn (first := []) (args := [ptV y]) (cap := [.ptr id 0]) (fits2_ok x y id σ h))
  unfold fitsS
  simp only [clV, i64v_def, ptsV, fnV] at hp hq hc1 hc2 ⊢
  have hin : ∀ x, ((partsS 0 a).any fun y => !withinS y.s x.s) = !allIn (partsS 0 a) x := fun x => by simp [allIn]
  simp only [hin] at hw
  generalize partsS 0 a = l at *
  generalize partsS 1 b = m at *
  generalize clashS l m triesB = b1 at *
  generalize clashS l m noB = b2 at *
  refine ACalls.of_body Tryz.func179 rfl rfl (by simp [Tryz.ntmps179]) ?_
  repeat (first
    | (with_reducible first | apply AWp.seq | apply AWp.block | refine And.intro (by first | omega | assumption | decide) ?_)
    | ((first | (with_reducible first | apply AWp.fork | apply AWp.region | show condK _ _ _ | show guardK _ _ _ _ _ _ _ _ _) | ((with_reducible apply AWp.drawS (id := 1) (t := sc_179_1_XReg4)); (exact mixed); kernel_rfl; kernel_rfl; (repeat (with_reducible first | apply PanQ.then | apply PanQ.block | apply PanQ.body | apply PanQ.no))) | ((with_reducible apply AWp.drawS (id := 9) (t := sc_179_9_XReg4)); (exact mixed); kernel_rfl; kernel_rfl; (repeat (with_reducible first | apply PanQ.then | apply PanQ.block | apply PanQ.body | apply PanQ.no)))); simp -implicitDefEqProofs [ci_lt, ci_le])
    | ((with_reducible first | apply AWp.ret | apply AWp.skip | apply AWp.exit); try simp -implicitDefEqProofs [ci_lt, ci_le]))
  intro id h_id
  repeat (first
    | (with_reducible first | apply AWp.seq | apply AWp.block | refine And.intro (by first | omega | assumption | decide) ?_)
    | ((first | (with_reducible first | apply AWp.fork | apply AWp.region | show condK _ _ _ | show guardK _ _ _ _ _ _ _ _ _) | ((with_reducible apply AWp.drawS (id := 1) (t := sc_179_1_XReg4)); (exact mixed); kernel_rfl; kernel_rfl; (repeat (with_reducible first | apply PanQ.then | apply PanQ.block | apply PanQ.body | apply PanQ.no))) | ((with_reducible apply AWp.drawS (id := 9) (t := sc_179_9_XReg4)); (exact mixed); kernel_rfl; kernel_rfl; (repeat (with_reducible first | apply PanQ.then | apply PanQ.block | apply PanQ.body | apply PanQ.no)))); simp -implicitDefEqProofs [ci_lt, ci_le])
    | ((with_reducible first | apply AWp.ret | apply AWp.skip | apply AWp.exit); try simp -implicitDefEqProofs [ci_lt, ci_le]))
  intro id2 n_id2_id h_id2
  have n_id_id2 : ¬ id = id2 := fun e => n_id2_id e.symm
  obtain ⟨B, B_s, hB1, hB2, eq_B, le_B⟩ : ∃ B : AS, ((σ.set id (.cells 158 [.sc (.int .i64 a.k), .sc (.int .i64 a.tf), .sc (.int .i64 a.tt), .sc (.int .i64 a.hf), .sc (.int .i64 a.ht), .sc (.int .i64 a.fl), .sc (.int .i64 a.a), .sc (.int .i64 a.b), .sc (.int .i64 a.c), .sc (.bool a.r)])).set id2 (.cells 158 [.sc (.int .i64 b.k), .sc (.int .i64 b.tf), .sc (.int .i64 b.tt), .sc (.int .i64 b.hf), .sc (.int .i64 b.ht), .sc (.int .i64 b.fl), .sc (.int .i64 b.a), .sc (.int .i64 b.b), .sc (.int .i64 b.c), .sc (.bool b.r)])) = B ∧ B id = some (.cells 158 [.sc (.int .i64 a.k), .sc (.int .i64 a.tf), .sc (.int .i64 a.tt), .sc (.int .i64 a.hf), .sc (.int .i64 a.ht), .sc (.int .i64 a.fl), .sc (.int .i64 a.a), .sc (.int .i64 a.b), .sc (.int .i64 a.c), .sc (.bool a.r)]) ∧ B id2 = some (.cells 158 [.sc (.int .i64 b.k), .sc (.int .i64 b.tf), .sc (.int .i64 b.tt), .sc (.int .i64 b.hf), .sc (.int .i64 b.ht), .sc (.int .i64 b.fl), .sc (.int .i64 b.a), .sc (.int .i64 b.b), .sc (.int .i64 b.c), .sc (.bool b.r)]) ∧ (∀ j, j ≠ id → j ≠ id2 → B j = σ j) ∧ (∀ S' : AS, (∀ j, j ≠ id → j ≠ id2 → ∀ y, B j = some y → S' j = some y) → AS.le σ S') := by
    refine ⟨_, rfl, by simp [n_id_id2, n_id2_id], by simp [n_id_id2, n_id2_id], ?_, ?_⟩
    · intro j e_id e_id2; simp [AS.set, e_id, e_id2]
    intro S' h j x hj
    have e_id : j ≠ id := by rintro rfl; rw [h_id] at hj; cases hj
    have e_id2 : j ≠ id2 := by rintro rfl; rw [h_id2] at hj; cases hj
    exact h j e_id e_id2 x (by simp [AS.set, e_id, e_id2, hj])
  simp only [B_s]
  clear B_s
  have hle : AS.le σ B := le_B B fun _ _ _ _ h => h
  repeat (first
    | (with_reducible first | apply AWp.seq | apply AWp.block | refine And.intro (by first | omega | assumption | decide) ?_)
    | ((first | (with_reducible first | apply AWp.fork | apply AWp.region | show condK _ _ _ | show guardK _ _ _ _ _ _ _ _ _) | ((with_reducible apply AWp.drawS (id := 1) (t := sc_179_1_XReg4)); (exact mixed); kernel_rfl; kernel_rfl; (repeat (with_reducible first | apply PanQ.then | apply PanQ.block | apply PanQ.body | apply PanQ.no))) | ((with_reducible apply AWp.drawS (id := 9) (t := sc_179_9_XReg4)); (exact mixed); kernel_rfl; kernel_rfl; (repeat (with_reducible first | apply PanQ.then | apply PanQ.block | apply PanQ.body | apply PanQ.no))) | ((with_reducible apply aCall.id); first | apply aCall.gives (hp _) | apply aCall.gives (hq _)) | ((with_reducible apply pureCall.id); first | apply pureCall.gives (fun _ => hp _) | apply pureCall.gives (fun _ => hq _))); simp -implicitDefEqProofs [ci_lt, ci_le, n_id2_id, n_id_id2, hB1, hB2])
    | ((with_reducible first | apply AWp.ret | apply AWp.skip | apply AWp.exit); try simp -implicitDefEqProofs [ci_lt, ci_le, n_id2_id, n_id_id2, hB1, hB2]))
  refine AWp.loopA (α := (Nat)) (0) (fun i => m.length - i) (fun i => i ≤ m.length ∧ ∀ x ∈ m.take i, allIn l x = false) [(5, ?_), (6, ?_), (14, ?_), (15, ?_)] (fun i => [(16, .sc (.int .i64 i))]) (fun i => B) ?_ ?_ ?_ ?_
  rotate_left 4
  · (try dsimp only); (simp only [List.cons_append, List.nil_append]; repeat (first | exact FrWk.nil | refine FrWk.cons (by first | (simp -implicitDefEqProofs [ci_lt, ci_le, n_id2_id, n_id_id2, hB1, hB2]; done) | exact Wk.of (by (try simp -implicitDefEqProofs [ci_lt, ci_le, n_id2_id, n_id_id2, hB1, hB2]) <;> rfl)) ?_))
  · (try dsimp only); (first | exact AS.le_refl _ | assumption | (repeat (first | exact AS.le_refl _ | assumption | refine le_new (by simp [*]) ?_)))
  · (try dsimp only) <;> first | exact trivial | exact ⟨by omega, rfl⟩ | omega | (simp; done) | exact ⟨by omega, by simp⟩ | exact ⟨by omega, by simp, rfl⟩
  intro i hx_
  try dsimp only at hx_ ⊢
  obtain ⟨hi, hX⟩ := hx_
  simp only [List.cons_append, List.nil_append]
  by_cases hlt : i < m.length
  · have wi_i : IntKind.i64.wrap ((i : Int) + 1) = ((i + 1 : Nat) : Int) := ci_wi (by omega)
    have hw' := hw m[i]
    have hb' := hb m[i]
    cases hg : allIn l m[i] with
    | true =>
      rw [find_at hlt hX hg]
      dsimp only
      rw [hg] at hw'
      generalize hx : m[i] = x at *
      by_cases hp1 : x.p = 1
      · repeat (first
          | (with_reducible first | apply AWp.seq | apply AWp.block | refine And.intro (by first | omega | assumption | decide) ?_)
          | ((first | (with_reducible first | apply AWp.fork | apply AWp.region | show condK _ _ _ | show guardK _ _ _ _ _ _ _ _ _) | ((with_reducible apply AWp.drawS (id := 1) (t := sc_179_1_XReg4)); (exact mixed); kernel_rfl; kernel_rfl; (repeat (with_reducible first | apply PanQ.then | apply PanQ.block | apply PanQ.body | apply PanQ.no))) | ((with_reducible apply AWp.drawS (id := 9) (t := sc_179_9_XReg4)); (exact mixed); kernel_rfl; kernel_rfl; (repeat (with_reducible first | apply PanQ.then | apply PanQ.block | apply PanQ.body | apply PanQ.no)))); simp -implicitDefEqProofs [hlt, hx, ptV, ci_lt, ci_le, n_id2_id, n_id_id2, hB1, hB2, wi_i])
          | ((with_reducible first | apply AWp.ret | apply AWp.skip | apply AWp.exit); try simp -implicitDefEqProofs [hlt, hx, ptV, ci_lt, ci_le, n_id2_id, n_id_id2, hB1, hB2, wi_i]))
        intro id3 h_id3
        repeat (first
          | (with_reducible first | apply AWp.seq | apply AWp.block | refine And.intro (by first | omega | assumption | decide) ?_)
          | ((first | (with_reducible first | apply AWp.fork | apply AWp.region | show condK _ _ _ | show guardK _ _ _ _ _ _ _ _ _) | ((with_reducible apply AWp.drawS (id := 1) (t := sc_179_1_XReg4)); (exact mixed); kernel_rfl; kernel_rfl; (repeat (with_reducible first | apply PanQ.then | apply PanQ.block | apply PanQ.body | apply PanQ.no))) | ((with_reducible apply AWp.drawS (id := 9) (t := sc_179_9_XReg4)); (exact mixed); kernel_rfl; kernel_rfl; (repeat (with_reducible first | apply PanQ.then | apply PanQ.block | apply PanQ.body | apply PanQ.no))) | ((with_reducible apply aCall.id); first | apply aCall.gives (hw' _ _ (by simp [ptV, hp1]))) | ((with_reducible apply pureCall.id); first | apply pureCall.gives (fun _ => hw' _ _ (by simp [ptV, hp1])))); simp -implicitDefEqProofs [hlt, hp1, ci_lt, ci_le, n_id2_id, n_id_id2, hB1, hB2, wi_i])
          | ((with_reducible first | apply AWp.ret | apply AWp.skip | apply AWp.exit); try simp -implicitDefEqProofs [hlt, hp1, ci_lt, ci_le, n_id2_id, n_id_id2, hB1, hB2, wi_i]))
        all_goals (repeat' (with_reducible apply And.intro))
        all_goals first
          | exact AS.le_refl _
          | ((repeat (first | exact AS.le_refl _ | assumption | refine le_new (by simp [*]) ?_)); done)
          | (refine wk_eq ?_; simp_all [skipV]; done)
          | (refine wk_b ?_; rw [Bool.eq_iff_iff]; simp [*]; omega)
          | (refine wk_eq ?_; simp [*]; omega)
          | (refine wk_eq ?_; split <;> simp_all [skipV]; done)
          | (exfalso; omega)
      · cases hb2 : l.any (fun y => !decide (y.p = 1) && decide (y.s.f = x.s.f))
        all_goals
          rw [hb2] at hb'
          repeat (first
            | (with_reducible first | apply AWp.seq | apply AWp.block | refine And.intro (by first | omega | assumption | decide) ?_)
            | ((first | (with_reducible first | apply AWp.fork | apply AWp.region | show condK _ _ _ | show guardK _ _ _ _ _ _ _ _ _) | ((with_reducible apply AWp.drawS (id := 1) (t := sc_179_1_XReg4)); (exact mixed); kernel_rfl; kernel_rfl; (repeat (with_reducible first | apply PanQ.then | apply PanQ.block | apply PanQ.body | apply PanQ.no))) | ((with_reducible apply AWp.drawS (id := 9) (t := sc_179_9_XReg4)); (exact mixed); kernel_rfl; kernel_rfl; (repeat (with_reducible first | apply PanQ.then | apply PanQ.block | apply PanQ.body | apply PanQ.no)))); simp -implicitDefEqProofs [hlt, hx, ptV, ci_lt, ci_le, n_id2_id, n_id_id2, hB1, hB2, wi_i])
            | ((with_reducible first | apply AWp.ret | apply AWp.skip | apply AWp.exit); try simp -implicitDefEqProofs [hlt, hx, ptV, ci_lt, ci_le, n_id2_id, n_id_id2, hB1, hB2, wi_i]))
          intro id3 h_id3
          repeat (first
            | (with_reducible first | apply AWp.seq | apply AWp.block | refine And.intro (by first | omega | assumption | decide) ?_)
            | ((first | (with_reducible first | apply AWp.fork | apply AWp.region | show condK _ _ _ | show guardK _ _ _ _ _ _ _ _ _) | ((with_reducible apply AWp.drawS (id := 1) (t := sc_179_1_XReg4)); (exact mixed); kernel_rfl; kernel_rfl; (repeat (with_reducible first | apply PanQ.then | apply PanQ.block | apply PanQ.body | apply PanQ.no))) | ((with_reducible apply AWp.drawS (id := 9) (t := sc_179_9_XReg4)); (exact mixed); kernel_rfl; kernel_rfl; (repeat (with_reducible first | apply PanQ.then | apply PanQ.block | apply PanQ.body | apply PanQ.no))) | ((with_reducible apply aCall.id); first | apply aCall.gives (hw' _ _ (by simp [ptV])) | apply aCall.gives (hb' _ _ (by simp [ptV]))) | ((with_reducible apply pureCall.id); first | apply pureCall.gives (fun _ => hw' _ _ (by simp [ptV])) | apply pureCall.gives (fun _ => hb' _ _ (by simp [ptV])))); simp -implicitDefEqProofs [hlt, hp1, ci_lt, ci_le, n_id2_id, n_id_id2, hB1, hB2, wi_i])
            | ((with_reducible first | apply AWp.ret | apply AWp.skip | apply AWp.exit); try simp -implicitDefEqProofs [hlt, hp1, ci_lt, ci_le, n_id2_id, n_id_id2, hB1, hB2, wi_i]))
          all_goals (repeat' (with_reducible apply And.intro))
          all_goals first
            | exact AS.le_refl _
            | ((repeat (first | exact AS.le_refl _ | assumption | refine le_new (by simp [*]) ?_)); done)
            | (refine wk_eq ?_; simp_all [skipV]; done)
            | (refine wk_b ?_; rw [Bool.eq_iff_iff]; simp [*]; omega)
            | (refine wk_eq ?_; simp [*]; omega)
            | (refine wk_eq ?_; split <;> simp_all [skipV]; done)
            | (exfalso; omega)
    | false =>
      rw [hg] at hw'
      generalize hx : m[i] = x at *
      repeat (first
        | (with_reducible first | apply AWp.seq | apply AWp.block | refine And.intro (by first | omega | assumption | decide) ?_)
        | ((first | (with_reducible first | apply AWp.fork | apply AWp.region | show condK _ _ _ | show guardK _ _ _ _ _ _ _ _ _) | ((with_reducible apply AWp.drawS (id := 1) (t := sc_179_1_XReg4)); (exact mixed); kernel_rfl; kernel_rfl; (repeat (with_reducible first | apply PanQ.then | apply PanQ.block | apply PanQ.body | apply PanQ.no))) | ((with_reducible apply AWp.drawS (id := 9) (t := sc_179_9_XReg4)); (exact mixed); kernel_rfl; kernel_rfl; (repeat (with_reducible first | apply PanQ.then | apply PanQ.block | apply PanQ.body | apply PanQ.no)))); simp -implicitDefEqProofs [hlt, hx, ptV, ci_lt, ci_le, n_id2_id, n_id_id2, hB1, hB2, wi_i])
        | ((with_reducible first | apply AWp.ret | apply AWp.skip | apply AWp.exit); try simp -implicitDefEqProofs [hlt, hx, ptV, ci_lt, ci_le, n_id2_id, n_id_id2, hB1, hB2, wi_i]))
      intro id3 h_id3
      repeat (first
        | (with_reducible first | apply AWp.seq | apply AWp.block | refine And.intro (by first | omega | assumption | decide) ?_)
        | ((first | (with_reducible first | apply AWp.fork | apply AWp.region | show condK _ _ _ | show guardK _ _ _ _ _ _ _ _ _) | ((with_reducible apply AWp.drawS (id := 1) (t := sc_179_1_XReg4)); (exact mixed); kernel_rfl; kernel_rfl; (repeat (with_reducible first | apply PanQ.then | apply PanQ.block | apply PanQ.body | apply PanQ.no))) | ((with_reducible apply AWp.drawS (id := 9) (t := sc_179_9_XReg4)); (exact mixed); kernel_rfl; kernel_rfl; (repeat (with_reducible first | apply PanQ.then | apply PanQ.block | apply PanQ.body | apply PanQ.no))) | ((with_reducible apply aCall.id); first | apply aCall.gives (hw' _ _ (by simp [ptV]))) | ((with_reducible apply pureCall.id); first | apply pureCall.gives (fun _ => hw' _ _ (by simp [ptV])))); simp -implicitDefEqProofs [hlt, ci_lt, ci_le, n_id2_id, n_id_id2, hB1, hB2, wi_i])
        | ((with_reducible first | apply AWp.ret | apply AWp.skip | apply AWp.exit); try simp -implicitDefEqProofs [hlt, ci_lt, ci_le, n_id2_id, n_id_id2, hB1, hB2, wi_i]))
      refine stepA.mk (i + 1) (by (try dsimp only); omega) (by (try dsimp only); (simp only [List.cons_append, List.nil_append]; repeat (first | exact FrWk.nil | refine FrWk.cons (by first | (simp -implicitDefEqProofs [ci_lt, ci_le, n_id2_id, n_id_id2, hB1, hB2, wi_i]; done) | exact Wk.of (by (try simp -implicitDefEqProofs [ci_lt, ci_le, n_id2_id, n_id_id2, hB1, hB2, wi_i]) <;> rfl)) ?_))) (by (try dsimp only); exact le_new h_id3 (AS.le_refl _)) ?_
      try dsimp only
      exact ⟨hlt, take_all hlt hX (by rw [hx]; exact hg)⟩
  · rw [find_no (by rwa [List.take_of_length_le (by omega)] at hX)]
    repeat' (first
      | (with_reducible first | apply AWp.seq | apply AWp.block | refine And.intro (by first | omega | assumption | decide) ?_)
      | ((first | (with_reducible first | apply AWp.fork | apply AWp.region | show condK _ _ _ | show guardK _ _ _ _ _ _ _ _ _) | ((with_reducible apply AWp.drawS (id := 1) (t := sc_179_1_XReg4)); (exact mixed); kernel_rfl; kernel_rfl; (repeat (with_reducible first | apply PanQ.then | apply PanQ.block | apply PanQ.body | apply PanQ.no))) | ((with_reducible apply AWp.drawS (id := 9) (t := sc_179_9_XReg4)); (exact mixed); kernel_rfl; kernel_rfl; (repeat (with_reducible first | apply PanQ.then | apply PanQ.block | apply PanQ.body | apply PanQ.no))) | ((with_reducible apply aCall.id); first | apply aCall.gives (hc1 _) | apply aCall.gives (hc2 _)) | ((with_reducible apply pureCall.id); first | apply pureCall.gives (fun _ => hc1 _) | apply pureCall.gives (fun _ => hc2 _))); simp -implicitDefEqProofs [hlt, ptV, z0, z1, e0, e1, ci_lt, ci_le, n_id2_id, n_id_id2, hB1, hB2])
      | trivial
      | (with_reducible apply And.intro)
      | ((with_reducible first | apply AWp.ret | apply AWp.skip | apply AWp.exit); try simp -implicitDefEqProofs [hlt, ptV, z0, z1, e0, e1, ci_lt, ci_le, n_id2_id, n_id_id2, hB1, hB2])
      | ((with_reducible first | apply condK.split | apply guardK.split | apply pureG.split) <;> (intro hc; (try simp -implicitDefEqProofs only [hc]); (try simp at hc)) <;> try simp -implicitDefEqProofs [hlt, ptV, z0, z1, e0, e1, ci_lt, ci_le, n_id2_id, n_id_id2, hB1, hB2]))
    all_goals (repeat' (with_reducible apply And.intro))
    all_goals first
      | exact AS.le_refl _
      | ((repeat (first | exact AS.le_refl _ | assumption | refine le_new (by simp [*]) ?_)); done)
      | (refine wk_eq ?_; simp_all [skipV]; done)
      | (refine wk_b ?_; rw [Bool.eq_iff_iff]; simp [*]; omega)
      | (refine wk_eq ?_; simp [*]; omega)
      | (refine wk_eq ?_; split <;> simp_all [skipV]; done)
      | (exfalso; omega)
end Rg
end Go.Proofs.YtknalmoackcpbaaGreat
