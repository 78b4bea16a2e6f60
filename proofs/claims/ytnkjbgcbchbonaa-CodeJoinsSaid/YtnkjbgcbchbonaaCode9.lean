/- Package code: an instruction is read. -/
import Derived.Test.YtnkjbgcbchbonaaCode8
set_option linter.unusedSimpArgs false
set_option linter.unusedVariables false
set_option maxRecDepth 100000
set_option maxHeartbeats 3200000
namespace Go.Proofs.Ytnkjbgcbchbonaa
open Go Go.AW
abbrev sc_41_12_XCode9 : Sch := (Sch.step 0 (Sch.step 1 (Sch.step 2 (Sch.step 3 (Sch.step 5 (Sch.alt 4 (Sch.alt 6 (Sch.step 7 (Sch.step 8 Sch.done)) Sch.none) (Sch.alt 6 (Sch.read 4 (Sch.step 7 (Sch.step 8 Sch.done))) Sch.none)))))))

/-- A reader's cells. -/
def rcC (idr : Nat) (size : Int) (A J : List Int) (ta tj : Nat) : ABlk :=
  .cells 79 [.ptr idr 0, .sc (.int .i64 size), .lst 3 (A.map i64v) (.tok ta) (decide (A = [])), .lst 3 (J.map i64v) (.tok tj) (decide (J = []))]
theorem rcC_def (idr : Nat) (size : Int) (A J : List Int) (ta tj : Nat) : rcC idr size A J ta tj =
  .cells 79 [.ptr idr 0, .sc (.int .i64 size), .lst 3 (A.map i64v) (.tok ta) (decide (A = [])), .lst 3 (J.map i64v) (.tok tj) (decide (J = []))] := rfl
theorem seg1 {b : List UInt8} {a : Nat} (h : a < b.length) : numL (seg b a 1) = ((b.getD a 0).toNat : Int) := by
  have : seg b a (1 : Nat) = [b.getD a 0] := by
    rw [seg_sg]; exact (at_getD h).2
  have e : seg b a 1 = [b.getD a 0] := this
  rw [e]
  simp only [numL]; omega

section
variable (b : List UInt8) (a : Nat) (nl : Bool) (idr idx ta tj : Nat) (A J : List Int) (size : Int) (σ : AS)
  (h1 : σ idr = some (rdC b a nl)) (h2 : σ idx = some (rcC idr size A J ta tj)) (h3 : σ ta = some (.tok A.length)) (h4 : σ tj = some (.tok J.length))
  (hb : b.length ≤ 140737488355328) (hlt : a < b.length)
include h1 h2 hb hlt

theorem one_form (hop : ((b.getD a 0).toNat : Int) < 1 ∨ 75 < ((b.getD a 0).toNat : Int)) :
    ACalls Try.prog 41 [.ptr idx 0] σ (Gives (.tup [insV ⟨0, 0, noTy⟩, .sc (.int .i64 a), .sc (.int .i64 2)]) (σ.set idr (rdC b (a + 1) nl))) No := by
  have n_idr_idx : ¬ idr = idx := by rintro rfl; rw [h1] at h2; cases h2
  have n_idx_idr : ¬ idx = idr := fun e => n_idr_idx e.symm
  have hat := fun σ h => at_ok idr b a nl σ h
  have hn := fun σ h => num_ok idr b a 1 nl σ h (by omega) (by omega) hb (by decide) (by omega)
  rw [seg1 hlt] at hn
  have ho := fun σ => Of_ok (b.getD a 0).toNat σ
  have hoe : ofE ((b.getD a 0).toNat : Int) = 3 := by unfold ofE; rw [if_pos hop]
  rw [hoe] at ho
  generalize b.getD a 0 = c at *
  have hcb := c.toNat_lt
  have hw1 : IntKind.i64.wrap (c.toNat : Int) = c.toNat := in_i64 (by omega) (by omega)
  simp only [infV] at ho
  rw [rcC_def] at h2
  refine ACalls.of_body Try.func41 rfl rfl (by simp [Try.ntmps41]) ?_
  repeat (first
    | (with_reducible first | apply AWp.seq | apply AWp.block | refine And.intro (by first | omega | assumption | decide) ?_)
    | ((first | (with_reducible first | apply AWp.fork | apply AWp.region | show condK _ _ _ | show guardK _ _ _ _ _ _ _ _ _) | ((with_reducible apply AWp.drawS (id := 12) (t := sc_41_12_XCode9)); (exact mixed); kernel_rfl; kernel_rfl; (repeat (with_reducible first | apply PanQ.then | apply PanQ.block | apply PanQ.body | apply PanQ.no)))); simp -implicitDefEqProofs [n_idr_idx, n_idx_idr, h1, h2])
    | ((with_reducible first | apply AWp.ret | apply AWp.skip | apply AWp.exit); try simp -implicitDefEqProofs [n_idr_idx, n_idx_idr, h1, h2]))
  intro id h_id
  have n_idr_id : ¬ idr = id := by rintro rfl; rw [h1] at h_id; cases h_id
  have n_id_idr : ¬ id = idr := fun e => n_idr_id e.symm
  have n_idx_id : ¬ idx = id := by rintro rfl; rw [h2] at h_id; cases h_id
  have n_id_idx : ¬ id = idx := fun e => n_idx_id e.symm
  repeat (first
    | (with_reducible first | apply AWp.seq | apply AWp.block | refine And.intro (by first | omega | assumption | decide) ?_)
    | ((first | (with_reducible first | apply AWp.fork | apply AWp.region | show condK _ _ _ | show guardK _ _ _ _ _ _ _ _ _) | ((with_reducible apply AWp.drawS (id := 12) (t := sc_41_12_XCode9)); (exact mixed); kernel_rfl; kernel_rfl; (repeat (with_reducible first | apply PanQ.then | apply PanQ.block | apply PanQ.body | apply PanQ.no))) | ((with_reducible apply aCall.id); first | apply aCall.gives (hat _ (by simp [n_id_idr, n_idr_id, h1])) | apply aCall.gives (hn _ (by simp [n_id_idr, n_idr_id, h1])) | apply aCall.gives (ho _))); simp -implicitDefEqProofs [hw1, Try.underlying3, Try.underlying89, n_idr_idx, n_idx_idr, h1, h2, n_id_idr, n_idr_id, n_id_idx, n_idx_id])
    | ((with_reducible first | apply AWp.ret | apply AWp.skip | apply AWp.exit); try simp -implicitDefEqProofs [hw1, Try.underlying3, Try.underlying89, n_idr_idx, n_idx_idr, h1, h2, n_id_idr, n_idr_id, n_id_idx, n_idx_id]))
  intro id8 n_id8_idr n_id8_id h_id8
  have n_idr_id8 : ¬ idr = id8 := fun e => n_id8_idr e.symm
  have n_id_id8 : ¬ id = id8 := fun e => n_id8_id e.symm
  repeat (first
    | (with_reducible first | apply AWp.seq | apply AWp.block | refine And.intro (by first | omega | assumption | decide) ?_)
    | ((first | (with_reducible first | apply AWp.fork | apply AWp.region | show condK _ _ _ | show guardK _ _ _ _ _ _ _ _ _) | ((with_reducible apply AWp.drawS (id := 12) (t := sc_41_12_XCode9)); (exact mixed); kernel_rfl; kernel_rfl; (repeat (with_reducible first | apply PanQ.then | apply PanQ.block | apply PanQ.body | apply PanQ.no)))); simp -implicitDefEqProofs [n_idr_idx, n_idx_idr, h1, h2, n_id_idr, n_idr_id, n_id_idx, n_idx_id, n_id8_idr, n_idr_id8, n_id8_id, n_id_id8])
    | ((with_reducible first | apply AWp.ret | apply AWp.skip | apply AWp.exit); try simp -implicitDefEqProofs [n_idr_idx, n_idx_idr, h1, h2, n_id_idr, n_idr_id, n_id_idx, n_idx_id, n_id8_idr, n_idr_id8, n_id8_id, n_id_id8]))
  simp [insV, noTy]
  intro j_ y_ hy_; by_cases e1 : j_ = idr <;> by_cases e2 : j_ = id <;> by_cases e3 : j_ = id8 <;> simp_all [AS.set]

theorem one_short (hop : ¬ (((b.getD a 0).toNat : Int) < 1 ∨ 75 < ((b.getD a 0).toNat : Int))) (hs : b.length < a + 1 + (wdO (oO (b.getD a 0).toNat)).toNat) :
    ACalls Try.prog 41 [.ptr idx 0] σ (Gives (.tup [insV ⟨0, 0, noTy⟩, .sc (.int .i64 size), .sc (.int .i64 1)]) (σ.set idr (rdC b (a + 1) nl))) No := by
  have n_idr_idx : ¬ idr = idx := by rintro rfl; rw [h1] at h2; cases h2
  have n_idx_idr : ¬ idx = idr := fun e => n_idr_idx e.symm
  have hat := fun σ h => at_ok idr b a nl σ h
  have hn := fun σ h => num_ok idr b a 1 nl σ h (by omega) (by omega) hb (by decide) (by omega)
  rw [seg1 hlt] at hn
  have ho := fun σ => Of_ok (b.getD a 0).toNat σ
  have hoe : ofE ((b.getD a 0).toNat : Int) = 0 := by unfold ofE; rw [if_neg hop]
  rw [hoe] at ho
  generalize b.getD a 0 = c at *
  have hcb := c.toNat_lt
  have hw1 : IntKind.i64.wrap (c.toNat : Int) = c.toNat := in_i64 (by omega) (by omega)
  have hoo : (ofT (c.toNat : Int)).2.1 = oO c.toNat := rfl
  simp only [infV] at ho
  rw [hoo] at ho
  have hor := oO_range (c.toNat : Int)
  generalize oO (c.toNat : Int) = o at *
  have hwd := cwidth_ok o
  have hwr := wd_range o
  have hwide : wide (wdO o) = true := by
    have : o = 0 ∨ o = 1 ∨ o = 2 ∨ o = 3 ∨ o = 4 ∨ o = 5 ∨ o = 6 ∨ o = 7 ∨ o = 8 := by omega
    rcases this with rfl | rfl | rfl | rfl | rfl | rfl | rfl | rfl | rfl <;> first | rfl | (simp [wdO] at hs; omega)
  have hE : numE b (a + 1 : Nat) (wdO o) = 1 := by simp [numE, hwide]; omega
  have hn2 := fun σ h => num_bad idr b (a + 1 : Nat) (wdO o) nl σ h (by omega) (by omega) hb (by omega)
  rw [hE] at hn2
  have hpos : (0 < wdO o) = True := eq_true (by omega)
  rw [rcC_def] at h2
  refine ACalls.of_body Try.func41 rfl rfl (by simp [Try.ntmps41]) ?_
  repeat (first
    | (with_reducible first | apply AWp.seq | apply AWp.block | refine And.intro (by first | omega | assumption | decide) ?_)
    | ((first | (with_reducible first | apply AWp.fork | apply AWp.region | show condK _ _ _ | show guardK _ _ _ _ _ _ _ _ _) | ((with_reducible apply AWp.drawS (id := 12) (t := sc_41_12_XCode9)); (exact mixed); kernel_rfl; kernel_rfl; (repeat (with_reducible first | apply PanQ.then | apply PanQ.block | apply PanQ.body | apply PanQ.no)))); simp -implicitDefEqProofs [n_idr_idx, n_idx_idr, h1, h2])
    | ((with_reducible first | apply AWp.ret | apply AWp.skip | apply AWp.exit); try simp -implicitDefEqProofs [n_idr_idx, n_idx_idr, h1, h2]))
  intro id h_id
  have n_idr_id : ¬ idr = id := by rintro rfl; rw [h1] at h_id; cases h_id
  have n_id_idr : ¬ id = idr := fun e => n_idr_id e.symm
  have n_idx_id : ¬ idx = id := by rintro rfl; rw [h2] at h_id; cases h_id
  have n_id_idx : ¬ id = idx := fun e => n_idx_id e.symm
  repeat (first
    | (with_reducible first | apply AWp.seq | apply AWp.block | refine And.intro (by first | omega | assumption | decide) ?_)
    | ((first | (with_reducible first | apply AWp.fork | apply AWp.region | show condK _ _ _ | show guardK _ _ _ _ _ _ _ _ _) | ((with_reducible apply AWp.drawS (id := 12) (t := sc_41_12_XCode9)); (exact mixed); kernel_rfl; kernel_rfl; (repeat (with_reducible first | apply PanQ.then | apply PanQ.block | apply PanQ.body | apply PanQ.no))) | ((with_reducible apply aCall.id); first | apply aCall.gives (hat _ (by simp [n_id_idr, n_idr_id, h1])) | apply aCall.gives (hn _ (by simp [n_id_idr, n_idr_id, h1])) | apply aCall.gives (ho _))); simp -implicitDefEqProofs [hw1, Try.underlying3, Try.underlying89, n_idr_idx, n_idx_idr, h1, h2, n_id_idr, n_idr_id, n_id_idx, n_idx_id])
    | ((with_reducible first | apply AWp.ret | apply AWp.skip | apply AWp.exit); try simp -implicitDefEqProofs [hw1, Try.underlying3, Try.underlying89, n_idr_idx, n_idx_idr, h1, h2, n_id_idr, n_idr_id, n_id_idx, n_idx_id]))
  intro id8 n_id8_idr n_id8_id h_id8
  have n_idr_id8 : ¬ idr = id8 := fun e => n_id8_idr e.symm
  have n_id_id8 : ¬ id = id8 := fun e => n_id8_id e.symm
  have n_idx_id8 : ¬ idx = id8 := by rintro rfl; rw [h2] at h_id8; cases h_id8
  have n_id8_idx : ¬ id8 = idx := fun e => n_idx_id8 e.symm
  repeat (first
    | (with_reducible first | apply AWp.seq | apply AWp.block | refine And.intro (by first | omega | assumption | decide) ?_)
    | ((first | (with_reducible first | apply AWp.fork | apply AWp.region | show condK _ _ _ | show guardK _ _ _ _ _ _ _ _ _) | ((with_reducible apply AWp.drawS (id := 12) (t := sc_41_12_XCode9)); (exact mixed); kernel_rfl; kernel_rfl; (repeat (with_reducible first | apply PanQ.then | apply PanQ.block | apply PanQ.body | apply PanQ.no)))); simp -implicitDefEqProofs [hw1, Try.underlying3, Try.underlying89, n_idr_idx, n_idx_idr, h1, h2, n_id_idr, n_idr_id, n_id_idx, n_idx_id, n_id8_idr, n_idr_id8, n_id8_id, n_id_id8, n_id8_idx, n_idx_id8])
    | ((with_reducible first | apply AWp.ret | apply AWp.skip | apply AWp.exit); try simp -implicitDefEqProofs [hw1, Try.underlying3, Try.underlying89, n_idr_idx, n_idx_idr, h1, h2, n_id_idr, n_idr_id, n_id_idx, n_idx_id, n_id8_idr, n_idr_id8, n_id8_id, n_id_id8, n_id8_idx, n_idx_id8]))
  intro id10 n_id10_id8 n_id10_idr n_id10_id h_id10
  have n_id8_id10 : ¬ id8 = id10 := fun e => n_id10_id8 e.symm
  have n_idr_id10 : ¬ idr = id10 := fun e => n_id10_idr e.symm
  have n_id_id10 : ¬ id = id10 := fun e => n_id10_id e.symm
  have n_idx_id10 : ¬ idx = id10 := by rintro rfl; rw [h2] at h_id10; cases h_id10
  have n_id10_idx : ¬ id10 = idx := fun e => n_idx_id10 e.symm
  have hcast : ((a + 1 : Nat) : Int) = (a : Int) + 1 := by omega
  rw [hcast] at hn2
  repeat (first
    | (with_reducible first | apply AWp.seq | apply AWp.block | refine And.intro (by first | omega | assumption | decide) ?_)
    | ((first | (with_reducible first | apply AWp.fork | apply AWp.region | show condK _ _ _ | show guardK _ _ _ _ _ _ _ _ _) | ((with_reducible apply AWp.drawS (id := 12) (t := sc_41_12_XCode9)); (exact mixed); kernel_rfl; kernel_rfl; (repeat (with_reducible first | apply PanQ.then | apply PanQ.block | apply PanQ.body | apply PanQ.no))) | ((with_reducible apply aCall.id); first | apply aCall.gives (hwd _) | apply aCall.gives (hn2 _ (by simp [n_id_idr, n_idr_id, n_id8_idr, n_idr_id8, n_id10_idr, n_idr_id10, h1])))); simp -implicitDefEqProofs [hpos, n_idr_idx, n_idx_idr, h1, h2, n_id_idr, n_idr_id, n_id_idx, n_idx_id, n_id8_idr, n_idr_id8, n_id8_id, n_id_id8, n_id8_idx, n_idx_id8, n_id10_id8, n_id8_id10, n_id10_idr, n_idr_id10, n_id10_id, n_id_id10, n_id10_idx, n_idx_id10])
    | ((with_reducible first | apply AWp.ret | apply AWp.skip | apply AWp.exit); try simp -implicitDefEqProofs [hpos, n_idr_idx, n_idx_idr, h1, h2, n_id_idr, n_idr_id, n_id_idx, n_idx_id, n_id8_idr, n_idr_id8, n_id8_id, n_id_id8, n_id8_idx, n_idx_id8, n_id10_id8, n_id8_id10, n_id10_idr, n_idr_id10, n_id10_id, n_id_id10, n_id10_idx, n_idx_id10]))
  simp [insV, noTy]
  intro j_ y_ hy_; by_cases e1 : j_ = idr <;> by_cases e2 : j_ = id <;> by_cases e3 : j_ = id8 <;> by_cases e4 : j_ = id10 <;> simp_all [AS.set]

def argV (o V : Int) : Int := if o = 1 then sgn 4 V else if o = 2 then sgn 8 V else if o = 6 ∨ o = 7 then V - 1 else if o = 5 then 0 else V
include h3 h4
theorem one_run (n_ta_tj : ¬ ta = tj) (hA : A.length ≤ 1000) (hJ : J.length ≤ 1000) (op o V T : Int) (hopd : op = ((b.getD a 0).toNat : Int)) (ho0 : o = oO op) (hV0 : numL (seg b ((a : Int) + 1) (wdO o)) = V)
    (hT : T = if o = 5 then (a : Int) + 3 + sgn 2 V else 0) (hop : ¬ (op < 1 ∨ 75 < op)) (hs : (a : Int) + 1 + wdO o ≤ b.length) (rb : Bool) (hrb : rawB ⟨op, argD o V, noTy⟩ = rb) :
    ACalls Try.prog 41 [.ptr idx 0] σ (Gives (if rb then .tup [insV ⟨op, argD o V, noTy⟩, .sc (.int .i64 0), .sc (.int .i64 0)] else .tup [insV ⟨0, 0, noTy⟩, .sc (.int .i64 a), .sc (.int .i64 3)])
      (if rb then ((((σ.set idr (rdC b (a + 1 + wdO o) nl)).set idx (rcC idr size (A ++ [(a : Int)]) (J ++ [T]) ta tj)).set ta (.tok (A.length + 1))).set tj (.tok (J.length + 1))) else σ.set idr (rdC b (a + 1 + wdO o) nl))) No := by
  have n_idr_idx : ¬ idr = idx := by rintro rfl; rw [h1] at h2; cases h2
  have n_idx_idr : ¬ idx = idr := fun e => n_idr_idx e.symm
  have n_tj_ta : ¬ tj = ta := fun e => n_ta_tj e.symm
  have n_ta_idr : ¬ ta = idr := by rintro rfl; rw [h1] at h3; cases h3
  have n_tj_idr : ¬ tj = idr := by rintro rfl; rw [h1] at h4; cases h4
  have n_ta_idx : ¬ ta = idx := by rintro rfl; rw [h2] at h3; cases h3
  have n_tj_idx : ¬ tj = idx := by rintro rfl; rw [h2] at h4; cases h4
  have n_idr_ta : ¬ idr = ta := fun e => n_ta_idr e.symm
  have n_idr_tj : ¬ idr = tj := fun e => n_tj_idr e.symm
  have n_idx_ta : ¬ idx = ta := fun e => n_ta_idx e.symm
  have n_idx_tj : ¬ idx = tj := fun e => n_tj_idx e.symm
  have hat := fun x σ h => at_ok idr b x nl σ h
  have hn := fun σ h => num_ok idr b a 1 nl σ h (by omega) (by omega) hb (by decide) (by omega)
  rw [seg1 hlt, ← hopd] at hn
  have hcb : op < 256 := by rw [hopd]; have := (b.getD a 0).toNat_lt; omega
  clear hopd
  have hf := fun σ => Of_ok op σ
  have hoe : ofE op = 0 := by unfold ofE; rw [if_neg hop]
  rw [hoe] at hf
  have hw1 : IntKind.i64.wrap op = op := in_i64 (by omega) (by omega)
  have hoo : (ofT op).2.1 = oO op := rfl
  simp only [infV] at hf
  rw [hoo, ← ho0] at hf
  have hor := oO_range op
  rw [← ho0] at hor
  have hcr := fun σ => craw_ok ⟨op, argD o V, noTy⟩ σ
  simp only at hcr
  rw [hrb, ← ho0] at hcr
  have hwd := cwidth_ok o
  have hwr := wd_range o
  have hsl := seg_length b (a + 1) (wdO o) (by omega) (by omega) (by omega)
  have hV1 := numL_nonneg (seg b ((a : Int) + 1) (wdO o))
  have hV2 := numL_lt (seg b ((a : Int) + 1) (wdO o))
  rw [show (seg b ((a : Int) + 1) (wdO o)).length = (wdO o).toNat by omega] at hV2
  have hn2 : wide (wdO o) = true → _ := fun hw σ h => num_ok idr b (a + 1) (wdO o) nl σ h (by omega) (by omega) hb hw (by omega)
  rw [hV0] at hV1 hV2 hn2
  clear hrb ho0 hV0 hoo hoe
  rw [rcC_def] at h2
  have hoc : o = 0 ∨ o = 1 ∨ o = 2 ∨ o = 3 ∨ o = 4 ∨ o = 5 ∨ o = 6 ∨ o = 7 ∨ o = 8 := by omega
  rcases hoc with rfl | rfl | rfl | rfl | rfl | rfl | rfl | rfl | rfl
  · have hwd0 : wdO 0 = 0 := rfl
    simp only [hwd0] at hwd hs hn2 hV2 hwr ⊢
    have hz : V = 0 := by simp at hV2; omega
    have hT' : T = 0 := by simp [hT]
    subst hT'
    have hav : argD 0 V = 0 := by simp [argD, hz]
    rw [hav] at hcr ⊢
    simp only [insV, noTy] at hcr ⊢
    cases rb
    all_goals
      simp only [if_true, if_false, Bool.false_eq_true] at hcr ⊢
      refine ACalls.of_body Try.func41 rfl rfl (by simp [Try.ntmps41]) ?_
      repeat (first
        | (with_reducible first | apply AWp.seq | apply AWp.block | refine And.intro (by first | omega | assumption | decide) ?_)
        | ((first | (with_reducible first | apply AWp.fork | apply AWp.region | show condK _ _ _ | show guardK _ _ _ _ _ _ _ _ _) | ((with_reducible apply AWp.drawS (id := 12) (t := sc_41_12_XCode9)); (exact mixed); kernel_rfl; kernel_rfl; (repeat (with_reducible first | apply PanQ.then | apply PanQ.block | apply PanQ.body | apply PanQ.no)))); simp -implicitDefEqProofs [n_idr_idx, n_idx_idr, n_ta_tj, n_tj_ta, n_ta_idr, n_tj_idr, n_ta_idx, n_tj_idx, n_idr_ta, n_idr_tj, n_idx_ta, n_idx_tj, h1, h2, h3, h4])
        | ((with_reducible first | apply AWp.ret | apply AWp.skip | apply AWp.exit); try simp -implicitDefEqProofs [n_idr_idx, n_idx_idr, n_ta_tj, n_tj_ta, n_ta_idr, n_tj_idr, n_ta_idx, n_tj_idx, n_idr_ta, n_idr_tj, n_idx_ta, n_idx_tj, h1, h2, h3, h4]))
      intro id h_id
      have n_idr_id : ¬ idr = id := by rintro rfl; rw [h1] at h_id; cases h_id
      have n_id_idr : ¬ id = idr := fun e => n_idr_id e.symm
      have n_idx_id : ¬ idx = id := by rintro rfl; rw [h2] at h_id; cases h_id
      have n_id_idx : ¬ id = idx := fun e => n_idx_id e.symm
      have n_ta_id : ¬ ta = id := by rintro rfl; rw [h3] at h_id; cases h_id
      have n_id_ta : ¬ id = ta := fun e => n_ta_id e.symm
      have n_tj_id : ¬ tj = id := by rintro rfl; rw [h4] at h_id; cases h_id
      have n_id_tj : ¬ id = tj := fun e => n_tj_id e.symm
      repeat (first
        | (with_reducible first | apply AWp.seq | apply AWp.block | refine And.intro (by first | omega | assumption | decide) ?_)
        | ((first | (with_reducible first | apply AWp.fork | apply AWp.region | show condK _ _ _ | show guardK _ _ _ _ _ _ _ _ _) | ((with_reducible apply AWp.drawS (id := 12) (t := sc_41_12_XCode9)); (exact mixed); kernel_rfl; kernel_rfl; (repeat (with_reducible first | apply PanQ.then | apply PanQ.block | apply PanQ.body | apply PanQ.no))) | ((with_reducible apply aCall.id); first | apply aCall.gives (hat a _ (by simp [n_id_idr, n_idr_id, h1])) | apply aCall.gives (hn _ (by simp [n_id_idr, n_idr_id, h1])) | apply aCall.gives (hf _))); simp -implicitDefEqProofs [hw1, Try.underlying3, Try.underlying89, n_idr_idx, n_idx_idr, n_ta_tj, n_tj_ta, n_ta_idr, n_tj_idr, n_ta_idx, n_tj_idx, n_idr_ta, n_idr_tj, n_idx_ta, n_idx_tj, h1, h2, h3, h4, n_id_idr, n_idr_id, n_id_idx, n_idx_id, n_id_ta, n_ta_id, n_id_tj, n_tj_id])
        | ((with_reducible first | apply AWp.ret | apply AWp.skip | apply AWp.exit); try simp -implicitDefEqProofs [hw1, Try.underlying3, Try.underlying89, n_idr_idx, n_idx_idr, n_ta_tj, n_tj_ta, n_ta_idr, n_tj_idr, n_ta_idx, n_tj_idx, n_idr_ta, n_idr_tj, n_idx_ta, n_idx_tj, h1, h2, h3, h4, n_id_idr, n_idr_id, n_id_idx, n_idx_id, n_id_ta, n_ta_id, n_id_tj, n_tj_id]))
      intro id8 n_id8_idr n_id8_id h_id8
      have n_idr_id8 : ¬ idr = id8 := fun e => n_id8_idr e.symm
      have n_id_id8 : ¬ id = id8 := fun e => n_id8_id e.symm
      have n_idx_id8 : ¬ idx = id8 := by rintro rfl; rw [h2] at h_id8; cases h_id8
      have n_id8_idx : ¬ id8 = idx := fun e => n_idx_id8 e.symm
      have n_ta_id8 : ¬ ta = id8 := by rintro rfl; rw [h3] at h_id8; cases h_id8
      have n_id8_ta : ¬ id8 = ta := fun e => n_ta_id8 e.symm
      have n_tj_id8 : ¬ tj = id8 := by rintro rfl; rw [h4] at h_id8; cases h_id8
      have n_id8_tj : ¬ id8 = tj := fun e => n_tj_id8 e.symm
      repeat (first
        | (with_reducible first | apply AWp.seq | apply AWp.block | refine And.intro (by first | omega | assumption | decide) ?_)
        | ((first | (with_reducible first | apply AWp.fork | apply AWp.region | show condK _ _ _ | show guardK _ _ _ _ _ _ _ _ _) | ((with_reducible apply AWp.drawS (id := 12) (t := sc_41_12_XCode9)); (exact mixed); kernel_rfl; kernel_rfl; (repeat (with_reducible first | apply PanQ.then | apply PanQ.block | apply PanQ.body | apply PanQ.no)))); simp -implicitDefEqProofs [hw1, Try.underlying3, Try.underlying89, n_idr_idx, n_idx_idr, n_ta_tj, n_tj_ta, n_ta_idr, n_tj_idr, n_ta_idx, n_tj_idx, n_idr_ta, n_idr_tj, n_idx_ta, n_idx_tj, h1, h2, h3, h4, n_id_idr, n_idr_id, n_id_idx, n_idx_id, n_id_ta, n_ta_id, n_id_tj, n_tj_id, n_id8_idr, n_idr_id8, n_id8_id, n_id_id8, n_id8_idx, n_idx_id8, n_id8_ta, n_ta_id8, n_id8_tj, n_tj_id8])
        | ((with_reducible first | apply AWp.ret | apply AWp.skip | apply AWp.exit); try simp -implicitDefEqProofs [hw1, Try.underlying3, Try.underlying89, n_idr_idx, n_idx_idr, n_ta_tj, n_tj_ta, n_ta_idr, n_tj_idr, n_ta_idx, n_tj_idx, n_idr_ta, n_idr_tj, n_idx_ta, n_idx_tj, h1, h2, h3, h4, n_id_idr, n_idr_id, n_id_idx, n_idx_id, n_id_ta, n_ta_id, n_id_tj, n_tj_id, n_id8_idr, n_idr_id8, n_id8_id, n_id_id8, n_id8_idx, n_idx_id8, n_id8_ta, n_ta_id8, n_id8_tj, n_tj_id8]))
      intro id10 n_id10_id8 n_id10_idr n_id10_id h_id10
      have n_id8_id10 : ¬ id8 = id10 := fun e => n_id10_id8 e.symm
      have n_idr_id10 : ¬ idr = id10 := fun e => n_id10_idr e.symm
      have n_id_id10 : ¬ id = id10 := fun e => n_id10_id e.symm
      have n_idx_id10 : ¬ idx = id10 := by rintro rfl; rw [h2] at h_id10; cases h_id10
      have n_id10_idx : ¬ id10 = idx := fun e => n_idx_id10 e.symm
      have n_ta_id10 : ¬ ta = id10 := by rintro rfl; rw [h3] at h_id10; cases h_id10
      have n_id10_ta : ¬ id10 = ta := fun e => n_ta_id10 e.symm
      have n_tj_id10 : ¬ tj = id10 := by rintro rfl; rw [h4] at h_id10; cases h_id10
      have n_id10_tj : ¬ id10 = tj := fun e => n_tj_id10 e.symm
      repeat (first
        | (with_reducible first | apply AWp.seq | apply AWp.block | refine And.intro (by first | omega | assumption | decide) ?_)
        | ((first | (with_reducible first | apply AWp.fork | apply AWp.region | show condK _ _ _ | show guardK _ _ _ _ _ _ _ _ _) | ((with_reducible apply AWp.drawS (id := 12) (t := sc_41_12_XCode9)); (exact mixed); kernel_rfl; kernel_rfl; (repeat (with_reducible first | apply PanQ.then | apply PanQ.block | apply PanQ.body | apply PanQ.no))) | ((with_reducible apply aCall.id); first | apply aCall.gives (hwd _) | apply aCall.gives (hcr _))); simp -implicitDefEqProofs [hw1, h3, h4, Try.underlying3, Try.underlying89, Try.underlying2, n_idr_idx, n_idx_idr, n_ta_tj, n_tj_ta, n_ta_idr, n_tj_idr, n_ta_idx, n_tj_idx, n_idr_ta, n_idr_tj, n_idx_ta, n_idx_tj, h1, h2, h3, h4, n_id_idr, n_idr_id, n_id_idx, n_idx_id, n_id_ta, n_ta_id, n_id_tj, n_tj_id, n_id8_idr, n_idr_id8, n_id8_id, n_id_id8, n_id8_idx, n_idx_id8, n_id8_ta, n_ta_id8, n_id8_tj, n_tj_id8, n_id10_id8, n_id8_id10, n_id10_idr, n_idr_id10, n_id10_id, n_id_id10, n_id10_idx, n_idx_id10, n_id10_ta, n_ta_id10, n_id10_tj, n_tj_id10])
        | ((with_reducible first | apply AWp.ret | apply AWp.skip | apply AWp.exit); try simp -implicitDefEqProofs [hw1, h3, h4, Try.underlying3, Try.underlying89, Try.underlying2, n_idr_idx, n_idx_idr, n_ta_tj, n_tj_ta, n_ta_idr, n_tj_idr, n_ta_idx, n_tj_idx, n_idr_ta, n_idr_tj, n_idx_ta, n_idx_tj, h1, h2, h3, h4, n_id_idr, n_idr_id, n_id_idx, n_idx_id, n_id_ta, n_ta_id, n_id_tj, n_tj_id, n_id8_idr, n_idr_id8, n_id8_id, n_id_id8, n_id8_idx, n_idx_id8, n_id8_ta, n_ta_id8, n_id8_tj, n_tj_id8, n_id10_id8, n_id8_id10, n_id10_idr, n_idr_id10, n_id10_id, n_id_id10, n_id10_idx, n_idx_id10, n_id10_ta, n_ta_id10, n_id10_tj, n_tj_id10]))
      intro j_ y_ hy_
      by_cases e_idr : j_ = idr
      · subst e_idr; simp [AS.set, rcC_def, i64v_def, h_id, h_id8, h_id10, n_idr_idx, n_idx_idr, n_ta_tj, n_tj_ta, n_ta_idr, n_tj_idr, n_ta_idx, n_tj_idx, n_idr_ta, n_idr_tj, n_idx_ta, n_idx_tj, h1, h2, h3, h4, n_id_idr, n_idr_id, n_id_idx, n_idx_id, n_id_ta, n_ta_id, n_id_tj, n_tj_id, n_id8_idr, n_idr_id8, n_id8_id, n_id_id8, n_id8_idx, n_idx_id8, n_id8_ta, n_ta_id8, n_id8_tj, n_tj_id8, n_id10_id8, n_id8_id10, n_id10_idr, n_idr_id10, n_id10_id, n_id_id10, n_id10_idx, n_idx_id10, n_id10_ta, n_ta_id10, n_id10_tj, n_tj_id10] at hy_ ⊢; try first | exact hy_ | (cases hy_; done)
      by_cases e_id : j_ = id
      · subst e_id; simp [AS.set, rcC_def, i64v_def, h_id, h_id8, h_id10, n_idr_idx, n_idx_idr, n_ta_tj, n_tj_ta, n_ta_idr, n_tj_idr, n_ta_idx, n_tj_idx, n_idr_ta, n_idr_tj, n_idx_ta, n_idx_tj, h1, h2, h3, h4, n_id_idr, n_idr_id, n_id_idx, n_idx_id, n_id_ta, n_ta_id, n_id_tj, n_tj_id, n_id8_idr, n_idr_id8, n_id8_id, n_id_id8, n_id8_idx, n_idx_id8, n_id8_ta, n_ta_id8, n_id8_tj, n_tj_id8, n_id10_id8, n_id8_id10, n_id10_idr, n_idr_id10, n_id10_id, n_id_id10, n_id10_idx, n_idx_id10, n_id10_ta, n_ta_id10, n_id10_tj, n_tj_id10] at hy_ ⊢; try first | exact hy_ | (cases hy_; done)
      by_cases e_id8 : j_ = id8
      · subst e_id8; simp [AS.set, rcC_def, i64v_def, h_id, h_id8, h_id10, n_idr_idx, n_idx_idr, n_ta_tj, n_tj_ta, n_ta_idr, n_tj_idr, n_ta_idx, n_tj_idx, n_idr_ta, n_idr_tj, n_idx_ta, n_idx_tj, h1, h2, h3, h4, n_id_idr, n_idr_id, n_id_idx, n_idx_id, n_id_ta, n_ta_id, n_id_tj, n_tj_id, n_id8_idr, n_idr_id8, n_id8_id, n_id_id8, n_id8_idx, n_idx_id8, n_id8_ta, n_ta_id8, n_id8_tj, n_tj_id8, n_id10_id8, n_id8_id10, n_id10_idr, n_idr_id10, n_id10_id, n_id_id10, n_id10_idx, n_idx_id10, n_id10_ta, n_ta_id10, n_id10_tj, n_tj_id10] at hy_ ⊢; try first | exact hy_ | (cases hy_; done)
      by_cases e_id10 : j_ = id10
      · subst e_id10; simp [AS.set, rcC_def, i64v_def, h_id, h_id8, h_id10, n_idr_idx, n_idx_idr, n_ta_tj, n_tj_ta, n_ta_idr, n_tj_idr, n_ta_idx, n_tj_idx, n_idr_ta, n_idr_tj, n_idx_ta, n_idx_tj, h1, h2, h3, h4, n_id_idr, n_idr_id, n_id_idx, n_idx_id, n_id_ta, n_ta_id, n_id_tj, n_tj_id, n_id8_idr, n_idr_id8, n_id8_id, n_id_id8, n_id8_idx, n_idx_id8, n_id8_ta, n_ta_id8, n_id8_tj, n_tj_id8, n_id10_id8, n_id8_id10, n_id10_idr, n_idr_id10, n_id10_id, n_id_id10, n_id10_idx, n_idx_id10, n_id10_ta, n_ta_id10, n_id10_tj, n_tj_id10] at hy_ ⊢; try first | exact hy_ | (cases hy_; done)
      by_cases e_idx : j_ = idx
      · subst e_idx; simp [AS.set, rcC_def, i64v_def, h_id, h_id8, h_id10, n_idr_idx, n_idx_idr, n_ta_tj, n_tj_ta, n_ta_idr, n_tj_idr, n_ta_idx, n_tj_idx, n_idr_ta, n_idr_tj, n_idx_ta, n_idx_tj, h1, h2, h3, h4, n_id_idr, n_idr_id, n_id_idx, n_idx_id, n_id_ta, n_ta_id, n_id_tj, n_tj_id, n_id8_idr, n_idr_id8, n_id8_id, n_id_id8, n_id8_idx, n_idx_id8, n_id8_ta, n_ta_id8, n_id8_tj, n_tj_id8, n_id10_id8, n_id8_id10, n_id10_idr, n_idr_id10, n_id10_id, n_id_id10, n_id10_idx, n_idx_id10, n_id10_ta, n_ta_id10, n_id10_tj, n_tj_id10] at hy_ ⊢; try first | exact hy_ | (cases hy_; done)
      by_cases e_ta : j_ = ta
      · subst e_ta; simp [AS.set, rcC_def, i64v_def, h_id, h_id8, h_id10, n_idr_idx, n_idx_idr, n_ta_tj, n_tj_ta, n_ta_idr, n_tj_idr, n_ta_idx, n_tj_idx, n_idr_ta, n_idr_tj, n_idx_ta, n_idx_tj, h1, h2, h3, h4, n_id_idr, n_idr_id, n_id_idx, n_idx_id, n_id_ta, n_ta_id, n_id_tj, n_tj_id, n_id8_idr, n_idr_id8, n_id8_id, n_id_id8, n_id8_idx, n_idx_id8, n_id8_ta, n_ta_id8, n_id8_tj, n_tj_id8, n_id10_id8, n_id8_id10, n_id10_idr, n_idr_id10, n_id10_id, n_id_id10, n_id10_idx, n_idx_id10, n_id10_ta, n_ta_id10, n_id10_tj, n_tj_id10] at hy_ ⊢; try first | exact hy_ | (cases hy_; done)
      by_cases e_tj : j_ = tj
      · subst e_tj; simp [AS.set, rcC_def, i64v_def, h_id, h_id8, h_id10, n_idr_idx, n_idx_idr, n_ta_tj, n_tj_ta, n_ta_idr, n_tj_idr, n_ta_idx, n_tj_idx, n_idr_ta, n_idr_tj, n_idx_ta, n_idx_tj, h1, h2, h3, h4, n_id_idr, n_idr_id, n_id_idx, n_idx_id, n_id_ta, n_ta_id, n_id_tj, n_tj_id, n_id8_idr, n_idr_id8, n_id8_id, n_id_id8, n_id8_idx, n_idx_id8, n_id8_ta, n_ta_id8, n_id8_tj, n_tj_id8, n_id10_id8, n_id8_id10, n_id10_idr, n_idr_id10, n_id10_id, n_id_id10, n_id10_idx, n_idx_id10, n_id10_ta, n_ta_id10, n_id10_tj, n_tj_id10] at hy_ ⊢; try first | exact hy_ | (cases hy_; done)
      simp [AS.set, rcC_def, i64v_def, h_id, h_id8, h_id10, n_idr_idx, n_idx_idr, n_ta_tj, n_tj_ta, n_ta_idr, n_tj_idr, n_ta_idx, n_tj_idx, n_idr_ta, n_idr_tj, n_idx_ta, n_idx_tj, h1, h2, h3, h4, n_id_idr, n_idr_id, n_id_idx, n_idx_id, n_id_ta, n_ta_id, n_id_tj, n_tj_id, n_id8_idr, n_idr_id8, n_id8_id, n_id_id8, n_id8_idx, n_idx_id8, n_id8_ta, n_ta_id8, n_id8_tj, n_tj_id8, n_id10_id8, n_id8_id10, n_id10_idr, n_idr_id10, n_id10_id, n_id_id10, n_id10_idx, n_idx_id10, n_id10_ta, n_ta_id10, n_id10_tj, n_tj_id10, e_idr, e_id, e_id8, e_id10, e_idx, e_ta, e_tj] at hy_ ⊢; try exact hy_
  · have hwd1 : wdO 1 = 4 := rfl
    simp only [hwd1] at hwd hs hn2 hV2 hwr ⊢
    have hn2 := hn2 (by decide)
    have hT' : T = 0 := by simp [hT]
    subst hT'
    have hav : argD 1 V = sgn 4 V := by simp [argD]
    have hsg := fun σ => signed_ok V 4 (by omega) hV1 (by simpa using hV2) σ
    simp only [Int.reduceToNat] at hsg
    rw [hav] at hcr ⊢
    simp only [insV, noTy] at hcr ⊢
    cases rb
    all_goals
      simp only [if_true, if_false, Bool.false_eq_true] at hcr ⊢
      refine ACalls.of_body Try.func41 rfl rfl (by simp [Try.ntmps41]) ?_
      repeat (first
        | (with_reducible first | apply AWp.seq | apply AWp.block | refine And.intro (by first | omega | assumption | decide) ?_)
        | ((first | (with_reducible first | apply AWp.fork | apply AWp.region | show condK _ _ _ | show guardK _ _ _ _ _ _ _ _ _) | ((with_reducible apply AWp.drawS (id := 12) (t := sc_41_12_XCode9)); (exact mixed); kernel_rfl; kernel_rfl; (repeat (with_reducible first | apply PanQ.then | apply PanQ.block | apply PanQ.body | apply PanQ.no)))); simp -implicitDefEqProofs [n_idr_idx, n_idx_idr, n_ta_tj, n_tj_ta, n_ta_idr, n_tj_idr, n_ta_idx, n_tj_idx, n_idr_ta, n_idr_tj, n_idx_ta, n_idx_tj, h1, h2, h3, h4])
        | ((with_reducible first | apply AWp.ret | apply AWp.skip | apply AWp.exit); try simp -implicitDefEqProofs [n_idr_idx, n_idx_idr, n_ta_tj, n_tj_ta, n_ta_idr, n_tj_idr, n_ta_idx, n_tj_idx, n_idr_ta, n_idr_tj, n_idx_ta, n_idx_tj, h1, h2, h3, h4]))
      intro id h_id
      have n_idr_id : ¬ idr = id := by rintro rfl; rw [h1] at h_id; cases h_id
      have n_id_idr : ¬ id = idr := fun e => n_idr_id e.symm
      have n_idx_id : ¬ idx = id := by rintro rfl; rw [h2] at h_id; cases h_id
      have n_id_idx : ¬ id = idx := fun e => n_idx_id e.symm
      have n_ta_id : ¬ ta = id := by rintro rfl; rw [h3] at h_id; cases h_id
      have n_id_ta : ¬ id = ta := fun e => n_ta_id e.symm
      have n_tj_id : ¬ tj = id := by rintro rfl; rw [h4] at h_id; cases h_id
      have n_id_tj : ¬ id = tj := fun e => n_tj_id e.symm
      repeat (first
        | (with_reducible first | apply AWp.seq | apply AWp.block | refine And.intro (by first | omega | assumption | decide) ?_)
        | ((first | (with_reducible first | apply AWp.fork | apply AWp.region | show condK _ _ _ | show guardK _ _ _ _ _ _ _ _ _) | ((with_reducible apply AWp.drawS (id := 12) (t := sc_41_12_XCode9)); (exact mixed); kernel_rfl; kernel_rfl; (repeat (with_reducible first | apply PanQ.then | apply PanQ.block | apply PanQ.body | apply PanQ.no))) | ((with_reducible apply aCall.id); first | apply aCall.gives (hat a _ (by simp [n_id_idr, n_idr_id, h1])) | apply aCall.gives (hn _ (by simp [n_id_idr, n_idr_id, h1])) | apply aCall.gives (hf _))); simp -implicitDefEqProofs [hw1, Try.underlying3, Try.underlying89, n_idr_idx, n_idx_idr, n_ta_tj, n_tj_ta, n_ta_idr, n_tj_idr, n_ta_idx, n_tj_idx, n_idr_ta, n_idr_tj, n_idx_ta, n_idx_tj, h1, h2, h3, h4, n_id_idr, n_idr_id, n_id_idx, n_idx_id, n_id_ta, n_ta_id, n_id_tj, n_tj_id])
        | ((with_reducible first | apply AWp.ret | apply AWp.skip | apply AWp.exit); try simp -implicitDefEqProofs [hw1, Try.underlying3, Try.underlying89, n_idr_idx, n_idx_idr, n_ta_tj, n_tj_ta, n_ta_idr, n_tj_idr, n_ta_idx, n_tj_idx, n_idr_ta, n_idr_tj, n_idx_ta, n_idx_tj, h1, h2, h3, h4, n_id_idr, n_idr_id, n_id_idx, n_idx_id, n_id_ta, n_ta_id, n_id_tj, n_tj_id]))
      intro id8 n_id8_idr n_id8_id h_id8
      have n_idr_id8 : ¬ idr = id8 := fun e => n_id8_idr e.symm
      have n_id_id8 : ¬ id = id8 := fun e => n_id8_id e.symm
      have n_idx_id8 : ¬ idx = id8 := by rintro rfl; rw [h2] at h_id8; cases h_id8
      have n_id8_idx : ¬ id8 = idx := fun e => n_idx_id8 e.symm
      have n_ta_id8 : ¬ ta = id8 := by rintro rfl; rw [h3] at h_id8; cases h_id8
      have n_id8_ta : ¬ id8 = ta := fun e => n_ta_id8 e.symm
      have n_tj_id8 : ¬ tj = id8 := by rintro rfl; rw [h4] at h_id8; cases h_id8
      have n_id8_tj : ¬ id8 = tj := fun e => n_tj_id8 e.symm
      repeat (first
        | (with_reducible first | apply AWp.seq | apply AWp.block | refine And.intro (by first | omega | assumption | decide) ?_)
        | ((first | (with_reducible first | apply AWp.fork | apply AWp.region | show condK _ _ _ | show guardK _ _ _ _ _ _ _ _ _) | ((with_reducible apply AWp.drawS (id := 12) (t := sc_41_12_XCode9)); (exact mixed); kernel_rfl; kernel_rfl; (repeat (with_reducible first | apply PanQ.then | apply PanQ.block | apply PanQ.body | apply PanQ.no)))); simp -implicitDefEqProofs [hw1, Try.underlying3, Try.underlying89, n_idr_idx, n_idx_idr, n_ta_tj, n_tj_ta, n_ta_idr, n_tj_idr, n_ta_idx, n_tj_idx, n_idr_ta, n_idr_tj, n_idx_ta, n_idx_tj, h1, h2, h3, h4, n_id_idr, n_idr_id, n_id_idx, n_idx_id, n_id_ta, n_ta_id, n_id_tj, n_tj_id, n_id8_idr, n_idr_id8, n_id8_id, n_id_id8, n_id8_idx, n_idx_id8, n_id8_ta, n_ta_id8, n_id8_tj, n_tj_id8])
        | ((with_reducible first | apply AWp.ret | apply AWp.skip | apply AWp.exit); try simp -implicitDefEqProofs [hw1, Try.underlying3, Try.underlying89, n_idr_idx, n_idx_idr, n_ta_tj, n_tj_ta, n_ta_idr, n_tj_idr, n_ta_idx, n_tj_idx, n_idr_ta, n_idr_tj, n_idx_ta, n_idx_tj, h1, h2, h3, h4, n_id_idr, n_idr_id, n_id_idx, n_idx_id, n_id_ta, n_ta_id, n_id_tj, n_tj_id, n_id8_idr, n_idr_id8, n_id8_id, n_id_id8, n_id8_idx, n_idx_id8, n_id8_ta, n_ta_id8, n_id8_tj, n_tj_id8]))
      intro id10 n_id10_id8 n_id10_idr n_id10_id h_id10
      have n_id8_id10 : ¬ id8 = id10 := fun e => n_id10_id8 e.symm
      have n_idr_id10 : ¬ idr = id10 := fun e => n_id10_idr e.symm
      have n_id_id10 : ¬ id = id10 := fun e => n_id10_id e.symm
      have n_idx_id10 : ¬ idx = id10 := by rintro rfl; rw [h2] at h_id10; cases h_id10
      have n_id10_idx : ¬ id10 = idx := fun e => n_idx_id10 e.symm
      have n_ta_id10 : ¬ ta = id10 := by rintro rfl; rw [h3] at h_id10; cases h_id10
      have n_id10_ta : ¬ id10 = ta := fun e => n_ta_id10 e.symm
      have n_tj_id10 : ¬ tj = id10 := by rintro rfl; rw [h4] at h_id10; cases h_id10
      have n_id10_tj : ¬ id10 = tj := fun e => n_tj_id10 e.symm
      repeat (first
        | (with_reducible first | apply AWp.seq | apply AWp.block | refine And.intro (by first | omega | assumption | decide) ?_)
        | ((first | (with_reducible first | apply AWp.fork | apply AWp.region | show condK _ _ _ | show guardK _ _ _ _ _ _ _ _ _) | ((with_reducible apply AWp.drawS (id := 12) (t := sc_41_12_XCode9)); (exact mixed); kernel_rfl; kernel_rfl; (repeat (with_reducible first | apply PanQ.then | apply PanQ.block | apply PanQ.body | apply PanQ.no))) | ((with_reducible apply aCall.id); first | apply aCall.gives (hwd _) | apply aCall.gives (hcr _) | apply aCall.gives (hn2 _ (by simp [n_id_idr, n_idr_id, n_id8_idr, n_idr_id8, n_id10_idr, n_idr_id10, h1])) | apply aCall.gives (hsg _))); simp -implicitDefEqProofs [hw1, h3, h4, Try.underlying3, Try.underlying89, Try.underlying2, n_idr_idx, n_idx_idr, n_ta_tj, n_tj_ta, n_ta_idr, n_tj_idr, n_ta_idx, n_tj_idx, n_idr_ta, n_idr_tj, n_idx_ta, n_idx_tj, h1, h2, h3, h4, n_id_idr, n_idr_id, n_id_idx, n_idx_id, n_id_ta, n_ta_id, n_id_tj, n_tj_id, n_id8_idr, n_idr_id8, n_id8_id, n_id_id8, n_id8_idx, n_idx_id8, n_id8_ta, n_ta_id8, n_id8_tj, n_tj_id8, n_id10_id8, n_id8_id10, n_id10_idr, n_idr_id10, n_id10_id, n_id_id10, n_id10_idx, n_idx_id10, n_id10_ta, n_ta_id10, n_id10_tj, n_tj_id10])
        | ((with_reducible first | apply AWp.ret | apply AWp.skip | apply AWp.exit); try simp -implicitDefEqProofs [hw1, h3, h4, Try.underlying3, Try.underlying89, Try.underlying2, n_idr_idx, n_idx_idr, n_ta_tj, n_tj_ta, n_ta_idr, n_tj_idr, n_ta_idx, n_tj_idx, n_idr_ta, n_idr_tj, n_idx_ta, n_idx_tj, h1, h2, h3, h4, n_id_idr, n_idr_id, n_id_idx, n_idx_id, n_id_ta, n_ta_id, n_id_tj, n_tj_id, n_id8_idr, n_idr_id8, n_id8_id, n_id_id8, n_id8_idx, n_idx_id8, n_id8_ta, n_ta_id8, n_id8_tj, n_tj_id8, n_id10_id8, n_id8_id10, n_id10_idr, n_idr_id10, n_id10_id, n_id_id10, n_id10_idx, n_idx_id10, n_id10_ta, n_ta_id10, n_id10_tj, n_tj_id10]))
      intro j_ y_ hy_
      by_cases e_idr : j_ = idr
      · subst e_idr; simp [AS.set, rcC_def, i64v_def, h_id, h_id8, h_id10, n_idr_idx, n_idx_idr, n_ta_tj, n_tj_ta, n_ta_idr, n_tj_idr, n_ta_idx, n_tj_idx, n_idr_ta, n_idr_tj, n_idx_ta, n_idx_tj, h1, h2, h3, h4, n_id_idr, n_idr_id, n_id_idx, n_idx_id, n_id_ta, n_ta_id, n_id_tj, n_tj_id, n_id8_idr, n_idr_id8, n_id8_id, n_id_id8, n_id8_idx, n_idx_id8, n_id8_ta, n_ta_id8, n_id8_tj, n_tj_id8, n_id10_id8, n_id8_id10, n_id10_idr, n_idr_id10, n_id10_id, n_id_id10, n_id10_idx, n_idx_id10, n_id10_ta, n_ta_id10, n_id10_tj, n_tj_id10] at hy_ ⊢; try first | exact hy_ | (cases hy_; done)
      by_cases e_id : j_ = id
      · subst e_id; simp [AS.set, rcC_def, i64v_def, h_id, h_id8, h_id10, n_idr_idx, n_idx_idr, n_ta_tj, n_tj_ta, n_ta_idr, n_tj_idr, n_ta_idx, n_tj_idx, n_idr_ta, n_idr_tj, n_idx_ta, n_idx_tj, h1, h2, h3, h4, n_id_idr, n_idr_id, n_id_idx, n_idx_id, n_id_ta, n_ta_id, n_id_tj, n_tj_id, n_id8_idr, n_idr_id8, n_id8_id, n_id_id8, n_id8_idx, n_idx_id8, n_id8_ta, n_ta_id8, n_id8_tj, n_tj_id8, n_id10_id8, n_id8_id10, n_id10_idr, n_idr_id10, n_id10_id, n_id_id10, n_id10_idx, n_idx_id10, n_id10_ta, n_ta_id10, n_id10_tj, n_tj_id10] at hy_ ⊢; try first | exact hy_ | (cases hy_; done)
      by_cases e_id8 : j_ = id8
      · subst e_id8; simp [AS.set, rcC_def, i64v_def, h_id, h_id8, h_id10, n_idr_idx, n_idx_idr, n_ta_tj, n_tj_ta, n_ta_idr, n_tj_idr, n_ta_idx, n_tj_idx, n_idr_ta, n_idr_tj, n_idx_ta, n_idx_tj, h1, h2, h3, h4, n_id_idr, n_idr_id, n_id_idx, n_idx_id, n_id_ta, n_ta_id, n_id_tj, n_tj_id, n_id8_idr, n_idr_id8, n_id8_id, n_id_id8, n_id8_idx, n_idx_id8, n_id8_ta, n_ta_id8, n_id8_tj, n_tj_id8, n_id10_id8, n_id8_id10, n_id10_idr, n_idr_id10, n_id10_id, n_id_id10, n_id10_idx, n_idx_id10, n_id10_ta, n_ta_id10, n_id10_tj, n_tj_id10] at hy_ ⊢; try first | exact hy_ | (cases hy_; done)
      by_cases e_id10 : j_ = id10
      · subst e_id10; simp [AS.set, rcC_def, i64v_def, h_id, h_id8, h_id10, n_idr_idx, n_idx_idr, n_ta_tj, n_tj_ta, n_ta_idr, n_tj_idr, n_ta_idx, n_tj_idx, n_idr_ta, n_idr_tj, n_idx_ta, n_idx_tj, h1, h2, h3, h4, n_id_idr, n_idr_id, n_id_idx, n_idx_id, n_id_ta, n_ta_id, n_id_tj, n_tj_id, n_id8_idr, n_idr_id8, n_id8_id, n_id_id8, n_id8_idx, n_idx_id8, n_id8_ta, n_ta_id8, n_id8_tj, n_tj_id8, n_id10_id8, n_id8_id10, n_id10_idr, n_idr_id10, n_id10_id, n_id_id10, n_id10_idx, n_idx_id10, n_id10_ta, n_ta_id10, n_id10_tj, n_tj_id10] at hy_ ⊢; try first | exact hy_ | (cases hy_; done)
      by_cases e_idx : j_ = idx
      · subst e_idx; simp [AS.set, rcC_def, i64v_def, h_id, h_id8, h_id10, n_idr_idx, n_idx_idr, n_ta_tj, n_tj_ta, n_ta_idr, n_tj_idr, n_ta_idx, n_tj_idx, n_idr_ta, n_idr_tj, n_idx_ta, n_idx_tj, h1, h2, h3, h4, n_id_idr, n_idr_id, n_id_idx, n_idx_id, n_id_ta, n_ta_id, n_id_tj, n_tj_id, n_id8_idr, n_idr_id8, n_id8_id, n_id_id8, n_id8_idx, n_idx_id8, n_id8_ta, n_ta_id8, n_id8_tj, n_tj_id8, n_id10_id8, n_id8_id10, n_id10_idr, n_idr_id10, n_id10_id, n_id_id10, n_id10_idx, n_idx_id10, n_id10_ta, n_ta_id10, n_id10_tj, n_tj_id10] at hy_ ⊢; try first | exact hy_ | (cases hy_; done)
      by_cases e_ta : j_ = ta
      · subst e_ta; simp [AS.set, rcC_def, i64v_def, h_id, h_id8, h_id10, n_idr_idx, n_idx_idr, n_ta_tj, n_tj_ta, n_ta_idr, n_tj_idr, n_ta_idx, n_tj_idx, n_idr_ta, n_idr_tj, n_idx_ta, n_idx_tj, h1, h2, h3, h4, n_id_idr, n_idr_id, n_id_idx, n_idx_id, n_id_ta, n_ta_id, n_id_tj, n_tj_id, n_id8_idr, n_idr_id8, n_id8_id, n_id_id8, n_id8_idx, n_idx_id8, n_id8_ta, n_ta_id8, n_id8_tj, n_tj_id8, n_id10_id8, n_id8_id10, n_id10_idr, n_idr_id10, n_id10_id, n_id_id10, n_id10_idx, n_idx_id10, n_id10_ta, n_ta_id10, n_id10_tj, n_tj_id10] at hy_ ⊢; try first | exact hy_ | (cases hy_; done)
      by_cases e_tj : j_ = tj
      · subst e_tj; simp [AS.set, rcC_def, i64v_def, h_id, h_id8, h_id10, n_idr_idx, n_idx_idr, n_ta_tj, n_tj_ta, n_ta_idr, n_tj_idr, n_ta_idx, n_tj_idx, n_idr_ta, n_idr_tj, n_idx_ta, n_idx_tj, h1, h2, h3, h4, n_id_idr, n_idr_id, n_id_idx, n_idx_id, n_id_ta, n_ta_id, n_id_tj, n_tj_id, n_id8_idr, n_idr_id8, n_id8_id, n_id_id8, n_id8_idx, n_idx_id8, n_id8_ta, n_ta_id8, n_id8_tj, n_tj_id8, n_id10_id8, n_id8_id10, n_id10_idr, n_idr_id10, n_id10_id, n_id_id10, n_id10_idx, n_idx_id10, n_id10_ta, n_ta_id10, n_id10_tj, n_tj_id10] at hy_ ⊢; try first | exact hy_ | (cases hy_; done)
      simp [AS.set, rcC_def, i64v_def, h_id, h_id8, h_id10, n_idr_idx, n_idx_idr, n_ta_tj, n_tj_ta, n_ta_idr, n_tj_idr, n_ta_idx, n_tj_idx, n_idr_ta, n_idr_tj, n_idx_ta, n_idx_tj, h1, h2, h3, h4, n_id_idr, n_idr_id, n_id_idx, n_idx_id, n_id_ta, n_ta_id, n_id_tj, n_tj_id, n_id8_idr, n_idr_id8, n_id8_id, n_id_id8, n_id8_idx, n_idx_id8, n_id8_ta, n_ta_id8, n_id8_tj, n_tj_id8, n_id10_id8, n_id8_id10, n_id10_idr, n_idr_id10, n_id10_id, n_id_id10, n_id10_idx, n_idx_id10, n_id10_ta, n_ta_id10, n_id10_tj, n_tj_id10, e_idr, e_id, e_id8, e_id10, e_idx, e_ta, e_tj] at hy_ ⊢; try exact hy_
  · have hwd2 : wdO 2 = 8 := rfl
    simp only [hwd2] at hwd hs hn2 hV2 hwr ⊢
    have hn2 := hn2 (by decide)
    have hT' : T = 0 := by simp [hT]
    subst hT'
    have hav : argD 2 V = sgn 8 V := by simp [argD]
    have hsg := fun σ => signed_ok V 8 (by omega) hV1 (by simpa using hV2) σ
    simp only [Int.reduceToNat] at hsg
    rw [hav] at hcr ⊢
    simp only [insV, noTy] at hcr ⊢
    cases rb
    all_goals
      simp only [if_true, if_false, Bool.false_eq_true] at hcr ⊢
      refine ACalls.of_body Try.func41 rfl rfl (by simp [Try.ntmps41]) ?_
      repeat (first
        | (with_reducible first | apply AWp.seq | apply AWp.block | refine And.intro (by first | omega | assumption | decide) ?_)
        | ((first | (with_reducible first | apply AWp.fork | apply AWp.region | show condK _ _ _ | show guardK _ _ _ _ _ _ _ _ _) | ((with_reducible apply AWp.drawS (id := 12) (t := sc_41_12_XCode9)); (exact mixed); kernel_rfl; kernel_rfl; (repeat (with_reducible first | apply PanQ.then | apply PanQ.block | apply PanQ.body | apply PanQ.no)))); simp -implicitDefEqProofs [n_idr_idx, n_idx_idr, n_ta_tj, n_tj_ta, n_ta_idr, n_tj_idr, n_ta_idx, n_tj_idx, n_idr_ta, n_idr_tj, n_idx_ta, n_idx_tj, h1, h2, h3, h4])
        | ((with_reducible first | apply AWp.ret | apply AWp.skip | apply AWp.exit); try simp -implicitDefEqProofs [n_idr_idx, n_idx_idr, n_ta_tj, n_tj_ta, n_ta_idr, n_tj_idr, n_ta_idx, n_tj_idx, n_idr_ta, n_idr_tj, n_idx_ta, n_idx_tj, h1, h2, h3, h4]))
      intro id h_id
      have n_idr_id : ¬ idr = id := by rintro rfl; rw [h1] at h_id; cases h_id
      have n_id_idr : ¬ id = idr := fun e => n_idr_id e.symm
      have n_idx_id : ¬ idx = id := by rintro rfl; rw [h2] at h_id; cases h_id
      have n_id_idx : ¬ id = idx := fun e => n_idx_id e.symm
      have n_ta_id : ¬ ta = id := by rintro rfl; rw [h3] at h_id; cases h_id
      have n_id_ta : ¬ id = ta := fun e => n_ta_id e.symm
      have n_tj_id : ¬ tj = id := by rintro rfl; rw [h4] at h_id; cases h_id
      have n_id_tj : ¬ id = tj := fun e => n_tj_id e.symm
      repeat (first
        | (with_reducible first | apply AWp.seq | apply AWp.block | refine And.intro (by first | omega | assumption | decide) ?_)
        | ((first | (with_reducible first | apply AWp.fork | apply AWp.region | show condK _ _ _ | show guardK _ _ _ _ _ _ _ _ _) | ((with_reducible apply AWp.drawS (id := 12) (t := sc_41_12_XCode9)); (exact mixed); kernel_rfl; kernel_rfl; (repeat (with_reducible first | apply PanQ.then | apply PanQ.block | apply PanQ.body | apply PanQ.no))) | ((with_reducible apply aCall.id); first | apply aCall.gives (hat a _ (by simp [n_id_idr, n_idr_id, h1])) | apply aCall.gives (hn _ (by simp [n_id_idr, n_idr_id, h1])) | apply aCall.gives (hf _))); simp -implicitDefEqProofs [hw1, Try.underlying3, Try.underlying89, n_idr_idx, n_idx_idr, n_ta_tj, n_tj_ta, n_ta_idr, n_tj_idr, n_ta_idx, n_tj_idx, n_idr_ta, n_idr_tj, n_idx_ta, n_idx_tj, h1, h2, h3, h4, n_id_idr, n_idr_id, n_id_idx, n_idx_id, n_id_ta, n_ta_id, n_id_tj, n_tj_id])
        | ((with_reducible first | apply AWp.ret | apply AWp.skip | apply AWp.exit); try simp -implicitDefEqProofs [hw1, Try.underlying3, Try.underlying89, n_idr_idx, n_idx_idr, n_ta_tj, n_tj_ta, n_ta_idr, n_tj_idr, n_ta_idx, n_tj_idx, n_idr_ta, n_idr_tj, n_idx_ta, n_idx_tj, h1, h2, h3, h4, n_id_idr, n_idr_id, n_id_idx, n_idx_id, n_id_ta, n_ta_id, n_id_tj, n_tj_id]))
      intro id8 n_id8_idr n_id8_id h_id8
      have n_idr_id8 : ¬ idr = id8 := fun e => n_id8_idr e.symm
      have n_id_id8 : ¬ id = id8 := fun e => n_id8_id e.symm
      have n_idx_id8 : ¬ idx = id8 := by rintro rfl; rw [h2] at h_id8; cases h_id8
      have n_id8_idx : ¬ id8 = idx := fun e => n_idx_id8 e.symm
      have n_ta_id8 : ¬ ta = id8 := by rintro rfl; rw [h3] at h_id8; cases h_id8
      have n_id8_ta : ¬ id8 = ta := fun e => n_ta_id8 e.symm
      have n_tj_id8 : ¬ tj = id8 := by rintro rfl; rw [h4] at h_id8; cases h_id8
      have n_id8_tj : ¬ id8 = tj := fun e => n_tj_id8 e.symm
      repeat (first
        | (with_reducible first | apply AWp.seq | apply AWp.block | refine And.intro (by first | omega | assumption | decide) ?_)
        | ((first | (with_reducible first | apply AWp.fork | apply AWp.region | show condK _ _ _ | show guardK _ _ _ _ _ _ _ _ _) | ((with_reducible apply AWp.drawS (id := 12) (t := sc_41_12_XCode9)); (exact mixed); kernel_rfl; kernel_rfl; (repeat (with_reducible first | apply PanQ.then | apply PanQ.block | apply PanQ.body | apply PanQ.no)))); simp -implicitDefEqProofs [hw1, Try.underlying3, Try.underlying89, n_idr_idx, n_idx_idr, n_ta_tj, n_tj_ta, n_ta_idr, n_tj_idr, n_ta_idx, n_tj_idx, n_idr_ta, n_idr_tj, n_idx_ta, n_idx_tj, h1, h2, h3, h4, n_id_idr, n_idr_id, n_id_idx, n_idx_id, n_id_ta, n_ta_id, n_id_tj, n_tj_id, n_id8_idr, n_idr_id8, n_id8_id, n_id_id8, n_id8_idx, n_idx_id8, n_id8_ta, n_ta_id8, n_id8_tj, n_tj_id8])
        | ((with_reducible first | apply AWp.ret | apply AWp.skip | apply AWp.exit); try simp -implicitDefEqProofs [hw1, Try.underlying3, Try.underlying89, n_idr_idx, n_idx_idr, n_ta_tj, n_tj_ta, n_ta_idr, n_tj_idr, n_ta_idx, n_tj_idx, n_idr_ta, n_idr_tj, n_idx_ta, n_idx_tj, h1, h2, h3, h4, n_id_idr, n_idr_id, n_id_idx, n_idx_id, n_id_ta, n_ta_id, n_id_tj, n_tj_id, n_id8_idr, n_idr_id8, n_id8_id, n_id_id8, n_id8_idx, n_idx_id8, n_id8_ta, n_ta_id8, n_id8_tj, n_tj_id8]))
      intro id10 n_id10_id8 n_id10_idr n_id10_id h_id10
      have n_id8_id10 : ¬ id8 = id10 := fun e => n_id10_id8 e.symm
      have n_idr_id10 : ¬ idr = id10 := fun e => n_id10_idr e.symm
      have n_id_id10 : ¬ id = id10 := fun e => n_id10_id e.symm
      have n_idx_id10 : ¬ idx = id10 := by rintro rfl; rw [h2] at h_id10; cases h_id10
      have n_id10_idx : ¬ id10 = idx := fun e => n_idx_id10 e.symm
      have n_ta_id10 : ¬ ta = id10 := by rintro rfl; rw [h3] at h_id10; cases h_id10
      have n_id10_ta : ¬ id10 = ta := fun e => n_ta_id10 e.symm
      have n_tj_id10 : ¬ tj = id10 := by rintro rfl; rw [h4] at h_id10; cases h_id10
      have n_id10_tj : ¬ id10 = tj := fun e => n_tj_id10 e.symm
      repeat (first
        | (with_reducible first | apply AWp.seq | apply AWp.block | refine And.intro (by first | omega | assumption | decide) ?_)
        | ((first | (with_reducible first | apply AWp.fork | apply AWp.region | show condK _ _ _ | show guardK _ _ _ _ _ _ _ _ _) | ((with_reducible apply AWp.drawS (id := 12) (t := sc_41_12_XCode9)); (exact mixed); kernel_rfl; kernel_rfl; (repeat (with_reducible first | apply PanQ.then | apply PanQ.block | apply PanQ.body | apply PanQ.no))) | ((with_reducible apply aCall.id); first | apply aCall.gives (hwd _) | apply aCall.gives (hcr _) | apply aCall.gives (hn2 _ (by simp [n_id_idr, n_idr_id, n_id8_idr, n_idr_id8, n_id10_idr, n_idr_id10, h1])) | apply aCall.gives (hsg _))); simp -implicitDefEqProofs [hw1, h3, h4, Try.underlying3, Try.underlying89, Try.underlying2, n_idr_idx, n_idx_idr, n_ta_tj, n_tj_ta, n_ta_idr, n_tj_idr, n_ta_idx, n_tj_idx, n_idr_ta, n_idr_tj, n_idx_ta, n_idx_tj, h1, h2, h3, h4, n_id_idr, n_idr_id, n_id_idx, n_idx_id, n_id_ta, n_ta_id, n_id_tj, n_tj_id, n_id8_idr, n_idr_id8, n_id8_id, n_id_id8, n_id8_idx, n_idx_id8, n_id8_ta, n_ta_id8, n_id8_tj, n_tj_id8, n_id10_id8, n_id8_id10, n_id10_idr, n_idr_id10, n_id10_id, n_id_id10, n_id10_idx, n_idx_id10, n_id10_ta, n_ta_id10, n_id10_tj, n_tj_id10])
        | ((with_reducible first | apply AWp.ret | apply AWp.skip | apply AWp.exit); try simp -implicitDefEqProofs [hw1, h3, h4, Try.underlying3, Try.underlying89, Try.underlying2, n_idr_idx, n_idx_idr, n_ta_tj, n_tj_ta, n_ta_idr, n_tj_idr, n_ta_idx, n_tj_idx, n_idr_ta, n_idr_tj, n_idx_ta, n_idx_tj, h1, h2, h3, h4, n_id_idr, n_idr_id, n_id_idx, n_idx_id, n_id_ta, n_ta_id, n_id_tj, n_tj_id, n_id8_idr, n_idr_id8, n_id8_id, n_id_id8, n_id8_idx, n_idx_id8, n_id8_ta, n_ta_id8, n_id8_tj, n_tj_id8, n_id10_id8, n_id8_id10, n_id10_idr, n_idr_id10, n_id10_id, n_id_id10, n_id10_idx, n_idx_id10, n_id10_ta, n_ta_id10, n_id10_tj, n_tj_id10]))
      intro j_ y_ hy_
      by_cases e_idr : j_ = idr
      · subst e_idr; simp [AS.set, rcC_def, i64v_def, h_id, h_id8, h_id10, n_idr_idx, n_idx_idr, n_ta_tj, n_tj_ta, n_ta_idr, n_tj_idr, n_ta_idx, n_tj_idx, n_idr_ta, n_idr_tj, n_idx_ta, n_idx_tj, h1, h2, h3, h4, n_id_idr, n_idr_id, n_id_idx, n_idx_id, n_id_ta, n_ta_id, n_id_tj, n_tj_id, n_id8_idr, n_idr_id8, n_id8_id, n_id_id8, n_id8_idx, n_idx_id8, n_id8_ta, n_ta_id8, n_id8_tj, n_tj_id8, n_id10_id8, n_id8_id10, n_id10_idr, n_idr_id10, n_id10_id, n_id_id10, n_id10_idx, n_idx_id10, n_id10_ta, n_ta_id10, n_id10_tj, n_tj_id10] at hy_ ⊢; try first | exact hy_ | (cases hy_; done)
      by_cases e_id : j_ = id
      · subst e_id; simp [AS.set, rcC_def, i64v_def, h_id, h_id8, h_id10, n_idr_idx, n_idx_idr, n_ta_tj, n_tj_ta, n_ta_idr, n_tj_idr, n_ta_idx, n_tj_idx, n_idr_ta, n_idr_tj, n_idx_ta, n_idx_tj, h1, h2, h3, h4, n_id_idr, n_idr_id, n_id_idx, n_idx_id, n_id_ta, n_ta_id, n_id_tj, n_tj_id, n_id8_idr, n_idr_id8, n_id8_id, n_id_id8, n_id8_idx, n_idx_id8, n_id8_ta, n_ta_id8, n_id8_tj, n_tj_id8, n_id10_id8, n_id8_id10, n_id10_idr, n_idr_id10, n_id10_id, n_id_id10, n_id10_idx, n_idx_id10, n_id10_ta, n_ta_id10, n_id10_tj, n_tj_id10] at hy_ ⊢; try first | exact hy_ | (cases hy_; done)
      by_cases e_id8 : j_ = id8
      · subst e_id8; simp [AS.set, rcC_def, i64v_def, h_id, h_id8, h_id10, n_idr_idx, n_idx_idr, n_ta_tj, n_tj_ta, n_ta_idr, n_tj_idr, n_ta_idx, n_tj_idx, n_idr_ta, n_idr_tj, n_idx_ta, n_idx_tj, h1, h2, h3, h4, n_id_idr, n_idr_id, n_id_idx, n_idx_id, n_id_ta, n_ta_id, n_id_tj, n_tj_id, n_id8_idr, n_idr_id8, n_id8_id, n_id_id8, n_id8_idx, n_idx_id8, n_id8_ta, n_ta_id8, n_id8_tj, n_tj_id8, n_id10_id8, n_id8_id10, n_id10_idr, n_idr_id10, n_id10_id, n_id_id10, n_id10_idx, n_idx_id10, n_id10_ta, n_ta_id10, n_id10_tj, n_tj_id10] at hy_ ⊢; try first | exact hy_ | (cases hy_; done)
      by_cases e_id10 : j_ = id10
      · subst e_id10; simp [AS.set, rcC_def, i64v_def, h_id, h_id8, h_id10, n_idr_idx, n_idx_idr, n_ta_tj, n_tj_ta, n_ta_idr, n_tj_idr, n_ta_idx, n_tj_idx, n_idr_ta, n_idr_tj, n_idx_ta, n_idx_tj, h1, h2, h3, h4, n_id_idr, n_idr_id, n_id_idx, n_idx_id, n_id_ta, n_ta_id, n_id_tj, n_tj_id, n_id8_idr, n_idr_id8, n_id8_id, n_id_id8, n_id8_idx, n_idx_id8, n_id8_ta, n_ta_id8, n_id8_tj, n_tj_id8, n_id10_id8, n_id8_id10, n_id10_idr, n_idr_id10, n_id10_id, n_id_id10, n_id10_idx, n_idx_id10, n_id10_ta, n_ta_id10, n_id10_tj, n_tj_id10] at hy_ ⊢; try first | exact hy_ | (cases hy_; done)
      by_cases e_idx : j_ = idx
      · subst e_idx; simp [AS.set, rcC_def, i64v_def, h_id, h_id8, h_id10, n_idr_idx, n_idx_idr, n_ta_tj, n_tj_ta, n_ta_idr, n_tj_idr, n_ta_idx, n_tj_idx, n_idr_ta, n_idr_tj, n_idx_ta, n_idx_tj, h1, h2, h3, h4, n_id_idr, n_idr_id, n_id_idx, n_idx_id, n_id_ta, n_ta_id, n_id_tj, n_tj_id, n_id8_idr, n_idr_id8, n_id8_id, n_id_id8, n_id8_idx, n_idx_id8, n_id8_ta, n_ta_id8, n_id8_tj, n_tj_id8, n_id10_id8, n_id8_id10, n_id10_idr, n_idr_id10, n_id10_id, n_id_id10, n_id10_idx, n_idx_id10, n_id10_ta, n_ta_id10, n_id10_tj, n_tj_id10] at hy_ ⊢; try first | exact hy_ | (cases hy_; done)
      by_cases e_ta : j_ = ta
      · subst e_ta; simp [AS.set, rcC_def, i64v_def, h_id, h_id8, h_id10, n_idr_idx, n_idx_idr, n_ta_tj, n_tj_ta, n_ta_idr, n_tj_idr, n_ta_idx, n_tj_idx, n_idr_ta, n_idr_tj, n_idx_ta, n_idx_tj, h1, h2, h3, h4, n_id_idr, n_idr_id, n_id_idx, n_idx_id, n_id_ta, n_ta_id, n_id_tj, n_tj_id, n_id8_idr, n_idr_id8, n_id8_id, n_id_id8, n_id8_idx, n_idx_id8, n_id8_ta, n_ta_id8, n_id8_tj, n_tj_id8, n_id10_id8, n_id8_id10, n_id10_idr, n_idr_id10, n_id10_id, n_id_id10, n_id10_idx, n_idx_id10, n_id10_ta, n_ta_id10, n_id10_tj, n_tj_id10] at hy_ ⊢; try first | exact hy_ | (cases hy_; done)
      by_cases e_tj : j_ = tj
      · subst e_tj; simp [AS.set, rcC_def, i64v_def, h_id, h_id8, h_id10, n_idr_idx, n_idx_idr, n_ta_tj, n_tj_ta, n_ta_idr, n_tj_idr, n_ta_idx, n_tj_idx, n_idr_ta, n_idr_tj, n_idx_ta, n_idx_tj, h1, h2, h3, h4, n_id_idr, n_idr_id, n_id_idx, n_idx_id, n_id_ta, n_ta_id, n_id_tj, n_tj_id, n_id8_idr, n_idr_id8, n_id8_id, n_id_id8, n_id8_idx, n_idx_id8, n_id8_ta, n_ta_id8, n_id8_tj, n_tj_id8, n_id10_id8, n_id8_id10, n_id10_idr, n_idr_id10, n_id10_id, n_id_id10, n_id10_idx, n_idx_id10, n_id10_ta, n_ta_id10, n_id10_tj, n_tj_id10] at hy_ ⊢; try first | exact hy_ | (cases hy_; done)
      simp [AS.set, rcC_def, i64v_def, h_id, h_id8, h_id10, n_idr_idx, n_idx_idr, n_ta_tj, n_tj_ta, n_ta_idr, n_tj_idr, n_ta_idx, n_tj_idx, n_idr_ta, n_idr_tj, n_idx_ta, n_idx_tj, h1, h2, h3, h4, n_id_idr, n_idr_id, n_id_idx, n_idx_id, n_id_ta, n_ta_id, n_id_tj, n_tj_id, n_id8_idr, n_idr_id8, n_id8_id, n_id_id8, n_id8_idx, n_idx_id8, n_id8_ta, n_ta_id8, n_id8_tj, n_tj_id8, n_id10_id8, n_id8_id10, n_id10_idr, n_idr_id10, n_id10_id, n_id_id10, n_id10_idx, n_idx_id10, n_id10_ta, n_ta_id10, n_id10_tj, n_tj_id10, e_idr, e_id, e_id8, e_id10, e_idx, e_ta, e_tj] at hy_ ⊢; try exact hy_
  · have hwd3 : wdO 3 = 1 := rfl
    simp only [hwd3] at hwd hs hn2 hV2 hwr ⊢
    have hn2 := hn2 (by decide)
    have hT' : T = 0 := by simp [hT]
    subst hT'
    have hav : argD 3 V = V := by simp [argD]
    simp at hV2
    have hw2 : IntKind.i64.wrap V = V := in_i64 (by omega) (by omega)
    rw [hav] at hcr ⊢
    simp only [insV, noTy] at hcr ⊢
    cases rb
    all_goals
      simp only [if_true, if_false, Bool.false_eq_true] at hcr ⊢
      refine ACalls.of_body Try.func41 rfl rfl (by simp [Try.ntmps41]) ?_
      repeat (first
        | (with_reducible first | apply AWp.seq | apply AWp.block | refine And.intro (by first | omega | assumption | decide) ?_)
        | ((first | (with_reducible first | apply AWp.fork | apply AWp.region | show condK _ _ _ | show guardK _ _ _ _ _ _ _ _ _) | ((with_reducible apply AWp.drawS (id := 12) (t := sc_41_12_XCode9)); (exact mixed); kernel_rfl; kernel_rfl; (repeat (with_reducible first | apply PanQ.then | apply PanQ.block | apply PanQ.body | apply PanQ.no)))); simp -implicitDefEqProofs [n_idr_idx, n_idx_idr, n_ta_tj, n_tj_ta, n_ta_idr, n_tj_idr, n_ta_idx, n_tj_idx, n_idr_ta, n_idr_tj, n_idx_ta, n_idx_tj, h1, h2, h3, h4])
        | ((with_reducible first | apply AWp.ret | apply AWp.skip | apply AWp.exit); try simp -implicitDefEqProofs [n_idr_idx, n_idx_idr, n_ta_tj, n_tj_ta, n_ta_idr, n_tj_idr, n_ta_idx, n_tj_idx, n_idr_ta, n_idr_tj, n_idx_ta, n_idx_tj, h1, h2, h3, h4]))
      intro id h_id
      have n_idr_id : ¬ idr = id := by rintro rfl; rw [h1] at h_id; cases h_id
      have n_id_idr : ¬ id = idr := fun e => n_idr_id e.symm
      have n_idx_id : ¬ idx = id := by rintro rfl; rw [h2] at h_id; cases h_id
      have n_id_idx : ¬ id = idx := fun e => n_idx_id e.symm
      have n_ta_id : ¬ ta = id := by rintro rfl; rw [h3] at h_id; cases h_id
      have n_id_ta : ¬ id = ta := fun e => n_ta_id e.symm
      have n_tj_id : ¬ tj = id := by rintro rfl; rw [h4] at h_id; cases h_id
      have n_id_tj : ¬ id = tj := fun e => n_tj_id e.symm
      repeat (first
        | (with_reducible first | apply AWp.seq | apply AWp.block | refine And.intro (by first | omega | assumption | decide) ?_)
        | ((first | (with_reducible first | apply AWp.fork | apply AWp.region | show condK _ _ _ | show guardK _ _ _ _ _ _ _ _ _) | ((with_reducible apply AWp.drawS (id := 12) (t := sc_41_12_XCode9)); (exact mixed); kernel_rfl; kernel_rfl; (repeat (with_reducible first | apply PanQ.then | apply PanQ.block | apply PanQ.body | apply PanQ.no))) | ((with_reducible apply aCall.id); first | apply aCall.gives (hat a _ (by simp [n_id_idr, n_idr_id, h1])) | apply aCall.gives (hn _ (by simp [n_id_idr, n_idr_id, h1])) | apply aCall.gives (hf _))); simp -implicitDefEqProofs [hw1, Try.underlying3, Try.underlying89, n_idr_idx, n_idx_idr, n_ta_tj, n_tj_ta, n_ta_idr, n_tj_idr, n_ta_idx, n_tj_idx, n_idr_ta, n_idr_tj, n_idx_ta, n_idx_tj, h1, h2, h3, h4, n_id_idr, n_idr_id, n_id_idx, n_idx_id, n_id_ta, n_ta_id, n_id_tj, n_tj_id])
        | ((with_reducible first | apply AWp.ret | apply AWp.skip | apply AWp.exit); try simp -implicitDefEqProofs [hw1, Try.underlying3, Try.underlying89, n_idr_idx, n_idx_idr, n_ta_tj, n_tj_ta, n_ta_idr, n_tj_idr, n_ta_idx, n_tj_idx, n_idr_ta, n_idr_tj, n_idx_ta, n_idx_tj, h1, h2, h3, h4, n_id_idr, n_idr_id, n_id_idx, n_idx_id, n_id_ta, n_ta_id, n_id_tj, n_tj_id]))
      intro id8 n_id8_idr n_id8_id h_id8
      have n_idr_id8 : ¬ idr = id8 := fun e => n_id8_idr e.symm
      have n_id_id8 : ¬ id = id8 := fun e => n_id8_id e.symm
      have n_idx_id8 : ¬ idx = id8 := by rintro rfl; rw [h2] at h_id8; cases h_id8
      have n_id8_idx : ¬ id8 = idx := fun e => n_idx_id8 e.symm
      have n_ta_id8 : ¬ ta = id8 := by rintro rfl; rw [h3] at h_id8; cases h_id8
      have n_id8_ta : ¬ id8 = ta := fun e => n_ta_id8 e.symm
      have n_tj_id8 : ¬ tj = id8 := by rintro rfl; rw [h4] at h_id8; cases h_id8
      have n_id8_tj : ¬ id8 = tj := fun e => n_tj_id8 e.symm
      repeat (first
        | (with_reducible first | apply AWp.seq | apply AWp.block | refine And.intro (by first | omega | assumption | decide) ?_)
        | ((first | (with_reducible first | apply AWp.fork | apply AWp.region | show condK _ _ _ | show guardK _ _ _ _ _ _ _ _ _) | ((with_reducible apply AWp.drawS (id := 12) (t := sc_41_12_XCode9)); (exact mixed); kernel_rfl; kernel_rfl; (repeat (with_reducible first | apply PanQ.then | apply PanQ.block | apply PanQ.body | apply PanQ.no)))); simp -implicitDefEqProofs [hw1, Try.underlying3, Try.underlying89, n_idr_idx, n_idx_idr, n_ta_tj, n_tj_ta, n_ta_idr, n_tj_idr, n_ta_idx, n_tj_idx, n_idr_ta, n_idr_tj, n_idx_ta, n_idx_tj, h1, h2, h3, h4, n_id_idr, n_idr_id, n_id_idx, n_idx_id, n_id_ta, n_ta_id, n_id_tj, n_tj_id, n_id8_idr, n_idr_id8, n_id8_id, n_id_id8, n_id8_idx, n_idx_id8, n_id8_ta, n_ta_id8, n_id8_tj, n_tj_id8])
        | ((with_reducible first | apply AWp.ret | apply AWp.skip | apply AWp.exit); try simp -implicitDefEqProofs [hw1, Try.underlying3, Try.underlying89, n_idr_idx, n_idx_idr, n_ta_tj, n_tj_ta, n_ta_idr, n_tj_idr, n_ta_idx, n_tj_idx, n_idr_ta, n_idr_tj, n_idx_ta, n_idx_tj, h1, h2, h3, h4, n_id_idr, n_idr_id, n_id_idx, n_idx_id, n_id_ta, n_ta_id, n_id_tj, n_tj_id, n_id8_idr, n_idr_id8, n_id8_id, n_id_id8, n_id8_idx, n_idx_id8, n_id8_ta, n_ta_id8, n_id8_tj, n_tj_id8]))
      intro id10 n_id10_id8 n_id10_idr n_id10_id h_id10
      have n_id8_id10 : ¬ id8 = id10 := fun e => n_id10_id8 e.symm
      have n_idr_id10 : ¬ idr = id10 := fun e => n_id10_idr e.symm
      have n_id_id10 : ¬ id = id10 := fun e => n_id10_id e.symm
      have n_idx_id10 : ¬ idx = id10 := by rintro rfl; rw [h2] at h_id10; cases h_id10
      have n_id10_idx : ¬ id10 = idx := fun e => n_idx_id10 e.symm
      have n_ta_id10 : ¬ ta = id10 := by rintro rfl; rw [h3] at h_id10; cases h_id10
      have n_id10_ta : ¬ id10 = ta := fun e => n_ta_id10 e.symm
      have n_tj_id10 : ¬ tj = id10 := by rintro rfl; rw [h4] at h_id10; cases h_id10
      have n_id10_tj : ¬ id10 = tj := fun e => n_tj_id10 e.symm
      repeat (first
        | (with_reducible first | apply AWp.seq | apply AWp.block | refine And.intro (by first | omega | assumption | decide) ?_)
        | ((first | (with_reducible first | apply AWp.fork | apply AWp.region | show condK _ _ _ | show guardK _ _ _ _ _ _ _ _ _) | ((with_reducible apply AWp.drawS (id := 12) (t := sc_41_12_XCode9)); (exact mixed); kernel_rfl; kernel_rfl; (repeat (with_reducible first | apply PanQ.then | apply PanQ.block | apply PanQ.body | apply PanQ.no))) | ((with_reducible apply aCall.id); first | apply aCall.gives (hwd _) | apply aCall.gives (hcr _) | apply aCall.gives (hn2 _ (by simp [n_id_idr, n_idr_id, n_id8_idr, n_idr_id8, n_id10_idr, n_idr_id10, h1])))); simp -implicitDefEqProofs [hw1, h3, h4, Try.underlying3, Try.underlying89, Try.underlying2, hw2, n_idr_idx, n_idx_idr, n_ta_tj, n_tj_ta, n_ta_idr, n_tj_idr, n_ta_idx, n_tj_idx, n_idr_ta, n_idr_tj, n_idx_ta, n_idx_tj, h1, h2, h3, h4, n_id_idr, n_idr_id, n_id_idx, n_idx_id, n_id_ta, n_ta_id, n_id_tj, n_tj_id, n_id8_idr, n_idr_id8, n_id8_id, n_id_id8, n_id8_idx, n_idx_id8, n_id8_ta, n_ta_id8, n_id8_tj, n_tj_id8, n_id10_id8, n_id8_id10, n_id10_idr, n_idr_id10, n_id10_id, n_id_id10, n_id10_idx, n_idx_id10, n_id10_ta, n_ta_id10, n_id10_tj, n_tj_id10])
        | ((with_reducible first | apply AWp.ret | apply AWp.skip | apply AWp.exit); try simp -implicitDefEqProofs [hw1, h3, h4, Try.underlying3, Try.underlying89, Try.underlying2, hw2, n_idr_idx, n_idx_idr, n_ta_tj, n_tj_ta, n_ta_idr, n_tj_idr, n_ta_idx, n_tj_idx, n_idr_ta, n_idr_tj, n_idx_ta, n_idx_tj, h1, h2, h3, h4, n_id_idr, n_idr_id, n_id_idx, n_idx_id, n_id_ta, n_ta_id, n_id_tj, n_tj_id, n_id8_idr, n_idr_id8, n_id8_id, n_id_id8, n_id8_idx, n_idx_id8, n_id8_ta, n_ta_id8, n_id8_tj, n_tj_id8, n_id10_id8, n_id8_id10, n_id10_idr, n_idr_id10, n_id10_id, n_id_id10, n_id10_idx, n_idx_id10, n_id10_ta, n_ta_id10, n_id10_tj, n_tj_id10]))
      intro j_ y_ hy_
      by_cases e_idr : j_ = idr
      · subst e_idr; simp [AS.set, rcC_def, i64v_def, h_id, h_id8, h_id10, n_idr_idx, n_idx_idr, n_ta_tj, n_tj_ta, n_ta_idr, n_tj_idr, n_ta_idx, n_tj_idx, n_idr_ta, n_idr_tj, n_idx_ta, n_idx_tj, h1, h2, h3, h4, n_id_idr, n_idr_id, n_id_idx, n_idx_id, n_id_ta, n_ta_id, n_id_tj, n_tj_id, n_id8_idr, n_idr_id8, n_id8_id, n_id_id8, n_id8_idx, n_idx_id8, n_id8_ta, n_ta_id8, n_id8_tj, n_tj_id8, n_id10_id8, n_id8_id10, n_id10_idr, n_idr_id10, n_id10_id, n_id_id10, n_id10_idx, n_idx_id10, n_id10_ta, n_ta_id10, n_id10_tj, n_tj_id10] at hy_ ⊢; try first | exact hy_ | (cases hy_; done)
      by_cases e_id : j_ = id
      · subst e_id; simp [AS.set, rcC_def, i64v_def, h_id, h_id8, h_id10, n_idr_idx, n_idx_idr, n_ta_tj, n_tj_ta, n_ta_idr, n_tj_idr, n_ta_idx, n_tj_idx, n_idr_ta, n_idr_tj, n_idx_ta, n_idx_tj, h1, h2, h3, h4, n_id_idr, n_idr_id, n_id_idx, n_idx_id, n_id_ta, n_ta_id, n_id_tj, n_tj_id, n_id8_idr, n_idr_id8, n_id8_id, n_id_id8, n_id8_idx, n_idx_id8, n_id8_ta, n_ta_id8, n_id8_tj, n_tj_id8, n_id10_id8, n_id8_id10, n_id10_idr, n_idr_id10, n_id10_id, n_id_id10, n_id10_idx, n_idx_id10, n_id10_ta, n_ta_id10, n_id10_tj, n_tj_id10] at hy_ ⊢; try first | exact hy_ | (cases hy_; done)
      by_cases e_id8 : j_ = id8
      · subst e_id8; simp [AS.set, rcC_def, i64v_def, h_id, h_id8, h_id10, n_idr_idx, n_idx_idr, n_ta_tj, n_tj_ta, n_ta_idr, n_tj_idr, n_ta_idx, n_tj_idx, n_idr_ta, n_idr_tj, n_idx_ta, n_idx_tj, h1, h2, h3, h4, n_id_idr, n_idr_id, n_id_idx, n_idx_id, n_id_ta, n_ta_id, n_id_tj, n_tj_id, n_id8_idr, n_idr_id8, n_id8_id, n_id_id8, n_id8_idx, n_idx_id8, n_id8_ta, n_ta_id8, n_id8_tj, n_tj_id8, n_id10_id8, n_id8_id10, n_id10_idr, n_idr_id10, n_id10_id, n_id_id10, n_id10_idx, n_idx_id10, n_id10_ta, n_ta_id10, n_id10_tj, n_tj_id10] at hy_ ⊢; try first | exact hy_ | (cases hy_; done)
      by_cases e_id10 : j_ = id10
      · subst e_id10; simp [AS.set, rcC_def, i64v_def, h_id, h_id8, h_id10, n_idr_idx, n_idx_idr, n_ta_tj, n_tj_ta, n_ta_idr, n_tj_idr, n_ta_idx, n_tj_idx, n_idr_ta, n_idr_tj, n_idx_ta, n_idx_tj, h1, h2, h3, h4, n_id_idr, n_idr_id, n_id_idx, n_idx_id, n_id_ta, n_ta_id, n_id_tj, n_tj_id, n_id8_idr, n_idr_id8, n_id8_id, n_id_id8, n_id8_idx, n_idx_id8, n_id8_ta, n_ta_id8, n_id8_tj, n_tj_id8, n_id10_id8, n_id8_id10, n_id10_idr, n_idr_id10, n_id10_id, n_id_id10, n_id10_idx, n_idx_id10, n_id10_ta, n_ta_id10, n_id10_tj, n_tj_id10] at hy_ ⊢; try first | exact hy_ | (cases hy_; done)
      by_cases e_idx : j_ = idx
      · subst e_idx; simp [AS.set, rcC_def, i64v_def, h_id, h_id8, h_id10, n_idr_idx, n_idx_idr, n_ta_tj, n_tj_ta, n_ta_idr, n_tj_idr, n_ta_idx, n_tj_idx, n_idr_ta, n_idr_tj, n_idx_ta, n_idx_tj, h1, h2, h3, h4, n_id_idr, n_idr_id, n_id_idx, n_idx_id, n_id_ta, n_ta_id, n_id_tj, n_tj_id, n_id8_idr, n_idr_id8, n_id8_id, n_id_id8, n_id8_idx, n_idx_id8, n_id8_ta, n_ta_id8, n_id8_tj, n_tj_id8, n_id10_id8, n_id8_id10, n_id10_idr, n_idr_id10, n_id10_id, n_id_id10, n_id10_idx, n_idx_id10, n_id10_ta, n_ta_id10, n_id10_tj, n_tj_id10] at hy_ ⊢; try first | exact hy_ | (cases hy_; done)
      by_cases e_ta : j_ = ta
      · subst e_ta; simp [AS.set, rcC_def, i64v_def, h_id, h_id8, h_id10, n_idr_idx, n_idx_idr, n_ta_tj, n_tj_ta, n_ta_idr, n_tj_idr, n_ta_idx, n_tj_idx, n_idr_ta, n_idr_tj, n_idx_ta, n_idx_tj, h1, h2, h3, h4, n_id_idr, n_idr_id, n_id_idx, n_idx_id, n_id_ta, n_ta_id, n_id_tj, n_tj_id, n_id8_idr, n_idr_id8, n_id8_id, n_id_id8, n_id8_idx, n_idx_id8, n_id8_ta, n_ta_id8, n_id8_tj, n_tj_id8, n_id10_id8, n_id8_id10, n_id10_idr, n_idr_id10, n_id10_id, n_id_id10, n_id10_idx, n_idx_id10, n_id10_ta, n_ta_id10, n_id10_tj, n_tj_id10] at hy_ ⊢; try first | exact hy_ | (cases hy_; done)
      by_cases e_tj : j_ = tj
      · subst e_tj; simp [AS.set, rcC_def, i64v_def, h_id, h_id8, h_id10, n_idr_idx, n_idx_idr, n_ta_tj, n_tj_ta, n_ta_idr, n_tj_idr, n_ta_idx, n_tj_idx, n_idr_ta, n_idr_tj, n_idx_ta, n_idx_tj, h1, h2, h3, h4, n_id_idr, n_idr_id, n_id_idx, n_idx_id, n_id_ta, n_ta_id, n_id_tj, n_tj_id, n_id8_idr, n_idr_id8, n_id8_id, n_id_id8, n_id8_idx, n_idx_id8, n_id8_ta, n_ta_id8, n_id8_tj, n_tj_id8, n_id10_id8, n_id8_id10, n_id10_idr, n_idr_id10, n_id10_id, n_id_id10, n_id10_idx, n_idx_id10, n_id10_ta, n_ta_id10, n_id10_tj, n_tj_id10] at hy_ ⊢; try first | exact hy_ | (cases hy_; done)
      simp [AS.set, rcC_def, i64v_def, h_id, h_id8, h_id10, n_idr_idx, n_idx_idr, n_ta_tj, n_tj_ta, n_ta_idr, n_tj_idr, n_ta_idx, n_tj_idx, n_idr_ta, n_idr_tj, n_idx_ta, n_idx_tj, h1, h2, h3, h4, n_id_idr, n_idr_id, n_id_idx, n_idx_id, n_id_ta, n_ta_id, n_id_tj, n_tj_id, n_id8_idr, n_idr_id8, n_id8_id, n_id_id8, n_id8_idx, n_idx_id8, n_id8_ta, n_ta_id8, n_id8_tj, n_tj_id8, n_id10_id8, n_id8_id10, n_id10_idr, n_idr_id10, n_id10_id, n_id_id10, n_id10_idx, n_idx_id10, n_id10_ta, n_ta_id10, n_id10_tj, n_tj_id10, e_idr, e_id, e_id8, e_id10, e_idx, e_ta, e_tj] at hy_ ⊢; try exact hy_
  · have hwd4 : wdO 4 = 1 := rfl
    simp only [hwd4] at hwd hs hn2 hV2 hwr ⊢
    have hn2 := hn2 (by decide)
    have hT' : T = 0 := by simp [hT]
    subst hT'
    have hav : argD 4 V = V := by simp [argD]
    simp at hV2
    have hw2 : IntKind.i64.wrap V = V := in_i64 (by omega) (by omega)
    rw [hav] at hcr ⊢
    simp only [insV, noTy] at hcr ⊢
    cases rb
    all_goals
      simp only [if_true, if_false, Bool.false_eq_true] at hcr ⊢
      refine ACalls.of_body Try.func41 rfl rfl (by simp [Try.ntmps41]) ?_
      repeat (first
        | (with_reducible first | apply AWp.seq | apply AWp.block | refine And.intro (by first | omega | assumption | decide) ?_)
        | ((first | (with_reducible first | apply AWp.fork | apply AWp.region | show condK _ _ _ | show guardK _ _ _ _ _ _ _ _ _) | ((with_reducible apply AWp.drawS (id := 12) (t := sc_41_12_XCode9)); (exact mixed); kernel_rfl; kernel_rfl; (repeat (with_reducible first | apply PanQ.then | apply PanQ.block | apply PanQ.body | apply PanQ.no)))); simp -implicitDefEqProofs [n_idr_idx, n_idx_idr, n_ta_tj, n_tj_ta, n_ta_idr, n_tj_idr, n_ta_idx, n_tj_idx, n_idr_ta, n_idr_tj, n_idx_ta, n_idx_tj, h1, h2, h3, h4])
        | ((with_reducible first | apply AWp.ret | apply AWp.skip | apply AWp.exit); try simp -implicitDefEqProofs [n_idr_idx, n_idx_idr, n_ta_tj, n_tj_ta, n_ta_idr, n_tj_idr, n_ta_idx, n_tj_idx, n_idr_ta, n_idr_tj, n_idx_ta, n_idx_tj, h1, h2, h3, h4]))
      intro id h_id
      have n_idr_id : ¬ idr = id := by rintro rfl; rw [h1] at h_id; cases h_id
      have n_id_idr : ¬ id = idr := fun e => n_idr_id e.symm
      have n_idx_id : ¬ idx = id := by rintro rfl; rw [h2] at h_id; cases h_id
      have n_id_idx : ¬ id = idx := fun e => n_idx_id e.symm
      have n_ta_id : ¬ ta = id := by rintro rfl; rw [h3] at h_id; cases h_id
      have n_id_ta : ¬ id = ta := fun e => n_ta_id e.symm
      have n_tj_id : ¬ tj = id := by rintro rfl; rw [h4] at h_id; cases h_id
      have n_id_tj : ¬ id = tj := fun e => n_tj_id e.symm
      repeat (first
        | (with_reducible first | apply AWp.seq | apply AWp.block | refine And.intro (by first | omega | assumption | decide) ?_)
        | ((first | (with_reducible first | apply AWp.fork | apply AWp.region | show condK _ _ _ | show guardK _ _ _ _ _ _ _ _ _) | ((with_reducible apply AWp.drawS (id := 12) (t := sc_41_12_XCode9)); (exact mixed); kernel_rfl; kernel_rfl; (repeat (with_reducible first | apply PanQ.then | apply PanQ.block | apply PanQ.body | apply PanQ.no))) | ((with_reducible apply aCall.id); first | apply aCall.gives (hat a _ (by simp [n_id_idr, n_idr_id, h1])) | apply aCall.gives (hn _ (by simp [n_id_idr, n_idr_id, h1])) | apply aCall.gives (hf _))); simp -implicitDefEqProofs [hw1, Try.underlying3, Try.underlying89, n_idr_idx, n_idx_idr, n_ta_tj, n_tj_ta, n_ta_idr, n_tj_idr, n_ta_idx, n_tj_idx, n_idr_ta, n_idr_tj, n_idx_ta, n_idx_tj, h1, h2, h3, h4, n_id_idr, n_idr_id, n_id_idx, n_idx_id, n_id_ta, n_ta_id, n_id_tj, n_tj_id])
        | ((with_reducible first | apply AWp.ret | apply AWp.skip | apply AWp.exit); try simp -implicitDefEqProofs [hw1, Try.underlying3, Try.underlying89, n_idr_idx, n_idx_idr, n_ta_tj, n_tj_ta, n_ta_idr, n_tj_idr, n_ta_idx, n_tj_idx, n_idr_ta, n_idr_tj, n_idx_ta, n_idx_tj, h1, h2, h3, h4, n_id_idr, n_idr_id, n_id_idx, n_idx_id, n_id_ta, n_ta_id, n_id_tj, n_tj_id]))
      intro id8 n_id8_idr n_id8_id h_id8
      have n_idr_id8 : ¬ idr = id8 := fun e => n_id8_idr e.symm
      have n_id_id8 : ¬ id = id8 := fun e => n_id8_id e.symm
      have n_idx_id8 : ¬ idx = id8 := by rintro rfl; rw [h2] at h_id8; cases h_id8
      have n_id8_idx : ¬ id8 = idx := fun e => n_idx_id8 e.symm
      have n_ta_id8 : ¬ ta = id8 := by rintro rfl; rw [h3] at h_id8; cases h_id8
      have n_id8_ta : ¬ id8 = ta := fun e => n_ta_id8 e.symm
      have n_tj_id8 : ¬ tj = id8 := by rintro rfl; rw [h4] at h_id8; cases h_id8
      have n_id8_tj : ¬ id8 = tj := fun e => n_tj_id8 e.symm
      repeat (first
        | (with_reducible first | apply AWp.seq | apply AWp.block | refine And.intro (by first | omega | assumption | decide) ?_)
        | ((first | (with_reducible first | apply AWp.fork | apply AWp.region | show condK _ _ _ | show guardK _ _ _ _ _ _ _ _ _) | ((with_reducible apply AWp.drawS (id := 12) (t := sc_41_12_XCode9)); (exact mixed); kernel_rfl; kernel_rfl; (repeat (with_reducible first | apply PanQ.then | apply PanQ.block | apply PanQ.body | apply PanQ.no)))); simp -implicitDefEqProofs [hw1, Try.underlying3, Try.underlying89, n_idr_idx, n_idx_idr, n_ta_tj, n_tj_ta, n_ta_idr, n_tj_idr, n_ta_idx, n_tj_idx, n_idr_ta, n_idr_tj, n_idx_ta, n_idx_tj, h1, h2, h3, h4, n_id_idr, n_idr_id, n_id_idx, n_idx_id, n_id_ta, n_ta_id, n_id_tj, n_tj_id, n_id8_idr, n_idr_id8, n_id8_id, n_id_id8, n_id8_idx, n_idx_id8, n_id8_ta, n_ta_id8, n_id8_tj, n_tj_id8])
        | ((with_reducible first | apply AWp.ret | apply AWp.skip | apply AWp.exit); try simp -implicitDefEqProofs [hw1, Try.underlying3, Try.underlying89, n_idr_idx, n_idx_idr, n_ta_tj, n_tj_ta, n_ta_idr, n_tj_idr, n_ta_idx, n_tj_idx, n_idr_ta, n_idr_tj, n_idx_ta, n_idx_tj, h1, h2, h3, h4, n_id_idr, n_idr_id, n_id_idx, n_idx_id, n_id_ta, n_ta_id, n_id_tj, n_tj_id, n_id8_idr, n_idr_id8, n_id8_id, n_id_id8, n_id8_idx, n_idx_id8, n_id8_ta, n_ta_id8, n_id8_tj, n_tj_id8]))
      intro id10 n_id10_id8 n_id10_idr n_id10_id h_id10
      have n_id8_id10 : ¬ id8 = id10 := fun e => n_id10_id8 e.symm
      have n_idr_id10 : ¬ idr = id10 := fun e => n_id10_idr e.symm
      have n_id_id10 : ¬ id = id10 := fun e => n_id10_id e.symm
      have n_idx_id10 : ¬ idx = id10 := by rintro rfl; rw [h2] at h_id10; cases h_id10
      have n_id10_idx : ¬ id10 = idx := fun e => n_idx_id10 e.symm
      have n_ta_id10 : ¬ ta = id10 := by rintro rfl; rw [h3] at h_id10; cases h_id10
      have n_id10_ta : ¬ id10 = ta := fun e => n_ta_id10 e.symm
      have n_tj_id10 : ¬ tj = id10 := by rintro rfl; rw [h4] at h_id10; cases h_id10
      have n_id10_tj : ¬ id10 = tj := fun e => n_tj_id10 e.symm
      repeat (first
        | (with_reducible first | apply AWp.seq | apply AWp.block | refine And.intro (by first | omega | assumption | decide) ?_)
        | ((first | (with_reducible first | apply AWp.fork | apply AWp.region | show condK _ _ _ | show guardK _ _ _ _ _ _ _ _ _) | ((with_reducible apply AWp.drawS (id := 12) (t := sc_41_12_XCode9)); (exact mixed); kernel_rfl; kernel_rfl; (repeat (with_reducible first | apply PanQ.then | apply PanQ.block | apply PanQ.body | apply PanQ.no))) | ((with_reducible apply aCall.id); first | apply aCall.gives (hwd _) | apply aCall.gives (hcr _) | apply aCall.gives (hn2 _ (by simp [n_id_idr, n_idr_id, n_id8_idr, n_idr_id8, n_id10_idr, n_idr_id10, h1])))); simp -implicitDefEqProofs [hw1, h3, h4, Try.underlying3, Try.underlying89, Try.underlying2, hw2, n_idr_idx, n_idx_idr, n_ta_tj, n_tj_ta, n_ta_idr, n_tj_idr, n_ta_idx, n_tj_idx, n_idr_ta, n_idr_tj, n_idx_ta, n_idx_tj, h1, h2, h3, h4, n_id_idr, n_idr_id, n_id_idx, n_idx_id, n_id_ta, n_ta_id, n_id_tj, n_tj_id, n_id8_idr, n_idr_id8, n_id8_id, n_id_id8, n_id8_idx, n_idx_id8, n_id8_ta, n_ta_id8, n_id8_tj, n_tj_id8, n_id10_id8, n_id8_id10, n_id10_idr, n_idr_id10, n_id10_id, n_id_id10, n_id10_idx, n_idx_id10, n_id10_ta, n_ta_id10, n_id10_tj, n_tj_id10])
        | ((with_reducible first | apply AWp.ret | apply AWp.skip | apply AWp.exit); try simp -implicitDefEqProofs [hw1, h3, h4, Try.underlying3, Try.underlying89, Try.underlying2, hw2, n_idr_idx, n_idx_idr, n_ta_tj, n_tj_ta, n_ta_idr, n_tj_idr, n_ta_idx, n_tj_idx, n_idr_ta, n_idr_tj, n_idx_ta, n_idx_tj, h1, h2, h3, h4, n_id_idr, n_idr_id, n_id_idx, n_idx_id, n_id_ta, n_ta_id, n_id_tj, n_tj_id, n_id8_idr, n_idr_id8, n_id8_id, n_id_id8, n_id8_idx, n_idx_id8, n_id8_ta, n_ta_id8, n_id8_tj, n_tj_id8, n_id10_id8, n_id8_id10, n_id10_idr, n_idr_id10, n_id10_id, n_id_id10, n_id10_idx, n_idx_id10, n_id10_ta, n_ta_id10, n_id10_tj, n_tj_id10]))
      intro j_ y_ hy_
      by_cases e_idr : j_ = idr
      · subst e_idr; simp [AS.set, rcC_def, i64v_def, h_id, h_id8, h_id10, n_idr_idx, n_idx_idr, n_ta_tj, n_tj_ta, n_ta_idr, n_tj_idr, n_ta_idx, n_tj_idx, n_idr_ta, n_idr_tj, n_idx_ta, n_idx_tj, h1, h2, h3, h4, n_id_idr, n_idr_id, n_id_idx, n_idx_id, n_id_ta, n_ta_id, n_id_tj, n_tj_id, n_id8_idr, n_idr_id8, n_id8_id, n_id_id8, n_id8_idx, n_idx_id8, n_id8_ta, n_ta_id8, n_id8_tj, n_tj_id8, n_id10_id8, n_id8_id10, n_id10_idr, n_idr_id10, n_id10_id, n_id_id10, n_id10_idx, n_idx_id10, n_id10_ta, n_ta_id10, n_id10_tj, n_tj_id10] at hy_ ⊢; try first | exact hy_ | (cases hy_; done)
      by_cases e_id : j_ = id
      · subst e_id; simp [AS.set, rcC_def, i64v_def, h_id, h_id8, h_id10, n_idr_idx, n_idx_idr, n_ta_tj, n_tj_ta, n_ta_idr, n_tj_idr, n_ta_idx, n_tj_idx, n_idr_ta, n_idr_tj, n_idx_ta, n_idx_tj, h1, h2, h3, h4, n_id_idr, n_idr_id, n_id_idx, n_idx_id, n_id_ta, n_ta_id, n_id_tj, n_tj_id, n_id8_idr, n_idr_id8, n_id8_id, n_id_id8, n_id8_idx, n_idx_id8, n_id8_ta, n_ta_id8, n_id8_tj, n_tj_id8, n_id10_id8, n_id8_id10, n_id10_idr, n_idr_id10, n_id10_id, n_id_id10, n_id10_idx, n_idx_id10, n_id10_ta, n_ta_id10, n_id10_tj, n_tj_id10] at hy_ ⊢; try first | exact hy_ | (cases hy_; done)
      by_cases e_id8 : j_ = id8
      · subst e_id8; simp [AS.set, rcC_def, i64v_def, h_id, h_id8, h_id10, n_idr_idx, n_idx_idr, n_ta_tj, n_tj_ta, n_ta_idr, n_tj_idr, n_ta_idx, n_tj_idx, n_idr_ta, n_idr_tj, n_idx_ta, n_idx_tj, h1, h2, h3, h4, n_id_idr, n_idr_id, n_id_idx, n_idx_id, n_id_ta, n_ta_id, n_id_tj, n_tj_id, n_id8_idr, n_idr_id8, n_id8_id, n_id_id8, n_id8_idx, n_idx_id8, n_id8_ta, n_ta_id8, n_id8_tj, n_tj_id8, n_id10_id8, n_id8_id10, n_id10_idr, n_idr_id10, n_id10_id, n_id_id10, n_id10_idx, n_idx_id10, n_id10_ta, n_ta_id10, n_id10_tj, n_tj_id10] at hy_ ⊢; try first | exact hy_ | (cases hy_; done)
      by_cases e_id10 : j_ = id10
      · subst e_id10; simp [AS.set, rcC_def, i64v_def, h_id, h_id8, h_id10, n_idr_idx, n_idx_idr, n_ta_tj, n_tj_ta, n_ta_idr, n_tj_idr, n_ta_idx, n_tj_idx, n_idr_ta, n_idr_tj, n_idx_ta, n_idx_tj, h1, h2, h3, h4, n_id_idr, n_idr_id, n_id_idx, n_idx_id, n_id_ta, n_ta_id, n_id_tj, n_tj_id, n_id8_idr, n_idr_id8, n_id8_id, n_id_id8, n_id8_idx, n_idx_id8, n_id8_ta, n_ta_id8, n_id8_tj, n_tj_id8, n_id10_id8, n_id8_id10, n_id10_idr, n_idr_id10, n_id10_id, n_id_id10, n_id10_idx, n_idx_id10, n_id10_ta, n_ta_id10, n_id10_tj, n_tj_id10] at hy_ ⊢; try first | exact hy_ | (cases hy_; done)
      by_cases e_idx : j_ = idx
      · subst e_idx; simp [AS.set, rcC_def, i64v_def, h_id, h_id8, h_id10, n_idr_idx, n_idx_idr, n_ta_tj, n_tj_ta, n_ta_idr, n_tj_idr, n_ta_idx, n_tj_idx, n_idr_ta, n_idr_tj, n_idx_ta, n_idx_tj, h1, h2, h3, h4, n_id_idr, n_idr_id, n_id_idx, n_idx_id, n_id_ta, n_ta_id, n_id_tj, n_tj_id, n_id8_idr, n_idr_id8, n_id8_id, n_id_id8, n_id8_idx, n_idx_id8, n_id8_ta, n_ta_id8, n_id8_tj, n_tj_id8, n_id10_id8, n_id8_id10, n_id10_idr, n_idr_id10, n_id10_id, n_id_id10, n_id10_idx, n_idx_id10, n_id10_ta, n_ta_id10, n_id10_tj, n_tj_id10] at hy_ ⊢; try first | exact hy_ | (cases hy_; done)
      by_cases e_ta : j_ = ta
      · subst e_ta; simp [AS.set, rcC_def, i64v_def, h_id, h_id8, h_id10, n_idr_idx, n_idx_idr, n_ta_tj, n_tj_ta, n_ta_idr, n_tj_idr, n_ta_idx, n_tj_idx, n_idr_ta, n_idr_tj, n_idx_ta, n_idx_tj, h1, h2, h3, h4, n_id_idr, n_idr_id, n_id_idx, n_idx_id, n_id_ta, n_ta_id, n_id_tj, n_tj_id, n_id8_idr, n_idr_id8, n_id8_id, n_id_id8, n_id8_idx, n_idx_id8, n_id8_ta, n_ta_id8, n_id8_tj, n_tj_id8, n_id10_id8, n_id8_id10, n_id10_idr, n_idr_id10, n_id10_id, n_id_id10, n_id10_idx, n_idx_id10, n_id10_ta, n_ta_id10, n_id10_tj, n_tj_id10] at hy_ ⊢; try first | exact hy_ | (cases hy_; done)
      by_cases e_tj : j_ = tj
      · subst e_tj; simp [AS.set, rcC_def, i64v_def, h_id, h_id8, h_id10, n_idr_idx, n_idx_idr, n_ta_tj, n_tj_ta, n_ta_idr, n_tj_idr, n_ta_idx, n_tj_idx, n_idr_ta, n_idr_tj, n_idx_ta, n_idx_tj, h1, h2, h3, h4, n_id_idr, n_idr_id, n_id_idx, n_idx_id, n_id_ta, n_ta_id, n_id_tj, n_tj_id, n_id8_idr, n_idr_id8, n_id8_id, n_id_id8, n_id8_idx, n_idx_id8, n_id8_ta, n_ta_id8, n_id8_tj, n_tj_id8, n_id10_id8, n_id8_id10, n_id10_idr, n_idr_id10, n_id10_id, n_id_id10, n_id10_idx, n_idx_id10, n_id10_ta, n_ta_id10, n_id10_tj, n_tj_id10] at hy_ ⊢; try first | exact hy_ | (cases hy_; done)
      simp [AS.set, rcC_def, i64v_def, h_id, h_id8, h_id10, n_idr_idx, n_idx_idr, n_ta_tj, n_tj_ta, n_ta_idr, n_tj_idr, n_ta_idx, n_tj_idx, n_idr_ta, n_idr_tj, n_idx_ta, n_idx_tj, h1, h2, h3, h4, n_id_idr, n_idr_id, n_id_idx, n_idx_id, n_id_ta, n_ta_id, n_id_tj, n_tj_id, n_id8_idr, n_idr_id8, n_id8_id, n_id_id8, n_id8_idx, n_idx_id8, n_id8_ta, n_ta_id8, n_id8_tj, n_tj_id8, n_id10_id8, n_id8_id10, n_id10_idr, n_idr_id10, n_id10_id, n_id_id10, n_id10_idx, n_idx_id10, n_id10_ta, n_ta_id10, n_id10_tj, n_tj_id10, e_idr, e_id, e_id8, e_id10, e_idx, e_ta, e_tj] at hy_ ⊢; try exact hy_
  · have hwd5 : wdO 5 = 2 := rfl
    simp only [hwd5] at hwd hs hn2 hV2 hwr ⊢
    have hn2 := hn2 (by decide)
    have hav : argD 5 V = 0 := by simp [argD]
    have hsg := fun σ => signed_ok V 2 (by omega) hV1 (by simpa using hV2) σ
    simp only [Int.reduceToNat] at hsg
    simp at hT
    have hsb : -32768 ≤ sgn 2 V ∧ sgn 2 V < 65536 := by simp only [Int.reduceToNat, pow2] at hV2; simp only [sgn, pow2]; split <;> omega
    have hwT : IntKind.i64.wrap ((a : Int) + 1 + 2 + sgn 2 V) = T := by rw [in_i64 (by omega) (by omega), hT]; omega
    rw [hav] at hcr ⊢
    simp only [insV, noTy] at hcr ⊢
    cases rb
    all_goals
      simp only [if_true, if_false, Bool.false_eq_true] at hcr ⊢
      refine ACalls.of_body Try.func41 rfl rfl (by simp [Try.ntmps41]) ?_
      repeat (first
        | (with_reducible first | apply AWp.seq | apply AWp.block | refine And.intro (by first | omega | assumption | decide) ?_)
        | ((first | (with_reducible first | apply AWp.fork | apply AWp.region | show condK _ _ _ | show guardK _ _ _ _ _ _ _ _ _) | ((with_reducible apply AWp.drawS (id := 12) (t := sc_41_12_XCode9)); (exact mixed); kernel_rfl; kernel_rfl; (repeat (with_reducible first | apply PanQ.then | apply PanQ.block | apply PanQ.body | apply PanQ.no)))); simp -implicitDefEqProofs [n_idr_idx, n_idx_idr, n_ta_tj, n_tj_ta, n_ta_idr, n_tj_idr, n_ta_idx, n_tj_idx, n_idr_ta, n_idr_tj, n_idx_ta, n_idx_tj, h1, h2, h3, h4])
        | ((with_reducible first | apply AWp.ret | apply AWp.skip | apply AWp.exit); try simp -implicitDefEqProofs [n_idr_idx, n_idx_idr, n_ta_tj, n_tj_ta, n_ta_idr, n_tj_idr, n_ta_idx, n_tj_idx, n_idr_ta, n_idr_tj, n_idx_ta, n_idx_tj, h1, h2, h3, h4]))
      intro id h_id
      have n_idr_id : ¬ idr = id := by rintro rfl; rw [h1] at h_id; cases h_id
      have n_id_idr : ¬ id = idr := fun e => n_idr_id e.symm
      have n_idx_id : ¬ idx = id := by rintro rfl; rw [h2] at h_id; cases h_id
      have n_id_idx : ¬ id = idx := fun e => n_idx_id e.symm
      have n_ta_id : ¬ ta = id := by rintro rfl; rw [h3] at h_id; cases h_id
      have n_id_ta : ¬ id = ta := fun e => n_ta_id e.symm
      have n_tj_id : ¬ tj = id := by rintro rfl; rw [h4] at h_id; cases h_id
      have n_id_tj : ¬ id = tj := fun e => n_tj_id e.symm
      repeat (first
        | (with_reducible first | apply AWp.seq | apply AWp.block | refine And.intro (by first | omega | assumption | decide) ?_)
        | ((first | (with_reducible first | apply AWp.fork | apply AWp.region | show condK _ _ _ | show guardK _ _ _ _ _ _ _ _ _) | ((with_reducible apply AWp.drawS (id := 12) (t := sc_41_12_XCode9)); (exact mixed); kernel_rfl; kernel_rfl; (repeat (with_reducible first | apply PanQ.then | apply PanQ.block | apply PanQ.body | apply PanQ.no))) | ((with_reducible apply aCall.id); first | apply aCall.gives (hat a _ (by simp [n_id_idr, n_idr_id, h1])) | apply aCall.gives (hn _ (by simp [n_id_idr, n_idr_id, h1])) | apply aCall.gives (hf _))); simp -implicitDefEqProofs [hw1, Try.underlying3, Try.underlying89, n_idr_idx, n_idx_idr, n_ta_tj, n_tj_ta, n_ta_idr, n_tj_idr, n_ta_idx, n_tj_idx, n_idr_ta, n_idr_tj, n_idx_ta, n_idx_tj, h1, h2, h3, h4, n_id_idr, n_idr_id, n_id_idx, n_idx_id, n_id_ta, n_ta_id, n_id_tj, n_tj_id])
        | ((with_reducible first | apply AWp.ret | apply AWp.skip | apply AWp.exit); try simp -implicitDefEqProofs [hw1, Try.underlying3, Try.underlying89, n_idr_idx, n_idx_idr, n_ta_tj, n_tj_ta, n_ta_idr, n_tj_idr, n_ta_idx, n_tj_idx, n_idr_ta, n_idr_tj, n_idx_ta, n_idx_tj, h1, h2, h3, h4, n_id_idr, n_idr_id, n_id_idx, n_idx_id, n_id_ta, n_ta_id, n_id_tj, n_tj_id]))
      intro id8 n_id8_idr n_id8_id h_id8
      have n_idr_id8 : ¬ idr = id8 := fun e => n_id8_idr e.symm
      have n_id_id8 : ¬ id = id8 := fun e => n_id8_id e.symm
      have n_idx_id8 : ¬ idx = id8 := by rintro rfl; rw [h2] at h_id8; cases h_id8
      have n_id8_idx : ¬ id8 = idx := fun e => n_idx_id8 e.symm
      have n_ta_id8 : ¬ ta = id8 := by rintro rfl; rw [h3] at h_id8; cases h_id8
      have n_id8_ta : ¬ id8 = ta := fun e => n_ta_id8 e.symm
      have n_tj_id8 : ¬ tj = id8 := by rintro rfl; rw [h4] at h_id8; cases h_id8
      have n_id8_tj : ¬ id8 = tj := fun e => n_tj_id8 e.symm
      repeat (first
        | (with_reducible first | apply AWp.seq | apply AWp.block | refine And.intro (by first | omega | assumption | decide) ?_)
        | ((first | (with_reducible first | apply AWp.fork | apply AWp.region | show condK _ _ _ | show guardK _ _ _ _ _ _ _ _ _) | ((with_reducible apply AWp.drawS (id := 12) (t := sc_41_12_XCode9)); (exact mixed); kernel_rfl; kernel_rfl; (repeat (with_reducible first | apply PanQ.then | apply PanQ.block | apply PanQ.body | apply PanQ.no)))); simp -implicitDefEqProofs [hw1, Try.underlying3, Try.underlying89, n_idr_idx, n_idx_idr, n_ta_tj, n_tj_ta, n_ta_idr, n_tj_idr, n_ta_idx, n_tj_idx, n_idr_ta, n_idr_tj, n_idx_ta, n_idx_tj, h1, h2, h3, h4, n_id_idr, n_idr_id, n_id_idx, n_idx_id, n_id_ta, n_ta_id, n_id_tj, n_tj_id, n_id8_idr, n_idr_id8, n_id8_id, n_id_id8, n_id8_idx, n_idx_id8, n_id8_ta, n_ta_id8, n_id8_tj, n_tj_id8])
        | ((with_reducible first | apply AWp.ret | apply AWp.skip | apply AWp.exit); try simp -implicitDefEqProofs [hw1, Try.underlying3, Try.underlying89, n_idr_idx, n_idx_idr, n_ta_tj, n_tj_ta, n_ta_idr, n_tj_idr, n_ta_idx, n_tj_idx, n_idr_ta, n_idr_tj, n_idx_ta, n_idx_tj, h1, h2, h3, h4, n_id_idr, n_idr_id, n_id_idx, n_idx_id, n_id_ta, n_ta_id, n_id_tj, n_tj_id, n_id8_idr, n_idr_id8, n_id8_id, n_id_id8, n_id8_idx, n_idx_id8, n_id8_ta, n_ta_id8, n_id8_tj, n_tj_id8]))
      intro id10 n_id10_id8 n_id10_idr n_id10_id h_id10
      have n_id8_id10 : ¬ id8 = id10 := fun e => n_id10_id8 e.symm
      have n_idr_id10 : ¬ idr = id10 := fun e => n_id10_idr e.symm
      have n_id_id10 : ¬ id = id10 := fun e => n_id10_id e.symm
      have n_idx_id10 : ¬ idx = id10 := by rintro rfl; rw [h2] at h_id10; cases h_id10
      have n_id10_idx : ¬ id10 = idx := fun e => n_idx_id10 e.symm
      have n_ta_id10 : ¬ ta = id10 := by rintro rfl; rw [h3] at h_id10; cases h_id10
      have n_id10_ta : ¬ id10 = ta := fun e => n_ta_id10 e.symm
      have n_tj_id10 : ¬ tj = id10 := by rintro rfl; rw [h4] at h_id10; cases h_id10
      have n_id10_tj : ¬ id10 = tj := fun e => n_tj_id10 e.symm
      repeat (first
        | (with_reducible first | apply AWp.seq | apply AWp.block | refine And.intro (by first | omega | assumption | decide) ?_)
        | ((first | (with_reducible first | apply AWp.fork | apply AWp.region | show condK _ _ _ | show guardK _ _ _ _ _ _ _ _ _) | ((with_reducible apply AWp.drawS (id := 12) (t := sc_41_12_XCode9)); (exact mixed); kernel_rfl; kernel_rfl; (repeat (with_reducible first | apply PanQ.then | apply PanQ.block | apply PanQ.body | apply PanQ.no))) | ((with_reducible apply aCall.id); first | apply aCall.gives (hwd _) | apply aCall.gives (hcr _) | apply aCall.gives (hn2 _ (by simp [n_id_idr, n_idr_id, n_id8_idr, n_idr_id8, n_id10_idr, n_idr_id10, h1])) | apply aCall.gives (hsg _) | apply aCall.gives (hat (a + 1 + 2) _ (by simp [n_id_idr, n_idr_id, n_id8_idr, n_idr_id8, n_id10_idr, n_idr_id10, h1])))); simp -implicitDefEqProofs [hw1, h3, h4, Try.underlying3, Try.underlying89, Try.underlying2, hwT, n_idr_idx, n_idx_idr, n_ta_tj, n_tj_ta, n_ta_idr, n_tj_idr, n_ta_idx, n_tj_idx, n_idr_ta, n_idr_tj, n_idx_ta, n_idx_tj, h1, h2, h3, h4, n_id_idr, n_idr_id, n_id_idx, n_idx_id, n_id_ta, n_ta_id, n_id_tj, n_tj_id, n_id8_idr, n_idr_id8, n_id8_id, n_id_id8, n_id8_idx, n_idx_id8, n_id8_ta, n_ta_id8, n_id8_tj, n_tj_id8, n_id10_id8, n_id8_id10, n_id10_idr, n_idr_id10, n_id10_id, n_id_id10, n_id10_idx, n_idx_id10, n_id10_ta, n_ta_id10, n_id10_tj, n_tj_id10])
        | ((with_reducible first | apply AWp.ret | apply AWp.skip | apply AWp.exit); try simp -implicitDefEqProofs [hw1, h3, h4, Try.underlying3, Try.underlying89, Try.underlying2, hwT, n_idr_idx, n_idx_idr, n_ta_tj, n_tj_ta, n_ta_idr, n_tj_idr, n_ta_idx, n_tj_idx, n_idr_ta, n_idr_tj, n_idx_ta, n_idx_tj, h1, h2, h3, h4, n_id_idr, n_idr_id, n_id_idx, n_idx_id, n_id_ta, n_ta_id, n_id_tj, n_tj_id, n_id8_idr, n_idr_id8, n_id8_id, n_id_id8, n_id8_idx, n_idx_id8, n_id8_ta, n_ta_id8, n_id8_tj, n_tj_id8, n_id10_id8, n_id8_id10, n_id10_idr, n_idr_id10, n_id10_id, n_id_id10, n_id10_idx, n_idx_id10, n_id10_ta, n_ta_id10, n_id10_tj, n_tj_id10]))
      intro j_ y_ hy_
      by_cases e_idr : j_ = idr
      · subst e_idr; simp [AS.set, rcC_def, i64v_def, h_id, h_id8, h_id10, n_idr_idx, n_idx_idr, n_ta_tj, n_tj_ta, n_ta_idr, n_tj_idr, n_ta_idx, n_tj_idx, n_idr_ta, n_idr_tj, n_idx_ta, n_idx_tj, h1, h2, h3, h4, n_id_idr, n_idr_id, n_id_idx, n_idx_id, n_id_ta, n_ta_id, n_id_tj, n_tj_id, n_id8_idr, n_idr_id8, n_id8_id, n_id_id8, n_id8_idx, n_idx_id8, n_id8_ta, n_ta_id8, n_id8_tj, n_tj_id8, n_id10_id8, n_id8_id10, n_id10_idr, n_idr_id10, n_id10_id, n_id_id10, n_id10_idx, n_idx_id10, n_id10_ta, n_ta_id10, n_id10_tj, n_tj_id10] at hy_ ⊢; try first | exact hy_ | (cases hy_; done)
      by_cases e_id : j_ = id
      · subst e_id; simp [AS.set, rcC_def, i64v_def, h_id, h_id8, h_id10, n_idr_idx, n_idx_idr, n_ta_tj, n_tj_ta, n_ta_idr, n_tj_idr, n_ta_idx, n_tj_idx, n_idr_ta, n_idr_tj, n_idx_ta, n_idx_tj, h1, h2, h3, h4, n_id_idr, n_idr_id, n_id_idx, n_idx_id, n_id_ta, n_ta_id, n_id_tj, n_tj_id, n_id8_idr, n_idr_id8, n_id8_id, n_id_id8, n_id8_idx, n_idx_id8, n_id8_ta, n_ta_id8, n_id8_tj, n_tj_id8, n_id10_id8, n_id8_id10, n_id10_idr, n_idr_id10, n_id10_id, n_id_id10, n_id10_idx, n_idx_id10, n_id10_ta, n_ta_id10, n_id10_tj, n_tj_id10] at hy_ ⊢; try first | exact hy_ | (cases hy_; done)
      by_cases e_id8 : j_ = id8
      · subst e_id8; simp [AS.set, rcC_def, i64v_def, h_id, h_id8, h_id10, n_idr_idx, n_idx_idr, n_ta_tj, n_tj_ta, n_ta_idr, n_tj_idr, n_ta_idx, n_tj_idx, n_idr_ta, n_idr_tj, n_idx_ta, n_idx_tj, h1, h2, h3, h4, n_id_idr, n_idr_id, n_id_idx, n_idx_id, n_id_ta, n_ta_id, n_id_tj, n_tj_id, n_id8_idr, n_idr_id8, n_id8_id, n_id_id8, n_id8_idx, n_idx_id8, n_id8_ta, n_ta_id8, n_id8_tj, n_tj_id8, n_id10_id8, n_id8_id10, n_id10_idr, n_idr_id10, n_id10_id, n_id_id10, n_id10_idx, n_idx_id10, n_id10_ta, n_ta_id10, n_id10_tj, n_tj_id10] at hy_ ⊢; try first | exact hy_ | (cases hy_; done)
      by_cases e_id10 : j_ = id10
      · subst e_id10; simp [AS.set, rcC_def, i64v_def, h_id, h_id8, h_id10, n_idr_idx, n_idx_idr, n_ta_tj, n_tj_ta, n_ta_idr, n_tj_idr, n_ta_idx, n_tj_idx, n_idr_ta, n_idr_tj, n_idx_ta, n_idx_tj, h1, h2, h3, h4, n_id_idr, n_idr_id, n_id_idx, n_idx_id, n_id_ta, n_ta_id, n_id_tj, n_tj_id, n_id8_idr, n_idr_id8, n_id8_id, n_id_id8, n_id8_idx, n_idx_id8, n_id8_ta, n_ta_id8, n_id8_tj, n_tj_id8, n_id10_id8, n_id8_id10, n_id10_idr, n_idr_id10, n_id10_id, n_id_id10, n_id10_idx, n_idx_id10, n_id10_ta, n_ta_id10, n_id10_tj, n_tj_id10] at hy_ ⊢; try first | exact hy_ | (cases hy_; done)
      by_cases e_idx : j_ = idx
      · subst e_idx; simp [AS.set, rcC_def, i64v_def, h_id, h_id8, h_id10, n_idr_idx, n_idx_idr, n_ta_tj, n_tj_ta, n_ta_idr, n_tj_idr, n_ta_idx, n_tj_idx, n_idr_ta, n_idr_tj, n_idx_ta, n_idx_tj, h1, h2, h3, h4, n_id_idr, n_idr_id, n_id_idx, n_idx_id, n_id_ta, n_ta_id, n_id_tj, n_tj_id, n_id8_idr, n_idr_id8, n_id8_id, n_id_id8, n_id8_idx, n_idx_id8, n_id8_ta, n_ta_id8, n_id8_tj, n_tj_id8, n_id10_id8, n_id8_id10, n_id10_idr, n_idr_id10, n_id10_id, n_id_id10, n_id10_idx, n_idx_id10, n_id10_ta, n_ta_id10, n_id10_tj, n_tj_id10] at hy_ ⊢; try first | exact hy_ | (cases hy_; done)
      by_cases e_ta : j_ = ta
      · subst e_ta; simp [AS.set, rcC_def, i64v_def, h_id, h_id8, h_id10, n_idr_idx, n_idx_idr, n_ta_tj, n_tj_ta, n_ta_idr, n_tj_idr, n_ta_idx, n_tj_idx, n_idr_ta, n_idr_tj, n_idx_ta, n_idx_tj, h1, h2, h3, h4, n_id_idr, n_idr_id, n_id_idx, n_idx_id, n_id_ta, n_ta_id, n_id_tj, n_tj_id, n_id8_idr, n_idr_id8, n_id8_id, n_id_id8, n_id8_idx, n_idx_id8, n_id8_ta, n_ta_id8, n_id8_tj, n_tj_id8, n_id10_id8, n_id8_id10, n_id10_idr, n_idr_id10, n_id10_id, n_id_id10, n_id10_idx, n_idx_id10, n_id10_ta, n_ta_id10, n_id10_tj, n_tj_id10] at hy_ ⊢; try first | exact hy_ | (cases hy_; done)
      by_cases e_tj : j_ = tj
      · subst e_tj; simp [AS.set, rcC_def, i64v_def, h_id, h_id8, h_id10, n_idr_idx, n_idx_idr, n_ta_tj, n_tj_ta, n_ta_idr, n_tj_idr, n_ta_idx, n_tj_idx, n_idr_ta, n_idr_tj, n_idx_ta, n_idx_tj, h1, h2, h3, h4, n_id_idr, n_idr_id, n_id_idx, n_idx_id, n_id_ta, n_ta_id, n_id_tj, n_tj_id, n_id8_idr, n_idr_id8, n_id8_id, n_id_id8, n_id8_idx, n_idx_id8, n_id8_ta, n_ta_id8, n_id8_tj, n_tj_id8, n_id10_id8, n_id8_id10, n_id10_idr, n_idr_id10, n_id10_id, n_id_id10, n_id10_idx, n_idx_id10, n_id10_ta, n_ta_id10, n_id10_tj, n_tj_id10] at hy_ ⊢; try first | exact hy_ | (cases hy_; done)
      simp [AS.set, rcC_def, i64v_def, h_id, h_id8, h_id10, n_idr_idx, n_idx_idr, n_ta_tj, n_tj_ta, n_ta_idr, n_tj_idr, n_ta_idx, n_tj_idx, n_idr_ta, n_idr_tj, n_idx_ta, n_idx_tj, h1, h2, h3, h4, n_id_idr, n_idr_id, n_id_idx, n_idx_id, n_id_ta, n_ta_id, n_id_tj, n_tj_id, n_id8_idr, n_idr_id8, n_id8_id, n_id_id8, n_id8_idx, n_idx_id8, n_id8_ta, n_ta_id8, n_id8_tj, n_tj_id8, n_id10_id8, n_id8_id10, n_id10_idr, n_idr_id10, n_id10_id, n_id_id10, n_id10_idx, n_idx_id10, n_id10_ta, n_ta_id10, n_id10_tj, n_tj_id10, e_idr, e_id, e_id8, e_id10, e_idx, e_ta, e_tj] at hy_ ⊢; try exact hy_
  · have hwd6 : wdO 6 = 2 := rfl
    simp only [hwd6] at hwd hs hn2 hV2 hwr ⊢
    have hn2 := hn2 (by decide)
    have hT' : T = 0 := by simp [hT]
    subst hT'
    have hav : argD 6 V = V - 1 := by simp [argD]
    simp at hV2
    have hw2 : IntKind.i64.wrap V = V := in_i64 (by omega) (by omega)
    have hw3 : IntKind.i64.wrap (V - 1) = V - 1 := in_i64 (by omega) (by omega)
    rw [hav] at hcr ⊢
    simp only [insV, noTy] at hcr ⊢
    cases rb
    all_goals
      simp only [if_true, if_false, Bool.false_eq_true] at hcr ⊢
      refine ACalls.of_body Try.func41 rfl rfl (by simp [Try.ntmps41]) ?_
      repeat (first
        | (with_reducible first | apply AWp.seq | apply AWp.block | refine And.intro (by first | omega | assumption | decide) ?_)
        | ((first | (with_reducible first | apply AWp.fork | apply AWp.region | show condK _ _ _ | show guardK _ _ _ _ _ _ _ _ _) | ((with_reducible apply AWp.drawS (id := 12) (t := sc_41_12_XCode9)); (exact mixed); kernel_rfl; kernel_rfl; (repeat (with_reducible first | apply PanQ.then | apply PanQ.block | apply PanQ.body | apply PanQ.no)))); simp -implicitDefEqProofs [n_idr_idx, n_idx_idr, n_ta_tj, n_tj_ta, n_ta_idr, n_tj_idr, n_ta_idx, n_tj_idx, n_idr_ta, n_idr_tj, n_idx_ta, n_idx_tj, h1, h2, h3, h4])
        | ((with_reducible first | apply AWp.ret | apply AWp.skip | apply AWp.exit); try simp -implicitDefEqProofs [n_idr_idx, n_idx_idr, n_ta_tj, n_tj_ta, n_ta_idr, n_tj_idr, n_ta_idx, n_tj_idx, n_idr_ta, n_idr_tj, n_idx_ta, n_idx_tj, h1, h2, h3, h4]))
      intro id h_id
      have n_idr_id : ¬ idr = id := by rintro rfl; rw [h1] at h_id; cases h_id
      have n_id_idr : ¬ id = idr := fun e => n_idr_id e.symm
      have n_idx_id : ¬ idx = id := by rintro rfl; rw [h2] at h_id; cases h_id
      have n_id_idx : ¬ id = idx := fun e => n_idx_id e.symm
      have n_ta_id : ¬ ta = id := by rintro rfl; rw [h3] at h_id; cases h_id
      have n_id_ta : ¬ id = ta := fun e => n_ta_id e.symm
      have n_tj_id : ¬ tj = id := by rintro rfl; rw [h4] at h_id; cases h_id
      have n_id_tj : ¬ id = tj := fun e => n_tj_id e.symm
      repeat (first
        | (with_reducible first | apply AWp.seq | apply AWp.block | refine And.intro (by first | omega | assumption | decide) ?_)
        | ((first | (with_reducible first | apply AWp.fork | apply AWp.region | show condK _ _ _ | show guardK _ _ _ _ _ _ _ _ _) | ((with_reducible apply AWp.drawS (id := 12) (t := sc_41_12_XCode9)); (exact mixed); kernel_rfl; kernel_rfl; (repeat (with_reducible first | apply PanQ.then | apply PanQ.block | apply PanQ.body | apply PanQ.no))) | ((with_reducible apply aCall.id); first | apply aCall.gives (hat a _ (by simp [n_id_idr, n_idr_id, h1])) | apply aCall.gives (hn _ (by simp [n_id_idr, n_idr_id, h1])) | apply aCall.gives (hf _))); simp -implicitDefEqProofs [hw1, Try.underlying3, Try.underlying89, n_idr_idx, n_idx_idr, n_ta_tj, n_tj_ta, n_ta_idr, n_tj_idr, n_ta_idx, n_tj_idx, n_idr_ta, n_idr_tj, n_idx_ta, n_idx_tj, h1, h2, h3, h4, n_id_idr, n_idr_id, n_id_idx, n_idx_id, n_id_ta, n_ta_id, n_id_tj, n_tj_id])
        | ((with_reducible first | apply AWp.ret | apply AWp.skip | apply AWp.exit); try simp -implicitDefEqProofs [hw1, Try.underlying3, Try.underlying89, n_idr_idx, n_idx_idr, n_ta_tj, n_tj_ta, n_ta_idr, n_tj_idr, n_ta_idx, n_tj_idx, n_idr_ta, n_idr_tj, n_idx_ta, n_idx_tj, h1, h2, h3, h4, n_id_idr, n_idr_id, n_id_idx, n_idx_id, n_id_ta, n_ta_id, n_id_tj, n_tj_id]))
      intro id8 n_id8_idr n_id8_id h_id8
      have n_idr_id8 : ¬ idr = id8 := fun e => n_id8_idr e.symm
      have n_id_id8 : ¬ id = id8 := fun e => n_id8_id e.symm
      have n_idx_id8 : ¬ idx = id8 := by rintro rfl; rw [h2] at h_id8; cases h_id8
      have n_id8_idx : ¬ id8 = idx := fun e => n_idx_id8 e.symm
      have n_ta_id8 : ¬ ta = id8 := by rintro rfl; rw [h3] at h_id8; cases h_id8
      have n_id8_ta : ¬ id8 = ta := fun e => n_ta_id8 e.symm
      have n_tj_id8 : ¬ tj = id8 := by rintro rfl; rw [h4] at h_id8; cases h_id8
      have n_id8_tj : ¬ id8 = tj := fun e => n_tj_id8 e.symm
      repeat (first
        | (with_reducible first | apply AWp.seq | apply AWp.block | refine And.intro (by first | omega | assumption | decide) ?_)
        | ((first | (with_reducible first | apply AWp.fork | apply AWp.region | show condK _ _ _ | show guardK _ _ _ _ _ _ _ _ _) | ((with_reducible apply AWp.drawS (id := 12) (t := sc_41_12_XCode9)); (exact mixed); kernel_rfl; kernel_rfl; (repeat (with_reducible first | apply PanQ.then | apply PanQ.block | apply PanQ.body | apply PanQ.no)))); simp -implicitDefEqProofs [hw1, Try.underlying3, Try.underlying89, n_idr_idx, n_idx_idr, n_ta_tj, n_tj_ta, n_ta_idr, n_tj_idr, n_ta_idx, n_tj_idx, n_idr_ta, n_idr_tj, n_idx_ta, n_idx_tj, h1, h2, h3, h4, n_id_idr, n_idr_id, n_id_idx, n_idx_id, n_id_ta, n_ta_id, n_id_tj, n_tj_id, n_id8_idr, n_idr_id8, n_id8_id, n_id_id8, n_id8_idx, n_idx_id8, n_id8_ta, n_ta_id8, n_id8_tj, n_tj_id8])
        | ((with_reducible first | apply AWp.ret | apply AWp.skip | apply AWp.exit); try simp -implicitDefEqProofs [hw1, Try.underlying3, Try.underlying89, n_idr_idx, n_idx_idr, n_ta_tj, n_tj_ta, n_ta_idr, n_tj_idr, n_ta_idx, n_tj_idx, n_idr_ta, n_idr_tj, n_idx_ta, n_idx_tj, h1, h2, h3, h4, n_id_idr, n_idr_id, n_id_idx, n_idx_id, n_id_ta, n_ta_id, n_id_tj, n_tj_id, n_id8_idr, n_idr_id8, n_id8_id, n_id_id8, n_id8_idx, n_idx_id8, n_id8_ta, n_ta_id8, n_id8_tj, n_tj_id8]))
      intro id10 n_id10_id8 n_id10_idr n_id10_id h_id10
      have n_id8_id10 : ¬ id8 = id10 := fun e => n_id10_id8 e.symm
      have n_idr_id10 : ¬ idr = id10 := fun e => n_id10_idr e.symm
      have n_id_id10 : ¬ id = id10 := fun e => n_id10_id e.symm
      have n_idx_id10 : ¬ idx = id10 := by rintro rfl; rw [h2] at h_id10; cases h_id10
      have n_id10_idx : ¬ id10 = idx := fun e => n_idx_id10 e.symm
      have n_ta_id10 : ¬ ta = id10 := by rintro rfl; rw [h3] at h_id10; cases h_id10
      have n_id10_ta : ¬ id10 = ta := fun e => n_ta_id10 e.symm
      have n_tj_id10 : ¬ tj = id10 := by rintro rfl; rw [h4] at h_id10; cases h_id10
      have n_id10_tj : ¬ id10 = tj := fun e => n_tj_id10 e.symm
      repeat (first
        | (with_reducible first | apply AWp.seq | apply AWp.block | refine And.intro (by first | omega | assumption | decide) ?_)
        | ((first | (with_reducible first | apply AWp.fork | apply AWp.region | show condK _ _ _ | show guardK _ _ _ _ _ _ _ _ _) | ((with_reducible apply AWp.drawS (id := 12) (t := sc_41_12_XCode9)); (exact mixed); kernel_rfl; kernel_rfl; (repeat (with_reducible first | apply PanQ.then | apply PanQ.block | apply PanQ.body | apply PanQ.no))) | ((with_reducible apply aCall.id); first | apply aCall.gives (hwd _) | apply aCall.gives (hcr _) | apply aCall.gives (hn2 _ (by simp [n_id_idr, n_idr_id, n_id8_idr, n_idr_id8, n_id10_idr, n_idr_id10, h1])))); simp -implicitDefEqProofs [hw1, h3, h4, Try.underlying3, Try.underlying89, Try.underlying2, hw2, hw3, n_idr_idx, n_idx_idr, n_ta_tj, n_tj_ta, n_ta_idr, n_tj_idr, n_ta_idx, n_tj_idx, n_idr_ta, n_idr_tj, n_idx_ta, n_idx_tj, h1, h2, h3, h4, n_id_idr, n_idr_id, n_id_idx, n_idx_id, n_id_ta, n_ta_id, n_id_tj, n_tj_id, n_id8_idr, n_idr_id8, n_id8_id, n_id_id8, n_id8_idx, n_idx_id8, n_id8_ta, n_ta_id8, n_id8_tj, n_tj_id8, n_id10_id8, n_id8_id10, n_id10_idr, n_idr_id10, n_id10_id, n_id_id10, n_id10_idx, n_idx_id10, n_id10_ta, n_ta_id10, n_id10_tj, n_tj_id10])
        | ((with_reducible first | apply AWp.ret | apply AWp.skip | apply AWp.exit); try simp -implicitDefEqProofs [hw1, h3, h4, Try.underlying3, Try.underlying89, Try.underlying2, hw2, hw3, n_idr_idx, n_idx_idr, n_ta_tj, n_tj_ta, n_ta_idr, n_tj_idr, n_ta_idx, n_tj_idx, n_idr_ta, n_idr_tj, n_idx_ta, n_idx_tj, h1, h2, h3, h4, n_id_idr, n_idr_id, n_id_idx, n_idx_id, n_id_ta, n_ta_id, n_id_tj, n_tj_id, n_id8_idr, n_idr_id8, n_id8_id, n_id_id8, n_id8_idx, n_idx_id8, n_id8_ta, n_ta_id8, n_id8_tj, n_tj_id8, n_id10_id8, n_id8_id10, n_id10_idr, n_idr_id10, n_id10_id, n_id_id10, n_id10_idx, n_idx_id10, n_id10_ta, n_ta_id10, n_id10_tj, n_tj_id10]))
      intro j_ y_ hy_
      by_cases e_idr : j_ = idr
      · subst e_idr; simp [AS.set, rcC_def, i64v_def, h_id, h_id8, h_id10, n_idr_idx, n_idx_idr, n_ta_tj, n_tj_ta, n_ta_idr, n_tj_idr, n_ta_idx, n_tj_idx, n_idr_ta, n_idr_tj, n_idx_ta, n_idx_tj, h1, h2, h3, h4, n_id_idr, n_idr_id, n_id_idx, n_idx_id, n_id_ta, n_ta_id, n_id_tj, n_tj_id, n_id8_idr, n_idr_id8, n_id8_id, n_id_id8, n_id8_idx, n_idx_id8, n_id8_ta, n_ta_id8, n_id8_tj, n_tj_id8, n_id10_id8, n_id8_id10, n_id10_idr, n_idr_id10, n_id10_id, n_id_id10, n_id10_idx, n_idx_id10, n_id10_ta, n_ta_id10, n_id10_tj, n_tj_id10] at hy_ ⊢; try first | exact hy_ | (cases hy_; done)
      by_cases e_id : j_ = id
      · subst e_id; simp [AS.set, rcC_def, i64v_def, h_id, h_id8, h_id10, n_idr_idx, n_idx_idr, n_ta_tj, n_tj_ta, n_ta_idr, n_tj_idr, n_ta_idx, n_tj_idx, n_idr_ta, n_idr_tj, n_idx_ta, n_idx_tj, h1, h2, h3, h4, n_id_idr, n_idr_id, n_id_idx, n_idx_id, n_id_ta, n_ta_id, n_id_tj, n_tj_id, n_id8_idr, n_idr_id8, n_id8_id, n_id_id8, n_id8_idx, n_idx_id8, n_id8_ta, n_ta_id8, n_id8_tj, n_tj_id8, n_id10_id8, n_id8_id10, n_id10_idr, n_idr_id10, n_id10_id, n_id_id10, n_id10_idx, n_idx_id10, n_id10_ta, n_ta_id10, n_id10_tj, n_tj_id10] at hy_ ⊢; try first | exact hy_ | (cases hy_; done)
      by_cases e_id8 : j_ = id8
      · subst e_id8; simp [AS.set, rcC_def, i64v_def, h_id, h_id8, h_id10, n_idr_idx, n_idx_idr, n_ta_tj, n_tj_ta, n_ta_idr, n_tj_idr, n_ta_idx, n_tj_idx, n_idr_ta, n_idr_tj, n_idx_ta, n_idx_tj, h1, h2, h3, h4, n_id_idr, n_idr_id, n_id_idx, n_idx_id, n_id_ta, n_ta_id, n_id_tj, n_tj_id, n_id8_idr, n_idr_id8, n_id8_id, n_id_id8, n_id8_idx, n_idx_id8, n_id8_ta, n_ta_id8, n_id8_tj, n_tj_id8, n_id10_id8, n_id8_id10, n_id10_idr, n_idr_id10, n_id10_id, n_id_id10, n_id10_idx, n_idx_id10, n_id10_ta, n_ta_id10, n_id10_tj, n_tj_id10] at hy_ ⊢; try first | exact hy_ | (cases hy_; done)
      by_cases e_id10 : j_ = id10
      · subst e_id10; simp [AS.set, rcC_def, i64v_def, h_id, h_id8, h_id10, n_idr_idx, n_idx_idr, n_ta_tj, n_tj_ta, n_ta_idr, n_tj_idr, n_ta_idx, n_tj_idx, n_idr_ta, n_idr_tj, n_idx_ta, n_idx_tj, h1, h2, h3, h4, n_id_idr, n_idr_id, n_id_idx, n_idx_id, n_id_ta, n_ta_id, n_id_tj, n_tj_id, n_id8_idr, n_idr_id8, n_id8_id, n_id_id8, n_id8_idx, n_idx_id8, n_id8_ta, n_ta_id8, n_id8_tj, n_tj_id8, n_id10_id8, n_id8_id10, n_id10_idr, n_idr_id10, n_id10_id, n_id_id10, n_id10_idx, n_idx_id10, n_id10_ta, n_ta_id10, n_id10_tj, n_tj_id10] at hy_ ⊢; try first | exact hy_ | (cases hy_; done)
      by_cases e_idx : j_ = idx
      · subst e_idx; simp [AS.set, rcC_def, i64v_def, h_id, h_id8, h_id10, n_idr_idx, n_idx_idr, n_ta_tj, n_tj_ta, n_ta_idr, n_tj_idr, n_ta_idx, n_tj_idx, n_idr_ta, n_idr_tj, n_idx_ta, n_idx_tj, h1, h2, h3, h4, n_id_idr, n_idr_id, n_id_idx, n_idx_id, n_id_ta, n_ta_id, n_id_tj, n_tj_id, n_id8_idr, n_idr_id8, n_id8_id, n_id_id8, n_id8_idx, n_idx_id8, n_id8_ta, n_ta_id8, n_id8_tj, n_tj_id8, n_id10_id8, n_id8_id10, n_id10_idr, n_idr_id10, n_id10_id, n_id_id10, n_id10_idx, n_idx_id10, n_id10_ta, n_ta_id10, n_id10_tj, n_tj_id10] at hy_ ⊢; try first | exact hy_ | (cases hy_; done)
      by_cases e_ta : j_ = ta
      · subst e_ta; simp [AS.set, rcC_def, i64v_def, h_id, h_id8, h_id10, n_idr_idx, n_idx_idr, n_ta_tj, n_tj_ta, n_ta_idr, n_tj_idr, n_ta_idx, n_tj_idx, n_idr_ta, n_idr_tj, n_idx_ta, n_idx_tj, h1, h2, h3, h4, n_id_idr, n_idr_id, n_id_idx, n_idx_id, n_id_ta, n_ta_id, n_id_tj, n_tj_id, n_id8_idr, n_idr_id8, n_id8_id, n_id_id8, n_id8_idx, n_idx_id8, n_id8_ta, n_ta_id8, n_id8_tj, n_tj_id8, n_id10_id8, n_id8_id10, n_id10_idr, n_idr_id10, n_id10_id, n_id_id10, n_id10_idx, n_idx_id10, n_id10_ta, n_ta_id10, n_id10_tj, n_tj_id10] at hy_ ⊢; try first | exact hy_ | (cases hy_; done)
      by_cases e_tj : j_ = tj
      · subst e_tj; simp [AS.set, rcC_def, i64v_def, h_id, h_id8, h_id10, n_idr_idx, n_idx_idr, n_ta_tj, n_tj_ta, n_ta_idr, n_tj_idr, n_ta_idx, n_tj_idx, n_idr_ta, n_idr_tj, n_idx_ta, n_idx_tj, h1, h2, h3, h4, n_id_idr, n_idr_id, n_id_idx, n_idx_id, n_id_ta, n_ta_id, n_id_tj, n_tj_id, n_id8_idr, n_idr_id8, n_id8_id, n_id_id8, n_id8_idx, n_idx_id8, n_id8_ta, n_ta_id8, n_id8_tj, n_tj_id8, n_id10_id8, n_id8_id10, n_id10_idr, n_idr_id10, n_id10_id, n_id_id10, n_id10_idx, n_idx_id10, n_id10_ta, n_ta_id10, n_id10_tj, n_tj_id10] at hy_ ⊢; try first | exact hy_ | (cases hy_; done)
      simp [AS.set, rcC_def, i64v_def, h_id, h_id8, h_id10, n_idr_idx, n_idx_idr, n_ta_tj, n_tj_ta, n_ta_idr, n_tj_idr, n_ta_idx, n_tj_idx, n_idr_ta, n_idr_tj, n_idx_ta, n_idx_tj, h1, h2, h3, h4, n_id_idr, n_idr_id, n_id_idx, n_idx_id, n_id_ta, n_ta_id, n_id_tj, n_tj_id, n_id8_idr, n_idr_id8, n_id8_id, n_id_id8, n_id8_idx, n_idx_id8, n_id8_ta, n_ta_id8, n_id8_tj, n_tj_id8, n_id10_id8, n_id8_id10, n_id10_idr, n_idr_id10, n_id10_id, n_id_id10, n_id10_idx, n_idx_id10, n_id10_ta, n_ta_id10, n_id10_tj, n_tj_id10, e_idr, e_id, e_id8, e_id10, e_idx, e_ta, e_tj] at hy_ ⊢; try exact hy_
  · have hwd7 : wdO 7 = 2 := rfl
    simp only [hwd7] at hwd hs hn2 hV2 hwr ⊢
    have hn2 := hn2 (by decide)
    have hT' : T = 0 := by simp [hT]
    subst hT'
    have hav : argD 7 V = V - 1 := by simp [argD]
    simp at hV2
    have hw2 : IntKind.i64.wrap V = V := in_i64 (by omega) (by omega)
    have hw3 : IntKind.i64.wrap (V - 1) = V - 1 := in_i64 (by omega) (by omega)
    rw [hav] at hcr ⊢
    simp only [insV, noTy] at hcr ⊢
    cases rb
    all_goals
      simp only [if_true, if_false, Bool.false_eq_true] at hcr ⊢
      refine ACalls.of_body Try.func41 rfl rfl (by simp [Try.ntmps41]) ?_
      repeat (first
        | (with_reducible first | apply AWp.seq | apply AWp.block | refine And.intro (by first | omega | assumption | decide) ?_)
        | ((first | (with_reducible first | apply AWp.fork | apply AWp.region | show condK _ _ _ | show guardK _ _ _ _ _ _ _ _ _) | ((with_reducible apply AWp.drawS (id := 12) (t := sc_41_12_XCode9)); (exact mixed); kernel_rfl; kernel_rfl; (repeat (with_reducible first | apply PanQ.then | apply PanQ.block | apply PanQ.body | apply PanQ.no)))); simp -implicitDefEqProofs [n_idr_idx, n_idx_idr, n_ta_tj, n_tj_ta, n_ta_idr, n_tj_idr, n_ta_idx, n_tj_idx, n_idr_ta, n_idr_tj, n_idx_ta, n_idx_tj, h1, h2, h3, h4])
        | ((with_reducible first | apply AWp.ret | apply AWp.skip | apply AWp.exit); try simp -implicitDefEqProofs [n_idr_idx, n_idx_idr, n_ta_tj, n_tj_ta, n_ta_idr, n_tj_idr, n_ta_idx, n_tj_idx, n_idr_ta, n_idr_tj, n_idx_ta, n_idx_tj, h1, h2, h3, h4]))
      intro id h_id
      have n_idr_id : ¬ idr = id := by rintro rfl; rw [h1] at h_id; cases h_id
      have n_id_idr : ¬ id = idr := fun e => n_idr_id e.symm
      have n_idx_id : ¬ idx = id := by rintro rfl; rw [h2] at h_id; cases h_id
      have n_id_idx : ¬ id = idx := fun e => n_idx_id e.symm
      have n_ta_id : ¬ ta = id := by rintro rfl; rw [h3] at h_id; cases h_id
      have n_id_ta : ¬ id = ta := fun e => n_ta_id e.symm
      have n_tj_id : ¬ tj = id := by rintro rfl; rw [h4] at h_id; cases h_id
      have n_id_tj : ¬ id = tj := fun e => n_tj_id e.symm
      repeat (first
        | (with_reducible first | apply AWp.seq | apply AWp.block | refine And.intro (by first | omega | assumption | decide) ?_)
        | ((first | (with_reducible first | apply AWp.fork | apply AWp.region | show condK _ _ _ | show guardK _ _ _ _ _ _ _ _ _) | ((with_reducible apply AWp.drawS (id := 12) (t := sc_41_12_XCode9)); (exact mixed); kernel_rfl; kernel_rfl; (repeat (with_reducible first | apply PanQ.then | apply PanQ.block | apply PanQ.body | apply PanQ.no))) | ((with_reducible apply aCall.id); first | apply aCall.gives (hat a _ (by simp [n_id_idr, n_idr_id, h1])) | apply aCall.gives (hn _ (by simp [n_id_idr, n_idr_id, h1])) | apply aCall.gives (hf _))); simp -implicitDefEqProofs [hw1, Try.underlying3, Try.underlying89, n_idr_idx, n_idx_idr, n_ta_tj, n_tj_ta, n_ta_idr, n_tj_idr, n_ta_idx, n_tj_idx, n_idr_ta, n_idr_tj, n_idx_ta, n_idx_tj, h1, h2, h3, h4, n_id_idr, n_idr_id, n_id_idx, n_idx_id, n_id_ta, n_ta_id, n_id_tj, n_tj_id])
        | ((with_reducible first | apply AWp.ret | apply AWp.skip | apply AWp.exit); try simp -implicitDefEqProofs [hw1, Try.underlying3, Try.underlying89, n_idr_idx, n_idx_idr, n_ta_tj, n_tj_ta, n_ta_idr, n_tj_idr, n_ta_idx, n_tj_idx, n_idr_ta, n_idr_tj, n_idx_ta, n_idx_tj, h1, h2, h3, h4, n_id_idr, n_idr_id, n_id_idx, n_idx_id, n_id_ta, n_ta_id, n_id_tj, n_tj_id]))
      intro id8 n_id8_idr n_id8_id h_id8
      have n_idr_id8 : ¬ idr = id8 := fun e => n_id8_idr e.symm
      have n_id_id8 : ¬ id = id8 := fun e => n_id8_id e.symm
      have n_idx_id8 : ¬ idx = id8 := by rintro rfl; rw [h2] at h_id8; cases h_id8
      have n_id8_idx : ¬ id8 = idx := fun e => n_idx_id8 e.symm
      have n_ta_id8 : ¬ ta = id8 := by rintro rfl; rw [h3] at h_id8; cases h_id8
      have n_id8_ta : ¬ id8 = ta := fun e => n_ta_id8 e.symm
      have n_tj_id8 : ¬ tj = id8 := by rintro rfl; rw [h4] at h_id8; cases h_id8
      have n_id8_tj : ¬ id8 = tj := fun e => n_tj_id8 e.symm
      repeat (first
        | (with_reducible first | apply AWp.seq | apply AWp.block | refine And.intro (by first | omega | assumption | decide) ?_)
        | ((first | (with_reducible first | apply AWp.fork | apply AWp.region | show condK _ _ _ | show guardK _ _ _ _ _ _ _ _ _) | ((with_reducible apply AWp.drawS (id := 12) (t := sc_41_12_XCode9)); (exact mixed); kernel_rfl; kernel_rfl; (repeat (with_reducible first | apply PanQ.then | apply PanQ.block | apply PanQ.body | apply PanQ.no)))); simp -implicitDefEqProofs [hw1, Try.underlying3, Try.underlying89, n_idr_idx, n_idx_idr, n_ta_tj, n_tj_ta, n_ta_idr, n_tj_idr, n_ta_idx, n_tj_idx, n_idr_ta, n_idr_tj, n_idx_ta, n_idx_tj, h1, h2, h3, h4, n_id_idr, n_idr_id, n_id_idx, n_idx_id, n_id_ta, n_ta_id, n_id_tj, n_tj_id, n_id8_idr, n_idr_id8, n_id8_id, n_id_id8, n_id8_idx, n_idx_id8, n_id8_ta, n_ta_id8, n_id8_tj, n_tj_id8])
        | ((with_reducible first | apply AWp.ret | apply AWp.skip | apply AWp.exit); try simp -implicitDefEqProofs [hw1, Try.underlying3, Try.underlying89, n_idr_idx, n_idx_idr, n_ta_tj, n_tj_ta, n_ta_idr, n_tj_idr, n_ta_idx, n_tj_idx, n_idr_ta, n_idr_tj, n_idx_ta, n_idx_tj, h1, h2, h3, h4, n_id_idr, n_idr_id, n_id_idx, n_idx_id, n_id_ta, n_ta_id, n_id_tj, n_tj_id, n_id8_idr, n_idr_id8, n_id8_id, n_id_id8, n_id8_idx, n_idx_id8, n_id8_ta, n_ta_id8, n_id8_tj, n_tj_id8]))
      intro id10 n_id10_id8 n_id10_idr n_id10_id h_id10
      have n_id8_id10 : ¬ id8 = id10 := fun e => n_id10_id8 e.symm
      have n_idr_id10 : ¬ idr = id10 := fun e => n_id10_idr e.symm
      have n_id_id10 : ¬ id = id10 := fun e => n_id10_id e.symm
      have n_idx_id10 : ¬ idx = id10 := by rintro rfl; rw [h2] at h_id10; cases h_id10
      have n_id10_idx : ¬ id10 = idx := fun e => n_idx_id10 e.symm
      have n_ta_id10 : ¬ ta = id10 := by rintro rfl; rw [h3] at h_id10; cases h_id10
      have n_id10_ta : ¬ id10 = ta := fun e => n_ta_id10 e.symm
      have n_tj_id10 : ¬ tj = id10 := by rintro rfl; rw [h4] at h_id10; cases h_id10
      have n_id10_tj : ¬ id10 = tj := fun e => n_tj_id10 e.symm
      repeat (first
        | (with_reducible first | apply AWp.seq | apply AWp.block | refine And.intro (by first | omega | assumption | decide) ?_)
        | ((first | (with_reducible first | apply AWp.fork | apply AWp.region | show condK _ _ _ | show guardK _ _ _ _ _ _ _ _ _) | ((with_reducible apply AWp.drawS (id := 12) (t := sc_41_12_XCode9)); (exact mixed); kernel_rfl; kernel_rfl; (repeat (with_reducible first | apply PanQ.then | apply PanQ.block | apply PanQ.body | apply PanQ.no))) | ((with_reducible apply aCall.id); first | apply aCall.gives (hwd _) | apply aCall.gives (hcr _) | apply aCall.gives (hn2 _ (by simp [n_id_idr, n_idr_id, n_id8_idr, n_idr_id8, n_id10_idr, n_idr_id10, h1])))); simp -implicitDefEqProofs [hw1, h3, h4, Try.underlying3, Try.underlying89, Try.underlying2, hw2, hw3, n_idr_idx, n_idx_idr, n_ta_tj, n_tj_ta, n_ta_idr, n_tj_idr, n_ta_idx, n_tj_idx, n_idr_ta, n_idr_tj, n_idx_ta, n_idx_tj, h1, h2, h3, h4, n_id_idr, n_idr_id, n_id_idx, n_idx_id, n_id_ta, n_ta_id, n_id_tj, n_tj_id, n_id8_idr, n_idr_id8, n_id8_id, n_id_id8, n_id8_idx, n_idx_id8, n_id8_ta, n_ta_id8, n_id8_tj, n_tj_id8, n_id10_id8, n_id8_id10, n_id10_idr, n_idr_id10, n_id10_id, n_id_id10, n_id10_idx, n_idx_id10, n_id10_ta, n_ta_id10, n_id10_tj, n_tj_id10])
        | ((with_reducible first | apply AWp.ret | apply AWp.skip | apply AWp.exit); try simp -implicitDefEqProofs [hw1, h3, h4, Try.underlying3, Try.underlying89, Try.underlying2, hw2, hw3, n_idr_idx, n_idx_idr, n_ta_tj, n_tj_ta, n_ta_idr, n_tj_idr, n_ta_idx, n_tj_idx, n_idr_ta, n_idr_tj, n_idx_ta, n_idx_tj, h1, h2, h3, h4, n_id_idr, n_idr_id, n_id_idx, n_idx_id, n_id_ta, n_ta_id, n_id_tj, n_tj_id, n_id8_idr, n_idr_id8, n_id8_id, n_id_id8, n_id8_idx, n_idx_id8, n_id8_ta, n_ta_id8, n_id8_tj, n_tj_id8, n_id10_id8, n_id8_id10, n_id10_idr, n_idr_id10, n_id10_id, n_id_id10, n_id10_idx, n_idx_id10, n_id10_ta, n_ta_id10, n_id10_tj, n_tj_id10]))
      intro j_ y_ hy_
      by_cases e_idr : j_ = idr
      · subst e_idr; simp [AS.set, rcC_def, i64v_def, h_id, h_id8, h_id10, n_idr_idx, n_idx_idr, n_ta_tj, n_tj_ta, n_ta_idr, n_tj_idr, n_ta_idx, n_tj_idx, n_idr_ta, n_idr_tj, n_idx_ta, n_idx_tj, h1, h2, h3, h4, n_id_idr, n_idr_id, n_id_idx, n_idx_id, n_id_ta, n_ta_id, n_id_tj, n_tj_id, n_id8_idr, n_idr_id8, n_id8_id, n_id_id8, n_id8_idx, n_idx_id8, n_id8_ta, n_ta_id8, n_id8_tj, n_tj_id8, n_id10_id8, n_id8_id10, n_id10_idr, n_idr_id10, n_id10_id, n_id_id10, n_id10_idx, n_idx_id10, n_id10_ta, n_ta_id10, n_id10_tj, n_tj_id10] at hy_ ⊢; try first | exact hy_ | (cases hy_; done)
      by_cases e_id : j_ = id
      · subst e_id; simp [AS.set, rcC_def, i64v_def, h_id, h_id8, h_id10, n_idr_idx, n_idx_idr, n_ta_tj, n_tj_ta, n_ta_idr, n_tj_idr, n_ta_idx, n_tj_idx, n_idr_ta, n_idr_tj, n_idx_ta, n_idx_tj, h1, h2, h3, h4, n_id_idr, n_idr_id, n_id_idx, n_idx_id, n_id_ta, n_ta_id, n_id_tj, n_tj_id, n_id8_idr, n_idr_id8, n_id8_id, n_id_id8, n_id8_idx, n_idx_id8, n_id8_ta, n_ta_id8, n_id8_tj, n_tj_id8, n_id10_id8, n_id8_id10, n_id10_idr, n_idr_id10, n_id10_id, n_id_id10, n_id10_idx, n_idx_id10, n_id10_ta, n_ta_id10, n_id10_tj, n_tj_id10] at hy_ ⊢; try first | exact hy_ | (cases hy_; done)
      by_cases e_id8 : j_ = id8
      · subst e_id8; simp [AS.set, rcC_def, i64v_def, h_id, h_id8, h_id10, n_idr_idx, n_idx_idr, n_ta_tj, n_tj_ta, n_ta_idr, n_tj_idr, n_ta_idx, n_tj_idx, n_idr_ta, n_idr_tj, n_idx_ta, n_idx_tj, h1, h2, h3, h4, n_id_idr, n_idr_id, n_id_idx, n_idx_id, n_id_ta, n_ta_id, n_id_tj, n_tj_id, n_id8_idr, n_idr_id8, n_id8_id, n_id_id8, n_id8_idx, n_idx_id8, n_id8_ta, n_ta_id8, n_id8_tj, n_tj_id8, n_id10_id8, n_id8_id10, n_id10_idr, n_idr_id10, n_id10_id, n_id_id10, n_id10_idx, n_idx_id10, n_id10_ta, n_ta_id10, n_id10_tj, n_tj_id10] at hy_ ⊢; try first | exact hy_ | (cases hy_; done)
      by_cases e_id10 : j_ = id10
      · subst e_id10; simp [AS.set, rcC_def, i64v_def, h_id, h_id8, h_id10, n_idr_idx, n_idx_idr, n_ta_tj, n_tj_ta, n_ta_idr, n_tj_idr, n_ta_idx, n_tj_idx, n_idr_ta, n_idr_tj, n_idx_ta, n_idx_tj, h1, h2, h3, h4, n_id_idr, n_idr_id, n_id_idx, n_idx_id, n_id_ta, n_ta_id, n_id_tj, n_tj_id, n_id8_idr, n_idr_id8, n_id8_id, n_id_id8, n_id8_idx, n_idx_id8, n_id8_ta, n_ta_id8, n_id8_tj, n_tj_id8, n_id10_id8, n_id8_id10, n_id10_idr, n_idr_id10, n_id10_id, n_id_id10, n_id10_idx, n_idx_id10, n_id10_ta, n_ta_id10, n_id10_tj, n_tj_id10] at hy_ ⊢; try first | exact hy_ | (cases hy_; done)
      by_cases e_idx : j_ = idx
      · subst e_idx; simp [AS.set, rcC_def, i64v_def, h_id, h_id8, h_id10, n_idr_idx, n_idx_idr, n_ta_tj, n_tj_ta, n_ta_idr, n_tj_idr, n_ta_idx, n_tj_idx, n_idr_ta, n_idr_tj, n_idx_ta, n_idx_tj, h1, h2, h3, h4, n_id_idr, n_idr_id, n_id_idx, n_idx_id, n_id_ta, n_ta_id, n_id_tj, n_tj_id, n_id8_idr, n_idr_id8, n_id8_id, n_id_id8, n_id8_idx, n_idx_id8, n_id8_ta, n_ta_id8, n_id8_tj, n_tj_id8, n_id10_id8, n_id8_id10, n_id10_idr, n_idr_id10, n_id10_id, n_id_id10, n_id10_idx, n_idx_id10, n_id10_ta, n_ta_id10, n_id10_tj, n_tj_id10] at hy_ ⊢; try first | exact hy_ | (cases hy_; done)
      by_cases e_ta : j_ = ta
      · subst e_ta; simp [AS.set, rcC_def, i64v_def, h_id, h_id8, h_id10, n_idr_idx, n_idx_idr, n_ta_tj, n_tj_ta, n_ta_idr, n_tj_idr, n_ta_idx, n_tj_idx, n_idr_ta, n_idr_tj, n_idx_ta, n_idx_tj, h1, h2, h3, h4, n_id_idr, n_idr_id, n_id_idx, n_idx_id, n_id_ta, n_ta_id, n_id_tj, n_tj_id, n_id8_idr, n_idr_id8, n_id8_id, n_id_id8, n_id8_idx, n_idx_id8, n_id8_ta, n_ta_id8, n_id8_tj, n_tj_id8, n_id10_id8, n_id8_id10, n_id10_idr, n_idr_id10, n_id10_id, n_id_id10, n_id10_idx, n_idx_id10, n_id10_ta, n_ta_id10, n_id10_tj, n_tj_id10] at hy_ ⊢; try first | exact hy_ | (cases hy_; done)
      by_cases e_tj : j_ = tj
      · subst e_tj; simp [AS.set, rcC_def, i64v_def, h_id, h_id8, h_id10, n_idr_idx, n_idx_idr, n_ta_tj, n_tj_ta, n_ta_idr, n_tj_idr, n_ta_idx, n_tj_idx, n_idr_ta, n_idr_tj, n_idx_ta, n_idx_tj, h1, h2, h3, h4, n_id_idr, n_idr_id, n_id_idx, n_idx_id, n_id_ta, n_ta_id, n_id_tj, n_tj_id, n_id8_idr, n_idr_id8, n_id8_id, n_id_id8, n_id8_idx, n_idx_id8, n_id8_ta, n_ta_id8, n_id8_tj, n_tj_id8, n_id10_id8, n_id8_id10, n_id10_idr, n_idr_id10, n_id10_id, n_id_id10, n_id10_idx, n_idx_id10, n_id10_ta, n_ta_id10, n_id10_tj, n_tj_id10] at hy_ ⊢; try first | exact hy_ | (cases hy_; done)
      simp [AS.set, rcC_def, i64v_def, h_id, h_id8, h_id10, n_idr_idx, n_idx_idr, n_ta_tj, n_tj_ta, n_ta_idr, n_tj_idr, n_ta_idx, n_tj_idx, n_idr_ta, n_idr_tj, n_idx_ta, n_idx_tj, h1, h2, h3, h4, n_id_idr, n_idr_id, n_id_idx, n_idx_id, n_id_ta, n_ta_id, n_id_tj, n_tj_id, n_id8_idr, n_idr_id8, n_id8_id, n_id_id8, n_id8_idx, n_idx_id8, n_id8_ta, n_ta_id8, n_id8_tj, n_tj_id8, n_id10_id8, n_id8_id10, n_id10_idr, n_idr_id10, n_id10_id, n_id_id10, n_id10_idx, n_idx_id10, n_id10_ta, n_ta_id10, n_id10_tj, n_tj_id10, e_idr, e_id, e_id8, e_id10, e_idx, e_ta, e_tj] at hy_ ⊢; try exact hy_
  · have hwd8 : wdO 8 = 2 := rfl
    simp only [hwd8] at hwd hs hn2 hV2 hwr ⊢
    have hn2 := hn2 (by decide)
    have hT' : T = 0 := by simp [hT]
    subst hT'
    have hav : argD 8 V = V := by simp [argD]
    simp at hV2
    have hw2 : IntKind.i64.wrap V = V := in_i64 (by omega) (by omega)
    rw [hav] at hcr ⊢
    simp only [insV, noTy] at hcr ⊢
    cases rb
    all_goals
      simp only [if_true, if_false, Bool.false_eq_true] at hcr ⊢
      refine ACalls.of_body Try.func41 rfl rfl (by simp [Try.ntmps41]) ?_
      repeat (first
        | (with_reducible first | apply AWp.seq | apply AWp.block | refine And.intro (by first | omega | assumption | decide) ?_)
        | ((first | (with_reducible first | apply AWp.fork | apply AWp.region | show condK _ _ _ | show guardK _ _ _ _ _ _ _ _ _) | ((with_reducible apply AWp.drawS (id := 12) (t := sc_41_12_XCode9)); (exact mixed); kernel_rfl; kernel_rfl; (repeat (with_reducible first | apply PanQ.then | apply PanQ.block | apply PanQ.body | apply PanQ.no)))); simp -implicitDefEqProofs [n_idr_idx, n_idx_idr, n_ta_tj, n_tj_ta, n_ta_idr, n_tj_idr, n_ta_idx, n_tj_idx, n_idr_ta, n_idr_tj, n_idx_ta, n_idx_tj, h1, h2, h3, h4])
        | ((with_reducible first | apply AWp.ret | apply AWp.skip | apply AWp.exit); try simp -implicitDefEqProofs [n_idr_idx, n_idx_idr, n_ta_tj, n_tj_ta, n_ta_idr, n_tj_idr, n_ta_idx, n_tj_idx, n_idr_ta, n_idr_tj, n_idx_ta, n_idx_tj, h1, h2, h3, h4]))
      intro id h_id
      have n_idr_id : ¬ idr = id := by rintro rfl; rw [h1] at h_id; cases h_id
      have n_id_idr : ¬ id = idr := fun e => n_idr_id e.symm
      have n_idx_id : ¬ idx = id := by rintro rfl; rw [h2] at h_id; cases h_id
      have n_id_idx : ¬ id = idx := fun e => n_idx_id e.symm
      have n_ta_id : ¬ ta = id := by rintro rfl; rw [h3] at h_id; cases h_id
      have n_id_ta : ¬ id = ta := fun e => n_ta_id e.symm
      have n_tj_id : ¬ tj = id := by rintro rfl; rw [h4] at h_id; cases h_id
      have n_id_tj : ¬ id = tj := fun e => n_tj_id e.symm
      repeat (first
        | (with_reducible first | apply AWp.seq | apply AWp.block | refine And.intro (by first | omega | assumption | decide) ?_)
        | ((first | (with_reducible first | apply AWp.fork | apply AWp.region | show condK _ _ _ | show guardK _ _ _ _ _ _ _ _ _) | ((with_reducible apply AWp.drawS (id := 12) (t := sc_41_12_XCode9)); (exact mixed); kernel_rfl; kernel_rfl; (repeat (with_reducible first | apply PanQ.then | apply PanQ.block | apply PanQ.body | apply PanQ.no))) | ((with_reducible apply aCall.id); first | apply aCall.gives (hat a _ (by simp [n_id_idr, n_idr_id, h1])) | apply aCall.gives (hn _ (by simp [n_id_idr, n_idr_id, h1])) | apply aCall.gives (hf _))); simp -implicitDefEqProofs [hw1, Try.underlying3, Try.underlying89, n_idr_idx, n_idx_idr, n_ta_tj, n_tj_ta, n_ta_idr, n_tj_idr, n_ta_idx, n_tj_idx, n_idr_ta, n_idr_tj, n_idx_ta, n_idx_tj, h1, h2, h3, h4, n_id_idr, n_idr_id, n_id_idx, n_idx_id, n_id_ta, n_ta_id, n_id_tj, n_tj_id])
        | ((with_reducible first | apply AWp.ret | apply AWp.skip | apply AWp.exit); try simp -implicitDefEqProofs [hw1, Try.underlying3, Try.underlying89, n_idr_idx, n_idx_idr, n_ta_tj, n_tj_ta, n_ta_idr, n_tj_idr, n_ta_idx, n_tj_idx, n_idr_ta, n_idr_tj, n_idx_ta, n_idx_tj, h1, h2, h3, h4, n_id_idr, n_idr_id, n_id_idx, n_idx_id, n_id_ta, n_ta_id, n_id_tj, n_tj_id]))
      intro id8 n_id8_idr n_id8_id h_id8
      have n_idr_id8 : ¬ idr = id8 := fun e => n_id8_idr e.symm
      have n_id_id8 : ¬ id = id8 := fun e => n_id8_id e.symm
      have n_idx_id8 : ¬ idx = id8 := by rintro rfl; rw [h2] at h_id8; cases h_id8
      have n_id8_idx : ¬ id8 = idx := fun e => n_idx_id8 e.symm
      have n_ta_id8 : ¬ ta = id8 := by rintro rfl; rw [h3] at h_id8; cases h_id8
      have n_id8_ta : ¬ id8 = ta := fun e => n_ta_id8 e.symm
      have n_tj_id8 : ¬ tj = id8 := by rintro rfl; rw [h4] at h_id8; cases h_id8
      have n_id8_tj : ¬ id8 = tj := fun e => n_tj_id8 e.symm
      repeat (first
        | (with_reducible first | apply AWp.seq | apply AWp.block | refine And.intro (by first | omega | assumption | decide) ?_)
        | ((first | (with_reducible first | apply AWp.fork | apply AWp.region | show condK _ _ _ | show guardK _ _ _ _ _ _ _ _ _) | ((with_reducible apply AWp.drawS (id := 12) (t := sc_41_12_XCode9)); (exact mixed); kernel_rfl; kernel_rfl; (repeat (with_reducible first | apply PanQ.then | apply PanQ.block | apply PanQ.body | apply PanQ.no)))); simp -implicitDefEqProofs [hw1, Try.underlying3, Try.underlying89, n_idr_idx, n_idx_idr, n_ta_tj, n_tj_ta, n_ta_idr, n_tj_idr, n_ta_idx, n_tj_idx, n_idr_ta, n_idr_tj, n_idx_ta, n_idx_tj, h1, h2, h3, h4, n_id_idr, n_idr_id, n_id_idx, n_idx_id, n_id_ta, n_ta_id, n_id_tj, n_tj_id, n_id8_idr, n_idr_id8, n_id8_id, n_id_id8, n_id8_idx, n_idx_id8, n_id8_ta, n_ta_id8, n_id8_tj, n_tj_id8])
        | ((with_reducible first | apply AWp.ret | apply AWp.skip | apply AWp.exit); try simp -implicitDefEqProofs [hw1, Try.underlying3, Try.underlying89, n_idr_idx, n_idx_idr, n_ta_tj, n_tj_ta, n_ta_idr, n_tj_idr, n_ta_idx, n_tj_idx, n_idr_ta, n_idr_tj, n_idx_ta, n_idx_tj, h1, h2, h3, h4, n_id_idr, n_idr_id, n_id_idx, n_idx_id, n_id_ta, n_ta_id, n_id_tj, n_tj_id, n_id8_idr, n_idr_id8, n_id8_id, n_id_id8, n_id8_idx, n_idx_id8, n_id8_ta, n_ta_id8, n_id8_tj, n_tj_id8]))
      intro id10 n_id10_id8 n_id10_idr n_id10_id h_id10
      have n_id8_id10 : ¬ id8 = id10 := fun e => n_id10_id8 e.symm
      have n_idr_id10 : ¬ idr = id10 := fun e => n_id10_idr e.symm
      have n_id_id10 : ¬ id = id10 := fun e => n_id10_id e.symm
      have n_idx_id10 : ¬ idx = id10 := by rintro rfl; rw [h2] at h_id10; cases h_id10
      have n_id10_idx : ¬ id10 = idx := fun e => n_idx_id10 e.symm
      have n_ta_id10 : ¬ ta = id10 := by rintro rfl; rw [h3] at h_id10; cases h_id10
      have n_id10_ta : ¬ id10 = ta := fun e => n_ta_id10 e.symm
      have n_tj_id10 : ¬ tj = id10 := by rintro rfl; rw [h4] at h_id10; cases h_id10
      have n_id10_tj : ¬ id10 = tj := fun e => n_tj_id10 e.symm
      repeat (first
        | (with_reducible first | apply AWp.seq | apply AWp.block | refine And.intro (by first | omega | assumption | decide) ?_)
        | ((first | (with_reducible first | apply AWp.fork | apply AWp.region | show condK _ _ _ | show guardK _ _ _ _ _ _ _ _ _) | ((with_reducible apply AWp.drawS (id := 12) (t := sc_41_12_XCode9)); (exact mixed); kernel_rfl; kernel_rfl; (repeat (with_reducible first | apply PanQ.then | apply PanQ.block | apply PanQ.body | apply PanQ.no))) | ((with_reducible apply aCall.id); first | apply aCall.gives (hwd _) | apply aCall.gives (hcr _) | apply aCall.gives (hn2 _ (by simp [n_id_idr, n_idr_id, n_id8_idr, n_idr_id8, n_id10_idr, n_idr_id10, h1])))); simp -implicitDefEqProofs [hw1, h3, h4, Try.underlying3, Try.underlying89, Try.underlying2, hw2, n_idr_idx, n_idx_idr, n_ta_tj, n_tj_ta, n_ta_idr, n_tj_idr, n_ta_idx, n_tj_idx, n_idr_ta, n_idr_tj, n_idx_ta, n_idx_tj, h1, h2, h3, h4, n_id_idr, n_idr_id, n_id_idx, n_idx_id, n_id_ta, n_ta_id, n_id_tj, n_tj_id, n_id8_idr, n_idr_id8, n_id8_id, n_id_id8, n_id8_idx, n_idx_id8, n_id8_ta, n_ta_id8, n_id8_tj, n_tj_id8, n_id10_id8, n_id8_id10, n_id10_idr, n_idr_id10, n_id10_id, n_id_id10, n_id10_idx, n_idx_id10, n_id10_ta, n_ta_id10, n_id10_tj, n_tj_id10])
        | ((with_reducible first | apply AWp.ret | apply AWp.skip | apply AWp.exit); try simp -implicitDefEqProofs [hw1, h3, h4, Try.underlying3, Try.underlying89, Try.underlying2, hw2, n_idr_idx, n_idx_idr, n_ta_tj, n_tj_ta, n_ta_idr, n_tj_idr, n_ta_idx, n_tj_idx, n_idr_ta, n_idr_tj, n_idx_ta, n_idx_tj, h1, h2, h3, h4, n_id_idr, n_idr_id, n_id_idx, n_idx_id, n_id_ta, n_ta_id, n_id_tj, n_tj_id, n_id8_idr, n_idr_id8, n_id8_id, n_id_id8, n_id8_idx, n_idx_id8, n_id8_ta, n_ta_id8, n_id8_tj, n_tj_id8, n_id10_id8, n_id8_id10, n_id10_idr, n_idr_id10, n_id10_id, n_id_id10, n_id10_idx, n_idx_id10, n_id10_ta, n_ta_id10, n_id10_tj, n_tj_id10]))
      intro j_ y_ hy_
      by_cases e_idr : j_ = idr
      · subst e_idr; simp [AS.set, rcC_def, i64v_def, h_id, h_id8, h_id10, n_idr_idx, n_idx_idr, n_ta_tj, n_tj_ta, n_ta_idr, n_tj_idr, n_ta_idx, n_tj_idx, n_idr_ta, n_idr_tj, n_idx_ta, n_idx_tj, h1, h2, h3, h4, n_id_idr, n_idr_id, n_id_idx, n_idx_id, n_id_ta, n_ta_id, n_id_tj, n_tj_id, n_id8_idr, n_idr_id8, n_id8_id, n_id_id8, n_id8_idx, n_idx_id8, n_id8_ta, n_ta_id8, n_id8_tj, n_tj_id8, n_id10_id8, n_id8_id10, n_id10_idr, n_idr_id10, n_id10_id, n_id_id10, n_id10_idx, n_idx_id10, n_id10_ta, n_ta_id10, n_id10_tj, n_tj_id10] at hy_ ⊢; try first | exact hy_ | (cases hy_; done)
      by_cases e_id : j_ = id
      · subst e_id; simp [AS.set, rcC_def, i64v_def, h_id, h_id8, h_id10, n_idr_idx, n_idx_idr, n_ta_tj, n_tj_ta, n_ta_idr, n_tj_idr, n_ta_idx, n_tj_idx, n_idr_ta, n_idr_tj, n_idx_ta, n_idx_tj, h1, h2, h3, h4, n_id_idr, n_idr_id, n_id_idx, n_idx_id, n_id_ta, n_ta_id, n_id_tj, n_tj_id, n_id8_idr, n_idr_id8, n_id8_id, n_id_id8, n_id8_idx, n_idx_id8, n_id8_ta, n_ta_id8, n_id8_tj, n_tj_id8, n_id10_id8, n_id8_id10, n_id10_idr, n_idr_id10, n_id10_id, n_id_id10, n_id10_idx, n_idx_id10, n_id10_ta, n_ta_id10, n_id10_tj, n_tj_id10] at hy_ ⊢; try first | exact hy_ | (cases hy_; done)
      by_cases e_id8 : j_ = id8
      · subst e_id8; simp [AS.set, rcC_def, i64v_def, h_id, h_id8, h_id10, n_idr_idx, n_idx_idr, n_ta_tj, n_tj_ta, n_ta_idr, n_tj_idr, n_ta_idx, n_tj_idx, n_idr_ta, n_idr_tj, n_idx_ta, n_idx_tj, h1, h2, h3, h4, n_id_idr, n_idr_id, n_id_idx, n_idx_id, n_id_ta, n_ta_id, n_id_tj, n_tj_id, n_id8_idr, n_idr_id8, n_id8_id, n_id_id8, n_id8_idx, n_idx_id8, n_id8_ta, n_ta_id8, n_id8_tj, n_tj_id8, n_id10_id8, n_id8_id10, n_id10_idr, n_idr_id10, n_id10_id, n_id_id10, n_id10_idx, n_idx_id10, n_id10_ta, n_ta_id10, n_id10_tj, n_tj_id10] at hy_ ⊢; try first | exact hy_ | (cases hy_; done)
      by_cases e_id10 : j_ = id10
      · subst e_id10; simp [AS.set, rcC_def, i64v_def, h_id, h_id8, h_id10, n_idr_idx, n_idx_idr, n_ta_tj, n_tj_ta, n_ta_idr, n_tj_idr, n_ta_idx, n_tj_idx, n_idr_ta, n_idr_tj, n_idx_ta, n_idx_tj, h1, h2, h3, h4, n_id_idr, n_idr_id, n_id_idx, n_idx_id, n_id_ta, n_ta_id, n_id_tj, n_tj_id, n_id8_idr, n_idr_id8, n_id8_id, n_id_id8, n_id8_idx, n_idx_id8, n_id8_ta, n_ta_id8, n_id8_tj, n_tj_id8, n_id10_id8, n_id8_id10, n_id10_idr, n_idr_id10, n_id10_id, n_id_id10, n_id10_idx, n_idx_id10, n_id10_ta, n_ta_id10, n_id10_tj, n_tj_id10] at hy_ ⊢; try first | exact hy_ | (cases hy_; done)
      by_cases e_idx : j_ = idx
      · subst e_idx; simp [AS.set, rcC_def, i64v_def, h_id, h_id8, h_id10, n_idr_idx, n_idx_idr, n_ta_tj, n_tj_ta, n_ta_idr, n_tj_idr, n_ta_idx, n_tj_idx, n_idr_ta, n_idr_tj, n_idx_ta, n_idx_tj, h1, h2, h3, h4, n_id_idr, n_idr_id, n_id_idx, n_idx_id, n_id_ta, n_ta_id, n_id_tj, n_tj_id, n_id8_idr, n_idr_id8, n_id8_id, n_id_id8, n_id8_idx, n_idx_id8, n_id8_ta, n_ta_id8, n_id8_tj, n_tj_id8, n_id10_id8, n_id8_id10, n_id10_idr, n_idr_id10, n_id10_id, n_id_id10, n_id10_idx, n_idx_id10, n_id10_ta, n_ta_id10, n_id10_tj, n_tj_id10] at hy_ ⊢; try first | exact hy_ | (cases hy_; done)
      by_cases e_ta : j_ = ta
      · subst e_ta; simp [AS.set, rcC_def, i64v_def, h_id, h_id8, h_id10, n_idr_idx, n_idx_idr, n_ta_tj, n_tj_ta, n_ta_idr, n_tj_idr, n_ta_idx, n_tj_idx, n_idr_ta, n_idr_tj, n_idx_ta, n_idx_tj, h1, h2, h3, h4, n_id_idr, n_idr_id, n_id_idx, n_idx_id, n_id_ta, n_ta_id, n_id_tj, n_tj_id, n_id8_idr, n_idr_id8, n_id8_id, n_id_id8, n_id8_idx, n_idx_id8, n_id8_ta, n_ta_id8, n_id8_tj, n_tj_id8, n_id10_id8, n_id8_id10, n_id10_idr, n_idr_id10, n_id10_id, n_id_id10, n_id10_idx, n_idx_id10, n_id10_ta, n_ta_id10, n_id10_tj, n_tj_id10] at hy_ ⊢; try first | exact hy_ | (cases hy_; done)
      by_cases e_tj : j_ = tj
      · subst e_tj; simp [AS.set, rcC_def, i64v_def, h_id, h_id8, h_id10, n_idr_idx, n_idx_idr, n_ta_tj, n_tj_ta, n_ta_idr, n_tj_idr, n_ta_idx, n_tj_idx, n_idr_ta, n_idr_tj, n_idx_ta, n_idx_tj, h1, h2, h3, h4, n_id_idr, n_idr_id, n_id_idx, n_idx_id, n_id_ta, n_ta_id, n_id_tj, n_tj_id, n_id8_idr, n_idr_id8, n_id8_id, n_id_id8, n_id8_idx, n_idx_id8, n_id8_ta, n_ta_id8, n_id8_tj, n_tj_id8, n_id10_id8, n_id8_id10, n_id10_idr, n_idr_id10, n_id10_id, n_id_id10, n_id10_idx, n_idx_id10, n_id10_ta, n_ta_id10, n_id10_tj, n_tj_id10] at hy_ ⊢; try first | exact hy_ | (cases hy_; done)
      simp [AS.set, rcC_def, i64v_def, h_id, h_id8, h_id10, n_idr_idx, n_idx_idr, n_ta_tj, n_tj_ta, n_ta_idr, n_tj_idr, n_ta_idx, n_tj_idx, n_idr_ta, n_idr_tj, n_idx_ta, n_idx_tj, h1, h2, h3, h4, n_id_idr, n_idr_id, n_id_idx, n_idx_id, n_id_ta, n_ta_id, n_id_tj, n_tj_id, n_id8_idr, n_idr_id8, n_id8_id, n_id_id8, n_id8_idx, n_idx_id8, n_id8_ta, n_ta_id8, n_id8_tj, n_tj_id8, n_id10_id8, n_id8_id10, n_id10_idr, n_idr_id10, n_id10_id, n_id_id10, n_id10_idx, n_idx_id10, n_id10_ta, n_ta_id10, n_id10_tj, n_tj_id10, e_idr, e_id, e_id8, e_id10, e_idx, e_ta, e_tj] at hy_ ⊢; try exact hy_
end

end Go.Proofs.Ytnkjbgcbchbonaa
