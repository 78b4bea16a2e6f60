/- The reference's Of, Named, Fits (chapter 06). -/
import Derived.Test.YtknalmoackcpbaaGreatOps4
set_option linter.unusedSimpArgs false
set_option linter.unusedVariables false
set_option maxRecDepth 100000
set_option maxHeartbeats 3200000
namespace Go.Proofs.YtknalmoackcpbaaGreat
open Go Go.AW
abbrev sc_128_3_XOps5 : Sch := (Sch.step 0 (Sch.step 2 (Sch.step 3 (Sch.step 4 (Sch.step 5 (Sch.step 6 (Sch.step 7 (Sch.step 8 (Sch.step 9 (Sch.step 10 (Sch.step 11 (Sch.pure 1 (Sch.step 12 (Sch.alt 13 (Sch.step 14 Sch.done) Sch.none))))))))))))))
theorem rName_in (k : Nat) (hk : k < 75) (σ : AS) : ACalls Tryz.prog 181 [.sc (.int .i64 ((k : Int) + 1))] σ (Gives (.sc (.string ⟨(ofT ((k : Int) + 1)).1.toArray⟩)) σ) No := by
  have := rName_ok ((k : Int) + 1) σ
  rw [nm_op ⟨k, hk⟩] at this
  exact this
def OD : ByteArray := ({ data := (List.toArray (List.append [48, 52, 52, 52, 51, 51, 51, 49, 50, 48, 48, 48, 48, 48, 48, 48, 48, 48, 48, 48, 48, 48, 48, 48, 48, 48, 48, 48, 48, 48, 48, 48, 48, 53, 53, 53, 53] [53, 53, 53, 53, 53, 54, 54, 54, 48, 48, 55, 55, 55, 55, 55, 55, 56, 56, 56, 56, 48, 56, 56, 56, 56, 56, 56, 56, 56, 54, 56, 48, 48, 53, 48, 48, 48, 48])) } : ByteArray)
theorem OD_f : (({ data := (List.toArray (List.append [48, 52, 52, 52, 51, 51, 51, 49, 50, 48, 48, 48, 48, 48, 48, 48, 48, 48, 48, 48, 48, 48, 48, 48, 48, 48, 48, 48, 48, 48, 48, 48, 48, 53, 53, 53, 53] [53, 53, 53, 53, 53, 54, 54, 54, 48, 48, 55, 55, 55, 55, 55, 55, 56, 56, 56, 56, 48, 56, 56, 56, 56, 56, 56, 56, 56, 54, 56, 48, 48, 53, 48, 48, 48, 48])) } : ByteArray) : ByteArray) = OD := rfl
def OD_l : List UInt8 := [48, 52, 52, 52, 51, 51, 51, 49, 50, 48, 48, 48, 48, 48, 48, 48, 48, 48, 48, 48, 48, 48, 48, 48, 48, 48, 48, 48, 48, 48, 48, 48, 48, 53, 53, 53, 53, 53, 53, 53, 53, 53, 54, 54, 54, 48, 48, 55, 55, 55, 55, 55, 55, 56, 56, 56, 56, 48, 56, 56, 56, 56, 56, 56, 56, 56, 54, 56, 48, 48, 53, 48, 48, 48, 48]
theorem OD_d : OD.data.toList = OD_l := by decide +kernel
theorem OD_n : OD.size = 75 := by decide +kernel
def FL : ByteArray := ({ data := (List.toArray (List.append [48, 48, 48, 48, 48, 48, 48, 48, 48, 48, 48, 48, 48, 48, 48, 48, 48, 48, 48, 48, 48, 48, 48, 48, 48, 48, 48, 48, 48, 48, 48, 48, 48, 49, 50, 50, 50] [50, 50, 50, 50, 50, 48, 48, 48, 51, 48, 48, 48, 48, 48, 48, 48, 48, 48, 48, 48, 48, 48, 48, 48, 48, 48, 48, 48, 48, 48, 48, 51, 51, 52, 53, 53, 48, 48])) } : ByteArray)
theorem FL_f : (({ data := (List.toArray (List.append [48, 48, 48, 48, 48, 48, 48, 48, 48, 48, 48, 48, 48, 48, 48, 48, 48, 48, 48, 48, 48, 48, 48, 48, 48, 48, 48, 48, 48, 48, 48, 48, 48, 49, 50, 50, 50] [50, 50, 50, 50, 50, 48, 48, 48, 51, 48, 48, 48, 48, 48, 48, 48, 48, 48, 48, 48, 48, 48, 48, 48, 48, 48, 48, 48, 48, 48, 48, 51, 51, 52, 53, 53, 48, 48])) } : ByteArray) : ByteArray) = FL := rfl
def FL_l : List UInt8 := [48, 48, 48, 48, 48, 48, 48, 48, 48, 48, 48, 48, 48, 48, 48, 48, 48, 48, 48, 48, 48, 48, 48, 48, 48, 48, 48, 48, 48, 48, 48, 48, 48, 49, 50, 50, 50, 50, 50, 50, 50, 50, 48, 48, 48, 51, 48, 48, 48, 48, 48, 48, 48, 48, 48, 48, 48, 48, 48, 48, 48, 48, 48, 48, 48, 48, 48, 48, 51, 51, 52, 53, 53, 48, 48]
theorem FL_d : FL.data.toList = FL_l := by decide +kernel
theorem FL_n : FL.size = 75 := by decide +kernel
theorem od_op : ∀ k : Fin 75, ∃ b, OD_l[k.val]? = some b ∧ IntKind.u8.wrap ((b.toNat : Int) - 48) = (ofT ((k.val : Int) + 1)).2.1 ∧ IntKind.i64.wrap (ofT ((k.val : Int) + 1)).2.1 = (ofT ((k.val : Int) + 1)).2.1 := by
  intro k
  refine ⟨OD_l.getD k.val 0, ?_, ?_⟩
  · revert k; decide +kernel
  · revert k; decide +kernel
theorem fl_op : ∀ k : Fin 75, ∃ b, FL_l[k.val]? = some b ∧ IntKind.u8.wrap ((b.toNat : Int) - 48) = (ofT ((k.val : Int) + 1)).2.2 ∧ IntKind.i64.wrap (ofT ((k.val : Int) + 1)).2.2 = (ofT ((k.val : Int) + 1)).2.2 := by
  intro k
  refine ⟨FL_l.getD k.val 0, ?_, ?_⟩
  · revert k; decide +kernel
  · revert k; decide +kernel
theorem rOf_ok (op : Int) (σ : AS) : ACalls Tryz.prog 128 [.sc (.int .i64 op)] σ (Gives (.tup [infV (ofT op), .sc (.int .i64 (ofE op))]) σ) No := by
  by_cases h : op < 1 ∨ 75 < op
  · refine ACalls.of_body Tryz.func128 rfl rfl (by simp [Tryz.ntmps128]) ?_
    have h1 := tab_out op h
    repeat (first
      | (with_reducible first | apply AWp.seq | apply AWp.block | refine And.intro (by first | omega | assumption | decide) ?_)
      | ((first | (with_reducible first | apply AWp.fork | apply AWp.region) | ((with_reducible apply AWp.drawS (id := 3) (t := sc_128_3_XOps5)); (exact mixed); kernel_rfl; kernel_rfl; (repeat (with_reducible first | apply PanQ.then | apply PanQ.block | apply PanQ.body | apply PanQ.no)))); simp -implicitDefEqProofs)
      | ((with_reducible first | apply AWp.ret | apply AWp.skip | apply AWp.exit); try simp -implicitDefEqProofs))
    intro id hid
    by_cases h0 : op < 1
    all_goals
      have h2 : op < 1 ∨ 75 < op := h
      try (have h3 : 75 < op := by omega)
      try simp only [h0] at h2
      repeat (first
        | (with_reducible first | apply AWp.seq | apply AWp.block | refine And.intro (by first | omega | assumption | decide) ?_)
        | ((first | (with_reducible first | apply AWp.fork | apply AWp.region | show condK _ _ _ | show guardK _ _ _ _ _ _ _ _ _) | ((with_reducible apply AWp.drawS (id := 3) (t := sc_128_3_XOps5)); (exact mixed); kernel_rfl; kernel_rfl; (repeat (with_reducible first | apply PanQ.then | apply PanQ.block | apply PanQ.body | apply PanQ.no)))); simp -implicitDefEqProofs [h0, h1, infV, h2, *])
        | ((with_reducible first | apply AWp.ret | apply AWp.skip | apply AWp.exit); try simp -implicitDefEqProofs [h0, h1, infV, h2, *]))
      try simp [ofE, h, h1, infV]
      all_goals (repeat (first | exact AS.le_refl _ | refine le_new (by simp [hid]) ?_))
  · obtain ⟨k, rfl⟩ : ∃ k : Nat, op = (k : Int) + 1 := ⟨(op - 1).toNat, by omega⟩
    have hk : k < 75 := by omega
    refine ACalls.of_body Tryz.func128 rfl rfl (by simp [Tryz.ntmps128]) ?_
    have hE : ofE ((k : Int) + 1) = 0 := by simp [ofE]; omega
    obtain ⟨b, hb1, hb2, hb3⟩ := od_op ⟨k, hk⟩
    obtain ⟨c, hc1, hc2, hc3⟩ := fl_op ⟨k, hk⟩
    have hn := fun σ => rName_in k hk σ
    have hod := OD_d
    have hfl := FL_d
    have hon := OD_n
    have hfn := FL_n
    rw [hE]
    simp only at hb1 hb2 hb3 hc1 hc2 hc3
    generalize OD_l = L1 at hod hb1
    generalize FL_l = L2 at hfl hc1
    generalize ofT ((k : Int) + 1) = it at hb2 hb3 hc2 hc3 hn ⊢
    obtain ⟨i1, i2, i3⟩ := it
    simp only at hb2 hb3 hc2 hc3 hn
    have hx1 : OD.data[k]? = some b := by rw [← Array.getElem?_toList, hod]; exact hb1
    have hx2 : FL.data[k]? = some c := by rw [← Array.getElem?_toList, hfl]; exact hc1
    have l1 : ((k : Int) + 1 < 1) = False := by simp; omega
    have l2 : (75 < (k : Int) + 1) = False := by simp; omega
    have l3 : ((k : Int) < 75) = True := by simp; omega
    have w0 : IntKind.i64.wrap (k : Int) = k := in_i64 (by omega) (by omega)
    repeat (first
      | (with_reducible first | apply AWp.seq | apply AWp.block | refine And.intro (by first | omega | assumption | decide) ?_)
      | ((first | (with_reducible first | apply AWp.fork | apply AWp.region | show condK _ _ _ | show guardK _ _ _ _ _ _ _ _ _) | ((with_reducible apply AWp.drawS (id := 3) (t := sc_128_3_XOps5)); (exact mixed); kernel_rfl; kernel_rfl; (repeat (with_reducible first | apply PanQ.then | apply PanQ.block | apply PanQ.body | apply PanQ.no)))); simp -implicitDefEqProofs [↓OD_f, ↓FL_f])
      | ((with_reducible first | apply AWp.ret | apply AWp.skip | apply AWp.exit); try simp -implicitDefEqProofs [↓OD_f, ↓FL_f]))
    intro id hid
    repeat (first
      | (with_reducible first | apply AWp.seq | apply AWp.block | refine And.intro (by first | omega | assumption | decide) ?_)
      | ((first | (with_reducible first | apply AWp.fork | apply AWp.region | show condK _ _ _ | show guardK _ _ _ _ _ _ _ _ _) | ((with_reducible apply AWp.drawS (id := 3) (t := sc_128_3_XOps5)); (exact mixed); kernel_rfl; kernel_rfl; (repeat (with_reducible first | apply PanQ.then | apply PanQ.block | apply PanQ.body | apply PanQ.no))) | ((with_reducible apply aCall.id); first | apply aCall.gives (hn _)) | ((with_reducible apply pureCall.id); first | apply pureCall.gives (fun _ => hn _))); simp -implicitDefEqProofs [↓OD_f, ↓FL_f, l1, l2, l3, w0, hx1, hx2, hb2, hb3, hc2, hc3, hon, hfn, Tryz.underlying3, Tryz.underlying5])
      | ((with_reducible first | apply AWp.ret | apply AWp.skip | apply AWp.exit); try simp -implicitDefEqProofs [↓OD_f, ↓FL_f, l1, l2, l3, w0, hx1, hx2, hb2, hb3, hc2, hc3, hon, hfn, Tryz.underlying3, Tryz.underlying5]))
    simp [infV]
    all_goals (repeat (first | exact AS.le_refl _ | refine le_new (by simp [hid]) ?_))
theorem rFits_ok (x : Ins) (h1 : -9223372036854775808 ≤ x.arg) (h2 : x.arg < 9223372036854775808) (σ : AS) : ACalls Tryz.prog 127 [insV x] σ (Gives (.sc (.int .i64 (fitsE x))) σ) No := by
  refine ACalls.of_body Tryz.func127 rfl rfl (by simp [Tryz.ntmps127]) ?_
  have ho := fun σ => rOf_ok x.op σ
  have hm := fun o σ => rmost_ok o σ
  have hw := fun σ => rwhere_ok x.t 1 σ
  have he : fitsE x = if x.op < 1 ∨ 75 < x.op then 3 else if fitsO x (ofT x.op).2.1 then 0 else 17 := rfl
  have hx : ¬ (x.op < 1 ∨ 75 < x.op) → fitsO x (ofT x.op).2.1 = (decide ((mostT (ofT x.op).2.1).2 ≤ x.arg ∧ x.arg ≤ (mostT (ofT x.op).2.1).1) && (if (ofT x.op).2.1 = 8 then fieldT' x.t else noT x.t)) := by
    intro h
    refine rFits_num _ x.arg h1 h2 x.t x.op ?_
    have := op_range ⟨(x.op - 1).toNat, by omega⟩
    have e : (((x.op - 1).toNat : Nat) : Int) + 1 = x.op := by omega
    simp only [e] at this
    exact this
  generalize fitsE x = fe at he ⊢
  have hW : whereT x.t 1 = fieldT' x.t := rfl
  rw [hW] at hw
  obtain ⟨op, arg, k, ix, d, r⟩ := x
  have hq : eqAV Tryz.prog 8 49 (.agg [.sc (.int .i64 k), .sc (.int .i64 ix), .sc (.int .i64 d), .sc (.bool r)]) (.agg [.sc (.int .i64 0), .sc (.int .i64 0), .sc (.int .i64 0), .sc (.bool false)]) = some (noT ⟨k, ix, d, r⟩) := by simp [noT]
  simp only [insV, infV, ofE, tyV] at ho hw he hx ⊢
  generalize fieldT' ⟨k, ix, d, r⟩ = fd at hw hx
  generalize noT ⟨k, ix, d, r⟩ = nt at hq hx
  by_cases h : op < 1 ∨ 75 < op
  · simp only [h, if_true, if_false] at ho he
    repeat (first
      | (with_reducible first | apply AWp.seq | apply AWp.block | refine And.intro (by first | omega | assumption | decide) ?_)
      | ((first | (with_reducible first | apply AWp.fork | apply AWp.region)); simp -implicitDefEqProofs)
      | ((with_reducible first | apply AWp.ret | apply AWp.skip | apply AWp.exit); try simp -implicitDefEqProofs))
    intro id hid
    repeat (first
      | (with_reducible first | apply AWp.seq | apply AWp.block | refine And.intro (by first | omega | assumption | decide) ?_)
      | ((first | (with_reducible first | apply AWp.fork | apply AWp.region) | ((with_reducible apply aCall.id); first | apply aCall.gives (ho _))); simp -implicitDefEqProofs)
      | ((with_reducible first | apply AWp.ret | apply AWp.skip | apply AWp.exit); try simp -implicitDefEqProofs))
    intro id2 ne hid2
    have ne' : ¬ id = id2 := fun e => ne e.symm
    repeat' (first
      | (with_reducible first | apply AWp.seq | apply AWp.block | refine And.intro (by first | omega | assumption | decide) ?_)
      | ((first | (with_reducible first | apply AWp.fork | apply AWp.region | show condK _ _ _ | show guardK _ _ _ _ _ _ _ _ _) | ((with_reducible apply aCall.id); first | apply aCall.gives (ho _))); simp -implicitDefEqProofs [ne, ne'])
      | trivial
      | (with_reducible apply And.intro)
      | ((with_reducible first | apply AWp.ret | apply AWp.skip | apply AWp.exit); try simp -implicitDefEqProofs [ne, ne'])
      | ((with_reducible first | apply condK.split | apply guardK.split | apply pureG.split) <;> (intro hc; (try simp -implicitDefEqProofs only [hc]); (try simp at hc)) <;> try simp -implicitDefEqProofs [ne, ne']))
    all_goals (repeat' (with_reducible apply And.intro))
    all_goals first
      | exact AS.le_refl _
      | ((repeat (first | exact AS.le_refl _ | assumption | refine le_new (by simp [*]) ?_)); done)
      | (refine wk_eq ?_; simp_all [skipV]; done)
      | (refine wk_b ?_; rw [Bool.eq_iff_iff]; simp [*]; omega)
      | (refine wk_eq ?_; simp [*]; omega)
      | (refine wk_eq ?_; split <;> simp_all [skipV]; done)
      | (exfalso; omega)
  · simp only [h, if_true, if_false] at ho he
    rw [hx h] at he
    clear hx
    generalize (ofT op).2.1 = o at ho hm he
    have hmo : ∀ σ, ACalls Tryz.prog 180 [.sc (.int .i64 o)] σ (Gives (.tup [.sc (.int .i64 (mostT o).1), .sc (.int .i64 (mostT o).2)]) σ) No := fun σ => hm o σ
    clear hm
    generalize mostT o = mo at hmo he
    obtain ⟨m1, m2⟩ := mo
    simp only at hmo he
    repeat (first
      | (with_reducible first | apply AWp.seq | apply AWp.block | refine And.intro (by first | omega | assumption | decide) ?_)
      | ((first | (with_reducible first | apply AWp.fork | apply AWp.region)); simp -implicitDefEqProofs)
      | ((with_reducible first | apply AWp.ret | apply AWp.skip | apply AWp.exit); try simp -implicitDefEqProofs))
    intro id hid
    repeat (first
      | (with_reducible first | apply AWp.seq | apply AWp.block | refine And.intro (by first | omega | assumption | decide) ?_)
      | ((first | (with_reducible first | apply AWp.fork | apply AWp.region | show condK _ _ _ | show guardK _ _ _ _ _ _ _ _ _) | ((with_reducible apply aCall.id); first | apply aCall.gives (ho _) | apply aCall.gives (hmo _))); simp -implicitDefEqProofs [-eq_t, hq])
      | ((with_reducible first | apply AWp.ret | apply AWp.skip | apply AWp.exit); try simp -implicitDefEqProofs [-eq_t, hq]))
    intro id2 ne hid2
    have ne' : ¬ id = id2 := fun e => ne e.symm
    repeat' (first
      | (with_reducible first | apply AWp.seq | apply AWp.block | refine And.intro (by first | omega | assumption | decide) ?_)
      | ((first | (with_reducible first | apply AWp.fork | apply AWp.region | show condK _ _ _ | show guardK _ _ _ _ _ _ _ _ _) | ((with_reducible apply aCall.id); first | apply aCall.gives (hmo _) | apply aCall.gives (hw _))); simp -implicitDefEqProofs [ne, ne', -eq_t, hq])
      | trivial
      | (with_reducible apply And.intro)
      | ((with_reducible first | apply AWp.ret | apply AWp.skip | apply AWp.exit); try simp -implicitDefEqProofs [ne, ne', -eq_t, hq])
      | ((with_reducible first | apply condK.split | apply guardK.split | apply pureG.split) <;> (intro hc; (try simp -implicitDefEqProofs only [hc]); (try simp at hc)) <;> try simp -implicitDefEqProofs [ne, ne', -eq_t, hq]))
    all_goals clear hw hmo ho hq
    all_goals (repeat' (with_reducible apply And.intro))
    all_goals first
      | exact AS.le_refl _
      | ((repeat (first | exact AS.le_refl _ | assumption | refine le_new (by simp [*]) ?_)); done)
      | (refine wk_eq ?_; simp_all [skipV]; done)
      | (refine wk_b ?_; rw [Bool.eq_iff_iff]; simp [*]; omega)
      | (refine wk_eq ?_; simp [*]; omega)
      | (refine wk_eq ?_; split <;> simp_all [skipV]; done)
      | (exfalso; omega)
end Go.Proofs.YtknalmoackcpbaaGreat
