/- Package ops: Fits; the reference's Most, Name, Of, Named, Fits. -/
import Derived.Test.YtknalmoackcpbaaGreatAwGo
import Derived.Test.YtknalmoackcpbaaGreatOps3
set_option linter.unusedSimpArgs false
set_option linter.unusedVariables false
set_option maxRecDepth 100000
set_option maxHeartbeats 3200000
namespace Go.Proofs.YtknalmoackcpbaaGreat
open Go Go.AW
theorem D0_XOps4 (S : List Nat) : Plans Tryz.prog [] S := mixed
def fitsE (x : Ins) : Int := if x.op < 1 ∨ 75 < x.op then 3 else if fitsO x (ofT x.op).2.1 then 0 else 17
theorem kFits_ok (x : Ins) (σ : AS) : ACalls Tryz.prog 175 [insV x] σ (Gives (.sc (.int .i64 (fitsE x))) σ) No := by
  refine ACalls.of_body Tryz.func175 rfl rfl (by simp [Tryz.ntmps175]) ?_
  have ho := fun σ => Of_ok x.op σ
  have hf := fun o σ => fits_ok x o σ
  have he : fitsE x = if x.op < 1 ∨ 75 < x.op then 3 else if fitsO x (ofT x.op).2.1 then 0 else 17 := rfl
  generalize fitsE x = fe at he ⊢
  obtain ⟨op, arg, k, ix, d, r⟩ := x
  simp only [insV, infV, ofE] at ho hf he ⊢
  by_cases h : op < 1 ∨ 75 < op
  all_goals
    simp only [h, if_true, if_false] at ho he
    refine gO (D0_XOps4 []) True.intro True.intro (k := ?_)
    intro id hid
    refine gO (D0_XOps4 []) True.intro (j2 @ho @hf) (k := ?_)
    intro id2 ne hid2
    have ne' : ¬ id = id2 := fun e => ne e.symm
    repeat' (first
      | (with_reducible first | apply AWp.seq | apply AWp.block | refine And.intro (by first | omega | assumption | decide) ?_)
      | ((first | (with_reducible first | apply AWp.fork | apply AWp.region | show condK _ _ _ | show guardK _ _ _ _ _ _ _ _ _) | ((with_reducible apply aCall.id); first | apply aCall.gives (ho _) | apply aCall.gives (hf _ _))); simp -implicitDefEqProofs [ne, ne'])
      | trivial
      | (with_reducible apply And.intro)
      | ((with_reducible first | apply AWp.ret | apply AWp.skip | apply AWp.exit); try simp -implicitDefEqProofs [ne, ne'])
      | ((with_reducible first | apply condK.split | apply guardK.split | apply pureG.split) <;> (intro hc; (try simp -implicitDefEqProofs only [hc]); (try simp at hc)) <;> try simp -implicitDefEqProofs [ne, ne']))
    all_goals clear ho hf
    all_goals (repeat' (with_reducible apply And.intro))
    all_goals first
      | exact AS.le_refl _
      | ((repeat (first | exact AS.le_refl _ | assumption | refine le_new (by simp [*]) ?_)); done)
      | (refine wk_eq ?_; simp_all [skipV]; done)
      | (refine wk_b ?_; rw [Bool.eq_iff_iff]; simp [*]; omega)
      | (refine wk_eq ?_; simp [*]; omega)
      | (refine wk_eq ?_; split <;> simp_all [skipV]; done)
      | (exfalso; omega)
def mostT (o : Int) : Int × Int := if o = 1 then (2147483647, -2147483648) else if o = 2 then (9223372036854775807, -9223372036854775808) else if o = 3 then (11, 0) else
  if o = 4 then (6, 0) else if o = 5 then (159, 0) else if o = 6 ∨ o = 7 then (63, 0) else (0, 0)
theorem rmost_ok (o : Int) (σ : AS) : ACalls Tryz.prog 180 [.sc (.int .i64 o)] σ (Gives (.tup [.sc (.int .i64 (mostT o).1), .sc (.int .i64 (mostT o).2)]) σ) No := by
  refine ACalls.of_body Tryz.func180 rfl rfl (by simp [Tryz.ntmps180]) ?_
  repeat' (first
    | (with_reducible first | apply AWp.seq | apply AWp.block | refine And.intro (by first | omega | assumption | decide) ?_)
    | ((first | (with_reducible first | apply AWp.fork | apply AWp.region)); simp -implicitDefEqProofs)
    | trivial
    | (with_reducible apply And.intro)
    | ((with_reducible first | apply AWp.ret | apply AWp.skip | apply AWp.exit); try simp -implicitDefEqProofs)
    | ((with_reducible first | apply condK.split | apply guardK.split | apply pureG.split) <;> (intro hc; (try simp -implicitDefEqProofs only [hc]); (try simp at hc)) <;> try simp -implicitDefEqProofs))
  all_goals (repeat' (with_reducible apply And.intro))
  all_goals first
    | exact AS.le_refl _
    | ((repeat (first | exact AS.le_refl _ | assumption | refine le_new (by simp [*]) ?_)); done)
    | (refine wk_eq ?_; simp_all [skipV, mostT]; done)
    | (refine wk_b ?_; rw [Bool.eq_iff_iff]; simp [*, mostT]; omega)
    | (refine wk_eq ?_; simp [*, mostT]; omega)
    | (refine wk_eq ?_; split <;> simp_all [skipV]; done)
    | (exfalso; omega)
theorem rFits_num (o : Int) (arg : Int) (h1 : -9223372036854775808 ≤ arg) (h2 : arg < 9223372036854775808) (t : Ty) (op : Int) (ho : 0 ≤ o ∧ o ≤ 8) :
    fitsO ⟨op, arg, t⟩ o = (decide ((mostT o).2 ≤ arg ∧ arg ≤ (mostT o).1) && (if o = 8 then fieldT' t else noT t)) := by
  obtain ⟨ho1, ho2⟩ := ho
  have : o = 0 ∨ o = 1 ∨ o = 2 ∨ o = 3 ∨ o = 4 ∨ o = 5 ∨ o = 6 ∨ o = 7 ∨ o = 8 := by omega
  rcases this with rfl | rfl | rfl | rfl | rfl | rfl | rfl | rfl | rfl <;> cases hT : noT t <;> cases hF : fieldT' t <;> rw [Bool.eq_iff_iff] <;> simp [fitsO, mostT, hT, hF] <;> omega
theorem op_range : ∀ k : Fin 75, 0 ≤ (ofT ((k.val : Int) + 1)).2.1 ∧ (ofT ((k.val : Int) + 1)).2.1 ≤ 8 := by decide +kernel
def nmGo : List UInt8 → Int → Int → List UInt8 → List UInt8
  | [], _, _, _ => []
  | b :: r, op, n, cur => if b = 32 then (if n = op then cur else nmGo r op (n + 1) []) else nmGo r op n (cur ++ [b])
theorem nm_step (L : List UInt8) (i frm : Nat) (h : i < L.length) (hf : frm ≤ i) (op n : Int) :
    nmGo (L.drop i) op n ((L.take i).drop frm) = if L[i] = 32 then (if n = op then (L.take i).drop frm else nmGo (L.drop (i + 1)) op (n + 1) ((L.take (i + 1)).drop (i + 1)))
      else nmGo (L.drop (i + 1)) op n ((L.take (i + 1)).drop frm) := by
  rw [List.drop_eq_getElem_cons h]
  have e1 : (L.take (i + 1)).drop (i + 1) = [] := by simp
  have e2 : (L.take (i + 1)).drop frm = (L.take i).drop frm ++ [L[i]] := by
    rw [List.take_succ_eq_append_getElem h, List.drop_append_of_le_length (by simp; omega)]
  rw [e1, e2]
  simp [nmGo]
def NM : ByteArray := ({ data := (List.toArray (List.append (List.append (List.append [110, 111, 112, 32, 108, 100, 97, 114, 103, 32, 115, 116, 97, 114, 103, 32, 108, 100, 97, 114, 103, 97, 32, 108, 100, 108, 111, 99, 32, 115, 116, 108, 111, 99, 32, 108, 100, 108, 111, 99, 97, 32, 108, 100, 99, 52, 32, 108, 100, 99, 56, 32, 108, 100] [110, 117, 108, 108, 32, 100, 117, 112, 32, 112, 111, 112, 32, 97, 100, 100, 32, 115, 117, 98, 32, 109, 117, 108, 32, 100, 105, 118, 32, 114, 101, 109, 32, 97, 110, 100, 32, 111, 114, 32, 120, 111, 114, 32, 115, 104, 108, 32, 115, 104, 114, 32, 110, 101]) (List.append [103, 32, 110, 111, 116, 32, 97, 100, 100, 111, 118, 102, 32, 115, 117, 98, 111, 118, 102, 32, 109, 117, 108, 111, 118, 102, 32, 99, 111, 110, 118, 52, 32, 99, 111, 110, 118, 56, 32, 99, 111, 110, 118, 111, 118, 102, 52, 32, 99, 101, 113, 32, 99, 103] [116, 32, 99, 108, 116, 32, 98, 114, 32, 98, 114, 116, 114, 117, 101, 32, 98, 114, 102, 97, 108, 115, 101, 32, 98, 101, 113, 32, 98, 103, 101, 32, 98, 103, 116, 32, 98, 108, 101, 32, 98, 108, 116, 32, 98, 110, 101, 32, 99, 97, 108, 108, 32, 99])) (List.append (List.append [97, 108, 108, 118, 105, 114, 116, 32, 110, 101, 119, 111, 98, 106, 32, 114, 101, 116, 32, 116, 97, 105, 108, 32, 108, 100, 102, 108, 100, 32, 115, 116, 102, 108, 100, 32, 108, 100, 102, 108, 100, 97, 32, 108, 100, 115, 102, 108, 100, 32, 115, 116, 115, 102] [108, 100, 32, 108, 100, 115, 102, 108, 100, 97, 32, 108, 100, 111, 98, 106, 32, 115, 116, 111, 98, 106, 32, 105, 110, 105, 116, 111, 98, 106, 32, 110, 101, 119, 97, 114, 114, 32, 108, 100, 108, 101, 110, 32, 108, 100, 101, 108, 101, 109, 32, 115, 116, 101]) (List.append [108, 101, 109, 32, 108, 100, 101, 108, 101, 109, 97, 32, 98, 111, 120, 32, 117, 110, 98, 111, 120, 32, 117, 110, 98, 111, 120, 97, 110, 121, 32, 99, 97, 115, 116, 99, 108, 97, 115, 115, 32, 105, 115, 105, 110, 115, 116, 32, 108, 100, 102, 116, 110, 32] [110, 101, 119, 100, 101, 108, 32, 116, 104, 114, 111, 119, 32, 114, 101, 116, 104, 114, 111, 119, 32, 108, 101, 97, 118, 101, 32, 101, 110, 100, 102, 105, 110, 97, 108, 108, 121, 32, 101, 110, 100, 102, 105, 108, 116, 101, 114, 32, 105, 110, 32, 111, 117, 116, 32])))) } : ByteArray)
theorem NM_f : (({ data := (List.toArray (List.append (List.append (List.append [110, 111, 112, 32, 108, 100, 97, 114, 103, 32, 115, 116, 97, 114, 103, 32, 108, 100, 97, 114, 103, 97, 32, 108, 100, 108, 111, 99, 32, 115, 116, 108, 111, 99, 32, 108, 100, 108, 111, 99, 97, 32, 108, 100, 99, 52, 32, 108, 100, 99, 56, 32, 108, 100] [110, 117, 108, 108, 32, 100, 117, 112, 32, 112, 111, 112, 32, 97, 100, 100, 32, 115, 117, 98, 32, 109, 117, 108, 32, 100, 105, 118, 32, 114, 101, 109, 32, 97, 110, 100, 32, 111, 114, 32, 120, 111, 114, 32, 115, 104, 108, 32, 115, 104, 114, 32, 110, 101]) (List.append [103, 32, 110, 111, 116, 32, 97, 100, 100, 111, 118, 102, 32, 115, 117, 98, 111, 118, 102, 32, 109, 117, 108, 111, 118, 102, 32, 99, 111, 110, 118, 52, 32, 99, 111, 110, 118, 56, 32, 99, 111, 110, 118, 111, 118, 102, 52, 32, 99, 101, 113, 32, 99, 103] [116, 32, 99, 108, 116, 32, 98, 114, 32, 98, 114, 116, 114, 117, 101, 32, 98, 114, 102, 97, 108, 115, 101, 32, 98, 101, 113, 32, 98, 103, 101, 32, 98, 103, 116, 32, 98, 108, 101, 32, 98, 108, 116, 32, 98, 110, 101, 32, 99, 97, 108, 108, 32, 99])) (List.append (List.append [97, 108, 108, 118, 105, 114, 116, 32, 110, 101, 119, 111, 98, 106, 32, 114, 101, 116, 32, 116, 97, 105, 108, 32, 108, 100, 102, 108, 100, 32, 115, 116, 102, 108, 100, 32, 108, 100, 102, 108, 100, 97, 32, 108, 100, 115, 102, 108, 100, 32, 115, 116, 115, 102] [108, 100, 32, 108, 100, 115, 102, 108, 100, 97, 32, 108, 100, 111, 98, 106, 32, 115, 116, 111, 98, 106, 32, 105, 110, 105, 116, 111, 98, 106, 32, 110, 101, 119, 97, 114, 114, 32, 108, 100, 108, 101, 110, 32, 108, 100, 101, 108, 101, 109, 32, 115, 116, 101]) (List.append [108, 101, 109, 32, 108, 100, 101, 108, 101, 109, 97, 32, 98, 111, 120, 32, 117, 110, 98, 111, 120, 32, 117, 110, 98, 111, 120, 97, 110, 121, 32, 99, 97, 115, 116, 99, 108, 97, 115, 115, 32, 105, 115, 105, 110, 115, 116, 32, 108, 100, 102, 116, 110, 32] [110, 101, 119, 100, 101, 108, 32, 116, 104, 114, 111, 119, 32, 114, 101, 116, 104, 114, 111, 119, 32, 108, 101, 97, 118, 101, 32, 101, 110, 100, 102, 105, 110, 97, 108, 108, 121, 32, 101, 110, 100, 102, 105, 108, 116, 101, 114, 32, 105, 110, 32, 111, 117, 116, 32])))) } : ByteArray) : ByteArray) = NM := rfl
def NM_l : List UInt8 := [110, 111, 112, 32, 108, 100, 97, 114, 103, 32, 115, 116, 97, 114, 103, 32, 108, 100, 97, 114, 103, 97, 32, 108, 100, 108, 111, 99, 32, 115, 116, 108, 111, 99, 32, 108, 100, 108, 111, 99, 97, 32, 108, 100, 99, 52, 32, 108, 100, 99, 56, 32, 108, 100, 110, 117, 108, 108, 32, 100, 117, 112, 32, 112, 111, 112, 32, 97, 100, 100, 32, 115, 117, 98, 32, 109, 117, 108, 32, 100, 105, 118, 32, 114, 101, 109, 32, 97, 110, 100, 32, 111, 114, 32, 120, 111, 114, 32, 115, 104, 108, 32, 115, 104, 114, 32, 110, 101, 103, 32, 110, 111, 116, 32, 97, 100, 100, 111, 118, 102, 32, 115, 117, 98, 111, 118, 102, 32, 109, 117, 108, 111, 118, 102, 32, 99, 111, 110, 118, 52, 32, 99, 111, 110, 118, 56, 32, 99, 111, 110, 118, 111, 118, 102, 52, 32, 99, 101, 113, 32, 99, 103, 116, 32, 99, 108, 116, 32, 98, 114, 32, 98, 114, 116, 114, 117, 101, 32, 98, 114, 102, 97, 108, 115, 101, 32, 98, 101, 113, 32, 98, 103, 101, 32, 98, 103, 116, 32, 98, 108, 101, 32, 98, 108, 116, 32, 98, 110, 101, 32, 99, 97, 108, 108, 32, 99, 97, 108, 108, 118, 105, 114, 116, 32, 110, 101, 119, 111, 98, 106, 32, 114, 101, 116, 32, 116, 97, 105, 108, 32, 108, 100, 102, 108, 100, 32, 115, 116, 102, 108, 100, 32, 108, 100, 102, 108, 100, 97, 32, 108, 100, 115, 102, 108, 100, 32, 115, 116, 115, 102, 108, 100, 32, 108, 100, 115, 102, 108, 100, 97, 32, 108, 100, 111, 98, 106, 32, 115, 116, 111, 98, 106, 32, 105, 110, 105, 116, 111, 98, 106, 32, 110, 101, 119, 97, 114, 114, 32, 108, 100, 108, 101, 110, 32, 108, 100, 101, 108, 101, 109, 32, 115, 116, 101, 108, 101, 109, 32, 108, 100, 101, 108, 101, 109, 97, 32, 98, 111, 120, 32, 117, 110, 98, 111, 120, 32, 117, 110, 98, 111, 120, 97, 110, 121, 32, 99, 97, 115, 116, 99, 108, 97, 115, 115, 32, 105, 115, 105, 110, 115, 116, 32, 108, 100, 102, 116, 110, 32, 110, 101, 119, 100, 101, 108, 32, 116, 104, 114, 111, 119, 32, 114, 101, 116, 104, 114, 111, 119, 32, 108, 101, 97, 118, 101, 32, 101, 110, 100, 102, 105, 110, 97, 108, 108, 121, 32, 101, 110, 100, 102, 105, 108, 116, 101, 114, 32, 105, 110, 32, 111, 117, 116, 32]
theorem NM_d : NM.data.toList = NM_l := by decide +kernel
theorem NM_n : NM.size = 433 := by decide +kernel
theorem nm_op : ∀ k : Fin 75, nmGo NM_l ((k.val : Int) + 1) 1 [] = (ofT ((k.val : Int) + 1)).1 := by decide +kernel
def nameI (L : List UInt8) (op : Int) (R : List UInt8) (σ : AS) (m : Nat) (fr : Fr) (σ' : AS) : Prop :=
  ∃ i frm : Nat, ∃ n : Int, m = 433 - i ∧ i ≤ 433 ∧ frm ≤ i ∧ 1 ≤ n ∧ n ≤ i + 1 ∧ nmGo (L.drop i) op n ((L.take i).drop frm) = R ∧ σ' = σ ∧
    fr = mkF [(0, .sc (.int .i64 op)), (3, .sc (.int .i64 n)), (4, .sc (.int .i64 frm)), (5, .sc (.int .i64 i))]
theorem extract_eq (b : ByteArray) (i j : Nat) : b.extract i j = ⟨((b.data.toList.take j).drop i).toArray⟩ := by
  apply ByteArray.ext
  apply Array.ext'
  simp [ByteArray.data_extract, List.extract_eq_take_drop, List.drop_take]
theorem rName_ok (op : Int) (σ : AS) : ACalls Tryz.prog 181 [.sc (.int .i64 op)] σ (Gives (.sc (.string ⟨(nmGo NM_l op 1 []).toArray⟩)) σ) No := by
  refine ACalls.of_body Tryz.func181 rfl rfl (by simp [Tryz.ntmps181]) ?_
  have hL : NM_l.length = 433 := by decide +kernel
  have hn := NM_n
  have hd := NM_d
  have hR : nmGo (NM_l.drop 0) op 1 ((NM_l.take 0).drop 0) = nmGo NM_l op 1 [] := rfl
  generalize nmGo NM_l op 1 [] = R at hR ⊢
  generalize NM_l = L at hL hd hR
  repeat (first
    | (with_reducible first | apply AWp.seq | apply AWp.block | refine And.intro (by first | omega | assumption | decide) ?_)
    | ((first | (with_reducible first | apply AWp.fork | apply AWp.region | show condK _ _ _ | show guardK _ _ _ _ _ _ _ _ _)); simp -implicitDefEqProofs [↓NM_f])
    | ((with_reducible first | apply AWp.ret | apply AWp.skip | apply AWp.exit); try simp -implicitDefEqProofs [↓NM_f]))
  refine AWp.loopI (nameI L op R σ) (k0 := 433) ⟨0, 0, 1, by omega, by omega, by omega, by omega, by omega, hR, rfl, rfl⟩ (FrWk.mk (by simp)) (AS.le_refl _) ?_
  rintro m fr σ' ⟨i, frm, n, hm, hi, hfr, hn1, hn2, hr, rfl, rfl⟩
  by_cases hlt : i < 433
  · have hI : ((i : Int) < 433) = True := by simp; omega
    have w1 : IntKind.i64.wrap ((i : Int) + 1) = ((i + 1 : Nat) : Int) := by rw [in_i64 (by omega) (by omega)]; simp
    have w2 : IntKind.i64.wrap (n + 1) = n + 1 := in_i64 (by omega) (by omega)
    rw [nm_step L i frm (by omega) hfr] at hr
    have hg : L[i]? = some L[i] := List.getElem?_eq_getElem (by omega)
    by_cases hb : L[i] = 32
    · rw [if_pos hb] at hr
      rw [hb] at hg
      by_cases ho : n = op
      · rw [if_pos ho] at hr
        repeat (first
          | (with_reducible first | apply AWp.seq | apply AWp.block | refine And.intro (by first | omega | assumption | decide) ?_)
          | ((first | (with_reducible first | apply AWp.fork | apply AWp.region | show condK _ _ _ | show guardK _ _ _ _ _ _ _ _ _)); simp -implicitDefEqProofs [↓NM_f, hI, hn, hd, hg, ho, extract_eq, hr])
          | ((with_reducible first | apply AWp.ret | apply AWp.skip | apply AWp.exit); try simp -implicitDefEqProofs [↓NM_f, hI, hn, hd, hg, ho, extract_eq, hr]))
      · rw [if_neg ho] at hr
        repeat (first
          | (with_reducible first | apply AWp.seq | apply AWp.block | refine And.intro (by first | omega | assumption | decide) ?_)
          | ((first | (with_reducible first | apply AWp.fork | apply AWp.region | show condK _ _ _ | show guardK _ _ _ _ _ _ _ _ _)); simp -implicitDefEqProofs [↓NM_f, hI, hn, hd, hg, ho])
          | ((with_reducible first | apply AWp.ret | apply AWp.skip | apply AWp.exit); try simp -implicitDefEqProofs [↓NM_f, hI, hn, hd, hg, ho]))
        refine ⟨m - 1, _, _, by omega, FrWk.mk ?_, AS.le_refl _, i + 1, i + 1, n + 1, by omega, by omega, by omega, by omega, by omega, hr, rfl, rfl⟩
        simp [w1, w2]
    · rw [if_neg hb] at hr
      have hb' : ((L[i].toNat : Int) = 32) = False := by
        simp
        intro h
        apply hb
        apply UInt8.toNat_inj.1
        simp; omega
      repeat (first
        | (with_reducible first | apply AWp.seq | apply AWp.block | refine And.intro (by first | omega | assumption | decide) ?_)
        | ((first | (with_reducible first | apply AWp.fork | apply AWp.region | show condK _ _ _ | show guardK _ _ _ _ _ _ _ _ _)); simp -implicitDefEqProofs [↓NM_f, hI, hn, hd, hg, hb'])
        | ((with_reducible first | apply AWp.ret | apply AWp.skip | apply AWp.exit); try simp -implicitDefEqProofs [↓NM_f, hI, hn, hd, hg, hb']))
      refine ⟨m - 1, _, _, by omega, FrWk.mk ?_, AS.le_refl _, i + 1, frm, n, by omega, by omega, by omega, by omega, by omega, hr, rfl, rfl⟩
      simp [w1]
  · have hI : ((i : Int) < 433) = False := by simp; omega
    have : L.drop i = [] := List.drop_eq_nil_of_le (by omega)
    rw [this] at hr
    refine gO (D0_XOps4 []) @hI True.intro (k := ?_)
    simp [← hr, nmGo]
end Go.Proofs.YtknalmoackcpbaaGreat
