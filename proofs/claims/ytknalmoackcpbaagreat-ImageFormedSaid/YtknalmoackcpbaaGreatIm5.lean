/- Chapter 10, the reference: formedType, formedCode. -/
import Derived.Test.YtknalmoackcpbaaGreatAwGo
import Derived.Test.YtknalmoackcpbaaGreatIm4
import Derived.Test.YtknalmoackcpbaaGreatReg8
set_option linter.unusedSimpArgs false
set_option linter.unusedVariables false
set_option maxRecDepth 100000
set_option maxHeartbeats 3200000
namespace Go.Proofs.YtknalmoackcpbaaGreat
namespace Im
open Go Go.AW
theorem D0_XIm5 (S : List Nat) : Plans Tryz.prog [] S := mixed
open Rg (Cl clV clV_def clsV checkS aloneS fitsS aloneR fitsR right_ok check_eq)
theorem all_next {α : Type} {p : α → Bool} {l : List α} {i : Nat} (h : i < l.length) (h1 : ∀ x ∈ l.take i, p x = true) (h2 : p l[i] = true) : ∀ x ∈ l.take (i + 1), p x = true := by
  intro x hx
  rw [List.take_succ_eq_append_getElem h] at hx
  rcases List.mem_append.1 hx with hx | hx
  · exact h1 x hx
  · simp at hx; rw [hx]; exact h2
theorem all_bad {α : Type} {p : α → Bool} {l : List α} {i : Nat} (h : i < l.length) (h2 : p l[i] = false) : l.all p = false := by
  cases e : l.all p with
  | false => rfl
  | true => rw [List.all_eq_true] at e; rw [e _ (List.getElem_mem h)] at h2; cases h2
theorem all_good {α : Type} {p : α → Bool} {l : List α} {i : Nat} (h : ¬ i < l.length) (h1 : ∀ x ∈ l.take i, p x = true) : l.all p = true := by
  rw [List.all_eq_true]
  rwa [List.take_of_length_le (by omega)] at h1
theorem not_any {α : Type} (p : α → Bool) (l : List α) : (!l.any p) = l.all fun x => !p x := by
  induction l with
  | nil => rfl
  | cons a r ih => simp [← ih]
theorem rtype_ok (t : TD) (hl : t.faces.length ≤ 140737488355328) (hn : t.name.length ≤ 140737488355328) (n : Int) (σ : AS) :
    ACalls Tryz.prog 21 [tdV t, .sc (.int .i64 n)] σ (Gives (.sc (.bool (tdB t n))) σ) No := by
  have hf := fun σ => rfine_ok t.name hn σ
  unfold tdB
  rw [not_any]
  generalize fineB t.name = fb at hf ⊢
  obtain ⟨nm, fl, ex, fc, fn⟩ := t
  simp only [tdV_def] at hf hl ⊢
  generalize hdb : decide (0 ≤ fl ∧ fl ≤ 31 ∧ -1 ≤ ex ∧ ex < n ∧ fc.length ≤ 4) = db
  refine ACalls.of_body Tryz.func21 rfl rfl (by simp [Tryz.ntmps21]) ?_
  refine gO (D0_XIm5 []) (j2 @ci_lt @ci_le) True.intro (k := ?_)
  intro id h_id
  cases fb
  · refine gO (D0_XIm5 []) (j2 @ci_lt @ci_le) @hf (k := ?_)
    all_goals (repeat' (with_reducible apply And.intro))
    all_goals first
      | exact AS.le_refl _
      | ((repeat (first | exact AS.le_refl _ | assumption | refine le_new (by simp [*]) ?_)); done)
      | (refine wk_eq ?_; simp_all [skipV]; done)
      | (refine wk_b ?_; rw [Bool.eq_iff_iff]; simp [*]; omega)
      | (refine wk_eq ?_; simp [*]; omega)
      | (refine wk_eq ?_; split <;> simp_all [skipV]; done)
      | (exfalso; omega)
  · by_cases h1 : fl < 0
    · have hd : db = false := by rw [← hdb]; simp; omega
      subst hd
      refine gO (D0_XIm5 []) (j3 @h1 @ci_lt @ci_le) @hf (k := ?_)
      all_goals (repeat' (with_reducible apply And.intro))
      all_goals first
        | exact AS.le_refl _
        | ((repeat (first | exact AS.le_refl _ | assumption | refine le_new (by simp [*]) ?_)); done)
        | (refine wk_eq ?_; simp_all [skipV]; done)
        | (refine wk_b ?_; rw [Bool.eq_iff_iff]; simp [*]; omega)
        | (refine wk_eq ?_; simp [*]; omega)
        | (refine wk_eq ?_; split <;> simp_all [skipV]; done)
        | (exfalso; omega)
    · by_cases h2 : 31 < fl
      · have hd : db = false := by rw [← hdb]; simp; omega
        subst hd
        refine gO (D0_XIm5 []) (j4 @h1 @h2 @ci_lt @ci_le) @hf (k := ?_)
        all_goals (repeat' (with_reducible apply And.intro))
        all_goals first
          | exact AS.le_refl _
          | ((repeat (first | exact AS.le_refl _ | assumption | refine le_new (by simp [*]) ?_)); done)
          | (refine wk_eq ?_; simp_all [skipV]; done)
          | (refine wk_b ?_; rw [Bool.eq_iff_iff]; simp [*]; omega)
          | (refine wk_eq ?_; simp [*]; omega)
          | (refine wk_eq ?_; split <;> simp_all [skipV]; done)
          | (exfalso; omega)
      · by_cases h3 : ex < -1
        · have hd : db = false := by rw [← hdb]; simp; omega
          subst hd
          refine gO (D0_XIm5 []) (j5 @h1 @h2 @h3 @ci_lt @ci_le) @hf (k := ?_)
          all_goals (repeat' (with_reducible apply And.intro))
          all_goals first
            | exact AS.le_refl _
            | ((repeat (first | exact AS.le_refl _ | assumption | refine le_new (by simp [*]) ?_)); done)
            | (refine wk_eq ?_; simp_all [skipV]; done)
            | (refine wk_b ?_; rw [Bool.eq_iff_iff]; simp [*]; omega)
            | (refine wk_eq ?_; simp [*]; omega)
            | (refine wk_eq ?_; split <;> simp_all [skipV]; done)
            | (exfalso; omega)
        · by_cases h4 : n ≤ ex
          · have hd : db = false := by rw [← hdb]; simp; omega
            subst hd
            refine gO (D0_XIm5 []) (j6 @h1 @h2 @h3 @h4 @ci_lt @ci_le) @hf (k := ?_)
            all_goals (repeat' (with_reducible apply And.intro))
            all_goals first
              | exact AS.le_refl _
              | ((repeat (first | exact AS.le_refl _ | assumption | refine le_new (by simp [*]) ?_)); done)
              | (refine wk_eq ?_; simp_all [skipV]; done)
              | (refine wk_b ?_; rw [Bool.eq_iff_iff]; simp [*]; omega)
              | (refine wk_eq ?_; simp [*]; omega)
              | (refine wk_eq ?_; split <;> simp_all [skipV]; done)
              | (exfalso; omega)
          · by_cases h5 : fc.length ≤ 4
            · have h5' : (4 < (fc.length : Int)) = False := by simp; omega
              have hd : db = true := by rw [← hdb]; simp; omega
              subst hd
              refine gO (D0_XIm5 []) (j7 @h1 @h2 @h3 @h4 @h5' @ci_lt @ci_le) @hf (k := ?_)
              refine AWp.loopA (α := (Nat)) (0) (fun i => fc.length - i) (fun i => i ≤ fc.length ∧ ∀ x ∈ fc.take i, (!faceB x n) = true) [(1, ?_), (2, ?_)] (fun i => [(5, .sc (.int .i64 i))]) (fun i => σ.set id (.cells 46 [.sc (.string ⟨nm.toArray⟩), .sc (.int .i64 fl), .sc (.int .i64 ex), .lst 3 (fc.map iV) .unk fn])) ?_ ?_ ?_ ?_
              rotate_left 2
              · (try dsimp only); (simp only [List.cons_append, List.nil_append]; repeat (first | exact FrWk.nil | refine FrWk.cons (by first | (simp -implicitDefEqProofs [ci_lt, ci_le]; done) | exact Wk.of (by (try simp -implicitDefEqProofs [ci_lt, ci_le]) <;> rfl)) ?_))
              · (try dsimp only); (first | exact AS.le_refl _ | assumption | (repeat (first | exact AS.le_refl _ | assumption | refine le_new (by simp [*]) ?_)))
              · (try dsimp only) <;> first | exact trivial | exact ⟨by omega, rfl⟩ | omega | (simp; done) | exact ⟨by omega, by simp⟩ | exact ⟨by omega, by simp, rfl⟩
              intro i hx_
              try dsimp only at hx_ ⊢
              obtain ⟨hi, hX⟩ := hx_
              simp only [List.cons_append, List.nil_append]
              by_cases hlt : i < fc.length
              · have wi_i : IntKind.i64.wrap ((i : Int) + 1) = ((i + 1 : Nat) : Int) := ci_wi (by omega)
                by_cases g1 : fc[i] < 0
                · rw [all_bad (p := fun x => !faceB x n) hlt (by simp [faceB, g1])]
                  refine gO (D0_XIm5 []) (j6 @hlt @iV_def @g1 @ci_lt @ci_le @wi_i) True.intro (k := ?_)
                  all_goals (repeat' (with_reducible apply And.intro))
                  all_goals first
                    | exact AS.le_refl _
                    | ((repeat (first | exact AS.le_refl _ | assumption | refine le_new (by simp [*]) ?_)); done)
                    | (refine wk_eq ?_; simp_all [skipV]; done)
                    | (refine wk_b ?_; rw [Bool.eq_iff_iff]; simp [*]; omega)
                    | (refine wk_eq ?_; simp [*]; omega)
                    | (refine wk_eq ?_; split <;> simp_all [skipV]; done)
                    | (exfalso; omega)
                · by_cases g2 : n ≤ fc[i]
                  · rw [all_bad (p := fun x => !faceB x n) hlt (by simp [faceB, g2])]
                    refine gO (D0_XIm5 []) (j7 @hlt @iV_def @g1 @g2 @ci_lt @ci_le @wi_i) True.intro (k := ?_)
                    all_goals (repeat' (with_reducible apply And.intro))
                    all_goals first
                      | exact AS.le_refl _
                      | ((repeat (first | exact AS.le_refl _ | assumption | refine le_new (by simp [*]) ?_)); done)
                      | (refine wk_eq ?_; simp_all [skipV]; done)
                      | (refine wk_b ?_; rw [Bool.eq_iff_iff]; simp [*]; omega)
                      | (refine wk_eq ?_; simp [*]; omega)
                      | (refine wk_eq ?_; split <;> simp_all [skipV]; done)
                      | (exfalso; omega)
                  · repeat (first
                      | (with_reducible first | apply AWp.seq | apply AWp.block | refine And.intro (by first | omega | assumption | decide) ?_)
                      | ((first | (with_reducible first | apply AWp.fork | apply AWp.region | show condK _ _ _ | show guardK _ _ _ _ _ _ _ _ _)); simp -implicitDefEqProofs [hlt, iV_def, g1, g2, ci_lt, ci_le, wi_i])
                      | ((with_reducible first | apply AWp.ret | apply AWp.skip | apply AWp.exit); try simp -implicitDefEqProofs [hlt, iV_def, g1, g2, ci_lt, ci_le, wi_i]))
                    refine stepA.mk (i + 1) (by (try dsimp only); omega) (by (try dsimp only); (simp only [List.cons_append, List.nil_append]; repeat (first | exact FrWk.nil | refine FrWk.cons (by first | (simp -implicitDefEqProofs [ci_lt, ci_le, wi_i]; done) | exact Wk.of (by (try simp -implicitDefEqProofs [ci_lt, ci_le, wi_i]) <;> rfl)) ?_))) (by (try dsimp only); (first | exact AS.le_refl _ | assumption | (repeat (first | exact AS.le_refl _ | assumption | refine le_new (by simp [*]) ?_)))) ?_
                    try dsimp only
                    exact ⟨hlt, fun x hx => by simpa using all_next (p := fun x => !faceB x n) hlt hX (by simp [faceB, g1, g2]) x hx⟩
              · rw [all_good (p := fun x => !faceB x n) hlt hX]
                refine gO (D0_XIm5 []) (j3 @hlt @ci_lt @ci_le) True.intro (k := ?_)
                all_goals (repeat' (with_reducible apply And.intro))
                all_goals first
                  | exact AS.le_refl _
                  | ((repeat (first | exact AS.le_refl _ | assumption | refine le_new (by simp [*]) ?_)); done)
                  | (refine wk_eq ?_; simp_all [skipV]; done)
                  | (refine wk_b ?_; rw [Bool.eq_iff_iff]; simp [*]; omega)
                  | (refine wk_eq ?_; simp [*]; omega)
                  | (refine wk_eq ?_; split <;> simp_all [skipV]; done)
                  | (exfalso; omega)
            · have h5' : (4 < (fc.length : Int)) = True := by simp; omega
              have hd : db = false := by rw [← hdb]; simp; omega
              subst hd
              refine gO (D0_XIm5 []) (j7 @h1 @h2 @h3 @h4 @h5' @ci_lt @ci_le) @hf (k := ?_)
              all_goals (repeat' (with_reducible apply And.intro))
              all_goals first
                | exact AS.le_refl _
                | ((repeat (first | exact AS.le_refl _ | assumption | refine le_new (by simp [*]) ?_)); done)
                | (refine wk_eq ?_; simp_all [skipV]; done)
                | (refine wk_b ?_; rw [Bool.eq_iff_iff]; simp [*]; omega)
                | (refine wk_eq ?_; simp [*]; omega)
                | (refine wk_eq ?_; split <;> simp_all [skipV]; done)
                | (exfalso; omega)
def rinsB (x : Ins) (nt nf nm n : Int) : Bool :=
  decide (fitsE x = 0) && (if (ofT x.op).2.1 = 5 then decide (x.arg < n) else if (ofT x.op).2.1 = 6 then decide (x.arg < nm) else if (ofT x.op).2.1 = 7 then decide (x.arg < nf) else if (ofT x.op).2.1 = 8 then ownT x.t nt else true)
theorem insB_eq (x : Ins) (nt nf nm n : Int) : insB x nt nf nm n = rinsB x nt nf nm n := by
  unfold insB rinsB
  by_cases h0 : fitsE x = 0
  · have hr : ¬ (x.op < 1 ∨ 75 < x.op) := by intro h; simp [fitsE, h] at h0
    have hf : fitsO x (ofT x.op).2.1 = true := by
      cases e : fitsO x (ofT x.op).2.1 with
      | true => rfl
      | false => rw [show fitsE x = if x.op < 1 ∨ 75 < x.op then 3 else if fitsO x (ofT x.op).2.1 then 0 else 17 from rfl, if_neg hr, e] at h0; simp at h0
    have hp := op_range ⟨(x.op - 1).toNat, by omega⟩
    have e : (((x.op - 1).toNat : Nat) : Int) + 1 = x.op := by omega
    simp only [e] at hp
    generalize (ofT x.op).2.1 = o at hp hf ⊢
    congr 1
    by_cases h5 : o = 5
    · simp [h5]
    by_cases h6 : o = 6
    · simp [h6]
    by_cases h7 : o = 7
    · simp [h7]
    by_cases h8 : o = 8
    · simp [h8]
    rw [if_neg h5, if_neg h6, if_neg h7, if_neg h5, if_neg h6, if_neg h7, if_neg h8]
    have hn : noT x.t = true := by
      have : o = 0 ∨ o = 1 ∨ o = 2 ∨ o = 3 ∨ o = 4 := by omega
      rcases this with rfl | rfl | rfl | rfl | rfl <;> simp [fitsO] at hf <;> first | exact hf.1 | exact hf
    have hk : x.t.kind = 0 := by simp [noT] at hn; exact hn.1
    simp [ownT, hk]
  · simp [h0]
def rcodeB (m : Mt) (nt nf nm : Int) : Bool :=
  decide (m.code.length ≤ 160) && (m.code.all (fun x => rinsB x nt nf nm m.code.length) && (m.cls.all (fun c => clB c nt) && decide ((checkS (aloneR m.code.length) fitsR m.cls).2 = 0)))
def InI (x : Ins) : Prop := -9223372036854775808 ≤ x.arg ∧ x.arg < 9223372036854775808
theorem rcode_ok (m : Mt) (g : Img) (hL : MtL m) (hI : ∀ x ∈ m.code, InI x) (σ : AS) :
    ACalls Tryz.prog 57 [mtV m, imV g] σ (Gives (.sc (.bool (rcodeB m g.ts.length g.fs.length g.ms.length))) σ) No := by
  have hF := fun (x : Ins) (h : InI x) σ => rFits_ok x h.1 h.2 σ
  have hO := fun (op : Int) σ => rOf_ok op σ
  have hW := fun (t : Ty) σ => rown_ok t g.ts.length σ
  have hM := fun (t : Ty) σ => rmay_ok t 1 g.ts.length σ
  have hR := fun σ => right_ok m.code.length m.cls .unk m.xn hL.cls σ
  have hlc := hL.code
  have hlx := hL.cls
  unfold rcodeB
  generalize decide ((checkS (aloneR m.code.length) fitsR m.cls).2 = 0) = rb at hR ⊢
  generalize hp : (fun x => rinsB x g.ts.length g.fs.length g.ms.length m.code.length) = p
  generalize hq : (fun c => clB c g.ts.length) = q
  simp only [mtV_def, imV_def, insV_def, tyV, infV, clsV] at hF hO hW hM hR ⊢
  --CODE
  generalize hd0 : decide (m.code.length ≤ 160) = d16
  generalize hA : m.code.all p = A
  generalize hB : m.cls.all q = B
  refine ACalls.of_body Tryz.func57 rfl rfl (by simp [Tryz.ntmps57]) ?_
  refine gO (D0_XIm5 []) (j4 @ci_lt @ci_le @mtV_def @imV_def) True.intro (k := ?_)
  intro id h_id
  refine gO (D0_XIm5 []) (j4 @ci_lt @ci_le @mtV_def @imV_def) True.intro (k := ?_)
  intro id2 n_id2_id h_id2
  have n_id_id2 : ¬ id = id2 := fun e => n_id2_id e.symm
  by_cases h16 : m.code.length ≤ 160
  · have h16' : (160 < (m.code.length : Int)) = False := by simp; omega
    have hd : d16 = true := by rw [← hd0]; simp; omega
    subst hd
    refine gO (D0_XIm5 []) (And.intro (j7 @n_id_id2 @n_id2_id @h16' @ci_lt @ci_le @mtV_def @imV_def) (j2 @n_id2_id @n_id_id2)) True.intro (k := ?_)
    refine AWp.loopA (α := (Nat)) (0) (fun i => m.code.length - i) (fun i => i ≤ m.code.length ∧ ∀ x ∈ m.code.take i, p x = true) [(2, ?_), (3, ?_)] (fun i => [(5, .sc (.int .i64 i))]) (fun i => (σ.set id (.cells 53 (mtV m).cells)).set id2 (.cells 26 (imV g).cells)) ?_ ?_ ?_ ?_
    rotate_left 2
    · (try dsimp only); (simp only [List.cons_append, List.nil_append]; repeat (first | exact FrWk.nil | refine FrWk.cons (by first | (simp -implicitDefEqProofs [ci_lt, ci_le, mtV_def, imV_def, n_id2_id, n_id_id2]; done) | exact Wk.of (by (try simp -implicitDefEqProofs [ci_lt, ci_le, mtV_def, imV_def, n_id2_id, n_id_id2]) <;> rfl)) ?_))
    · (try dsimp only); (first | exact AS.le_refl _ | assumption | (repeat (first | exact AS.le_refl _ | assumption | refine le_new (by simp [*]) ?_)))
    · (try dsimp only) <;> first | exact trivial | exact ⟨by omega, rfl⟩ | omega | (simp; done) | exact ⟨by omega, by simp⟩ | exact ⟨by omega, by simp, rfl⟩
    intro i hx_
    try dsimp only at hx_ ⊢
    obtain ⟨hi, hX⟩ := hx_
    simp only [List.cons_append, List.nil_append]
    by_cases hlt : i < m.code.length
    · have wi_i : IntKind.i64.wrap ((i : Int) + 1) = ((i + 1 : Nat) : Int) := ci_wi (by omega)
      have hFi := hF m.code[i] (hI _ (List.getElem_mem hlt))
      generalize hc : m.code[i] = x at *
      have hpx : p x = rinsB x g.ts.length g.fs.length g.ms.length m.code.length := by rw [← hp]
      have hbad : p x = false → A = false := fun h => by rw [← hA]; exact all_bad hlt (by rw [hc]; exact h)
      have hgood : p x = true → ∀ y ∈ m.code.take (i + 1), p y = true := fun h => all_next hlt hX (by rw [hc]; exact h)
      have hOi := hO x.op
      have hWi := hW x.t
      unfold rinsB at hpx
      generalize ofT x.op = tt at hOi hpx
      generalize ofE x.op = oe at hOi
      generalize ownT x.t g.ts.length = ow at hWi hpx
      obtain ⟨t1, t2, t3⟩ := tt
      simp only at hpx hOi
      refine gO (D0_XIm5 []) (And.intro (j7 @hlt @hc @insV_def @n_id_id2 @n_id2_id @ci_lt @ci_le) (j5 @mtV_def @imV_def @n_id2_id @n_id_id2 @wi_i)) True.intro (k := ?_)
      intro id3 n_id3_id2 n_id3_id h_id3
      have n_id2_id3 : ¬ id2 = id3 := fun e => n_id3_id2 e.symm
      have n_id_id3 : ¬ id = id3 := fun e => n_id3_id e.symm
      by_cases h0 : fitsE x = 0
      · refine gO (D0_XIm5 []) (And.intro (j7 @n_id_id2 @n_id2_id @n_id_id3 @n_id3_id @n_id2_id3 @n_id3_id2 @insV_def) (And.intro (j7 @h0 @ci_lt @ci_le @mtV_def @imV_def @n_id2_id @n_id_id2) (j5 @wi_i @n_id3_id2 @n_id2_id3 @n_id3_id @n_id_id3))) (j3 @hFi @hOi @hWi) (k := ?_)
        intro id4 n_id4_id3 n_id4_id2 n_id4_id h_id4
        have n_id3_id4 : ¬ id3 = id4 := fun e => n_id4_id3 e.symm
        have n_id2_id4 : ¬ id2 = id4 := fun e => n_id4_id2 e.symm
        have n_id_id4 : ¬ id = id4 := fun e => n_id4_id e.symm
        by_cases h5 : t2 = 5
        · by_cases g5 : (m.code.length : Int) ≤ x.arg
          · rw [hbad (by rw [hpx]; simp [h0, h5, g5])]
            refine gO (D0_XIm5 []) (And.intro (j7 @n_id_id2 @n_id2_id @n_id_id3 @n_id3_id @n_id2_id3 @n_id3_id2 @insV_def) (And.intro (j7 @n_id_id4 @n_id4_id @n_id2_id4 @n_id4_id2 @n_id3_id4 @n_id4_id3 @h5) (And.intro (j7 @g5 @ci_lt @ci_le @mtV_def @imV_def @n_id2_id @n_id_id2) (And.intro (j7 @wi_i @n_id3_id2 @n_id2_id3 @n_id3_id @n_id_id3 @n_id4_id3 @n_id3_id4) (j4 @n_id4_id2 @n_id2_id4 @n_id4_id @n_id_id4))))) (j3 @hFi @hOi @hWi) (k := ?_)
            all_goals (repeat' (with_reducible apply And.intro))
            all_goals first
              | exact AS.le_refl _
              | ((repeat (first | exact AS.le_refl _ | assumption | refine le_new (by simp [*]) ?_)); done)
              | (refine wk_eq ?_; simp_all [skipV]; done)
              | (refine wk_b ?_; rw [Bool.eq_iff_iff]; simp [*]; omega)
              | (refine wk_eq ?_; simp [*]; omega)
              | (refine wk_eq ?_; split <;> simp_all [skipV]; done)
              | (exfalso; omega)
          · have g5' := Int.not_le.1 g5
            refine gO (D0_XIm5 []) (And.intro (j7 @n_id_id2 @n_id2_id @n_id_id3 @n_id3_id @n_id2_id3 @n_id3_id2 @insV_def) (And.intro (j7 @n_id_id4 @n_id4_id @n_id2_id4 @n_id4_id2 @n_id3_id4 @n_id4_id3 @h5) (And.intro (j7 @g5 @ci_lt @ci_le @mtV_def @imV_def @n_id2_id @n_id_id2) (And.intro (j7 @wi_i @n_id3_id2 @n_id2_id3 @n_id3_id @n_id_id3 @n_id4_id3 @n_id3_id4) (j4 @n_id4_id2 @n_id2_id4 @n_id4_id @n_id_id4))))) (j3 @hFi @hOi @hWi) (k := ?_)
            refine stepA.mk (i + 1) (by (try dsimp only); omega) (by (try dsimp only); (simp only [List.cons_append, List.nil_append]; repeat (first | exact FrWk.nil | refine FrWk.cons (by first | (simp -implicitDefEqProofs [ci_lt, ci_le, mtV_def, imV_def, n_id2_id, n_id_id2, wi_i, n_id3_id2, n_id2_id3, n_id3_id, n_id_id3, n_id4_id3, n_id3_id4, n_id4_id2, n_id2_id4, n_id4_id, n_id_id4]; done) | exact Wk.of (by (try simp -implicitDefEqProofs [ci_lt, ci_le, mtV_def, imV_def, n_id2_id, n_id_id2, wi_i, n_id3_id2, n_id2_id3, n_id3_id, n_id_id3, n_id4_id3, n_id3_id4, n_id4_id2, n_id2_id4, n_id4_id, n_id_id4]) <;> rfl)) ?_))) (by (try dsimp only); exact le_new (by simp [n_id4_id, n_id4_id2, n_id4_id3, h_id4]) (le_new (by simp [n_id3_id, n_id3_id2, h_id3]) (AS.le_refl _))) ?_
            try dsimp only
            exact ⟨hlt, hgood (by rw [hpx]; simp [h0, h5, g5]; omega)⟩
        · skip
          by_cases h6 : t2 = 6
          · by_cases g6 : (g.ms.length : Int) ≤ x.arg
            · rw [hbad (by rw [hpx]; simp [h0, h5, h6, g6])]
              refine gO (D0_XIm5 []) (And.intro (j7 @n_id_id2 @n_id2_id @n_id_id3 @n_id3_id @n_id2_id3 @n_id3_id2 @insV_def) (And.intro (j7 @n_id_id4 @n_id4_id @n_id2_id4 @n_id4_id2 @n_id3_id4 @n_id4_id3 @h5) (And.intro (j7 @h6 @g6 @ci_lt @ci_le @mtV_def @imV_def @n_id2_id) (And.intro (j7 @n_id_id2 @wi_i @n_id3_id2 @n_id2_id3 @n_id3_id @n_id_id3 @n_id4_id3) (j5 @n_id3_id4 @n_id4_id2 @n_id2_id4 @n_id4_id @n_id_id4))))) (j3 @hFi @hOi @hWi) (k := ?_)
              all_goals (repeat' (with_reducible apply And.intro))
              all_goals first
                | exact AS.le_refl _
                | ((repeat (first | exact AS.le_refl _ | assumption | refine le_new (by simp [*]) ?_)); done)
                | (refine wk_eq ?_; simp_all [skipV]; done)
                | (refine wk_b ?_; rw [Bool.eq_iff_iff]; simp [*]; omega)
                | (refine wk_eq ?_; simp [*]; omega)
                | (refine wk_eq ?_; split <;> simp_all [skipV]; done)
                | (exfalso; omega)
            · have g6' := Int.not_le.1 g6
              refine gO (D0_XIm5 []) (And.intro (j7 @n_id_id2 @n_id2_id @n_id_id3 @n_id3_id @n_id2_id3 @n_id3_id2 @insV_def) (And.intro (j7 @n_id_id4 @n_id4_id @n_id2_id4 @n_id4_id2 @n_id3_id4 @n_id4_id3 @h5) (And.intro (j7 @h6 @g6 @ci_lt @ci_le @mtV_def @imV_def @n_id2_id) (And.intro (j7 @n_id_id2 @wi_i @n_id3_id2 @n_id2_id3 @n_id3_id @n_id_id3 @n_id4_id3) (j5 @n_id3_id4 @n_id4_id2 @n_id2_id4 @n_id4_id @n_id_id4))))) (j3 @hFi @hOi @hWi) (k := ?_)
              refine stepA.mk (i + 1) (by (try dsimp only); omega) (by (try dsimp only); (simp only [List.cons_append, List.nil_append]; repeat (first | exact FrWk.nil | refine FrWk.cons (by first | (simp -implicitDefEqProofs [ci_lt, ci_le, mtV_def, imV_def, n_id2_id, n_id_id2, wi_i, n_id3_id2, n_id2_id3, n_id3_id, n_id_id3, n_id4_id3, n_id3_id4, n_id4_id2, n_id2_id4, n_id4_id, n_id_id4]; done) | exact Wk.of (by (try simp -implicitDefEqProofs [ci_lt, ci_le, mtV_def, imV_def, n_id2_id, n_id_id2, wi_i, n_id3_id2, n_id2_id3, n_id3_id, n_id_id3, n_id4_id3, n_id3_id4, n_id4_id2, n_id2_id4, n_id4_id, n_id_id4]) <;> rfl)) ?_))) (by (try dsimp only); exact le_new (by simp [n_id4_id, n_id4_id2, n_id4_id3, h_id4]) (le_new (by simp [n_id3_id, n_id3_id2, h_id3]) (AS.le_refl _))) ?_
              try dsimp only
              exact ⟨hlt, hgood (by rw [hpx]; simp [h0, h5, h6, g6]; omega)⟩
          · skip
            by_cases h7 : t2 = 7
            · by_cases g7 : (g.fs.length : Int) ≤ x.arg
              · rw [hbad (by rw [hpx]; simp [h0, h5, h6, h7, g7])]
                refine gO (D0_XIm5 []) (And.intro (j7 @n_id_id2 @n_id2_id @n_id_id3 @n_id3_id @n_id2_id3 @n_id3_id2 @insV_def) (And.intro (j7 @n_id_id4 @n_id4_id @n_id2_id4 @n_id4_id2 @n_id3_id4 @n_id4_id3 @h5) (And.intro (j7 @h6 @h7 @g7 @ci_lt @ci_le @mtV_def @imV_def) (And.intro (j7 @n_id2_id @n_id_id2 @wi_i @n_id3_id2 @n_id2_id3 @n_id3_id @n_id_id3) (j6 @n_id4_id3 @n_id3_id4 @n_id4_id2 @n_id2_id4 @n_id4_id @n_id_id4))))) (j3 @hFi @hOi @hWi) (k := ?_)
                all_goals (repeat' (with_reducible apply And.intro))
                all_goals first
                  | exact AS.le_refl _
                  | ((repeat (first | exact AS.le_refl _ | assumption | refine le_new (by simp [*]) ?_)); done)
                  | (refine wk_eq ?_; simp_all [skipV]; done)
                  | (refine wk_b ?_; rw [Bool.eq_iff_iff]; simp [*]; omega)
                  | (refine wk_eq ?_; simp [*]; omega)
                  | (refine wk_eq ?_; split <;> simp_all [skipV]; done)
                  | (exfalso; omega)
              · have g7' := Int.not_le.1 g7
                refine gO (D0_XIm5 []) (And.intro (j7 @n_id_id2 @n_id2_id @n_id_id3 @n_id3_id @n_id2_id3 @n_id3_id2 @insV_def) (And.intro (j7 @n_id_id4 @n_id4_id @n_id2_id4 @n_id4_id2 @n_id3_id4 @n_id4_id3 @h5) (And.intro (j7 @h6 @h7 @g7 @ci_lt @ci_le @mtV_def @imV_def) (And.intro (j7 @n_id2_id @n_id_id2 @wi_i @n_id3_id2 @n_id2_id3 @n_id3_id @n_id_id3) (j6 @n_id4_id3 @n_id3_id4 @n_id4_id2 @n_id2_id4 @n_id4_id @n_id_id4))))) (j3 @hFi @hOi @hWi) (k := ?_)
                refine stepA.mk (i + 1) (by (try dsimp only); omega) (by (try dsimp only); (simp only [List.cons_append, List.nil_append]; repeat (first | exact FrWk.nil | refine FrWk.cons (by first | (simp -implicitDefEqProofs [ci_lt, ci_le, mtV_def, imV_def, n_id2_id, n_id_id2, wi_i, n_id3_id2, n_id2_id3, n_id3_id, n_id_id3, n_id4_id3, n_id3_id4, n_id4_id2, n_id2_id4, n_id4_id, n_id_id4]; done) | exact Wk.of (by (try simp -implicitDefEqProofs [ci_lt, ci_le, mtV_def, imV_def, n_id2_id, n_id_id2, wi_i, n_id3_id2, n_id2_id3, n_id3_id, n_id_id3, n_id4_id3, n_id3_id4, n_id4_id2, n_id2_id4, n_id4_id, n_id_id4]) <;> rfl)) ?_))) (by (try dsimp only); exact le_new (by simp [n_id4_id, n_id4_id2, n_id4_id3, h_id4]) (le_new (by simp [n_id3_id, n_id3_id2, h_id3]) (AS.le_refl _))) ?_
                try dsimp only
                exact ⟨hlt, hgood (by rw [hpx]; simp [h0, h5, h6, h7, g7]; omega)⟩
            · skip
              by_cases h8 : t2 = 8
              · cases ow
                · rw [hbad (by rw [hpx]; simp [h0, h5, h6, h7, h8])]
                  refine gO (D0_XIm5 []) (And.intro (j7 @n_id_id2 @n_id2_id @n_id_id3 @n_id3_id @n_id2_id3 @n_id3_id2 @insV_def) (And.intro (j7 @n_id_id4 @n_id4_id @n_id2_id4 @n_id4_id2 @n_id3_id4 @n_id4_id3 @h5) (And.intro (j7 @h6 @h7 @h8 @ci_lt @ci_le @mtV_def @imV_def) (And.intro (j7 @n_id2_id @n_id_id2 @wi_i @n_id3_id2 @n_id2_id3 @n_id3_id @n_id_id3) (j6 @n_id4_id3 @n_id3_id4 @n_id4_id2 @n_id2_id4 @n_id4_id @n_id_id4))))) (j3 @hFi @hOi @hWi) (k := ?_)
                  all_goals (repeat' (with_reducible apply And.intro))
                  all_goals first
                    | exact AS.le_refl _
                    | ((repeat (first | exact AS.le_refl _ | assumption | refine le_new (by simp [*]) ?_)); done)
                    | (refine wk_eq ?_; simp_all [skipV]; done)
                    | (refine wk_b ?_; rw [Bool.eq_iff_iff]; simp [*]; omega)
                    | (refine wk_eq ?_; simp [*]; omega)
                    | (refine wk_eq ?_; split <;> simp_all [skipV]; done)
                    | (exfalso; omega)
                · refine gO (D0_XIm5 []) (And.intro (j7 @n_id_id2 @n_id2_id @n_id_id3 @n_id3_id @n_id2_id3 @n_id3_id2 @insV_def) (And.intro (j7 @n_id_id4 @n_id4_id @n_id2_id4 @n_id4_id2 @n_id3_id4 @n_id4_id3 @h5) (And.intro (j7 @h6 @h7 @h8 @ci_lt @ci_le @mtV_def @imV_def) (And.intro (j7 @n_id2_id @n_id_id2 @wi_i @n_id3_id2 @n_id2_id3 @n_id3_id @n_id_id3) (j6 @n_id4_id3 @n_id3_id4 @n_id4_id2 @n_id2_id4 @n_id4_id @n_id_id4))))) (j3 @hFi @hOi @hWi) (k := ?_)
                  refine stepA.mk (i + 1) (by (try dsimp only); omega) (by (try dsimp only); (simp only [List.cons_append, List.nil_append]; repeat (first | exact FrWk.nil | refine FrWk.cons (by first | (simp -implicitDefEqProofs [ci_lt, ci_le, mtV_def, imV_def, n_id2_id, n_id_id2, wi_i, n_id3_id2, n_id2_id3, n_id3_id, n_id_id3, n_id4_id3, n_id3_id4, n_id4_id2, n_id2_id4, n_id4_id, n_id_id4]; done) | exact Wk.of (by (try simp -implicitDefEqProofs [ci_lt, ci_le, mtV_def, imV_def, n_id2_id, n_id_id2, wi_i, n_id3_id2, n_id2_id3, n_id3_id, n_id_id3, n_id4_id3, n_id3_id4, n_id4_id2, n_id2_id4, n_id4_id, n_id_id4]) <;> rfl)) ?_))) (by (try dsimp only); exact le_new (by simp [n_id4_id, n_id4_id2, n_id4_id3, h_id4]) (le_new (by simp [n_id3_id, n_id3_id2, h_id3]) (AS.le_refl _))) ?_
                  try dsimp only
                  exact ⟨hlt, hgood (by rw [hpx]; simp [h0, h5, h6, h7, h8])⟩
              · refine gO (D0_XIm5 []) (And.intro (j7 @n_id_id2 @n_id2_id @n_id_id3 @n_id3_id @n_id2_id3 @n_id3_id2 @insV_def) (And.intro (j7 @n_id_id4 @n_id4_id @n_id2_id4 @n_id4_id2 @n_id3_id4 @n_id4_id3 @h5) (And.intro (j7 @h6 @h7 @h8 @ci_lt @ci_le @mtV_def @imV_def) (And.intro (j7 @n_id2_id @n_id_id2 @wi_i @n_id3_id2 @n_id2_id3 @n_id3_id @n_id_id3) (j6 @n_id4_id3 @n_id3_id4 @n_id4_id2 @n_id2_id4 @n_id4_id @n_id_id4))))) (j3 @hFi @hOi @hWi) (k := ?_)
                refine stepA.mk (i + 1) (by (try dsimp only); omega) (by (try dsimp only); (simp only [List.cons_append, List.nil_append]; repeat (first | exact FrWk.nil | refine FrWk.cons (by first | (simp -implicitDefEqProofs [ci_lt, ci_le, mtV_def, imV_def, n_id2_id, n_id_id2, wi_i, n_id3_id2, n_id2_id3, n_id3_id, n_id_id3, n_id4_id3, n_id3_id4, n_id4_id2, n_id2_id4, n_id4_id, n_id_id4]; done) | exact Wk.of (by (try simp -implicitDefEqProofs [ci_lt, ci_le, mtV_def, imV_def, n_id2_id, n_id_id2, wi_i, n_id3_id2, n_id2_id3, n_id3_id, n_id_id3, n_id4_id3, n_id3_id4, n_id4_id2, n_id2_id4, n_id4_id, n_id_id4]) <;> rfl)) ?_))) (by (try dsimp only); exact le_new (by simp [n_id4_id, n_id4_id2, n_id4_id3, h_id4]) (le_new (by simp [n_id3_id, n_id3_id2, h_id3]) (AS.le_refl _))) ?_
                try dsimp only
                exact ⟨hlt, hgood (by rw [hpx]; simp [h0, h5, h6, h7, h8])⟩
      · rw [hbad (by rw [hpx]; simp [h0])]
        refine gO (D0_XIm5 []) (And.intro (j7 @n_id_id2 @n_id2_id @n_id_id3 @n_id3_id @n_id2_id3 @n_id3_id2 @insV_def) (And.intro (j7 @h0 @ci_lt @ci_le @mtV_def @imV_def @n_id2_id @n_id_id2) (j5 @wi_i @n_id3_id2 @n_id2_id3 @n_id3_id @n_id_id3))) (j3 @hFi @hOi @hWi) (k := ?_)
        all_goals (repeat' (with_reducible apply And.intro))
        all_goals first
          | exact AS.le_refl _
          | ((repeat (first | exact AS.le_refl _ | assumption | refine le_new (by simp [*]) ?_)); done)
          | (refine wk_eq ?_; simp_all [skipV]; done)
          | (refine wk_b ?_; rw [Bool.eq_iff_iff]; simp [*]; omega)
          | (refine wk_eq ?_; simp [*]; omega)
          | (refine wk_eq ?_; split <;> simp_all [skipV]; done)
          | (exfalso; omega)
    · have hAt : A = true := by rw [← hA]; exact all_good hlt hX
      rw [hAt]
      refine gO (D0_XIm5 []) (And.intro (j7 @hlt @n_id_id2 @n_id2_id @ci_lt @ci_le @mtV_def @imV_def) (j2 @n_id2_id @n_id_id2)) True.intro (k := ?_)
      refine AWp.loopA (α := (Nat)) (0) (fun j => m.cls.length - j) (fun j => j ≤ m.cls.length ∧ ∀ x ∈ m.cls.take j, q x = true) [(2, ?_), (3, ?_)] (fun j => [(9, .sc (.int .i64 j))]) (fun j => (σ.set id (.cells 53 (mtV m).cells)).set id2 (.cells 26 (imV g).cells)) ?_ ?_ ?_ ?_
      rotate_left 2
      · (try dsimp only); (simp only [List.cons_append, List.nil_append]; repeat (first | exact FrWk.nil | refine FrWk.cons (by first | (simp -implicitDefEqProofs [ci_lt, ci_le, mtV_def, imV_def, n_id2_id, n_id_id2]; done) | exact Wk.of (by (try simp -implicitDefEqProofs [ci_lt, ci_le, mtV_def, imV_def, n_id2_id, n_id_id2]) <;> rfl)) ?_))
      · (try dsimp only); (first | exact AS.le_refl _ | assumption | (repeat (first | exact AS.le_refl _ | assumption | refine le_new (by simp [*]) ?_)))
      · (try dsimp only) <;> first | exact trivial | exact ⟨by omega, rfl⟩ | omega | (simp; done) | exact ⟨by omega, by simp⟩ | exact ⟨by omega, by simp, rfl⟩
      intro j hx_
      try dsimp only at hx_ ⊢
      obtain ⟨hj, hY⟩ := hx_
      simp only [List.cons_append, List.nil_append]
      by_cases hlt2 : j < m.cls.length
      · have wi_j : IntKind.i64.wrap ((j : Int) + 1) = ((j + 1 : Nat) : Int) := ci_wi (by omega)
        generalize hc : m.cls[j] = c at *
        have hqx : q c = clB c g.ts.length := by rw [← hq]
        have hbad : q c = false → B = false := fun h => by rw [← hB]; exact all_bad hlt2 (by rw [hc]; exact h)
        have hgood : q c = true → ∀ y ∈ m.cls.take (j + 1), q y = true := fun h => all_next hlt2 hY (by rw [hc]; exact h)
        have hMi := hM ⟨c.a, c.b, c.c, c.r⟩
        have hcl : clB c g.ts.length = if c.k = 1 then (whereT ⟨c.a, c.b, c.c, c.r⟩ 1 && ownT ⟨c.a, c.b, c.c, c.r⟩ g.ts.length) else noT ⟨c.a, c.b, c.c, c.r⟩ := rfl
        rw [hcl] at hqx
        clear hcl
        generalize (whereT ⟨c.a, c.b, c.c, c.r⟩ 1 && ownT ⟨c.a, c.b, c.c, c.r⟩ g.ts.length) = wb at hMi hqx
        have hn : eqAV Tryz.prog 8 49 (.agg [.sc (.int .i64 c.a), .sc (.int .i64 c.b), .sc (.int .i64 c.c), .sc (.bool c.r)]) (.agg [.sc (.int .i64 0), .sc (.int .i64 0), .sc (.int .i64 0), .sc (.bool false)]) = some (noT ⟨c.a, c.b, c.c, c.r⟩) := by simp [noT]
        generalize noT ⟨c.a, c.b, c.c, c.r⟩ = nb at hn hqx
        refine gO (D0_XIm5 []) (And.intro (j7 @hlt2 @hc @clV_def @n_id_id2 @n_id2_id @ci_lt @ci_le) (j5 @mtV_def @imV_def @n_id2_id @n_id_id2 @wi_j)) True.intro (k := ?_)
        intro id3 n_id3_id2 n_id3_id h_id3
        have n_id2_id3 : ¬ id2 = id3 := fun e => n_id3_id2 e.symm
        have n_id_id3 : ¬ id = id3 := fun e => n_id3_id e.symm
        by_cases hk : c.k = 1
        · cases wb
          · rw [hbad (by rw [hqx]; simp [hk])]
            refine gO (D0_XIm5 []) (And.intro (j7 @n_id_id2 @n_id2_id @n_id_id3 @n_id3_id @n_id2_id3 @n_id3_id2 @clV_def) (And.intro (j7 @hn @hk @ci_lt @ci_le @mtV_def @imV_def @n_id2_id) (j6 @n_id_id2 @wi_j @n_id3_id2 @n_id2_id3 @n_id3_id @n_id_id3))) @hMi (k := ?_)
            all_goals (repeat' (with_reducible apply And.intro))
            all_goals first
              | exact AS.le_refl _
              | ((repeat (first | exact AS.le_refl _ | assumption | refine le_new (by simp [*]) ?_)); done)
              | (refine wk_eq ?_; simp_all [skipV]; done)
              | (refine wk_b ?_; rw [Bool.eq_iff_iff]; simp [*]; omega)
              | (refine wk_eq ?_; simp [*]; omega)
              | (refine wk_eq ?_; split <;> simp_all [skipV]; done)
              | (exfalso; omega)
          · refine gO (D0_XIm5 []) (And.intro (j7 @n_id_id2 @n_id2_id @n_id_id3 @n_id3_id @n_id2_id3 @n_id3_id2 @clV_def) (And.intro (j7 @hn @hk @ci_lt @ci_le @mtV_def @imV_def @n_id2_id) (j6 @n_id_id2 @wi_j @n_id3_id2 @n_id2_id3 @n_id3_id @n_id_id3))) @hMi (k := ?_)
            refine stepA.mk (j + 1) (by (try dsimp only); omega) (by (try dsimp only); (simp only [List.cons_append, List.nil_append]; repeat (first | exact FrWk.nil | refine FrWk.cons (by first | (simp -implicitDefEqProofs [ci_lt, ci_le, mtV_def, imV_def, n_id2_id, n_id_id2, wi_j, n_id3_id2, n_id2_id3, n_id3_id, n_id_id3]; done) | exact Wk.of (by (try simp -implicitDefEqProofs [ci_lt, ci_le, mtV_def, imV_def, n_id2_id, n_id_id2, wi_j, n_id3_id2, n_id2_id3, n_id3_id, n_id_id3]) <;> rfl)) ?_))) (by (try dsimp only); exact le_new (by simp [n_id3_id, n_id3_id2, h_id3]) (AS.le_refl _)) ?_
            try dsimp only
            exact ⟨hlt2, hgood (by rw [hqx]; simp [hk])⟩
        · cases nb
          · rw [hbad (by rw [hqx]; simp [hk])]
            refine gO (D0_XIm5 []) (And.intro (j7 @n_id_id2 @n_id2_id @n_id_id3 @n_id3_id @n_id2_id3 @n_id3_id2 @clV_def) (And.intro (j7 @hn @hk @ci_lt @ci_le @mtV_def @imV_def @n_id2_id) (j6 @n_id_id2 @wi_j @n_id3_id2 @n_id2_id3 @n_id3_id @n_id_id3))) @hMi (k := ?_)
            all_goals (repeat' (with_reducible apply And.intro))
            all_goals first
              | exact AS.le_refl _
              | ((repeat (first | exact AS.le_refl _ | assumption | refine le_new (by simp [*]) ?_)); done)
              | (refine wk_eq ?_; simp_all [skipV]; done)
              | (refine wk_b ?_; rw [Bool.eq_iff_iff]; simp [*]; omega)
              | (refine wk_eq ?_; simp [*]; omega)
              | (refine wk_eq ?_; split <;> simp_all [skipV]; done)
              | (exfalso; omega)
          · refine gO (D0_XIm5 []) (And.intro (j7 @n_id_id2 @n_id2_id @n_id_id3 @n_id3_id @n_id2_id3 @n_id3_id2 @clV_def) (And.intro (j7 @hn @hk @ci_lt @ci_le @mtV_def @imV_def @n_id2_id) (j6 @n_id_id2 @wi_j @n_id3_id2 @n_id2_id3 @n_id3_id @n_id_id3))) @hMi (k := ?_)
            refine stepA.mk (j + 1) (by (try dsimp only); omega) (by (try dsimp only); (simp only [List.cons_append, List.nil_append]; repeat (first | exact FrWk.nil | refine FrWk.cons (by first | (simp -implicitDefEqProofs [ci_lt, ci_le, mtV_def, imV_def, n_id2_id, n_id_id2, wi_j, n_id3_id2, n_id2_id3, n_id3_id, n_id_id3]; done) | exact Wk.of (by (try simp -implicitDefEqProofs [ci_lt, ci_le, mtV_def, imV_def, n_id2_id, n_id_id2, wi_j, n_id3_id2, n_id2_id3, n_id3_id, n_id_id3]) <;> rfl)) ?_))) (by (try dsimp only); exact le_new (by simp [n_id3_id, n_id3_id2, h_id3]) (AS.le_refl _)) ?_
            try dsimp only
            exact ⟨hlt2, hgood (by rw [hqx]; simp [hk])⟩
      · have hBt : B = true := by rw [← hB]; exact all_good hlt2 hY
        rw [hBt]
        refine gO (D0_XIm5 []) (And.intro (j7 @hlt2 @n_id_id2 @n_id2_id @ci_lt @ci_le @mtV_def @imV_def) (j2 @n_id2_id @n_id_id2)) @hR (k := ?_)
        all_goals (repeat' (with_reducible apply And.intro))
        all_goals first
          | exact AS.le_refl _
          | ((repeat (first | exact AS.le_refl _ | assumption | refine le_new (by simp [*]) ?_)); done)
          | (refine wk_eq ?_; simp_all [skipV]; done)
          | (refine wk_b ?_; rw [Bool.eq_iff_iff]; simp [*]; omega)
          | (refine wk_eq ?_; simp [*]; omega)
          | (refine wk_eq ?_; split <;> simp_all [skipV]; done)
          | (exfalso; omega)
  · have h16' : (160 < (m.code.length : Int)) = True := by simp; omega
    have hd : d16 = false := by rw [← hd0]; simp; omega
    subst hd
    refine gO (D0_XIm5 []) (And.intro (j7 @n_id_id2 @n_id2_id @h16' @ci_lt @ci_le @mtV_def @imV_def) (j2 @n_id2_id @n_id_id2)) True.intro (k := ?_)
    all_goals (repeat' (with_reducible apply And.intro))
    all_goals first
      | exact AS.le_refl _
      | ((repeat (first | exact AS.le_refl _ | assumption | refine le_new (by simp [*]) ?_)); done)
      | (refine wk_eq ?_; simp_all [skipV]; done)
      | (refine wk_b ?_; rw [Bool.eq_iff_iff]; simp [*]; omega)
      | (refine wk_eq ?_; simp [*]; omega)
      | (refine wk_eq ?_; split <;> simp_all [skipV]; done)
      | (exfalso; omega)
end Im
end Go.Proofs.YtknalmoackcpbaaGreat
