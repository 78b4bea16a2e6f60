/- Package regions: Check. -/
import Derived.Test.YtknalmoackcpbaaGreatAwGo
import Derived.Test.YtknalmoackcpbaaGreatReg4
set_option linter.unusedSimpArgs false
set_option linter.unusedVariables false
set_option maxRecDepth 100000
set_option maxHeartbeats 3200000
namespace Go.Proofs.YtknalmoackcpbaaGreat
namespace Rg
open Go Go.AW
theorem D0_XReg5 (S : List Nat) : Plans Tryz.prog [] S := mixed
def clsV (l : List Cl) (o : Own) (nl : Bool) : AV := .lst 158 (l.map clV) o nl
def chkF (al : Cl → Int) (ft : Cl → Cl → Bool) : List Cl → List Cl → Int × Int
  | _, [] => (0, 0)
  | pre, c :: r => if al c = 0 then (if pre.all (fun a => ft a c) = true then chkF al ft (pre ++ [c]) r else ((pre.length : Int), 12)) else ((pre.length : Int), al c)
def checkS (al : Cl → Int) (ft : Cl → Cl → Bool) (l : List Cl) : Int × Int := if 6 < l.length then (0, 4) else chkF al ft [] l
theorem clV_def (c : Cl) : clV c = .agg [.sc (.int .i64 c.k), .sc (.int .i64 c.tf), .sc (.int .i64 c.tt), .sc (.int .i64 c.hf), .sc (.int .i64 c.ht), .sc (.int .i64 c.fl), .sc (.int .i64 c.a), .sc (.int .i64 c.b), .sc (.int .i64 c.c), .sc (.bool c.r)] := rfl
theorem check_ok (n : Int) (l : List Cl) (o : Own) (nl : Bool) (hl : l.length ≤ 140737488355328) (σ : AS) :
    ACalls Tryz.prog 125 [.sc (.int .i64 n), clsV l o nl] σ (Gives (.tup [.sc (.int .i64 (checkS (aloneS n) fitsS l).1), .sc (.int .i64 (checkS (aloneS n) fitsS l).2)]) σ) No := by
  have ha := fun c σ => alone_ok n c σ
  have hf := fun a c σ => fits_ok a c σ
  unfold checkS
  simp only [clsV, clV_def] at ha hf ⊢
  generalize aloneS n = al at *
  generalize fitsS = ft at *
  refine ACalls.of_body Tryz.func125 rfl rfl (by simp [Tryz.ntmps125]) ?_
  by_cases h6 : 6 < l.length
  · have h6' : (6 < (l.length : Int)) = True := by simp; omega
    exact gE (D0_XReg5 []) (j4 @h6 @h6' @ci_lt @ci_le) True.intro
  · have h6' : (6 < (l.length : Int)) = False := by simp; omega
    rw [if_neg h6]
    refine gO (D0_XReg5 []) (j3 @h6' @ci_lt @ci_le) True.intro (k := ?_)
    refine AWp.loopA (α := (Nat)) (0) (fun i => l.length - i) (fun i => i ≤ l.length ∧ chkF al ft [] l = chkF al ft (l.take i) (l.drop i)) [(0, ?_), (1, ?_), (14, ?_), (15, ?_)] (fun i => [(16, .sc (.int .i64 i))]) (fun i => σ) ?_ ?_ ?_ ?_
    rotate_left 4
    · (try dsimp only); (simp only [List.cons_append, List.nil_append]; repeat (first | exact FrWk.nil | refine FrWk.cons (by first | (simp -implicitDefEqProofs [ci_lt, ci_le]; done) | exact Wk.of (by (try simp -implicitDefEqProofs [ci_lt, ci_le]) <;> rfl)) ?_))
    · (try dsimp only); (first | exact AS.le_refl _ | assumption | (repeat (first | exact AS.le_refl _ | assumption | refine le_new (by simp [*]) ?_)))
    · (try dsimp only) <;> first | exact trivial | exact ⟨by omega, rfl⟩ | omega | (simp; done) | exact ⟨by omega, by simp⟩ | exact ⟨by omega, by simp, rfl⟩
    intro i hx_
    try dsimp only at hx_ ⊢
    obtain ⟨hi, hX⟩ := hx_
    simp only [List.cons_append, List.nil_append]
    by_cases hlt : i < l.length
    · have wi_i : IntKind.i64.wrap ((i : Int) + 1) = ((i + 1 : Nat) : Int) := ci_wi (by omega)
      rw [List.drop_eq_getElem_cons hlt] at hX
      simp only [chkF, List.length_take] at hX
      have hal := ha l[i]
      generalize hc : l[i] = c at *
      by_cases h0 : al c = 0
      · rw [if_pos h0] at hX
        refine gO (D0_XReg5 []) (j6 @hlt @hc @clV_def @ci_lt @ci_le @wi_i) True.intro (k := ?_)
        intro id h_id
        refine gO (D0_XReg5 []) (j4 @h0 @ci_lt @ci_le @wi_i) @hal (k := ?_)
        refine AWp.loopA (α := (Nat)) (0) (fun k => i - k) (fun k => k ≤ i ∧ ∀ x ∈ l.take k, ft x c = true) [(0, ?_), (1, ?_), (6, ?_), (7, ?_), (8, ?_), (14, ?_), (15, ?_), (16, ?_), (17, ?_), (18, ?_), (19, ?_), (20, ?_), (21, ?_), (22, ?_), (23, ?_), (24, ?_), (25, ?_), (26, ?_), (27, ?_), (28, ?_), (29, ?_), (30, ?_), (31, ?_)] (fun k => [(32, .sc (.int .i64 k))]) (fun k => σ.set id (.cells 158 (clV c).cells)) ?_ ?_ ?_ ?_
        rotate_left 23
        · (try dsimp only); (simp only [List.cons_append, List.nil_append]; repeat (first | exact FrWk.nil | refine FrWk.cons (by first | (simp -implicitDefEqProofs [ci_lt, ci_le, wi_i]; done) | exact Wk.of (by (try simp -implicitDefEqProofs [ci_lt, ci_le, wi_i]) <;> rfl)) ?_))
        · (try dsimp only); (first | exact AS.le_refl _ | assumption | (repeat (first | exact AS.le_refl _ | assumption | refine le_new (by simp [*]) ?_)))
        · (try dsimp only) <;> first | exact trivial | exact ⟨by omega, rfl⟩ | omega | (simp; done) | exact ⟨by omega, by simp⟩ | exact ⟨by omega, by simp, rfl⟩
        intro k hx_
        try dsimp only at hx_ ⊢
        obtain ⟨hk, hY⟩ := hx_
        simp only [List.cons_append, List.nil_append]
        by_cases hlt2 : k < i
        · have wi_k : IntKind.i64.wrap ((k : Int) + 1) = ((k + 1 : Nat) : Int) := ci_wi (by omega)
          have hfc := hf l[k] c
          have hm1 : k < min i l.length := by omega
          generalize hd : l[k] = d at *
          refine gO (D0_XReg5 []) (j8 @hlt2 @hd @clV_def @hm1 @ci_lt @ci_le @wi_i @wi_k) True.intro (k := ?_)
          intro id2 n_id2_id h_id2
          have n_id_id2 : ¬ id = id2 := fun e => n_id2_id e.symm
          cases hb : ft d c with
          | true =>
            rw [hb] at hfc
            refine gO (D0_XReg5 []) (j6 @n_id_id2 @clV_def @ci_lt @ci_le @wi_i @wi_k) @hfc (k := ?_)
            refine stepA.mk (k + 1) (by (try dsimp only); omega) (by (try dsimp only); (simp only [List.cons_append, List.nil_append]; repeat (first | exact FrWk.nil | refine FrWk.cons (by first | (simp -implicitDefEqProofs [ci_lt, ci_le, wi_i, wi_k]; done) | exact Wk.of (by (try simp -implicitDefEqProofs [ci_lt, ci_le, wi_i, wi_k]) <;> rfl)) ?_))) (by (try dsimp only); exact le_new (by simp [n_id2_id, h_id2]) (AS.le_refl _)) ?_
            try dsimp only
            refine ⟨by omega, fun x hx => ?_⟩
            rw [List.take_succ_eq_append_getElem (by omega)] at hx
            rcases List.mem_append.1 hx with hx | hx
            · exact hY x hx
            · simp at hx; rw [hx, hd]; exact hb
          | false =>
            rw [hb] at hfc
            have hno : ¬ (l.take i).all (fun a => ft a c) = true := by
              intro h
              rw [List.all_eq_true] at h
              have := h d (by rw [List.mem_take_iff_getElem]; exact ⟨k, by omega, hd⟩)
              rw [hb] at this; cases this
            rw [if_neg hno, show min i l.length = i by omega] at hX
            rw [hX]
            refine gO (D0_XReg5 []) (j6 @n_id_id2 @clV_def @ci_lt @ci_le @wi_i @wi_k) @hfc (k := ?_)
            refine le_new ?_ (le_new h_id (AS.le_refl _))
            simp [n_id2_id, h_id2]
        · have hall : (l.take i).all (fun a => ft a c) = true := by
            rw [List.all_eq_true]
            intro x hx
            exact hY x (by rwa [show k = i by omega])
          rw [if_pos hall] at hX
          have hm1 : ¬ k < min i l.length := by omega
          refine gO (D0_XReg5 []) (j5 @hlt2 @hm1 @ci_lt @ci_le @wi_i) True.intro (k := ?_)
          refine stepA.mk (i + 1) (by (try dsimp only); omega) (by (try dsimp only); (simp only [List.cons_append, List.nil_append]; repeat (first | exact FrWk.nil | refine FrWk.cons (by first | (simp -implicitDefEqProofs [ci_lt, ci_le, wi_i]; done) | exact Wk.of (by (try simp -implicitDefEqProofs [ci_lt, ci_le, wi_i]) <;> rfl)) ?_))) (by (try dsimp only); exact le_new h_id (AS.le_refl _)) ?_
          try dsimp only
          refine ⟨by omega, ?_⟩
          rw [hX, List.take_succ_eq_append_getElem hlt, hc]
      · rw [if_neg h0, show min i l.length = i by omega] at hX
        rw [hX]
        refine gO (D0_XReg5 []) (j6 @hlt @hc @clV_def @ci_lt @ci_le @wi_i) True.intro (k := ?_)
        intro id h_id
        refine gO (D0_XReg5 []) (j4 @h0 @ci_lt @ci_le @wi_i) @hal (k := ?_)
        all_goals (repeat' (with_reducible apply And.intro))
        all_goals first
          | exact AS.le_refl _
          | ((repeat (first | exact AS.le_refl _ | assumption | refine le_new (by simp [*]) ?_)); done)
          | (refine wk_eq ?_; simp_all [skipV]; done)
          | (refine wk_b ?_; rw [Bool.eq_iff_iff]; simp [*]; omega)
          | (refine wk_eq ?_; simp [*]; omega)
          | (refine wk_eq ?_; split <;> simp_all [skipV]; done)
          | (exfalso; omega)
    · rw [List.drop_eq_nil_of_le (by omega)] at hX
      rw [hX]
      simp only [chkF]
      exact gE (D0_XReg5 []) (j3 @hlt @ci_lt @ci_le) True.intro
end Rg
end Go.Proofs.YtknalmoackcpbaaGreat
