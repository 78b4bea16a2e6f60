/- Chapter 10: types, fields. -/
import Derived.Test.YtknalmoackcpbaaGreatAwGo
import Derived.Test.YtknalmoackcpbaaGreatIm2
set_option linter.unusedSimpArgs false
set_option linter.unusedVariables false
set_option maxRecDepth 100000
set_option maxHeartbeats 3200000
namespace Go.Proofs.YtknalmoackcpbaaGreat
namespace Im
open Go Go.AW
theorem D0_XIm3 (S : List Nat) : Plans Tryz.prog [] S := mixed
open Rg (Cl clV clV_def)
def faceB (f n : Int) : Bool := decide (f < 0 ∨ n ≤ f)
def tdB (t : TD) (n : Int) : Bool := fineB t.name && (decide (0 ≤ t.flags ∧ t.flags ≤ 31 ∧ -1 ≤ t.ext ∧ t.ext < n ∧ t.faces.length ≤ 4) && !t.faces.any (fun f => faceB f n))
theorem types11_ok (f n : Int) (id : Nat) (σ : AS) (h : σ id = some (.cells 3 [.sc (.int .i64 n)])) :
    ACalls Tryz.prog 51 [iV f, .ptr id 0] σ (Gives (.sc (.bool (faceB f n))) σ) No := by
  refine ACalls.of_body Tryz.func51 rfl rfl (by simp [Tryz.ntmps51]) ?_
  simp only [iV_def, faceB]
  by_cases h0 : f < 0
  · exact gE (D0_XIm3 []) (j2 @h0 @h) True.intro
    all_goals (repeat' (with_reducible apply And.intro))
    all_goals first
      | exact AS.le_refl _
      | ((repeat (first | exact AS.le_refl _ | assumption | refine le_new (by simp [*]) ?_)); done)
      | (refine wk_eq ?_; simp_all [skipV, h0]; done)
      | (refine wk_b ?_; rw [Bool.eq_iff_iff]; simp [*, h0]; omega)
      | (refine wk_eq ?_; simp [*, h0]; omega)
      | (refine wk_eq ?_; split <;> simp_all [skipV]; done)
      | (exfalso; omega)
  · exact gE (D0_XIm3 []) (j2 @h0 @h) True.intro
    all_goals (repeat' (with_reducible apply And.intro))
    all_goals first
      | exact AS.le_refl _
      | ((repeat (first | exact AS.le_refl _ | assumption | refine le_new (by simp [*]) ?_)); done)
      | (refine wk_eq ?_; simp_all [skipV, h0]; done)
      | (refine wk_b ?_; rw [Bool.eq_iff_iff]; simp [*, h0]; omega)
      | (refine wk_eq ?_; simp [*, h0]; omega)
      | (refine wk_eq ?_; split <;> simp_all [skipV]; done)
      | (exfalso; omega)
theorem types1_ok (t : TD) (hl : t.faces.length ≤ 140737488355328) (hn : t.name.length ≤ 140737488355328) (n : Int) (id : Nat) (σ : AS) (h : σ id = some (.cells 3 [.sc (.int .i64 n)])) :
    ACalls Tryz.prog 49 [tdV t, .ptr id 0] σ (Gives (.sc (.bool (!tdB t n))) σ) No := by
  have hc := fun σ (h : σ id = some (.cells 3 [.sc (.int .i64 n)])) => inHas_ok t.faces .unk t.fn (.fn (.func 51) [] [.ptr id 0]) (fun f => faceB f n) σ hl
    (fun x _ => FnG.fn (types11_ok x n id σ h))
  have hf := fun σ => fine_ok t.name hn σ
  unfold tdB
  generalize t.faces.any (fun f => faceB f n) = b at hc ⊢
  generalize fineB t.name = fb at hf ⊢
  obtain ⟨nm, fl, ex, fc, fn⟩ := t
  simp only [tdV_def] at hc hf ⊢
  refine ACalls.of_body Tryz.func49 rfl rfl (by simp [Tryz.ntmps49]) ?_
  refine gO (D0_XIm3 []) True.intro True.intro (k := ?_)
  intro id2 h_id2
  have n_id_id2 : ¬ id = id2 := by rintro rfl; rw [h] at h_id2; cases h_id2
  have n_id2_id : ¬ id2 = id := fun e => n_id_id2 e.symm
  refine gO (D0_XIm3 []) (j6 @h @n_id_id2 @n_id2_id @n_id2_id @n_id_id2 @h) (j2 @hc @hf) (k := ?_)
  cases fb
  · refine gO (D0_XIm3 []) (j6 @h @n_id_id2 @n_id2_id @n_id2_id @n_id_id2 @h) @hf (k := ?_)
    all_goals (repeat' (with_reducible apply And.intro))
    all_goals first
      | exact AS.le_refl _
      | ((repeat (first | exact AS.le_refl _ | assumption | refine le_new (by simp [*]) ?_)); done)
      | (refine wk_eq ?_; simp_all [skipV]; done)
      | (refine wk_b ?_; rw [Bool.eq_iff_iff]; simp [*]; omega)
      | (refine wk_eq ?_; simp [*]; omega)
      | (refine wk_eq ?_; split <;> simp_all [skipV]; done)
      | (exfalso; omega)
  · by_cases h1 : fl < 0
    · refine gO (D0_XIm3 []) (j7 @h @n_id_id2 @n_id2_id @h1 @n_id2_id @n_id_id2 @h) @hf (k := ?_)
      all_goals (repeat' (with_reducible apply And.intro))
      all_goals first
        | exact AS.le_refl _
        | ((repeat (first | exact AS.le_refl _ | assumption | refine le_new (by simp [*]) ?_)); done)
        | (refine wk_eq ?_; simp_all [skipV, h1]; done)
        | (refine wk_b ?_; rw [Bool.eq_iff_iff]; simp [*, h1]; omega)
        | (refine wk_eq ?_; simp [*, h1]; omega)
        | (refine wk_eq ?_; split <;> simp_all [skipV]; done)
        | (exfalso; omega)
    · by_cases h2 : 31 < fl
      · refine gO (D0_XIm3 []) (j8 @h @n_id_id2 @n_id2_id @h1 @h2 @n_id2_id @n_id_id2 @h) @hf (k := ?_)
        all_goals (repeat' (with_reducible apply And.intro))
        all_goals first
          | exact AS.le_refl _
          | ((repeat (first | exact AS.le_refl _ | assumption | refine le_new (by simp [*]) ?_)); done)
          | (refine wk_eq ?_; simp_all [skipV, h1, h2]; done)
          | (refine wk_b ?_; rw [Bool.eq_iff_iff]; simp [*, h1, h2]; omega)
          | (refine wk_eq ?_; simp [*, h1, h2]; omega)
          | (refine wk_eq ?_; split <;> simp_all [skipV]; done)
          | (exfalso; omega)
      · by_cases h3 : ex < -1
        · refine gO (D0_XIm3 []) (And.intro (j7 @h @n_id_id2 @n_id2_id @h1 @h2 @h3 @n_id2_id) (j2 @n_id_id2 @h)) @hf (k := ?_)
          all_goals (repeat' (with_reducible apply And.intro))
          all_goals first
            | exact AS.le_refl _
            | ((repeat (first | exact AS.le_refl _ | assumption | refine le_new (by simp [*]) ?_)); done)
            | (refine wk_eq ?_; simp_all [skipV, h1, h2, h3]; done)
            | (refine wk_b ?_; rw [Bool.eq_iff_iff]; simp [*, h1, h2, h3]; omega)
            | (refine wk_eq ?_; simp [*, h1, h2, h3]; omega)
            | (refine wk_eq ?_; split <;> simp_all [skipV]; done)
            | (exfalso; omega)
        · by_cases h4 : n ≤ ex
          · refine gO (D0_XIm3 []) (And.intro (j7 @h @n_id_id2 @n_id2_id @h1 @h2 @h3 @h4) (j3 @n_id2_id @n_id_id2 @h)) @hf (k := ?_)
            all_goals (repeat' (with_reducible apply And.intro))
            all_goals first
              | exact AS.le_refl _
              | ((repeat (first | exact AS.le_refl _ | assumption | refine le_new (by simp [*]) ?_)); done)
              | (refine wk_eq ?_; simp_all [skipV, h1, h2, h3, h4]; done)
              | (refine wk_b ?_; rw [Bool.eq_iff_iff]; simp [*, h1, h2, h3, h4]; omega)
              | (refine wk_eq ?_; simp [*, h1, h2, h3, h4]; omega)
              | (refine wk_eq ?_; split <;> simp_all [skipV]; done)
              | (exfalso; omega)
          · by_cases h5 : fc.length ≤ 4
            · have h5' : (4 < (fc.length : Int)) = False := by simp; omega
              refine gO (D0_XIm3 []) (And.intro (j7 @h @n_id_id2 @n_id2_id @h1 @h2 @h3 @h4) (j4 @h5' @n_id2_id @n_id_id2 @h)) @hf (k := ?_)
              all_goals (repeat' (with_reducible apply And.intro))
              all_goals first
                | exact AS.le_refl _
                | ((repeat (first | exact AS.le_refl _ | assumption | refine le_new (by simp [*]) ?_)); done)
                | (refine wk_eq ?_; simp_all [skipV, h1, h2, h3, h4, h5]; done)
                | (refine wk_b ?_; rw [Bool.eq_iff_iff]; simp [*, h1, h2, h3, h4, h5]; omega)
                | (refine wk_eq ?_; simp [*, h1, h2, h3, h4, h5]; omega)
                | (refine wk_eq ?_; split <;> simp_all [skipV]; done)
                | (exfalso; omega)
            · have h5' : (4 < (fc.length : Int)) = True := by simp; omega
              refine gO (D0_XIm3 []) (And.intro (j7 @h @n_id_id2 @n_id2_id @h1 @h2 @h3 @h4) (j4 @h5' @n_id2_id @n_id_id2 @h)) @hf (k := ?_)
              all_goals (repeat' (with_reducible apply And.intro))
              all_goals first
                | exact AS.le_refl _
                | ((repeat (first | exact AS.le_refl _ | assumption | refine le_new (by simp [*]) ?_)); done)
                | (refine wk_eq ?_; simp_all [skipV, h1, h2, h3, h4, h5]; done)
                | (refine wk_b ?_; rw [Bool.eq_iff_iff]; simp [*, h1, h2, h3, h4, h5]; omega)
                | (refine wk_eq ?_; simp [*, h1, h2, h3, h4, h5]; omega)
                | (refine wk_eq ?_; split <;> simp_all [skipV]; done)
                | (exfalso; omega)
def tdsB (l : List TD) : Bool := decide (l.length ≤ 32) && l.all (fun t => tdB t l.length)
theorem any_not_all {α : Type} (p : α → Bool) (l : List α) : (l.any fun x => !p x) = !l.all p := by
  induction l with
  | nil => rfl
  | cons a r ih => simp [ih]
theorem types_ok (g : Img) (hl : g.ts.length ≤ 140737488355328) (hn : ∀ t ∈ g.ts, t.faces.length ≤ 140737488355328 ∧ t.name.length ≤ 140737488355328) (σ : AS) :
    ACalls Tryz.prog 18 [imV g] σ (Gives (.sc (.bool (tdsB g.ts))) σ) No := by
  have hc := fun σ id (h : σ id = some (.cells 3 [.sc (.int .i64 g.ts.length)])) => tdHas_ok g.ts .unk g.tn (.fn (.func 49) [] [.ptr id 0]) (fun t => !tdB t g.ts.length) σ hl
    (fun x hx => FnG.fn (types1_ok x (hn x hx).1 (hn x hx).2 g.ts.length id σ h))
  simp only [any_not_all] at hc
  unfold tdsB
  generalize (g.ts.all fun t => tdB t g.ts.length) = b at hc ⊢
  simp only [imV_def] at hc ⊢
  have e32 : ((g.ts.length : Int) ≤ 32) = (g.ts.length ≤ 32) := by simp; omega
  refine ACalls.of_body Tryz.func18 rfl rfl (by simp [Tryz.ntmps18]) ?_
  refine gO (D0_XIm3 []) True.intro True.intro (k := ?_)
  intro id h_id
  refine gO (D0_XIm3 []) True.intro True.intro (k := ?_)
  intro id2 n_id2_id h_id2
  have n_id_id2 : ¬ id = id2 := fun e => n_id2_id e.symm
  by_cases h32 : g.ts.length ≤ 32
  · refine gO (D0_XIm3 []) (j6 @n_id_id2 @n_id2_id @e32 @h32 @n_id2_id @n_id_id2) @hc (k := ?_)
    all_goals (repeat' (with_reducible apply And.intro))
    all_goals first
      | exact AS.le_refl _
      | ((repeat (first | exact AS.le_refl _ | assumption | refine le_new (by simp [*]) ?_)); done)
      | (refine wk_eq ?_; simp_all [skipV, h32]; done)
      | (refine wk_b ?_; rw [Bool.eq_iff_iff]; simp [*, h32]; omega)
      | (refine wk_eq ?_; simp [*, h32]; omega)
      | (refine wk_eq ?_; split <;> simp_all [skipV]; done)
      | (exfalso; omega)
  · refine gO (D0_XIm3 []) (j6 @n_id_id2 @n_id2_id @e32 @h32 @n_id2_id @n_id_id2) @hc (k := ?_)
    all_goals (repeat' (with_reducible apply And.intro))
    all_goals first
      | exact AS.le_refl _
      | ((repeat (first | exact AS.le_refl _ | assumption | refine le_new (by simp [*]) ?_)); done)
      | (refine wk_eq ?_; simp_all [skipV, h32]; done)
      | (refine wk_b ?_; rw [Bool.eq_iff_iff]; simp [*, h32]; omega)
      | (refine wk_eq ?_; simp [*, h32]; omega)
      | (refine wk_eq ?_; split <;> simp_all [skipV]; done)
      | (exfalso; omega)
def fdsF (nt : Int) : Int → List Fd → Bool
  | _, [] => true
  | last, f :: r => if fineB f.name = true ∧ last ≤ f.owner ∧ f.owner < nt ∧ fldB f.ty nt = true then fdsF nt f.owner r else false
theorem fields_ok (g : Img) (hl : g.fs.length ≤ 140737488355328) (hlt : g.ts.length ≤ 140737488355328) (hn : ∀ f ∈ g.fs, f.name.length ≤ 140737488355328) (σ : AS) :
    ACalls Tryz.prog 19 [imV g] σ (Gives (.sc (.bool (fdsF g.ts.length 0 g.fs && decide (g.fs.length ≤ 64)))) σ) No := by
  have e64 : ((g.fs.length : Int) ≤ 64) = (g.fs.length ≤ 64) := by simp; omega
  have hF := fun (f : Fd) (h : f.name.length ≤ 140737488355328) σ => fine_ok f.name h σ
  have hT := fun (f : Fd) σ => field_ok f.ty g.ts.length σ
  simp only [imV_def, tyV] at hT ⊢
  refine ACalls.of_body Tryz.func19 rfl rfl (by simp [Tryz.ntmps19]) ?_
  refine gO (D0_XIm3 []) (j3 @ci_lt @ci_le @imV_def) True.intro (k := ?_)
  intro id h_id
  refine gO (D0_XIm3 []) (j3 @ci_lt @ci_le @imV_def) True.intro (k := ?_)
  refine AWp.loopA (α := (Nat) × (Int)) ((0, 0)) (fun ⟨i, last⟩ => g.fs.length - i) (fun ⟨i, last⟩ => i ≤ g.fs.length ∧ fdsF g.ts.length 0 g.fs = fdsF g.ts.length last (g.fs.drop i)) [(1, ?_), (7, ?_), (8, ?_)] (fun ⟨i, last⟩ => [(9, .sc (.int .i64 i)), (3, .sc (.int .i64 last))]) (fun ⟨i, last⟩ => σ.set id (.cells 26 (imV g).cells)) ?_ ?_ ?_ ?_
  rotate_left 3
  · (try dsimp only); (simp only [List.cons_append, List.nil_append]; repeat (first | exact FrWk.nil | refine FrWk.cons (by first | (simp -implicitDefEqProofs [ci_lt, ci_le, imV_def]; done) | exact Wk.of (by (try simp -implicitDefEqProofs [ci_lt, ci_le, imV_def]) <;> rfl)) ?_))
  · (try dsimp only); (first | exact AS.le_refl _ | assumption | (repeat (first | exact AS.le_refl _ | assumption | refine le_new (by simp [*]) ?_)))
  · (try dsimp only) <;> first | exact trivial | exact ⟨by omega, rfl⟩ | omega | (simp; done) | exact ⟨by omega, by simp⟩ | exact ⟨by omega, by simp, rfl⟩
  intro x_ hx_
  obtain ⟨i, last⟩ := x_
  try dsimp only at hx_ ⊢
  obtain ⟨hi, hX⟩ := hx_
  simp only [List.cons_append, List.nil_append]
  by_cases hlt : i < g.fs.length
  · have wi_i : IntKind.i64.wrap ((i : Int) + 1) = ((i + 1 : Nat) : Int) := ci_wi (by omega)
    rw [List.drop_eq_getElem_cons hlt] at hX
    simp only [fdsF] at hX
    have hFi := hF g.fs[i] (hn _ (List.getElem_mem hlt))
    have hTi := hT g.fs[i]
    generalize hc : g.fs[i] = f at *
    refine gO (D0_XIm3 []) (j7 @hlt @hc @fdV_def @ci_lt @ci_le @imV_def @wi_i) True.intro (k := ?_)
    intro id2 n_id2_id h_id2
    have n_id_id2 : ¬ id = id2 := fun e => n_id2_id e.symm
    cases h1 : fineB f.name with
    | false =>
      rw [h1] at hFi
      have hX2 : fdsF g.ts.length 0 g.fs = false := by rw [hX]; simp [h1]
      rw [hX2]
      refine gO (D0_XIm3 []) (j8 @n_id_id2 @n_id2_id @ci_lt @ci_le @imV_def @wi_i @n_id2_id @n_id_id2) (j2 @hFi @hTi) (k := ?_)
      all_goals (repeat' (with_reducible apply And.intro))
      all_goals first
        | exact AS.le_refl _
        | ((repeat (first | exact AS.le_refl _ | assumption | refine le_new (by simp [*]) ?_)); done)
        | (refine wk_eq ?_; simp_all [skipV]; done)
        | (refine wk_b ?_; rw [Bool.eq_iff_iff]; simp [*]; omega)
        | (refine wk_eq ?_; simp [*]; omega)
        | (refine wk_eq ?_; split <;> simp_all [skipV]; done)
        | (exfalso; omega)
    | true =>
      rw [h1] at hFi
      by_cases h2 : f.owner < last
      · have hX2 : fdsF g.ts.length 0 g.fs = false := by rw [hX, if_neg (fun h => absurd h.2.1 (by omega))]
        rw [hX2]
        refine gO (D0_XIm3 []) (And.intro (j7 @n_id_id2 @n_id2_id @h2 @ci_lt @ci_le @imV_def @wi_i) (j2 @n_id2_id @n_id_id2)) (j2 @hFi @hTi) (k := ?_)
        all_goals (repeat' (with_reducible apply And.intro))
        all_goals first
          | exact AS.le_refl _
          | ((repeat (first | exact AS.le_refl _ | assumption | refine le_new (by simp [*]) ?_)); done)
          | (refine wk_eq ?_; simp_all [skipV]; done)
          | (refine wk_b ?_; rw [Bool.eq_iff_iff]; simp [*]; omega)
          | (refine wk_eq ?_; simp [*]; omega)
          | (refine wk_eq ?_; split <;> simp_all [skipV]; done)
          | (exfalso; omega)
      · by_cases h3 : (g.ts.length : Int) ≤ f.owner
        · have hX2 : fdsF g.ts.length 0 g.fs = false := by rw [hX, if_neg (fun h => absurd h.2.2.1 (by omega))]
          rw [hX2]
          refine gO (D0_XIm3 []) (And.intro (j7 @n_id_id2 @n_id2_id @h2 @h3 @ci_lt @ci_le @imV_def) (j3 @wi_i @n_id2_id @n_id_id2)) (j2 @hFi @hTi) (k := ?_)
          all_goals (repeat' (with_reducible apply And.intro))
          all_goals first
            | exact AS.le_refl _
            | ((repeat (first | exact AS.le_refl _ | assumption | refine le_new (by simp [*]) ?_)); done)
            | (refine wk_eq ?_; simp_all [skipV]; done)
            | (refine wk_b ?_; rw [Bool.eq_iff_iff]; simp [*]; omega)
            | (refine wk_eq ?_; simp [*]; omega)
            | (refine wk_eq ?_; split <;> simp_all [skipV]; done)
            | (exfalso; omega)
        · cases h4 : fldB f.ty g.ts.length with
          | false =>
            rw [h4] at hTi
            have hX2 : fdsF g.ts.length 0 g.fs = false := by rw [hX]; simp [h4]
            rw [hX2]
            refine gO (D0_XIm3 []) (And.intro (j7 @n_id_id2 @n_id2_id @h2 @h3 @ci_lt @ci_le @imV_def) (j3 @wi_i @n_id2_id @n_id_id2)) (j2 @hFi @hTi) (k := ?_)
            all_goals (repeat' (with_reducible apply And.intro))
            all_goals first
              | exact AS.le_refl _
              | ((repeat (first | exact AS.le_refl _ | assumption | refine le_new (by simp [*]) ?_)); done)
              | (refine wk_eq ?_; simp_all [skipV]; done)
              | (refine wk_b ?_; rw [Bool.eq_iff_iff]; simp [*]; omega)
              | (refine wk_eq ?_; simp [*]; omega)
              | (refine wk_eq ?_; split <;> simp_all [skipV]; done)
              | (exfalso; omega)
          | true =>
            rw [h4] at hTi
            rw [if_pos ⟨h1, by omega, by omega, h4⟩] at hX
            refine gO (D0_XIm3 []) (And.intro (j7 @n_id_id2 @n_id2_id @h2 @h3 @ci_lt @ci_le @imV_def) (j3 @wi_i @n_id2_id @n_id_id2)) (j2 @hFi @hTi) (k := ?_)
            refine stepA.mk ((i + 1, f.owner)) (by (try dsimp only); omega) (by (try dsimp only); (simp only [List.cons_append, List.nil_append]; repeat (first | exact FrWk.nil | refine FrWk.cons (by first | (simp -implicitDefEqProofs [ci_lt, ci_le, imV_def, wi_i, n_id2_id, n_id_id2]; done) | exact Wk.of (by (try simp -implicitDefEqProofs [ci_lt, ci_le, imV_def, wi_i, n_id2_id, n_id_id2]) <;> rfl)) ?_))) (by (try dsimp only); exact le_new (by simp [n_id2_id, h_id2]) (AS.le_refl _)) ?_
            try dsimp only
            exact ⟨hlt, hX⟩
  · rw [List.drop_eq_nil_of_le (by omega)] at hX
    rw [hX]
    simp only [fdsF]
    refine gO (D0_XIm3 []) (j5 @hlt @e64 @ci_lt @ci_le @imV_def) True.intro (k := ?_)
    all_goals (repeat' (with_reducible apply And.intro))
    all_goals first
      | exact AS.le_refl _
      | ((repeat (first | exact AS.le_refl _ | assumption | refine le_new (by simp [*]) ?_)); done)
      | (refine wk_eq ?_; simp_all [skipV]; done)
      | (refine wk_b ?_; rw [Bool.eq_iff_iff]; simp [*]; omega)
      | (refine wk_eq ?_; simp [*]; omega)
      | (refine wk_eq ?_; split <;> simp_all [skipV]; done)
      | (exfalso; omega)
end Im
end Go.Proofs.YtknalmoackcpbaaGreat
