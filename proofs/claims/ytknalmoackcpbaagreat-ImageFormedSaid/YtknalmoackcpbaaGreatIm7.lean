/- Chapter 10, the reference: Copied. -/
import Derived.Test.YtknalmoackcpbaaGreatAwGo
import Derived.Test.YtknalmoackcpbaaGreatIm1
set_option linter.unusedSimpArgs false
set_option linter.unusedVariables false
set_option maxRecDepth 100000
set_option maxHeartbeats 3200000
namespace Go.Proofs.YtknalmoackcpbaaGreat
namespace Im
open Go Go.AW
theorem D0_XIm7 (S : List Nat) : Plans Tryz.prog [] S := mixed
open Rg (Cl clV clV_def)
def cpD (t : TD) : TD := { t with fn := t.faces.isEmpty }
def cpM (m : Mt) : Mt := { m with pn := m.ps.isEmpty, ln := m.ls.isEmpty, cn := m.code.isEmpty, xn := m.cls.isEmpty }
def cpI (g : Img) : Img := { g with ts := g.ts.map cpD, tn := g.ts.isEmpty, fn := g.fs.isEmpty, ms := g.ms.map cpM, mn := g.ms.isEmpty }
structure Sh (g : Img) : Prop where
  ts : g.ts.length ≤ 40
  fs : g.fs.length ≤ 80
  ms : g.ms.length ≤ 80
  t : ∀ t ∈ g.ts, t.faces.length ≤ 20
  m : ∀ m ∈ g.ms, m.ps.length ≤ 30 ∧ m.ls.length ≤ 30 ∧ m.code.length ≤ 200 ∧ m.cls.length ≤ 20
theorem Wk_agg4 {P : Program} {a b c d a' b' c' d' : AV} (h1 : AV.Wk P a a') (h2 : AV.Wk P b b') (h3 : AV.Wk P c c') (h4 : AV.Wk P d d') : AV.Wk P (.agg [a, b, c, d]) (.agg [a', b', c', d']) := by
  intro G x h
  cases h with
  | agg vs l h =>
    refine .agg vs l fun i hi => ?_
    match i, hi with
    | 0, hi => exact h1 _ _ (h 0 hi)
    | 1, hi => exact h2 _ _ (h 1 hi)
    | 2, hi => exact h3 _ _ (h 2 hi)
    | 3, hi => exact h4 _ _ (h 3 hi)
theorem tell {P : Program} {n : Nat} {ds : List Deferred} {c : Code} {Q : AQ} {s : Fr} {σ : AS} (id : Nat) {ty : TypeId} {cs : List AV} (cs' : List AV) (σ' : AS) (hσ : σ id = some (.cells ty cs)) (hl : cs'.length = cs.length)
    (hk : ∀ k, k < cs'.length → AV.Wk P (cs.getD k .any) (cs'.getD k .any)) (hle : ∀ j, ¬ j = id → ∀ y, σ' j = some y → σ j = some y)
    (h : AWp P n ds c Q s (σ'.set id (.cells ty cs'))) : AWp P n ds c Q s σ :=
  AWp.wkC id cs' hσ hl hk (AWp.weaken h (fun _ => Wk.refl _) (fun j y hj => by
    by_cases e : j = id
    · subst e; simpa [AS.set] using hj
    · simp [AS.set, e] at hj ⊢; exact hle j e y hj))
theorem copied_ok (g : Img) (hS : Sh g) (σ : AS) : ACalls Tryz.prog 10 [imV g] σ (Gives (imV (cpI g)) σ) No := by
  have hS1 := hS.ts
  have hS2 := hS.fs
  have hS3 := hS.ms
  simp only [imV_def]
  refine ACalls.of_body Tryz.func10 rfl rfl (by simp [Tryz.ntmps10]) ?_
  refine gO (D0_XIm7 []) (j2 @ci_lt @ci_le) True.intro (k := ?_)
  intro id1 h_id1
  refine gO (D0_XIm7 []) (j2 @ci_lt @ci_le) True.intro (k := ?_)
  intro id2 n_id2_id1 h_id2
  have n_id1_id2 : ¬ id1 = id2 := fun e => n_id2_id1 e.symm
  refine gO (D0_XIm7 []) (j4 @ci_lt @ci_le @n_id2_id1 @n_id1_id2) True.intro (k := ?_)
  intro id3 n_id3_id2 n_id3_id1 h_id3
  have n_id2_id3 : ¬ id2 = id3 := fun e => n_id3_id2 e.symm
  have n_id1_id3 : ¬ id1 = id3 := fun e => n_id3_id1 e.symm
  refine gO (D0_XIm7 []) (j8 @ci_lt @ci_le @n_id2_id1 @n_id1_id2 @n_id3_id2 @n_id2_id3 @n_id3_id1 @n_id1_id3) True.intro (k := ?_)
  refine AWp.mintC id3 0 46 [] true (ty := 26) (cs := [.nilS, .nilS, .nilS, .sc (.int .i64 g.entry)]) (by simp [n_id3_id2, n_id3_id1]) (by simp) (.inr ⟨by simp, rfl, rfl⟩) ?_
  simp -implicitDefEqProofs [ci_lt, ci_le, n_id2_id1, n_id1_id2, n_id3_id2, n_id2_id3, n_id3_id1, n_id1_id3]
  intro tA n_tA_id3 n_tA_id2 n_tA_id1 h_tA
  have n_id3_tA : ¬ id3 = tA := fun e => n_tA_id3 e.symm
  have n_id2_tA : ¬ id2 = tA := fun e => n_tA_id2 e.symm
  have n_id1_tA : ¬ id1 = tA := fun e => n_tA_id1 e.symm
  obtain ⟨B, B_s, hB1, hB2, eq_B, le_B⟩ : ∃ B : AS, ((σ.set id1 (.cells 26 [.lst 46 (g.ts.map tdV) .unk g.tn, .lst 56 (g.fs.map fdV) .unk g.fn, .lst 53 (g.ms.map mtV) .unk g.mn, .sc (.int .i64 g.entry)])).set id2 (.cells 26 [.nilS, .nilS, .nilS, .sc (.int .i64 0)])) = B ∧ B id1 = some (.cells 26 [.lst 46 (g.ts.map tdV) .unk g.tn, .lst 56 (g.fs.map fdV) .unk g.fn, .lst 53 (g.ms.map mtV) .unk g.mn, .sc (.int .i64 g.entry)]) ∧ B id2 = some (.cells 26 [.nilS, .nilS, .nilS, .sc (.int .i64 0)]) ∧ (∀ j, j ≠ id1 → j ≠ id2 → B j = σ j) ∧ (∀ S' : AS, (∀ j, j ≠ id1 → j ≠ id2 → ∀ y, B j = some y → S' j = some y) → AS.le σ S') := by
    refine ⟨_, rfl, by simp [n_id1_id2, n_id2_id1], by simp [n_id1_id2, n_id2_id1], ?_, ?_⟩
    · intro j e_id1 e_id2; simp [AS.set, e_id1, e_id2]
    intro S' h j x hj
    have e_id1 : j ≠ id1 := by rintro rfl; rw [h_id1] at hj; cases hj
    have e_id2 : j ≠ id2 := by rintro rfl; rw [h_id2] at hj; cases hj
    exact h j e_id1 e_id2 x (by simp [AS.set, e_id1, e_id2, hj])
  simp only [B_s]
  clear B_s
  have hB3 : B id3 = none := by rw [eq_B id3 n_id3_id1 n_id3_id2]; exact h_id3
  have hBA : B tA = none := by rw [eq_B tA n_tA_id1 n_tA_id2]; exact h_tA
  refine AWp.loopA (α := (Nat)) (0) (fun i => g.ts.length - i) (fun i => i ≤ g.ts.length) [(1, ?_), (2, ?_), (3, ?_)] (fun i => [(4, .sc (.int .i64 i))]) (fun i => (B.set id3 (.cells 26 [.lst 46 (((g.ts.take i).map cpD).map tdV) (.tok tA) (decide (i = 0)), .nilS, .nilS, .sc (.int .i64 g.entry)])).set tA (.tok i)) ?_ ?_ ?_ ?_
  rotate_left 3
  · (try dsimp only); (simp only [List.cons_append, List.nil_append]; repeat (first | exact FrWk.nil | refine FrWk.cons (by first | (simp -implicitDefEqProofs [ci_lt, ci_le, n_id2_id1, n_id1_id2, n_id3_id2, n_id2_id3, n_id3_id1, n_id1_id3, n_tA_id3, n_id3_tA, n_tA_id2, n_id2_tA, n_tA_id1, n_id1_tA, hB1, hB2]; done) | exact Wk.of (by (try simp -implicitDefEqProofs [ci_lt, ci_le, n_id2_id1, n_id1_id2, n_id3_id2, n_id2_id3, n_id3_id1, n_id1_id3, n_tA_id3, n_id3_tA, n_tA_id2, n_id2_tA, n_tA_id1, n_id1_tA, hB1, hB2]) <;> rfl)) ?_))
  · (try dsimp only); (first | exact AS.le_refl _ | assumption | (repeat (first | exact AS.le_refl _ | assumption | refine le_new (by simp [*]) ?_)))
  · (try dsimp only) <;> first | exact trivial | exact ⟨by omega, rfl⟩ | omega | (simp; done) | exact ⟨by omega, by simp⟩ | exact ⟨by omega, by simp, rfl⟩
  intro i hx_
  try dsimp only at hx_ ⊢
  obtain hi := hx_
  simp only [List.cons_append, List.nil_append]
  by_cases hlt : i < g.ts.length
  · have wi_i : IntKind.i64.wrap ((i : Int) + 1) = ((i + 1 : Nat) : Int) := ci_wi (by omega)
    have htl := hS.t g.ts[i] (List.getElem_mem hlt)
    have htk : ((g.ts.take (i + 1)).map cpD).map tdV = ((g.ts.take i).map cpD).map tdV ++ [tdV (cpD g.ts[i])] := by
      rw [List.take_succ_eq_append_getElem hlt, List.map_append, List.map_append]; rfl
    generalize hc : g.ts[i] = t at *
    have hmini : min i g.ts.length = i := by omega
    refine gO (D0_XIm7 []) (And.intro (j7 @hlt @hc @tdV_def @ci_lt @ci_le @n_id2_id1 @n_id1_id2) (And.intro (j7 @n_id3_id2 @n_id2_id3 @n_id3_id1 @n_id1_id3 @n_tA_id3 @n_id3_tA @n_tA_id2) (j6 @n_id2_tA @n_tA_id1 @n_id1_tA @hB1 @hB2 @wi_i))) True.intro (k := ?_)
    intro id5 n_id5_tA n_id5_id3 h_id5
    have n_tA_id5 : ¬ tA = id5 := fun e => n_id5_tA e.symm
    have n_id3_id5 : ¬ id3 = id5 := fun e => n_id5_id3 e.symm
    have n_id1_id5 : ¬ id1 = id5 := by rintro rfl; rw [hB1] at h_id5; cases h_id5
    have n_id5_id1 : ¬ id5 = id1 := fun e => n_id1_id5 e.symm
    have n_id2_id5 : ¬ id2 = id5 := by rintro rfl; rw [hB2] at h_id5; cases h_id5
    have n_id5_id2 : ¬ id5 = id2 := fun e => n_id2_id5 e.symm
    refine gO (D0_XIm7 []) (And.intro (j7 @hlt @hc @tdV_def @ci_lt @ci_le @n_id2_id1 @n_id1_id2) (And.intro (j7 @n_id3_id2 @n_id2_id3 @n_id3_id1 @n_id1_id3 @n_tA_id3 @n_id3_tA @n_tA_id2) (And.intro (j7 @n_id2_tA @n_tA_id1 @n_id1_tA @hB1 @hB2 @wi_i @n_id5_tA) (And.intro (j7 @n_tA_id5 @n_id5_id3 @n_id3_id5 @n_id5_id1 @n_id1_id5 @hB1 @n_id5_id2) (j2 @n_id2_id5 @hB2))))) True.intro (k := ?_)
    intro t6 n_t6_id5 n_t6_tA n_t6_id3 h_t6
    have n_id5_t6 : ¬ id5 = t6 := fun e => n_t6_id5 e.symm
    have n_tA_t6 : ¬ tA = t6 := fun e => n_t6_tA e.symm
    have n_id3_t6 : ¬ id3 = t6 := fun e => n_t6_id3 e.symm
    have n_id1_t6 : ¬ id1 = t6 := by rintro rfl; rw [hB1] at h_t6; cases h_t6
    have n_t6_id1 : ¬ t6 = id1 := fun e => n_id1_t6 e.symm
    have n_id2_t6 : ¬ id2 = t6 := by rintro rfl; rw [hB2] at h_t6; cases h_t6
    have n_t6_id2 : ¬ t6 = id2 := fun e => n_id2_t6 e.symm
    refine gO (D0_XIm7 [9]) (And.intro (j7 @n_id5_t6 @n_tA_t6 @n_id3_t6 @n_t6_id5 @n_t6_tA @n_t6_id3 @ci_lt) (And.intro (j7 @ci_le @n_id2_id1 @n_id1_id2 @n_id3_id2 @n_id2_id3 @n_id3_id1 @n_id1_id3) (And.intro (j7 @n_tA_id3 @n_id3_tA @n_tA_id2 @n_id2_tA @n_tA_id1 @n_id1_tA @hB1) (And.intro (j7 @hB2 @wi_i @n_id5_tA @n_tA_id5 @n_id5_id3 @n_id3_id5 @n_id5_id1) (And.intro (j7 @n_id1_id5 @hB1 @n_id5_id2 @n_id2_id5 @hB2 @n_t6_id1 @n_id1_t6) (j2 @n_t6_id2 @n_id2_t6)))))) True.intro (k := ?_)
    refine AWp.wkC id5 [.sc (.string ⟨t.name.toArray⟩), .sc (.int .i64 t.flags), .sc (.int .i64 t.ext), .lst 3 (t.faces.map iV) .unk t.faces.isEmpty] (by simp [n_id5_t6, n_t6_id5]; exact ⟨rfl, rfl⟩) (by simp) (fun k hk => ?_) ?_
    · match k, hk with
      | 0, _ => simp
      | 1, _ => simp
      | 2, _ => simp
      | 3, _ => simp
    refine gO (D0_XIm7 []) (And.intro (j7 @n_id5_t6 @n_tA_t6 @n_id3_t6 @n_t6_id5 @n_t6_tA @n_t6_id3 @hmini) (And.intro (j7 @ci_lt @ci_le @n_id2_id1 @n_id1_id2 @n_id3_id2 @n_id2_id3 @n_id3_id1) (And.intro (j7 @n_id1_id3 @n_tA_id3 @n_id3_tA @n_tA_id2 @n_id2_tA @n_tA_id1 @n_id1_tA) (And.intro (j7 @hB1 @hB2 @wi_i @n_id5_tA @n_tA_id5 @n_id5_id3 @n_id3_id5) (And.intro (j7 @n_id5_id1 @n_id1_id5 @hB1 @n_id5_id2 @n_id2_id5 @hB2 @n_t6_id1) (j3 @n_id1_t6 @n_t6_id2 @n_id2_t6)))))) True.intro (k := ?_)
    have htk2 : List.take (i + 1) (List.map (tdV ∘ cpD) g.ts) = List.take i (List.map (tdV ∘ cpD) g.ts) ++ [tdV (cpD t)] := by
      rw [List.take_succ_eq_append_getElem (by simpa using hlt)]; simp [hc]
    refine stepA.mk (i + 1) (by (try dsimp only); omega) (by (try dsimp only); (simp only [List.cons_append, List.nil_append]; repeat (first | exact FrWk.nil | refine FrWk.cons (by first | (simp -implicitDefEqProofs [htk2, ci_lt, ci_le, n_id2_id1, n_id1_id2, n_id3_id2, n_id2_id3, n_id3_id1, n_id1_id3, n_tA_id3, n_id3_tA, n_tA_id2, n_id2_tA, n_tA_id1, n_id1_tA, hB1, hB2, wi_i, n_id5_tA, n_tA_id5, n_id5_id3, n_id3_id5, n_id5_id1, n_id1_id5, hB1, n_id5_id2, n_id2_id5, hB2, n_t6_id1, n_id1_t6, n_t6_id2, n_id2_t6]; done) | exact Wk.of (by (try simp -implicitDefEqProofs [htk2, ci_lt, ci_le, n_id2_id1, n_id1_id2, n_id3_id2, n_id2_id3, n_id3_id1, n_id1_id3, n_tA_id3, n_id3_tA, n_tA_id2, n_id2_tA, n_tA_id1, n_id1_tA, hB1, hB2, wi_i, n_id5_tA, n_tA_id5, n_id5_id3, n_id3_id5, n_id5_id1, n_id1_id5, hB1, n_id5_id2, n_id2_id5, hB2, n_t6_id1, n_id1_t6, n_t6_id2, n_id2_t6]) <;> rfl)) ?_))) (by (try dsimp only); (intro j_ y_ hy_; by_cases e_id3 : j_ = id3; (· subst e_id3; simp [AS.set, n_id5_t6, n_tA_t6, n_id3_t6, n_t6_id5, n_t6_tA, n_t6_id3, n_id5_tA, n_tA_id5, n_id5_id3, n_id3_id5, n_tA_id3, n_id3_tA, hmini, hB3, hBA, h_id5, h_t6, htk2, tdV_def, cpD] at hy_ ⊢; try first | exact hy_ | (cases hy_; done)); by_cases e_tA : j_ = tA; (· subst e_tA; simp [AS.set, n_id5_t6, n_tA_t6, n_id3_t6, n_t6_id5, n_t6_tA, n_t6_id3, n_id5_tA, n_tA_id5, n_id5_id3, n_id3_id5, n_tA_id3, n_id3_tA, hmini, hB3, hBA, h_id5, h_t6, htk2, tdV_def, cpD] at hy_ ⊢; try first | exact hy_ | (cases hy_; done)); by_cases e_id5 : j_ = id5; (· subst e_id5; simp [AS.set, n_id5_t6, n_tA_t6, n_id3_t6, n_t6_id5, n_t6_tA, n_t6_id3, n_id5_tA, n_tA_id5, n_id5_id3, n_id3_id5, n_tA_id3, n_id3_tA, hmini, hB3, hBA, h_id5, h_t6, htk2, tdV_def, cpD] at hy_ ⊢; try first | exact hy_ | (cases hy_; done)); by_cases e_t6 : j_ = t6; (· subst e_t6; simp [AS.set, n_id5_t6, n_tA_t6, n_id3_t6, n_t6_id5, n_t6_tA, n_t6_id3, n_id5_tA, n_tA_id5, n_id5_id3, n_id3_id5, n_tA_id3, n_id3_tA, hmini, hB3, hBA, h_id5, h_t6, htk2, tdV_def, cpD] at hy_ ⊢; try first | exact hy_ | (cases hy_; done)); simp [AS.set, e_id3, e_tA, e_id5, e_t6] at hy_ ⊢; try exact hy_)) ?_
    try dsimp only
    exact hlt
  · obtain rfl : i = g.ts.length := by omega
    refine gO (D0_XIm7 []) (And.intro (j7 @hlt @ci_lt @ci_le @n_id2_id1 @n_id1_id2 @n_id3_id2 @n_id2_id3) (And.intro (j7 @n_id3_id1 @n_id1_id3 @n_tA_id3 @n_id3_tA @n_tA_id2 @n_id2_tA @n_tA_id1) (j3 @n_id1_tA @hB1 @hB2))) True.intro (k := ?_)
    intro tF n_tF_tA n_tF_id3 h_tF
    have n_tA_tF : ¬ tA = tF := fun e => n_tF_tA e.symm
    have n_id3_tF : ¬ id3 = tF := fun e => n_tF_id3 e.symm
    have n_id1_tF : ¬ id1 = tF := by rintro rfl; rw [hB1] at h_tF; cases h_tF
    have n_tF_id1 : ¬ tF = id1 := fun e => n_id1_tF e.symm
    have n_id2_tF : ¬ id2 = tF := by rintro rfl; rw [hB2] at h_tF; cases h_tF
    have n_tF_id2 : ¬ tF = id2 := fun e => n_id2_tF e.symm
    simp -implicitDefEqProofs [n_tA_tF, n_id3_tF, n_tF_tA, n_tF_id3, ci_lt, ci_le, n_id2_id1, n_id1_id2, n_id3_id2, n_id2_id3, n_id3_id1, n_id1_id3, n_tA_id3, n_id3_tA, n_tA_id2, n_id2_tA, n_tA_id1, n_id1_tA, hB1, hB2, n_tF_id1, n_id1_tF, hB1, n_tF_id2, n_id2_tF, hB2]
    refine gO (D0_XIm7 []) (And.intro (j7 @n_tA_tF @n_id3_tF @n_tF_tA @n_tF_id3 @ci_lt @ci_le @n_id2_id1) (And.intro (j7 @n_id1_id2 @n_id3_id2 @n_id2_id3 @n_id3_id1 @n_id1_id3 @n_tA_id3 @n_id3_tA) (And.intro (j7 @n_tA_id2 @n_id2_tA @n_tA_id1 @n_id1_tA @hB1 @hB2 @n_tF_id1) (j5 @n_id1_tF @hB1 @n_tF_id2 @n_id2_tF @hB2)))) True.intro (k := ?_)
    refine tell id3 [.lst 46 (g.ts.map (tdV ∘ cpD)) .unk g.ts.isEmpty, .lst 56 (g.fs.map fdV) .unk g.fs.isEmpty, .nilS, .sc (.int .i64 g.entry)] B (by simp [n_tA_tF, n_id3_tF, n_tF_tA, n_tF_id3, n_tA_id3, n_id3_tA]; exact ⟨rfl, rfl⟩) (by simp) (fun k hk => ?_) (fun j e y hy => ?_) ?_
    · match k, hk with
      | 0, _ => cases g.ts <;> simp
      | 1, _ => simp
      | 2, _ => simp
      | 3, _ => simp
    · by_cases e1 : j = tF
      · subst e1; rw [h_tF] at hy; cases hy
      · by_cases e2 : j = tA
        · subst e2; rw [hBA] at hy; cases hy
        · simp [AS.set, e, e1, e2]; exact hy
    refine AWp.mintC id3 2 53 [] true (ty := 26) (cs := [.lst 46 (g.ts.map (tdV ∘ cpD)) .unk g.ts.isEmpty, .lst 56 (g.fs.map fdV) .unk g.fs.isEmpty, .nilS, .sc (.int .i64 g.entry)]) (by simp) (by simp) (.inr ⟨by simp, rfl, rfl⟩) ?_
    simp -implicitDefEqProofs [ci_lt, ci_le, n_id2_id1, n_id1_id2, n_id3_id2, n_id2_id3, n_id3_id1, n_id1_id3, n_tA_id3, n_id3_tA, n_tA_id2, n_id2_tA, n_tA_id1, n_id1_tA, hB1, hB2, n_tF_id1, n_id1_tF, hB1, n_tF_id2, n_id2_tF, hB2]
    intro tM n_tM_id3 h_tM
    have n_id3_tM : ¬ id3 = tM := fun e => n_tM_id3 e.symm
    have n_id1_tM : ¬ id1 = tM := by rintro rfl; rw [hB1] at h_tM; cases h_tM
    have n_tM_id1 : ¬ tM = id1 := fun e => n_id1_tM e.symm
    have n_id2_tM : ¬ id2 = tM := by rintro rfl; rw [hB2] at h_tM; cases h_tM
    have n_tM_id2 : ¬ tM = id2 := fun e => n_id2_tM e.symm
    refine AWp.loopA (α := (Nat)) (0) (fun j => g.ms.length - j) (fun j => j ≤ g.ms.length) [(1, ?_), (2, ?_), (3, ?_)] (fun j => [(7, .sc (.int .i64 j))]) (fun j => (B.set id3 (.cells 26 [.lst 46 (g.ts.map (tdV ∘ cpD)) .unk g.ts.isEmpty, .lst 56 (g.fs.map fdV) .unk g.fs.isEmpty, .lst 53 (((g.ms.take j).map cpM).map mtV) (.tok tM) (decide (j = 0)), .sc (.int .i64 g.entry)])).set tM (.tok j)) ?_ ?_ ?_ ?_
    rotate_left 3
    · (try dsimp only); (simp only [List.cons_append, List.nil_append]; repeat (first | exact FrWk.nil | refine FrWk.cons (by first | (simp -implicitDefEqProofs [ci_lt, ci_le, n_id2_id1, n_id1_id2, n_id3_id2, n_id2_id3, n_id3_id1, n_id1_id3, n_tA_id3, n_id3_tA, n_tA_id2, n_id2_tA, n_tA_id1, n_id1_tA, hB1, hB2, n_tF_id1, n_id1_tF, hB1, n_tF_id2, n_id2_tF, hB2, n_tM_id3, n_id3_tM, n_tM_id1, n_id1_tM, n_tM_id2, n_id2_tM]; done) | exact Wk.of (by (try simp -implicitDefEqProofs [ci_lt, ci_le, n_id2_id1, n_id1_id2, n_id3_id2, n_id2_id3, n_id3_id1, n_id1_id3, n_tA_id3, n_id3_tA, n_tA_id2, n_id2_tA, n_tA_id1, n_id1_tA, hB1, hB2, n_tF_id1, n_id1_tF, hB1, n_tF_id2, n_id2_tF, hB2, n_tM_id3, n_id3_tM, n_tM_id1, n_id1_tM, n_tM_id2, n_id2_tM]) <;> rfl)) ?_))
    · (try dsimp only); (first | exact AS.le_refl _ | assumption | (repeat (first | exact AS.le_refl _ | assumption | refine le_new (by simp [*]) ?_)))
    · (try dsimp only) <;> first | exact trivial | exact ⟨by omega, rfl⟩ | omega | (simp; done) | exact ⟨by omega, by simp⟩ | exact ⟨by omega, by simp, rfl⟩
    intro j hx_
    try dsimp only at hx_ ⊢
    obtain hj := hx_
    simp only [List.cons_append, List.nil_append]
    by_cases hlt : j < g.ms.length
    · have wi_j : IntKind.i64.wrap ((j : Int) + 1) = ((j + 1 : Nat) : Int) := ci_wi (by omega)
      have hml := hS.m g.ms[j] (List.getElem_mem hlt)
      generalize hc : g.ms[j] = m at *
      obtain ⟨hm1, hm2, hm3, hm4⟩ := hml
      have hminj : min j g.ms.length = j := by omega
      obtain ⟨D, hD⟩ : ∃ D : AS, D = (B.set id3 (.cells 26 [.lst 46 (g.ts.map (tdV ∘ cpD)) .unk g.ts.isEmpty, .lst 56 (g.fs.map fdV) .unk g.fs.isEmpty, .lst 53 ((g.ms.map (mtV ∘ cpM)).take j) (.tok tM) (decide (j = 0)), .sc (.int .i64 g.entry)])).set tM (.tok j) := ⟨_, rfl⟩
      have hD1 : D id1 = some (.cells 26 [.lst 46 (g.ts.map tdV) .unk g.tn, .lst 56 (g.fs.map fdV) .unk g.fn, .lst 53 (g.ms.map mtV) .unk g.mn, .sc (.int .i64 g.entry)]) := by rw [hD]; simp [n_id1_id3, n_id1_tM, hB1]
      have hD2 : D id2 = some (.cells 26 [.nilS, .nilS, .nilS, .sc (.int .i64 0)]) := by rw [hD]; simp [n_id2_id3, n_id2_tM, hB2]
      have hD3 : D id3 = some (.cells 26 [.lst 46 (g.ts.map (tdV ∘ cpD)) .unk g.ts.isEmpty, .lst 56 (g.fs.map fdV) .unk g.fs.isEmpty, .lst 53 ((g.ms.map (mtV ∘ cpM)).take j) (.tok tM) (decide (j = 0)), .sc (.int .i64 g.entry)]) := by rw [hD]; simp [n_id3_tM]
      have hDM : D tM = some (.tok j) := by rw [hD]; simp
      refine AWp.weaken (σ' := D) ?_ (fun _ => Wk.refl _) (by
        have e : (((g.ms.take j).map cpM).map mtV) = (g.ms.map (mtV ∘ cpM)).take j := by simp [List.map_take]
        rw [hD, ← e]; exact AS.le_refl _)
      refine gO (D0_XIm7 []) (And.intro (j7 @hlt @hc @mtV_def @hD1 @ci_lt @ci_le @n_id2_id1) (And.intro (j7 @n_id1_id2 @n_id3_id2 @n_id2_id3 @n_id3_id1 @n_id1_id3 @n_tA_id3 @n_id3_tA) (And.intro (j7 @n_tA_id2 @n_id2_tA @n_tA_id1 @n_id1_tA @hB1 @hB2 @n_tF_id1) (And.intro (j7 @n_id1_tF @hB1 @n_tF_id2 @n_id2_tF @hB2 @n_tM_id3 @n_id3_tM) (j5 @n_tM_id1 @n_id1_tM @n_tM_id2 @n_id2_tM @wi_j))))) True.intro (k := ?_)
      intro id8 h_id8
      have n_id1_id8 : ¬ id1 = id8 := by rintro rfl; rw [hD1] at h_id8; cases h_id8
      have n_id8_id1 : ¬ id8 = id1 := fun e => n_id1_id8 e.symm
      have n_id2_id8 : ¬ id2 = id8 := by rintro rfl; rw [hD2] at h_id8; cases h_id8
      have n_id8_id2 : ¬ id8 = id2 := fun e => n_id2_id8 e.symm
      have n_id3_id8 : ¬ id3 = id8 := by rintro rfl; rw [hD3] at h_id8; cases h_id8
      have n_id8_id3 : ¬ id8 = id3 := fun e => n_id3_id8 e.symm
      have n_tM_id8 : ¬ tM = id8 := by rintro rfl; rw [hDM] at h_id8; cases h_id8
      have n_id8_tM : ¬ id8 = tM := fun e => n_tM_id8 e.symm
      refine gO (D0_XIm7 []) (And.intro (j7 @hlt @hc @mtV_def @ci_lt @ci_le @n_id2_id1 @n_id1_id2) (And.intro (j7 @n_id3_id2 @n_id2_id3 @n_id3_id1 @n_id1_id3 @n_tA_id3 @n_id3_tA @n_tA_id2) (And.intro (j7 @n_id2_tA @n_tA_id1 @n_id1_tA @hB1 @hB2 @n_tF_id1 @n_id1_tF) (And.intro (j7 @hB1 @n_tF_id2 @n_id2_tF @hB2 @n_tM_id3 @n_id3_tM @n_tM_id1) (And.intro (j7 @n_id1_tM @n_tM_id2 @n_id2_tM @wi_j @n_id8_id1 @n_id1_id8 @hD1) (And.intro (j7 @n_id8_id2 @n_id2_id8 @hD2 @n_id8_id3 @n_id3_id8 @hD3 @n_id8_tM) (j2 @n_tM_id8 @hDM))))))) True.intro (k := ?_)
      intro a1 n_a1_id8 h_a1
      have n_id8_a1 : ¬ id8 = a1 := fun e => n_a1_id8 e.symm
      have n_id1_a1 : ¬ id1 = a1 := by rintro rfl; rw [hD1] at h_a1; cases h_a1
      have n_a1_id1 : ¬ a1 = id1 := fun e => n_id1_a1 e.symm
      have n_id2_a1 : ¬ id2 = a1 := by rintro rfl; rw [hD2] at h_a1; cases h_a1
      have n_a1_id2 : ¬ a1 = id2 := fun e => n_id2_a1 e.symm
      have n_id3_a1 : ¬ id3 = a1 := by rintro rfl; rw [hD3] at h_a1; cases h_a1
      have n_a1_id3 : ¬ a1 = id3 := fun e => n_id3_a1 e.symm
      have n_tM_a1 : ¬ tM = a1 := by rintro rfl; rw [hDM] at h_a1; cases h_a1
      have n_a1_tM : ¬ a1 = tM := fun e => n_tM_a1 e.symm
      refine gO (D0_XIm7 [18]) (And.intro (j7 @n_a1_id8 @n_id8_a1 @ci_lt @ci_le @n_id2_id1 @n_id1_id2 @n_id3_id2) (And.intro (j7 @n_id2_id3 @n_id3_id1 @n_id1_id3 @n_tA_id3 @n_id3_tA @n_tA_id2 @n_id2_tA) (And.intro (j7 @n_tA_id1 @n_id1_tA @hB1 @hB2 @n_tF_id1 @n_id1_tF @hB1) (And.intro (j7 @n_tF_id2 @n_id2_tF @hB2 @n_tM_id3 @n_id3_tM @n_tM_id1 @n_id1_tM) (And.intro (j7 @n_tM_id2 @n_id2_tM @wi_j @n_id8_id1 @n_id1_id8 @hD1 @n_id8_id2) (And.intro (j7 @n_id2_id8 @hD2 @n_id8_id3 @n_id3_id8 @hD3 @n_id8_tM @n_tM_id8) (And.intro (j7 @hDM @n_a1_id1 @n_id1_a1 @n_a1_id2 @n_id2_a1 @n_a1_id3 @n_id3_a1) (j2 @n_a1_tM @n_tM_a1)))))))) True.intro (k := ?_)
      refine tell id8 [.sc (.string ⟨m.name.toArray⟩), .sc (.int .i64 m.owner), .sc (.int .i64 m.flags), .lst 49 (m.ps.map tyV) .unk m.ps.isEmpty, .sc (.int .i64 m.ret.kind), .sc (.int .i64 m.ret.index), .sc (.int .i64 m.ret.dims), .sc (.bool m.ret.ref), .lst 49 (m.ls.map tyV) .unk m.ln, .sc (.int .i64 m.max), .lst 110 (m.code.map insV) .unk m.cn, .lst 158 (m.cls.map clV) .unk m.xn] D (by simp [n_a1_id8, n_id8_a1]; exact ⟨rfl, rfl⟩) (by simp) (fun k hk => ?_) (fun q_ e y hy => ?_) ?_
      · match k, hk with
        | 0, _ => simp
        | 1, _ => simp
        | 2, _ => simp
        | 3, _ => simp
        | 4, _ => simp
        | 5, _ => simp
        | 6, _ => simp
        | 7, _ => simp
        | 8, _ => simp
        | 9, _ => simp
        | 10, _ => simp
        | 11, _ => simp
      · by_cases e2 : q_ = a1
        · subst e2; rw [h_a1] at hy; cases hy
        · simp [AS.set, e, e2]; exact hy
      refine gO (D0_XIm7 []) (And.intro (j7 @hlt @hminj @cells_agg @ci_lt @ci_le @n_id2_id1 @n_id1_id2) (And.intro (j7 @n_id3_id2 @n_id2_id3 @n_id3_id1 @n_id1_id3 @n_tA_id3 @n_id3_tA @n_tA_id2) (And.intro (j7 @n_id2_tA @n_tA_id1 @n_id1_tA @hB1 @hB2 @n_tF_id1 @n_id1_tF) (And.intro (j7 @hB1 @n_tF_id2 @n_id2_tF @hB2 @n_tM_id3 @n_id3_tM @n_tM_id1) (And.intro (j7 @n_id1_tM @n_tM_id2 @n_id2_tM @wi_j @n_id8_id1 @n_id1_id8 @hD1) (And.intro (j7 @n_id8_id2 @n_id2_id8 @hD2 @n_id8_id3 @n_id3_id8 @hD3 @n_id8_tM) (And.intro (j7 @n_tM_id8 @hDM @n_a1_id1 @n_id1_a1 @n_a1_id2 @n_id2_a1 @n_a1_id3) (j3 @n_id3_a1 @n_a1_tM @n_tM_a1)))))))) True.intro (k := ?_)
      intro a2 n_a2_id8 h_a2
      have n_id8_a2 : ¬ id8 = a2 := fun e => n_a2_id8 e.symm
      have n_id1_a2 : ¬ id1 = a2 := by rintro rfl; rw [hD1] at h_a2; cases h_a2
      have n_a2_id1 : ¬ a2 = id1 := fun e => n_id1_a2 e.symm
      have n_id2_a2 : ¬ id2 = a2 := by rintro rfl; rw [hD2] at h_a2; cases h_a2
      have n_a2_id2 : ¬ a2 = id2 := fun e => n_id2_a2 e.symm
      have n_id3_a2 : ¬ id3 = a2 := by rintro rfl; rw [hD3] at h_a2; cases h_a2
      have n_a2_id3 : ¬ a2 = id3 := fun e => n_id3_a2 e.symm
      have n_tM_a2 : ¬ tM = a2 := by rintro rfl; rw [hDM] at h_a2; cases h_a2
      have n_a2_tM : ¬ a2 = tM := fun e => n_tM_a2 e.symm
      refine gO (D0_XIm7 [21]) (And.intro (j7 @n_a2_id8 @n_id8_a2 @ci_lt @ci_le @n_id2_id1 @n_id1_id2 @n_id3_id2) (And.intro (j7 @n_id2_id3 @n_id3_id1 @n_id1_id3 @n_tA_id3 @n_id3_tA @n_tA_id2 @n_id2_tA) (And.intro (j7 @n_tA_id1 @n_id1_tA @hB1 @hB2 @n_tF_id1 @n_id1_tF @hB1) (And.intro (j7 @n_tF_id2 @n_id2_tF @hB2 @n_tM_id3 @n_id3_tM @n_tM_id1 @n_id1_tM) (And.intro (j7 @n_tM_id2 @n_id2_tM @wi_j @n_id8_id1 @n_id1_id8 @hD1 @n_id8_id2) (And.intro (j7 @n_id2_id8 @hD2 @n_id8_id3 @n_id3_id8 @hD3 @n_id8_tM @n_tM_id8) (And.intro (j7 @hDM @n_a1_id1 @n_id1_a1 @n_a1_id2 @n_id2_a1 @n_a1_id3 @n_id3_a1) (And.intro (j7 @n_a1_tM @n_tM_a1 @n_a2_id1 @n_id1_a2 @n_a2_id2 @n_id2_a2 @n_a2_id3) (j3 @n_id3_a2 @n_a2_tM @n_tM_a2))))))))) True.intro (k := ?_)
      refine tell id8 [.sc (.string ⟨m.name.toArray⟩), .sc (.int .i64 m.owner), .sc (.int .i64 m.flags), .lst 49 (m.ps.map tyV) .unk m.ps.isEmpty, .sc (.int .i64 m.ret.kind), .sc (.int .i64 m.ret.index), .sc (.int .i64 m.ret.dims), .sc (.bool m.ret.ref), .lst 49 (m.ls.map tyV) .unk m.ls.isEmpty, .sc (.int .i64 m.max), .lst 110 (m.code.map insV) .unk m.cn, .lst 158 (m.cls.map clV) .unk m.xn] D (by simp [n_a2_id8, n_id8_a2]; exact ⟨rfl, rfl⟩) (by simp) (fun k hk => ?_) (fun q_ e y hy => ?_) ?_
      · match k, hk with
        | 0, _ => simp
        | 1, _ => simp
        | 2, _ => simp
        | 3, _ => simp
        | 4, _ => simp
        | 5, _ => simp
        | 6, _ => simp
        | 7, _ => simp
        | 8, _ => simp
        | 9, _ => simp
        | 10, _ => simp
        | 11, _ => simp
      · by_cases e2 : q_ = a2
        · subst e2; rw [h_a2] at hy; cases hy
        · simp [AS.set, e, e2]; exact hy
      refine gO (D0_XIm7 []) (And.intro (j7 @hlt @hminj @cells_agg @ci_lt @ci_le @n_id2_id1 @n_id1_id2) (And.intro (j7 @n_id3_id2 @n_id2_id3 @n_id3_id1 @n_id1_id3 @n_tA_id3 @n_id3_tA @n_tA_id2) (And.intro (j7 @n_id2_tA @n_tA_id1 @n_id1_tA @hB1 @hB2 @n_tF_id1 @n_id1_tF) (And.intro (j7 @hB1 @n_tF_id2 @n_id2_tF @hB2 @n_tM_id3 @n_id3_tM @n_tM_id1) (And.intro (j7 @n_id1_tM @n_tM_id2 @n_id2_tM @wi_j @n_id8_id1 @n_id1_id8 @hD1) (And.intro (j7 @n_id8_id2 @n_id2_id8 @hD2 @n_id8_id3 @n_id3_id8 @hD3 @n_id8_tM) (And.intro (j7 @n_tM_id8 @hDM @n_a1_id1 @n_id1_a1 @n_a1_id2 @n_id2_a1 @n_a1_id3) (And.intro (j7 @n_id3_a1 @n_a1_tM @n_tM_a1 @n_a2_id1 @n_id1_a2 @n_a2_id2 @n_id2_a2) (j4 @n_a2_id3 @n_id3_a2 @n_a2_tM @n_tM_a2))))))))) True.intro (k := ?_)
      intro a3 n_a3_id8 h_a3
      have n_id8_a3 : ¬ id8 = a3 := fun e => n_a3_id8 e.symm
      have n_id1_a3 : ¬ id1 = a3 := by rintro rfl; rw [hD1] at h_a3; cases h_a3
      have n_a3_id1 : ¬ a3 = id1 := fun e => n_id1_a3 e.symm
      have n_id2_a3 : ¬ id2 = a3 := by rintro rfl; rw [hD2] at h_a3; cases h_a3
      have n_a3_id2 : ¬ a3 = id2 := fun e => n_id2_a3 e.symm
      have n_id3_a3 : ¬ id3 = a3 := by rintro rfl; rw [hD3] at h_a3; cases h_a3
      have n_a3_id3 : ¬ a3 = id3 := fun e => n_id3_a3 e.symm
      have n_tM_a3 : ¬ tM = a3 := by rintro rfl; rw [hDM] at h_a3; cases h_a3
      have n_a3_tM : ¬ a3 = tM := fun e => n_tM_a3 e.symm
      refine gO (D0_XIm7 [24]) (And.intro (j7 @n_a3_id8 @n_id8_a3 @ci_lt @ci_le @n_id2_id1 @n_id1_id2 @n_id3_id2) (And.intro (j7 @n_id2_id3 @n_id3_id1 @n_id1_id3 @n_tA_id3 @n_id3_tA @n_tA_id2 @n_id2_tA) (And.intro (j7 @n_tA_id1 @n_id1_tA @hB1 @hB2 @n_tF_id1 @n_id1_tF @hB1) (And.intro (j7 @n_tF_id2 @n_id2_tF @hB2 @n_tM_id3 @n_id3_tM @n_tM_id1 @n_id1_tM) (And.intro (j7 @n_tM_id2 @n_id2_tM @wi_j @n_id8_id1 @n_id1_id8 @hD1 @n_id8_id2) (And.intro (j7 @n_id2_id8 @hD2 @n_id8_id3 @n_id3_id8 @hD3 @n_id8_tM @n_tM_id8) (And.intro (j7 @hDM @n_a1_id1 @n_id1_a1 @n_a1_id2 @n_id2_a1 @n_a1_id3 @n_id3_a1) (And.intro (j7 @n_a1_tM @n_tM_a1 @n_a2_id1 @n_id1_a2 @n_a2_id2 @n_id2_a2 @n_a2_id3) (And.intro (j7 @n_id3_a2 @n_a2_tM @n_tM_a2 @n_a3_id1 @n_id1_a3 @n_a3_id2 @n_id2_a3) (j4 @n_a3_id3 @n_id3_a3 @n_a3_tM @n_tM_a3)))))))))) True.intro (k := ?_)
      refine tell id8 [.sc (.string ⟨m.name.toArray⟩), .sc (.int .i64 m.owner), .sc (.int .i64 m.flags), .lst 49 (m.ps.map tyV) .unk m.ps.isEmpty, .sc (.int .i64 m.ret.kind), .sc (.int .i64 m.ret.index), .sc (.int .i64 m.ret.dims), .sc (.bool m.ret.ref), .lst 49 (m.ls.map tyV) .unk m.ls.isEmpty, .sc (.int .i64 m.max), .lst 110 (m.code.map insV) .unk m.code.isEmpty, .lst 158 (m.cls.map clV) .unk m.xn] D (by simp [n_a3_id8, n_id8_a3]; exact ⟨rfl, rfl⟩) (by simp) (fun k hk => ?_) (fun q_ e y hy => ?_) ?_
      · match k, hk with
        | 0, _ => simp
        | 1, _ => simp
        | 2, _ => simp
        | 3, _ => simp
        | 4, _ => simp
        | 5, _ => simp
        | 6, _ => simp
        | 7, _ => simp
        | 8, _ => simp
        | 9, _ => simp
        | 10, _ => simp
        | 11, _ => simp
      · by_cases e2 : q_ = a3
        · subst e2; rw [h_a3] at hy; cases hy
        · simp [AS.set, e, e2]; exact hy
      refine gO (D0_XIm7 []) (And.intro (j7 @hlt @hminj @cells_agg @ci_lt @ci_le @n_id2_id1 @n_id1_id2) (And.intro (j7 @n_id3_id2 @n_id2_id3 @n_id3_id1 @n_id1_id3 @n_tA_id3 @n_id3_tA @n_tA_id2) (And.intro (j7 @n_id2_tA @n_tA_id1 @n_id1_tA @hB1 @hB2 @n_tF_id1 @n_id1_tF) (And.intro (j7 @hB1 @n_tF_id2 @n_id2_tF @hB2 @n_tM_id3 @n_id3_tM @n_tM_id1) (And.intro (j7 @n_id1_tM @n_tM_id2 @n_id2_tM @wi_j @n_id8_id1 @n_id1_id8 @hD1) (And.intro (j7 @n_id8_id2 @n_id2_id8 @hD2 @n_id8_id3 @n_id3_id8 @hD3 @n_id8_tM) (And.intro (j7 @n_tM_id8 @hDM @n_a1_id1 @n_id1_a1 @n_a1_id2 @n_id2_a1 @n_a1_id3) (And.intro (j7 @n_id3_a1 @n_a1_tM @n_tM_a1 @n_a2_id1 @n_id1_a2 @n_a2_id2 @n_id2_a2) (And.intro (j7 @n_a2_id3 @n_id3_a2 @n_a2_tM @n_tM_a2 @n_a3_id1 @n_id1_a3 @n_a3_id2) (j5 @n_id2_a3 @n_a3_id3 @n_id3_a3 @n_a3_tM @n_tM_a3)))))))))) True.intro (k := ?_)
      intro a4 n_a4_id8 h_a4
      have n_id8_a4 : ¬ id8 = a4 := fun e => n_a4_id8 e.symm
      have n_id1_a4 : ¬ id1 = a4 := by rintro rfl; rw [hD1] at h_a4; cases h_a4
      have n_a4_id1 : ¬ a4 = id1 := fun e => n_id1_a4 e.symm
      have n_id2_a4 : ¬ id2 = a4 := by rintro rfl; rw [hD2] at h_a4; cases h_a4
      have n_a4_id2 : ¬ a4 = id2 := fun e => n_id2_a4 e.symm
      have n_id3_a4 : ¬ id3 = a4 := by rintro rfl; rw [hD3] at h_a4; cases h_a4
      have n_a4_id3 : ¬ a4 = id3 := fun e => n_id3_a4 e.symm
      have n_tM_a4 : ¬ tM = a4 := by rintro rfl; rw [hDM] at h_a4; cases h_a4
      have n_a4_tM : ¬ a4 = tM := fun e => n_tM_a4 e.symm
      refine gO (D0_XIm7 [27]) (And.intro (j7 @n_a4_id8 @n_id8_a4 @ci_lt @ci_le @n_id2_id1 @n_id1_id2 @n_id3_id2) (And.intro (j7 @n_id2_id3 @n_id3_id1 @n_id1_id3 @n_tA_id3 @n_id3_tA @n_tA_id2 @n_id2_tA) (And.intro (j7 @n_tA_id1 @n_id1_tA @hB1 @hB2 @n_tF_id1 @n_id1_tF @hB1) (And.intro (j7 @n_tF_id2 @n_id2_tF @hB2 @n_tM_id3 @n_id3_tM @n_tM_id1 @n_id1_tM) (And.intro (j7 @n_tM_id2 @n_id2_tM @wi_j @n_id8_id1 @n_id1_id8 @hD1 @n_id8_id2) (And.intro (j7 @n_id2_id8 @hD2 @n_id8_id3 @n_id3_id8 @hD3 @n_id8_tM @n_tM_id8) (And.intro (j7 @hDM @n_a1_id1 @n_id1_a1 @n_a1_id2 @n_id2_a1 @n_a1_id3 @n_id3_a1) (And.intro (j7 @n_a1_tM @n_tM_a1 @n_a2_id1 @n_id1_a2 @n_a2_id2 @n_id2_a2 @n_a2_id3) (And.intro (j7 @n_id3_a2 @n_a2_tM @n_tM_a2 @n_a3_id1 @n_id1_a3 @n_a3_id2 @n_id2_a3) (And.intro (j7 @n_a3_id3 @n_id3_a3 @n_a3_tM @n_tM_a3 @n_a4_id1 @n_id1_a4 @n_a4_id2) (j5 @n_id2_a4 @n_a4_id3 @n_id3_a4 @n_a4_tM @n_tM_a4))))))))))) True.intro (k := ?_)
      refine tell id8 [.sc (.string ⟨m.name.toArray⟩), .sc (.int .i64 m.owner), .sc (.int .i64 m.flags), .lst 49 (m.ps.map tyV) .unk m.ps.isEmpty, .sc (.int .i64 m.ret.kind), .sc (.int .i64 m.ret.index), .sc (.int .i64 m.ret.dims), .sc (.bool m.ret.ref), .lst 49 (m.ls.map tyV) .unk m.ls.isEmpty, .sc (.int .i64 m.max), .lst 110 (m.code.map insV) .unk m.code.isEmpty, .lst 158 (m.cls.map clV) .unk m.cls.isEmpty] D (by simp [n_a4_id8, n_id8_a4]; exact ⟨rfl, rfl⟩) (by simp) (fun k hk => ?_) (fun q_ e y hy => ?_) ?_
      · match k, hk with
        | 0, _ => simp
        | 1, _ => simp
        | 2, _ => simp
        | 3, _ => simp
        | 4, _ => simp
        | 5, _ => simp
        | 6, _ => simp
        | 7, _ => simp
        | 8, _ => simp
        | 9, _ => simp
        | 10, _ => simp
        | 11, _ => simp
      · by_cases e2 : q_ = a4
        · subst e2; rw [h_a4] at hy; cases hy
        · simp [AS.set, e, e2]; exact hy
      refine gO (D0_XIm7 []) (And.intro (j7 @hlt @hminj @cells_agg @ci_lt @ci_le @n_id2_id1 @n_id1_id2) (And.intro (j7 @n_id3_id2 @n_id2_id3 @n_id3_id1 @n_id1_id3 @n_tA_id3 @n_id3_tA @n_tA_id2) (And.intro (j7 @n_id2_tA @n_tA_id1 @n_id1_tA @hB1 @hB2 @n_tF_id1 @n_id1_tF) (And.intro (j7 @hB1 @n_tF_id2 @n_id2_tF @hB2 @n_tM_id3 @n_id3_tM @n_tM_id1) (And.intro (j7 @n_id1_tM @n_tM_id2 @n_id2_tM @wi_j @n_id8_id1 @n_id1_id8 @hD1) (And.intro (j7 @n_id8_id2 @n_id2_id8 @hD2 @n_id8_id3 @n_id3_id8 @hD3 @n_id8_tM) (And.intro (j7 @n_tM_id8 @hDM @n_a1_id1 @n_id1_a1 @n_a1_id2 @n_id2_a1 @n_a1_id3) (And.intro (j7 @n_id3_a1 @n_a1_tM @n_tM_a1 @n_a2_id1 @n_id1_a2 @n_a2_id2 @n_id2_a2) (And.intro (j7 @n_a2_id3 @n_id3_a2 @n_a2_tM @n_tM_a2 @n_a3_id1 @n_id1_a3 @n_a3_id2) (And.intro (j7 @n_id2_a3 @n_a3_id3 @n_id3_a3 @n_a3_tM @n_tM_a3 @n_a4_id1 @n_id1_a4) (j6 @n_a4_id2 @n_id2_a4 @n_a4_id3 @n_id3_a4 @n_a4_tM @n_tM_a4))))))))))) True.intro (k := ?_)
      have htk2 : List.take (j + 1) (List.map (mtV ∘ cpM) g.ms) = List.take j (List.map (mtV ∘ cpM) g.ms) ++ [mtV (cpM m)] := by
        rw [List.take_succ_eq_append_getElem (by simpa using hlt)]; simp [hc]
      have hE8 : B id8 = none := by rw [hD] at h_id8; simpa [AS.set, n_id8_tM, n_id8_id3] using h_id8
      subst hD
      refine stepA.mk (j + 1) (by (try dsimp only); omega) (by (try dsimp only); (simp only [List.cons_append, List.nil_append]; repeat (first | exact FrWk.nil | refine FrWk.cons (by first | (simp -implicitDefEqProofs [htk2, ci_lt, ci_le, n_id2_id1, n_id1_id2, n_id3_id2, n_id2_id3, n_id3_id1, n_id1_id3, n_tA_id3, n_id3_tA, n_tA_id2, n_id2_tA, n_tA_id1, n_id1_tA, hB1, hB2, n_tF_id1, n_id1_tF, hB1, n_tF_id2, n_id2_tF, hB2, n_tM_id3, n_id3_tM, n_tM_id1, n_id1_tM, n_tM_id2, n_id2_tM, wi_j, n_id8_id1, n_id1_id8, hD1, n_id8_id2, n_id2_id8, hD2, n_id8_id3, n_id3_id8, hD3, n_id8_tM, n_tM_id8, hDM, n_a1_id1, n_id1_a1, n_a1_id2, n_id2_a1, n_a1_id3, n_id3_a1, n_a1_tM, n_tM_a1, n_a2_id1, n_id1_a2, n_a2_id2, n_id2_a2, n_a2_id3, n_id3_a2, n_a2_tM, n_tM_a2, n_a3_id1, n_id1_a3, n_a3_id2, n_id2_a3, n_a3_id3, n_id3_a3, n_a3_tM, n_tM_a3, n_a4_id1, n_id1_a4, n_a4_id2, n_id2_a4, n_a4_id3, n_id3_a4, n_a4_tM, n_tM_a4]; done) | exact Wk.of (by (try simp -implicitDefEqProofs [htk2, ci_lt, ci_le, n_id2_id1, n_id1_id2, n_id3_id2, n_id2_id3, n_id3_id1, n_id1_id3, n_tA_id3, n_id3_tA, n_tA_id2, n_id2_tA, n_tA_id1, n_id1_tA, hB1, hB2, n_tF_id1, n_id1_tF, hB1, n_tF_id2, n_id2_tF, hB2, n_tM_id3, n_id3_tM, n_tM_id1, n_id1_tM, n_tM_id2, n_id2_tM, wi_j, n_id8_id1, n_id1_id8, hD1, n_id8_id2, n_id2_id8, hD2, n_id8_id3, n_id3_id8, hD3, n_id8_tM, n_tM_id8, hDM, n_a1_id1, n_id1_a1, n_a1_id2, n_id2_a1, n_a1_id3, n_id3_a1, n_a1_tM, n_tM_a1, n_a2_id1, n_id1_a2, n_a2_id2, n_id2_a2, n_a2_id3, n_id3_a2, n_a2_tM, n_tM_a2, n_a3_id1, n_id1_a3, n_a3_id2, n_id2_a3, n_a3_id3, n_id3_a3, n_a3_tM, n_tM_a3, n_a4_id1, n_id1_a4, n_a4_id2, n_id2_a4, n_a4_id3, n_id3_a4, n_a4_tM, n_tM_a4]) <;> rfl)) ?_))) (by (try dsimp only); (intro j_ y_ hy_; by_cases e_id3 : j_ = id3; (· subst e_id3; simp [AS.set, n_id3_tM, n_tM_id3, n_id8_tM, n_tM_id8, n_id8_id3, n_id3_id8, hminj, hB3, h_tM, hE8, htk2, mtV_def, cpM] at hy_ ⊢; try first | exact hy_ | (cases hy_; done)); by_cases e_tM : j_ = tM; (· subst e_tM; simp [AS.set, n_id3_tM, n_tM_id3, n_id8_tM, n_tM_id8, n_id8_id3, n_id3_id8, hminj, hB3, h_tM, hE8, htk2, mtV_def, cpM] at hy_ ⊢; try first | exact hy_ | (cases hy_; done)); by_cases e_id8 : j_ = id8; (· subst e_id8; simp [AS.set, n_id3_tM, n_tM_id3, n_id8_tM, n_tM_id8, n_id8_id3, n_id3_id8, hminj, hB3, h_tM, hE8, htk2, mtV_def, cpM] at hy_ ⊢; try first | exact hy_ | (cases hy_; done)); simp [AS.set, e_id3, e_tM, e_id8] at hy_ ⊢; try exact hy_)) ?_
      try dsimp only
      exact hlt
    · obtain rfl : j = g.ms.length := by omega
      refine gO (D0_XIm7 []) (And.intro (j7 @hlt @ci_lt @ci_le @n_id2_id1 @n_id1_id2 @n_id3_id2 @n_id2_id3) (And.intro (j7 @n_id3_id1 @n_id1_id3 @n_tA_id3 @n_id3_tA @n_tA_id2 @n_id2_tA @n_tA_id1) (And.intro (j7 @n_id1_tA @hB1 @hB2 @n_tF_id1 @n_id1_tF @hB1 @n_tF_id2) (j8 @n_id2_tF @hB2 @n_tM_id3 @n_id3_tM @n_tM_id1 @n_id1_tM @n_tM_id2 @n_id2_tM)))) True.intro (k := ?_)
      refine ⟨Wk_agg4 ?_ ?_ ?_ (by simp [cpI]), ?_⟩
      · simp [cpI]
      · simp [cpI]
      · cases h : g.ms <;> simp [cpI, h]
      refine le_B _ fun j e1 e2 y hy => ?_
      have e3 : j ≠ id3 := by rintro rfl; rw [hB3] at hy; cases hy
      have eo : j ≠ tM := by rintro rfl; rw [h_tM] at hy; cases hy
      simp [AS.set, e2, e3, eo, hy]
end Im
end Go.Proofs.YtknalmoackcpbaaGreat
