/- Chapter 09: the document's Chain, same, ways. -/
import Derived.Test.YthbmjmdmamapiaaRegD
set_option linter.unusedSimpArgs false
set_option linter.unusedVariables false
set_option maxRecDepth 100000
set_option maxHeartbeats 3200000
namespace Go.Proofs.Ythbmjmdmamapiaa
open Go Go.AW

/-- The parts of one clause from the p-th on. -/
def candP (k : Nat) (c : Cl) (p : Nat) : List Pt := (([1, 2, 3] : List Nat).drop (p - 1)).map fun (p : Nat) => (⟨(k : Int), (p : Int), bnd c p⟩ : Pt)
theorem candP_lt {k : Nat} {c : Cl} {p : Nat} (h1 : 1 ≤ p) (h4 : p < 4) : candP k c p = ⟨k, p, bnd c p⟩ :: candP k c (p + 1) := by
  obtain rfl | rfl | rfl : p = 1 ∨ p = 2 ∨ p = 3 := by omega
  · rfl
  · rfl
  · rfl
theorem candP_4 {k : Nat} {c : Cl} : candP k c 4 = [] := rfl
theorem cand_cons {k : Nat} {c : Cl} {r : List Cl} : cand k (c :: r) = candP k c 1 ++ cand (k + 1) r := rfl

theorem rchain_ok (l : List Cl) (o : Own) (nl : Bool) (x : Int) (C : List Pt) (hC : DocC l x 0 C) (hcl : C.length ≤ 1000) (hl : l.length ≤ 1000) (σ : AS) :
    ACalls Try.prog 20 [clsV l o nl, .sc (.int .i64 x)] σ (Gives (.lst 47 (C.map rgV) .unk (decide (C = []))) σ) No := by
  have hb := fun c p σ => bounds_ok c p σ
  have hi := fun c p σ => in_ok c p x σ
  simp only [clsV, clV_def] at hb hi ⊢
  refine ACalls.of_body Try.func20 rfl rfl (by simp [Try.ntmps20]) ?_
  repeat (first
    | (with_reducible apply AWp.seq)
    | (with_reducible apply AWp.block)
    | ((with_reducible apply AWp.fork); simp -implicitDefEqProofs [ci_lt, ci_le])
    | ((with_reducible apply AWp.region); simp -implicitDefEqProofs [ci_lt, ci_le])
    | (with_reducible refine And.intro (by first | omega | assumption | decide) ?_)
    | ((with_reducible show condK _ _ _); simp -implicitDefEqProofs [ci_lt, ci_le])
    | ((with_reducible show guardK _ _ _ _ _ _ _ _ _); simp -implicitDefEqProofs [ci_lt, ci_le])
    | ((with_reducible apply AWp.ret); try simp -implicitDefEqProofs [ci_lt, ci_le])
    | ((with_reducible apply AWp.skip); try simp -implicitDefEqProofs [ci_lt, ci_le])
    | ((with_reducible apply AWp.exit); try simp -implicitDefEqProofs [ci_lt, ci_le]))
  refine AWp.mint 5 47 [] true (by simp [Try.ntmps20]) (.inr ⟨by simp, rfl, rfl⟩) ?_
  simp -implicitDefEqProofs [ci_lt, ci_le]
  intro tk htk
  repeat (first
    | (with_reducible apply AWp.seq)
    | (with_reducible apply AWp.block)
    | ((with_reducible apply AWp.fork); simp -implicitDefEqProofs [ci_lt, ci_le])
    | ((with_reducible apply AWp.region); simp -implicitDefEqProofs [ci_lt, ci_le])
    | (with_reducible refine And.intro (by first | omega | assumption | decide) ?_)
    | ((with_reducible show condK _ _ _); simp -implicitDefEqProofs [ci_lt, ci_le])
    | ((with_reducible show guardK _ _ _ _ _ _ _ _ _); simp -implicitDefEqProofs [ci_lt, ci_le])
    | ((with_reducible apply AWp.ret); try simp -implicitDefEqProofs [ci_lt, ci_le])
    | ((with_reducible apply AWp.skip); try simp -implicitDefEqProofs [ci_lt, ci_le])
    | ((with_reducible apply AWp.exit); try simp -implicitDefEqProofs [ci_lt, ci_le]))
  refine AWp.loopA (α := (List Pt) × (List Pt) × (Int)) (([], C, 0)) (fun ⟨d, r, s⟩ => r.length) (fun ⟨d, r, s⟩ => d ++ r = C ∧ DocC l x s r) [(0, ?_), (1, ?_)] (fun ⟨d, r, s⟩ => [(5, .lst 47 (d.map rgV) (.tok tk) (decide (d = []))), (6, .sc (.int .i64 s))]) (fun ⟨d, r, s⟩ => σ.set tk (.tok d.length)) ?_ ?_ ?_ ?_
  rotate_left 2
  · (try dsimp only); (simp only [List.cons_append, List.nil_append]; repeat (first | exact FrWk.nil | refine FrWk.cons (by first | (simp -implicitDefEqProofs [ci_lt, ci_le]; done) | exact Wk.of (by (try simp -implicitDefEqProofs [ci_lt, ci_le]) <;> rfl)) ?_))
  · (try dsimp only); (first | exact AS.le_refl _ | assumption | (repeat (first | exact AS.le_refl _ | assumption | refine le_new (by simp [*]) ?_)))
  · exact ⟨by simp, hC⟩
  intro x_ hx_
  obtain ⟨d, r, s⟩ := x_
  try dsimp only at hx_ ⊢
  obtain ⟨hd, hD⟩ := hx_
  simp only [List.cons_append, List.nil_append]
  have hdl : d.length ≤ 1000 := by rw [← hd] at hcl; simp at hcl; omega
  repeat (first
    | (with_reducible apply AWp.seq)
    | (with_reducible apply AWp.block)
    | ((with_reducible apply AWp.fork); simp -implicitDefEqProofs [ci_lt, ci_le])
    | ((with_reducible apply AWp.region); simp -implicitDefEqProofs [ci_lt, ci_le])
    | (with_reducible refine And.intro (by first | omega | assumption | decide) ?_)
    | ((with_reducible show condK _ _ _); simp -implicitDefEqProofs [ci_lt, ci_le])
    | ((with_reducible show guardK _ _ _ _ _ _ _ _ _); simp -implicitDefEqProofs [ci_lt, ci_le])
    | ((with_reducible apply AWp.ret); try simp -implicitDefEqProofs [ci_lt, ci_le])
    | ((with_reducible apply AWp.skip); try simp -implicitDefEqProofs [ci_lt, ci_le])
    | ((with_reducible apply AWp.exit); try simp -implicitDefEqProofs [ci_lt, ci_le]))
  intro id n_id_tk h_id
  have n_tk_id : ¬ tk = id := fun e => n_id_tk e.symm
  repeat (first
    | (with_reducible apply AWp.seq)
    | (with_reducible apply AWp.block)
    | ((with_reducible apply AWp.fork); simp -implicitDefEqProofs [n_id_tk, n_tk_id, ci_lt, ci_le])
    | ((with_reducible apply AWp.region); simp -implicitDefEqProofs [n_id_tk, n_tk_id, ci_lt, ci_le])
    | (with_reducible refine And.intro (by first | omega | assumption | decide) ?_)
    | ((with_reducible show condK _ _ _); simp -implicitDefEqProofs [n_id_tk, n_tk_id, ci_lt, ci_le])
    | ((with_reducible show guardK _ _ _ _ _ _ _ _ _); simp -implicitDefEqProofs [n_id_tk, n_tk_id, ci_lt, ci_le])
    | ((with_reducible apply AWp.ret); try simp -implicitDefEqProofs [n_id_tk, n_tk_id, ci_lt, ci_le])
    | ((with_reducible apply AWp.skip); try simp -implicitDefEqProofs [n_id_tk, n_tk_id, ci_lt, ci_le])
    | ((with_reducible apply AWp.exit); try simp -implicitDefEqProofs [n_id_tk, n_tk_id, ci_lt, ci_le]))
  refine AWp.loopA (α := (Nat) × (Int × Int × Int)) ((0, ((0 : Int), (0 : Int), (0 : Int)))) (fun ⟨k, b⟩ => l.length - k) (fun ⟨k, b⟩ => k ≤ l.length ∧ (cand k (l.drop k)).foldl (stepR x s) b = bestF l x s) [(0, ?_), (1, ?_), (4, ?_), (5, ?_), (6, ?_), (7, ?_), (14, ?_)] (fun ⟨k, b⟩ => [(9, .sc (.int .i64 k)), (8, .sc (.int .i64 b.2.2))]) (fun ⟨k, b⟩ => (σ.set tk (.tok d.length)).set id (.cells 47 [.sc (.int .i64 b.1), .sc (.int .i64 b.2.1)])) ?_ ?_ ?_ ?_
  rotate_left 7
  · (try dsimp only); (simp only [List.cons_append, List.nil_append]; repeat (first | exact FrWk.nil | refine FrWk.cons (by first | (simp -implicitDefEqProofs [ci_lt, ci_le]; done) | exact Wk.of (by (try simp -implicitDefEqProofs [ci_lt, ci_le]) <;> rfl)) ?_))
  · (try dsimp only); (first | exact AS.le_refl _ | assumption | (repeat (first | exact AS.le_refl _ | assumption | refine le_new (by simp [*]) ?_)))
  · exact ⟨by omega, rfl⟩
  intro x_ hx_
  obtain ⟨k, b⟩ := x_
  try dsimp only at hx_ ⊢
  obtain ⟨hk, hX⟩ := hx_
  simp only [List.cons_append, List.nil_append]
  by_cases hlt : k < l.length
  · have wi_k : IntKind.i64.wrap ((k : Int) + 1) = ((k + 1 : Nat) : Int) := ci_wi (by omega)
    rw [List.drop_eq_getElem_cons hlt, cand_cons, List.foldl_append] at hX
    generalize hc : l[k] = c at *
    have hb' := hb c
    have hi' := hi c
    repeat (first
      | (with_reducible apply AWp.seq)
      | (with_reducible apply AWp.block)
      | ((with_reducible apply AWp.fork); simp -implicitDefEqProofs [hlt, n_id_tk, n_tk_id, ci_lt, ci_le, wi_k])
      | ((with_reducible apply AWp.region); simp -implicitDefEqProofs [hlt, n_id_tk, n_tk_id, ci_lt, ci_le, wi_k])
      | (with_reducible refine And.intro (by first | omega | assumption | decide) ?_)
      | ((with_reducible show condK _ _ _); simp -implicitDefEqProofs [hlt, n_id_tk, n_tk_id, ci_lt, ci_le, wi_k])
      | ((with_reducible show guardK _ _ _ _ _ _ _ _ _); simp -implicitDefEqProofs [hlt, n_id_tk, n_tk_id, ci_lt, ci_le, wi_k])
      | ((with_reducible apply AWp.ret); try simp -implicitDefEqProofs [hlt, n_id_tk, n_tk_id, ci_lt, ci_le, wi_k])
      | ((with_reducible apply AWp.skip); try simp -implicitDefEqProofs [hlt, n_id_tk, n_tk_id, ci_lt, ci_le, wi_k])
      | ((with_reducible apply AWp.exit); try simp -implicitDefEqProofs [hlt, n_id_tk, n_tk_id, ci_lt, ci_le, wi_k]))
    refine AWp.loopA (α := (Nat) × (Int × Int × Int)) ((1, b)) (fun ⟨p, b⟩ => 4 - p) (fun ⟨p, b⟩ => 1 ≤ p ∧ p ≤ 4 ∧ (cand (k + 1) (l.drop (k + 1))).foldl (stepR x s) ((candP k c p).foldl (stepR x s) b) = bestF l x s) [(0, ?_), (1, ?_), (4, ?_), (5, ?_), (6, ?_), (7, ?_), (9, ?_), (14, ?_), (15, ?_), (16, ?_), (17, ?_), (18, ?_)] (fun ⟨p, b⟩ => [(10, .sc (.int .i64 p)), (8, .sc (.int .i64 b.2.2))]) (fun ⟨p, b⟩ => (σ.set tk (.tok d.length)).set id (.cells 47 [.sc (.int .i64 b.1), .sc (.int .i64 b.2.1)])) ?_ ?_ ?_ ?_
    rotate_left 12
    · (try dsimp only); (simp only [List.cons_append, List.nil_append]; repeat (first | exact FrWk.nil | refine FrWk.cons (by first | (simp -implicitDefEqProofs [ci_lt, ci_le, wi_k]; done) | exact Wk.of (by (try simp -implicitDefEqProofs [ci_lt, ci_le, wi_k]) <;> rfl)) ?_))
    · (try dsimp only); (first | exact AS.le_refl _ | assumption | (repeat (first | exact AS.le_refl _ | assumption | refine le_new (by simp [*]) ?_)))
    · exact ⟨by omega, by omega, hX⟩
    intro x_ hx_
    obtain ⟨p, b⟩ := x_
    try dsimp only at hx_ ⊢
    obtain ⟨hp1, hp4, hY⟩ := hx_
    simp only [List.cons_append, List.nil_append]
    by_cases hp : p < 4
    · have hp3 : ((p : Int) ≤ 3) = True := by simp; omega
      have wi_p : IntKind.i64.wrap ((p : Int) + 1) = ((p + 1 : Nat) : Int) := ci_wi (by omega)
      rw [candP_lt hp1 hp, List.foldl_cons] at hY
      obtain ⟨b1, b2, b3⟩ := b
      simp only [stepR] at hY
      have hb'' := hb' p
      have hi'' := hi' p
      generalize bnd c p = t at *
      generalize hasS t x = hh at *
      by_cases hq : hh = true ∧ s < IntKind.i64.wrap (t.t - t.f) ∧ (b3 = 0 ∨ IntKind.i64.wrap (t.t - t.f) < b3)
      · rw [if_pos hq] at hY
        obtain ⟨rfl, q2, q3⟩ := hq
        by_cases h0 : b3 = 0
        · repeat (first
            | (with_reducible apply AWp.seq)
            | (with_reducible apply AWp.block)
            | ((with_reducible apply AWp.fork); simp -implicitDefEqProofs [hp3, hlt, hc, clV_def, q2, h0, n_id_tk, n_tk_id, ci_lt, ci_le, wi_k, wi_p])
            | ((with_reducible apply AWp.region); simp -implicitDefEqProofs [hp3, hlt, hc, clV_def, q2, h0, n_id_tk, n_tk_id, ci_lt, ci_le, wi_k, wi_p])
            | (with_reducible refine And.intro (by first | omega | assumption | decide) ?_)
            | ((with_reducible show condK _ _ _); simp -implicitDefEqProofs [hp3, hlt, hc, clV_def, q2, h0, n_id_tk, n_tk_id, ci_lt, ci_le, wi_k, wi_p])
            | ((with_reducible show guardK _ _ _ _ _ _ _ _ _); simp -implicitDefEqProofs [hp3, hlt, hc, clV_def, q2, h0, n_id_tk, n_tk_id, ci_lt, ci_le, wi_k, wi_p])
            | ((with_reducible apply aCall.id); first
                | ((apply aCall.gives (hb'' _)); simp -implicitDefEqProofs [hp3, hlt, hc, clV_def, q2, h0, n_id_tk, n_tk_id, ci_lt, ci_le, wi_k, wi_p])
                | ((apply aCall.gives (hi'' _)); simp -implicitDefEqProofs [hp3, hlt, hc, clV_def, q2, h0, n_id_tk, n_tk_id, ci_lt, ci_le, wi_k, wi_p]))
            | ((with_reducible apply AWp.ret); try simp -implicitDefEqProofs [hp3, hlt, hc, clV_def, q2, h0, n_id_tk, n_tk_id, ci_lt, ci_le, wi_k, wi_p])
            | ((with_reducible apply AWp.skip); try simp -implicitDefEqProofs [hp3, hlt, hc, clV_def, q2, h0, n_id_tk, n_tk_id, ci_lt, ci_le, wi_k, wi_p])
            | ((with_reducible apply AWp.exit); try simp -implicitDefEqProofs [hp3, hlt, hc, clV_def, q2, h0, n_id_tk, n_tk_id, ci_lt, ci_le, wi_k, wi_p]))
          refine stepA.mk ((p + 1, ((k : Int), (p : Int), IntKind.i64.wrap (t.t - t.f)))) (by (try dsimp only); omega) (by (try dsimp only); (simp only [List.cons_append, List.nil_append]; repeat (first | exact FrWk.nil | refine FrWk.cons (by first | (simp -implicitDefEqProofs [ci_lt, ci_le, wi_k, wi_p]; done) | exact Wk.of (by (try simp -implicitDefEqProofs [ci_lt, ci_le, wi_k, wi_p]) <;> rfl)) ?_))) (by (try dsimp only); (first | exact AS.le_refl _ | assumption | (repeat (first | exact AS.le_refl _ | assumption | refine le_new (by simp [*]) ?_)))) ?_
          try dsimp only
          exact ⟨by omega, by omega, hY⟩
        · have q4 : IntKind.i64.wrap (t.t - t.f) < b3 := by rcases q3 with h | h; exact absurd h h0; exact h
          repeat (first
            | (with_reducible apply AWp.seq)
            | (with_reducible apply AWp.block)
            | ((with_reducible apply AWp.fork); simp -implicitDefEqProofs [hp3, hlt, hc, clV_def, q2, h0, q4, n_id_tk, n_tk_id, ci_lt, ci_le, wi_k, wi_p])
            | ((with_reducible apply AWp.region); simp -implicitDefEqProofs [hp3, hlt, hc, clV_def, q2, h0, q4, n_id_tk, n_tk_id, ci_lt, ci_le, wi_k, wi_p])
            | (with_reducible refine And.intro (by first | omega | assumption | decide) ?_)
            | ((with_reducible show condK _ _ _); simp -implicitDefEqProofs [hp3, hlt, hc, clV_def, q2, h0, q4, n_id_tk, n_tk_id, ci_lt, ci_le, wi_k, wi_p])
            | ((with_reducible show guardK _ _ _ _ _ _ _ _ _); simp -implicitDefEqProofs [hp3, hlt, hc, clV_def, q2, h0, q4, n_id_tk, n_tk_id, ci_lt, ci_le, wi_k, wi_p])
            | ((with_reducible apply aCall.id); first
                | ((apply aCall.gives (hb'' _)); simp -implicitDefEqProofs [hp3, hlt, hc, clV_def, q2, h0, q4, n_id_tk, n_tk_id, ci_lt, ci_le, wi_k, wi_p])
                | ((apply aCall.gives (hi'' _)); simp -implicitDefEqProofs [hp3, hlt, hc, clV_def, q2, h0, q4, n_id_tk, n_tk_id, ci_lt, ci_le, wi_k, wi_p]))
            | ((with_reducible apply AWp.ret); try simp -implicitDefEqProofs [hp3, hlt, hc, clV_def, q2, h0, q4, n_id_tk, n_tk_id, ci_lt, ci_le, wi_k, wi_p])
            | ((with_reducible apply AWp.skip); try simp -implicitDefEqProofs [hp3, hlt, hc, clV_def, q2, h0, q4, n_id_tk, n_tk_id, ci_lt, ci_le, wi_k, wi_p])
            | ((with_reducible apply AWp.exit); try simp -implicitDefEqProofs [hp3, hlt, hc, clV_def, q2, h0, q4, n_id_tk, n_tk_id, ci_lt, ci_le, wi_k, wi_p]))
          refine stepA.mk ((p + 1, ((k : Int), (p : Int), IntKind.i64.wrap (t.t - t.f)))) (by (try dsimp only); omega) (by (try dsimp only); (simp only [List.cons_append, List.nil_append]; repeat (first | exact FrWk.nil | refine FrWk.cons (by first | (simp -implicitDefEqProofs [ci_lt, ci_le, wi_k, wi_p]; done) | exact Wk.of (by (try simp -implicitDefEqProofs [ci_lt, ci_le, wi_k, wi_p]) <;> rfl)) ?_))) (by (try dsimp only); (first | exact AS.le_refl _ | assumption | (repeat (first | exact AS.le_refl _ | assumption | refine le_new (by simp [*]) ?_)))) ?_
          try dsimp only
          exact ⟨by omega, by omega, hY⟩
      · rw [if_neg hq] at hY
        cases hh with
        | false =>
          repeat (first
            | (with_reducible apply AWp.seq)
            | (with_reducible apply AWp.block)
            | ((with_reducible apply AWp.fork); simp -implicitDefEqProofs [hp3, hlt, hc, clV_def, ci_lt, ci_le, wi_k, wi_p])
            | ((with_reducible apply AWp.region); simp -implicitDefEqProofs [hp3, hlt, hc, clV_def, ci_lt, ci_le, wi_k, wi_p])
            | (with_reducible refine And.intro (by first | omega | assumption | decide) ?_)
            | ((with_reducible show condK _ _ _); simp -implicitDefEqProofs [hp3, hlt, hc, clV_def, ci_lt, ci_le, wi_k, wi_p])
            | ((with_reducible show guardK _ _ _ _ _ _ _ _ _); simp -implicitDefEqProofs [hp3, hlt, hc, clV_def, ci_lt, ci_le, wi_k, wi_p])
            | ((with_reducible apply aCall.id); first
                | ((apply aCall.gives (hb'' _)); simp -implicitDefEqProofs [hp3, hlt, hc, clV_def, ci_lt, ci_le, wi_k, wi_p])
                | ((apply aCall.gives (hi'' _)); simp -implicitDefEqProofs [hp3, hlt, hc, clV_def, ci_lt, ci_le, wi_k, wi_p]))
            | ((with_reducible apply AWp.ret); try simp -implicitDefEqProofs [hp3, hlt, hc, clV_def, ci_lt, ci_le, wi_k, wi_p])
            | ((with_reducible apply AWp.skip); try simp -implicitDefEqProofs [hp3, hlt, hc, clV_def, ci_lt, ci_le, wi_k, wi_p])
            | ((with_reducible apply AWp.exit); try simp -implicitDefEqProofs [hp3, hlt, hc, clV_def, ci_lt, ci_le, wi_k, wi_p]))
          refine stepA.mk ((p + 1, (b1, b2, b3))) (by (try dsimp only); omega) (by (try dsimp only); (simp only [List.cons_append, List.nil_append]; repeat (first | exact FrWk.nil | refine FrWk.cons (by first | (simp -implicitDefEqProofs [ci_lt, ci_le, wi_k, wi_p]; done) | exact Wk.of (by (try simp -implicitDefEqProofs [ci_lt, ci_le, wi_k, wi_p]) <;> rfl)) ?_))) (by (try dsimp only); (first | exact AS.le_refl _ | assumption | (repeat (first | exact AS.le_refl _ | assumption | refine le_new (by simp [*]) ?_)))) ?_
          try dsimp only
          exact ⟨by omega, by omega, hY⟩
        | true =>
          by_cases q2 : s < IntKind.i64.wrap (t.t - t.f)
          · have h0 : ¬ b3 = 0 := fun h => hq ⟨rfl, q2, .inl h⟩
            have q4 : ¬ IntKind.i64.wrap (t.t - t.f) < b3 := fun h => hq ⟨rfl, q2, .inr h⟩
            repeat (first
              | (with_reducible apply AWp.seq)
              | (with_reducible apply AWp.block)
              | ((with_reducible apply AWp.fork); simp -implicitDefEqProofs [hp3, hlt, hc, clV_def, q2, h0, q4, ci_lt, ci_le, wi_k, wi_p])
              | ((with_reducible apply AWp.region); simp -implicitDefEqProofs [hp3, hlt, hc, clV_def, q2, h0, q4, ci_lt, ci_le, wi_k, wi_p])
              | (with_reducible refine And.intro (by first | omega | assumption | decide) ?_)
              | ((with_reducible show condK _ _ _); simp -implicitDefEqProofs [hp3, hlt, hc, clV_def, q2, h0, q4, ci_lt, ci_le, wi_k, wi_p])
              | ((with_reducible show guardK _ _ _ _ _ _ _ _ _); simp -implicitDefEqProofs [hp3, hlt, hc, clV_def, q2, h0, q4, ci_lt, ci_le, wi_k, wi_p])
              | ((with_reducible apply aCall.id); first
                  | ((apply aCall.gives (hb'' _)); simp -implicitDefEqProofs [hp3, hlt, hc, clV_def, q2, h0, q4, ci_lt, ci_le, wi_k, wi_p])
                  | ((apply aCall.gives (hi'' _)); simp -implicitDefEqProofs [hp3, hlt, hc, clV_def, q2, h0, q4, ci_lt, ci_le, wi_k, wi_p]))
              | ((with_reducible apply AWp.ret); try simp -implicitDefEqProofs [hp3, hlt, hc, clV_def, q2, h0, q4, ci_lt, ci_le, wi_k, wi_p])
              | ((with_reducible apply AWp.skip); try simp -implicitDefEqProofs [hp3, hlt, hc, clV_def, q2, h0, q4, ci_lt, ci_le, wi_k, wi_p])
              | ((with_reducible apply AWp.exit); try simp -implicitDefEqProofs [hp3, hlt, hc, clV_def, q2, h0, q4, ci_lt, ci_le, wi_k, wi_p]))
            refine stepA.mk ((p + 1, (b1, b2, b3))) (by (try dsimp only); omega) (by (try dsimp only); (simp only [List.cons_append, List.nil_append]; repeat (first | exact FrWk.nil | refine FrWk.cons (by first | (simp -implicitDefEqProofs [ci_lt, ci_le, wi_k, wi_p]; done) | exact Wk.of (by (try simp -implicitDefEqProofs [ci_lt, ci_le, wi_k, wi_p]) <;> rfl)) ?_))) (by (try dsimp only); (first | exact AS.le_refl _ | assumption | (repeat (first | exact AS.le_refl _ | assumption | refine le_new (by simp [*]) ?_)))) ?_
            try dsimp only
            exact ⟨by omega, by omega, hY⟩
          · repeat (first
              | (with_reducible apply AWp.seq)
              | (with_reducible apply AWp.block)
              | ((with_reducible apply AWp.fork); simp -implicitDefEqProofs [hp3, hlt, hc, clV_def, q2, ci_lt, ci_le, wi_k, wi_p])
              | ((with_reducible apply AWp.region); simp -implicitDefEqProofs [hp3, hlt, hc, clV_def, q2, ci_lt, ci_le, wi_k, wi_p])
              | (with_reducible refine And.intro (by first | omega | assumption | decide) ?_)
              | ((with_reducible show condK _ _ _); simp -implicitDefEqProofs [hp3, hlt, hc, clV_def, q2, ci_lt, ci_le, wi_k, wi_p])
              | ((with_reducible show guardK _ _ _ _ _ _ _ _ _); simp -implicitDefEqProofs [hp3, hlt, hc, clV_def, q2, ci_lt, ci_le, wi_k, wi_p])
              | ((with_reducible apply aCall.id); first
                  | ((apply aCall.gives (hb'' _)); simp -implicitDefEqProofs [hp3, hlt, hc, clV_def, q2, ci_lt, ci_le, wi_k, wi_p])
                  | ((apply aCall.gives (hi'' _)); simp -implicitDefEqProofs [hp3, hlt, hc, clV_def, q2, ci_lt, ci_le, wi_k, wi_p]))
              | ((with_reducible apply AWp.ret); try simp -implicitDefEqProofs [hp3, hlt, hc, clV_def, q2, ci_lt, ci_le, wi_k, wi_p])
              | ((with_reducible apply AWp.skip); try simp -implicitDefEqProofs [hp3, hlt, hc, clV_def, q2, ci_lt, ci_le, wi_k, wi_p])
              | ((with_reducible apply AWp.exit); try simp -implicitDefEqProofs [hp3, hlt, hc, clV_def, q2, ci_lt, ci_le, wi_k, wi_p]))
            refine stepA.mk ((p + 1, (b1, b2, b3))) (by (try dsimp only); omega) (by (try dsimp only); (simp only [List.cons_append, List.nil_append]; repeat (first | exact FrWk.nil | refine FrWk.cons (by first | (simp -implicitDefEqProofs [ci_lt, ci_le, wi_k, wi_p]; done) | exact Wk.of (by (try simp -implicitDefEqProofs [ci_lt, ci_le, wi_k, wi_p]) <;> rfl)) ?_))) (by (try dsimp only); (first | exact AS.le_refl _ | assumption | (repeat (first | exact AS.le_refl _ | assumption | refine le_new (by simp [*]) ?_)))) ?_
            try dsimp only
            exact ⟨by omega, by omega, hY⟩
    · obtain rfl : p = 4 := by omega
      have hp3 : (((4 : Nat) : Int) ≤ 3) = False := by simp
      rw [candP_4, List.foldl_nil] at hY
      repeat (first
        | (with_reducible apply AWp.seq)
        | (with_reducible apply AWp.block)
        | ((with_reducible apply AWp.fork); simp -implicitDefEqProofs [hp3, ci_lt, ci_le, wi_k])
        | ((with_reducible apply AWp.region); simp -implicitDefEqProofs [hp3, ci_lt, ci_le, wi_k])
        | (with_reducible refine And.intro (by first | omega | assumption | decide) ?_)
        | ((with_reducible show condK _ _ _); simp -implicitDefEqProofs [hp3, ci_lt, ci_le, wi_k])
        | ((with_reducible show guardK _ _ _ _ _ _ _ _ _); simp -implicitDefEqProofs [hp3, ci_lt, ci_le, wi_k])
        | ((with_reducible apply AWp.ret); try simp -implicitDefEqProofs [hp3, ci_lt, ci_le, wi_k])
        | ((with_reducible apply AWp.skip); try simp -implicitDefEqProofs [hp3, ci_lt, ci_le, wi_k])
        | ((with_reducible apply AWp.exit); try simp -implicitDefEqProofs [hp3, ci_lt, ci_le, wi_k]))
      refine stepA.mk ((k + 1, b)) (by (try dsimp only); omega) (by (try dsimp only); (simp only [List.cons_append, List.nil_append]; repeat (first | exact FrWk.nil | refine FrWk.cons (by first | (simp -implicitDefEqProofs [ci_lt, ci_le, wi_k]; done) | exact Wk.of (by (try simp -implicitDefEqProofs [ci_lt, ci_le, wi_k]) <;> rfl)) ?_))) (by (try dsimp only); (first | exact AS.le_refl _ | assumption | (repeat (first | exact AS.le_refl _ | assumption | refine le_new (by simp [*]) ?_)))) ?_
      try dsimp only
      exact ⟨by omega, hY⟩
  · rw [List.drop_eq_nil_of_le (by omega)] at hX
    simp only [cand, List.foldl_nil] at hX
    cases r with
    | nil =>
      simp only [DocC] at hD
      rw [← hX] at hD
      rw [List.append_nil] at hd
      subst hd
      repeat (first
        | (with_reducible apply AWp.seq)
        | (with_reducible apply AWp.block)
        | ((with_reducible apply AWp.fork); simp -implicitDefEqProofs [hlt, hD, n_id_tk, n_tk_id, ci_lt, ci_le])
        | ((with_reducible apply AWp.region); simp -implicitDefEqProofs [hlt, hD, n_id_tk, n_tk_id, ci_lt, ci_le])
        | (with_reducible refine And.intro (by first | omega | assumption | decide) ?_)
        | ((with_reducible show condK _ _ _); simp -implicitDefEqProofs [hlt, hD, n_id_tk, n_tk_id, ci_lt, ci_le])
        | ((with_reducible show guardK _ _ _ _ _ _ _ _ _); simp -implicitDefEqProofs [hlt, hD, n_id_tk, n_tk_id, ci_lt, ci_le])
        | ((with_reducible apply AWp.ret); try simp -implicitDefEqProofs [hlt, hD, n_id_tk, n_tk_id, ci_lt, ci_le])
        | ((with_reducible apply AWp.skip); try simp -implicitDefEqProofs [hlt, hD, n_id_tk, n_tk_id, ci_lt, ci_le])
        | ((with_reducible apply AWp.exit); try simp -implicitDefEqProofs [hlt, hD, n_id_tk, n_tk_id, ci_lt, ci_le]))
      exact le_new (by simp [n_id_tk, h_id]) (le_new htk (AS.le_refl _))
    | cons p r =>
      simp only [DocC] at hD
      obtain ⟨hD1, hD2, hD3⟩ := hD
      rw [hD1] at hX
      subst hX
      have h0 : ¬ szS p = 0 := by omega
      have hrl : (p :: r).length = r.length + 1 := rfl
      repeat (first
        | (with_reducible apply AWp.seq)
        | (with_reducible apply AWp.block)
        | ((with_reducible apply AWp.fork); simp -implicitDefEqProofs [hlt, h0, n_id_tk, n_tk_id, hdl, ci_lt, ci_le])
        | ((with_reducible apply AWp.region); simp -implicitDefEqProofs [hlt, h0, n_id_tk, n_tk_id, hdl, ci_lt, ci_le])
        | (with_reducible refine And.intro (by first | omega | assumption | decide) ?_)
        | ((with_reducible show condK _ _ _); simp -implicitDefEqProofs [hlt, h0, n_id_tk, n_tk_id, hdl, ci_lt, ci_le])
        | ((with_reducible show guardK _ _ _ _ _ _ _ _ _); simp -implicitDefEqProofs [hlt, h0, n_id_tk, n_tk_id, hdl, ci_lt, ci_le])
        | ((with_reducible apply AWp.ret); try simp -implicitDefEqProofs [hlt, h0, n_id_tk, n_tk_id, hdl, ci_lt, ci_le])
        | ((with_reducible apply AWp.skip); try simp -implicitDefEqProofs [hlt, h0, n_id_tk, n_tk_id, hdl, ci_lt, ci_le])
        | ((with_reducible apply AWp.exit); try simp -implicitDefEqProofs [hlt, h0, n_id_tk, n_tk_id, hdl, ci_lt, ci_le]))
      refine stepA.mk ((d ++ [p], r, szS p)) (by (try dsimp only); omega) (by (try dsimp only); (simp only [List.cons_append, List.nil_append]; repeat (first | exact FrWk.nil | refine FrWk.cons (by first | (simp -implicitDefEqProofs [rgV, ci_lt, ci_le]; done) | exact Wk.of (by (try simp -implicitDefEqProofs [rgV, ci_lt, ci_le]) <;> rfl)) ?_))) (by (try dsimp only); (simp [n_id_tk]; exact le_new (by simp [n_id_tk, h_id]) (AS.le_refl _))) ?_
      try dsimp only
      exact ⟨by simpa using hd, hD3⟩

/-- Regions from the list of their names. -/
theorem rsame_ok (a b : List Pt) (i k : Nat) (o1 o2 : Own) (n1 n2 : Bool) (ha : a.length ≤ 1000) (hb : b.length ≤ 1000) (hi : i ≤ a.length) (hk : k ≤ b.length) (σ : AS) :
    ACalls Try.prog 47 [.lst 47 (a.map rgV) o1 n1, .sc (.int .i64 i), .lst 47 (b.map rgV) o2 n2, .sc (.int .i64 k)] σ (Gives (.sc (.bool (decide (rgs (a.drop i) = rgs (b.drop k))))) σ) No := by
  have w1 : IntKind.i64.wrap ((a.length : Int) - i) = (a.length - i : Nat) := by rw [in_i64 (by omega) (by omega)]; omega
  have w2 : IntKind.i64.wrap ((b.length : Int) - k) = (b.length - k : Nat) := by rw [in_i64 (by omega) (by omega)]; omega
  refine ACalls.of_body Try.func47 rfl rfl (by simp [Try.ntmps47]) ?_
  by_cases hlen : a.length - i = b.length - k
  · have hlen' : (((a.length - i : Nat) : Int) = ((b.length - k : Nat) : Int)) = True := by simp only [eq_iff_iff, iff_true]; omega
    repeat (first
      | (with_reducible apply AWp.seq)
      | (with_reducible apply AWp.block)
      | ((with_reducible apply AWp.fork); simp -implicitDefEqProofs [w1, w2, hlen', ci_lt, ci_le])
      | ((with_reducible apply AWp.region); simp -implicitDefEqProofs [w1, w2, hlen', ci_lt, ci_le])
      | (with_reducible refine And.intro (by first | omega | assumption | decide) ?_)
      | ((with_reducible show condK _ _ _); simp -implicitDefEqProofs [w1, w2, hlen', ci_lt, ci_le])
      | ((with_reducible show guardK _ _ _ _ _ _ _ _ _); simp -implicitDefEqProofs [w1, w2, hlen', ci_lt, ci_le])
      | (((with_reducible apply AWp.drawS (id := 6) (t := (Sch.step 0 (Sch.step 1 (Sch.step 2 (Sch.step 3 (Sch.step 4 (Sch.step 6 (Sch.step 7 (Sch.step 8 (Sch.step 9 (Sch.step 10 (Sch.read 5 (Sch.read 11 (Sch.step 12 Sch.done))))))))))))))); (exact mixed); kernel_rfl; kernel_rfl; (repeat (with_reducible first | apply PanQ.then | apply PanQ.block | apply PanQ.body | apply PanQ.no))); simp -implicitDefEqProofs [w1, w2, hlen', ci_lt, ci_le])
      | ((with_reducible apply AWp.ret); try simp -implicitDefEqProofs [w1, w2, hlen', ci_lt, ci_le])
      | ((with_reducible apply AWp.skip); try simp -implicitDefEqProofs [w1, w2, hlen', ci_lt, ci_le])
      | ((with_reducible apply AWp.exit); try simp -implicitDefEqProofs [w1, w2, hlen', ci_lt, ci_le]))
    refine AWp.loopA (α := (Nat)) (0) (fun n => a.length - i - n) (fun n => n ≤ a.length - i ∧ (rgs (a.drop i) = rgs (b.drop k) ↔ rgs (a.drop (i + n)) = rgs (b.drop (k + n)))) [(0, ?_), (1, ?_), (2, ?_), (3, ?_)] (fun n => [(9, .sc (.int .i64 n))]) (fun n => σ) ?_ ?_ ?_ ?_
    rotate_left 4
    · (try dsimp only); (simp only [List.cons_append, List.nil_append]; repeat (first | exact FrWk.nil | refine FrWk.cons (by first | (simp -implicitDefEqProofs [ci_lt, ci_le]; done) | exact Wk.of (by (try simp -implicitDefEqProofs [ci_lt, ci_le]) <;> rfl)) ?_))
    · (try dsimp only); (first | exact AS.le_refl _ | assumption | (repeat (first | exact AS.le_refl _ | assumption | refine le_new (by simp [*]) ?_)))
    · (try dsimp only) <;> first | exact trivial | exact ⟨by omega, rfl⟩ | omega | (simp; done) | exact ⟨by omega, by simp⟩ | exact ⟨by omega, by simp, rfl⟩
    intro n hx_
    try dsimp only at hx_ ⊢
    obtain ⟨hn, hX⟩ := hx_
    simp only [List.cons_append, List.nil_append]
    have wi_n : IntKind.i64.wrap ((n : Int) + 1) = ((n + 1 : Nat) : Int) := ci_wi (by omega)
    obtain ⟨u, hu⟩ : ∃ u, i + n = u := ⟨_, rfl⟩
    obtain ⟨v, hv⟩ : ∃ v, k + n = v := ⟨_, rfl⟩
    rw [hu, hv] at hX
    have wi : IntKind.i64.wrap ((i : Int) + n) = (u : Int) := by rw [in_i64 (by omega) (by omega)]; omega
    have wk : IntKind.i64.wrap ((k : Int) + n) = (v : Int) := by rw [in_i64 (by omega) (by omega)]; omega
    by_cases hlt : u < a.length
    · have hlt2 : v < b.length := by omega
      rw [List.drop_eq_getElem_cons hlt, List.drop_eq_getElem_cons hlt2] at hX
      generalize hx : a[u] = x at *
      generalize hy : b[v] = y at *
      have hcons : ∀ (x : Pt) (l : List Pt), rgs (x :: l) = (x.k, x.p) :: rgs l := fun _ _ => rfl
      rw [hcons, hcons, List.cons.injEq, Prod.mk.injEq] at hX
      by_cases hc : x.k = y.k ∧ x.p = y.p
      · repeat (first
          | (with_reducible apply AWp.seq)
          | (with_reducible apply AWp.block)
          | ((with_reducible apply AWp.fork); simp -implicitDefEqProofs [wi, wk, hlt, hlt2, hx, hy, rgV, hc, ci_lt, ci_le, wi_n])
          | ((with_reducible apply AWp.region); simp -implicitDefEqProofs [wi, wk, hlt, hlt2, hx, hy, rgV, hc, ci_lt, ci_le, wi_n])
          | (with_reducible refine And.intro (by first | omega | assumption | decide) ?_)
          | ((with_reducible show condK _ _ _); simp -implicitDefEqProofs [wi, wk, hlt, hlt2, hx, hy, rgV, hc, ci_lt, ci_le, wi_n])
          | ((with_reducible show guardK _ _ _ _ _ _ _ _ _); simp -implicitDefEqProofs [wi, wk, hlt, hlt2, hx, hy, rgV, hc, ci_lt, ci_le, wi_n])
          | (((with_reducible apply AWp.drawS (id := 6) (t := (Sch.step 0 (Sch.step 1 (Sch.step 2 (Sch.step 3 (Sch.step 4 (Sch.step 6 (Sch.step 7 (Sch.step 8 (Sch.step 9 (Sch.step 10 (Sch.read 5 (Sch.read 11 (Sch.step 12 Sch.done))))))))))))))); (exact mixed); kernel_rfl; kernel_rfl; (repeat (with_reducible first | apply PanQ.then | apply PanQ.block | apply PanQ.body | apply PanQ.no))); simp -implicitDefEqProofs [wi, wk, hlt, hlt2, hx, hy, rgV, hc, ci_lt, ci_le, wi_n])
          | ((with_reducible apply AWp.ret); try simp -implicitDefEqProofs [wi, wk, hlt, hlt2, hx, hy, rgV, hc, ci_lt, ci_le, wi_n])
          | ((with_reducible apply AWp.skip); try simp -implicitDefEqProofs [wi, wk, hlt, hlt2, hx, hy, rgV, hc, ci_lt, ci_le, wi_n])
          | ((with_reducible apply AWp.exit); try simp -implicitDefEqProofs [wi, wk, hlt, hlt2, hx, hy, rgV, hc, ci_lt, ci_le, wi_n]))
        refine stepA.mk (n + 1) (by (try dsimp only); omega) (by (try dsimp only); (simp only [List.cons_append, List.nil_append]; repeat (first | exact FrWk.nil | refine FrWk.cons (by first | (simp -implicitDefEqProofs [ci_lt, ci_le, wi_n]; done) | exact Wk.of (by (try simp -implicitDefEqProofs [ci_lt, ci_le, wi_n]) <;> rfl)) ?_))) (by (try dsimp only); (first | exact AS.le_refl _ | assumption | (repeat (first | exact AS.le_refl _ | assumption | refine le_new (by simp [*]) ?_)))) ?_
        try dsimp only
        refine ⟨by omega, ?_⟩
        rw [show i + (n + 1) = u + 1 by omega, show k + (n + 1) = v + 1 by omega]
        exact hX.trans ⟨fun h => h.2, fun h => ⟨hc, h⟩⟩
      · have hcf : (decide (x.k = y.k) && decide (x.p = y.p)) = false := by simp; intro h1 h2; exact hc ⟨h1, h2⟩
        have hR : decide (rgs (a.drop i) = rgs (b.drop k)) = false := by
          simp only [decide_eq_false_iff_not]
          intro h; exact hc (hX.1 h).1
        rw [hR]
        repeat (first
          | (with_reducible apply AWp.seq)
          | (with_reducible apply AWp.block)
          | ((with_reducible apply AWp.fork); simp -implicitDefEqProofs [wi, wk, hlt, hlt2, hx, hy, rgV, hcf, ci_lt, ci_le, wi_n])
          | ((with_reducible apply AWp.region); simp -implicitDefEqProofs [wi, wk, hlt, hlt2, hx, hy, rgV, hcf, ci_lt, ci_le, wi_n])
          | (with_reducible refine And.intro (by first | omega | assumption | decide) ?_)
          | ((with_reducible show condK _ _ _); simp -implicitDefEqProofs [wi, wk, hlt, hlt2, hx, hy, rgV, hcf, ci_lt, ci_le, wi_n])
          | ((with_reducible show guardK _ _ _ _ _ _ _ _ _); simp -implicitDefEqProofs [wi, wk, hlt, hlt2, hx, hy, rgV, hcf, ci_lt, ci_le, wi_n])
          | (((with_reducible apply AWp.drawS (id := 6) (t := (Sch.step 0 (Sch.step 1 (Sch.step 2 (Sch.step 3 (Sch.step 4 (Sch.step 6 (Sch.step 7 (Sch.step 8 (Sch.step 9 (Sch.step 10 (Sch.read 5 (Sch.read 11 (Sch.step 12 Sch.done))))))))))))))); (exact mixed); kernel_rfl; kernel_rfl; (repeat (with_reducible first | apply PanQ.then | apply PanQ.block | apply PanQ.body | apply PanQ.no))); simp -implicitDefEqProofs [wi, wk, hlt, hlt2, hx, hy, rgV, hcf, ci_lt, ci_le, wi_n])
          | ((with_reducible apply AWp.ret); try simp -implicitDefEqProofs [wi, wk, hlt, hlt2, hx, hy, rgV, hcf, ci_lt, ci_le, wi_n])
          | ((with_reducible apply AWp.skip); try simp -implicitDefEqProofs [wi, wk, hlt, hlt2, hx, hy, rgV, hcf, ci_lt, ci_le, wi_n])
          | ((with_reducible apply AWp.exit); try simp -implicitDefEqProofs [wi, wk, hlt, hlt2, hx, hy, rgV, hcf, ci_lt, ci_le, wi_n]))
    · rw [List.drop_eq_nil_of_le (show a.length ≤ u by omega), List.drop_eq_nil_of_le (show b.length ≤ v by omega)] at hX
      have hR : decide (rgs (a.drop i) = rgs (b.drop k)) = true := by simp only [decide_eq_true_eq]; exact hX.2 rfl
      rw [hR]
      repeat (first
        | (with_reducible apply AWp.seq)
        | (with_reducible apply AWp.block)
        | ((with_reducible apply AWp.fork); simp -implicitDefEqProofs [wi, hlt, ci_lt, ci_le, wi_n])
        | ((with_reducible apply AWp.region); simp -implicitDefEqProofs [wi, hlt, ci_lt, ci_le, wi_n])
        | (with_reducible refine And.intro (by first | omega | assumption | decide) ?_)
        | ((with_reducible show condK _ _ _); simp -implicitDefEqProofs [wi, hlt, ci_lt, ci_le, wi_n])
        | ((with_reducible show guardK _ _ _ _ _ _ _ _ _); simp -implicitDefEqProofs [wi, hlt, ci_lt, ci_le, wi_n])
        | (((with_reducible apply AWp.drawS (id := 6) (t := (Sch.step 0 (Sch.step 1 (Sch.step 2 (Sch.step 3 (Sch.step 4 (Sch.step 6 (Sch.step 7 (Sch.step 8 (Sch.step 9 (Sch.step 10 (Sch.read 5 (Sch.read 11 (Sch.step 12 Sch.done))))))))))))))); (exact mixed); kernel_rfl; kernel_rfl; (repeat (with_reducible first | apply PanQ.then | apply PanQ.block | apply PanQ.body | apply PanQ.no))); simp -implicitDefEqProofs [wi, hlt, ci_lt, ci_le, wi_n])
        | ((with_reducible apply AWp.ret); try simp -implicitDefEqProofs [wi, hlt, ci_lt, ci_le, wi_n])
        | ((with_reducible apply AWp.skip); try simp -implicitDefEqProofs [wi, hlt, ci_lt, ci_le, wi_n])
        | ((with_reducible apply AWp.exit); try simp -implicitDefEqProofs [wi, hlt, ci_lt, ci_le, wi_n]))
  · have hlen' : (((a.length - i : Nat) : Int) = ((b.length - k : Nat) : Int)) = False := by simp only [eq_iff_iff, iff_false]; omega
    have hR : decide (rgs (a.drop i) = rgs (b.drop k)) = false := by
      simp only [decide_eq_false_iff_not]
      intro h; apply hlen; have := congrArg List.length h; simpa [rgs] using this
    rw [hR]
    repeat (first
      | (with_reducible apply AWp.seq)
      | (with_reducible apply AWp.block)
      | ((with_reducible apply AWp.fork); simp -implicitDefEqProofs [w1, w2, hlen', ci_lt, ci_le])
      | ((with_reducible apply AWp.region); simp -implicitDefEqProofs [w1, w2, hlen', ci_lt, ci_le])
      | (with_reducible refine And.intro (by first | omega | assumption | decide) ?_)
      | ((with_reducible show condK _ _ _); simp -implicitDefEqProofs [w1, w2, hlen', ci_lt, ci_le])
      | ((with_reducible show guardK _ _ _ _ _ _ _ _ _); simp -implicitDefEqProofs [w1, w2, hlen', ci_lt, ci_le])
      | (((with_reducible apply AWp.drawS (id := 6) (t := (Sch.step 0 (Sch.step 1 (Sch.step 2 (Sch.step 3 (Sch.step 4 (Sch.step 6 (Sch.step 7 (Sch.step 8 (Sch.step 9 (Sch.step 10 (Sch.read 5 (Sch.read 11 (Sch.step 12 Sch.done))))))))))))))); (exact mixed); kernel_rfl; kernel_rfl; (repeat (with_reducible first | apply PanQ.then | apply PanQ.block | apply PanQ.body | apply PanQ.no))); simp -implicitDefEqProofs [w1, w2, hlen', ci_lt, ci_le])
      | ((with_reducible apply AWp.ret); try simp -implicitDefEqProofs [w1, w2, hlen', ci_lt, ci_le])
      | ((with_reducible apply AWp.skip); try simp -implicitDefEqProofs [w1, w2, hlen', ci_lt, ci_le])
      | ((with_reducible apply AWp.exit); try simp -implicitDefEqProofs [w1, w2, hlen', ci_lt, ci_le]))

theorem rSame_ok (a b : List Pt) (o1 o2 : Own) (n1 n2 : Bool) (ha : a.length ≤ 1000) (hb : b.length ≤ 1000) (σ : AS) :
    ACalls Try.prog 19 [.lst 47 (a.map rgV) o1 n1, .lst 47 (b.map rgV) o2 n2] σ (Gives (.sc (.bool (decide (rgs a = rgs b)))) σ) No := by
  have hs := rsame_ok a b 0 0 o1 o2 n1 n2 ha hb (by omega) (by omega) σ
  simp only [List.drop_zero] at hs
  rw [show ((0 : Nat) : Int) = 0 from rfl] at hs
  refine ACalls.of_body Try.func19 rfl rfl (by simp [Try.ntmps19]) ?_
  repeat (first
    | (with_reducible apply AWp.seq)
    | (with_reducible apply AWp.block)
    | ((with_reducible apply AWp.fork); simp -implicitDefEqProofs)
    | ((with_reducible apply AWp.region); simp -implicitDefEqProofs)
    | (with_reducible refine And.intro (by first | omega | assumption | decide) ?_)
    | ((with_reducible apply aCall.id); first
        | ((apply aCall.gives (hs)); simp -implicitDefEqProofs))
    | ((with_reducible apply AWp.ret); try simp -implicitDefEqProofs)
    | ((with_reducible apply AWp.skip); try simp -implicitDefEqProofs)
    | ((with_reducible apply AWp.exit); try simp -implicitDefEqProofs))

theorem opens_ok (l : List Cl) (o : Own) (nl : Bool) (y : Pt) (i : Nat) (c : Cl) (hc : l[i]? = some c) (hk : y.k = i) (hp : y.p = 1 → y.s.f = c.tf) (x : Int) (hl : l.length ≤ 1000) (σ : AS) :
    ACalls Try.prog 83 [clsV l o nl, rgV y, .sc (.int .i64 x)] σ (Gives (.sc (.bool (decide (y.p = 1 ∧ y.s.f = x)))) σ) No := by
  obtain ⟨hi, hc⟩ := List.getElem?_eq_some_iff.1 hc
  simp only [clsV, rgV, hk]
  refine ACalls.of_body Try.func83 rfl rfl (by simp [Try.ntmps83]) ?_
  by_cases h1 : y.p = 1
  · rw [hp h1]
    repeat (first
      | (with_reducible apply AWp.seq)
      | (with_reducible apply AWp.block)
      | ((with_reducible apply AWp.fork); simp -implicitDefEqProofs [h1, ci_lt, ci_le])
      | ((with_reducible apply AWp.region); simp -implicitDefEqProofs [h1, ci_lt, ci_le])
      | (with_reducible refine And.intro (by first | omega | assumption | decide) ?_)
      | ((with_reducible show condK _ _ _); simp -implicitDefEqProofs [h1, ci_lt, ci_le])
      | ((with_reducible show guardK _ _ _ _ _ _ _ _ _); simp -implicitDefEqProofs [h1, ci_lt, ci_le])
      | ((with_reducible apply AWp.ret); try simp -implicitDefEqProofs [h1, ci_lt, ci_le])
      | ((with_reducible apply AWp.skip); try simp -implicitDefEqProofs [h1, ci_lt, ci_le])
      | ((with_reducible apply AWp.exit); try simp -implicitDefEqProofs [h1, ci_lt, ci_le]))
    intro id h_id
    repeat (first
      | (with_reducible apply AWp.seq)
      | (with_reducible apply AWp.block)
      | ((with_reducible apply AWp.fork); simp -implicitDefEqProofs [h1, hi, hc, clV_def, ci_lt, ci_le])
      | ((with_reducible apply AWp.region); simp -implicitDefEqProofs [h1, hi, hc, clV_def, ci_lt, ci_le])
      | (with_reducible refine And.intro (by first | omega | assumption | decide) ?_)
      | ((with_reducible show condK _ _ _); simp -implicitDefEqProofs [h1, hi, hc, clV_def, ci_lt, ci_le])
      | ((with_reducible show guardK _ _ _ _ _ _ _ _ _); simp -implicitDefEqProofs [h1, hi, hc, clV_def, ci_lt, ci_le])
      | ((with_reducible apply AWp.ret); try simp -implicitDefEqProofs [h1, hi, hc, clV_def, ci_lt, ci_le])
      | ((with_reducible apply AWp.skip); try simp -implicitDefEqProofs [h1, hi, hc, clV_def, ci_lt, ci_le])
      | ((with_reducible apply AWp.exit); try simp -implicitDefEqProofs [h1, hi, hc, clV_def, ci_lt, ci_le]))
    all_goals (repeat' (with_reducible apply And.intro))
    all_goals first
      | exact AS.le_refl _
      | ((repeat (first | exact AS.le_refl _ | assumption | refine le_new (by simp [*]) ?_)); done)
      | (refine wk_eq ?_; simp_all [skipV]; done)
      | (refine wk_b ?_; rw [Bool.eq_iff_iff]; simp [*]; omega)
      | (refine wk_eq ?_; simp [*]; omega)
      | (refine wk_eq ?_; split <;> simp_all [skipV]; done)
      | (exfalso; omega)
  · repeat (first
      | (with_reducible apply AWp.seq)
      | (with_reducible apply AWp.block)
      | ((with_reducible apply AWp.fork); simp -implicitDefEqProofs [h1, ci_lt, ci_le])
      | ((with_reducible apply AWp.region); simp -implicitDefEqProofs [h1, ci_lt, ci_le])
      | (with_reducible refine And.intro (by first | omega | assumption | decide) ?_)
      | ((with_reducible show condK _ _ _); simp -implicitDefEqProofs [h1, ci_lt, ci_le])
      | ((with_reducible show guardK _ _ _ _ _ _ _ _ _); simp -implicitDefEqProofs [h1, ci_lt, ci_le])
      | ((with_reducible apply AWp.ret); try simp -implicitDefEqProofs [h1, ci_lt, ci_le])
      | ((with_reducible apply AWp.skip); try simp -implicitDefEqProofs [h1, ci_lt, ci_le])
      | ((with_reducible apply AWp.exit); try simp -implicitDefEqProofs [h1, ci_lt, ci_le]))
    intro id h_id
    repeat (first
      | (with_reducible apply AWp.seq)
      | (with_reducible apply AWp.block)
      | ((with_reducible apply AWp.fork); simp -implicitDefEqProofs [h1, ci_lt, ci_le])
      | ((with_reducible apply AWp.region); simp -implicitDefEqProofs [h1, ci_lt, ci_le])
      | (with_reducible refine And.intro (by first | omega | assumption | decide) ?_)
      | ((with_reducible show condK _ _ _); simp -implicitDefEqProofs [h1, ci_lt, ci_le])
      | ((with_reducible show guardK _ _ _ _ _ _ _ _ _); simp -implicitDefEqProofs [h1, ci_lt, ci_le])
      | ((with_reducible apply AWp.ret); try simp -implicitDefEqProofs [h1, ci_lt, ci_le])
      | ((with_reducible apply AWp.skip); try simp -implicitDefEqProofs [h1, ci_lt, ci_le])
      | ((with_reducible apply AWp.exit); try simp -implicitDefEqProofs [h1, ci_lt, ci_le]))
    all_goals (repeat' (with_reducible apply And.intro))
    all_goals first
      | exact AS.le_refl _
      | ((repeat (first | exact AS.le_refl _ | assumption | refine le_new (by simp [*]) ?_)); done)
      | (refine wk_eq ?_; simp_all [skipV]; done)
      | (refine wk_b ?_; rw [Bool.eq_iff_iff]; simp [*]; omega)
      | (refine wk_eq ?_; simp [*]; omega)
      | (refine wk_eq ?_; split <;> simp_all [skipV]; done)
      | (exfalso; omega)

theorem rtries_ok (l : List Cl) (o : Own) (nl : Bool) (x : Int) (hl : l.length ≤ 1000) (σ : AS) :
    ACalls Try.prog 23 [clsV l o nl, .sc (.int .i64 x)] σ (Gives (intsV (someS (fun c => triedS c x) 0 l)) σ) No := by
  have hi := fun c σ => in_ok c 1 x σ
  have hbt : ∀ c : Cl, hasS (bnd c 1) x = triedS c x := fun c => rfl
  simp only [clsV, clV_def, intsV, hbt] at hi ⊢
  refine ACalls.of_body Try.func23 rfl rfl (by simp [Try.ntmps23]) ?_
  repeat (first
    | (with_reducible apply AWp.seq)
    | (with_reducible apply AWp.block)
    | ((with_reducible apply AWp.fork); simp -implicitDefEqProofs [ci_lt, ci_le])
    | ((with_reducible apply AWp.region); simp -implicitDefEqProofs [ci_lt, ci_le])
    | (with_reducible refine And.intro (by first | omega | assumption | decide) ?_)
    | ((with_reducible show condK _ _ _); simp -implicitDefEqProofs [ci_lt, ci_le])
    | ((with_reducible show guardK _ _ _ _ _ _ _ _ _); simp -implicitDefEqProofs [ci_lt, ci_le])
    | ((with_reducible apply AWp.ret); try simp -implicitDefEqProofs [ci_lt, ci_le])
    | ((with_reducible apply AWp.skip); try simp -implicitDefEqProofs [ci_lt, ci_le])
    | ((with_reducible apply AWp.exit); try simp -implicitDefEqProofs [ci_lt, ci_le]))
  refine AWp.mint 5 3 [] true (by simp [Try.ntmps23]) (.inr ⟨by simp, rfl, rfl⟩) ?_
  simp -implicitDefEqProofs [ci_lt, ci_le]
  intro tk htk
  repeat (first
    | (with_reducible apply AWp.seq)
    | (with_reducible apply AWp.block)
    | ((with_reducible apply AWp.fork); simp -implicitDefEqProofs [ci_lt, ci_le])
    | ((with_reducible apply AWp.region); simp -implicitDefEqProofs [ci_lt, ci_le])
    | (with_reducible refine And.intro (by first | omega | assumption | decide) ?_)
    | ((with_reducible show condK _ _ _); simp -implicitDefEqProofs [ci_lt, ci_le])
    | ((with_reducible show guardK _ _ _ _ _ _ _ _ _); simp -implicitDefEqProofs [ci_lt, ci_le])
    | ((with_reducible apply AWp.ret); try simp -implicitDefEqProofs [ci_lt, ci_le])
    | ((with_reducible apply AWp.skip); try simp -implicitDefEqProofs [ci_lt, ci_le])
    | ((with_reducible apply AWp.exit); try simp -implicitDefEqProofs [ci_lt, ci_le]))
  refine AWp.loopA (α := (Nat) × (List Int)) ((0, [])) (fun ⟨i, d⟩ => l.length - i) (fun ⟨i, d⟩ => i ≤ l.length ∧ d.length ≤ i ∧ d ++ someS (fun c => triedS c x) i (l.drop i) = someS (fun c => triedS c x) 0 l) [(0, ?_), (1, ?_), (4, ?_)] (fun ⟨i, d⟩ => [(6, .sc (.int .i64 i)), (5, .lst 3 (d.map i64v) (.tok tk) (decide (d = [])))]) (fun ⟨i, d⟩ => σ.set tk (.tok d.length)) ?_ ?_ ?_ ?_
  rotate_left 3
  · (try dsimp only); (simp only [List.cons_append, List.nil_append]; repeat (first | exact FrWk.nil | refine FrWk.cons (by first | (simp -implicitDefEqProofs [ci_lt, ci_le]; done) | exact Wk.of (by (try simp -implicitDefEqProofs [ci_lt, ci_le]) <;> rfl)) ?_))
  · (try dsimp only); (first | exact AS.le_refl _ | assumption | (repeat (first | exact AS.le_refl _ | assumption | refine le_new (by simp [*]) ?_)))
  · exact ⟨by omega, by simp, rfl⟩
  intro x_ hx_
  obtain ⟨i, d⟩ := x_
  try dsimp only at hx_ ⊢
  obtain ⟨hi', hd, hX⟩ := hx_
  simp only [List.cons_append, List.nil_append]
  by_cases hlt : i < l.length
  · have wi_i : IntKind.i64.wrap ((i : Int) + 1) = ((i + 1 : Nat) : Int) := ci_wi (by omega)
    rw [List.drop_eq_getElem_cons hlt] at hX
    simp only [someS] at hX
    generalize hx : l[i] = c at *
    have hic := hi c
    have hd1 : d.length ≤ 1000 := by omega
    cases hg : triedS c x with
    | true =>
      rw [hg] at hic
      simp [hg] at hX
      repeat (first
        | (with_reducible apply AWp.seq)
        | (with_reducible apply AWp.block)
        | ((with_reducible apply AWp.fork); simp -implicitDefEqProofs [hlt, hx, clV_def, hd1, ci_lt, ci_le, wi_i])
        | ((with_reducible apply AWp.region); simp -implicitDefEqProofs [hlt, hx, clV_def, hd1, ci_lt, ci_le, wi_i])
        | (with_reducible refine And.intro (by first | omega | assumption | decide) ?_)
        | ((with_reducible show condK _ _ _); simp -implicitDefEqProofs [hlt, hx, clV_def, hd1, ci_lt, ci_le, wi_i])
        | ((with_reducible show guardK _ _ _ _ _ _ _ _ _); simp -implicitDefEqProofs [hlt, hx, clV_def, hd1, ci_lt, ci_le, wi_i])
        | ((with_reducible apply aCall.id); first
            | ((apply aCall.gives (hic _)); simp -implicitDefEqProofs [hlt, hx, clV_def, hd1, ci_lt, ci_le, wi_i]))
        | ((with_reducible apply AWp.ret); try simp -implicitDefEqProofs [hlt, hx, clV_def, hd1, ci_lt, ci_le, wi_i])
        | ((with_reducible apply AWp.skip); try simp -implicitDefEqProofs [hlt, hx, clV_def, hd1, ci_lt, ci_le, wi_i])
        | ((with_reducible apply AWp.exit); try simp -implicitDefEqProofs [hlt, hx, clV_def, hd1, ci_lt, ci_le, wi_i]))
      refine stepA.mk ((i + 1, d ++ [(i : Int)])) (by (try dsimp only); omega) (by (try dsimp only); (simp only [List.cons_append, List.nil_append]; repeat (first | exact FrWk.nil | refine FrWk.cons (by first | (simp -implicitDefEqProofs [i64v_def, ci_lt, ci_le, wi_i]; done) | exact Wk.of (by (try simp -implicitDefEqProofs [i64v_def, ci_lt, ci_le, wi_i]) <;> rfl)) ?_))) (by (try dsimp only); simp) ?_
      try dsimp only
      exact ⟨by omega, by simp; omega, by simpa using hX⟩
    | false =>
      rw [hg] at hic
      simp [hg] at hX
      repeat (first
        | (with_reducible apply AWp.seq)
        | (with_reducible apply AWp.block)
        | ((with_reducible apply AWp.fork); simp -implicitDefEqProofs [hlt, hx, clV_def, hd1, ci_lt, ci_le, wi_i])
        | ((with_reducible apply AWp.region); simp -implicitDefEqProofs [hlt, hx, clV_def, hd1, ci_lt, ci_le, wi_i])
        | (with_reducible refine And.intro (by first | omega | assumption | decide) ?_)
        | ((with_reducible show condK _ _ _); simp -implicitDefEqProofs [hlt, hx, clV_def, hd1, ci_lt, ci_le, wi_i])
        | ((with_reducible show guardK _ _ _ _ _ _ _ _ _); simp -implicitDefEqProofs [hlt, hx, clV_def, hd1, ci_lt, ci_le, wi_i])
        | ((with_reducible apply aCall.id); first
            | ((apply aCall.gives (hic _)); simp -implicitDefEqProofs [hlt, hx, clV_def, hd1, ci_lt, ci_le, wi_i]))
        | ((with_reducible apply AWp.ret); try simp -implicitDefEqProofs [hlt, hx, clV_def, hd1, ci_lt, ci_le, wi_i])
        | ((with_reducible apply AWp.skip); try simp -implicitDefEqProofs [hlt, hx, clV_def, hd1, ci_lt, ci_le, wi_i])
        | ((with_reducible apply AWp.exit); try simp -implicitDefEqProofs [hlt, hx, clV_def, hd1, ci_lt, ci_le, wi_i]))
      refine stepA.mk ((i + 1, d)) (by (try dsimp only); omega) (by (try dsimp only); (simp only [List.cons_append, List.nil_append]; repeat (first | exact FrWk.nil | refine FrWk.cons (by first | (simp -implicitDefEqProofs [ci_lt, ci_le, wi_i]; done) | exact Wk.of (by (try simp -implicitDefEqProofs [ci_lt, ci_le, wi_i]) <;> rfl)) ?_))) (by (try dsimp only); (first | exact AS.le_refl _ | assumption | (repeat (first | exact AS.le_refl _ | assumption | refine le_new (by simp [*]) ?_)))) ?_
      try dsimp only
      exact ⟨by omega, by omega, by simpa using hX⟩
  · rw [List.drop_eq_nil_of_le (by omega)] at hX
    simp only [someS, List.append_nil] at hX
    subst hX
    repeat (first
      | (with_reducible apply AWp.seq)
      | (with_reducible apply AWp.block)
      | ((with_reducible apply AWp.fork); simp -implicitDefEqProofs [hlt, ci_lt, ci_le])
      | ((with_reducible apply AWp.region); simp -implicitDefEqProofs [hlt, ci_lt, ci_le])
      | (with_reducible refine And.intro (by first | omega | assumption | decide) ?_)
      | ((with_reducible show condK _ _ _); simp -implicitDefEqProofs [hlt, ci_lt, ci_le])
      | ((with_reducible show guardK _ _ _ _ _ _ _ _ _); simp -implicitDefEqProofs [hlt, ci_lt, ci_le])
      | ((with_reducible apply AWp.ret); try simp -implicitDefEqProofs [hlt, ci_lt, ci_le])
      | ((with_reducible apply AWp.skip); try simp -implicitDefEqProofs [hlt, ci_lt, ci_le])
      | ((with_reducible apply AWp.exit); try simp -implicitDefEqProofs [hlt, ci_lt, ci_le]))
    exact le_new htk (AS.le_refl _)

theorem rfinals_ok (l : List Cl) (o : Own) (nl : Bool) (x y : Int) (hl : l.length ≤ 1000) (σ : AS) :
    ACalls Try.prog 30 [clsV l o nl, .sc (.int .i64 x), .sc (.int .i64 y)] σ (Gives (intsV (someS (fun c => finalS c x y) 0 l)) σ) No := by
  have hi := fun c σ => in_ok c 1 x σ
  have hj := fun c σ => in_ok c 1 y σ
  have hbt : ∀ (c : Cl) (x : Int), hasS (bnd c 1) x = triedS c x := fun c x => rfl
  have hfs : ∀ c : Cl, finalS c x y = (decide (c.k = 3) && (triedS c x && !triedS c y)) := fun _ => rfl
  simp only [clsV, clV_def, intsV, hbt] at hi hj ⊢
  refine ACalls.of_body Try.func30 rfl rfl (by simp [Try.ntmps30]) ?_
  repeat (first
    | (with_reducible apply AWp.seq)
    | (with_reducible apply AWp.block)
    | ((with_reducible apply AWp.fork); simp -implicitDefEqProofs [ci_lt, ci_le])
    | ((with_reducible apply AWp.region); simp -implicitDefEqProofs [ci_lt, ci_le])
    | (with_reducible refine And.intro (by first | omega | assumption | decide) ?_)
    | ((with_reducible show condK _ _ _); simp -implicitDefEqProofs [ci_lt, ci_le])
    | ((with_reducible show guardK _ _ _ _ _ _ _ _ _); simp -implicitDefEqProofs [ci_lt, ci_le])
    | ((with_reducible apply AWp.ret); try simp -implicitDefEqProofs [ci_lt, ci_le])
    | ((with_reducible apply AWp.skip); try simp -implicitDefEqProofs [ci_lt, ci_le])
    | ((with_reducible apply AWp.exit); try simp -implicitDefEqProofs [ci_lt, ci_le]))
  refine AWp.mint 7 3 [] true (by simp [Try.ntmps30]) (.inr ⟨by simp, rfl, rfl⟩) ?_
  simp -implicitDefEqProofs [ci_lt, ci_le]
  intro tk htk
  repeat (first
    | (with_reducible apply AWp.seq)
    | (with_reducible apply AWp.block)
    | ((with_reducible apply AWp.fork); simp -implicitDefEqProofs [ci_lt, ci_le])
    | ((with_reducible apply AWp.region); simp -implicitDefEqProofs [ci_lt, ci_le])
    | (with_reducible refine And.intro (by first | omega | assumption | decide) ?_)
    | ((with_reducible show condK _ _ _); simp -implicitDefEqProofs [ci_lt, ci_le])
    | ((with_reducible show guardK _ _ _ _ _ _ _ _ _); simp -implicitDefEqProofs [ci_lt, ci_le])
    | ((with_reducible apply AWp.ret); try simp -implicitDefEqProofs [ci_lt, ci_le])
    | ((with_reducible apply AWp.skip); try simp -implicitDefEqProofs [ci_lt, ci_le])
    | ((with_reducible apply AWp.exit); try simp -implicitDefEqProofs [ci_lt, ci_le]))
  refine AWp.loopA (α := (Nat) × (List Int)) ((0, [])) (fun ⟨i, d⟩ => l.length - i) (fun ⟨i, d⟩ => i ≤ l.length ∧ d.length ≤ i ∧ d ++ someS (fun c => finalS c x y) i (l.drop i) = someS (fun c => finalS c x y) 0 l) [(0, ?_), (1, ?_), (2, ?_), (6, ?_)] (fun ⟨i, d⟩ => [(8, .sc (.int .i64 i)), (7, .lst 3 (d.map i64v) (.tok tk) (decide (d = [])))]) (fun ⟨i, d⟩ => σ.set tk (.tok d.length)) ?_ ?_ ?_ ?_
  rotate_left 4
  · (try dsimp only); (simp only [List.cons_append, List.nil_append]; repeat (first | exact FrWk.nil | refine FrWk.cons (by first | (simp -implicitDefEqProofs [ci_lt, ci_le]; done) | exact Wk.of (by (try simp -implicitDefEqProofs [ci_lt, ci_le]) <;> rfl)) ?_))
  · (try dsimp only); (first | exact AS.le_refl _ | assumption | (repeat (first | exact AS.le_refl _ | assumption | refine le_new (by simp [*]) ?_)))
  · exact ⟨by omega, by simp, rfl⟩
  intro x_ hx_
  obtain ⟨i, d⟩ := x_
  try dsimp only at hx_ ⊢
  obtain ⟨hi', hd, hX⟩ := hx_
  simp only [List.cons_append, List.nil_append]
  by_cases hlt : i < l.length
  · have wi_i : IntKind.i64.wrap ((i : Int) + 1) = ((i + 1 : Nat) : Int) := ci_wi (by omega)
    rw [List.drop_eq_getElem_cons hlt] at hX
    simp only [someS] at hX
    generalize hx : l[i] = c at *
    have hic := hi c
    have hjc := hj c
    have hfc := hfs c
    have hd1 : d.length ≤ 1000 := by omega
    cases hg : finalS c x y with
    | true =>
      rw [hg] at hfc
      simp [hg] at hX
      have hfc' := hfc.symm
      simp at hfc'
      obtain ⟨f1, f2, f3⟩ := hfc'
      replace f1 := eq_true f1
      rw [f2] at hic
      rw [f3] at hjc
      repeat (first
        | (with_reducible apply AWp.seq)
        | (with_reducible apply AWp.block)
        | ((with_reducible apply AWp.fork); simp -implicitDefEqProofs [hlt, hx, clV_def, hd1, f1, ci_lt, ci_le, wi_i])
        | ((with_reducible apply AWp.region); simp -implicitDefEqProofs [hlt, hx, clV_def, hd1, f1, ci_lt, ci_le, wi_i])
        | (with_reducible refine And.intro (by first | omega | assumption | decide) ?_)
        | ((with_reducible show condK _ _ _); simp -implicitDefEqProofs [hlt, hx, clV_def, hd1, f1, ci_lt, ci_le, wi_i])
        | ((with_reducible show guardK _ _ _ _ _ _ _ _ _); simp -implicitDefEqProofs [hlt, hx, clV_def, hd1, f1, ci_lt, ci_le, wi_i])
        | ((with_reducible apply aCall.id); first
            | ((apply aCall.gives (hic _)); simp -implicitDefEqProofs [hlt, hx, clV_def, hd1, f1, ci_lt, ci_le, wi_i])
            | ((apply aCall.gives (hjc _)); simp -implicitDefEqProofs [hlt, hx, clV_def, hd1, f1, ci_lt, ci_le, wi_i]))
        | ((with_reducible apply AWp.ret); try simp -implicitDefEqProofs [hlt, hx, clV_def, hd1, f1, ci_lt, ci_le, wi_i])
        | ((with_reducible apply AWp.skip); try simp -implicitDefEqProofs [hlt, hx, clV_def, hd1, f1, ci_lt, ci_le, wi_i])
        | ((with_reducible apply AWp.exit); try simp -implicitDefEqProofs [hlt, hx, clV_def, hd1, f1, ci_lt, ci_le, wi_i]))
      refine stepA.mk ((i + 1, d ++ [(i : Int)])) (by (try dsimp only); omega) (by (try dsimp only); (simp only [List.cons_append, List.nil_append]; repeat (first | exact FrWk.nil | refine FrWk.cons (by first | (simp -implicitDefEqProofs [i64v_def, ci_lt, ci_le, wi_i]; done) | exact Wk.of (by (try simp -implicitDefEqProofs [i64v_def, ci_lt, ci_le, wi_i]) <;> rfl)) ?_))) (by (try dsimp only); simp) ?_
      try dsimp only
      exact ⟨by omega, by simp; omega, by simpa using hX⟩
    | false =>
      rw [hg] at hfc
      simp [hg] at hX
      generalize triedS c x = g at hic hfc
      generalize triedS c y = g' at hjc hfc
      have hn : i + 1 ≤ l.length ∧ d.length ≤ i + 1 ∧ d ++ someS (fun c => finalS c x y) (i + 1) (l.drop (i + 1)) = someS (fun c => finalS c x y) 0 l := ⟨by omega, by omega, by simpa using hX⟩
      by_cases f1 : c.k = 3
      · have f1' := eq_true f1
        cases g
        · repeat (first
            | (with_reducible apply AWp.seq)
            | (with_reducible apply AWp.block)
            | ((with_reducible apply AWp.fork); simp -implicitDefEqProofs [hlt, hx, clV_def, hd1, f1', ci_lt, ci_le, wi_i])
            | ((with_reducible apply AWp.region); simp -implicitDefEqProofs [hlt, hx, clV_def, hd1, f1', ci_lt, ci_le, wi_i])
            | (with_reducible refine And.intro (by first | omega | assumption | decide) ?_)
            | ((with_reducible show condK _ _ _); simp -implicitDefEqProofs [hlt, hx, clV_def, hd1, f1', ci_lt, ci_le, wi_i])
            | ((with_reducible show guardK _ _ _ _ _ _ _ _ _); simp -implicitDefEqProofs [hlt, hx, clV_def, hd1, f1', ci_lt, ci_le, wi_i])
            | ((with_reducible apply aCall.id); first
                | ((apply aCall.gives (hic _)); simp -implicitDefEqProofs [hlt, hx, clV_def, hd1, f1', ci_lt, ci_le, wi_i])
                | ((apply aCall.gives (hjc _)); simp -implicitDefEqProofs [hlt, hx, clV_def, hd1, f1', ci_lt, ci_le, wi_i]))
            | ((with_reducible apply AWp.ret); try simp -implicitDefEqProofs [hlt, hx, clV_def, hd1, f1', ci_lt, ci_le, wi_i])
            | ((with_reducible apply AWp.skip); try simp -implicitDefEqProofs [hlt, hx, clV_def, hd1, f1', ci_lt, ci_le, wi_i])
            | ((with_reducible apply AWp.exit); try simp -implicitDefEqProofs [hlt, hx, clV_def, hd1, f1', ci_lt, ci_le, wi_i]))
          refine stepA.mk ((i + 1, d)) (by (try dsimp only); omega) (by (try dsimp only); (simp only [List.cons_append, List.nil_append]; repeat (first | exact FrWk.nil | refine FrWk.cons (by first | (simp -implicitDefEqProofs [ci_lt, ci_le, wi_i]; done) | exact Wk.of (by (try simp -implicitDefEqProofs [ci_lt, ci_le, wi_i]) <;> rfl)) ?_))) (by (try dsimp only); (first | exact AS.le_refl _ | assumption | (repeat (first | exact AS.le_refl _ | assumption | refine le_new (by simp [*]) ?_)))) ?_
          try dsimp only
          exact hn
        · cases g'
          · simp [f1] at hfc
          · repeat (first
              | (with_reducible apply AWp.seq)
              | (with_reducible apply AWp.block)
              | ((with_reducible apply AWp.fork); simp -implicitDefEqProofs [hlt, hx, clV_def, hd1, f1', ci_lt, ci_le, wi_i])
              | ((with_reducible apply AWp.region); simp -implicitDefEqProofs [hlt, hx, clV_def, hd1, f1', ci_lt, ci_le, wi_i])
              | (with_reducible refine And.intro (by first | omega | assumption | decide) ?_)
              | ((with_reducible show condK _ _ _); simp -implicitDefEqProofs [hlt, hx, clV_def, hd1, f1', ci_lt, ci_le, wi_i])
              | ((with_reducible show guardK _ _ _ _ _ _ _ _ _); simp -implicitDefEqProofs [hlt, hx, clV_def, hd1, f1', ci_lt, ci_le, wi_i])
              | ((with_reducible apply aCall.id); first
                  | ((apply aCall.gives (hic _)); simp -implicitDefEqProofs [hlt, hx, clV_def, hd1, f1', ci_lt, ci_le, wi_i])
                  | ((apply aCall.gives (hjc _)); simp -implicitDefEqProofs [hlt, hx, clV_def, hd1, f1', ci_lt, ci_le, wi_i]))
              | ((with_reducible apply AWp.ret); try simp -implicitDefEqProofs [hlt, hx, clV_def, hd1, f1', ci_lt, ci_le, wi_i])
              | ((with_reducible apply AWp.skip); try simp -implicitDefEqProofs [hlt, hx, clV_def, hd1, f1', ci_lt, ci_le, wi_i])
              | ((with_reducible apply AWp.exit); try simp -implicitDefEqProofs [hlt, hx, clV_def, hd1, f1', ci_lt, ci_le, wi_i]))
            refine stepA.mk ((i + 1, d)) (by (try dsimp only); omega) (by (try dsimp only); (simp only [List.cons_append, List.nil_append]; repeat (first | exact FrWk.nil | refine FrWk.cons (by first | (simp -implicitDefEqProofs [ci_lt, ci_le, wi_i]; done) | exact Wk.of (by (try simp -implicitDefEqProofs [ci_lt, ci_le, wi_i]) <;> rfl)) ?_))) (by (try dsimp only); (first | exact AS.le_refl _ | assumption | (repeat (first | exact AS.le_refl _ | assumption | refine le_new (by simp [*]) ?_)))) ?_
            try dsimp only
            exact hn
      · repeat (first
          | (with_reducible apply AWp.seq)
          | (with_reducible apply AWp.block)
          | ((with_reducible apply AWp.fork); simp -implicitDefEqProofs [hlt, hx, clV_def, hd1, f1, ci_lt, ci_le, wi_i])
          | ((with_reducible apply AWp.region); simp -implicitDefEqProofs [hlt, hx, clV_def, hd1, f1, ci_lt, ci_le, wi_i])
          | (with_reducible refine And.intro (by first | omega | assumption | decide) ?_)
          | ((with_reducible show condK _ _ _); simp -implicitDefEqProofs [hlt, hx, clV_def, hd1, f1, ci_lt, ci_le, wi_i])
          | ((with_reducible show guardK _ _ _ _ _ _ _ _ _); simp -implicitDefEqProofs [hlt, hx, clV_def, hd1, f1, ci_lt, ci_le, wi_i])
          | ((with_reducible apply aCall.id); first
              | ((apply aCall.gives (hic _)); simp -implicitDefEqProofs [hlt, hx, clV_def, hd1, f1, ci_lt, ci_le, wi_i])
              | ((apply aCall.gives (hjc _)); simp -implicitDefEqProofs [hlt, hx, clV_def, hd1, f1, ci_lt, ci_le, wi_i]))
          | ((with_reducible apply AWp.ret); try simp -implicitDefEqProofs [hlt, hx, clV_def, hd1, f1, ci_lt, ci_le, wi_i])
          | ((with_reducible apply AWp.skip); try simp -implicitDefEqProofs [hlt, hx, clV_def, hd1, f1, ci_lt, ci_le, wi_i])
          | ((with_reducible apply AWp.exit); try simp -implicitDefEqProofs [hlt, hx, clV_def, hd1, f1, ci_lt, ci_le, wi_i]))
        refine stepA.mk ((i + 1, d)) (by (try dsimp only); omega) (by (try dsimp only); (simp only [List.cons_append, List.nil_append]; repeat (first | exact FrWk.nil | refine FrWk.cons (by first | (simp -implicitDefEqProofs [ci_lt, ci_le, wi_i]; done) | exact Wk.of (by (try simp -implicitDefEqProofs [ci_lt, ci_le, wi_i]) <;> rfl)) ?_))) (by (try dsimp only); (first | exact AS.le_refl _ | assumption | (repeat (first | exact AS.le_refl _ | assumption | refine le_new (by simp [*]) ?_)))) ?_
        try dsimp only
        exact hn
  · rw [List.drop_eq_nil_of_le (by omega)] at hX
    simp only [someS, List.append_nil] at hX
    subst hX
    repeat (first
      | (with_reducible apply AWp.seq)
      | (with_reducible apply AWp.block)
      | ((with_reducible apply AWp.fork); simp -implicitDefEqProofs [hlt, ci_lt, ci_le])
      | ((with_reducible apply AWp.region); simp -implicitDefEqProofs [hlt, ci_lt, ci_le])
      | (with_reducible refine And.intro (by first | omega | assumption | decide) ?_)
      | ((with_reducible show condK _ _ _); simp -implicitDefEqProofs [hlt, ci_lt, ci_le])
      | ((with_reducible show guardK _ _ _ _ _ _ _ _ _); simp -implicitDefEqProofs [hlt, ci_lt, ci_le])
      | ((with_reducible apply AWp.ret); try simp -implicitDefEqProofs [hlt, ci_lt, ci_le])
      | ((with_reducible apply AWp.skip); try simp -implicitDefEqProofs [hlt, ci_lt, ci_le])
      | ((with_reducible apply AWp.exit); try simp -implicitDefEqProofs [hlt, ci_lt, ci_le]))
    exact le_new htk (AS.le_refl _)

end Go.Proofs.Ythbmjmdmamapiaa
