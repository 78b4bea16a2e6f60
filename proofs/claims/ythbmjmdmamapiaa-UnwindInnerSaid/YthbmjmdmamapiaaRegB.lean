/- Package regions: chain, Chain. -/
import Derived.Test.YthbmjmdmamapiaaRegA
set_option linter.unusedSimpArgs false
set_option linter.unusedVariables false
set_option maxRecDepth 100000
set_option maxHeartbeats 3200000
namespace Go.Proofs.Ythbmjmdmamapiaa
open Go Go.AW

theorem compG_ok (L : List Pt) (f : Nat) (eq : Pt → Pt → Bool) (heq : ∀ σ x y, ACalls Try.prog f [ptV x, ptV y] σ (Gives (.sc (.bool (eq x y))) σ) No) (hl : L.length < 1000)
    {v : AV} {S τ : AS} (hG : GV Try.prog 64 (L.map ptV) v S τ) :
    ACalls Try.prog 79 [v, fnV f] τ (fun r τ' => GV Try.prog 64 ((compS eq L).map ptV) r S τ') No := by
  rcases hG with ⟨h1, rfl, rfl⟩ | ⟨id, cap, spl, h0, rfl, rfl, hall, hcap⟩
  · have : L = [] := by simpa using h1
    subst this
    simp only [fnV]
    refine ACalls.of_body Try.func79 rfl rfl (by simp [Try.ntmps79]) ?_
    repeat (first
      | (with_reducible apply AWp.seq)
      | (with_reducible apply AWp.block)
      | ((with_reducible apply AWp.fork); simp -implicitDefEqProofs)
      | ((with_reducible apply AWp.region); simp -implicitDefEqProofs)
      | (with_reducible refine And.intro (by first | omega | assumption | decide) ?_)
      | (((with_reducible apply AWp.drawS (id := 6) (t := (Sch.step 0 (Sch.step 1 (Sch.step 2 (Sch.step 3 (Sch.step 5 (Sch.step 6 (Sch.step 7 (Sch.step 8 (Sch.read 4 (Sch.read 9 (Sch.alt 10 Sch.done Sch.none))))))))))))); (exact mixed); kernel_rfl; kernel_rfl; (repeat (with_reducible first | apply PanQ.then | apply PanQ.block | apply PanQ.body | apply PanQ.no))); simp -implicitDefEqProofs)
      | (((with_reducible apply AWp.drawS (id := 11) (t := (Sch.step 0 (Sch.step 1 (Sch.step 2 (Sch.step 3 (Sch.step 5 (Sch.step 6 (Sch.step 7 (Sch.step 8 (Sch.read 4 (Sch.read 9 (Sch.alt 10 (Sch.step 11 Sch.done) Sch.none))))))))))))); (exact mixed); kernel_rfl; kernel_rfl; (repeat (with_reducible first | apply PanQ.then | apply PanQ.block | apply PanQ.body | apply PanQ.no))); simp -implicitDefEqProofs)
      | ((with_reducible apply AWp.ret); try simp -implicitDefEqProofs)
      | ((with_reducible apply AWp.skip); try simp -implicitDefEqProofs)
      | ((with_reducible apply AWp.exit); try simp -implicitDefEqProofs))
    exact ⟨_, _, Wk.refl _, AS.le_refl _, GV.nil⟩
  · have := comp_ok L spl f eq heq (fun x hx => hall x (by simp [hx])) hl id S h0
    simp only [List.length_map] at hcap ⊢
    subst hcap
    exact this

def ptsAt (x : Int) : Nat → List Cl → List Pt
  | _, [] => []
  | k, c :: r => (partsS k c).filter (fun p => hasS p.s x) ++ ptsAt x (k + 1) r
def eqS (a b : Pt) : Bool := decide (a.s.f = b.s.f) && decide (a.s.t = b.s.t)
def chainS (l : List Cl) (x : Int) : List Pt := compS eqS (sortS beforeW (ptsAt x 0 l))

/-- A list of parts, nil or not. -/
def ChQ (L : List Pt) (σ : AS) (r : AV) (σ' : AS) : Prop := ∃ n2, (n2 = true → L = []) ∧ r = .lst 64 (L.map ptV) .unk n2 ∧ σ' = σ

theorem chain_ok (l : List Cl) (o : Own) (nl : Bool) (x : Int) (hl : l.length ≤ 6) (σ : AS) :
    ACalls Try.prog 46 [clsV l o nl, .sc (.int .i64 x)] σ (ChQ (chainS l x) σ) No := by
  have hp := fun k c σ => parts_ok k c σ
  have hh := fun s σ => has_ok s x σ
  simp only [clsV, clV_def, ptsV, snV] at hp hh ⊢
  refine ACalls.of_body Try.func46 rfl rfl (by simp [Try.ntmps46]) ?_
  repeat (first
    | (with_reducible apply AWp.seq)
    | (with_reducible apply AWp.block)
    | ((with_reducible apply AWp.fork); simp -implicitDefEqProofs [ci_lt, ci_le])
    | ((with_reducible apply AWp.region); simp -implicitDefEqProofs [ci_lt, ci_le])
    | (with_reducible refine And.intro (by first | omega | assumption | decide) ?_)
    | ((with_reducible show condK _ _ _); simp -implicitDefEqProofs [ci_lt, ci_le])
    | ((with_reducible show guardK _ _ _ _ _ _ _ _ _); simp -implicitDefEqProofs [ci_lt, ci_le])
    | ((with_reducible apply AWp.ret); try simp -implicitDefEqProofs [ci_lt, ci_le])
    | ((with_reducible apply AWp.skip); try simp -implicitDefEqProofs [ci_lt, ci_le])
    | ((with_reducible apply AWp.exit); try simp -implicitDefEqProofs [ci_lt, ci_le]))
  refine AWp.loopA (α := (Nat) × (List Pt) × (AV) × (AS)) ((0, [], .nilS, σ)) (fun ⟨i, es, v, τ⟩ => l.length - i) (fun ⟨i, es, v, τ⟩ => i ≤ l.length ∧ GV Try.prog 64 (es.map ptV) v σ τ ∧ es ++ ptsAt x i (l.drop i) = ptsAt x 0 l ∧ es.length ≤ 3 * i) [(1, ?_), (4, ?_), (10, ?_), (11, ?_)] (fun ⟨i, es, v, τ⟩ => [(12, .sc (.int .i64 i)), (5, v)]) (fun ⟨i, es, v, τ⟩ => τ) ?_ ?_ ?_ ?_
  rotate_left 4
  · (try dsimp only); (simp only [List.cons_append, List.nil_append]; repeat (first | exact FrWk.nil | refine FrWk.cons (by first | (simp -implicitDefEqProofs [ci_lt, ci_le]; done) | exact Wk.of (by (try simp -implicitDefEqProofs [ci_lt, ci_le]) <;> rfl)) ?_))
  · (try dsimp only); (first | exact AS.le_refl _ | assumption | (repeat (first | exact AS.le_refl _ | assumption | refine le_new (by simp [*]) ?_)))
  · exact ⟨by omega, GV.nil, by simp, by simp⟩
  intro x_ hx_
  obtain ⟨i, es, v, τ⟩ := x_
  try dsimp only at hx_ ⊢
  obtain ⟨hi, hG, hX, hel⟩ := hx_
  simp only [List.cons_append, List.nil_append]
  by_cases hlt : i < l.length
  · have wi_i : IntKind.i64.wrap ((i : Int) + 1) = ((i + 1 : Nat) : Int) := ci_wi (by omega)
    rw [List.drop_eq_getElem_cons hlt] at hX
    simp only [ptsAt] at hX
    generalize hc : l[i] = c at *
    repeat (first
      | (with_reducible apply AWp.seq)
      | (with_reducible apply AWp.block)
      | ((with_reducible apply AWp.fork); simp -implicitDefEqProofs [hlt, hc, clV_def, ci_lt, ci_le, wi_i])
      | ((with_reducible apply AWp.region); simp -implicitDefEqProofs [hlt, hc, clV_def, ci_lt, ci_le, wi_i])
      | (with_reducible refine And.intro (by first | omega | assumption | decide) ?_)
      | ((with_reducible show condK _ _ _); simp -implicitDefEqProofs [hlt, hc, clV_def, ci_lt, ci_le, wi_i])
      | ((with_reducible show guardK _ _ _ _ _ _ _ _ _); simp -implicitDefEqProofs [hlt, hc, clV_def, ci_lt, ci_le, wi_i])
      | ((with_reducible apply AWp.ret); try simp -implicitDefEqProofs [hlt, hc, clV_def, ci_lt, ci_le, wi_i])
      | ((with_reducible apply AWp.skip); try simp -implicitDefEqProofs [hlt, hc, clV_def, ci_lt, ci_le, wi_i])
      | ((with_reducible apply AWp.exit); try simp -implicitDefEqProofs [hlt, hc, clV_def, ci_lt, ci_le, wi_i]))
    intro id7 h_id7
    have hp' := fun σ => hp i c σ
    have hpl := parts_len (i : Int) c
    repeat (first
      | (with_reducible apply AWp.seq)
      | (with_reducible apply AWp.block)
      | ((with_reducible apply AWp.fork); simp -implicitDefEqProofs [ci_lt, ci_le, wi_i])
      | ((with_reducible apply AWp.region); simp -implicitDefEqProofs [ci_lt, ci_le, wi_i])
      | (with_reducible refine And.intro (by first | omega | assumption | decide) ?_)
      | ((with_reducible show condK _ _ _); simp -implicitDefEqProofs [ci_lt, ci_le, wi_i])
      | ((with_reducible show guardK _ _ _ _ _ _ _ _ _); simp -implicitDefEqProofs [ci_lt, ci_le, wi_i])
      | ((with_reducible apply aCall.id); first
          | ((apply aCall.gives (hp' _)); simp -implicitDefEqProofs [ci_lt, ci_le, wi_i]))
      | ((with_reducible apply AWp.ret); try simp -implicitDefEqProofs [ci_lt, ci_le, wi_i])
      | ((with_reducible apply AWp.skip); try simp -implicitDefEqProofs [ci_lt, ci_le, wi_i])
      | ((with_reducible apply AWp.exit); try simp -implicitDefEqProofs [ci_lt, ci_le, wi_i]))
    generalize partsS (i : Int) c = ps at *
    have hG7 := hG.set (j := id7) (b := .cells 45 (clV c).cells) h_id7
    simp only [clV_def, cells_agg] at hG7
    refine AWp.loopA (α := (Nat) × (List Pt) × (AV) × (AS)) ((0, es, v, τ.set id7 (.cells 45 (clV c).cells))) (fun ⟨k, es', v', τ'⟩ => ps.length - k) (fun ⟨k, es', v', τ'⟩ => k ≤ ps.length ∧ GV Try.prog 64 (es'.map ptV) v' (σ.set id7 (.cells 45 (clV c).cells)) τ' ∧ es' ++ ((ps.drop k).filter (fun p => hasS p.s x) ++ ptsAt x (i + 1) (l.drop (i + 1))) = ptsAt x 0 l ∧ es'.length ≤ 3 * i + k) [(1, ?_), (4, ?_), (6, ?_), (7, ?_), (10, ?_), (11, ?_), (12, ?_), (13, ?_), (14, ?_), (15, ?_), (16, ?_), (17, ?_), (18, ?_), (19, ?_), (20, ?_)] (fun ⟨k, es', v', τ'⟩ => [(21, .sc (.int .i64 k)), (5, v')]) (fun ⟨k, es', v', τ'⟩ => τ') ?_ ?_ ?_ ?_
    rotate_left 15
    · (try dsimp only); (simp only [List.cons_append, List.nil_append]; repeat (first | exact FrWk.nil | refine FrWk.cons (by first | (simp -implicitDefEqProofs [ci_lt, ci_le, wi_i]; done) | exact Wk.of (by (try simp -implicitDefEqProofs [ci_lt, ci_le, wi_i]) <;> rfl)) ?_))
    · (try dsimp only); (first | exact AS.le_refl _ | assumption | (repeat (first | exact AS.le_refl _ | assumption | refine le_new (by simp [*]) ?_)))
    · exact ⟨by omega, hG7, by simpa using hX, by omega⟩
    intro x_ hx_
    obtain ⟨k, es', v', τ'⟩ := x_
    try dsimp only at hx_ ⊢
    obtain ⟨hk, hG', hX', hel'⟩ := hx_
    simp only [List.cons_append, List.nil_append]
    by_cases hlt2 : k < ps.length
    · have wi_k : IntKind.i64.wrap ((k : Int) + 1) = ((k + 1 : Nat) : Int) := ci_wi (by omega)
      rw [List.drop_eq_getElem_cons hlt2] at hX'
      simp only [List.filter_cons] at hX'
      have hh' := fun σ => hh ps[k].s σ
      generalize hd : ps[k] = d at *
      repeat (first
        | (with_reducible apply AWp.seq)
        | (with_reducible apply AWp.block)
        | ((with_reducible apply AWp.fork); simp -implicitDefEqProofs [hlt2, hd, ptV, ci_lt, ci_le, wi_i, wi_k])
        | ((fail_if_success (with_reducible apply AWp.region (id := 9))); (with_reducible apply AWp.region); simp -implicitDefEqProofs [hlt2, hd, ptV, ci_lt, ci_le, wi_i, wi_k])
        | (with_reducible refine And.intro (by first | omega | assumption | decide) ?_)
        | ((with_reducible show condK _ _ _); simp -implicitDefEqProofs [hlt2, hd, ptV, ci_lt, ci_le, wi_i, wi_k])
        | ((with_reducible show guardK _ _ _ _ _ _ _ _ _); simp -implicitDefEqProofs [hlt2, hd, ptV, ci_lt, ci_le, wi_i, wi_k])
        | ((with_reducible apply AWp.ret); try simp -implicitDefEqProofs [hlt2, hd, ptV, ci_lt, ci_le, wi_i, wi_k])
        | ((with_reducible apply AWp.skip); try simp -implicitDefEqProofs [hlt2, hd, ptV, ci_lt, ci_le, wi_i, wi_k])
        | ((with_reducible apply AWp.exit); try simp -implicitDefEqProofs [hlt2, hd, ptV, ci_lt, ci_le, wi_i, wi_k]))
      intro id9 h_id9
      have hG9 := hG'.set (j := id9) (b := .cells 64 (ptV d).cells) h_id9
      simp only [ptV, cells_agg] at hG9
      cases hb : hasS d.s x with
      | true =>
        rw [hb] at hh' hX'
        simp at hX'
        repeat (first
          | (with_reducible apply AWp.seq)
          | (with_reducible apply AWp.block)
          | ((with_reducible apply AWp.fork); simp -implicitDefEqProofs [ci_lt, ci_le, wi_i, wi_k])
          | ((fail_if_success (with_reducible apply AWp.region (id := 9))); (with_reducible apply AWp.region); simp -implicitDefEqProofs [ci_lt, ci_le, wi_i, wi_k])
          | (with_reducible refine And.intro (by first | omega | assumption | decide) ?_)
          | ((with_reducible show condK _ _ _); simp -implicitDefEqProofs [ci_lt, ci_le, wi_i, wi_k])
          | ((with_reducible show guardK _ _ _ _ _ _ _ _ _); simp -implicitDefEqProofs [ci_lt, ci_le, wi_i, wi_k])
          | ((with_reducible apply aCall.id); first
              | ((apply aCall.gives (hh' _)); simp -implicitDefEqProofs [ci_lt, ci_le, wi_i, wi_k]))
          | ((with_reducible apply AWp.ret); try simp -implicitDefEqProofs [ci_lt, ci_le, wi_i, wi_k])
          | ((with_reducible apply AWp.skip); try simp -implicitDefEqProofs [ci_lt, ci_le, wi_i, wi_k])
          | ((with_reducible apply AWp.exit); try simp -implicitDefEqProofs [ci_lt, ci_le, wi_i, wi_k]))
        with_reducible apply AWp.regionS
        refine sOps.first 3 ?_
        simp -implicitDefEqProofs
        refine sOps.sp rfl (SOp.appendG (by decide) 64 (es'.map ptV) [ptV d] _ (by simp) (by simp) (by simp) (by simp) hG9 (by simp [srcElems, Try.underlying59, ptV]) (by simp [ptV]) (by simp [roomB]; omega) (by simp; omega) ?_)
        intro v2 τ2 hG2
        refine sOps.rest ?_
        simp -implicitDefEqProofs
        obtain ⟨τ3, hG3, hle3⟩ := hG2.weak (S := σ.set id7 (.cells 45 (clV c).cells)) (le_new (hG'.fresh h_id9) (AS.le_refl _))
        repeat (first
          | (with_reducible apply AWp.seq)
          | (with_reducible apply AWp.block)
          | ((with_reducible apply AWp.fork); simp -implicitDefEqProofs [ci_lt, ci_le, wi_i, wi_k])
          | ((fail_if_success (with_reducible apply AWp.region (id := 9))); (with_reducible apply AWp.region); simp -implicitDefEqProofs [ci_lt, ci_le, wi_i, wi_k])
          | (with_reducible refine And.intro (by first | omega | assumption | decide) ?_)
          | ((with_reducible show condK _ _ _); simp -implicitDefEqProofs [ci_lt, ci_le, wi_i, wi_k])
          | ((with_reducible show guardK _ _ _ _ _ _ _ _ _); simp -implicitDefEqProofs [ci_lt, ci_le, wi_i, wi_k])
          | ((with_reducible apply AWp.ret); try simp -implicitDefEqProofs [ci_lt, ci_le, wi_i, wi_k])
          | ((with_reducible apply AWp.skip); try simp -implicitDefEqProofs [ci_lt, ci_le, wi_i, wi_k])
          | ((with_reducible apply AWp.exit); try simp -implicitDefEqProofs [ci_lt, ci_le, wi_i, wi_k]))
        refine stepA.mk ((k + 1, es' ++ [d], v2, τ3)) (by (try dsimp only); omega) (by (try dsimp only); (simp only [List.cons_append, List.nil_append]; repeat (first | exact FrWk.nil | refine FrWk.cons (by first | (simp -implicitDefEqProofs [ci_lt, ci_le, wi_i, wi_k]; done) | exact Wk.of (by (try simp -implicitDefEqProofs [ci_lt, ci_le, wi_i, wi_k]) <;> rfl)) ?_))) (by (try dsimp only); exact hle3) ?_
        try dsimp only
        exact ⟨by omega, by simpa using hG3, by rw [← hX']; simp, by simp; omega⟩
      | false =>
        rw [hb] at hh' hX'
        simp at hX'
        repeat (first
          | (with_reducible apply AWp.seq)
          | (with_reducible apply AWp.block)
          | ((with_reducible apply AWp.fork); simp -implicitDefEqProofs [ci_lt, ci_le, wi_i, wi_k])
          | ((fail_if_success (with_reducible apply AWp.region (id := 9))); (with_reducible apply AWp.region); simp -implicitDefEqProofs [ci_lt, ci_le, wi_i, wi_k])
          | (with_reducible refine And.intro (by first | omega | assumption | decide) ?_)
          | ((with_reducible show condK _ _ _); simp -implicitDefEqProofs [ci_lt, ci_le, wi_i, wi_k])
          | ((with_reducible show guardK _ _ _ _ _ _ _ _ _); simp -implicitDefEqProofs [ci_lt, ci_le, wi_i, wi_k])
          | ((with_reducible apply aCall.id); first
              | ((apply aCall.gives (hh' _)); simp -implicitDefEqProofs [ci_lt, ci_le, wi_i, wi_k]))
          | ((with_reducible apply AWp.ret); try simp -implicitDefEqProofs [ci_lt, ci_le, wi_i, wi_k])
          | ((with_reducible apply AWp.skip); try simp -implicitDefEqProofs [ci_lt, ci_le, wi_i, wi_k])
          | ((with_reducible apply AWp.exit); try simp -implicitDefEqProofs [ci_lt, ci_le, wi_i, wi_k]))
        refine stepA.mk ((k + 1, es', v', τ')) (by (try dsimp only); omega) (by (try dsimp only); (simp only [List.cons_append, List.nil_append]; repeat (first | exact FrWk.nil | refine FrWk.cons (by first | (simp -implicitDefEqProofs [ci_lt, ci_le, wi_i, wi_k]; done) | exact Wk.of (by (try simp -implicitDefEqProofs [ci_lt, ci_le, wi_i, wi_k]) <;> rfl)) ?_))) (by (try dsimp only); exact le_new h_id9 (AS.le_refl _)) ?_
        try dsimp only
        exact ⟨by omega, hG', by rw [← hX'], by omega⟩
    · rw [List.drop_eq_nil_of_le (show ps.length ≤ k by omega)] at hX'
      obtain ⟨τ3, hG3, hle3⟩ := hG'.weak (S := σ) (le_new (hG.fresh h_id7) (AS.le_refl _))
      repeat (first
        | (with_reducible apply AWp.seq)
        | (with_reducible apply AWp.block)
        | ((with_reducible apply AWp.fork); simp -implicitDefEqProofs [hlt2, ci_lt, ci_le, wi_i])
        | ((fail_if_success (with_reducible apply AWp.region (id := 9))); (with_reducible apply AWp.region); simp -implicitDefEqProofs [hlt2, ci_lt, ci_le, wi_i])
        | (with_reducible refine And.intro (by first | omega | assumption | decide) ?_)
        | ((with_reducible show condK _ _ _); simp -implicitDefEqProofs [hlt2, ci_lt, ci_le, wi_i])
        | ((with_reducible show guardK _ _ _ _ _ _ _ _ _); simp -implicitDefEqProofs [hlt2, ci_lt, ci_le, wi_i])
        | ((with_reducible apply AWp.ret); try simp -implicitDefEqProofs [hlt2, ci_lt, ci_le, wi_i])
        | ((with_reducible apply AWp.skip); try simp -implicitDefEqProofs [hlt2, ci_lt, ci_le, wi_i])
        | ((with_reducible apply AWp.exit); try simp -implicitDefEqProofs [hlt2, ci_lt, ci_le, wi_i]))
      refine stepA.mk ((i + 1, es', v', τ3)) (by (try dsimp only); omega) (by (try dsimp only); (simp only [List.cons_append, List.nil_append]; repeat (first | exact FrWk.nil | refine FrWk.cons (by first | (simp -implicitDefEqProofs [ci_lt, ci_le, wi_i]; done) | exact Wk.of (by (try simp -implicitDefEqProofs [ci_lt, ci_le, wi_i]) <;> rfl)) ?_))) (by (try dsimp only); exact hle3) ?_
      try dsimp only
      exact ⟨by omega, hG3, by rw [← hX']; simp, by omega⟩
  · rw [List.drop_eq_nil_of_le (show l.length ≤ i by omega)] at hX
    simp only [ptsAt, List.append_nil] at hX
    subst hX
    have hso := sort_ok (ptsAt x 0 l) 78 beforeW before_ok (by omega) hG
    simp only [fnV] at hso
    repeat (first
      | (with_reducible apply AWp.seq)
      | (with_reducible apply AWp.block)
      | ((with_reducible apply AWp.fork); simp -implicitDefEqProofs [hlt, ci_lt, ci_le])
      | ((fail_if_success (with_reducible apply AWp.region (id := 9))); (with_reducible apply AWp.region); simp -implicitDefEqProofs [hlt, ci_lt, ci_le])
      | (with_reducible refine And.intro (by first | omega | assumption | decide) ?_)
      | ((with_reducible show condK _ _ _); simp -implicitDefEqProofs [hlt, ci_lt, ci_le])
      | ((with_reducible show guardK _ _ _ _ _ _ _ _ _); simp -implicitDefEqProofs [hlt, ci_lt, ci_le])
      | ((with_reducible apply AWp.ret); try simp -implicitDefEqProofs [hlt, ci_lt, ci_le])
      | ((with_reducible apply AWp.skip); try simp -implicitDefEqProofs [hlt, ci_lt, ci_le])
      | ((with_reducible apply AWp.exit); try simp -implicitDefEqProofs [hlt, ci_lt, ci_le]))
    refine aCall.of hso ?_ (fun _ _ h => h.elim)
    intro r τ2 hG2
    have hlen : (sortS beforeW (ptsAt x 0 l)).length = (ptsAt x 0 l).length := by simp [sortS, sortRev_len]
    have hco := compG_ok (sortS beforeW (ptsAt x 0 l)) 80 eqS eqspan_ok (by omega) hG2
    simp only [fnV] at hco
    simp -implicitDefEqProofs [ci_lt, ci_le]
    repeat (first
      | (with_reducible apply AWp.seq)
      | (with_reducible apply AWp.block)
      | ((with_reducible apply AWp.fork); simp -implicitDefEqProofs [ci_lt, ci_le])
      | ((fail_if_success (with_reducible apply AWp.region (id := 9))); (with_reducible apply AWp.region); simp -implicitDefEqProofs [ci_lt, ci_le])
      | (with_reducible refine And.intro (by first | omega | assumption | decide) ?_)
      | ((with_reducible show condK _ _ _); simp -implicitDefEqProofs [ci_lt, ci_le])
      | ((with_reducible show guardK _ _ _ _ _ _ _ _ _); simp -implicitDefEqProofs [ci_lt, ci_le])
      | ((with_reducible apply AWp.ret); try simp -implicitDefEqProofs [ci_lt, ci_le])
      | ((with_reducible apply AWp.skip); try simp -implicitDefEqProofs [ci_lt, ci_le])
      | ((with_reducible apply AWp.exit); try simp -implicitDefEqProofs [ci_lt, ci_le]))
    refine aCall.of hco ?_ (fun _ _ h => h.elim)
    intro r3 τ3 hG3
    simp -implicitDefEqProofs [ci_lt, ci_le]
    refine AWp.freezeG 4 (e := 64) (es := (chainS l x).map ptV) (S := σ) (by simpa [chainS] using hG3) ?_
    intro n2 hn2
    repeat (first
      | (with_reducible apply AWp.seq)
      | (with_reducible apply AWp.block)
      | ((with_reducible apply AWp.fork); simp -implicitDefEqProofs [ci_lt, ci_le])
      | ((fail_if_success (with_reducible apply AWp.region (id := 9))); (with_reducible apply AWp.region); simp -implicitDefEqProofs [ci_lt, ci_le])
      | (with_reducible refine And.intro (by first | omega | assumption | decide) ?_)
      | ((with_reducible show condK _ _ _); simp -implicitDefEqProofs [ci_lt, ci_le])
      | ((with_reducible show guardK _ _ _ _ _ _ _ _ _); simp -implicitDefEqProofs [ci_lt, ci_le])
      | ((with_reducible apply AWp.ret); try simp -implicitDefEqProofs [ci_lt, ci_le])
      | ((with_reducible apply AWp.skip); try simp -implicitDefEqProofs [ci_lt, ci_le])
      | ((with_reducible apply AWp.exit); try simp -implicitDefEqProofs [ci_lt, ci_le]))
    exact ⟨_, _, Wk.refl _, AS.le_refl _, n2, fun h => by simpa using hn2 h, rfl, rfl⟩

theorem ptsAt_len (x : Int) : ∀ (l : List Cl) (k : Nat), (ptsAt x k l).length ≤ 3 * l.length := by
  intro l
  induction l with
  | nil => intro k; simp [ptsAt]
  | cons c l ih =>
    intro k
    have h1 := ih (k + 1)
    have h2 := parts_len (k : Int) c
    have h3 := List.length_filter_le (fun p => hasS p.s x) (partsS k c)
    simp only [ptsAt, List.length_append, List.length_cons]
    omega
theorem chainS_len (l : List Cl) (x : Int) : (chainS l x).length ≤ 3 * l.length := by
  have h1 := ptsAt_len x l 0
  have h2 := compS_len eqS (L := sortS beforeW (ptsAt x 0 l))
  have h3 : (sortS beforeW (ptsAt x 0 l)).length = (ptsAt x 0 l).length := by simp [sortS, sortRev_len]
  unfold chainS
  omega

theorem regs_ok (l : List Cl) (o : Own) (nl : Bool) (x : Int) (hl : l.length ≤ 6) (σ : AS) :
    ACalls Try.prog 18 [clsV l o nl, .sc (.int .i64 x)] σ (Gives (.lst 47 ((chainS l x).map rgV) .unk (decide (chainS l x = []))) σ) No := by
  have hc := chain_ok l o nl x hl σ
  simp only [clsV, clV_def] at hc ⊢
  refine ACalls.of_body Try.func18 rfl rfl (by simp [Try.ntmps18]) ?_
  repeat (first
    | (with_reducible apply AWp.seq)
    | (with_reducible apply AWp.block)
    | ((with_reducible apply AWp.fork); simp -implicitDefEqProofs [ci_lt, ci_le])
    | ((with_reducible apply AWp.region); simp -implicitDefEqProofs [ci_lt, ci_le])
    | (with_reducible refine And.intro (by first | omega | assumption | decide) ?_)
    | ((with_reducible show condK _ _ _); simp -implicitDefEqProofs [ci_lt, ci_le])
    | ((with_reducible show guardK _ _ _ _ _ _ _ _ _); simp -implicitDefEqProofs [ci_lt, ci_le])
    | ((with_reducible apply AWp.ret); try simp -implicitDefEqProofs [ci_lt, ci_le])
    | ((with_reducible apply AWp.skip); try simp -implicitDefEqProofs [ci_lt, ci_le])
    | ((with_reducible apply AWp.exit); try simp -implicitDefEqProofs [ci_lt, ci_le]))
  refine aCall.of hc ?_ (fun _ _ h => h.elim)
  rintro r σ' ⟨n2, hn2, rfl, rfl⟩
  simp -implicitDefEqProofs [ci_lt, ci_le]
  refine AWp.mint 5 47 [] true (by simp [Try.ntmps18]) (.inr ⟨by simp, rfl, rfl⟩) ?_
  simp -implicitDefEqProofs [ci_lt, ci_le]
  intro tk htk
  have hcl := chainS_len l x
  generalize chainS l x = L at *
  repeat (first
    | (with_reducible apply AWp.seq)
    | (with_reducible apply AWp.block)
    | ((with_reducible apply AWp.fork); simp -implicitDefEqProofs [ci_lt, ci_le])
    | ((with_reducible apply AWp.region); simp -implicitDefEqProofs [ci_lt, ci_le])
    | (with_reducible refine And.intro (by first | omega | assumption | decide) ?_)
    | ((with_reducible show condK _ _ _); simp -implicitDefEqProofs [ci_lt, ci_le])
    | ((with_reducible show guardK _ _ _ _ _ _ _ _ _); simp -implicitDefEqProofs [ci_lt, ci_le])
    | ((with_reducible apply AWp.ret); try simp -implicitDefEqProofs [ci_lt, ci_le])
    | ((with_reducible apply AWp.skip); try simp -implicitDefEqProofs [ci_lt, ci_le])
    | ((with_reducible apply AWp.exit); try simp -implicitDefEqProofs [ci_lt, ci_le]))
  refine AWp.loopA (α := (Nat) × (List Pt)) ((0, [])) (fun ⟨i, d⟩ => L.length - i) (fun ⟨i, d⟩ => i ≤ L.length ∧ d.length = i ∧ d ++ L.drop i = L) [(4, ?_), (10, ?_), (11, ?_)] (fun ⟨i, d⟩ => [(12, .sc (.int .i64 i)), (5, .lst 47 (d.map rgV) (.tok tk) (decide (d = [])))]) (fun ⟨i, d⟩ => σ'.set tk (.tok d.length)) ?_ ?_ ?_ ?_
  rotate_left 3
  · (try dsimp only); (simp only [List.cons_append, List.nil_append]; repeat (first | exact FrWk.nil | refine FrWk.cons (by first | (simp -implicitDefEqProofs [ci_lt, ci_le]; done) | exact Wk.of (by (try simp -implicitDefEqProofs [ci_lt, ci_le]) <;> rfl)) ?_))
  · (try dsimp only); (first | exact AS.le_refl _ | assumption | (repeat (first | exact AS.le_refl _ | assumption | refine le_new (by simp [*]) ?_)))
  · exact ⟨by omega, rfl, rfl⟩
  intro x_ hx_
  obtain ⟨i, d⟩ := x_
  try dsimp only at hx_ ⊢
  obtain ⟨hi, hd, hX⟩ := hx_
  simp only [List.cons_append, List.nil_append]
  by_cases hlt : i < L.length
  · have wi_i : IntKind.i64.wrap ((i : Int) + 1) = ((i + 1 : Nat) : Int) := ci_wi (by omega)
    rw [List.drop_eq_getElem_cons hlt] at hX
    generalize hx : L[i] = y at *
    have hd1 : d.length ≤ 1000 := by omega
    repeat (first
      | (with_reducible apply AWp.seq)
      | (with_reducible apply AWp.block)
      | ((with_reducible apply AWp.fork); simp -implicitDefEqProofs [hlt, hx, ptV, ci_lt, ci_le, wi_i])
      | ((with_reducible apply AWp.region); simp -implicitDefEqProofs [hlt, hx, ptV, ci_lt, ci_le, wi_i])
      | (with_reducible refine And.intro (by first | omega | assumption | decide) ?_)
      | ((with_reducible show condK _ _ _); simp -implicitDefEqProofs [hlt, hx, ptV, ci_lt, ci_le, wi_i])
      | ((with_reducible show guardK _ _ _ _ _ _ _ _ _); simp -implicitDefEqProofs [hlt, hx, ptV, ci_lt, ci_le, wi_i])
      | ((with_reducible apply AWp.ret); try simp -implicitDefEqProofs [hlt, hx, ptV, ci_lt, ci_le, wi_i])
      | ((with_reducible apply AWp.skip); try simp -implicitDefEqProofs [hlt, hx, ptV, ci_lt, ci_le, wi_i])
      | ((with_reducible apply AWp.exit); try simp -implicitDefEqProofs [hlt, hx, ptV, ci_lt, ci_le, wi_i]))
    intro id n_id_tk h_id
    have n_tk_id : ¬ tk = id := fun e => n_id_tk e.symm
    repeat (first
      | (with_reducible apply AWp.seq)
      | (with_reducible apply AWp.block)
      | ((with_reducible apply AWp.fork); simp -implicitDefEqProofs [n_id_tk, n_tk_id, hd1, ci_lt, ci_le, wi_i])
      | ((with_reducible apply AWp.region); simp -implicitDefEqProofs [n_id_tk, n_tk_id, hd1, ci_lt, ci_le, wi_i])
      | (with_reducible refine And.intro (by first | omega | assumption | decide) ?_)
      | ((with_reducible show condK _ _ _); simp -implicitDefEqProofs [n_id_tk, n_tk_id, hd1, ci_lt, ci_le, wi_i])
      | ((with_reducible show guardK _ _ _ _ _ _ _ _ _); simp -implicitDefEqProofs [n_id_tk, n_tk_id, hd1, ci_lt, ci_le, wi_i])
      | ((with_reducible apply AWp.ret); try simp -implicitDefEqProofs [n_id_tk, n_tk_id, hd1, ci_lt, ci_le, wi_i])
      | ((with_reducible apply AWp.skip); try simp -implicitDefEqProofs [n_id_tk, n_tk_id, hd1, ci_lt, ci_le, wi_i])
      | ((with_reducible apply AWp.exit); try simp -implicitDefEqProofs [n_id_tk, n_tk_id, hd1, ci_lt, ci_le, wi_i]))
    refine stepA.mk ((i + 1, d ++ [y])) (by (try dsimp only); omega) (by (try dsimp only); (simp only [List.cons_append, List.nil_append]; repeat (first | exact FrWk.nil | refine FrWk.cons (by first | (simp -implicitDefEqProofs [rgV, ci_lt, ci_le, wi_i]; done) | exact Wk.of (by (try simp -implicitDefEqProofs [rgV, ci_lt, ci_le, wi_i]) <;> rfl)) ?_))) (by (try dsimp only); (simp [n_id_tk]; exact le_new (by simp [n_id_tk, h_id]) (AS.le_refl _))) ?_
    try dsimp only
    exact ⟨by omega, by simp [hd], by simpa using hX⟩
  · rw [List.drop_eq_nil_of_le (by omega), List.append_nil] at hX
    subst hX
    repeat (first
      | (with_reducible apply AWp.seq)
      | (with_reducible apply AWp.block)
      | ((with_reducible apply AWp.fork); simp -implicitDefEqProofs [hlt, ci_lt, ci_le])
      | ((with_reducible apply AWp.region); simp -implicitDefEqProofs [hlt, ci_lt, ci_le])
      | (with_reducible refine And.intro (by first | omega | assumption | decide) ?_)
      | ((with_reducible show condK _ _ _); simp -implicitDefEqProofs [hlt, ci_lt, ci_le])
      | ((with_reducible show guardK _ _ _ _ _ _ _ _ _); simp -implicitDefEqProofs [hlt, ci_lt, ci_le])
      | ((with_reducible apply AWp.ret); try simp -implicitDefEqProofs [hlt, ci_lt, ci_le])
      | ((with_reducible apply AWp.skip); try simp -implicitDefEqProofs [hlt, ci_lt, ci_le])
      | ((with_reducible apply AWp.exit); try simp -implicitDefEqProofs [hlt, ci_lt, ci_le]))
    exact le_new htk (AS.le_refl _)

end Go.Proofs.Ythbmjmdmamapiaa
