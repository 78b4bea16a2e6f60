/- Chapter 09: the laws as walks. -/
import Derived.Test.YthbmjmdmamapiaaRegF
set_option linter.unusedSimpArgs false
set_option linter.unusedVariables false
set_option maxRecDepth 100000
set_option maxHeartbeats 3200000
namespace Go.Proofs.Ythbmjmdmamapiaa
open Go Go.AW

theorem own : ownKnob Try.prog.godebug = none := by kernel_rfl
theorem laidOut : laidOutB Try.prog = true := by kernel_rfl
theorem copied_ok (l : List Cl) (o : Own) (nl : Bool) (hl : l.length ≤ 1000) (σ : AS) :
    ACalls Try.prog 14 [clsV l o nl] σ (Gives (clsV l .unk false) σ) No := by
  simp only [clsV]
  refine ACalls.of_body Try.func14 rfl rfl (by simp [Try.ntmps14]) ?_
  repeat (first
    | (with_reducible apply AWp.seq)
    | (with_reducible apply AWp.block)
    | ((with_reducible apply AWp.fork); simp -implicitDefEqProofs)
    | ((with_reducible apply AWp.region); simp -implicitDefEqProofs)
    | (with_reducible refine And.intro (by first | omega | assumption | decide) ?_)
    | ((with_reducible apply AWp.ret); try simp -implicitDefEqProofs)
    | ((with_reducible apply AWp.skip); try simp -implicitDefEqProofs)
    | ((with_reducible apply AWp.exit); try simp -implicitDefEqProofs))
  intro tk htk
  repeat (first
    | (with_reducible apply AWp.seq)
    | (with_reducible apply AWp.block)
    | ((with_reducible apply AWp.fork); simp -implicitDefEqProofs)
    | ((with_reducible apply AWp.region); simp -implicitDefEqProofs)
    | (with_reducible refine And.intro (by first | omega | assumption | decide) ?_)
    | ((with_reducible apply AWp.ret); try simp -implicitDefEqProofs)
    | ((with_reducible apply AWp.skip); try simp -implicitDefEqProofs)
    | ((with_reducible apply AWp.exit); try simp -implicitDefEqProofs))
  exact le_new htk (AS.le_refl _)

def c0 : Cl := ⟨1, 0, 2, 2, 4, -1, 0, 0, 0, false⟩
theorem wakes_ok (σ : AS) : ACalls Try.prog 12 [] σ (Gives (.sc (.bool true)) σ) No := by
  have h1 := fun σ => check_ok 4 [c0] .full false (by simp) σ
  have h2 := fun σ => regs_ok [c0] .full false 1 (by simp) σ
  have h3 := fun σ => passW_ok [c0] .full false 1 2 (by simp) σ
  have h4 := fun σ => passW_ok [c0] .full false 0 1 (by simp) σ
  have h5 := fun σ => rSame_ok [⟨0, 1, ⟨0, 2⟩⟩] [⟨0, 1, ⟨0, 2⟩⟩] .unk .full false false (by simp) (by simp) σ
  rw [show checkS (aloneS 4) fitsS [c0] = (0, 0) by decide] at h1
  rw [show chainS [c0] 1 = [⟨0, 1, ⟨0, 2⟩⟩] by decide] at h2 h3 h4
  rw [show hitB (chainS [c0] 2) 2 [⟨0, 1, ⟨0, 2⟩⟩] = false by decide] at h3
  rw [show hitB [⟨0, 1, ⟨0, 2⟩⟩] 1 (chainS [c0] 0) = true by decide] at h4
  simp [clsV, clV_def, c0, rgV] at h1 h2 h3 h4 h5
  refine ACalls.of_body Try.func12 rfl rfl (by simp [Try.ntmps12]) ?_
  repeat (first
    | (with_reducible apply AWp.seq)
    | (with_reducible apply AWp.block)
    | ((with_reducible apply AWp.fork); simp -implicitDefEqProofs)
    | ((with_reducible apply AWp.region); simp -implicitDefEqProofs)
    | (with_reducible refine And.intro (by first | omega | assumption | decide) ?_)
    | ((with_reducible apply aCall.id); first
        | ((apply aCall.gives (h1 _)); simp -implicitDefEqProofs)
        | ((apply aCall.gives (h2 _)); simp -implicitDefEqProofs)
        | ((apply aCall.gives (h3 _)); simp -implicitDefEqProofs)
        | ((apply aCall.gives (h4 _)); simp -implicitDefEqProofs)
        | ((apply aCall.gives (h5 _)); simp -implicitDefEqProofs))
    | ((with_reducible apply AWp.ret); try simp -implicitDefEqProofs)
    | ((with_reducible apply AWp.skip); try simp -implicitDefEqProofs)
    | ((with_reducible apply AWp.exit); try simp -implicitDefEqProofs))

def mayB (n x y : Int) (l : List Cl) : Bool := decide (n ≤ 100000) && (decide ((checkS (aloneR n) fitsR l).2 = 0) && (decide (0 ≤ x) && (decide (x < n) && (decide (0 ≤ y) && decide (y < n)))))
theorem may_ok (l : List Cl) (o : Own) (nl : Bool) (n x y : Int) (hl : l.length ≤ 140737488355328) (σ : AS) :
    ACalls Try.prog 17 [clsV l o nl, .agg [.sc (.int .i64 n), .sc (.int .i64 x), .sc (.int .i64 y)]] σ (Gives (.sc (.bool (mayB n x y l))) σ) No := by
  have hr := fun σ => right_ok n l o nl hl σ
  unfold mayB
  simp only [clsV] at hr ⊢
  generalize decide ((checkS (aloneR n) fitsR l).2 = 0) = b at *
  refine ACalls.of_body Try.func17 rfl rfl (by simp [Try.ntmps17]) ?_
  repeat (first
    | (with_reducible apply AWp.seq)
    | (with_reducible apply AWp.block)
    | ((with_reducible apply AWp.fork); simp -implicitDefEqProofs)
    | ((with_reducible apply AWp.region); simp -implicitDefEqProofs)
    | (with_reducible refine And.intro (by first | omega | assumption | decide) ?_)
    | ((with_reducible apply AWp.ret); try simp -implicitDefEqProofs)
    | ((with_reducible apply AWp.skip); try simp -implicitDefEqProofs)
    | ((with_reducible apply AWp.exit); try simp -implicitDefEqProofs))
  intro id h_id
  repeat' (first
    | (with_reducible apply AWp.seq)
    | (with_reducible apply AWp.block)
    | ((with_reducible apply AWp.fork); simp -implicitDefEqProofs)
    | ((with_reducible apply AWp.region); simp -implicitDefEqProofs)
    | (with_reducible refine And.intro (by first | omega | assumption | decide) ?_)
    | trivial
    | (with_reducible apply And.intro)
    | ((with_reducible apply aCall.id); first
        | ((apply aCall.gives (hr _)); simp -implicitDefEqProofs))
    | ((with_reducible apply AWp.ret); try simp -implicitDefEqProofs)
    | ((with_reducible apply AWp.skip); try simp -implicitDefEqProofs)
    | ((with_reducible apply AWp.exit); try simp -implicitDefEqProofs)
    | ((with_reducible apply condK.split) <;> (intro hc; (try simp -implicitDefEqProofs only [hc]); (try simp at hc)) <;> try simp -implicitDefEqProofs)
    | ((with_reducible apply guardK.split) <;> (intro hc; (try simp -implicitDefEqProofs only [hc]); (try simp at hc)) <;> try simp -implicitDefEqProofs)
    | ((with_reducible apply pureG.split) <;> (intro hc; (try simp -implicitDefEqProofs only [hc]); (try simp at hc)) <;> try simp -implicitDefEqProofs))
  all_goals (repeat' (with_reducible apply And.intro))
  all_goals first
    | exact AS.le_refl _
    | ((repeat (first | exact AS.le_refl _ | assumption | refine le_new (by simp [*]) ?_)); done)
    | (refine wk_eq ?_; simp_all [skipV]; done)
    | (refine wk_b ?_; rw [Bool.eq_iff_iff]; simp [*]; omega)
    | (refine wk_eq ?_; simp [*]; omega)
    | (refine wk_eq ?_; split <;> simp_all [skipV]; done)
    | (exfalso; omega)

theorem may_iff {n x y : Int} {l : List Cl} (h : mayB n x y l = true) : n ≤ 100000 ∧ RightL n l ∧ 0 ≤ x ∧ x < n ∧ 0 ≤ y ∧ y < n := by
  simp only [mayB, Bool.and_eq_true, decide_eq_true_eq] at h
  obtain ⟨h1, h2, h3⟩ := h
  rw [check_eq, right_iff] at h2
  exact ⟨h1, h2, h3⟩

/-! RegionsCheck, RegionsLess -/

theorem regionsCheck_ok (n : Int) (l : List Cl) (nl : Bool) (hl : l.length ≤ 140737488355328) :
    ACalls Try.prog 3 [.sc (.int .i64 n), clsV l .unk nl] noAS IsTrue No := by
  have hw := fun σ => wakes_ok σ
  by_cases h50 : 50 < l.length
  · have h50' : (50 < (l.length : Int)) = True := by simp; omega
    simp only [clsV]
    refine ACalls.of_body Try.func3 rfl rfl (by simp [Try.ntmps3]) ?_
    repeat (first
      | (with_reducible apply AWp.seq)
      | (with_reducible apply AWp.block)
      | ((with_reducible apply AWp.fork); simp -implicitDefEqProofs [h50'])
      | ((with_reducible apply AWp.region); simp -implicitDefEqProofs [h50'])
      | (with_reducible refine And.intro (by first | omega | assumption | decide) ?_)
      | ((with_reducible show condK _ _ _); simp -implicitDefEqProofs [h50'])
      | ((with_reducible show guardK _ _ _ _ _ _ _ _ _); simp -implicitDefEqProofs [h50'])
      | ((with_reducible apply aCall.id); first
          | ((apply aCall.gives (hw _)); simp -implicitDefEqProofs [h50']))
      | ((with_reducible apply AWp.ret); try simp -implicitDefEqProofs [h50'])
      | ((with_reducible apply AWp.skip); try simp -implicitDefEqProofs [h50'])
      | ((with_reducible apply AWp.exit); try simp -implicitDefEqProofs [h50']))
  · have h50' : (50 < (l.length : Int)) = False := by simp; omega
    have hco := fun σ => copied_ok l .unk nl (by omega) σ
    have hc := fun σ => check_ok n l .unk false hl σ
    have hr := fun σ => rcheck_ok n l .unk nl hl σ
    rw [check_eq] at hr
    generalize checkS (aloneS n) fitsS l = r at *
    simp only [clsV] at hco hc hr ⊢
    refine ACalls.of_body Try.func3 rfl rfl (by simp [Try.ntmps3]) ?_
    repeat (first
      | (with_reducible apply AWp.seq)
      | (with_reducible apply AWp.block)
      | ((with_reducible apply AWp.fork); simp -implicitDefEqProofs [h50'])
      | ((with_reducible apply AWp.region); simp -implicitDefEqProofs [h50'])
      | (with_reducible refine And.intro (by first | omega | assumption | decide) ?_)
      | ((with_reducible show condK _ _ _); simp -implicitDefEqProofs [h50'])
      | ((with_reducible show guardK _ _ _ _ _ _ _ _ _); simp -implicitDefEqProofs [h50'])
      | ((with_reducible apply aCall.id); first
          | ((apply aCall.gives (hw _)); simp -implicitDefEqProofs [h50'])
          | ((apply aCall.gives (hco _)); simp -implicitDefEqProofs [h50'])
          | ((apply aCall.gives (hc _)); simp -implicitDefEqProofs [h50'])
          | ((apply aCall.gives (hr _)); simp -implicitDefEqProofs [h50']))
      | ((with_reducible apply AWp.ret); try simp -implicitDefEqProofs [h50'])
      | ((with_reducible apply AWp.skip); try simp -implicitDefEqProofs [h50'])
      | ((with_reducible apply AWp.exit); try simp -implicitDefEqProofs [h50']))

theorem inside_mono {s : Sn} {n : Int} (h : insideS s n = true) : insideS s (n + 1) = true := by
  simp only [insideS, Bool.and_eq_true, decide_eq_true_eq] at h ⊢; omega
theorem alone_mono {n : Int} {c : Cl} (h : aloneS n c = 0) : aloneS (n + 1) c = 0 := by
  unfold aloneS at h ⊢
  split at h
  · cases h
  rename_i h1
  split at h
  · cases h
  rename_i h2
  split at h
  · cases h
  rename_i h3
  rw [if_neg ?_, if_neg h2, if_neg h3]
  simp only [Bool.or_eq_true, Bool.not_eq_true', not_or, Bool.not_eq_false, Bool.not_eq_true, decide_eq_true_eq] at h1 ⊢
  refine ⟨h1.1, h1.2.1, inside_mono h1.2.2.1, inside_mono h1.2.2.2⟩
theorem less_ok {n : Int} {l : List Cl} (h : RightL n l) (m : Nat) : checkS (aloneS (n + 1)) fitsS (l.take m) = ((0 : Int), (0 : Int)) ∨ (checkS (aloneS (n + 1)) fitsS (l.take m)).2 = 0 := by
  right
  rw [right_iff]
  refine ⟨by have := h.1; simp; omega, fun c hc => alone_mono (h.2.1 c (List.mem_of_mem_take hc)), h.2.2.sublist (List.take_sublist _ _)⟩

theorem regionsLess_ok (n : Int) (l : List Cl) (nl : Bool) (k : Int) (hk0 : 0 ≤ k) (hk : k < 256) (hn : -9223372036854775808 ≤ n) (hl : l.length ≤ 140737488355328) :
    ACalls Try.prog 4 [.sc (.int .i64 n), clsV l .unk nl, .sc (.int .u8 k)] noAS IsTrue No := by
  have hw := fun σ => wakes_ok σ
  have hr := fun σ => right_ok n l .unk nl hl σ
  by_cases h20 : 20 < l.length
  · have h20' : (20 < (l.length : Int)) = True := by simp; omega
    simp only [clsV]
    refine ACalls.of_body Try.func4 rfl rfl (by simp [Try.ntmps4]) ?_
    repeat (first
      | (with_reducible apply AWp.seq)
      | (with_reducible apply AWp.block)
      | ((with_reducible apply AWp.fork); simp -implicitDefEqProofs [h20'])
      | ((with_reducible apply AWp.region); simp -implicitDefEqProofs [h20'])
      | (with_reducible refine And.intro (by first | omega | assumption | decide) ?_)
      | ((with_reducible show condK _ _ _); simp -implicitDefEqProofs [h20'])
      | ((with_reducible show guardK _ _ _ _ _ _ _ _ _); simp -implicitDefEqProofs [h20'])
      | ((with_reducible apply aCall.id); first
          | ((apply aCall.gives (hw _)); simp -implicitDefEqProofs [h20']))
      | ((with_reducible apply AWp.ret); try simp -implicitDefEqProofs [h20'])
      | ((with_reducible apply AWp.skip); try simp -implicitDefEqProofs [h20'])
      | ((with_reducible apply AWp.exit); try simp -implicitDefEqProofs [h20']))
  have h20' : (20 < (l.length : Int)) = False := by simp; omega
  by_cases hn1 : 100000 < n
  · simp only [clsV]
    refine ACalls.of_body Try.func4 rfl rfl (by simp [Try.ntmps4]) ?_
    repeat (first
      | (with_reducible apply AWp.seq)
      | (with_reducible apply AWp.block)
      | ((with_reducible apply AWp.fork); simp -implicitDefEqProofs [h20', hn1])
      | ((with_reducible apply AWp.region); simp -implicitDefEqProofs [h20', hn1])
      | (with_reducible refine And.intro (by first | omega | assumption | decide) ?_)
      | ((with_reducible show condK _ _ _); simp -implicitDefEqProofs [h20', hn1])
      | ((with_reducible show guardK _ _ _ _ _ _ _ _ _); simp -implicitDefEqProofs [h20', hn1])
      | ((with_reducible apply aCall.id); first
          | ((apply aCall.gives (hw _)); simp -implicitDefEqProofs [h20', hn1]))
      | ((with_reducible apply AWp.ret); try simp -implicitDefEqProofs [h20', hn1])
      | ((with_reducible apply AWp.skip); try simp -implicitDefEqProofs [h20', hn1])
      | ((with_reducible apply AWp.exit); try simp -implicitDefEqProofs [h20', hn1]))
  by_cases hR : (checkS (aloneR n) fitsR l).2 = 0
  · have hR' := decide_eq_true hR
    rw [hR'] at hr
    rw [check_eq, right_iff] at hR
    obtain ⟨m, hm⟩ : ∃ m : Nat, (m : Int) = k.tmod ((l.length : Int) + 1) := by
      have := Int.tmod_nonneg ((l.length : Int) + 1) hk0
      exact ⟨(k.tmod ((l.length : Int) + 1)).toNat, by omega⟩
    have hml : m ≤ l.length := by
      have := Int.tmod_lt_of_pos k (b := (l.length : Int) + 1) (by omega)
      omega
    have hco := fun o σ => copied_ok (l.take m) o nl (by simp; omega) σ
    have hc := fun σ => check_ok (n + 1) (l.take m) .unk false (by simp; omega) σ
    have hz : (checkS (aloneS (n + 1)) fitsS (l.take m)).2 = 0 := (less_ok hR m).elim (fun h => by rw [h]) id
    have hw1 : IntKind.i64.wrap (n + 1) = n + 1 := in_i64 (by omega) (by omega)
    have hw2 : IntKind.i64.wrap ((l.length : Int) + 1) = (l.length : Int) + 1 := in_i64 (by omega) (by omega)
    have hw3 : IntKind.i64.wrap k = k := in_i64 (by omega) (by omega)
    simp only [clsV, List.map_take, hz] at hr hco hc ⊢
    refine ACalls.of_body Try.func4 rfl rfl (by simp [Try.ntmps4]) ?_
    repeat (first
      | (with_reducible apply AWp.seq)
      | (with_reducible apply AWp.block)
      | ((with_reducible apply AWp.fork); simp -implicitDefEqProofs [h20', hn1, hw1, hw2, hw3, ← hm, hml])
      | ((with_reducible apply AWp.region); simp -implicitDefEqProofs [h20', hn1, hw1, hw2, hw3, ← hm, hml])
      | (with_reducible refine And.intro (by first | omega | assumption | decide) ?_)
      | ((with_reducible show condK _ _ _); simp -implicitDefEqProofs [h20', hn1, hw1, hw2, hw3, ← hm, hml])
      | ((with_reducible show guardK _ _ _ _ _ _ _ _ _); simp -implicitDefEqProofs [h20', hn1, hw1, hw2, hw3, ← hm, hml])
      | ((with_reducible apply aCall.id); first
          | ((apply aCall.gives (hw _)); simp -implicitDefEqProofs [h20', hn1, hw1, hw2, hw3, ← hm, hml])
          | ((apply aCall.gives (hr _)); simp -implicitDefEqProofs [h20', hn1, hw1, hw2, hw3, ← hm, hml])
          | ((apply aCall.gives (hco _ _)); simp -implicitDefEqProofs [h20', hn1, hw1, hw2, hw3, ← hm, hml])
          | ((apply aCall.gives (hc _)); simp -implicitDefEqProofs [h20', hn1, hw1, hw2, hw3, ← hm, hml]))
      | ((with_reducible apply AWp.ret); try simp -implicitDefEqProofs [h20', hn1, hw1, hw2, hw3, ← hm, hml])
      | ((with_reducible apply AWp.skip); try simp -implicitDefEqProofs [h20', hn1, hw1, hw2, hw3, ← hm, hml])
      | ((with_reducible apply AWp.exit); try simp -implicitDefEqProofs [h20', hn1, hw1, hw2, hw3, ← hm, hml]))
  · have hR' := decide_eq_false hR
    rw [hR'] at hr
    simp only [clsV] at hr ⊢
    refine ACalls.of_body Try.func4 rfl rfl (by simp [Try.ntmps4]) ?_
    repeat (first
      | (with_reducible apply AWp.seq)
      | (with_reducible apply AWp.block)
      | ((with_reducible apply AWp.fork); simp -implicitDefEqProofs [h20', hn1])
      | ((with_reducible apply AWp.region); simp -implicitDefEqProofs [h20', hn1])
      | (with_reducible refine And.intro (by first | omega | assumption | decide) ?_)
      | ((with_reducible show condK _ _ _); simp -implicitDefEqProofs [h20', hn1])
      | ((with_reducible show guardK _ _ _ _ _ _ _ _ _); simp -implicitDefEqProofs [h20', hn1])
      | ((with_reducible apply aCall.id); first
          | ((apply aCall.gives (hw _)); simp -implicitDefEqProofs [h20', hn1])
          | ((apply aCall.gives (hr _)); simp -implicitDefEqProofs [h20', hn1]))
      | ((with_reducible apply AWp.ret); try simp -implicitDefEqProofs [h20', hn1])
      | ((with_reducible apply AWp.skip); try simp -implicitDefEqProofs [h20', hn1])
      | ((with_reducible apply AWp.exit); try simp -implicitDefEqProofs [h20', hn1]))

end Go.Proofs.Ythbmjmdmamapiaa
