/- The document: Whole, Field, types. -/
import Derived.Test.YtplphldpkliakaaSigG
set_option linter.unusedSimpArgs false
set_option linter.unusedVariables false
set_option maxRecDepth 100000
set_option maxHeartbeats 3200000
namespace Go.Proofs.Ytplphldpkliakaa
namespace Sg
open Go Go.AW
abbrev sc_31_4_XSigH : Sch := (Sch.step 0 (Sch.step 2 (Sch.read 1 (Sch.alt 3 (Sch.alt 4 (Sch.step 5 Sch.done) Sch.none) (Sch.alt 4 (Sch.read 3 (Sch.step 5 Sch.done)) Sch.none)))))

theorem rwhole_ok (b : List UInt8) (o : Own) (nl : Bool) (hl : b.length ≤ 100000) (σ : AS) :
    ACalls Try.prog 31 [.lst 5 (b.map u8) o nl] σ (Gives (.tup [tyV (resT (getS b)), .sc (.int .i64 (resE (getS b)))]) σ) No := by
  have hg := fun σ => rget_ok b o nl 0 hl (by omega) σ
  refine ACalls.of_body Try.func31 rfl rfl (by simp [Try.ntmps31]) ?_
  repeat (first
    | (with_reducible first | apply AWp.seq | apply AWp.block | refine And.intro (by first | omega | assumption | decide) ?_)
    | ((first | (with_reducible first | apply AWp.fork | apply AWp.region) | ((with_reducible apply AWp.drawS (id := 4) (t := sc_31_4_XSigH)); (exact mixed); kernel_rfl; kernel_rfl; (repeat (with_reducible first | apply PanQ.then | apply PanQ.block | apply PanQ.body | apply PanQ.no)))); simp -implicitDefEqProofs)
    | ((with_reducible first | apply AWp.ret | apply AWp.skip | apply AWp.exit); try simp -implicitDefEqProofs))
  intro id2 h_id2
  unfold getS
  cases hT : eTy b 0 with
  | error e =>
    have he := eTy_err hT
    rw [hT, gotV_err] at hg
    repeat (first
      | (with_reducible first | apply AWp.seq | apply AWp.block | refine And.intro (by first | omega | assumption | decide) ?_)
      | ((first | (with_reducible first | apply AWp.fork | apply AWp.region) | ((with_reducible apply AWp.drawS (id := 4) (t := sc_31_4_XSigH)); (exact mixed); kernel_rfl; kernel_rfl; (repeat (with_reducible first | apply PanQ.then | apply PanQ.block | apply PanQ.body | apply PanQ.no))) | ((with_reducible apply aCall.id); first | apply aCall.gives (hg _))); simp -implicitDefEqProofs)
      | ((with_reducible first | apply AWp.ret | apply AWp.skip | apply AWp.exit); try simp -implicitDefEqProofs))
    intro id4 n_id4_id2 h_id4
    have n_id2_id4 : ¬ id2 = id4 := fun e => n_id4_id2 e.symm
    simp only [eEnd, resT, resE, tyV_def]
    repeat (first
      | (with_reducible first | apply AWp.seq | apply AWp.block | refine And.intro (by first | omega | assumption | decide) ?_)
      | ((first | (with_reducible first | apply AWp.fork | apply AWp.region | show condK _ _ _ | show guardK _ _ _ _ _ _ _ _ _) | ((with_reducible apply AWp.drawS (id := 4) (t := sc_31_4_XSigH)); (exact mixed); kernel_rfl; kernel_rfl; (repeat (with_reducible first | apply PanQ.then | apply PanQ.block | apply PanQ.body | apply PanQ.no)))); simp -implicitDefEqProofs [he, n_id4_id2, n_id2_id4])
      | ((with_reducible first | apply AWp.ret | apply AWp.skip | apply AWp.exit); try simp -implicitDefEqProofs [he, n_id4_id2, n_id2_id4]))
    exact AS.le_set (AS.le_set (AS.le_refl _) h_id2) (by simp [*])
  | ok y =>
    obtain ⟨t, a⟩ := y
    rw [hT, gotV_ok] at hg
    repeat (first
      | (with_reducible first | apply AWp.seq | apply AWp.block | refine And.intro (by first | omega | assumption | decide) ?_)
      | ((first | (with_reducible first | apply AWp.fork | apply AWp.region) | ((with_reducible apply AWp.drawS (id := 4) (t := sc_31_4_XSigH)); (exact mixed); kernel_rfl; kernel_rfl; (repeat (with_reducible first | apply PanQ.then | apply PanQ.block | apply PanQ.body | apply PanQ.no))) | ((with_reducible apply aCall.id); first | apply aCall.gives (hg _))); simp -implicitDefEqProofs)
      | ((with_reducible first | apply AWp.ret | apply AWp.skip | apply AWp.exit); try simp -implicitDefEqProofs))
    intro id4 n_id4_id2 h_id4
    have n_id2_id4 : ¬ id2 = id4 := fun e => n_id4_id2 e.symm
    by_cases hlt : a < b.length
    · simp only [eEnd, if_pos hlt, resT, resE, tyV_def]
      repeat (first
        | (with_reducible first | apply AWp.seq | apply AWp.block | refine And.intro (by first | omega | assumption | decide) ?_)
        | ((first | (with_reducible first | apply AWp.fork | apply AWp.region | show condK _ _ _ | show guardK _ _ _ _ _ _ _ _ _) | ((with_reducible apply AWp.drawS (id := 4) (t := sc_31_4_XSigH)); (exact mixed); kernel_rfl; kernel_rfl; (repeat (with_reducible first | apply PanQ.then | apply PanQ.block | apply PanQ.body | apply PanQ.no)))); simp -implicitDefEqProofs [hlt, n_id4_id2, n_id2_id4])
        | ((with_reducible first | apply AWp.ret | apply AWp.skip | apply AWp.exit); try simp -implicitDefEqProofs [hlt, n_id4_id2, n_id2_id4]))
      exact AS.le_set (AS.le_set (AS.le_refl _) h_id2) (by simp [*])
    · simp only [eEnd, if_neg hlt, resT, resE, tyV_def]
      repeat (first
        | (with_reducible first | apply AWp.seq | apply AWp.block | refine And.intro (by first | omega | assumption | decide) ?_)
        | ((first | (with_reducible first | apply AWp.fork | apply AWp.region | show condK _ _ _ | show guardK _ _ _ _ _ _ _ _ _) | ((with_reducible apply AWp.drawS (id := 4) (t := sc_31_4_XSigH)); (exact mixed); kernel_rfl; kernel_rfl; (repeat (with_reducible first | apply PanQ.then | apply PanQ.block | apply PanQ.body | apply PanQ.no)))); simp -implicitDefEqProofs [hlt, n_id4_id2, n_id2_id4])
        | ((with_reducible first | apply AWp.ret | apply AWp.skip | apply AWp.exit); try simp -implicitDefEqProofs [hlt, n_id4_id2, n_id2_id4]))
      exact AS.le_set (AS.le_set (AS.le_refl _) h_id2) (by simp [*])

theorem rfield_ok (b : List UInt8) (o : Own) (nl : Bool) (hl : b.length ≤ 100000) (σ : AS) :
    ACalls Try.prog 32 [.lst 5 (b.map u8) o nl] σ (Gives (.tup [tyV (resT (fldS b)), .sc (.int .i64 (resE (fldS b)))]) σ) No := by
  refine ACalls.of_body Try.func32 rfl rfl (by simp [Try.ntmps32]) ?_
  cases b with
  | nil =>
    repeat (first
      | (with_reducible first | apply AWp.seq | apply AWp.block | refine And.intro (by first | omega | assumption | decide) ?_)
      | ((first | (with_reducible first | apply AWp.fork | apply AWp.region)); simp -implicitDefEqProofs)
      | ((with_reducible first | apply AWp.ret | apply AWp.skip | apply AWp.exit); try simp -implicitDefEqProofs))
    intro id2 h_id2
    repeat (first
      | (with_reducible first | apply AWp.seq | apply AWp.block | refine And.intro (by first | omega | assumption | decide) ?_)
      | ((first | (with_reducible first | apply AWp.fork | apply AWp.region)); simp -implicitDefEqProofs)
      | ((with_reducible first | apply AWp.ret | apply AWp.skip | apply AWp.exit); try simp -implicitDefEqProofs))
    simp [fldS, resT, resE, tyV_def]
    exact le_new h_id2 (AS.le_refl _)
  | cons c r =>
    have hz := u8_eq (c := c) (n := 6) (by omega)
    have hrl : ((r.length : Int) + 1 = 0) = False := eq_false (by omega)
    by_cases h6 : c = 6
    · have z : ((c.toNat : Int) = 6) = True := hz.trans (eq_true h6)
      have hg := fun o nl σ => rwhole_ok r o nl (by simp at hl; omega) σ
      have htk : List.take r.length (List.map u8 r) = List.map u8 r := List.take_of_length_le (by simp)
      have hF : fldS (c :: r) = match getS r with | .error e => .error e | .ok t => if fieldT' t = true then .ok t else .error 10 := by subst h6; simp only [fldS, if_true]; cases getS r <;> rfl
      rw [hF]
      cases hG : getS r with
      | error e =>
        have he := getS_err hG
        rw [hG] at hg
        simp only [resT, resE, tyV_def] at hg ⊢
        repeat (first
          | (with_reducible first | apply AWp.seq | apply AWp.block | refine And.intro (by first | omega | assumption | decide) ?_)
          | ((first | (with_reducible first | apply AWp.fork | apply AWp.region | show condK _ _ _ | show guardK _ _ _ _ _ _ _ _ _)); simp -implicitDefEqProofs [z, hrl])
          | ((with_reducible first | apply AWp.ret | apply AWp.skip | apply AWp.exit); try simp -implicitDefEqProofs [z, hrl]))
        intro id2 h_id2
        repeat (first
          | (with_reducible first | apply AWp.seq | apply AWp.block | refine And.intro (by first | omega | assumption | decide) ?_)
          | ((first | (with_reducible first | apply AWp.fork | apply AWp.region | show condK _ _ _ | show guardK _ _ _ _ _ _ _ _ _) | ((with_reducible apply aCall.id); first | apply aCall.gives (hg _ _ _))); simp -implicitDefEqProofs [z, hrl, htk])
          | ((with_reducible first | apply AWp.ret | apply AWp.skip | apply AWp.exit); try simp -implicitDefEqProofs [z, hrl, htk]))
        intro id4 n_id4_id2 h_id4
        have n_id2_id4 : ¬ id2 = id4 := fun e => n_id4_id2 e.symm
        repeat (first
          | (with_reducible first | apply AWp.seq | apply AWp.block | refine And.intro (by first | omega | assumption | decide) ?_)
          | ((first | (with_reducible first | apply AWp.fork | apply AWp.region | show condK _ _ _ | show guardK _ _ _ _ _ _ _ _ _)); simp -implicitDefEqProofs [he, n_id4_id2, n_id2_id4])
          | ((with_reducible first | apply AWp.ret | apply AWp.skip | apply AWp.exit); try simp -implicitDefEqProofs [he, n_id4_id2, n_id2_id4]))
        exact AS.le_set (AS.le_set (AS.le_refl _) h_id2) (by simp [*])
      | ok t =>
        rw [hG] at hg
        have hw := fun σ => rwhere_ok t 1 σ
        simp only [resT, resE, tyV_def] at hg hw ⊢
        have hwf : whereT t 1 = fieldT' t := by unfold whereT fieldT' localT; cases plainT t <;> simp
        rw [hwf] at hw
        repeat (first
          | (with_reducible first | apply AWp.seq | apply AWp.block | refine And.intro (by first | omega | assumption | decide) ?_)
          | ((first | (with_reducible first | apply AWp.fork | apply AWp.region | show condK _ _ _ | show guardK _ _ _ _ _ _ _ _ _)); simp -implicitDefEqProofs [z, hrl])
          | ((with_reducible first | apply AWp.ret | apply AWp.skip | apply AWp.exit); try simp -implicitDefEqProofs [z, hrl]))
        intro id2 h_id2
        repeat (first
          | (with_reducible first | apply AWp.seq | apply AWp.block | refine And.intro (by first | omega | assumption | decide) ?_)
          | ((first | (with_reducible first | apply AWp.fork | apply AWp.region | show condK _ _ _ | show guardK _ _ _ _ _ _ _ _ _) | ((with_reducible apply aCall.id); first | apply aCall.gives (hg _ _ _))); simp -implicitDefEqProofs [z, hrl, htk])
          | ((with_reducible first | apply AWp.ret | apply AWp.skip | apply AWp.exit); try simp -implicitDefEqProofs [z, hrl, htk]))
        intro id4 n_id4_id2 h_id4
        have n_id2_id4 : ¬ id2 = id4 := fun e => n_id4_id2 e.symm
        cases hf : fieldT' t with
        | true =>
          rw [hf] at hw
          repeat (first
            | (with_reducible first | apply AWp.seq | apply AWp.block | refine And.intro (by first | omega | assumption | decide) ?_)
            | ((first | (with_reducible first | apply AWp.fork | apply AWp.region | show condK _ _ _ | show guardK _ _ _ _ _ _ _ _ _) | ((with_reducible apply aCall.id); first | apply aCall.gives (hw _))); simp -implicitDefEqProofs [n_id4_id2, n_id2_id4])
            | ((with_reducible first | apply AWp.ret | apply AWp.skip | apply AWp.exit); try simp -implicitDefEqProofs [n_id4_id2, n_id2_id4]))
          exact AS.le_set (AS.le_set (AS.le_refl _) h_id2) (by simp [*])
        | false =>
          rw [hf] at hw
          repeat (first
            | (with_reducible first | apply AWp.seq | apply AWp.block | refine And.intro (by first | omega | assumption | decide) ?_)
            | ((first | (with_reducible first | apply AWp.fork | apply AWp.region | show condK _ _ _ | show guardK _ _ _ _ _ _ _ _ _) | ((with_reducible apply aCall.id); first | apply aCall.gives (hw _))); simp -implicitDefEqProofs [n_id4_id2, n_id2_id4])
            | ((with_reducible first | apply AWp.ret | apply AWp.skip | apply AWp.exit); try simp -implicitDefEqProofs [n_id4_id2, n_id2_id4]))
          exact AS.le_set (AS.le_set (AS.le_refl _) h_id2) (by simp [*])
    · have z : ((c.toNat : Int) = 6) = False := hz.trans (eq_false h6)
      have hF : fldS (c :: r) = .error 2 := by simp only [fldS, if_neg h6]
      rw [hF]
      simp only [resT, resE, tyV_def]
      repeat (first
        | (with_reducible first | apply AWp.seq | apply AWp.block | refine And.intro (by first | omega | assumption | decide) ?_)
        | ((first | (with_reducible first | apply AWp.fork | apply AWp.region | show condK _ _ _ | show guardK _ _ _ _ _ _ _ _ _)); simp -implicitDefEqProofs [z, hrl])
        | ((with_reducible first | apply AWp.ret | apply AWp.skip | apply AWp.exit); try simp -implicitDefEqProofs [z, hrl]))
      intro id2 h_id2
      repeat (first
        | (with_reducible first | apply AWp.seq | apply AWp.block | refine And.intro (by first | omega | assumption | decide) ?_)
        | ((first | (with_reducible first | apply AWp.fork | apply AWp.region | show condK _ _ _ | show guardK _ _ _ _ _ _ _ _ _)); simp -implicitDefEqProofs [z, hrl])
        | ((with_reducible first | apply AWp.ret | apply AWp.skip | apply AWp.exit); try simp -implicitDefEqProofs [z, hrl]))
      exact le_new h_id2 (AS.le_refl _)

def lsR (d : List Ty) (q e : Int) (o : Own) : ABlk := .cells 100 [.lst 24 (d.map tyV) o (decide (d = [])), .sc (.int .i64 q), .sc (.int .i64 e)]
theorem lsR_def (d : List Ty) (q e : Int) (o : Own) : lsR d q e o = .cells 100 [.lst 24 (d.map tyV) o (decide (d = [])), .sc (.int .i64 q), .sc (.int .i64 e)] := rfl
def lsV : Except Int (List Ty × Nat) → AV
  | .error e => .agg [tyL [], .sc (.int .i64 0), .sc (.int .i64 e)]
  | .ok (l, a) => .agg [tyL l, .sc (.int .i64 a), .sc (.int .i64 0)]
theorem lsV_err (e : Int) : lsV (.error e) = .agg [tyL [], .sc (.int .i64 0), .sc (.int .i64 e)] := rfl
theorem lsV_ok (l : List Ty) (a : Nat) : lsV (.ok (l, a)) = .agg [tyL l, .sc (.int .i64 a), .sc (.int .i64 0)] := rfl
theorem Wk_agg3 {P : Program} {a b c a' b' c' : AV} (h1 : AV.Wk P a a') (h2 : AV.Wk P b b') (h3 : AV.Wk P c c') : AV.Wk P (.agg [a, b, c]) (.agg [a', b', c']) := by
  intro G v h
  cases h with
  | agg vs l h =>
    refine .agg vs l fun i hi => ?_
    match i, hi with
    | 0, _ => exact h1 G _ (h 0 (by simp))
    | 1, _ => exact h2 G _ (h 1 (by simp))
    | 2, _ => exact h3 G _ (h 2 (by simp))
theorem Wk_tokT (l : List Ty) (o : Own) : AV.Wk Try.prog (.lst 24 (l.map tyV) o (decide (l = []))) (tyL l) := by
  exact Wk_unk _ _ _ _ |>.2 trivial

theorem rtypes_ok (n : Nat) (hn : n ≤ 100) (b : List UInt8) (a : Nat) (o : Own) (nl : Bool) (σ : AS) (ha : a ≤ b.length) (hb : b.length ≤ 100000) :
    ACalls Try.prog 62 [.lst 5 (b.map u8) o nl, .sc (.int .i64 a), .sc (.int .i64 n)] σ (Gives (lsV (eList b n a)) σ) No := by
  have hg := fun q hq σ => rget_ok b o nl q hb hq σ
  have hw := fun t σ => rwhere_ok t 2 σ
  have hwl : ∀ t, whereT t 2 = localT t := fun t => by unfold whereT localT; cases plainT t <;> simp
  simp only [hwl, tyV_def] at hw
  refine ACalls.of_body Try.func62 rfl rfl (by simp [Try.ntmps62]) ?_
  repeat (first
    | (with_reducible first | apply AWp.seq | apply AWp.block | refine And.intro (by first | omega | assumption | decide) ?_)
    | ((first | (with_reducible first | apply AWp.fork | apply AWp.region | show condK _ _ _ | show guardK _ _ _ _ _ _ _ _ _)); simp -implicitDefEqProofs [ci_lt, ci_le])
    | ((with_reducible first | apply AWp.ret | apply AWp.skip | apply AWp.exit); try simp -implicitDefEqProofs [ci_lt, ci_le]))
  intro id6 h_id6
  repeat (first
    | (with_reducible first | apply AWp.seq | apply AWp.block | refine And.intro (by first | omega | assumption | decide) ?_)
    | ((first | (with_reducible first | apply AWp.fork | apply AWp.region | show condK _ _ _ | show guardK _ _ _ _ _ _ _ _ _)); simp -implicitDefEqProofs [ci_lt, ci_le])
    | ((with_reducible first | apply AWp.ret | apply AWp.skip | apply AWp.exit); try simp -implicitDefEqProofs [ci_lt, ci_le]))
  intro id7 n_id7_id6 h_id7
  have n_id6_id7 : ¬ id6 = id7 := fun e => n_id7_id6 e.symm
  repeat (first
    | (with_reducible first | apply AWp.seq | apply AWp.block | refine And.intro (by first | omega | assumption | decide) ?_)
    | ((first | (with_reducible first | apply AWp.fork | apply AWp.region | show condK _ _ _ | show guardK _ _ _ _ _ _ _ _ _)); simp -implicitDefEqProofs [ci_lt, ci_le, n_id7_id6, n_id6_id7])
    | ((with_reducible first | apply AWp.ret | apply AWp.skip | apply AWp.exit); try simp -implicitDefEqProofs [ci_lt, ci_le, n_id7_id6, n_id6_id7]))
  refine AWp.mintC id7 0 24 [] true (ty := 100) (cs := [.nilS, .sc (.int .i64 a), .sc (.int .i64 0)]) (by simp) (by simp) (.inr ⟨by simp, rfl, rfl⟩) ?_
  simp -implicitDefEqProofs [ci_lt, ci_le, n_id7_id6, n_id6_id7]
  intro tk n_tk_id7 n_tk_id6 h_tk
  have n_id7_tk : ¬ id7 = tk := fun e => n_tk_id7 e.symm
  have n_id6_tk : ¬ id6 = tk := fun e => n_tk_id6 e.symm
  have hle : ∀ x y z, AS.le σ (((σ.set id6 x).set id7 y).set tk z) := fun x y z => AS.le_set (AS.le_set (AS.le_set (AS.le_refl _) h_id6) (by simp [*])) (by simp [*])
  refine AWp.loopA (α := (Nat) × (List Ty) × (Nat)) ((0, [], a)) (fun ⟨i, d, q⟩ => n - i) (fun ⟨i, d, q⟩ => i ≤ n ∧ d.length = i ∧ preT d (eList b (n - i) q) = eList b n a ∧ q ≤ b.length) [(0, ?_), (2, ?_), (6, ?_), (7, ?_)] (fun ⟨i, d, q⟩ => [(8, .sc (.int .i64 i))]) (fun ⟨i, d, q⟩ => ((σ.set id6 (.cells 100 [.nilS, .sc (.int .i64 0), .sc (.int .i64 0)])).set id7 (lsR d q 0 (.tok tk))).set tk (.tok d.length)) ?_ ?_ ?_ ?_
  rotate_left 4
  · (try dsimp only); (simp only [List.cons_append, List.nil_append]; repeat (first | exact FrWk.nil | refine FrWk.cons (by first | (simp -implicitDefEqProofs [ci_lt, ci_le, n_id7_id6, n_id6_id7, n_tk_id6, n_tk_id7, n_id6_tk, n_id7_tk]; done) | exact Wk.of (by (try simp -implicitDefEqProofs [ci_lt, ci_le, n_id7_id6, n_id6_id7, n_tk_id6, n_tk_id7, n_id6_tk, n_id7_tk]) <;> rfl)) ?_))
  · (try dsimp only); (simp [lsR_def]; done)
  · exact ⟨by omega, rfl, by simp; cases eList b n a <;> simp [preT], ha⟩
  intro x_ hx_
  obtain ⟨i, d, q⟩ := x_
  try dsimp only at hx_ ⊢
  obtain ⟨hi, hd, hX, hq⟩ := hx_
  simp only [List.cons_append, List.nil_append]
  by_cases hlt : i < n
  · have wi_i : IntKind.i64.wrap ((i : Int) + 1) = ((i + 1 : Nat) : Int) := ci_wi (by omega)
    obtain ⟨k, hk⟩ : ∃ k, n - i = k + 1 := ⟨n - i - 1, by omega⟩
    rw [hk, preT_step] at hX
    rw [← hX]
    have hdl : d.length ≤ 100 := by omega
    unfold eMay at hX ⊢
    cases hM : eTy b q with
    | error e =>
      have hg1 := fun σ => hg q hq σ
      rw [hM, gotV_err] at hg1
      have he := eTy_err hM
      repeat (first
        | (with_reducible first | apply AWp.seq | apply AWp.block | refine And.intro (by first | omega | assumption | decide) ?_)
        | ((first | (with_reducible first | apply AWp.fork | apply AWp.region | show condK _ _ _ | show guardK _ _ _ _ _ _ _ _ _) | ((with_reducible apply aCall.id); first | apply aCall.gives (hg1 _))); simp -implicitDefEqProofs [hlt, lsR_def, ci_lt, ci_le, n_id7_id6, n_id6_id7, n_tk_id6, n_tk_id7, n_id6_tk, n_id7_tk, wi_i])
        | ((with_reducible first | apply AWp.ret | apply AWp.skip | apply AWp.exit); try simp -implicitDefEqProofs [hlt, lsR_def, ci_lt, ci_le, n_id7_id6, n_id6_id7, n_tk_id6, n_tk_id7, n_id6_tk, n_id7_tk, wi_i]))
      intro id9 n_id9_tk n_id9_id7 n_id9_id6 h_id9
      have n_tk_id9 : ¬ tk = id9 := fun e => n_id9_tk e.symm
      have n_id7_id9 : ¬ id7 = id9 := fun e => n_id9_id7 e.symm
      have n_id6_id9 : ¬ id6 = id9 := fun e => n_id9_id6 e.symm
      repeat (first
        | (with_reducible first | apply AWp.seq | apply AWp.block | refine And.intro (by first | omega | assumption | decide) ?_)
        | ((first | (with_reducible first | apply AWp.fork | apply AWp.region | show condK _ _ _ | show guardK _ _ _ _ _ _ _ _ _)); simp -implicitDefEqProofs [he, ci_lt, ci_le, n_id7_id6, n_id6_id7, n_tk_id6, n_tk_id7, n_id6_tk, n_id7_tk, wi_i, n_id9_tk, n_tk_id9, n_id9_id7, n_id7_id9, n_id9_id6, n_id6_id9])
        | ((with_reducible first | apply AWp.ret | apply AWp.skip | apply AWp.exit); try simp -implicitDefEqProofs [he, ci_lt, ci_le, n_id7_id6, n_id6_id7, n_tk_id6, n_tk_id7, n_id6_tk, n_id7_tk, wi_i, n_id9_tk, n_tk_id9, n_id9_id7, n_id7_id9, n_id9_id6, n_id6_id9]))
      rw [lsV_err]
      exact ⟨Wk_agg3 Wk_nilT (Wk.refl _) (Wk.refl _), AS.le_set (hle _ _ _) (by simp [*])⟩
    | ok y =>
      obtain ⟨t, q1⟩ := y
      have hg1 := fun σ => hg q hq σ
      rw [hM, gotV_ok] at hg1
      rw [hM] at hX
      simp only at hX ⊢
      have hw1 := fun σ => hw t σ
      cases hL : localT t with
      | false =>
        rw [hL] at hw1
        repeat (first
          | (with_reducible first | apply AWp.seq | apply AWp.block | refine And.intro (by first | omega | assumption | decide) ?_)
          | ((first | (with_reducible first | apply AWp.fork | apply AWp.region | show condK _ _ _ | show guardK _ _ _ _ _ _ _ _ _) | ((with_reducible apply aCall.id); first | apply aCall.gives (hg1 _) | apply aCall.gives (hw1 _))); simp -implicitDefEqProofs [hlt, lsR_def, ci_lt, ci_le, n_id7_id6, n_id6_id7, n_tk_id6, n_tk_id7, n_id6_tk, n_id7_tk, wi_i])
          | ((with_reducible first | apply AWp.ret | apply AWp.skip | apply AWp.exit); try simp -implicitDefEqProofs [hlt, lsR_def, ci_lt, ci_le, n_id7_id6, n_id6_id7, n_tk_id6, n_tk_id7, n_id6_tk, n_id7_tk, wi_i]))
        intro id9 n_id9_tk n_id9_id7 n_id9_id6 h_id9
        have n_tk_id9 : ¬ tk = id9 := fun e => n_id9_tk e.symm
        have n_id7_id9 : ¬ id7 = id9 := fun e => n_id9_id7 e.symm
        have n_id6_id9 : ¬ id6 = id9 := fun e => n_id9_id6 e.symm
        repeat (first
          | (with_reducible first | apply AWp.seq | apply AWp.block | refine And.intro (by first | omega | assumption | decide) ?_)
          | ((first | (with_reducible first | apply AWp.fork | apply AWp.region | show condK _ _ _ | show guardK _ _ _ _ _ _ _ _ _) | ((with_reducible apply aCall.id); first | apply aCall.gives (hg1 _) | apply aCall.gives (hw1 _))); simp -implicitDefEqProofs [ci_lt, ci_le, n_id7_id6, n_id6_id7, n_tk_id6, n_tk_id7, n_id6_tk, n_id7_tk, wi_i, n_id9_tk, n_tk_id9, n_id9_id7, n_id7_id9, n_id9_id6, n_id6_id9])
          | ((with_reducible first | apply AWp.ret | apply AWp.skip | apply AWp.exit); try simp -implicitDefEqProofs [ci_lt, ci_le, n_id7_id6, n_id6_id7, n_tk_id6, n_tk_id7, n_id6_tk, n_id7_tk, wi_i, n_id9_tk, n_tk_id9, n_id9_id7, n_id7_id9, n_id9_id6, n_id6_id9]))
        rw [lsV_err]
        exact ⟨Wk_agg3 Wk_nilT (Wk.refl _) (Wk.refl _), AS.le_set (hle _ _ _) (by simp [*])⟩
      | true =>
        rw [hL] at hw1
        repeat (first
          | (with_reducible first | apply AWp.seq | apply AWp.block | refine And.intro (by first | omega | assumption | decide) ?_)
          | ((first | (with_reducible first | apply AWp.fork | apply AWp.region | show condK _ _ _ | show guardK _ _ _ _ _ _ _ _ _) | ((with_reducible apply aCall.id); first | apply aCall.gives (hg1 _) | apply aCall.gives (hw1 _))); simp -implicitDefEqProofs [hlt, lsR_def, ci_lt, ci_le, n_id7_id6, n_id6_id7, n_tk_id6, n_tk_id7, n_id6_tk, n_id7_tk, wi_i])
          | ((with_reducible first | apply AWp.ret | apply AWp.skip | apply AWp.exit); try simp -implicitDefEqProofs [hlt, lsR_def, ci_lt, ci_le, n_id7_id6, n_id6_id7, n_tk_id6, n_tk_id7, n_id6_tk, n_id7_tk, wi_i]))
        intro id9 n_id9_tk n_id9_id7 n_id9_id6 h_id9
        have n_tk_id9 : ¬ tk = id9 := fun e => n_id9_tk e.symm
        have n_id7_id9 : ¬ id7 = id9 := fun e => n_id9_id7 e.symm
        have n_id6_id9 : ¬ id6 = id9 := fun e => n_id9_id6 e.symm
        repeat (first
          | (with_reducible first | apply AWp.seq | apply AWp.block | refine And.intro (by first | omega | assumption | decide) ?_)
          | ((first | (with_reducible first | apply AWp.fork | apply AWp.region | show condK _ _ _ | show guardK _ _ _ _ _ _ _ _ _) | ((with_reducible apply aCall.id); first | apply aCall.gives (hg1 _) | apply aCall.gives (hw1 _))); simp -implicitDefEqProofs [hdl, ci_lt, ci_le, n_id7_id6, n_id6_id7, n_tk_id6, n_tk_id7, n_id6_tk, n_id7_tk, wi_i, n_id9_tk, n_tk_id9, n_id9_id7, n_id7_id9, n_id9_id6, n_id6_id9])
          | ((with_reducible first | apply AWp.ret | apply AWp.skip | apply AWp.exit); try simp -implicitDefEqProofs [hdl, ci_lt, ci_le, n_id7_id6, n_id6_id7, n_tk_id6, n_tk_id7, n_id6_tk, n_id7_tk, wi_i, n_id9_tk, n_tk_id9, n_id9_id7, n_id7_id9, n_id9_id6, n_id6_id9]))
        simp only [hL, if_true] at hX ⊢
        refine stepA.mk ((i + 1, d ++ [t], q1)) (by (try dsimp only); omega) (by (try dsimp only); (simp only [List.cons_append, List.nil_append]; repeat (first | exact FrWk.nil | refine FrWk.cons (by first | (simp -implicitDefEqProofs [tyV_def, ci_lt, ci_le, n_id7_id6, n_id6_id7, n_tk_id6, n_tk_id7, n_id6_tk, n_id7_tk, wi_i, n_id9_tk, n_tk_id9, n_id9_id7, n_id7_id9, n_id9_id6, n_id6_id9]; done) | exact Wk.of (by (try simp -implicitDefEqProofs [tyV_def, ci_lt, ci_le, n_id7_id6, n_id6_id7, n_tk_id6, n_tk_id7, n_id6_tk, n_id7_tk, wi_i, n_id9_tk, n_tk_id9, n_id9_id7, n_id7_id9, n_id9_id6, n_id6_id9]) <;> rfl)) ?_))) (by (try dsimp only); (simp [lsR_def, tyV_def]; exact AS.le_set (AS.le_refl _) (by simp [*]))) ?_
        try dsimp only
        exact ⟨hlt, by simp [hd], by rw [show n - (i + 1) = k by omega], eTy_le hM⟩
  · have hkn : n - i = 0 := by omega
    rw [hkn] at hX
    have hX2 : eList b n a = .ok (d, q) := by rw [← hX]; simp [eList, preT]
    rw [hX2]
    repeat (first
      | (with_reducible first | apply AWp.seq | apply AWp.block | refine And.intro (by first | omega | assumption | decide) ?_)
      | ((first | (with_reducible first | apply AWp.fork | apply AWp.region | show condK _ _ _ | show guardK _ _ _ _ _ _ _ _ _)); simp -implicitDefEqProofs [hlt, lsR_def, ci_lt, ci_le, n_id7_id6, n_id6_id7, n_tk_id6, n_tk_id7, n_id6_tk, n_id7_tk])
      | ((with_reducible first | apply AWp.ret | apply AWp.skip | apply AWp.exit); try simp -implicitDefEqProofs [hlt, lsR_def, ci_lt, ci_le, n_id7_id6, n_id6_id7, n_tk_id6, n_tk_id7, n_id6_tk, n_id7_tk]))
    rw [lsV_ok]
    exact ⟨Wk_agg3 (Wk_tokT _ _) (Wk.refl _) (Wk.refl _), hle _ _ _⟩

end Sg
end Go.Proofs.Ytplphldpkliakaa
