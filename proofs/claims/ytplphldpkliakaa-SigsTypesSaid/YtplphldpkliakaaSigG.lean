/- The document: Get. -/
import Derived.Test.YtplphldpkliakaaSigF
set_option linter.unusedSimpArgs false
set_option linter.unusedVariables false
set_option maxRecDepth 100000
set_option maxHeartbeats 3200000
namespace Go.Proofs.Ytplphldpkliakaa
namespace Sg
open Go Go.AW

/-- What the loop of the document's Get has still to read. -/
def gX (b : List UInt8) (rf : Bool) (d q : Nat) : Except Int (Ty × Nat) :=
  if rf = false ∧ d = 0 then eTy b q else
  match eB b q with
  | .error e => .error e
  | .ok (c, q') => eDm b rf (3 - d) d c q'
theorem gX_end {b : List UInt8} {rf : Bool} {d q : Nat} (h : ¬ q < b.length) : gX b rf d q = .error 1 := by
  have : eB b q = .error 1 := by unfold eB; rw [if_neg h]
  unfold gX eTy
  rw [this]; simp
theorem eB_lt {b : List UInt8} {q : Nat} (h : q < b.length) : eB b q = .ok (b[q], q + 1) := by
  unfold eB; rw [if_pos h, List.getD_eq_getElem?_getD, List.getElem?_eq_getElem h]; rfl
theorem gX_ref {b : List UInt8} {q : Nat} (h : q < b.length) (hc : b[q] = 16) : gX b false 0 q = gX b true 0 (q + 1) := by
  unfold gX
  rw [if_pos ⟨rfl, rfl⟩]
  unfold eTy
  rw [eB_lt h]
  simp only [hc, if_true]
  rw [if_neg (by simp)]
  cases eB b (q + 1) <;> rfl
theorem gX_dim {b : List UInt8} {rf : Bool} {d q : Nat} (h : q < b.length) (hc : b[q] = 29) (hd : d < 3) : gX b rf d q = gX b rf (d + 1) (q + 1) := by
  obtain ⟨f, hf⟩ : ∃ f, 3 - d = f + 1 := ⟨2 - d, by omega⟩
  have hf2 : 3 - (d + 1) = f := by omega
  have e1 : gX b rf (d + 1) (q + 1) = match eB b (q + 1) with | .error e => .error e | .ok (c, q') => eDm b rf f (d + 1) c q' := by
    unfold gX; rw [if_neg (by omega), hf2]
  rw [e1]
  unfold gX
  split
  · rename_i h0
    obtain ⟨rfl, rfl⟩ := h0
    unfold eTy
    rw [eB_lt h]
    have hf3 : f = 2 := by omega
    subst hf3
    simp only [hc]
    rw [if_neg (by decide)]
    rw [show eDm b false 3 0 29 (q + 1) = match eB b (q + 1) with | .error e => .error e | .ok (c', a') => eDm b false 2 (0 + 1) c' a' from rfl]
  · rw [eB_lt h, hf]
    simp only [hc]
    rw [show eDm b rf (f + 1) d 29 (q + 1) = match eB b (q + 1) with | .error e => .error e | .ok (c', a') => eDm b rf f (d + 1) c' a' from rfl]
theorem gX_deep {b : List UInt8} {rf : Bool} {q : Nat} (h : q < b.length) (hc : b[q] = 29) : gX b rf 3 q = .error 6 := by
  unfold gX
  rw [if_neg (by omega), eB_lt h]
  simp [hc, eDm]
theorem gX_kd {b : List UInt8} {rf : Bool} {d q : Nat} (h : q < b.length) (hc : b[q] ≠ 29) (h16 : ¬ (b[q] = 16 ∧ rf = false ∧ d = 0)) : gX b rf d q = eKd b rf d b[q] (q + 1) := by
  unfold gX
  split
  · rename_i h0
    obtain ⟨rfl, rfl⟩ := h0
    have : b[q] ≠ 16 := fun e => h16 ⟨e, rfl, rfl⟩
    unfold eTy
    rw [eB_lt h]
    simp only [if_neg this, eDm, if_neg hc]
  · rw [eB_lt h]
    simp only
    cases 3 - d with
    | zero => simp only [eDm, if_neg hc]
    | succ f => simp only [eDm, if_neg hc]
theorem eKd_else {b : List UInt8} {rf : Bool} {d : Nat} {c : UInt8} {a : Nat} (h1 : ¬ c = 1) (h2 : ¬ c = 8) (h3 : ¬ c = 10) (h4 : ¬ c = 28) (h5 : ¬ c = 18) (h6 : ¬ c = 17) (h7 : ¬ c = 19) : eKd b rf d c a = .error 2 := by
  simp only [eKd, if_neg h1, if_neg h2, if_neg h3, if_neg h4, if_neg h5, if_neg h6, if_neg h7]
theorem gotV_err (e : Int) : gotV (.error e) = .agg [.sc (.int .i64 0), .sc (.int .i64 0), .sc (.int .i64 0), .sc (.bool false), .sc (.int .i64 0), .sc (.int .i64 e)] := rfl
theorem gotV_ok (t : Ty) (a : Nat) : gotV (.ok (t, a)) = .agg [.sc (.int .i64 t.kind), .sc (.int .i64 t.index), .sc (.int .i64 t.dims), .sc (.bool t.ref), .sc (.int .i64 a), .sc (.int .i64 0)] := rfl
theorem gotV_agg (x : Except Int (Ty × Nat)) : ∃ k i d r a e, gotV x = .agg [.sc (.int .i64 k), .sc (.int .i64 i), .sc (.int .i64 d), .sc (.bool r), .sc (.int .i64 a), .sc (.int .i64 e)] := by
  cases x with
  | error e => exact ⟨_, _, _, _, _, _, rfl⟩
  | ok y => obtain ⟨t, a⟩ := y; exact ⟨_, _, _, _, _, _, rfl⟩

theorem rget_ok (b : List UInt8) (o : Own) (nl : Bool) (a : Nat) (hl : b.length ≤ 100000) (ha : a ≤ b.length) (σ : AS) :
    ACalls Try.prog 60 [.lst 5 (b.map u8) o nl, .sc (.int .i64 a)] σ (Gives (gotV (eTy b a)) σ) No := by
  have hnum := fun k c hc q d rf hq σ => rnum_cls k c hc b o nl q d rf hl hq σ
  have hflt := fun q d rf hq σ => rnum_flt b o nl q d rf hl hq σ
  refine ACalls.of_body Try.func60 rfl rfl (by simp [Try.ntmps60]) ?_
  repeat (first
    | (with_reducible first | apply AWp.seq | apply AWp.block | refine And.intro (by first | omega | assumption | decide) ?_)
    | ((first | (with_reducible first | apply AWp.fork | apply AWp.region)); simp -implicitDefEqProofs)
    | ((with_reducible first | apply AWp.ret | apply AWp.skip | apply AWp.exit); try simp -implicitDefEqProofs))
  intro id4 h_id4
  repeat (first
    | (with_reducible first | apply AWp.seq | apply AWp.block | refine And.intro (by first | omega | assumption | decide) ?_)
    | ((first | (with_reducible first | apply AWp.fork | apply AWp.region)); simp -implicitDefEqProofs)
    | ((with_reducible first | apply AWp.ret | apply AWp.skip | apply AWp.exit); try simp -implicitDefEqProofs))
  intro id5 n_id5_id4 h_id5
  have n_id4_id5 : ¬ id4 = id5 := fun e => n_id5_id4 e.symm
  have hle : ∀ x y, AS.le σ ((σ.set id4 x).set id5 y) := fun x y => AS.le_set (AS.le_set (AS.le_refl _) h_id4) (by simp [*])
  repeat (first
    | (with_reducible first | apply AWp.seq | apply AWp.block | refine And.intro (by first | omega | assumption | decide) ?_)
    | ((first | (with_reducible first | apply AWp.fork | apply AWp.region | show condK _ _ _ | show guardK _ _ _ _ _ _ _ _ _)); simp -implicitDefEqProofs [n_id5_id4, n_id4_id5])
    | ((with_reducible first | apply AWp.ret | apply AWp.skip | apply AWp.exit); try simp -implicitDefEqProofs [n_id5_id4, n_id4_id5]))
  refine AWp.loopA (α := (Bool) × (Nat) × (Nat)) ((false, 0, a)) (fun ⟨rf, d, q⟩ => b.length - q) (fun ⟨rf, d, q⟩ => q ≤ b.length ∧ d ≤ 3 ∧ gX b rf d q = eTy b a) [(0, ?_), (4, ?_), (5, ?_)] (fun ⟨rf, d, q⟩ => [(1, .sc (.int .i64 q))]) (fun ⟨rf, d, q⟩ => (σ.set id4 (.cells 94 [.sc (.int .i64 0), .sc (.int .i64 0), .sc (.int .i64 0), .sc (.bool false), .sc (.int .i64 0), .sc (.int .i64 0)])).set id5 (tyC 0 0 d rf)) ?_ ?_ ?_ ?_
  rotate_left 3
  · (try dsimp only); (simp only [List.cons_append, List.nil_append]; repeat (first | exact FrWk.nil | refine FrWk.cons (by first | (simp -implicitDefEqProofs [n_id5_id4, n_id4_id5]; done) | exact Wk.of (by (try simp -implicitDefEqProofs [n_id5_id4, n_id4_id5]) <;> rfl)) ?_))
  · (try dsimp only); (simp [tyC_def]; done)
  · exact ⟨ha, by omega, by simp [gX]⟩
  intro x_ hx_
  obtain ⟨rf, d, q⟩ := x_
  try dsimp only at hx_ ⊢
  obtain ⟨hq, hd, hX⟩ := hx_
  simp only [List.cons_append, List.nil_append]
  rw [← hX]
  by_cases hlt : q < b.length
  · have hqf : ((b.length : Int) ≤ q) = False := eq_false (by omega)
    obtain ⟨c, hc⟩ : ∃ c, b[q] = c := ⟨_, rfl⟩
    have z16 := u8_eq (c := c) (n := 16) (by omega)
    have z29 := u8_eq (c := c) (n := 29) (by omega)
    have z1 := u8_eq (c := c) (n := 1) (by omega)
    have z8 := u8_eq (c := c) (n := 8) (by omega)
    have z10 := u8_eq (c := c) (n := 10) (by omega)
    have z28 := u8_eq (c := c) (n := 28) (by omega)
    have z17 := u8_eq (c := c) (n := 17) (by omega)
    have z18 := u8_eq (c := c) (n := 18) (by omega)
    have z19 := u8_eq (c := c) (n := 19) (by omega)
    have hw : IntKind.i64.wrap ((c.toNat : Nat) : Int) = c.toNat := in_i64 (by omega) (by have := c.toNat_lt; omega)
    simp only [UInt8.reduceOfNat] at z16 z29 z1 z8 z10 z28 z17 z18 z19
    have wi_q : IntKind.i64.wrap ((q : Int) + 1) = ((q + 1 : Nat) : Int) := ci_wi (by omega)
    by_cases h16 : c = 16 ∧ rf = false ∧ d = 0
    · obtain ⟨rfl, rfl, rfl⟩ := h16
      have hs := gX_ref hlt hc
      repeat (first
        | (with_reducible first | apply AWp.seq | apply AWp.block | refine And.intro (by first | omega | assumption | decide) ?_)
        | ((first | (with_reducible first | apply AWp.fork | apply AWp.region | show condK _ _ _ | show guardK _ _ _ _ _ _ _ _ _)); simp -implicitDefEqProofs [hlt, hqf, tyC_def, hc, n_id5_id4, n_id4_id5, wi_q])
        | ((with_reducible first | apply AWp.ret | apply AWp.skip | apply AWp.exit); try simp -implicitDefEqProofs [hlt, hqf, tyC_def, hc, n_id5_id4, n_id4_id5, wi_q]))
      refine stepA.mk ((true, 0, q + 1)) (by (try dsimp only); omega) (by (try dsimp only); (simp only [List.cons_append, List.nil_append]; repeat (first | exact FrWk.nil | refine FrWk.cons (by first | (simp -implicitDefEqProofs [tyC_def, n_id5_id4, n_id4_id5, wi_q]; done) | exact Wk.of (by (try simp -implicitDefEqProofs [tyC_def, n_id5_id4, n_id4_id5, wi_q]) <;> rfl)) ?_))) (by (try dsimp only); (simp [tyC_def]; done)) ?_
      try dsimp only
      exact ⟨hlt, by omega, hs.symm⟩
    by_cases h29 : c = 29
    · subst h29
      by_cases hd3 : d = 3
      · subst hd3
        rw [gX_deep hlt hc]
        simp only [gotV_err]
        cases rf
        · repeat (first
            | (with_reducible first | apply AWp.seq | apply AWp.block | refine And.intro (by first | omega | assumption | decide) ?_)
            | ((first | (with_reducible first | apply AWp.fork | apply AWp.region | show condK _ _ _ | show guardK _ _ _ _ _ _ _ _ _)); simp -implicitDefEqProofs [hlt, hqf, tyC_def, hc, n_id5_id4, n_id4_id5, wi_q])
            | ((with_reducible first | apply AWp.ret | apply AWp.skip | apply AWp.exit); try simp -implicitDefEqProofs [hlt, hqf, tyC_def, hc, n_id5_id4, n_id4_id5, wi_q]))
          exact hle _ _
        · repeat (first
            | (with_reducible first | apply AWp.seq | apply AWp.block | refine And.intro (by first | omega | assumption | decide) ?_)
            | ((first | (with_reducible first | apply AWp.fork | apply AWp.region | show condK _ _ _ | show guardK _ _ _ _ _ _ _ _ _)); simp -implicitDefEqProofs [hlt, hqf, tyC_def, hc, n_id5_id4, n_id4_id5, wi_q])
            | ((with_reducible first | apply AWp.ret | apply AWp.skip | apply AWp.exit); try simp -implicitDefEqProofs [hlt, hqf, tyC_def, hc, n_id5_id4, n_id4_id5, wi_q]))
          exact hle _ _
      · have hs := gX_dim (rf := rf) (d := d) hlt hc (by omega)
        have hd4 : ((3 : Int) < (d : Int) + 1) = False := eq_false (by omega)
        have wi_d : IntKind.i64.wrap ((d : Int) + 1) = ((d + 1 : Nat) : Int) := ci_wi (by omega)
        cases rf
        · repeat (first
            | (with_reducible first | apply AWp.seq | apply AWp.block | refine And.intro (by first | omega | assumption | decide) ?_)
            | ((first | (with_reducible first | apply AWp.fork | apply AWp.region | show condK _ _ _ | show guardK _ _ _ _ _ _ _ _ _)); simp -implicitDefEqProofs [hlt, hqf, tyC_def, hc, hd4, n_id5_id4, n_id4_id5, wi_q, wi_d])
            | ((with_reducible first | apply AWp.ret | apply AWp.skip | apply AWp.exit); try simp -implicitDefEqProofs [hlt, hqf, tyC_def, hc, hd4, n_id5_id4, n_id4_id5, wi_q, wi_d]))
          refine stepA.mk ((false, d + 1, q + 1)) (by (try dsimp only); omega) (by (try dsimp only); (simp only [List.cons_append, List.nil_append]; repeat (first | exact FrWk.nil | refine FrWk.cons (by first | (simp -implicitDefEqProofs [tyC_def, n_id5_id4, n_id4_id5, wi_q, wi_d]; done) | exact Wk.of (by (try simp -implicitDefEqProofs [tyC_def, n_id5_id4, n_id4_id5, wi_q, wi_d]) <;> rfl)) ?_))) (by (try dsimp only); (simp [tyC_def]; done)) ?_
          try dsimp only
          exact ⟨hlt, by omega, hs.symm⟩
        · repeat (first
            | (with_reducible first | apply AWp.seq | apply AWp.block | refine And.intro (by first | omega | assumption | decide) ?_)
            | ((first | (with_reducible first | apply AWp.fork | apply AWp.region | show condK _ _ _ | show guardK _ _ _ _ _ _ _ _ _)); simp -implicitDefEqProofs [hlt, hqf, tyC_def, hc, hd4, n_id5_id4, n_id4_id5, wi_q, wi_d])
            | ((with_reducible first | apply AWp.ret | apply AWp.skip | apply AWp.exit); try simp -implicitDefEqProofs [hlt, hqf, tyC_def, hc, hd4, n_id5_id4, n_id4_id5, wi_q, wi_d]))
          refine stepA.mk ((true, d + 1, q + 1)) (by (try dsimp only); omega) (by (try dsimp only); (simp only [List.cons_append, List.nil_append]; repeat (first | exact FrWk.nil | refine FrWk.cons (by first | (simp -implicitDefEqProofs [tyC_def, n_id5_id4, n_id4_id5, wi_q, wi_d]; done) | exact Wk.of (by (try simp -implicitDefEqProofs [tyC_def, n_id5_id4, n_id4_id5, wi_q, wi_d]) <;> rfl)) ?_))) (by (try dsimp only); (simp [tyC_def]; done)) ?_
          try dsimp only
          exact ⟨hlt, by omega, hs.symm⟩
    rw [gX_kd hlt (by rw [hc]; exact h29) (by rw [hc]; exact h16), hc]
    have hg : (decide (c = 16) && (!rf && decide (d = 0))) = false := by
      by_cases e1 : c = 16
      · by_cases e2 : rf = false
        · have : ¬ d = 0 := fun e3 => h16 ⟨e1, e2, e3⟩
          simp [this]
        · simp [e2]
      · simp [e1]
    have z29' : ((c.toNat : Int) = 29) = False := z29.trans (eq_false h29)
    by_cases k1 : c = 1
    · subst k1
      by_cases kk : rf = true ∨ 0 < d
      · rw [show eKd b rf d 1 (q + 1) = .error 2 by simp [eKd, kk]]
        simp only [gotV_err]
        cases rf
        · have kd : (0 < d) = True := eq_true (by simp at kk; omega)
          repeat (first
            | (with_reducible first | apply AWp.seq | apply AWp.block | refine And.intro (by first | omega | assumption | decide) ?_)
            | ((first | (with_reducible first | apply AWp.fork | apply AWp.region | show condK _ _ _ | show guardK _ _ _ _ _ _ _ _ _)); simp -implicitDefEqProofs [hlt, hqf, tyC_def, hc, kd, n_id5_id4, n_id4_id5, wi_q])
            | ((with_reducible first | apply AWp.ret | apply AWp.skip | apply AWp.exit); try simp -implicitDefEqProofs [hlt, hqf, tyC_def, hc, kd, n_id5_id4, n_id4_id5, wi_q]))
          exact hle _ _
        · repeat (first
            | (with_reducible first | apply AWp.seq | apply AWp.block | refine And.intro (by first | omega | assumption | decide) ?_)
            | ((first | (with_reducible first | apply AWp.fork | apply AWp.region | show condK _ _ _ | show guardK _ _ _ _ _ _ _ _ _)); simp -implicitDefEqProofs [hlt, hqf, tyC_def, hc, n_id5_id4, n_id4_id5, wi_q])
            | ((with_reducible first | apply AWp.ret | apply AWp.skip | apply AWp.exit); try simp -implicitDefEqProofs [hlt, hqf, tyC_def, hc, n_id5_id4, n_id4_id5, wi_q]))
          exact hle _ _
      · have kr : rf = false := by cases rf <;> simp at kk ⊢
        have kd : d = 0 := by omega
        subst kr kd
        rw [show eKd b false 0 1 (q + 1) = .ok (⟨1, 0, 0, false⟩, q + 1) by simp [eKd]]
        simp only [gotV_ok]
        repeat (first
          | (with_reducible first | apply AWp.seq | apply AWp.block | refine And.intro (by first | omega | assumption | decide) ?_)
          | ((first | (with_reducible first | apply AWp.fork | apply AWp.region | show condK _ _ _ | show guardK _ _ _ _ _ _ _ _ _)); simp -implicitDefEqProofs [hlt, hqf, tyC_def, hc, n_id5_id4, n_id4_id5, wi_q])
          | ((with_reducible first | apply AWp.ret | apply AWp.skip | apply AWp.exit); try simp -implicitDefEqProofs [hlt, hqf, tyC_def, hc, n_id5_id4, n_id4_id5, wi_q]))
        exact hle _ _
    by_cases k8 : c = 8
    · subst k8
      rw [show eKd b rf d 8 (q + 1) = .ok (⟨2, 0, d, rf⟩, q + 1) by simp [eKd]]
      simp only [gotV_ok]
      repeat (first
        | (with_reducible first | apply AWp.seq | apply AWp.block | refine And.intro (by first | omega | assumption | decide) ?_)
        | ((first | (with_reducible first | apply AWp.fork | apply AWp.region | show condK _ _ _ | show guardK _ _ _ _ _ _ _ _ _)); simp -implicitDefEqProofs [hlt, hqf, tyC_def, hc, n_id5_id4, n_id4_id5, wi_q])
        | ((with_reducible first | apply AWp.ret | apply AWp.skip | apply AWp.exit); try simp -implicitDefEqProofs [hlt, hqf, tyC_def, hc, n_id5_id4, n_id4_id5, wi_q]))
      exact hle _ _
    by_cases k10 : c = 10
    · subst k10
      rw [show eKd b rf d 10 (q + 1) = .ok (⟨3, 0, d, rf⟩, q + 1) by simp [eKd]]
      simp only [gotV_ok]
      repeat (first
        | (with_reducible first | apply AWp.seq | apply AWp.block | refine And.intro (by first | omega | assumption | decide) ?_)
        | ((first | (with_reducible first | apply AWp.fork | apply AWp.region | show condK _ _ _ | show guardK _ _ _ _ _ _ _ _ _)); simp -implicitDefEqProofs [hlt, hqf, tyC_def, hc, n_id5_id4, n_id4_id5, wi_q])
        | ((with_reducible first | apply AWp.ret | apply AWp.skip | apply AWp.exit); try simp -implicitDefEqProofs [hlt, hqf, tyC_def, hc, n_id5_id4, n_id4_id5, wi_q]))
      exact hle _ _
    by_cases k28 : c = 28
    · subst k28
      rw [show eKd b rf d 28 (q + 1) = .ok (⟨4, 0, d, rf⟩, q + 1) by simp [eKd]]
      simp only [gotV_ok]
      repeat (first
        | (with_reducible first | apply AWp.seq | apply AWp.block | refine And.intro (by first | omega | assumption | decide) ?_)
        | ((first | (with_reducible first | apply AWp.fork | apply AWp.region | show condK _ _ _ | show guardK _ _ _ _ _ _ _ _ _)); simp -implicitDefEqProofs [hlt, hqf, tyC_def, hc, n_id5_id4, n_id4_id5, wi_q])
        | ((with_reducible first | apply AWp.ret | apply AWp.skip | apply AWp.exit); try simp -implicitDefEqProofs [hlt, hqf, tyC_def, hc, n_id5_id4, n_id4_id5, wi_q]))
      exact hle _ _
    by_cases k18 : c = 18
    · subst k18
      rw [show eKd b rf d 18 (q + 1) = mkT 5 rf d (eIx b (q + 1)) by simp [eKd]]
      have hn := fun σ => hnum 5 18 (.inl ⟨rfl, rfl⟩) (q + 1) d rf (by omega) σ
      obtain ⟨g1, g2, g3, g4, g5, g6, hg'⟩ := gotV_agg (mkT 5 rf d (eIx b (q + 1)))
      rw [hg'] at hn ⊢
      repeat (first
        | (with_reducible first | apply AWp.seq | apply AWp.block | refine And.intro (by first | omega | assumption | decide) ?_)
        | ((first | (with_reducible first | apply AWp.fork | apply AWp.region | show condK _ _ _ | show guardK _ _ _ _ _ _ _ _ _) | ((with_reducible apply aCall.id); first | apply aCall.gives (hn _))); simp -implicitDefEqProofs [hlt, hqf, tyC_def, hc, n_id5_id4, n_id4_id5, wi_q])
        | ((with_reducible first | apply AWp.ret | apply AWp.skip | apply AWp.exit); try simp -implicitDefEqProofs [hlt, hqf, tyC_def, hc, n_id5_id4, n_id4_id5, wi_q]))
      exact hle _ _
    by_cases k17 : c = 17
    · subst k17
      rw [show eKd b rf d 17 (q + 1) = mkT 6 rf d (eIx b (q + 1)) by simp [eKd]]
      have hn := fun σ => hnum 6 17 (.inr ⟨rfl, rfl⟩) (q + 1) d rf (by omega) σ
      obtain ⟨g1, g2, g3, g4, g5, g6, hg'⟩ := gotV_agg (mkT 6 rf d (eIx b (q + 1)))
      rw [hg'] at hn ⊢
      repeat (first
        | (with_reducible first | apply AWp.seq | apply AWp.block | refine And.intro (by first | omega | assumption | decide) ?_)
        | ((first | (with_reducible first | apply AWp.fork | apply AWp.region | show condK _ _ _ | show guardK _ _ _ _ _ _ _ _ _) | ((with_reducible apply aCall.id); first | apply aCall.gives (hn _))); simp -implicitDefEqProofs [hlt, hqf, tyC_def, hc, n_id5_id4, n_id4_id5, wi_q])
        | ((with_reducible first | apply AWp.ret | apply AWp.skip | apply AWp.exit); try simp -implicitDefEqProofs [hlt, hqf, tyC_def, hc, n_id5_id4, n_id4_id5, wi_q]))
      exact hle _ _
    by_cases k19 : c = 19
    · subst k19
      rw [show eKd b rf d 19 (q + 1) = mkT 7 rf d (eFt b (q + 1)) by simp [eKd]]
      have hn := fun σ => hflt (q + 1) d rf (by omega) σ
      obtain ⟨g1, g2, g3, g4, g5, g6, hg'⟩ := gotV_agg (mkT 7 rf d (eFt b (q + 1)))
      rw [hg'] at hn ⊢
      repeat (first
        | (with_reducible first | apply AWp.seq | apply AWp.block | refine And.intro (by first | omega | assumption | decide) ?_)
        | ((first | (with_reducible first | apply AWp.fork | apply AWp.region | show condK _ _ _ | show guardK _ _ _ _ _ _ _ _ _) | ((with_reducible apply aCall.id); first | apply aCall.gives (hn _))); simp -implicitDefEqProofs [hlt, hqf, tyC_def, hc, n_id5_id4, n_id4_id5, wi_q])
        | ((with_reducible first | apply AWp.ret | apply AWp.skip | apply AWp.exit); try simp -implicitDefEqProofs [hlt, hqf, tyC_def, hc, n_id5_id4, n_id4_id5, wi_q]))
      exact hle _ _
    rw [eKd_else k1 k8 k10 k28 k18 k17 k19]
    simp only [gotV_err]
    have z1' : ((c.toNat : Int) = 1) = False := z1.trans (eq_false k1)
    have z8' : ((c.toNat : Int) = 8) = False := z8.trans (eq_false k8)
    have z10' : ((c.toNat : Int) = 10) = False := z10.trans (eq_false k10)
    have z28' : ((c.toNat : Int) = 28) = False := z28.trans (eq_false k28)
    have z17' : ((c.toNat : Int) = 17) = False := z17.trans (eq_false k17)
    have z18' : ((c.toNat : Int) = 18) = False := z18.trans (eq_false k18)
    have z19' : ((c.toNat : Int) = 19) = False := z19.trans (eq_false k19)
    by_cases e16 : c = 16
    · subst e16
      cases rf
      · have hd0 : ¬ d = 0 := fun e => h16 ⟨rfl, rfl, e⟩
        have hd0' : ((d : Int) = 0) = False := eq_false (by omega)
        repeat (first
          | (with_reducible first | apply AWp.seq | apply AWp.block | refine And.intro (by first | omega | assumption | decide) ?_)
          | ((first | (with_reducible first | apply AWp.fork | apply AWp.region | show condK _ _ _ | show guardK _ _ _ _ _ _ _ _ _)); simp -implicitDefEqProofs [hlt, hqf, tyC_def, hc, hd0, hd0', n_id5_id4, n_id4_id5, wi_q])
          | ((with_reducible first | apply AWp.ret | apply AWp.skip | apply AWp.exit); try simp -implicitDefEqProofs [hlt, hqf, tyC_def, hc, hd0, hd0', n_id5_id4, n_id4_id5, wi_q]))
        exact hle _ _
      · repeat (first
          | (with_reducible first | apply AWp.seq | apply AWp.block | refine And.intro (by first | omega | assumption | decide) ?_)
          | ((first | (with_reducible first | apply AWp.fork | apply AWp.region | show condK _ _ _ | show guardK _ _ _ _ _ _ _ _ _)); simp -implicitDefEqProofs [hlt, hqf, tyC_def, hc, n_id5_id4, n_id4_id5, wi_q])
          | ((with_reducible first | apply AWp.ret | apply AWp.skip | apply AWp.exit); try simp -implicitDefEqProofs [hlt, hqf, tyC_def, hc, n_id5_id4, n_id4_id5, wi_q]))
        exact hle _ _
    have z16' : ((c.toNat : Int) = 16) = False := z16.trans (eq_false e16)
    repeat (first
      | (with_reducible first | apply AWp.seq | apply AWp.block | refine And.intro (by first | omega | assumption | decide) ?_)
      | ((first | (with_reducible first | apply AWp.fork | apply AWp.region | show condK _ _ _ | show guardK _ _ _ _ _ _ _ _ _)); simp -implicitDefEqProofs [hlt, hqf, tyC_def, hc, z16', z29', z1', z8', z10', z28', z17', z18', z19', n_id5_id4, n_id4_id5, wi_q])
      | ((with_reducible first | apply AWp.ret | apply AWp.skip | apply AWp.exit); try simp -implicitDefEqProofs [hlt, hqf, tyC_def, hc, z16', z29', z1', z8', z10', z28', z17', z18', z19', n_id5_id4, n_id4_id5, wi_q]))
    exact hle _ _
  · have hqf : ((b.length : Int) ≤ q) = True := eq_true (by omega)
    rw [gX_end hlt]
    simp only [gotV_err]
    repeat (first
      | (with_reducible first | apply AWp.seq | apply AWp.block | refine And.intro (by first | omega | assumption | decide) ?_)
      | ((first | (with_reducible first | apply AWp.fork | apply AWp.region | show condK _ _ _ | show guardK _ _ _ _ _ _ _ _ _)); simp -implicitDefEqProofs [hlt, hqf, tyC_def, n_id5_id4, n_id4_id5])
      | ((with_reducible first | apply AWp.ret | apply AWp.skip | apply AWp.exit); try simp -implicitDefEqProofs [hlt, hqf, tyC_def, n_id5_id4, n_id4_id5]))
    exact hle _ _

end Sg
end Go.Proofs.Ytplphldpkliakaa
