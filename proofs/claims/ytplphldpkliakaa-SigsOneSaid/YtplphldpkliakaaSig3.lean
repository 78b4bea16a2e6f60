/- Package sigs: a type is read. -/
import Derived.Test.YtplphldpkliakaaSig2
set_option linter.unusedSimpArgs false
set_option linter.unusedVariables false
set_option maxRecDepth 100000
set_option maxHeartbeats 3200000
namespace Go.Proofs.Ytplphldpkliakaa
namespace Sg
open Go Go.AW

theorem u8_eq {c : UInt8} {n : Nat} (hn : n < 256) : ((c.toNat : Int) = (n : Int)) = (c = UInt8.ofNat n) := by
  simp only [eq_iff_iff]
  constructor
  · intro h
    apply UInt8.toNat_inj.1
    simp
    omega
  · intro h
    subst h
    simp
    omega
/-- A type's cells. -/
def tyC (k i : Int) (d : Nat) (r : Bool) : ABlk := .cells 24 [.sc (.int .i64 k), .sc (.int .i64 i), .sc (.int .i64 d), .sc (.bool r)]
theorem tyC_def (k i : Int) (d : Nat) (r : Bool) : tyC k i d r = .cells 24 [.sc (.int .i64 k), .sc (.int .i64 i), .sc (.int .i64 d), .sc (.bool r)] := rfl

/-- Where ways meet. -/
def cutK (P : Program) {α : Type} (I : α → Prop) (fr : α → List (Nat × AV)) (st : α → AS) (s : Fr) (σ : AS) : Prop := ∃ v, I v ∧ FrWk P s (mkF (fr v)) ∧ AS.le (st v) σ
theorem cutK.mk {P : Program} {α : Type} {I : α → Prop} {fr : α → List (Nat × AV)} {st : α → AS} {s : Fr} {σ : AS} (v : α) (h1 : FrWk P s (mkF (fr v))) (h2 : AS.le (st v) σ) (h3 : I v) : cutK P I fr st s σ := ⟨v, h3, h1, h2⟩
@[congr] theorem cutK_congr {P : Program} {α : Type} {I : α → Prop} {fr : α → List (Nat × AV)} {st : α → AS} {s s' : Fr} {σ σ' : AS} (h1 : s = s') (h2 : σ = σ') : cutK P I fr st s σ = cutK P I fr st s' σ' := by rw [h1, h2]
theorem cutQ {P : Program} {n : Nat} {ds : List Deferred} {Q : AQ} {s : Fr} {σ : AS} {α : Type} {x y : Code} (I : α → Prop) (fr : α → List (Nat × AV)) (st : α → AS) (h1 : AWp P n ds x (thenQ (cutK P I fr st) Q) s σ)
    (h2 : ∀ v, I v → AWp P n ds y Q (mkF (fr v)) (st v)) : AWp P n ds x (thenQ (AWp P n ds y Q) Q) s σ := by
  refine h1.mono fun e s' σ' h => ?_
  cases e with
  | normal => obtain ⟨v, i1, i2, i3⟩ := h; exact (h2 v i1).weaken i2 i3
  | exit i => exact h
  | ret => exact h
  | panic x => exact h

theorem eB_le {b : List UInt8} {a : Nat} {c : UInt8} {a' : Nat} (h : eB b a = .ok (c, a')) : a' ≤ b.length := by have := eB_len h; omega
theorem ePk_le {b : List UInt8} {a : Nat} {n : Int} {a' : Nat} (h : ePk b a = .ok (n, a')) : a' ≤ b.length := by have := at_ePk h; have := this.2.2.1.len; omega
theorem eIx_le {b : List UInt8} {a : Nat} {n : Int} {a' : Nat} (h : eIx b a = .ok (n, a')) : a' ≤ b.length := by have := ix_at h; have := this.2.2.1.len; omega

theorem typ_ok (id : Nat) (b : List UInt8) (a : Nat) (nl : Bool) (σ : AS) (h : σ id = some (rdC b a nl)) (ha : a ≤ b.length) (hnl : nl = true → b = []) (hb : b.length ≤ 100000) :
    ACalls Try.prog 58 [rdV id] σ (RD (eTy b a) tyV b nl id σ) (TD (eTy b a) b nl id σ) := by
  have ho := fun x σ h hx => one_ok id b x nl σ h hx hb
  have hi := fun x σ h hx => index_ok id b x nl σ h hx hnl hb
  have hp := fun x σ h hx => packed_ok' id b x nl σ h hx hnl hb
  refine ACalls.of_body Try.func58 rfl rfl (by simp [Try.ntmps58]) ?_
  simp only [rdV] at ho hi hp ⊢
  repeat (first
    | (with_reducible first | apply AWp.seq | apply AWp.block | refine And.intro (by first | omega | assumption | decide) ?_)
    | ((first | (with_reducible first | apply AWp.fork | apply AWp.region)); simp -implicitDefEqProofs)
    | ((with_reducible first | apply AWp.ret | apply AWp.skip | apply AWp.exit); try simp -implicitDefEqProofs))
  intro id1 h_id1
  repeat (first
    | (with_reducible first | apply AWp.seq | apply AWp.block | refine And.intro (by first | omega | assumption | decide) ?_)
    | ((first | (with_reducible first | apply AWp.fork | apply AWp.region)); simp -implicitDefEqProofs)
    | ((with_reducible first | apply AWp.ret | apply AWp.skip | apply AWp.exit); try simp -implicitDefEqProofs))
  intro id2 n_id2_id1 h_id2
  have n_id1_id2 : ¬ id1 = id2 := fun e => n_id2_id1 e.symm
  repeat (first
    | (with_reducible first | apply AWp.seq | apply AWp.block | refine And.intro (by first | omega | assumption | decide) ?_)
    | ((first | (with_reducible first | apply AWp.fork | apply AWp.region | show condK _ _ _ | show guardK _ _ _ _ _ _ _ _ _)); simp -implicitDefEqProofs [n_id2_id1, n_id1_id2])
    | ((with_reducible first | apply AWp.ret | apply AWp.skip | apply AWp.exit); try simp -implicitDefEqProofs [n_id2_id1, n_id1_id2]))
  intro id3 n_id3_id2 n_id3_id1 h_id3
  have n_id2_id3 : ¬ id2 = id3 := fun e => n_id3_id2 e.symm
  have n_id1_id3 : ¬ id1 = id3 := fun e => n_id3_id1 e.symm
  have n_id_id1 : ¬ id = id1 := by rintro rfl; rw [h] at h_id1; cases h_id1
  have n_id1_id : ¬ id1 = id := fun e => n_id_id1 e.symm
  have n_id_id2 : ¬ id = id2 := by rintro rfl; rw [h] at h_id2; cases h_id2
  have n_id2_id : ¬ id2 = id := fun e => n_id_id2 e.symm
  have n_id_id3 : ¬ id = id3 := by rintro rfl; rw [h] at h_id3; cases h_id3
  have n_id3_id : ¬ id3 = id := fun e => n_id_id3 e.symm
  cases hB : eB b a with
  | error e =>
    have hX : eTy b a = .error e := by unfold eTy; rw [hB]
    have ho1 := fun σ h => RD.bad (ho a σ h ha) hB
    repeat (first
      | (with_reducible first | apply AWp.seq | apply AWp.block | refine And.intro (by first | omega | assumption | decide) ?_)
      | ((first | (with_reducible first | apply AWp.fork | apply AWp.region | show condK _ _ _ | show guardK _ _ _ _ _ _ _ _ _) | ((with_reducible apply aCall.id); first | apply (thr_ (ho1 _ (by simp [n_id_id1, n_id_id2, n_id_id3, h]))))); simp -implicitDefEqProofs [n_id2_id1, n_id1_id2, n_id3_id2, n_id2_id3, n_id3_id1, n_id1_id3, n_id1_id, n_id_id1, h, n_id2_id, n_id_id2, n_id3_id, n_id_id3])
      | ((with_reducible first | apply AWp.ret | apply AWp.skip | apply AWp.exit); try simp -implicitDefEqProofs [n_id2_id1, n_id1_id2, n_id3_id2, n_id2_id3, n_id3_id1, n_id1_id3, n_id1_id, n_id_id1, h, n_id2_id, n_id_id2, n_id3_id, n_id_id3]))
    intro x
    refine ⟨_, ?_, e, hX, rfl, x, rfl⟩
    exact le_set (AS.le_set (AS.le_set (AS.le_set (AS.le_refl _) h_id1) h_id2) h_id3)
  | ok y =>
    obtain ⟨c, a1⟩ := y
    have ho1 := fun σ h => RD.ok (ho a σ h ha) hB
    have ha1 := eB_le hB
    simp only [byV] at ho1
    obtain ⟨B, B_s, hB1, hB2, eq_B, le_B⟩ : ∃ B : AS, ((σ.set id1 (.cells 84 [.ptr id 0])).set id2 (.cells 24 [.sc (.int .i64 0), .sc (.int .i64 0), .sc (.int .i64 0), .sc (.bool false)])) = B ∧ B id1 = some (.cells 84 [.ptr id 0]) ∧ B id2 = some (.cells 24 [.sc (.int .i64 0), .sc (.int .i64 0), .sc (.int .i64 0), .sc (.bool false)]) ∧ (∀ j, j ≠ id1 → j ≠ id2 → B j = σ j) ∧ (∀ S' : AS, (∀ j, j ≠ id1 → j ≠ id2 → ∀ y, B j = some y → S' j = some y) → AS.le σ S') := by
      refine ⟨_, rfl, by simp [n_id1_id2, n_id2_id1], by simp [n_id1_id2, n_id2_id1], ?_, ?_⟩
      · intro j e_id1 e_id2; simp [AS.set, e_id1, e_id2]
      intro S' h j x hj
      have e_id1 : j ≠ id1 := by rintro rfl; rw [h_id1] at hj; cases hj
      have e_id2 : j ≠ id2 := by rintro rfl; rw [h_id2] at hj; cases hj
      exact h j e_id1 e_id2 x (by simp [AS.set, e_id1, e_id2, hj])
    simp only [B_s]
    clear B_s
    have hBi : B id = some (rdC b a nl) := by rw [eq_B id n_id_id1 n_id_id2]; exact h
    have hB3 : B id3 = none := by rw [eq_B id3 n_id3_id1 n_id3_id2]; exact h_id3
    have hleB : AS.le σ B := le_B B fun _ _ _ _ h => h
    have hfin : ∀ (rf : Bool) (k i : Int) (d : Nat) (x y : ABlk), AS.le (σ.set id y) ((B.set id3 x).set id y) := fun _ _ _ _ x y => le_set (AS.le_set hleB h_id3)
    repeat (first
      | (with_reducible first | apply AWp.seq | apply AWp.block | refine And.intro (by first | omega | assumption | decide) ?_)
      | ((first | (with_reducible first | apply AWp.fork | ((fail_if_success (apply AWp.region (id := 3))); apply AWp.region) | show condK _ _ _ | show guardK _ _ _ _ _ _ _ _ _) | ((with_reducible apply aCall.id); first | apply aCall.gives (ho1 _ (by simp [n_id_id1, n_id_id2, n_id_id3, hBi])))); simp -implicitDefEqProofs [byV, n_id2_id1, n_id1_id2, n_id3_id2, n_id2_id3, n_id3_id1, n_id1_id3, n_id1_id, n_id_id1, h, n_id2_id, n_id_id2, n_id3_id, n_id_id3, hB1, hB2])
      | ((with_reducible first | apply AWp.ret | apply AWp.skip | apply AWp.exit); try simp -implicitDefEqProofs [byV, n_id2_id1, n_id1_id2, n_id3_id2, n_id2_id3, n_id3_id1, n_id1_id3, n_id1_id, n_id_id1, h, n_id2_id, n_id_id2, n_id3_id, n_id_id3, hB1, hB2]))
    have z16 := u8_eq (c := c) (n := 16) (by omega)
    (with_reducible apply AWp.region); simp -implicitDefEqProofs [z16, n_id2_id1, n_id1_id2, n_id3_id2, n_id2_id3, n_id3_id1, n_id1_id3, n_id1_id, n_id_id1, h, n_id2_id, n_id_id2, n_id3_id, n_id_id3, hB1, hB2]
    repeat (with_reducible refine And.intro (by first | omega | assumption | decide) ?_)
    try (with_reducible apply AWp.seq)
    refine cutQ (α := Bool × UInt8 × Nat) (fun x => eDm b x.1 3 0 x.2.1 x.2.2 = eTy b a ∧ x.2.2 ≤ b.length) (fun x => [(1, .ptr id1 0), (2, .ptr id2 0), (3, .ptr id3 0), (4, byV x.2.1)]) (fun x => (B.set id3 (tyC 0 0 0 x.1)).set id (rdC b x.2.2 nl)) ?_ ?_
    · by_cases h16 : c = 16
      · have z : ((c.toNat : Int) = 16) = True := z16.trans (eq_true h16)
        cases hB2 : eB b a1 with
        | error e =>
          have hX : eTy b a = .error e := by unfold eTy; rw [hB]; simp only [h16, if_true]; rw [hB2]
          have ho2 := fun σ h => RD.bad (ho a1 σ h ha1) hB2
          repeat (first
            | (with_reducible first | apply AWp.seq | apply AWp.block | refine And.intro (by first | omega | assumption | decide) ?_)
            | ((first | (with_reducible first | apply AWp.fork | apply AWp.region | show condK _ _ _ | show guardK _ _ _ _ _ _ _ _ _) | ((with_reducible apply aCall.id); first | apply (thr_ (ho2 _ (by simp [n_id_id3, n_id3_id, hBi]))))); simp -implicitDefEqProofs [z, n_id2_id1, n_id1_id2, n_id3_id2, n_id2_id3, n_id3_id1, n_id1_id3, n_id1_id, n_id_id1, h, n_id2_id, n_id_id2, n_id3_id, n_id_id3, hB1, hB2])
            | ((with_reducible first | apply AWp.ret | apply AWp.skip | apply AWp.exit); try simp -implicitDefEqProofs [z, n_id2_id1, n_id1_id2, n_id3_id2, n_id2_id3, n_id3_id1, n_id1_id3, n_id1_id, n_id_id1, h, n_id2_id, n_id_id2, n_id3_id, n_id_id3, hB1, hB2]))
          intro x
          exact ⟨_, hfin true 0 0 0 _ _, e, hX, rfl, x, rfl⟩
        | ok y =>
          obtain ⟨c2, a2⟩ := y
          have ho2 := fun σ h => RD.ok (ho a1 σ h ha1) hB2
          have ha2 := eB_le hB2
          simp only [byV] at ho2
          repeat (first
            | (with_reducible first | apply AWp.seq | apply AWp.block | refine And.intro (by first | omega | assumption | decide) ?_)
            | ((first | (with_reducible first | apply AWp.fork | apply AWp.region | show condK _ _ _ | show guardK _ _ _ _ _ _ _ _ _) | ((with_reducible apply aCall.id); first | apply aCall.gives (ho2 _ (by simp [n_id_id3, n_id3_id, hBi])))); simp -implicitDefEqProofs [z, n_id2_id1, n_id1_id2, n_id3_id2, n_id2_id3, n_id3_id1, n_id1_id3, n_id1_id, n_id_id1, h, n_id2_id, n_id_id2, n_id3_id, n_id_id3, hB1, hB2])
            | ((with_reducible first | apply AWp.ret | apply AWp.skip | apply AWp.exit); try simp -implicitDefEqProofs [z, n_id2_id1, n_id1_id2, n_id3_id2, n_id2_id3, n_id3_id1, n_id1_id3, n_id1_id, n_id_id1, h, n_id2_id, n_id_id2, n_id3_id, n_id_id3, hB1, hB2]))
          refine cutK.mk ((true, c2, a2)) (by (try dsimp only); ((try simp only [List.cons_append, List.nil_append]); repeat (first | exact FrWk.nil | refine FrWk.cons (by first | (simp -implicitDefEqProofs [byV, n_id2_id1, n_id1_id2, n_id3_id2, n_id2_id3, n_id3_id1, n_id1_id3, n_id1_id, n_id_id1, h, n_id2_id, n_id_id2, n_id3_id, n_id_id3, hB1, hB2]; done) | exact Wk.of (by (try simp -implicitDefEqProofs [byV, n_id2_id1, n_id1_id2, n_id3_id2, n_id2_id3, n_id3_id1, n_id1_id3, n_id1_id, n_id_id1, h, n_id2_id, n_id_id2, n_id3_id, n_id_id3, hB1, hB2]) <;> rfl)) ?_))) (by (try dsimp only); (simp [tyC_def, n_id_id3, n_id3_id])) ?_
          try dsimp only
          exact ⟨by unfold eTy; rw [hB]; simp only [h16, if_true]; rw [hB2], ha2⟩
      · have z : ((c.toNat : Int) = 16) = False := z16.trans (eq_false h16)
        repeat (first
          | (with_reducible first | apply AWp.seq | apply AWp.block | refine And.intro (by first | omega | assumption | decide) ?_)
          | ((first | (with_reducible first | apply AWp.fork | apply AWp.region | show condK _ _ _ | show guardK _ _ _ _ _ _ _ _ _)); simp -implicitDefEqProofs [z, n_id2_id1, n_id1_id2, n_id3_id2, n_id2_id3, n_id3_id1, n_id1_id3, n_id1_id, n_id_id1, h, n_id2_id, n_id_id2, n_id3_id, n_id_id3, hB1, hB2])
          | ((with_reducible first | apply AWp.ret | apply AWp.skip | apply AWp.exit); try simp -implicitDefEqProofs [z, n_id2_id1, n_id1_id2, n_id3_id2, n_id2_id3, n_id3_id1, n_id1_id3, n_id1_id, n_id_id1, h, n_id2_id, n_id_id2, n_id3_id, n_id_id3, hB1, hB2]))
        refine cutK.mk ((false, c, a1)) (by (try dsimp only); ((try simp only [List.cons_append, List.nil_append]); repeat (first | exact FrWk.nil | refine FrWk.cons (by first | (simp -implicitDefEqProofs [byV, n_id2_id1, n_id1_id2, n_id3_id2, n_id2_id3, n_id3_id1, n_id1_id3, n_id1_id, n_id_id1, h, n_id2_id, n_id_id2, n_id3_id, n_id_id3, hB1, hB2]; done) | exact Wk.of (by (try simp -implicitDefEqProofs [byV, n_id2_id1, n_id1_id2, n_id3_id2, n_id2_id3, n_id3_id1, n_id1_id3, n_id1_id, n_id_id1, h, n_id2_id, n_id_id2, n_id3_id, n_id_id3, hB1, hB2]) <;> rfl)) ?_))) (by (try dsimp only); (simp [tyC_def, n_id_id3, n_id3_id])) ?_
        try dsimp only
        exact ⟨by unfold eTy; rw [hB]; simp only [h16, if_false], ha1⟩
    · rintro ⟨rf, c0, a0⟩ ⟨hX0, ha0⟩
      simp only at hX0 ha0 ⊢
      clear ho1 z16 hB ha1
      repeat (first
        | (with_reducible first | apply AWp.seq | apply AWp.block | refine And.intro (by first | omega | assumption | decide) ?_)
        | ((first | (with_reducible first | apply AWp.fork | apply AWp.region | show condK _ _ _ | show guardK _ _ _ _ _ _ _ _ _)); simp -implicitDefEqProofs [n_id2_id1, n_id1_id2, n_id3_id2, n_id2_id3, n_id3_id1, n_id1_id3, n_id1_id, n_id_id1, h, n_id2_id, n_id_id2, n_id3_id, n_id_id3, hB1, hB2, n_id_id3, n_id3_id])
        | ((with_reducible first | apply AWp.ret | apply AWp.skip | apply AWp.exit); try simp -implicitDefEqProofs [n_id2_id1, n_id1_id2, n_id3_id2, n_id2_id3, n_id3_id1, n_id1_id3, n_id1_id, n_id_id1, h, n_id2_id, n_id_id2, n_id3_id, n_id_id3, hB1, hB2, n_id_id3, n_id3_id]))
      refine AWp.loopA (α := (Nat) × (Nat) × (UInt8) × (Nat)) ((3, 0, c0, a0)) (fun ⟨f, d, c, q⟩ => f) (fun ⟨f, d, c, q⟩ => d + f = 3 ∧ eDm b rf f d c q = eTy b a ∧ q ≤ b.length) [(1, ?_), (2, ?_), (3, ?_)] (fun ⟨f, d, c, q⟩ => [(4, byV c)]) (fun ⟨f, d, c, q⟩ => (B.set id3 (tyC 0 0 d rf)).set id (rdC b q nl)) ?_ ?_ ?_ ?_
      rotate_left 3
      · (try dsimp only); (simp only [List.cons_append, List.nil_append]; repeat (first | exact FrWk.nil | refine FrWk.cons (by first | (simp -implicitDefEqProofs [n_id2_id1, n_id1_id2, n_id3_id2, n_id2_id3, n_id3_id1, n_id1_id3, n_id1_id, n_id_id1, h, n_id2_id, n_id_id2, n_id3_id, n_id_id3, hB1, hB2, n_id_id3, n_id3_id]; done) | exact Wk.of (by (try simp -implicitDefEqProofs [n_id2_id1, n_id1_id2, n_id3_id2, n_id2_id3, n_id3_id1, n_id1_id3, n_id1_id, n_id_id1, h, n_id2_id, n_id_id2, n_id3_id, n_id_id3, hB1, hB2, n_id_id3, n_id3_id]) <;> rfl)) ?_))
      · (try dsimp only); (first | exact AS.le_refl _ | assumption | (repeat (first | exact AS.le_refl _ | assumption | refine le_new (by simp [*]) ?_)))
      · exact ⟨rfl, hX0, ha0⟩
      intro x_ hx_
      obtain ⟨f, d, c, q⟩ := x_
      try dsimp only at hx_ ⊢
      obtain ⟨hdf, hX, hq⟩ := hx_
      simp only [List.cons_append, List.nil_append]
      have z29 := u8_eq (c := c) (n := 29) (by omega)
      by_cases h29 : c = 29
      · have z : ((c.toNat : Int) = 29) = True := z29.trans (eq_true h29)
        cases f with
        | zero =>
          have hXe : eTy b a = .error 6 := by rw [← hX]; simp [eDm, h29]
          obtain rfl : d = 3 := by omega
          have hneed := fun σ => need_bad 6 σ
          repeat (first
            | (with_reducible first | apply AWp.seq | apply AWp.block | refine And.intro (by first | omega | assumption | decide) ?_)
            | ((first | (with_reducible first | apply AWp.fork | apply AWp.region | show condK _ _ _ | show guardK _ _ _ _ _ _ _ _ _) | ((with_reducible apply aCall.id); first | apply (gp_ (hneed _)))); simp -implicitDefEqProofs [z, byV, tyC_def, n_id2_id1, n_id1_id2, n_id3_id2, n_id2_id3, n_id3_id1, n_id1_id3, n_id1_id, n_id_id1, h, n_id2_id, n_id_id2, n_id3_id, n_id_id3, hB1, hB2, n_id_id3, n_id3_id])
            | ((with_reducible first | apply AWp.ret | apply AWp.skip | apply AWp.exit); try simp -implicitDefEqProofs [z, byV, tyC_def, n_id2_id1, n_id1_id2, n_id3_id2, n_id2_id3, n_id3_id1, n_id1_id3, n_id1_id, n_id_id1, h, n_id2_id, n_id_id2, n_id3_id, n_id_id3, hB1, hB2, n_id_id3, n_id3_id]))
          exact ⟨_, hfin true 0 0 0 _ _, 6, hXe, rfl, q, rfl⟩
        | succ f =>
          have hd2 : (d : Int) + 1 ≤ 3 := by omega
          have hneed := fun σ => need_ok 6 σ
          have wi_d : IntKind.i64.wrap ((d : Int) + 1) = ((d + 1 : Nat) : Int) := ci_wi (by omega)
          cases hB2 : eB b q with
          | error e =>
            have hXe : eTy b a = .error e := by rw [← hX]; simp [eDm, h29, hB2]
            have ho2 := fun σ h => RD.bad (ho q σ h hq) hB2
            repeat (first
              | (with_reducible first | apply AWp.seq | apply AWp.block | refine And.intro (by first | omega | assumption | decide) ?_)
              | ((first | (with_reducible first | apply AWp.fork | apply AWp.region | show condK _ _ _ | show guardK _ _ _ _ _ _ _ _ _) | ((with_reducible apply aCall.id); first | apply (thr_ (ho2 _ (by simp [n_id_id3, n_id3_id, hBi]))) | apply aCall.gives (hneed _))); simp -implicitDefEqProofs [z, byV, tyC_def, hd2, n_id2_id1, n_id1_id2, n_id3_id2, n_id2_id3, n_id3_id1, n_id1_id3, n_id1_id, n_id_id1, h, n_id2_id, n_id_id2, n_id3_id, n_id_id3, hB1, hB2, n_id_id3, n_id3_id, wi_d])
              | ((with_reducible first | apply AWp.ret | apply AWp.skip | apply AWp.exit); try simp -implicitDefEqProofs [z, byV, tyC_def, hd2, n_id2_id1, n_id1_id2, n_id3_id2, n_id2_id3, n_id3_id1, n_id1_id3, n_id1_id, n_id_id1, h, n_id2_id, n_id_id2, n_id3_id, n_id_id3, hB1, hB2, n_id_id3, n_id3_id, wi_d]))
            intro x
            exact ⟨_, hfin true 0 0 0 _ _, e, hXe, rfl, x, rfl⟩
          | ok y =>
            obtain ⟨c2, a2⟩ := y
            have ho2 := fun σ h => RD.ok (ho q σ h hq) hB2
            have ha2 := eB_le hB2
            simp only [byV] at ho2
            repeat (first
              | (with_reducible first | apply AWp.seq | apply AWp.block | refine And.intro (by first | omega | assumption | decide) ?_)
              | ((first | (with_reducible first | apply AWp.fork | apply AWp.region | show condK _ _ _ | show guardK _ _ _ _ _ _ _ _ _) | ((with_reducible apply aCall.id); first | apply aCall.gives (ho2 _ (by simp [n_id_id3, n_id3_id, hBi])) | apply aCall.gives (hneed _))); simp -implicitDefEqProofs [z, byV, tyC_def, hd2, n_id2_id1, n_id1_id2, n_id3_id2, n_id2_id3, n_id3_id1, n_id1_id3, n_id1_id, n_id_id1, h, n_id2_id, n_id_id2, n_id3_id, n_id_id3, hB1, hB2, n_id_id3, n_id3_id, wi_d])
              | ((with_reducible first | apply AWp.ret | apply AWp.skip | apply AWp.exit); try simp -implicitDefEqProofs [z, byV, tyC_def, hd2, n_id2_id1, n_id1_id2, n_id3_id2, n_id2_id3, n_id3_id1, n_id1_id3, n_id1_id, n_id_id1, h, n_id2_id, n_id_id2, n_id3_id, n_id_id3, hB1, hB2, n_id_id3, n_id3_id, wi_d]))
            refine stepA.mk ((f, d + 1, c2, a2)) (by (try dsimp only); omega) (by (try dsimp only); (simp only [List.cons_append, List.nil_append]; repeat (first | exact FrWk.nil | refine FrWk.cons (by first | (simp -implicitDefEqProofs [byV, n_id2_id1, n_id1_id2, n_id3_id2, n_id2_id3, n_id3_id1, n_id1_id3, n_id1_id, n_id_id1, h, n_id2_id, n_id_id2, n_id3_id, n_id_id3, hB1, hB2, n_id_id3, n_id3_id, wi_d]; done) | exact Wk.of (by (try simp -implicitDefEqProofs [byV, n_id2_id1, n_id1_id2, n_id3_id2, n_id2_id3, n_id3_id1, n_id1_id3, n_id1_id, n_id_id1, h, n_id2_id, n_id_id2, n_id3_id, n_id_id3, hB1, hB2, n_id_id3, n_id3_id, wi_d]) <;> rfl)) ?_))) (by (try dsimp only); (simp [tyC_def, n_id_id3, n_id3_id])) ?_
            try dsimp only
            exact ⟨by omega, by rw [← hX]; simp [eDm, h29, hB2], ha2⟩
      · have z : ((c.toNat : Int) = 29) = False := z29.trans (eq_false h29)
        have hK : eKd b rf d c q = eTy b a := by rw [← hX]; cases f <;> simp [eDm, h29]
        have hd3 : d ≤ 3 := by omega
        clear hX0 hX
        have hend : ∀ (x y : ABlk) (z : Nat), AS.le (σ.set id (rdC b (z : Int) nl)) (((B.set id3 x).set id (rdC b (z : Int) nl)).set id2 y) := fun x y z => by
          intro j_ y_ hy_
          by_cases e_id : j_ = id
          · subst e_id; simp [AS.set, h_id2, h_id3, n_id_id2, n_id2_id, n_id2_id1, n_id1_id2, n_id3_id2, n_id2_id3, n_id3_id1, n_id1_id3, n_id1_id, n_id_id1, h, n_id2_id, n_id_id2, n_id3_id, n_id_id3, hB1, hB2, n_id_id3, n_id3_id] at hy_ ⊢; try first | exact hy_ | (cases hy_; done)
          by_cases e_id2 : j_ = id2
          · subst e_id2; simp [AS.set, h_id2, h_id3, n_id_id2, n_id2_id, n_id2_id1, n_id1_id2, n_id3_id2, n_id2_id3, n_id3_id1, n_id1_id3, n_id1_id, n_id_id1, h, n_id2_id, n_id_id2, n_id3_id, n_id_id3, hB1, hB2, n_id_id3, n_id3_id] at hy_ ⊢; try first | exact hy_ | (cases hy_; done)
          by_cases e_id3 : j_ = id3
          · subst e_id3; simp [AS.set, h_id2, h_id3, n_id_id2, n_id2_id, n_id2_id1, n_id1_id2, n_id3_id2, n_id2_id3, n_id3_id1, n_id1_id3, n_id1_id, n_id_id1, h, n_id2_id, n_id_id2, n_id3_id, n_id_id3, hB1, hB2, n_id_id3, n_id3_id] at hy_ ⊢; try first | exact hy_ | (cases hy_; done)
          simp [AS.set, h_id2, h_id3, n_id_id2, n_id2_id, n_id2_id1, n_id1_id2, n_id3_id2, n_id2_id3, n_id3_id1, n_id1_id3, n_id1_id, n_id_id1, h, n_id2_id, n_id_id2, n_id3_id, n_id_id3, hB1, hB2, n_id_id3, n_id3_id, e_id, e_id2, e_id3] at hy_ ⊢; try exact hy_
          by_cases e_1 : j_ = id1
          · subst e_1; rw [h_id1] at hy_; cases hy_
          · rw [eq_B j_ e_1 e_id2]; exact hy_
        have w1 := u8_eq (c := c) (n := 1) (by omega)
        have w8 := u8_eq (c := c) (n := 8) (by omega)
        have w10 := u8_eq (c := c) (n := 10) (by omega)
        have w28 := u8_eq (c := c) (n := 28) (by omega)
        have w18 := u8_eq (c := c) (n := 18) (by omega)
        have w17 := u8_eq (c := c) (n := 17) (by omega)
        have w19 := u8_eq (c := c) (n := 19) (by omega)
        by_cases c1 : c = 1
        · have v1 : ((c.toNat : Int) = 1) = True := w1.trans (eq_true c1)
          have hneed := fun e σ => need_ok e σ
          have hbad := fun e σ => need_bad e σ
          by_cases hr : rf = true
          · have hXe : eTy b a = .error 2 := by rw [← hK]; simp [eKd, c1, hr]
            repeat (first
              | (with_reducible first | apply AWp.seq | apply AWp.block | refine And.intro (by first | omega | assumption | decide) ?_)
              | ((first | (with_reducible first | apply AWp.fork | apply AWp.region | show condK _ _ _ | show guardK _ _ _ _ _ _ _ _ _) | ((with_reducible apply aCall.id); first | apply (gp_ (hbad _ _)))); simp -implicitDefEqProofs [z, byV, tyC_def, v1, hr, n_id2_id1, n_id1_id2, n_id3_id2, n_id2_id3, n_id3_id1, n_id1_id3, n_id1_id, n_id_id1, h, n_id2_id, n_id_id2, n_id3_id, n_id_id3, hB1, hB2, n_id_id3, n_id3_id])
              | ((with_reducible first | apply AWp.ret | apply AWp.skip | apply AWp.exit); try simp -implicitDefEqProofs [z, byV, tyC_def, v1, hr, n_id2_id1, n_id1_id2, n_id3_id2, n_id2_id3, n_id3_id1, n_id1_id3, n_id1_id, n_id_id1, h, n_id2_id, n_id_id2, n_id3_id, n_id_id3, hB1, hB2, n_id_id3, n_id3_id]))
            exact ⟨_, hfin true 0 0 0 _ _, 2, hXe, rfl, q, rfl⟩
          obtain rfl : rf = false := by simpa using hr
          by_cases hd0 : d = 0
          · subst hd0
            have hXo : eTy b a = .ok (⟨1, 0, 0, false⟩, q) := by rw [← hK]; simp [eKd, c1]
            repeat (first
              | (with_reducible first | apply AWp.seq | apply AWp.block | refine And.intro (by first | omega | assumption | decide) ?_)
              | ((first | (with_reducible first | apply AWp.fork | apply AWp.region | show condK _ _ _ | show guardK _ _ _ _ _ _ _ _ _) | ((with_reducible apply aCall.id); first | apply aCall.gives (hneed _ _))); simp -implicitDefEqProofs [z, byV, tyC_def, v1, n_id2_id1, n_id1_id2, n_id3_id2, n_id2_id3, n_id3_id1, n_id1_id3, n_id1_id, n_id_id1, h, n_id2_id, n_id_id2, n_id3_id, n_id_id3, hB1, hB2, n_id_id3, n_id3_id])
              | ((with_reducible first | apply AWp.ret | apply AWp.skip | apply AWp.exit); try simp -implicitDefEqProofs [z, byV, tyC_def, v1, n_id2_id1, n_id1_id2, n_id3_id2, n_id2_id3, n_id3_id1, n_id1_id3, n_id1_id, n_id_id1, h, n_id2_id, n_id_id2, n_id3_id, n_id_id3, hB1, hB2, n_id_id3, n_id3_id]))
            exact ⟨_, _, Wk.refl _, hend _ _ _, _, q, hXo, rfl, rfl⟩
          · have hXe : eTy b a = .error 2 := by rw [← hK]; simp [eKd, c1]; omega
            repeat (first
              | (with_reducible first | apply AWp.seq | apply AWp.block | refine And.intro (by first | omega | assumption | decide) ?_)
              | ((first | (with_reducible first | apply AWp.fork | apply AWp.region | show condK _ _ _ | show guardK _ _ _ _ _ _ _ _ _) | ((with_reducible apply aCall.id); first | apply (gp_ (hbad _ _)))); simp -implicitDefEqProofs [z, byV, tyC_def, v1, hd0, n_id2_id1, n_id1_id2, n_id3_id2, n_id2_id3, n_id3_id1, n_id1_id3, n_id1_id, n_id_id1, h, n_id2_id, n_id_id2, n_id3_id, n_id_id3, hB1, hB2, n_id_id3, n_id3_id])
              | ((with_reducible first | apply AWp.ret | apply AWp.skip | apply AWp.exit); try simp -implicitDefEqProofs [z, byV, tyC_def, v1, hd0, n_id2_id1, n_id1_id2, n_id3_id2, n_id2_id3, n_id3_id1, n_id1_id3, n_id1_id, n_id_id1, h, n_id2_id, n_id_id2, n_id3_id, n_id_id3, hB1, hB2, n_id_id3, n_id3_id]))
            exact ⟨_, hfin true 0 0 0 _ _, 2, hXe, rfl, q, rfl⟩
        have v1 : ((c.toNat : Int) = 1) = False := w1.trans (eq_false c1)
        by_cases c8 : c = 8
        · have v8 : ((c.toNat : Int) = 8) = True := w8.trans (eq_true c8)
          have hXo : eTy b a = .ok (⟨2, 0, d, rf⟩, q) := by rw [← hK]; simp [eKd, c1, c8]
          repeat (first
            | (with_reducible first | apply AWp.seq | apply AWp.block | refine And.intro (by first | omega | assumption | decide) ?_)
            | ((first | (with_reducible first | apply AWp.fork | apply AWp.region | show condK _ _ _ | show guardK _ _ _ _ _ _ _ _ _)); simp -implicitDefEqProofs [z, byV, tyC_def, v1, v8, n_id2_id1, n_id1_id2, n_id3_id2, n_id2_id3, n_id3_id1, n_id1_id3, n_id1_id, n_id_id1, h, n_id2_id, n_id_id2, n_id3_id, n_id_id3, hB1, hB2, n_id_id3, n_id3_id])
            | ((with_reducible first | apply AWp.ret | apply AWp.skip | apply AWp.exit); try simp -implicitDefEqProofs [z, byV, tyC_def, v1, v8, n_id2_id1, n_id1_id2, n_id3_id2, n_id2_id3, n_id3_id1, n_id1_id3, n_id1_id, n_id_id1, h, n_id2_id, n_id_id2, n_id3_id, n_id_id3, hB1, hB2, n_id_id3, n_id3_id]))
          exact ⟨_, _, Wk.refl _, hend _ _ _, _, q, hXo, rfl, rfl⟩
        have v8 : ((c.toNat : Int) = 8) = False := w8.trans (eq_false c8)
        by_cases c10 : c = 10
        · have v10 : ((c.toNat : Int) = 10) = True := w10.trans (eq_true c10)
          have hXo : eTy b a = .ok (⟨3, 0, d, rf⟩, q) := by rw [← hK]; simp [eKd, c1, c8, c10]
          repeat (first
            | (with_reducible first | apply AWp.seq | apply AWp.block | refine And.intro (by first | omega | assumption | decide) ?_)
            | ((first | (with_reducible first | apply AWp.fork | apply AWp.region | show condK _ _ _ | show guardK _ _ _ _ _ _ _ _ _)); simp -implicitDefEqProofs [z, byV, tyC_def, v1, v8, v10, n_id2_id1, n_id1_id2, n_id3_id2, n_id2_id3, n_id3_id1, n_id1_id3, n_id1_id, n_id_id1, h, n_id2_id, n_id_id2, n_id3_id, n_id_id3, hB1, hB2, n_id_id3, n_id3_id])
            | ((with_reducible first | apply AWp.ret | apply AWp.skip | apply AWp.exit); try simp -implicitDefEqProofs [z, byV, tyC_def, v1, v8, v10, n_id2_id1, n_id1_id2, n_id3_id2, n_id2_id3, n_id3_id1, n_id1_id3, n_id1_id, n_id_id1, h, n_id2_id, n_id_id2, n_id3_id, n_id_id3, hB1, hB2, n_id_id3, n_id3_id]))
          exact ⟨_, _, Wk.refl _, hend _ _ _, _, q, hXo, rfl, rfl⟩
        have v10 : ((c.toNat : Int) = 10) = False := w10.trans (eq_false c10)
        by_cases c28 : c = 28
        · have v28 : ((c.toNat : Int) = 28) = True := w28.trans (eq_true c28)
          have hXo : eTy b a = .ok (⟨4, 0, d, rf⟩, q) := by rw [← hK]; simp [eKd, c1, c8, c10, c28]
          repeat (first
            | (with_reducible first | apply AWp.seq | apply AWp.block | refine And.intro (by first | omega | assumption | decide) ?_)
            | ((first | (with_reducible first | apply AWp.fork | apply AWp.region | show condK _ _ _ | show guardK _ _ _ _ _ _ _ _ _)); simp -implicitDefEqProofs [z, byV, tyC_def, v1, v8, v10, v28, n_id2_id1, n_id1_id2, n_id3_id2, n_id2_id3, n_id3_id1, n_id1_id3, n_id1_id, n_id_id1, h, n_id2_id, n_id_id2, n_id3_id, n_id_id3, hB1, hB2, n_id_id3, n_id3_id])
            | ((with_reducible first | apply AWp.ret | apply AWp.skip | apply AWp.exit); try simp -implicitDefEqProofs [z, byV, tyC_def, v1, v8, v10, v28, n_id2_id1, n_id1_id2, n_id3_id2, n_id2_id3, n_id3_id1, n_id1_id3, n_id1_id, n_id_id1, h, n_id2_id, n_id_id2, n_id3_id, n_id_id3, hB1, hB2, n_id_id3, n_id3_id]))
          exact ⟨_, _, Wk.refl _, hend _ _ _, _, q, hXo, rfl, rfl⟩
        have v28 : ((c.toNat : Int) = 28) = False := w28.trans (eq_false c28)
        by_cases c18 : c = 18
        · have v18 : ((c.toNat : Int) = 18) = True := w18.trans (eq_true c18)
          cases hN : eIx b q with
          | error e =>
            have hXe : eTy b a = .error e := by rw [← hK]; simp [eKd, c1, c8, c10, c28, c18, hN, mkT]
            have hi2 := fun σ h => RD.bad (hi q σ h hq) hN
            repeat (first
              | (with_reducible first | apply AWp.seq | apply AWp.block | refine And.intro (by first | omega | assumption | decide) ?_)
              | ((first | (with_reducible first | apply AWp.fork | apply AWp.region | show condK _ _ _ | show guardK _ _ _ _ _ _ _ _ _) | ((with_reducible apply aCall.id); first | apply (thr_ (hi2 _ (by simp [n_id_id3, n_id3_id, hBi]))))); simp -implicitDefEqProofs [z, byV, tyC_def, v1, v8, v10, v28, v18, n_id2_id1, n_id1_id2, n_id3_id2, n_id2_id3, n_id3_id1, n_id1_id3, n_id1_id, n_id_id1, h, n_id2_id, n_id_id2, n_id3_id, n_id_id3, hB1, hB2, n_id_id3, n_id3_id])
              | ((with_reducible first | apply AWp.ret | apply AWp.skip | apply AWp.exit); try simp -implicitDefEqProofs [z, byV, tyC_def, v1, v8, v10, v28, v18, n_id2_id1, n_id1_id2, n_id3_id2, n_id2_id3, n_id3_id1, n_id1_id3, n_id1_id, n_id_id1, h, n_id2_id, n_id_id2, n_id3_id, n_id_id3, hB1, hB2, n_id_id3, n_id3_id]))
            intro x
            exact ⟨_, hfin true 0 0 0 _ _, e, hXe, rfl, x, rfl⟩
          | ok y =>
            obtain ⟨i, a2⟩ := y
            have hi2 := fun σ h => RD.ok (hi q σ h hq) hN
            simp only [ivV] at hi2
            have hXo : eTy b a = .ok (⟨5, i, d, rf⟩, a2) := by rw [← hK]; simp [eKd, c1, c8, c10, c28, c18, hN, mkT]
            repeat (first
              | (with_reducible first | apply AWp.seq | apply AWp.block | refine And.intro (by first | omega | assumption | decide) ?_)
              | ((first | (with_reducible first | apply AWp.fork | apply AWp.region | show condK _ _ _ | show guardK _ _ _ _ _ _ _ _ _) | ((with_reducible apply aCall.id); first | apply aCall.gives (hi2 _ (by simp [n_id_id3, n_id3_id, hBi])))); simp -implicitDefEqProofs [z, byV, tyC_def, v1, v8, v10, v28, v18, n_id2_id1, n_id1_id2, n_id3_id2, n_id2_id3, n_id3_id1, n_id1_id3, n_id1_id, n_id_id1, h, n_id2_id, n_id_id2, n_id3_id, n_id_id3, hB1, hB2, n_id_id3, n_id3_id])
              | ((with_reducible first | apply AWp.ret | apply AWp.skip | apply AWp.exit); try simp -implicitDefEqProofs [z, byV, tyC_def, v1, v8, v10, v28, v18, n_id2_id1, n_id1_id2, n_id3_id2, n_id2_id3, n_id3_id1, n_id1_id3, n_id1_id, n_id_id1, h, n_id2_id, n_id_id2, n_id3_id, n_id_id3, hB1, hB2, n_id_id3, n_id3_id]))
            exact ⟨_, _, Wk.refl _, hend _ _ _, _, a2, hXo, rfl, rfl⟩
        have v18 : ((c.toNat : Int) = 18) = False := w18.trans (eq_false c18)
        by_cases c17 : c = 17
        · have v17 : ((c.toNat : Int) = 17) = True := w17.trans (eq_true c17)
          cases hN : eIx b q with
          | error e =>
            have hXe : eTy b a = .error e := by rw [← hK]; simp [eKd, c1, c8, c10, c28, c18, c17, hN, mkT]
            have hi2 := fun σ h => RD.bad (hi q σ h hq) hN
            repeat (first
              | (with_reducible first | apply AWp.seq | apply AWp.block | refine And.intro (by first | omega | assumption | decide) ?_)
              | ((first | (with_reducible first | apply AWp.fork | apply AWp.region | show condK _ _ _ | show guardK _ _ _ _ _ _ _ _ _) | ((with_reducible apply aCall.id); first | apply (thr_ (hi2 _ (by simp [n_id_id3, n_id3_id, hBi]))))); simp -implicitDefEqProofs [z, byV, tyC_def, v1, v8, v10, v28, v18, v17, n_id2_id1, n_id1_id2, n_id3_id2, n_id2_id3, n_id3_id1, n_id1_id3, n_id1_id, n_id_id1, h, n_id2_id, n_id_id2, n_id3_id, n_id_id3, hB1, hB2, n_id_id3, n_id3_id])
              | ((with_reducible first | apply AWp.ret | apply AWp.skip | apply AWp.exit); try simp -implicitDefEqProofs [z, byV, tyC_def, v1, v8, v10, v28, v18, v17, n_id2_id1, n_id1_id2, n_id3_id2, n_id2_id3, n_id3_id1, n_id1_id3, n_id1_id, n_id_id1, h, n_id2_id, n_id_id2, n_id3_id, n_id_id3, hB1, hB2, n_id_id3, n_id3_id]))
            intro x
            exact ⟨_, hfin true 0 0 0 _ _, e, hXe, rfl, x, rfl⟩
          | ok y =>
            obtain ⟨i, a2⟩ := y
            have hi2 := fun σ h => RD.ok (hi q σ h hq) hN
            simp only [ivV] at hi2
            have hXo : eTy b a = .ok (⟨6, i, d, rf⟩, a2) := by rw [← hK]; simp [eKd, c1, c8, c10, c28, c18, c17, hN, mkT]
            repeat (first
              | (with_reducible first | apply AWp.seq | apply AWp.block | refine And.intro (by first | omega | assumption | decide) ?_)
              | ((first | (with_reducible first | apply AWp.fork | apply AWp.region | show condK _ _ _ | show guardK _ _ _ _ _ _ _ _ _) | ((with_reducible apply aCall.id); first | apply aCall.gives (hi2 _ (by simp [n_id_id3, n_id3_id, hBi])))); simp -implicitDefEqProofs [z, byV, tyC_def, v1, v8, v10, v28, v18, v17, n_id2_id1, n_id1_id2, n_id3_id2, n_id2_id3, n_id3_id1, n_id1_id3, n_id1_id, n_id_id1, h, n_id2_id, n_id_id2, n_id3_id, n_id_id3, hB1, hB2, n_id_id3, n_id3_id])
              | ((with_reducible first | apply AWp.ret | apply AWp.skip | apply AWp.exit); try simp -implicitDefEqProofs [z, byV, tyC_def, v1, v8, v10, v28, v18, v17, n_id2_id1, n_id1_id2, n_id3_id2, n_id2_id3, n_id3_id1, n_id1_id3, n_id1_id, n_id_id1, h, n_id2_id, n_id_id2, n_id3_id, n_id_id3, hB1, hB2, n_id_id3, n_id3_id]))
            exact ⟨_, _, Wk.refl _, hend _ _ _, _, a2, hXo, rfl, rfl⟩
        have v17 : ((c.toNat : Int) = 17) = False := w17.trans (eq_false c17)
        by_cases c19 : c = 19
        · have v19 : ((c.toNat : Int) = 19) = True := w19.trans (eq_true c19)
          cases hN : ePk b q with
          | error e =>
            have hXe : eTy b a = .error e := by rw [← hK]; simp [eKd, c1, c8, c10, c28, c18, c17, c19, hN, mkT, eFt]
            have hi2 := fun σ h => RD.bad (hp q σ h hq) hN
            repeat (first
              | (with_reducible first | apply AWp.seq | apply AWp.block | refine And.intro (by first | omega | assumption | decide) ?_)
              | ((first | (with_reducible first | apply AWp.fork | apply AWp.region | show condK _ _ _ | show guardK _ _ _ _ _ _ _ _ _) | ((with_reducible apply aCall.id); first | apply (thr_ (hi2 _ (by simp [n_id_id3, n_id3_id, hBi]))))); simp -implicitDefEqProofs [z, byV, tyC_def, v1, v8, v10, v28, v18, v17, v19, n_id2_id1, n_id1_id2, n_id3_id2, n_id2_id3, n_id3_id1, n_id1_id3, n_id1_id, n_id_id1, h, n_id2_id, n_id_id2, n_id3_id, n_id_id3, hB1, hB2, n_id_id3, n_id3_id])
              | ((with_reducible first | apply AWp.ret | apply AWp.skip | apply AWp.exit); try simp -implicitDefEqProofs [z, byV, tyC_def, v1, v8, v10, v28, v18, v17, v19, n_id2_id1, n_id1_id2, n_id3_id2, n_id2_id3, n_id3_id1, n_id1_id3, n_id1_id, n_id_id1, h, n_id2_id, n_id_id2, n_id3_id, n_id_id3, hB1, hB2, n_id_id3, n_id3_id]))
            intro x
            exact ⟨_, hfin true 0 0 0 _ _, e, hXe, rfl, x, rfl⟩
          | ok y =>
            obtain ⟨i, a2⟩ := y
            have hi2 := fun σ h => RD.ok (hp q σ h hq) hN
            simp only [ivV] at hi2
            have hneed := fun e σ => need_ok e σ
            have hbad := fun e σ => need_bad e σ
            by_cases h7 : i ≤ 7
            · have hXo : eTy b a = .ok (⟨7, i, d, rf⟩, a2) := by rw [← hK]; simp [eKd, c1, c8, c10, c28, c18, c17, c19, hN, mkT, eFt, h7]
              repeat (first
                | (with_reducible first | apply AWp.seq | apply AWp.block | refine And.intro (by first | omega | assumption | decide) ?_)
                | ((first | (with_reducible first | apply AWp.fork | apply AWp.region | show condK _ _ _ | show guardK _ _ _ _ _ _ _ _ _) | ((with_reducible apply aCall.id); first | apply aCall.gives (hi2 _ (by simp [n_id_id3, n_id3_id, hBi])) | apply aCall.gives (hneed _ _))); simp -implicitDefEqProofs [z, byV, tyC_def, h7, v1, v8, v10, v28, v18, v17, v19, n_id2_id1, n_id1_id2, n_id3_id2, n_id2_id3, n_id3_id1, n_id1_id3, n_id1_id, n_id_id1, h, n_id2_id, n_id_id2, n_id3_id, n_id_id3, hB1, hB2, n_id_id3, n_id3_id])
                | ((with_reducible first | apply AWp.ret | apply AWp.skip | apply AWp.exit); try simp -implicitDefEqProofs [z, byV, tyC_def, h7, v1, v8, v10, v28, v18, v17, v19, n_id2_id1, n_id1_id2, n_id3_id2, n_id2_id3, n_id3_id1, n_id1_id3, n_id1_id, n_id_id1, h, n_id2_id, n_id_id2, n_id3_id, n_id_id3, hB1, hB2, n_id_id3, n_id3_id]))
              exact ⟨_, _, Wk.refl _, hend _ _ _, _, a2, hXo, rfl, rfl⟩
            · have hXe : eTy b a = .error 5 := by rw [← hK]; simp [eKd, c1, c8, c10, c28, c18, c17, c19, hN, mkT, eFt, h7]
              repeat (first
                | (with_reducible first | apply AWp.seq | apply AWp.block | refine And.intro (by first | omega | assumption | decide) ?_)
                | ((first | (with_reducible first | apply AWp.fork | apply AWp.region | show condK _ _ _ | show guardK _ _ _ _ _ _ _ _ _) | ((with_reducible apply aCall.id); first | apply aCall.gives (hi2 _ (by simp [n_id_id3, n_id3_id, hBi])) | apply (gp_ (hbad _ _)))); simp -implicitDefEqProofs [z, byV, tyC_def, h7, v1, v8, v10, v28, v18, v17, v19, n_id2_id1, n_id1_id2, n_id3_id2, n_id2_id3, n_id3_id1, n_id1_id3, n_id1_id, n_id_id1, h, n_id2_id, n_id_id2, n_id3_id, n_id_id3, hB1, hB2, n_id_id3, n_id3_id])
                | ((with_reducible first | apply AWp.ret | apply AWp.skip | apply AWp.exit); try simp -implicitDefEqProofs [z, byV, tyC_def, h7, v1, v8, v10, v28, v18, v17, v19, n_id2_id1, n_id1_id2, n_id3_id2, n_id2_id3, n_id3_id1, n_id1_id3, n_id1_id, n_id_id1, h, n_id2_id, n_id_id2, n_id3_id, n_id_id3, hB1, hB2, n_id_id3, n_id3_id]))
              exact ⟨_, hfin true 0 0 0 _ _, 5, hXe, rfl, a2, rfl⟩
        have v19 : ((c.toNat : Int) = 19) = False := w19.trans (eq_false c19)
        have hXe : eTy b a = .error 2 := by rw [← hK]; simp [eKd, c1, c8, c10, c28, c18, c17, c19]
        repeat (first
          | (with_reducible first | apply AWp.seq | apply AWp.block | refine And.intro (by first | omega | assumption | decide) ?_)
          | ((first | (with_reducible first | apply AWp.fork | apply AWp.region | show condK _ _ _ | show guardK _ _ _ _ _ _ _ _ _)); simp -implicitDefEqProofs [z, byV, tyC_def, v1, v8, v10, v28, v18, v17, v19, n_id2_id1, n_id1_id2, n_id3_id2, n_id2_id3, n_id3_id1, n_id1_id3, n_id1_id, n_id_id1, h, n_id2_id, n_id_id2, n_id3_id, n_id_id3, hB1, hB2, n_id_id3, n_id3_id])
          | ((with_reducible first | apply AWp.ret | apply AWp.skip | apply AWp.exit); try simp -implicitDefEqProofs [z, byV, tyC_def, v1, v8, v10, v28, v18, v17, v19, n_id2_id1, n_id1_id2, n_id3_id2, n_id2_id3, n_id3_id1, n_id1_id3, n_id1_id, n_id_id1, h, n_id2_id, n_id_id2, n_id3_id, n_id_id3, hB1, hB2, n_id_id3, n_id3_id]))
        exact ⟨_, hfin true 0 0 0 _ _, 2, hXe, rfl, q, rfl⟩

end Sg
end Go.Proofs.Ytplphldpkliakaa
