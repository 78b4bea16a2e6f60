/- Package rows: tables are read. -/
import Derived.Test.YtpekbapmnmnjoaaRowsA
set_option linter.unusedSimpArgs false
set_option linter.unusedVariables false
set_option maxRecDepth 100000
set_option maxHeartbeats 3200000
namespace Go.Proofs.Ytpekbapmnmnjoaa
open Go Go.AW

/-- The counts of the tables that are there. -/
def rCnt (b : List UInt8) (th : Nat) : Nat → Nat → Nat → Except (Int × Int) (List Int × Nat)
  | 0, _, a => .ok ([], a)
  | m + 1, t, a => if th / 2 ^ t % 2 = 1 then (match rNum b a 2 with
      | .error e => .error e
      | .ok (v, a') => preR [v] (rCnt b th m (t + 1) a'))
    else preR [0] (rCnt b th m (t + 1) a)
def rRws (b : List UInt8) (mk : Nat) (ks : List UInt8) : Nat → Nat → Except (Int × Int) (List (List Int) × Nat)
  | 0, a => .ok ([], a)
  | n + 1, a => match rRow b mk ks a with
    | .error e => .error e
    | .ok (l, a') => preR [l] (rRws b mk ks n a')
def rTbs (b : List UInt8) (mk : Nat) : List Int → Nat → Nat → Except (Int × Int) (List (List (List Int)) × Nat)
  | [], _, a => .ok ([], a)
  | c :: cs, t, a => match rRws b mk (kindsL (t : Int)) c.toNat a with
    | .error e => .error e
    | .ok (l, a') => preR [l] (rTbs b mk cs (t + 1) a')
def rAll (b : List UInt8) : Except (Int × Int) ((Int × List (List (List Int))) × Nat) :=
  match rLeast b 0 3 with
  | .error e => .error e
  | .ok (mk, a1) => match rLeast b a1 63 with
    | .error e => .error e
    | .ok (th, a2) => match rCnt b th.toNat 6 0 a2 with
      | .error e => .error e
      | .ok (cs, a3) => match rNum b a3 2 with
        | .error e => .error e
        | .ok (en, a4) => match rTbs b mk.toNat cs 0 a4 with
          | .error e => .error e
          | .ok (T, a5) => .ok ((en, T), a5)
theorem preR_app {α : Type} (d : List α) (v : α) (x : Except (Int × Int) (List α × Nat)) : preR d (preR [v] x) = preR (d ++ [v]) x := by
  cases x with
  | error e => rfl
  | ok y => obtain ⟨l, a⟩ := y; simp [preR]
theorem preR_nil {α : Type} (x : Except (Int × Int) (List α × Nat)) : preR [] x = x := by
  cases x with
  | error e => rfl
  | ok y => obtain ⟨l, a⟩ := y; rfl

def tvR (x : Int × List (List (List Int))) : AV := .agg [.sc (.int .i64 x.1), .lst 69 (x.2.map fun l => lV (l.map fun r => (r, decide (r = [])), decide (l = []))) .unk false]

theorem bit_of (th t : Nat) (ht : t < 6) (h : th ≤ 63) : IntKind.i64.wrap (bAnd 64 ((th : Int) / 2 ^ min t 64) 1) = ((th / 2 ^ t % 2 : Nat) : Int) := by
  have h1 : (th : Int) / 2 ^ t = ((th / 2 ^ t : Nat) : Int) := by simp
  have h2 : th / 2 ^ t ≤ 63 := Nat.le_trans (Nat.div_le_self _ _) h
  rw [show min t 64 = t by omega, h1]
  generalize th / 2 ^ t = q at *
  have h3 := and_mask (w := 64) (a := (q : Int)) 1 (by omega) (by have e : (2 : Int) ^ 64 = 18446744073709551616 := by decide
                                                                  omega) (by omega)
  rw [show (2 : Int) ^ 1 - 1 = 1 by decide, show (2 : Int) ^ 1 = 2 by decide] at h3
  rw [h3, in_i64 (by omega) (by omega)]
  omega

theorem cut_mid {α : Type} (A : List α) (x v : α) (C : List α) : List.take A.length (A ++ x :: C) ++ v :: List.drop (A.length + 1) (A ++ x :: C) = A ++ v :: C := by
  induction A with
  | nil => simp
  | cons a A ih => simp

/-- A place that all ways lead through. -/
def meetR (I : Fr → AS → Prop) (s : Fr) (σ : AS) : Prop := ∃ s1 σ1, FrWk Try.prog s s1 ∧ AS.le σ1 σ ∧ I s1 σ1
theorem AWp.meetR {n : Nat} {ds : List Deferred} {c y : Code} {Q Q2 : AQ} {s : Fr} {σ : AS} (I : Fr → AS → Prop) (h1 : AWp Try.prog n ds c (thenQ (meetR I) Q2) s σ) (h2 : ∀ s1 σ1, I s1 σ1 → AWp Try.prog n ds y Q s1 σ1) : AWp Try.prog n ds c (thenQ (AWp Try.prog n ds y Q) Q2) s σ :=
  AWp.mono h1 fun e s σ h => by
    cases e with
    | normal => obtain ⟨s1, σ1, g1, g2, g3⟩ := h; exact (h2 s1 σ1 g3).weaken g1 g2
    | exit i => exact h
    | ret => exact h
    | panic v => exact h
/-- .. the table's number of the entry is read, there is room for the rows. -/
def trM (b : List UInt8) (nl : Bool) (id rid id2 id4 a : Nat) (S : AS) (s1 : Fr) (σ1 : AS) : Prop :=
  ∃ (w id6 a4 : Nat) (en : Int), rNum b a 2 = .ok (en, a4) ∧ S w = none ∧ S id6 = none ∧ ¬ w = id6 ∧ σ1 id = some (rdC b a4 nl) ∧ σ1 w = some (.cells 69 (flatZ 6 .nilS)) ∧ σ1 id6 = some (.cells 24 [.sc (.int .i64 en), .msl w 0 6 6]) ∧
    (∀ j, j ≠ id → ∀ y, S j = some y → σ1 j = some y) ∧ s1 = mkF [(0, .ptr rid 0), (2, .ptr id2 0), (4, .ptr id4 0), (6, .ptr id6 0)]

theorem rRow_len {b : List UInt8} {mk : Nat} : ∀ {ks : List UInt8} {a : Nat} {l : List Int} {a' : Nat}, rRow b mk ks a = .ok (l, a') → a ≤ b.length → a' ≤ b.length := by
  intro ks
  induction ks with
  | nil => intro a l a' h ha; cases h; exact ha
  | cons k ks ih =>
    intro a l a' h ha
    rw [rRow] at h
    cases hN : rNum b a (wK k mk).toNat with
    | error e => rw [hN] at h; cases h
    | ok z =>
      obtain ⟨v, a2⟩ := z
      rw [hN] at h
      simp only at h
      obtain ⟨z1, z2, z3⟩ := rNum_ok hN
      cases hR : rRow b mk ks a2 with
      | error e => rw [hR] at h; cases h
      | ok z =>
        obtain ⟨l2, a3⟩ := z
        rw [hR] at h
        cases h
        exact ih hR (by omega)
theorem le_fin3 {σ : AS} {id w tk : Nat} {A A0 C C0 K K0 : ABlk} (h1 : ¬ id = w) (h2 : ¬ id = tk) (h3 : ¬ w = tk) : AS.le (((σ.set id A).set w C).set tk K) ((((((σ.set id A0).set w C0).set tk K0).set id A).set tk K).set w C) := by
  intro j y hy
  by_cases e1 : j = w
  · subst e1; simpa [AS.set, h3] using hy
  by_cases e2 : j = tk
  · subst e2; simpa [AS.set, e1] using hy
  by_cases e3 : j = id
  · subst e3; simpa [AS.set, e1, e2] using hy
  · simpa [AS.set, e1, e2, e3] using hy
theorem Wk_at {P : Program} {x x' : AV} (h : AV.Wk P x x') : ∀ (A C : List AV) (k : Nat), AV.Wk P ((A ++ x :: C).getD k .any) ((A ++ x' :: C).getD k .any) := by
  intro A C
  induction A with
  | nil =>
    intro k
    cases k with
    | zero => exact h
    | succ k => exact Wk.refl _
  | cons a A ih =>
    intro k
    cases k with
    | zero => exact Wk.refl _
    | succ k => exact ih k
/-- What is not written to any more is a list: the cell that holds it. -/
theorem AWp.freezeCell {P : Program} {n : Nat} {ds : List Deferred} {Q : AQ} {s : Fr} {σ : AS} {c : Code} (id2 id : Nat) {e ty : TypeId} {m : Nat} (es : List AV) {cs cs2 : List AV} (cs2' : List AV) (hne : ¬ id2 = id) (h2 : σ id2 = some (.cells ty cs2)) (h0 : σ id = none) (hm : es.length = m)
    (hl : ∀ v ∈ es, v.cells.length = P.cellsOf e) (hc : cs = flatC es) (hln : cs2'.length = cs2.length)
    (hk : ∀ k, k < cs2'.length → ∀ (G G' : Gh) (x : Value), G.Le G' → (∀ y, Rep P G (.msl id 0 m m) y → Rep P G' (.lst e es .full false) y) → Rep P G (cs2.getD k .any) x → Rep P G' (cs2'.getD k .any) x)
    (h : AWp P n ds c Q s (σ.set id2 (.cells ty cs2'))) : AWp P n ds c Q s (σ.set id (.cells e cs)) := by
  subst hc
  intro G0 G a w h1 h2'
  obtain ⟨G', hle, hi, conv⟩ := h2'.inv.freeze h0 hm hl
  obtain ⟨b, vs, g1, g2, g3, g4⟩ := h2'.inv.cells id2 ty cs2 (by simp [AS.set, hne, h2])
  have hi2 := hi.retell h2 (hle.inj _ _ g1) g2 hln (fun k hk' => hk k hk' G G' _ hle conv (g4 k (by omega)).1)
  exact h G0 G' a w (h1.trans hle) ⟨hi2, h2'.size, h2'.ds, fun j => (h2'.rep j).mono hle⟩
theorem getD_mid (A : List AV) (x : AV) (C : List AV) : (A ++ x :: C).getD A.length .any = x := by simp [List.getD_eq_getElem?_getD]
theorem set_mid (A : List AV) (x v : AV) (C : List AV) : (A ++ x :: C).set A.length v = A ++ v :: C := by
  induction A with
  | nil => rfl
  | cons a A ih => simp [ih]
theorem rCnt_pos {b : List UInt8} {th : Nat} : ∀ {m t a : Nat} {l : List Int} {a' : Nat}, rCnt b th m t a = .ok (l, a') → a ≤ b.length → (∀ x ∈ l, 0 ≤ x ∧ x < 65536) ∧ a' ≤ b.length := by
  intro m
  induction m with
  | zero =>
    intro t a l a' h ha
    cases h
    exact ⟨by simp, ha⟩
  | succ m ih =>
    intro t a l a' h ha
    rw [rCnt] at h
    split at h
    · cases hN : rNum b a 2 with
      | error e => rw [hN] at h; cases h
      | ok z =>
        obtain ⟨v, a2⟩ := z
        rw [hN] at h
        simp only at h
        obtain ⟨z1, z2, z3⟩ := rNum_ok hN
        cases hR : rCnt b th m (t + 1) a2 with
        | error e => rw [hR] at h; cases h
        | ok z =>
          obtain ⟨l2, a3⟩ := z
          rw [hR] at h
          cases h
          obtain ⟨i1, i2⟩ := ih hR (by omega)
          refine ⟨fun x hx => ?_, i2⟩
          rcases List.mem_cons.1 hx with rfl | hx
          · have h1 := numL_lt (seg b a 2)
            have h2 := seg_length b a 2 (by omega) (by omega) (by omega)
            rw [show (seg b a 2).length = 2 by omega, show (256 : Int) ^ 2 = 65536 by decide] at h1
            rw [z2]
            exact ⟨numL_nonneg _, h1⟩
          · exact i1 x hx
    · cases hR : rCnt b th m (t + 1) a with
      | error e => rw [hR] at h; cases h
      | ok z =>
        obtain ⟨l2, a3⟩ := z
        rw [hR] at h
        cases h
        obtain ⟨i1, i2⟩ := ih hR ha
        refine ⟨fun x hx => ?_, i2⟩
        rcases List.mem_cons.1 hx with rfl | hx
        · omega
        · exact i1 x hx
def tV (l : List (List Int)) : AV := lV (l.map fun r => (r, decide (r = [])), decide (l = []))
theorem flat_tV (T : List (List (List Int))) : flatC (T.map tV) = T.map tV := by
  induction T with
  | nil => rfl
  | cons l T ih =>
    simp only [flatC, List.map_cons, List.flatMap_cons] at ih ⊢
    rw [ih]; rfl
def ttO (b : List UInt8) (nl : Bool) (mkn : Nat) (d : List Int) (rid id id2 id4 id6 w : Nat) (X : Except (Int × Int) (List (List (List Int)) × Nat)) (S : AS) (m : Nat) (f : Fr) (σ' : AS) : Prop :=
  ∃ (t a : Nat) (T : List (List (List Int))), m = 6 - t ∧ t ≤ 6 ∧ a ≤ b.length ∧ T.length = t ∧ preR T (rTbs b mkn (d.drop t) t a) = X ∧
    σ' = (S.set id (rdC b a nl)).set w (.cells 69 (T.map tV ++ List.replicate (6 - t) .nilS)) ∧
    f = mkF [(0, .ptr rid 0), (2, .ptr id2 0), (6, .ptr id6 0), (33, .agg (d.map i64v)), (34, .sc (.int .i64 t))]
def ttI (b : List UInt8) (nl : Bool) (mkn : Nat) (d : List Int) (t c : Nat) (T : List (List (List Int))) (rid id id2 id6 w tk : Nat) (X : Except (Int × Int) (List (List Int) × Nat)) (S : AS) (m : Nat) (f : Fr) (σ' : AS) : Prop :=
  ∃ (i a : Nat) (L : List (List Int)), m = c - i ∧ i ≤ c ∧ a ≤ b.length ∧ L.length = i ∧ preR L (rRws b mkn (kindsL (t : Int)) (c - i) a) = X ∧
    σ' = ((S.set id (rdC b a nl)).set w (.cells 69 (T.map tV ++ .lst 70 (L.map rowV) (.tok tk) (decide (L = [])) :: List.replicate (5 - t) .nilS))).set tk (.tok i) ∧
    f = mkF [(0, .ptr rid 0), (2, .ptr id2 0), (6, .ptr id6 0), (7, .sc (.int .i64 t)), (33, .agg (d.map i64v)), (34, .sc (.int .i64 t)), (38, .sc (.int .i64 c)), (39, .sc (.int .i64 i))]

def tbI (b : List UInt8) (nl : Bool) (th : Nat) (rid id id2 id4 : Nat) (X : Except (Int × Int) (List Int × Nat)) (B : AS) (m : Nat) (f : Fr) (σ' : AS) : Prop :=
  ∃ (t a : Nat) (d : List Int), m = 6 - t ∧ t ≤ 6 ∧ a ≤ b.length ∧ d.length = t ∧ preR d (rCnt b th (6 - t) t a) = X ∧
    σ' = (B.set id (rdC b a nl)).set id4 (.cells 121 ((d ++ List.replicate (6 - t) 0).map i64v)) ∧
    f = mkF [(0, .ptr rid 0), (2, .ptr id2 0), (3, .sc (.int .i64 th)), (4, .ptr id4 0), (16, .sc (.int .i64 t))]

def RTb (b : List UInt8) (nl : Bool) (rid id : Nat) (σ : AS) (r : AV) (σ' : AS) : Prop := ∃ v a mk, rAll b = .ok (v, a) ∧ r = tvR v ∧ σ' = (σ.set rid (rBox id b.length mk)).set id (rdC b (a : Nat) nl)
def TTb (b : List UInt8) (nl : Bool) (rid id : Nat) (σ : AS) (p : AV) (σ' : AS) : Prop := ∃ e, rAll b = .error e ∧ p = fltR e.1 e.2 ∧ ∃ a mk : Int, σ' = (σ.set rid (rBox id b.length mk)).set id (rdC b a nl)
theorem TTb.of {b : List UInt8} {nl : Bool} {rid id : Nat} {σ S : AS} {e : Int × Int} (hX : rAll b = .error e) (a mk : Int) (hle : AS.le ((σ.set rid (rBox id b.length mk)).set id (rdC b a nl)) S) : ∃ σ', AS.le σ' S ∧ TTb b nl rid id σ (fltR e.1 e.2) σ' :=
  ⟨_, hle, e, hX, rfl, a, mk, rfl⟩

theorem wtables_ok (rid id : Nat) (b : List UInt8) (nl : Bool) (hnl : nl = true → b = []) (σ : AS) (hr : σ rid = some (rBox id b.length 0)) (h : σ id = some (rdC b 0 nl)) (hl : b.length ≤ 100000) :
    ACalls Try.prog 60 [.ptr rid 0] σ (RTb b nl rid id σ) (TTb b nl rid id σ) := by
  have n_rid_id : ¬ rid = id := by rintro rfl; rw [hr] at h; simp [rBox, rdC] at h
  have n_id_rid : ¬ id = rid := fun e => n_rid_id e.symm
  refine ACalls.of_body Try.func60 rfl rfl (by simp [Try.ntmps60]) ?_
  repeat (first
    | (with_reducible apply AWp.seq)
    | (with_reducible apply AWp.block)
    | ((with_reducible apply AWp.fork); simp -implicitDefEqProofs)
    | ((with_reducible apply AWp.region); simp -implicitDefEqProofs)
    | (with_reducible refine And.intro (by first | omega | assumption | decide) ?_)
    | (((with_reducible apply AWp.drawS (id := 10) (t := (Sch.step 0 (Sch.alt 1 (Sch.alt 2 (Sch.step 3 (Sch.alt 4 (Sch.alt 5 Sch.done Sch.none) Sch.none)) (Sch.alt 4 (Sch.alt 2 (Sch.step 3 (Sch.alt 5 Sch.done Sch.none)) Sch.none) Sch.none)) (Sch.alt 2 (Sch.alt 1 (Sch.step 3 (Sch.alt 4 (Sch.alt 5 Sch.done Sch.none) Sch.none)) (Sch.alt 4 (Sch.alt 1 (Sch.step 3 (Sch.alt 5 Sch.done Sch.none)) Sch.none) Sch.none)) (Sch.alt 4 (Sch.alt 1 (Sch.alt 2 (Sch.step 3 (Sch.alt 5 Sch.done Sch.none)) Sch.none) (Sch.alt 2 (Sch.alt 1 (Sch.step 3 (Sch.alt 5 Sch.done Sch.none)) Sch.none) Sch.none)) Sch.none)))))); (exact mixed); kernel_rfl; kernel_rfl; (repeat (with_reducible first | apply PanQ.then | apply PanQ.block | apply PanQ.body | apply PanQ.no))); simp -implicitDefEqProofs)
    | (((with_reducible apply AWp.drawS (id := 16) (t := (Sch.step 0 (Sch.step 2 (Sch.step 3 (Sch.step 5 (Sch.step 8 (Sch.step 9 (Sch.alt 1 (Sch.alt 4 (Sch.step 6 (Sch.alt 7 (Sch.alt 10 (Sch.step 11 (Sch.alt 12 (Sch.step 13 (Sch.alt 14 Sch.done Sch.none)) Sch.none)) Sch.none) (Sch.alt 10 (Sch.step 11 (Sch.read 7 (Sch.alt 12 (Sch.step 13 (Sch.alt 14 Sch.done Sch.none)) Sch.none))) Sch.none))) (Sch.alt 10 (Sch.step 11 (Sch.read 4 (Sch.step 6 (Sch.read 7 (Sch.alt 12 (Sch.step 13 (Sch.alt 14 Sch.done Sch.none)) Sch.none))))) Sch.none)) (Sch.alt 4 (Sch.step 6 (Sch.alt 1 (Sch.alt 7 (Sch.alt 10 (Sch.step 11 (Sch.alt 12 (Sch.step 13 (Sch.alt 14 Sch.done Sch.none)) Sch.none)) Sch.none) (Sch.alt 10 (Sch.step 11 (Sch.read 7 (Sch.alt 12 (Sch.step 13 (Sch.alt 14 Sch.done Sch.none)) Sch.none))) Sch.none)) (Sch.alt 7 (Sch.alt 1 (Sch.alt 10 (Sch.step 11 (Sch.alt 12 (Sch.step 13 (Sch.alt 14 Sch.done Sch.none)) Sch.none)) Sch.none) (Sch.alt 10 (Sch.step 11 (Sch.alt 1 (Sch.alt 12 (Sch.step 13 (Sch.alt 14 Sch.done Sch.none)) Sch.none) (Sch.alt 12 (Sch.read 1 (Sch.step 13 (Sch.alt 14 Sch.done Sch.none))) Sch.none))) Sch.none)) (Sch.alt 10 (Sch.step 11 (Sch.read 7 (Sch.alt 1 (Sch.alt 12 (Sch.step 13 (Sch.alt 14 Sch.done Sch.none)) Sch.none) (Sch.alt 12 (Sch.read 1 (Sch.step 13 (Sch.alt 14 Sch.done Sch.none))) Sch.none)))) Sch.none)))) (Sch.alt 10 (Sch.step 11 (Sch.read 4 (Sch.step 6 (Sch.read 7 (Sch.alt 1 (Sch.alt 12 (Sch.step 13 (Sch.alt 14 Sch.done Sch.none)) Sch.none) (Sch.alt 12 (Sch.read 1 (Sch.step 13 (Sch.alt 14 Sch.done Sch.none))) Sch.none)))))) Sch.none))))))))))); (exact mixed); kernel_rfl; kernel_rfl; (repeat (with_reducible first | apply PanQ.then | apply PanQ.block | apply PanQ.body | apply PanQ.no))); simp -implicitDefEqProofs)
    | ((with_reducible apply AWp.ret); try simp -implicitDefEqProofs)
    | ((with_reducible apply AWp.skip); try simp -implicitDefEqProofs)
    | ((with_reducible apply AWp.exit); try simp -implicitDefEqProofs))
  intro id2 h_id2
  have n_id_id2 : ¬ id = id2 := by rintro rfl; rw [h] at h_id2; cases h_id2
  have n_id2_id : ¬ id2 = id := fun e => n_id_id2 e.symm
  have n_rid_id2 : ¬ rid = id2 := by rintro rfl; rw [hr] at h_id2; cases h_id2
  have n_id2_rid : ¬ id2 = rid := fun e => n_rid_id2 e.symm
  cases hL1 : rLeast b 0 3 with
  | error e =>
    have hX : rAll b = .error e := by unfold rAll; rw [hL1]
    have hb := fun σ hr h => wleast_bad rid id 0 b 0 nl σ hr h (by omega) (by omega) 3 e hL1
    repeat (first
      | (with_reducible apply AWp.seq)
      | (with_reducible apply AWp.block)
      | ((with_reducible apply AWp.fork); simp -implicitDefEqProofs [n_id2_id, n_id_id2, h, n_id2_rid, n_rid_id2, hr])
      | ((with_reducible apply AWp.region); simp -implicitDefEqProofs [n_id2_id, n_id_id2, h, n_id2_rid, n_rid_id2, hr])
      | (with_reducible refine And.intro (by first | omega | assumption | decide) ?_)
      | ((with_reducible show condK _ _ _); simp -implicitDefEqProofs [n_id2_id, n_id_id2, h, n_id2_rid, n_rid_id2, hr])
      | ((with_reducible show guardK _ _ _ _ _ _ _ _ _); simp -implicitDefEqProofs [n_id2_id, n_id_id2, h, n_id2_rid, n_rid_id2, hr])
      | (((with_reducible apply AWp.drawS (id := 10) (t := (Sch.step 0 (Sch.alt 1 (Sch.alt 2 (Sch.step 3 (Sch.alt 4 (Sch.alt 5 Sch.done Sch.none) Sch.none)) (Sch.alt 4 (Sch.alt 2 (Sch.step 3 (Sch.alt 5 Sch.done Sch.none)) Sch.none) Sch.none)) (Sch.alt 2 (Sch.alt 1 (Sch.step 3 (Sch.alt 4 (Sch.alt 5 Sch.done Sch.none) Sch.none)) (Sch.alt 4 (Sch.alt 1 (Sch.step 3 (Sch.alt 5 Sch.done Sch.none)) Sch.none) Sch.none)) (Sch.alt 4 (Sch.alt 1 (Sch.alt 2 (Sch.step 3 (Sch.alt 5 Sch.done Sch.none)) Sch.none) (Sch.alt 2 (Sch.alt 1 (Sch.step 3 (Sch.alt 5 Sch.done Sch.none)) Sch.none) Sch.none)) Sch.none)))))); (exact mixed); kernel_rfl; kernel_rfl; (repeat (with_reducible first | apply PanQ.then | apply PanQ.block | apply PanQ.body | apply PanQ.no))); simp -implicitDefEqProofs [n_id2_id, n_id_id2, h, n_id2_rid, n_rid_id2, hr])
      | (((with_reducible apply AWp.drawS (id := 16) (t := (Sch.step 0 (Sch.step 2 (Sch.step 3 (Sch.step 5 (Sch.step 8 (Sch.step 9 (Sch.alt 1 (Sch.alt 4 (Sch.step 6 (Sch.alt 7 (Sch.alt 10 (Sch.step 11 (Sch.alt 12 (Sch.step 13 (Sch.alt 14 Sch.done Sch.none)) Sch.none)) Sch.none) (Sch.alt 10 (Sch.step 11 (Sch.read 7 (Sch.alt 12 (Sch.step 13 (Sch.alt 14 Sch.done Sch.none)) Sch.none))) Sch.none))) (Sch.alt 10 (Sch.step 11 (Sch.read 4 (Sch.step 6 (Sch.read 7 (Sch.alt 12 (Sch.step 13 (Sch.alt 14 Sch.done Sch.none)) Sch.none))))) Sch.none)) (Sch.alt 4 (Sch.step 6 (Sch.alt 1 (Sch.alt 7 (Sch.alt 10 (Sch.step 11 (Sch.alt 12 (Sch.step 13 (Sch.alt 14 Sch.done Sch.none)) Sch.none)) Sch.none) (Sch.alt 10 (Sch.step 11 (Sch.read 7 (Sch.alt 12 (Sch.step 13 (Sch.alt 14 Sch.done Sch.none)) Sch.none))) Sch.none)) (Sch.alt 7 (Sch.alt 1 (Sch.alt 10 (Sch.step 11 (Sch.alt 12 (Sch.step 13 (Sch.alt 14 Sch.done Sch.none)) Sch.none)) Sch.none) (Sch.alt 10 (Sch.step 11 (Sch.alt 1 (Sch.alt 12 (Sch.step 13 (Sch.alt 14 Sch.done Sch.none)) Sch.none) (Sch.alt 12 (Sch.read 1 (Sch.step 13 (Sch.alt 14 Sch.done Sch.none))) Sch.none))) Sch.none)) (Sch.alt 10 (Sch.step 11 (Sch.read 7 (Sch.alt 1 (Sch.alt 12 (Sch.step 13 (Sch.alt 14 Sch.done Sch.none)) Sch.none) (Sch.alt 12 (Sch.read 1 (Sch.step 13 (Sch.alt 14 Sch.done Sch.none))) Sch.none)))) Sch.none)))) (Sch.alt 10 (Sch.step 11 (Sch.read 4 (Sch.step 6 (Sch.read 7 (Sch.alt 1 (Sch.alt 12 (Sch.step 13 (Sch.alt 14 Sch.done Sch.none)) Sch.none) (Sch.alt 12 (Sch.read 1 (Sch.step 13 (Sch.alt 14 Sch.done Sch.none))) Sch.none)))))) Sch.none))))))))))); (exact mixed); kernel_rfl; kernel_rfl; (repeat (with_reducible first | apply PanQ.then | apply PanQ.block | apply PanQ.body | apply PanQ.no))); simp -implicitDefEqProofs [n_id2_id, n_id_id2, h, n_id2_rid, n_rid_id2, hr])
      | ((with_reducible apply AWp.ret); try simp -implicitDefEqProofs [n_id2_id, n_id_id2, h, n_id2_rid, n_rid_id2, hr])
      | ((with_reducible apply AWp.skip); try simp -implicitDefEqProofs [n_id2_id, n_id_id2, h, n_id2_rid, n_rid_id2, hr])
      | ((with_reducible apply AWp.exit); try simp -implicitDefEqProofs [n_id2_id, n_id_id2, h, n_id2_rid, n_rid_id2, hr]))
    refine aCall.thrR (hb _ (by simp [n_rid_id2, hr]) (by simp [n_id_id2, h])) ?_
    intro x
    simp -implicitDefEqProofs [n_id2_id, n_id_id2, h, n_id2_rid, n_rid_id2, hr]
    refine TTb.of hX x 0 ?_
    intro j_ y_ hy_
    by_cases e_id : j_ = id
    · subst e_id; simp [AS.set, hr, h, h_id2, n_rid_id, n_id_rid, n_id2_id, n_id_id2, h, n_id2_rid, n_rid_id2, hr] at hy_ ⊢; try first | exact hy_ | (cases hy_; done)
    by_cases e_rid : j_ = rid
    · subst e_rid; simp [AS.set, hr, h, h_id2, n_rid_id, n_id_rid, n_id2_id, n_id_id2, h, n_id2_rid, n_rid_id2, hr] at hy_ ⊢; try first | exact hy_ | (cases hy_; done)
    by_cases e_id2 : j_ = id2
    · subst e_id2; simp [AS.set, hr, h, h_id2, n_rid_id, n_id_rid, n_id2_id, n_id_id2, h, n_id2_rid, n_rid_id2, hr] at hy_ ⊢; try first | exact hy_ | (cases hy_; done)
    simp [AS.set, hr, h, h_id2, n_rid_id, n_id_rid, n_id2_id, n_id_id2, h, n_id2_rid, n_rid_id2, hr, e_id, e_rid, e_id2] at hy_ ⊢; try exact hy_
  | ok z =>
    obtain ⟨mk, a1⟩ := z
    obtain ⟨hN1, hmk3⟩ := rLeast_ok hL1
    obtain ⟨q1, q2, q3⟩ := rNum_ok hN1
    have hmk0 : 0 ≤ mk := by rw [q2]; exact numL_nonneg _
    have hb := fun σ hr h => wleast_ok rid id 0 b 0 nl σ hr h (by omega) 3 mk a1 hL1
    simp only [rBox] at hr
    repeat (first
      | (with_reducible apply AWp.seq)
      | (with_reducible apply AWp.block)
      | ((with_reducible apply AWp.fork); simp -implicitDefEqProofs [n_rid_id, n_id_rid, n_id2_id, n_id_id2, h, n_id2_rid, n_rid_id2, hr])
      | ((with_reducible apply AWp.region); simp -implicitDefEqProofs [n_rid_id, n_id_rid, n_id2_id, n_id_id2, h, n_id2_rid, n_rid_id2, hr])
      | (with_reducible refine And.intro (by first | omega | assumption | decide) ?_)
      | ((with_reducible show condK _ _ _); simp -implicitDefEqProofs [n_rid_id, n_id_rid, n_id2_id, n_id_id2, h, n_id2_rid, n_rid_id2, hr])
      | ((with_reducible show guardK _ _ _ _ _ _ _ _ _); simp -implicitDefEqProofs [n_rid_id, n_id_rid, n_id2_id, n_id_id2, h, n_id2_rid, n_rid_id2, hr])
      | (((with_reducible apply AWp.drawS (id := 10) (t := (Sch.step 0 (Sch.alt 1 (Sch.alt 2 (Sch.step 3 (Sch.alt 4 (Sch.alt 5 Sch.done Sch.none) Sch.none)) (Sch.alt 4 (Sch.alt 2 (Sch.step 3 (Sch.alt 5 Sch.done Sch.none)) Sch.none) Sch.none)) (Sch.alt 2 (Sch.alt 1 (Sch.step 3 (Sch.alt 4 (Sch.alt 5 Sch.done Sch.none) Sch.none)) (Sch.alt 4 (Sch.alt 1 (Sch.step 3 (Sch.alt 5 Sch.done Sch.none)) Sch.none) Sch.none)) (Sch.alt 4 (Sch.alt 1 (Sch.alt 2 (Sch.step 3 (Sch.alt 5 Sch.done Sch.none)) Sch.none) (Sch.alt 2 (Sch.alt 1 (Sch.step 3 (Sch.alt 5 Sch.done Sch.none)) Sch.none) Sch.none)) Sch.none)))))); (exact mixed); kernel_rfl; kernel_rfl; (repeat (with_reducible first | apply PanQ.then | apply PanQ.block | apply PanQ.body | apply PanQ.no))); simp -implicitDefEqProofs [n_rid_id, n_id_rid, n_id2_id, n_id_id2, h, n_id2_rid, n_rid_id2, hr])
      | (((with_reducible apply AWp.drawS (id := 16) (t := (Sch.step 0 (Sch.step 2 (Sch.step 3 (Sch.step 5 (Sch.step 8 (Sch.step 9 (Sch.alt 1 (Sch.alt 4 (Sch.step 6 (Sch.alt 7 (Sch.alt 10 (Sch.step 11 (Sch.alt 12 (Sch.step 13 (Sch.alt 14 Sch.done Sch.none)) Sch.none)) Sch.none) (Sch.alt 10 (Sch.step 11 (Sch.read 7 (Sch.alt 12 (Sch.step 13 (Sch.alt 14 Sch.done Sch.none)) Sch.none))) Sch.none))) (Sch.alt 10 (Sch.step 11 (Sch.read 4 (Sch.step 6 (Sch.read 7 (Sch.alt 12 (Sch.step 13 (Sch.alt 14 Sch.done Sch.none)) Sch.none))))) Sch.none)) (Sch.alt 4 (Sch.step 6 (Sch.alt 1 (Sch.alt 7 (Sch.alt 10 (Sch.step 11 (Sch.alt 12 (Sch.step 13 (Sch.alt 14 Sch.done Sch.none)) Sch.none)) Sch.none) (Sch.alt 10 (Sch.step 11 (Sch.read 7 (Sch.alt 12 (Sch.step 13 (Sch.alt 14 Sch.done Sch.none)) Sch.none))) Sch.none)) (Sch.alt 7 (Sch.alt 1 (Sch.alt 10 (Sch.step 11 (Sch.alt 12 (Sch.step 13 (Sch.alt 14 Sch.done Sch.none)) Sch.none)) Sch.none) (Sch.alt 10 (Sch.step 11 (Sch.alt 1 (Sch.alt 12 (Sch.step 13 (Sch.alt 14 Sch.done Sch.none)) Sch.none) (Sch.alt 12 (Sch.read 1 (Sch.step 13 (Sch.alt 14 Sch.done Sch.none))) Sch.none))) Sch.none)) (Sch.alt 10 (Sch.step 11 (Sch.read 7 (Sch.alt 1 (Sch.alt 12 (Sch.step 13 (Sch.alt 14 Sch.done Sch.none)) Sch.none) (Sch.alt 12 (Sch.read 1 (Sch.step 13 (Sch.alt 14 Sch.done Sch.none))) Sch.none)))) Sch.none)))) (Sch.alt 10 (Sch.step 11 (Sch.read 4 (Sch.step 6 (Sch.read 7 (Sch.alt 1 (Sch.alt 12 (Sch.step 13 (Sch.alt 14 Sch.done Sch.none)) Sch.none) (Sch.alt 12 (Sch.read 1 (Sch.step 13 (Sch.alt 14 Sch.done Sch.none))) Sch.none)))))) Sch.none))))))))))); (exact mixed); kernel_rfl; kernel_rfl; (repeat (with_reducible first | apply PanQ.then | apply PanQ.block | apply PanQ.body | apply PanQ.no))); simp -implicitDefEqProofs [n_rid_id, n_id_rid, n_id2_id, n_id_id2, h, n_id2_rid, n_rid_id2, hr])
      | ((with_reducible apply aCall.id); first
          | ((apply aCall.gives (hb _ (by simp [n_rid_id2, hr, rBox]) (by simp [n_id_id2, h]))); simp -implicitDefEqProofs [n_rid_id, n_id_rid, n_id2_id, n_id_id2, h, n_id2_rid, n_rid_id2, hr]))
      | ((with_reducible apply AWp.ret); try simp -implicitDefEqProofs [n_rid_id, n_id_rid, n_id2_id, n_id_id2, h, n_id2_rid, n_rid_id2, hr])
      | ((with_reducible apply AWp.skip); try simp -implicitDefEqProofs [n_rid_id, n_id_rid, n_id2_id, n_id_id2, h, n_id2_rid, n_rid_id2, hr])
      | ((with_reducible apply AWp.exit); try simp -implicitDefEqProofs [n_rid_id, n_id_rid, n_id2_id, n_id_id2, h, n_id2_rid, n_rid_id2, hr]))
    obtain ⟨B, hBs, hB2, hBr, hle⟩ : ∃ B : AS, (((σ.set id2 (.cells 24 [.sc (.int .i64 0), .nilS])).set id (rdC b a1 nl)).set rid (.cells 108 [.ptr id 0, .sc (.int .i64 b.length), .sc (.int .i64 mk)])) = B.set id (rdC b a1 nl) ∧
        B id2 = some (.cells 24 [.sc (.int .i64 0), .nilS]) ∧ B rid = some (rBox id b.length mk) ∧
        ∀ (x : Int) (S : AS), S id = some (rdC b x nl) → (∀ j, j ≠ id2 → j ≠ id → ∀ y, B j = some y → S j = some y) → AS.le ((σ.set rid (rBox id b.length mk)).set id (rdC b x nl)) S := by
      refine ⟨((σ.set id2 (.cells 24 [.sc (.int .i64 0), .nilS])).set rid (rBox id b.length mk)), ?_, by simp [n_id2_rid], by simp, ?_⟩
      · funext j
        by_cases e1 : j = id
        · subst e1; simp [AS.set, n_id_rid]
        · simp [AS.set, e1, rBox]
      · intro x S hS hj j y hy
        by_cases e1 : j = id
        · subst e1
          have : rdC b x nl = y := by simpa [AS.set] using hy
          rw [hS, this]
        · by_cases e2 : j = rid
          · subst e2
            refine hj j n_rid_id2 e1 y ?_
            simpa [AS.set, e1] using hy
          · have hy' : σ j = some y := by simpa [AS.set, e1, e2] using hy
            have e3 : j ≠ id2 := by rintro rfl; rw [h_id2] at hy'; cases hy'
            exact hj j e3 e1 y (by simp [AS.set, e2, e3, hy'])
    rw [hBs]
    clear hBs hb
    obtain ⟨mkn, rfl⟩ := Int.eq_ofNat_of_zero_le hmk0
    cases hL2 : rLeast b a1 63 with
    | error e =>
      have hX : rAll b = .error e := by unfold rAll; rw [hL1]; simp only; rw [hL2]
      have hb := wleast_bad rid id mkn b a1 nl _ (show (B.set id (rdC b a1 nl)) rid = _ by simp [n_rid_id]; exact hBr) (by simp) (by omega) (by omega) 63 e hL2
      repeat (first
        | (with_reducible apply AWp.seq)
        | (with_reducible apply AWp.block)
        | ((with_reducible apply AWp.fork); simp -implicitDefEqProofs [n_id2_id, n_id_id2, h, n_id2_rid, n_rid_id2, hr])
        | ((with_reducible apply AWp.region); simp -implicitDefEqProofs [n_id2_id, n_id_id2, h, n_id2_rid, n_rid_id2, hr])
        | (with_reducible refine And.intro (by first | omega | assumption | decide) ?_)
        | ((with_reducible show condK _ _ _); simp -implicitDefEqProofs [n_id2_id, n_id_id2, h, n_id2_rid, n_rid_id2, hr])
        | ((with_reducible show guardK _ _ _ _ _ _ _ _ _); simp -implicitDefEqProofs [n_id2_id, n_id_id2, h, n_id2_rid, n_rid_id2, hr])
        | (((with_reducible apply AWp.drawS (id := 10) (t := (Sch.step 0 (Sch.alt 1 (Sch.alt 2 (Sch.step 3 (Sch.alt 4 (Sch.alt 5 Sch.done Sch.none) Sch.none)) (Sch.alt 4 (Sch.alt 2 (Sch.step 3 (Sch.alt 5 Sch.done Sch.none)) Sch.none) Sch.none)) (Sch.alt 2 (Sch.alt 1 (Sch.step 3 (Sch.alt 4 (Sch.alt 5 Sch.done Sch.none) Sch.none)) (Sch.alt 4 (Sch.alt 1 (Sch.step 3 (Sch.alt 5 Sch.done Sch.none)) Sch.none) Sch.none)) (Sch.alt 4 (Sch.alt 1 (Sch.alt 2 (Sch.step 3 (Sch.alt 5 Sch.done Sch.none)) Sch.none) (Sch.alt 2 (Sch.alt 1 (Sch.step 3 (Sch.alt 5 Sch.done Sch.none)) Sch.none) Sch.none)) Sch.none)))))); (exact mixed); kernel_rfl; kernel_rfl; (repeat (with_reducible first | apply PanQ.then | apply PanQ.block | apply PanQ.body | apply PanQ.no))); simp -implicitDefEqProofs [n_id2_id, n_id_id2, h, n_id2_rid, n_rid_id2, hr])
        | (((with_reducible apply AWp.drawS (id := 16) (t := (Sch.step 0 (Sch.step 2 (Sch.step 3 (Sch.step 5 (Sch.step 8 (Sch.step 9 (Sch.alt 1 (Sch.alt 4 (Sch.step 6 (Sch.alt 7 (Sch.alt 10 (Sch.step 11 (Sch.alt 12 (Sch.step 13 (Sch.alt 14 Sch.done Sch.none)) Sch.none)) Sch.none) (Sch.alt 10 (Sch.step 11 (Sch.read 7 (Sch.alt 12 (Sch.step 13 (Sch.alt 14 Sch.done Sch.none)) Sch.none))) Sch.none))) (Sch.alt 10 (Sch.step 11 (Sch.read 4 (Sch.step 6 (Sch.read 7 (Sch.alt 12 (Sch.step 13 (Sch.alt 14 Sch.done Sch.none)) Sch.none))))) Sch.none)) (Sch.alt 4 (Sch.step 6 (Sch.alt 1 (Sch.alt 7 (Sch.alt 10 (Sch.step 11 (Sch.alt 12 (Sch.step 13 (Sch.alt 14 Sch.done Sch.none)) Sch.none)) Sch.none) (Sch.alt 10 (Sch.step 11 (Sch.read 7 (Sch.alt 12 (Sch.step 13 (Sch.alt 14 Sch.done Sch.none)) Sch.none))) Sch.none)) (Sch.alt 7 (Sch.alt 1 (Sch.alt 10 (Sch.step 11 (Sch.alt 12 (Sch.step 13 (Sch.alt 14 Sch.done Sch.none)) Sch.none)) Sch.none) (Sch.alt 10 (Sch.step 11 (Sch.alt 1 (Sch.alt 12 (Sch.step 13 (Sch.alt 14 Sch.done Sch.none)) Sch.none) (Sch.alt 12 (Sch.read 1 (Sch.step 13 (Sch.alt 14 Sch.done Sch.none))) Sch.none))) Sch.none)) (Sch.alt 10 (Sch.step 11 (Sch.read 7 (Sch.alt 1 (Sch.alt 12 (Sch.step 13 (Sch.alt 14 Sch.done Sch.none)) Sch.none) (Sch.alt 12 (Sch.read 1 (Sch.step 13 (Sch.alt 14 Sch.done Sch.none))) Sch.none)))) Sch.none)))) (Sch.alt 10 (Sch.step 11 (Sch.read 4 (Sch.step 6 (Sch.read 7 (Sch.alt 1 (Sch.alt 12 (Sch.step 13 (Sch.alt 14 Sch.done Sch.none)) Sch.none) (Sch.alt 12 (Sch.read 1 (Sch.step 13 (Sch.alt 14 Sch.done Sch.none))) Sch.none)))))) Sch.none))))))))))); (exact mixed); kernel_rfl; kernel_rfl; (repeat (with_reducible first | apply PanQ.then | apply PanQ.block | apply PanQ.body | apply PanQ.no))); simp -implicitDefEqProofs [n_id2_id, n_id_id2, h, n_id2_rid, n_rid_id2, hr])
        | ((with_reducible apply AWp.ret); try simp -implicitDefEqProofs [n_id2_id, n_id_id2, h, n_id2_rid, n_rid_id2, hr])
        | ((with_reducible apply AWp.skip); try simp -implicitDefEqProofs [n_id2_id, n_id_id2, h, n_id2_rid, n_rid_id2, hr])
        | ((with_reducible apply AWp.exit); try simp -implicitDefEqProofs [n_id2_id, n_id_id2, h, n_id2_rid, n_rid_id2, hr]))
      refine aCall.thrR hb ?_
      intro x
      simp -implicitDefEqProofs [n_id2_id, n_id_id2, h, n_id2_rid, n_rid_id2, hr]
      refine TTb.of hX x mkn (hle x _ (by simp) fun j a2 a3 y hy => by simp [AS.set, a3, hy])
    | ok z =>
      obtain ⟨th, a2⟩ := z
      obtain ⟨hN2, hth3⟩ := rLeast_ok hL2
      obtain ⟨p1, p2, p3⟩ := rNum_ok hN2
      have hth0 : 0 ≤ th := by rw [p2]; exact numL_nonneg _
      obtain ⟨thn, rfl⟩ := Int.eq_ofNat_of_zero_le hth0
      have hb := wleast_ok rid id mkn b a1 nl _ (show (B.set id (rdC b a1 nl)) rid = _ by simp [n_rid_id]; exact hBr) (by simp) (by omega) 63 thn a2 hL2
      simp only [AS.set_set] at hb
      repeat (first
        | (with_reducible apply AWp.seq)
        | (with_reducible apply AWp.block)
        | ((with_reducible apply AWp.fork); simp -implicitDefEqProofs [n_id2_id, n_id_id2, h, n_id2_rid, n_rid_id2, hr])
        | ((with_reducible apply AWp.region); simp -implicitDefEqProofs [n_id2_id, n_id_id2, h, n_id2_rid, n_rid_id2, hr])
        | (with_reducible refine And.intro (by first | omega | assumption | decide) ?_)
        | ((with_reducible show condK _ _ _); simp -implicitDefEqProofs [n_id2_id, n_id_id2, h, n_id2_rid, n_rid_id2, hr])
        | ((with_reducible show guardK _ _ _ _ _ _ _ _ _); simp -implicitDefEqProofs [n_id2_id, n_id_id2, h, n_id2_rid, n_rid_id2, hr])
        | (((with_reducible apply AWp.drawS (id := 10) (t := (Sch.step 0 (Sch.alt 1 (Sch.alt 2 (Sch.step 3 (Sch.alt 4 (Sch.alt 5 Sch.done Sch.none) Sch.none)) (Sch.alt 4 (Sch.alt 2 (Sch.step 3 (Sch.alt 5 Sch.done Sch.none)) Sch.none) Sch.none)) (Sch.alt 2 (Sch.alt 1 (Sch.step 3 (Sch.alt 4 (Sch.alt 5 Sch.done Sch.none) Sch.none)) (Sch.alt 4 (Sch.alt 1 (Sch.step 3 (Sch.alt 5 Sch.done Sch.none)) Sch.none) Sch.none)) (Sch.alt 4 (Sch.alt 1 (Sch.alt 2 (Sch.step 3 (Sch.alt 5 Sch.done Sch.none)) Sch.none) (Sch.alt 2 (Sch.alt 1 (Sch.step 3 (Sch.alt 5 Sch.done Sch.none)) Sch.none) Sch.none)) Sch.none)))))); (exact mixed); kernel_rfl; kernel_rfl; (repeat (with_reducible first | apply PanQ.then | apply PanQ.block | apply PanQ.body | apply PanQ.no))); simp -implicitDefEqProofs [n_id2_id, n_id_id2, h, n_id2_rid, n_rid_id2, hr])
        | (((with_reducible apply AWp.drawS (id := 16) (t := (Sch.step 0 (Sch.step 2 (Sch.step 3 (Sch.step 5 (Sch.step 8 (Sch.step 9 (Sch.alt 1 (Sch.alt 4 (Sch.step 6 (Sch.alt 7 (Sch.alt 10 (Sch.step 11 (Sch.alt 12 (Sch.step 13 (Sch.alt 14 Sch.done Sch.none)) Sch.none)) Sch.none) (Sch.alt 10 (Sch.step 11 (Sch.read 7 (Sch.alt 12 (Sch.step 13 (Sch.alt 14 Sch.done Sch.none)) Sch.none))) Sch.none))) (Sch.alt 10 (Sch.step 11 (Sch.read 4 (Sch.step 6 (Sch.read 7 (Sch.alt 12 (Sch.step 13 (Sch.alt 14 Sch.done Sch.none)) Sch.none))))) Sch.none)) (Sch.alt 4 (Sch.step 6 (Sch.alt 1 (Sch.alt 7 (Sch.alt 10 (Sch.step 11 (Sch.alt 12 (Sch.step 13 (Sch.alt 14 Sch.done Sch.none)) Sch.none)) Sch.none) (Sch.alt 10 (Sch.step 11 (Sch.read 7 (Sch.alt 12 (Sch.step 13 (Sch.alt 14 Sch.done Sch.none)) Sch.none))) Sch.none)) (Sch.alt 7 (Sch.alt 1 (Sch.alt 10 (Sch.step 11 (Sch.alt 12 (Sch.step 13 (Sch.alt 14 Sch.done Sch.none)) Sch.none)) Sch.none) (Sch.alt 10 (Sch.step 11 (Sch.alt 1 (Sch.alt 12 (Sch.step 13 (Sch.alt 14 Sch.done Sch.none)) Sch.none) (Sch.alt 12 (Sch.read 1 (Sch.step 13 (Sch.alt 14 Sch.done Sch.none))) Sch.none))) Sch.none)) (Sch.alt 10 (Sch.step 11 (Sch.read 7 (Sch.alt 1 (Sch.alt 12 (Sch.step 13 (Sch.alt 14 Sch.done Sch.none)) Sch.none) (Sch.alt 12 (Sch.read 1 (Sch.step 13 (Sch.alt 14 Sch.done Sch.none))) Sch.none)))) Sch.none)))) (Sch.alt 10 (Sch.step 11 (Sch.read 4 (Sch.step 6 (Sch.read 7 (Sch.alt 1 (Sch.alt 12 (Sch.step 13 (Sch.alt 14 Sch.done Sch.none)) Sch.none) (Sch.alt 12 (Sch.read 1 (Sch.step 13 (Sch.alt 14 Sch.done Sch.none))) Sch.none)))))) Sch.none))))))))))); (exact mixed); kernel_rfl; kernel_rfl; (repeat (with_reducible first | apply PanQ.then | apply PanQ.block | apply PanQ.body | apply PanQ.no))); simp -implicitDefEqProofs [n_id2_id, n_id_id2, h, n_id2_rid, n_rid_id2, hr])
        | ((with_reducible apply aCall.id); first
            | ((apply aCall.gives (hb)); simp -implicitDefEqProofs [n_id2_id, n_id_id2, h, n_id2_rid, n_rid_id2, hr]))
        | ((with_reducible apply AWp.ret); try simp -implicitDefEqProofs [n_id2_id, n_id_id2, h, n_id2_rid, n_rid_id2, hr])
        | ((with_reducible apply AWp.skip); try simp -implicitDefEqProofs [n_id2_id, n_id_id2, h, n_id2_rid, n_rid_id2, hr])
        | ((with_reducible apply AWp.exit); try simp -implicitDefEqProofs [n_id2_id, n_id_id2, h, n_id2_rid, n_rid_id2, hr]))
      intro id4 n_id4_id h_id4
      have n_id_id4 : ¬ id = id4 := fun e => n_id4_id e.symm
      have n_rid_id4 : ¬ rid = id4 := by rintro rfl; rw [hBr] at h_id4; cases h_id4
      have n_id4_rid : ¬ id4 = rid := fun e => n_rid_id4 e.symm
      have n_id2_id4 : ¬ id2 = id4 := by rintro rfl; rw [hB2] at h_id4; cases h_id4
      have n_id4_id2 : ¬ id4 = id2 := fun e => n_id2_id4 e.symm
      repeat (first
        | (with_reducible apply AWp.seq)
        | (with_reducible apply AWp.block)
        | ((with_reducible apply AWp.fork); simp -implicitDefEqProofs [n_id2_id, n_id_id2, h, n_id2_rid, n_rid_id2, hr])
        | ((with_reducible apply AWp.region); simp -implicitDefEqProofs [n_id2_id, n_id_id2, h, n_id2_rid, n_rid_id2, hr])
        | (with_reducible refine And.intro (by first | omega | assumption | decide) ?_)
        | ((with_reducible show condK _ _ _); simp -implicitDefEqProofs [n_id2_id, n_id_id2, h, n_id2_rid, n_rid_id2, hr])
        | ((with_reducible show guardK _ _ _ _ _ _ _ _ _); simp -implicitDefEqProofs [n_id2_id, n_id_id2, h, n_id2_rid, n_rid_id2, hr])
        | (((with_reducible apply AWp.drawS (id := 10) (t := (Sch.step 0 (Sch.alt 1 (Sch.alt 2 (Sch.step 3 (Sch.alt 4 (Sch.alt 5 Sch.done Sch.none) Sch.none)) (Sch.alt 4 (Sch.alt 2 (Sch.step 3 (Sch.alt 5 Sch.done Sch.none)) Sch.none) Sch.none)) (Sch.alt 2 (Sch.alt 1 (Sch.step 3 (Sch.alt 4 (Sch.alt 5 Sch.done Sch.none) Sch.none)) (Sch.alt 4 (Sch.alt 1 (Sch.step 3 (Sch.alt 5 Sch.done Sch.none)) Sch.none) Sch.none)) (Sch.alt 4 (Sch.alt 1 (Sch.alt 2 (Sch.step 3 (Sch.alt 5 Sch.done Sch.none)) Sch.none) (Sch.alt 2 (Sch.alt 1 (Sch.step 3 (Sch.alt 5 Sch.done Sch.none)) Sch.none) Sch.none)) Sch.none)))))); (exact mixed); kernel_rfl; kernel_rfl; (repeat (with_reducible first | apply PanQ.then | apply PanQ.block | apply PanQ.body | apply PanQ.no))); simp -implicitDefEqProofs [n_id2_id, n_id_id2, h, n_id2_rid, n_rid_id2, hr])
        | (((with_reducible apply AWp.drawS (id := 16) (t := (Sch.step 0 (Sch.step 2 (Sch.step 3 (Sch.step 5 (Sch.step 8 (Sch.step 9 (Sch.alt 1 (Sch.alt 4 (Sch.step 6 (Sch.alt 7 (Sch.alt 10 (Sch.step 11 (Sch.alt 12 (Sch.step 13 (Sch.alt 14 Sch.done Sch.none)) Sch.none)) Sch.none) (Sch.alt 10 (Sch.step 11 (Sch.read 7 (Sch.alt 12 (Sch.step 13 (Sch.alt 14 Sch.done Sch.none)) Sch.none))) Sch.none))) (Sch.alt 10 (Sch.step 11 (Sch.read 4 (Sch.step 6 (Sch.read 7 (Sch.alt 12 (Sch.step 13 (Sch.alt 14 Sch.done Sch.none)) Sch.none))))) Sch.none)) (Sch.alt 4 (Sch.step 6 (Sch.alt 1 (Sch.alt 7 (Sch.alt 10 (Sch.step 11 (Sch.alt 12 (Sch.step 13 (Sch.alt 14 Sch.done Sch.none)) Sch.none)) Sch.none) (Sch.alt 10 (Sch.step 11 (Sch.read 7 (Sch.alt 12 (Sch.step 13 (Sch.alt 14 Sch.done Sch.none)) Sch.none))) Sch.none)) (Sch.alt 7 (Sch.alt 1 (Sch.alt 10 (Sch.step 11 (Sch.alt 12 (Sch.step 13 (Sch.alt 14 Sch.done Sch.none)) Sch.none)) Sch.none) (Sch.alt 10 (Sch.step 11 (Sch.alt 1 (Sch.alt 12 (Sch.step 13 (Sch.alt 14 Sch.done Sch.none)) Sch.none) (Sch.alt 12 (Sch.read 1 (Sch.step 13 (Sch.alt 14 Sch.done Sch.none))) Sch.none))) Sch.none)) (Sch.alt 10 (Sch.step 11 (Sch.read 7 (Sch.alt 1 (Sch.alt 12 (Sch.step 13 (Sch.alt 14 Sch.done Sch.none)) Sch.none) (Sch.alt 12 (Sch.read 1 (Sch.step 13 (Sch.alt 14 Sch.done Sch.none))) Sch.none)))) Sch.none)))) (Sch.alt 10 (Sch.step 11 (Sch.read 4 (Sch.step 6 (Sch.read 7 (Sch.alt 1 (Sch.alt 12 (Sch.step 13 (Sch.alt 14 Sch.done Sch.none)) Sch.none) (Sch.alt 12 (Sch.read 1 (Sch.step 13 (Sch.alt 14 Sch.done Sch.none))) Sch.none)))))) Sch.none))))))))))); (exact mixed); kernel_rfl; kernel_rfl; (repeat (with_reducible first | apply PanQ.then | apply PanQ.block | apply PanQ.body | apply PanQ.no))); simp -implicitDefEqProofs [n_id2_id, n_id_id2, h, n_id2_rid, n_rid_id2, hr])
        | ((with_reducible apply AWp.ret); try simp -implicitDefEqProofs [n_id2_id, n_id_id2, h, n_id2_rid, n_rid_id2, hr])
        | ((with_reducible apply AWp.skip); try simp -implicitDefEqProofs [n_id2_id, n_id_id2, h, n_id2_rid, n_rid_id2, hr])
        | ((with_reducible apply AWp.exit); try simp -implicitDefEqProofs [n_id2_id, n_id_id2, h, n_id2_rid, n_rid_id2, hr]))
      refine AWp.loopI (tbI b nl thn rid id id2 id4 (rCnt b thn 6 0 a2) B) (k0 := 6) ⟨0, a2, [], rfl, by omega, by omega, rfl, preR_nil _, rfl, rfl⟩ (FrWk.mk (by simp)) (by simp [i64v_def]) ?_
      rintro m f σ' ⟨t, a, d, hm, ht, ha, hd, hX, hs, rfl⟩
      have gI : σ' id = some (rdC b a nl) := by rw [hs]; simp [n_id_id4]
      have gR : σ' rid = some (rBox id b.length mkn) := by rw [hs]; simp [n_rid_id4, n_rid_id, hBr]
      have g4 : σ' id4 = some (.cells 121 ((d ++ List.replicate (6 - t) 0).map i64v)) := by rw [hs]; simp
      have leX : ∀ (x : Int) (S : AS), S id = some (rdC b x nl) → (∀ j, j ≠ id2 → j ≠ id → j ≠ id4 → ∀ y, σ' j = some y → S j = some y) → AS.le ((σ.set rid (rBox id b.length mkn)).set id (rdC b x nl)) S := by
        intro x S hS hj
        refine hle x S hS fun j e1 e2 y hy => ?_
        have e4 : j ≠ id4 := by rintro rfl; rw [h_id4] at hy; cases hy
        exact hj j e1 e2 e4 y (by rw [hs]; simp [AS.set, e2, e4, hy])
      have hAll : rAll b = match rCnt b thn 6 0 a2 with
          | .error e => .error e
          | .ok (cs, a3) => match rNum b a3 2 with
            | .error e => .error e
            | .ok (en, a4) => match rTbs b mkn cs 0 a4 with
              | .error e => .error e
              | .ok (T, a5) => .ok ((en, T), a5) := by unfold rAll; rw [hL1]; simp only; rw [hL2]; simp only [Int.toNat_natCast]
      by_cases hlt : t < 6
      · have hT : ((t : Int) < 6) = True := by simp; omega
        rw [show 6 - t = (6 - (t + 1)) + 1 by omega, rCnt] at hX
        have hbit := bit_of thn t hlt (by omega)
        have hrep : List.replicate (6 - t) (0 : Int) = 0 :: List.replicate (6 - (t + 1)) 0 := by rw [show 6 - t = (6 - (t + 1)) + 1 by omega]; rfl
        by_cases hb1 : thn / 2 ^ t % 2 = 1
        · rw [hb1] at hbit
          rw [if_pos hb1] at hX
          cases hN : rNum b a 2 with
          | error e =>
            rw [hN] at hX
            simp only [preR] at hX
            have hXX : rAll b = .error e := by rw [hAll, ← hX]
            have hb := wnum_bad rid id mkn b a 2 nl σ' gR gI ha (by omega) rfl e hN
            repeat (first
              | (with_reducible apply AWp.seq)
              | (with_reducible apply AWp.block)
              | ((with_reducible apply AWp.fork); simp -implicitDefEqProofs [hT, hbit, n_id2_id, n_id_id2, h, n_id2_rid, n_rid_id2, hr])
              | ((with_reducible apply AWp.region); simp -implicitDefEqProofs [hT, hbit, n_id2_id, n_id_id2, h, n_id2_rid, n_rid_id2, hr])
              | (with_reducible refine And.intro (by first | omega | assumption | decide) ?_)
              | ((with_reducible show condK _ _ _); simp -implicitDefEqProofs [hT, hbit, n_id2_id, n_id_id2, h, n_id2_rid, n_rid_id2, hr])
              | ((with_reducible show guardK _ _ _ _ _ _ _ _ _); simp -implicitDefEqProofs [hT, hbit, n_id2_id, n_id_id2, h, n_id2_rid, n_rid_id2, hr])
              | (((with_reducible apply AWp.drawS (id := 10) (t := (Sch.step 0 (Sch.alt 1 (Sch.alt 2 (Sch.step 3 (Sch.alt 4 (Sch.alt 5 Sch.done Sch.none) Sch.none)) (Sch.alt 4 (Sch.alt 2 (Sch.step 3 (Sch.alt 5 Sch.done Sch.none)) Sch.none) Sch.none)) (Sch.alt 2 (Sch.alt 1 (Sch.step 3 (Sch.alt 4 (Sch.alt 5 Sch.done Sch.none) Sch.none)) (Sch.alt 4 (Sch.alt 1 (Sch.step 3 (Sch.alt 5 Sch.done Sch.none)) Sch.none) Sch.none)) (Sch.alt 4 (Sch.alt 1 (Sch.alt 2 (Sch.step 3 (Sch.alt 5 Sch.done Sch.none)) Sch.none) (Sch.alt 2 (Sch.alt 1 (Sch.step 3 (Sch.alt 5 Sch.done Sch.none)) Sch.none) Sch.none)) Sch.none)))))); (exact mixed); kernel_rfl; kernel_rfl; (repeat (with_reducible first | apply PanQ.then | apply PanQ.block | apply PanQ.body | apply PanQ.no))); simp -implicitDefEqProofs [hT, hbit, n_id2_id, n_id_id2, h, n_id2_rid, n_rid_id2, hr])
              | (((with_reducible apply AWp.drawS (id := 16) (t := (Sch.step 0 (Sch.step 2 (Sch.step 3 (Sch.step 5 (Sch.step 8 (Sch.step 9 (Sch.alt 1 (Sch.alt 4 (Sch.step 6 (Sch.alt 7 (Sch.alt 10 (Sch.step 11 (Sch.alt 12 (Sch.step 13 (Sch.alt 14 Sch.done Sch.none)) Sch.none)) Sch.none) (Sch.alt 10 (Sch.step 11 (Sch.read 7 (Sch.alt 12 (Sch.step 13 (Sch.alt 14 Sch.done Sch.none)) Sch.none))) Sch.none))) (Sch.alt 10 (Sch.step 11 (Sch.read 4 (Sch.step 6 (Sch.read 7 (Sch.alt 12 (Sch.step 13 (Sch.alt 14 Sch.done Sch.none)) Sch.none))))) Sch.none)) (Sch.alt 4 (Sch.step 6 (Sch.alt 1 (Sch.alt 7 (Sch.alt 10 (Sch.step 11 (Sch.alt 12 (Sch.step 13 (Sch.alt 14 Sch.done Sch.none)) Sch.none)) Sch.none) (Sch.alt 10 (Sch.step 11 (Sch.read 7 (Sch.alt 12 (Sch.step 13 (Sch.alt 14 Sch.done Sch.none)) Sch.none))) Sch.none)) (Sch.alt 7 (Sch.alt 1 (Sch.alt 10 (Sch.step 11 (Sch.alt 12 (Sch.step 13 (Sch.alt 14 Sch.done Sch.none)) Sch.none)) Sch.none) (Sch.alt 10 (Sch.step 11 (Sch.alt 1 (Sch.alt 12 (Sch.step 13 (Sch.alt 14 Sch.done Sch.none)) Sch.none) (Sch.alt 12 (Sch.read 1 (Sch.step 13 (Sch.alt 14 Sch.done Sch.none))) Sch.none))) Sch.none)) (Sch.alt 10 (Sch.step 11 (Sch.read 7 (Sch.alt 1 (Sch.alt 12 (Sch.step 13 (Sch.alt 14 Sch.done Sch.none)) Sch.none) (Sch.alt 12 (Sch.read 1 (Sch.step 13 (Sch.alt 14 Sch.done Sch.none))) Sch.none)))) Sch.none)))) (Sch.alt 10 (Sch.step 11 (Sch.read 4 (Sch.step 6 (Sch.read 7 (Sch.alt 1 (Sch.alt 12 (Sch.step 13 (Sch.alt 14 Sch.done Sch.none)) Sch.none) (Sch.alt 12 (Sch.read 1 (Sch.step 13 (Sch.alt 14 Sch.done Sch.none))) Sch.none)))))) Sch.none))))))))))); (exact mixed); kernel_rfl; kernel_rfl; (repeat (with_reducible first | apply PanQ.then | apply PanQ.block | apply PanQ.body | apply PanQ.no))); simp -implicitDefEqProofs [hT, hbit, n_id2_id, n_id_id2, h, n_id2_rid, n_rid_id2, hr])
              | ((with_reducible apply AWp.ret); try simp -implicitDefEqProofs [hT, hbit, n_id2_id, n_id_id2, h, n_id2_rid, n_rid_id2, hr])
              | ((with_reducible apply AWp.skip); try simp -implicitDefEqProofs [hT, hbit, n_id2_id, n_id_id2, h, n_id2_rid, n_rid_id2, hr])
              | ((with_reducible apply AWp.exit); try simp -implicitDefEqProofs [hT, hbit, n_id2_id, n_id_id2, h, n_id2_rid, n_rid_id2, hr]))
            refine aCall.thrR hb ?_
            intro x
            simp -implicitDefEqProofs [n_id2_id, n_id_id2, h, n_id2_rid, n_rid_id2, hr]
            exact TTb.of hXX x mkn (leX x _ (by simp) fun j e1 e2 e3 y hy => by simp [AS.set, e2, hy])
          | ok z =>
            obtain ⟨v, a3⟩ := z
            rw [hN] at hX
            simp only at hX
            rw [preR_app] at hX
            obtain ⟨z1, z2, z3⟩ := rNum_ok hN
            have hb := wnum_ok rid id mkn b a 2 nl σ' gR gI (by omega) rfl (by omega) v a3 hN
            have htl : t < (d ++ List.replicate (6 - t) (0 : Int)).length := by simp; omega
            have htl2 : t < d.length + (6 - t) := by omega
            repeat (first
              | (with_reducible apply AWp.seq)
              | (with_reducible apply AWp.block)
              | ((with_reducible apply AWp.fork); simp -implicitDefEqProofs [hT, hbit, g4, hlt, htl2, n_id4_id, n_id2_id, n_id_id2, h, n_id2_rid, n_rid_id2, hr])
              | ((with_reducible apply AWp.region); simp -implicitDefEqProofs [hT, hbit, g4, hlt, htl2, n_id4_id, n_id2_id, n_id_id2, h, n_id2_rid, n_rid_id2, hr])
              | (with_reducible refine And.intro (by first | omega | assumption | decide) ?_)
              | ((with_reducible show condK _ _ _); simp -implicitDefEqProofs [hT, hbit, g4, hlt, htl2, n_id4_id, n_id2_id, n_id_id2, h, n_id2_rid, n_rid_id2, hr])
              | ((with_reducible show guardK _ _ _ _ _ _ _ _ _); simp -implicitDefEqProofs [hT, hbit, g4, hlt, htl2, n_id4_id, n_id2_id, n_id_id2, h, n_id2_rid, n_rid_id2, hr])
              | (((with_reducible apply AWp.drawS (id := 10) (t := (Sch.step 0 (Sch.alt 1 (Sch.alt 2 (Sch.step 3 (Sch.alt 4 (Sch.alt 5 Sch.done Sch.none) Sch.none)) (Sch.alt 4 (Sch.alt 2 (Sch.step 3 (Sch.alt 5 Sch.done Sch.none)) Sch.none) Sch.none)) (Sch.alt 2 (Sch.alt 1 (Sch.step 3 (Sch.alt 4 (Sch.alt 5 Sch.done Sch.none) Sch.none)) (Sch.alt 4 (Sch.alt 1 (Sch.step 3 (Sch.alt 5 Sch.done Sch.none)) Sch.none) Sch.none)) (Sch.alt 4 (Sch.alt 1 (Sch.alt 2 (Sch.step 3 (Sch.alt 5 Sch.done Sch.none)) Sch.none) (Sch.alt 2 (Sch.alt 1 (Sch.step 3 (Sch.alt 5 Sch.done Sch.none)) Sch.none) Sch.none)) Sch.none)))))); (exact mixed); kernel_rfl; kernel_rfl; (repeat (with_reducible first | apply PanQ.then | apply PanQ.block | apply PanQ.body | apply PanQ.no))); simp -implicitDefEqProofs [hT, hbit, g4, hlt, htl2, n_id4_id, n_id2_id, n_id_id2, h, n_id2_rid, n_rid_id2, hr])
              | (((with_reducible apply AWp.drawS (id := 16) (t := (Sch.step 0 (Sch.step 2 (Sch.step 3 (Sch.step 5 (Sch.step 8 (Sch.step 9 (Sch.alt 1 (Sch.alt 4 (Sch.step 6 (Sch.alt 7 (Sch.alt 10 (Sch.step 11 (Sch.alt 12 (Sch.step 13 (Sch.alt 14 Sch.done Sch.none)) Sch.none)) Sch.none) (Sch.alt 10 (Sch.step 11 (Sch.read 7 (Sch.alt 12 (Sch.step 13 (Sch.alt 14 Sch.done Sch.none)) Sch.none))) Sch.none))) (Sch.alt 10 (Sch.step 11 (Sch.read 4 (Sch.step 6 (Sch.read 7 (Sch.alt 12 (Sch.step 13 (Sch.alt 14 Sch.done Sch.none)) Sch.none))))) Sch.none)) (Sch.alt 4 (Sch.step 6 (Sch.alt 1 (Sch.alt 7 (Sch.alt 10 (Sch.step 11 (Sch.alt 12 (Sch.step 13 (Sch.alt 14 Sch.done Sch.none)) Sch.none)) Sch.none) (Sch.alt 10 (Sch.step 11 (Sch.read 7 (Sch.alt 12 (Sch.step 13 (Sch.alt 14 Sch.done Sch.none)) Sch.none))) Sch.none)) (Sch.alt 7 (Sch.alt 1 (Sch.alt 10 (Sch.step 11 (Sch.alt 12 (Sch.step 13 (Sch.alt 14 Sch.done Sch.none)) Sch.none)) Sch.none) (Sch.alt 10 (Sch.step 11 (Sch.alt 1 (Sch.alt 12 (Sch.step 13 (Sch.alt 14 Sch.done Sch.none)) Sch.none) (Sch.alt 12 (Sch.read 1 (Sch.step 13 (Sch.alt 14 Sch.done Sch.none))) Sch.none))) Sch.none)) (Sch.alt 10 (Sch.step 11 (Sch.read 7 (Sch.alt 1 (Sch.alt 12 (Sch.step 13 (Sch.alt 14 Sch.done Sch.none)) Sch.none) (Sch.alt 12 (Sch.read 1 (Sch.step 13 (Sch.alt 14 Sch.done Sch.none))) Sch.none)))) Sch.none)))) (Sch.alt 10 (Sch.step 11 (Sch.read 4 (Sch.step 6 (Sch.read 7 (Sch.alt 1 (Sch.alt 12 (Sch.step 13 (Sch.alt 14 Sch.done Sch.none)) Sch.none) (Sch.alt 12 (Sch.read 1 (Sch.step 13 (Sch.alt 14 Sch.done Sch.none))) Sch.none)))))) Sch.none))))))))))); (exact mixed); kernel_rfl; kernel_rfl; (repeat (with_reducible first | apply PanQ.then | apply PanQ.block | apply PanQ.body | apply PanQ.no))); simp -implicitDefEqProofs [hT, hbit, g4, hlt, htl2, n_id4_id, n_id2_id, n_id_id2, h, n_id2_rid, n_rid_id2, hr])
              | ((with_reducible apply aCall.id); first
                  | ((apply aCall.gives (hb)); simp -implicitDefEqProofs [hT, hbit, g4, hlt, htl2, n_id4_id, n_id2_id, n_id_id2, h, n_id2_rid, n_rid_id2, hr]))
              | ((with_reducible apply AWp.ret); try simp -implicitDefEqProofs [hT, hbit, g4, hlt, htl2, n_id4_id, n_id2_id, n_id_id2, h, n_id2_rid, n_rid_id2, hr])
              | ((with_reducible apply AWp.skip); try simp -implicitDefEqProofs [hT, hbit, g4, hlt, htl2, n_id4_id, n_id2_id, n_id_id2, h, n_id2_rid, n_rid_id2, hr])
              | ((with_reducible apply AWp.exit); try simp -implicitDefEqProofs [hT, hbit, g4, hlt, htl2, n_id4_id, n_id2_id, n_id_id2, h, n_id2_rid, n_rid_id2, hr]))
            refine ⟨m - 1, _, _, by omega, FrWk.mk (by simp [wInc (show t < 4000000000000000000 by omega)]), ?_, t + 1, a3, d ++ [v], by omega, by omega, by omega, by simp [hd], hX, rfl, rfl⟩
            have hc : List.take t (List.map i64v d ++ List.replicate (6 - t) (i64v 0)) ++ AV.sc (Value.int IntKind.i64 v) :: List.drop (t + 1) (List.map i64v d ++ List.replicate (6 - t) (i64v 0)) = List.map i64v (d ++ [v] ++ List.replicate (6 - (t + 1)) 0) := by
              have := cut_mid (List.map i64v d) (i64v 0) (i64v v) (List.replicate (6 - (t + 1)) (i64v 0))
              rw [List.length_map, hd] at this
              rw [show 6 - t = (6 - (t + 1)) + 1 by omega, List.replicate_succ]
              rw [i64v_def v] at this
              rw [this]
              simp [i64v_def]
            rw [hs, hc]
            intro j_ y_ hy_
            by_cases e_id : j_ = id
            · subst e_id; simp [AS.set, n_id4_id, n_id_id4, n_id2_id, n_id_id2, h, n_id2_rid, n_rid_id2, hr] at hy_ ⊢; try first | exact hy_ | (cases hy_; done)
            by_cases e_id4 : j_ = id4
            · subst e_id4; simp [AS.set, n_id4_id, n_id_id4, n_id2_id, n_id_id2, h, n_id2_rid, n_rid_id2, hr] at hy_ ⊢; try first | exact hy_ | (cases hy_; done)
            simp [AS.set, n_id4_id, n_id_id4, n_id2_id, n_id_id2, h, n_id2_rid, n_rid_id2, hr, e_id, e_id4] at hy_ ⊢; try exact hy_
        · have hb0 : thn / 2 ^ t % 2 = 0 := by omega
          rw [hb0] at hbit
          rw [if_neg hb1, preR_app] at hX
          repeat (first
            | (with_reducible apply AWp.seq)
            | (with_reducible apply AWp.block)
            | ((with_reducible apply AWp.fork); simp -implicitDefEqProofs [hT, hbit, n_id2_id, n_id_id2, h, n_id2_rid, n_rid_id2, hr])
            | ((with_reducible apply AWp.region); simp -implicitDefEqProofs [hT, hbit, n_id2_id, n_id_id2, h, n_id2_rid, n_rid_id2, hr])
            | (with_reducible refine And.intro (by first | omega | assumption | decide) ?_)
            | ((with_reducible show condK _ _ _); simp -implicitDefEqProofs [hT, hbit, n_id2_id, n_id_id2, h, n_id2_rid, n_rid_id2, hr])
            | ((with_reducible show guardK _ _ _ _ _ _ _ _ _); simp -implicitDefEqProofs [hT, hbit, n_id2_id, n_id_id2, h, n_id2_rid, n_rid_id2, hr])
            | (((with_reducible apply AWp.drawS (id := 10) (t := (Sch.step 0 (Sch.alt 1 (Sch.alt 2 (Sch.step 3 (Sch.alt 4 (Sch.alt 5 Sch.done Sch.none) Sch.none)) (Sch.alt 4 (Sch.alt 2 (Sch.step 3 (Sch.alt 5 Sch.done Sch.none)) Sch.none) Sch.none)) (Sch.alt 2 (Sch.alt 1 (Sch.step 3 (Sch.alt 4 (Sch.alt 5 Sch.done Sch.none) Sch.none)) (Sch.alt 4 (Sch.alt 1 (Sch.step 3 (Sch.alt 5 Sch.done Sch.none)) Sch.none) Sch.none)) (Sch.alt 4 (Sch.alt 1 (Sch.alt 2 (Sch.step 3 (Sch.alt 5 Sch.done Sch.none)) Sch.none) (Sch.alt 2 (Sch.alt 1 (Sch.step 3 (Sch.alt 5 Sch.done Sch.none)) Sch.none) Sch.none)) Sch.none)))))); (exact mixed); kernel_rfl; kernel_rfl; (repeat (with_reducible first | apply PanQ.then | apply PanQ.block | apply PanQ.body | apply PanQ.no))); simp -implicitDefEqProofs [hT, hbit, n_id2_id, n_id_id2, h, n_id2_rid, n_rid_id2, hr])
            | (((with_reducible apply AWp.drawS (id := 16) (t := (Sch.step 0 (Sch.step 2 (Sch.step 3 (Sch.step 5 (Sch.step 8 (Sch.step 9 (Sch.alt 1 (Sch.alt 4 (Sch.step 6 (Sch.alt 7 (Sch.alt 10 (Sch.step 11 (Sch.alt 12 (Sch.step 13 (Sch.alt 14 Sch.done Sch.none)) Sch.none)) Sch.none) (Sch.alt 10 (Sch.step 11 (Sch.read 7 (Sch.alt 12 (Sch.step 13 (Sch.alt 14 Sch.done Sch.none)) Sch.none))) Sch.none))) (Sch.alt 10 (Sch.step 11 (Sch.read 4 (Sch.step 6 (Sch.read 7 (Sch.alt 12 (Sch.step 13 (Sch.alt 14 Sch.done Sch.none)) Sch.none))))) Sch.none)) (Sch.alt 4 (Sch.step 6 (Sch.alt 1 (Sch.alt 7 (Sch.alt 10 (Sch.step 11 (Sch.alt 12 (Sch.step 13 (Sch.alt 14 Sch.done Sch.none)) Sch.none)) Sch.none) (Sch.alt 10 (Sch.step 11 (Sch.read 7 (Sch.alt 12 (Sch.step 13 (Sch.alt 14 Sch.done Sch.none)) Sch.none))) Sch.none)) (Sch.alt 7 (Sch.alt 1 (Sch.alt 10 (Sch.step 11 (Sch.alt 12 (Sch.step 13 (Sch.alt 14 Sch.done Sch.none)) Sch.none)) Sch.none) (Sch.alt 10 (Sch.step 11 (Sch.alt 1 (Sch.alt 12 (Sch.step 13 (Sch.alt 14 Sch.done Sch.none)) Sch.none) (Sch.alt 12 (Sch.read 1 (Sch.step 13 (Sch.alt 14 Sch.done Sch.none))) Sch.none))) Sch.none)) (Sch.alt 10 (Sch.step 11 (Sch.read 7 (Sch.alt 1 (Sch.alt 12 (Sch.step 13 (Sch.alt 14 Sch.done Sch.none)) Sch.none) (Sch.alt 12 (Sch.read 1 (Sch.step 13 (Sch.alt 14 Sch.done Sch.none))) Sch.none)))) Sch.none)))) (Sch.alt 10 (Sch.step 11 (Sch.read 4 (Sch.step 6 (Sch.read 7 (Sch.alt 1 (Sch.alt 12 (Sch.step 13 (Sch.alt 14 Sch.done Sch.none)) Sch.none) (Sch.alt 12 (Sch.read 1 (Sch.step 13 (Sch.alt 14 Sch.done Sch.none))) Sch.none)))))) Sch.none))))))))))); (exact mixed); kernel_rfl; kernel_rfl; (repeat (with_reducible first | apply PanQ.then | apply PanQ.block | apply PanQ.body | apply PanQ.no))); simp -implicitDefEqProofs [hT, hbit, n_id2_id, n_id_id2, h, n_id2_rid, n_rid_id2, hr])
            | ((with_reducible apply AWp.ret); try simp -implicitDefEqProofs [hT, hbit, n_id2_id, n_id_id2, h, n_id2_rid, n_rid_id2, hr])
            | ((with_reducible apply AWp.skip); try simp -implicitDefEqProofs [hT, hbit, n_id2_id, n_id_id2, h, n_id2_rid, n_rid_id2, hr])
            | ((with_reducible apply AWp.exit); try simp -implicitDefEqProofs [hT, hbit, n_id2_id, n_id_id2, h, n_id2_rid, n_rid_id2, hr]))
          refine ⟨m - 1, _, _, by omega, FrWk.mk (by simp [wInc (show t < 4000000000000000000 by omega)]), AS.le_refl _, t + 1, a, d ++ [0], by omega, by omega, ha, by simp [hd], hX, ?_, rfl⟩
          rw [hs, hrep]
          simp
      · have hT : ((t : Int) < 6) = False := by simp; omega
        obtain rfl : t = 6 := by omega
        have hXe : rCnt b thn 6 0 a2 = .ok (d, a) := by rw [← hX]; simp [rCnt, preR]
        rw [hXe] at hAll
        simp only at hAll
        simp only [Nat.sub_self, List.replicate_zero, List.append_nil] at g4 hs
        obtain ⟨hdp, _⟩ := rCnt_pos hXe (by omega)
        clear hX hm hXe
        simp only [rBox] at gR
        repeat (first
          | (with_reducible apply AWp.seq)
          | (with_reducible apply AWp.block)
          | ((with_reducible apply AWp.fork); simp -implicitDefEqProofs [hT, n_id2_id, n_id_id2, h, n_id2_rid, n_rid_id2, hr])
          | ((fail_if_success (with_reducible apply AWp.region (id := 10))); (fail_if_success (with_reducible apply AWp.region (id := 16))); (with_reducible apply AWp.region); simp -implicitDefEqProofs [hT, n_id2_id, n_id_id2, h, n_id2_rid, n_rid_id2, hr])
          | (with_reducible refine And.intro (by first | omega | assumption | decide) ?_)
          | ((with_reducible show condK _ _ _); simp -implicitDefEqProofs [hT, n_id2_id, n_id_id2, h, n_id2_rid, n_rid_id2, hr])
          | ((with_reducible show guardK _ _ _ _ _ _ _ _ _); simp -implicitDefEqProofs [hT, n_id2_id, n_id_id2, h, n_id2_rid, n_rid_id2, hr])
          | ((with_reducible apply AWp.ret); try simp -implicitDefEqProofs [hT, n_id2_id, n_id_id2, h, n_id2_rid, n_rid_id2, hr])
          | ((with_reducible apply AWp.skip); try simp -implicitDefEqProofs [hT, n_id2_id, n_id_id2, h, n_id2_rid, n_rid_id2, hr])
          | ((with_reducible apply AWp.exit); try simp -implicitDefEqProofs [hT, n_id2_id, n_id_id2, h, n_id2_rid, n_rid_id2, hr]))
        refine AWp.meetR (trM b nl id rid id2 id4 a σ') ?_ ?_
        · cases hN : rNum b a 2 with
          | error e =>
            have hXX : rAll b = .error e := by rw [hAll, hN]
            have hb := fun σ hr h => wnum_bad rid id mkn b a 2 nl σ hr h ha (by omega) rfl e hN
            have lf : ∀ (x : Int) (S : AS), S id = some (rdC b x nl) → (∀ j, j ≠ id → ∀ y, σ' j = some y → S j = some y) → ∃ σ1, AS.le σ1 S ∧ TTb b nl rid id σ (fltR e.1 e.2) σ1 := fun x S h1 h2 => TTb.of hXX x mkn (leX x S h1 fun j e1 e2 e3 y hy => h2 j e2 y hy)
            clear hAll leX hle hs
            (((with_reducible apply AWp.drawS (id := 10) (t := (Sch.step 0 (Sch.alt 1 (Sch.alt 2 (Sch.step 3 (Sch.alt 4 (Sch.alt 5 Sch.done Sch.none) Sch.none)) (Sch.alt 4 (Sch.alt 2 (Sch.step 3 (Sch.alt 5 Sch.done Sch.none)) Sch.none) Sch.none)) (Sch.alt 2 (Sch.alt 1 (Sch.step 3 (Sch.alt 4 (Sch.alt 5 Sch.done Sch.none) Sch.none)) (Sch.alt 4 (Sch.alt 1 (Sch.step 3 (Sch.alt 5 Sch.done Sch.none)) Sch.none) Sch.none)) (Sch.alt 4 (Sch.alt 1 (Sch.alt 2 (Sch.step 3 (Sch.alt 5 Sch.done Sch.none)) Sch.none) (Sch.alt 2 (Sch.alt 1 (Sch.step 3 (Sch.alt 5 Sch.done Sch.none)) Sch.none) Sch.none)) Sch.none)))))); (exact mixed); kernel_rfl; kernel_rfl; (repeat (with_reducible first | apply PanQ.then | apply PanQ.block | apply PanQ.body | apply PanQ.no))); simp -implicitDefEqProofs [gI, gR, n_id2_id, n_id_id2, h, n_id2_rid, n_rid_id2, hr])
            all_goals
              repeat' (first
                | (with_reducible apply And.intro)
                | ((fail_if_success (have := h_w1)); intro w1; (repeat (refine fun (_ : ¬ _) => ?_)); intro h_w1; have n1a : ¬ w1 = id := (by rintro rfl; rw [gI] at h_w1; cases h_w1); have n1b : ¬ id = w1 := (fun e => n1a e.symm); have n1c : ¬ rid = w1 := (by rintro rfl; rw [gR] at h_w1; cases h_w1); try simp -implicitDefEqProofs [n1a, n1b, n1c, gI, gR])
                | (intro w2; (repeat (refine fun (_ : ¬ _) => ?_)); intro h_w2; have n2a : ¬ w2 = id := (by rintro rfl; rw [gI] at h_w2; cases h_w2); have n2b : ¬ id = w2 := (fun e => n2a e.symm); have n2c : ¬ rid = w2 := (by rintro rfl; rw [gR] at h_w2; cases h_w2); have n2d : ¬ w2 = w1 := (by assumption); have n2e : ¬ w1 = w2 := (fun e => n2d e.symm); try simp -implicitDefEqProofs [n1a, n1b, n1c, n2a, n2b, n2c, n2d, n2e, gI, gR])
                | (refine aCall.thrR (hb _ (by first | (simp [rBox, gR, n1c, n2c, n_rid_id]; done) | (simp [rBox, gR, n1c, n_rid_id]; done) | (simp [rBox, gR, n_rid_id]; done)) (by first | (simp [gI, n1b, n2b]; done) | (simp [gI, n1b]; done) | (simp [gI]; done))) ?_; intro x; simp -implicitDefEqProofs))
            all_goals
              refine lf x _ (by simp) (fun j e y hy => ?_)
              first
                | (have m1 : j ≠ w1 := (by rintro rfl; rw [h_w1] at hy; cases hy)
                   first
                   | (have m2 : j ≠ w2 := (by rintro rfl; rw [h_w2] at hy; cases hy)
                      simp [AS.set, e, m1, m2, hy]; done)
                   | (simp [AS.set, e, m1, hy]; done))
                | (simp [AS.set, e, hy]; done)
          | ok z =>
            obtain ⟨en, a4⟩ := z
            have hb := fun σ hr h => wnum_ok rid id mkn b a 2 nl σ hr h (by omega) rfl (by omega) en a4 hN
            clear hAll leX hle hs
            (((with_reducible apply AWp.drawS (id := 10) (t := (Sch.step 0 (Sch.alt 1 (Sch.alt 2 (Sch.step 3 (Sch.alt 4 (Sch.alt 5 Sch.done Sch.none) Sch.none)) (Sch.alt 4 (Sch.alt 2 (Sch.step 3 (Sch.alt 5 Sch.done Sch.none)) Sch.none) Sch.none)) (Sch.alt 2 (Sch.alt 1 (Sch.step 3 (Sch.alt 4 (Sch.alt 5 Sch.done Sch.none) Sch.none)) (Sch.alt 4 (Sch.alt 1 (Sch.step 3 (Sch.alt 5 Sch.done Sch.none)) Sch.none) Sch.none)) (Sch.alt 4 (Sch.alt 1 (Sch.alt 2 (Sch.step 3 (Sch.alt 5 Sch.done Sch.none)) Sch.none) (Sch.alt 2 (Sch.alt 1 (Sch.step 3 (Sch.alt 5 Sch.done Sch.none)) Sch.none) Sch.none)) Sch.none)))))); (exact mixed); kernel_rfl; kernel_rfl; (repeat (with_reducible first | apply PanQ.then | apply PanQ.block | apply PanQ.body | apply PanQ.no))); simp -implicitDefEqProofs [gI, gR, n_id2_id, n_id_id2, h, n_id2_rid, n_rid_id2, hr])
            all_goals
              repeat' (first
                | (with_reducible apply And.intro)
                | ((fail_if_success (have := h_w1)); intro w1; (repeat (refine fun (_ : ¬ _) => ?_)); intro h_w1; have n1a : ¬ w1 = id := (by rintro rfl; rw [gI] at h_w1; cases h_w1); have n1b : ¬ id = w1 := (fun e => n1a e.symm); have n1c : ¬ rid = w1 := (by rintro rfl; rw [gR] at h_w1; cases h_w1); try simp -implicitDefEqProofs [n1a, n1b, n1c, gI, gR])
                | (intro w2; (repeat (refine fun (_ : ¬ _) => ?_)); intro h_w2; have n2a : ¬ w2 = id := (by rintro rfl; rw [gI] at h_w2; cases h_w2); have n2b : ¬ id = w2 := (fun e => n2a e.symm); have n2c : ¬ rid = w2 := (by rintro rfl; rw [gR] at h_w2; cases h_w2); have n2d : ¬ w2 = w1 := (by assumption); have n2e : ¬ w1 = w2 := (fun e => n2d e.symm); try simp -implicitDefEqProofs [n1a, n1b, n1c, n2a, n2b, n2c, n2d, n2e, gI, gR])
                | (refine aCall.gives (hb _ (by first | (simp [rBox, gR, n1c, n2c, n_rid_id]; done) | (simp [rBox, gR, n1c, n_rid_id]; done) | (simp [rBox, gR, n_rid_id]; done)) (by first | (simp [gI, n1b, n2b]; done) | (simp [gI, n1b]; done) | (simp [gI]; done))) ?_; first | simp -implicitDefEqProofs [n1a, n1b, n1c, n2a, n2b, n2c, n2d, n2e, gI, gR] | simp -implicitDefEqProofs [n1a, n1b, n1c, gI, gR] | simp -implicitDefEqProofs [gI, gR]))
            all_goals
              first
                | (refine ⟨_, _, ?_, AS.le_refl _, w1, w2, a4, en, hN, h_w1, h_w2, n2e, ?_, ?_, ?_, fun j e y hy => ?_, rfl⟩
                   · apply FrWk.mk
                     simp; done
                   · simp [n1b, n2b]; done
                   · simp [n2e, n2d, n1a, n2a]; done
                   · simp [n2e, n2d, n1a, n2a]; done
                   · have m1 : j ≠ w1 := (by rintro rfl; rw [h_w1] at hy; cases hy)
                     have m2 : j ≠ w2 := (by rintro rfl; rw [h_w2] at hy; cases hy)
                     simp [AS.set, e, m1, m2, hy]; done)
                | (refine ⟨_, _, ?_, AS.le_refl _, w2, w1, a4, en, hN, h_w2, h_w1, n2d, ?_, ?_, ?_, fun j e y hy => ?_, rfl⟩
                   · apply FrWk.mk
                     simp; done
                   · simp [n1b, n2b]; done
                   · simp [n2e, n2d, n1a, n2a]; done
                   · simp [n2e, n2d, n1a, n2a]; done
                   · have m1 : j ≠ w1 := (by rintro rfl; rw [h_w1] at hy; cases hy)
                     have m2 : j ≠ w2 := (by rintro rfl; rw [h_w2] at hy; cases hy)
                     simp [AS.set, e, m1, m2, hy]; done)
        · rintro s1 σ1 ⟨w, id6, a4, en, hN, h_w, h_id6, n_w_id6, sI, sW, s6, hkeep, rfl⟩
          have n_w_id : ¬ w = id := by rintro rfl; rw [gI] at h_w; cases h_w
          have n_id_w : ¬ id = w := fun e => n_w_id e.symm
          have n_id6_id : ¬ id6 = id := by rintro rfl; rw [gI] at h_id6; cases h_id6
          have n_id_id6 : ¬ id = id6 := fun e => n_id6_id e.symm
          have n_id6_w : ¬ id6 = w := fun e => n_w_id6 e.symm
          have n_rid_w : ¬ rid = w := by rintro rfl; rw [gR] at h_w; cases h_w
          have sR := hkeep rid n_rid_id _ gR
          have s4 := hkeep id4 n_id4_id _ g4
          rw [hN] at hAll
          simp only at hAll
          obtain ⟨z1, z2, z3⟩ := rNum_ok hN
          repeat (first
            | (with_reducible apply AWp.seq)
            | (with_reducible apply AWp.block)
            | ((with_reducible apply AWp.fork); simp -implicitDefEqProofs [s4, hd, n_id2_id, n_id_id2, h, n_id2_rid, n_rid_id2, hr])
            | ((fail_if_success (with_reducible apply AWp.region (id := 10))); (fail_if_success (with_reducible apply AWp.region (id := 16))); (with_reducible apply AWp.region); simp -implicitDefEqProofs [s4, hd, n_id2_id, n_id_id2, h, n_id2_rid, n_rid_id2, hr])
            | (with_reducible refine And.intro (by first | omega | assumption | decide) ?_)
            | ((with_reducible show condK _ _ _); simp -implicitDefEqProofs [s4, hd, n_id2_id, n_id_id2, h, n_id2_rid, n_rid_id2, hr])
            | ((with_reducible show guardK _ _ _ _ _ _ _ _ _); simp -implicitDefEqProofs [s4, hd, n_id2_id, n_id_id2, h, n_id2_rid, n_rid_id2, hr])
            | ((with_reducible apply AWp.ret); try simp -implicitDefEqProofs [s4, hd, n_id2_id, n_id_id2, h, n_id2_rid, n_rid_id2, hr])
            | ((with_reducible apply AWp.skip); try simp -implicitDefEqProofs [s4, hd, n_id2_id, n_id_id2, h, n_id2_rid, n_rid_id2, hr])
            | ((with_reducible apply AWp.exit); try simp -implicitDefEqProofs [s4, hd, n_id2_id, n_id_id2, h, n_id2_rid, n_rid_id2, hr]))
          refine AWp.loopI (ttO b nl mkn d rid id id2 id4 id6 w (rTbs b mkn d 0 a4) σ1) (k0 := 6) ⟨0, a4, [], rfl, by omega, by omega, rfl, preR_nil _, rfl, rfl⟩ (FrWk.mk ?_) ?_ ?_
          · simp [List.take_of_length_le, hd]
          · intro j y hy
            by_cases e1 : j = w
            · subst e1
              rw [sW]
              simpa [AS.set, show flatZ 6 AV.nilS = List.replicate 6 AV.nilS from rfl] using hy
            · by_cases e2 : j = id
              · subst e2
                rw [sI]
                simpa [AS.set, e1] using hy
              · simpa [AS.set, e1, e2] using hy
          rintro m2 f σ2 ⟨t, a5, T, hm2, ht2, ha5, hT5, hX2, hs2, rfl⟩
          have kI : σ2 id = some (rdC b a5 nl) := by rw [hs2]; simp [n_id_w]
          have kR : σ2 rid = some (.cells 108 [.ptr id 0, .sc (.int .i64 b.length), .sc (.int .i64 mkn)]) := by rw [hs2]; simp [n_rid_w, n_rid_id, sR]
          have kW : σ2 w = some (.cells 69 (T.map tV ++ List.replicate (6 - t) .nilS)) := by rw [hs2]; simp
          have k6 : σ2 id6 = some (.cells 24 [.sc (.int .i64 en), .msl w 0 6 6]) := by rw [hs2]; simp [n_id6_w, n_id6_id, s6]
          have leY : ∀ (x : Int) (Y : AS), Y id = some (rdC b x nl) → (∀ j, j ≠ id2 → j ≠ id → j ≠ id4 → j ≠ w → ∀ y, σ2 j = some y → Y j = some y) → AS.le ((σ.set rid (rBox id b.length mkn)).set id (rdC b x nl)) Y := by
            intro x Y hY hj
            refine leX x Y hY fun j e1 e2 e3 y hy => ?_
            have e4 : j ≠ w := by rintro rfl; rw [h_w] at hy; cases hy
            exact hj j e1 e2 e3 e4 y (by rw [hs2]; simp [AS.set, e2, e4, hkeep j e2 y hy])
          by_cases hlt : t < 6
          · have hT6 : ((t : Int) < 6) = True := by simp; omega
            have htd : t < d.length := by omega
            have hdc := hdp d[t] (List.getElem_mem htd)
            have hgd : ∀ hh, (List.map i64v d)[t]'hh = .sc (.int .i64 d[t]) := fun hh => by simp [i64v_def]
            rw [List.drop_eq_getElem_cons htd, rTbs] at hX2
            obtain ⟨c, hc⟩ := Int.eq_ofNat_of_zero_le hdc.1
            rw [hc] at hX2 hgd
            simp only [Int.toNat_natCast] at hX2
            have hrp : List.replicate (6 - t) AV.nilS = .nilS :: List.replicate (5 - t) .nilS := by rw [show 6 - t = (5 - t) + 1 by omega]; rfl
            have hTl : (T.map tV).length = t := by simpa using hT5
            rw [hrp] at kW
            refine AWp.mintC w t 70 [] true kW (by simp [hT5]) (.inr ⟨by have := getD_mid (T.map tV) AV.nilS (List.replicate (5 - t) AV.nilS); rwa [hTl] at this, rfl, rfl⟩) ?_
            intro tk h_tk
            have hset := set_mid (T.map tV) AV.nilS (AV.lst 70 [] (.tok tk) true) (List.replicate (5 - t) AV.nilS)
            rw [hTl] at hset
            rw [hset]
            have n_id_tk : ¬ id = tk := by rintro rfl; rw [kI] at h_tk; cases h_tk
            have n_tk_id : ¬ tk = id := fun e => n_id_tk e.symm
            have n_rid_tk : ¬ rid = tk := by rintro rfl; rw [kR] at h_tk; cases h_tk
            have n_tk_rid : ¬ tk = rid := fun e => n_rid_tk e.symm
            have n_w_tk : ¬ w = tk := by rintro rfl; rw [kW] at h_tk; cases h_tk
            have n_tk_w : ¬ tk = w := fun e => n_w_tk e.symm
            have n_id6_tk : ¬ id6 = tk := by rintro rfl; rw [k6] at h_tk; cases h_tk
            have n_tk_id6 : ¬ tk = id6 := fun e => n_id6_tk e.symm
            repeat (first
              | (with_reducible apply AWp.seq)
              | (with_reducible apply AWp.block)
              | ((with_reducible apply AWp.fork); simp -implicitDefEqProofs [hT6, hlt, htd, hgd, hd, n_id2_id, n_id_id2, h, n_id2_rid, n_rid_id2, hr, n_tk_id, n_id_tk, kI, n_tk_rid, n_rid_tk, kR, n_tk_w, n_w_tk, kW, n_tk_id6, n_id6_tk, k6])
              | ((fail_if_success (with_reducible apply AWp.region (id := 10))); (fail_if_success (with_reducible apply AWp.region (id := 16))); (with_reducible apply AWp.region); simp -implicitDefEqProofs [hT6, hlt, htd, hgd, hd, n_id2_id, n_id_id2, h, n_id2_rid, n_rid_id2, hr, n_tk_id, n_id_tk, kI, n_tk_rid, n_rid_tk, kR, n_tk_w, n_w_tk, kW, n_tk_id6, n_id6_tk, k6])
              | (with_reducible refine And.intro (by first | omega | assumption | decide) ?_)
              | ((with_reducible show condK _ _ _); simp -implicitDefEqProofs [hT6, hlt, htd, hgd, hd, n_id2_id, n_id_id2, h, n_id2_rid, n_rid_id2, hr, n_tk_id, n_id_tk, kI, n_tk_rid, n_rid_tk, kR, n_tk_w, n_w_tk, kW, n_tk_id6, n_id6_tk, k6])
              | ((with_reducible show guardK _ _ _ _ _ _ _ _ _); simp -implicitDefEqProofs [hT6, hlt, htd, hgd, hd, n_id2_id, n_id_id2, h, n_id2_rid, n_rid_id2, hr, n_tk_id, n_id_tk, kI, n_tk_rid, n_rid_tk, kR, n_tk_w, n_w_tk, kW, n_tk_id6, n_id6_tk, k6])
              | ((with_reducible apply AWp.ret); try simp -implicitDefEqProofs [hT6, hlt, htd, hgd, hd, n_id2_id, n_id_id2, h, n_id2_rid, n_rid_id2, hr, n_tk_id, n_id_tk, kI, n_tk_rid, n_rid_tk, kR, n_tk_w, n_w_tk, kW, n_tk_id6, n_id6_tk, k6])
              | ((with_reducible apply AWp.skip); try simp -implicitDefEqProofs [hT6, hlt, htd, hgd, hd, n_id2_id, n_id_id2, h, n_id2_rid, n_rid_id2, hr, n_tk_id, n_id_tk, kI, n_tk_rid, n_rid_tk, kR, n_tk_w, n_w_tk, kW, n_tk_id6, n_id6_tk, k6])
              | ((with_reducible apply AWp.exit); try simp -implicitDefEqProofs [hT6, hlt, htd, hgd, hd, n_id2_id, n_id_id2, h, n_id2_rid, n_rid_id2, hr, n_tk_id, n_id_tk, kI, n_tk_rid, n_rid_tk, kR, n_tk_w, n_w_tk, kW, n_tk_id6, n_id6_tk, k6]))
            refine AWp.loopI (ttI b nl mkn d t c T rid id id2 id6 w tk (rRws b mkn (kindsL (t : Int)) c a5) σ2) (k0 := c) ⟨0, a5, [], by omega, by omega, ha5, rfl, preR_nil _, rfl, rfl⟩ (FrWk.mk ?_) ?_ ?_
            · simp
            · rw [List.map_nil, show decide (([] : List (List Int)) = []) = true from rfl]
              intro j_ y_ hy_
              by_cases e_id : j_ = id
              · subst e_id; simp [AS.set, kI, n_id2_id, n_id_id2, h, n_id2_rid, n_rid_id2, hr, n_tk_id, n_id_tk, kI, n_tk_rid, n_rid_tk, kR, n_tk_w, n_w_tk, kW, n_tk_id6, n_id6_tk, k6] at hy_ ⊢; try first | exact hy_ | (cases hy_; done)
              by_cases e_w : j_ = w
              · subst e_w; simp [AS.set, kI, n_id2_id, n_id_id2, h, n_id2_rid, n_rid_id2, hr, n_tk_id, n_id_tk, kI, n_tk_rid, n_rid_tk, kR, n_tk_w, n_w_tk, kW, n_tk_id6, n_id6_tk, k6] at hy_ ⊢; try first | exact hy_ | (cases hy_; done)
              by_cases e_tk : j_ = tk
              · subst e_tk; simp [AS.set, kI, n_id2_id, n_id_id2, h, n_id2_rid, n_rid_id2, hr, n_tk_id, n_id_tk, kI, n_tk_rid, n_rid_tk, kR, n_tk_w, n_w_tk, kW, n_tk_id6, n_id6_tk, k6] at hy_ ⊢; try first | exact hy_ | (cases hy_; done)
              simp [AS.set, kI, n_id2_id, n_id_id2, h, n_id2_rid, n_rid_id2, hr, n_tk_id, n_id_tk, kI, n_tk_rid, n_rid_tk, kR, n_tk_w, n_w_tk, kW, n_tk_id6, n_id6_tk, k6, e_id, e_w, e_tk] at hy_ ⊢; try exact hy_
            rintro m3 f σ3 ⟨i, a6, L, hm3, hi3, ha6, hL, hX3, hs3, rfl⟩
            have jI : σ3 id = some (rdC b a6 nl) := by rw [hs3]; simp [n_id_tk, n_id_w]
            have jR : σ3 rid = some (.cells 108 [.ptr id 0, .sc (.int .i64 b.length), .sc (.int .i64 mkn)]) := by rw [hs3]; simp [n_rid_tk, n_rid_w, n_rid_id, kR]
            have j6 : σ3 id6 = some (.cells 24 [.sc (.int .i64 en), .msl w 0 6 6]) := by rw [hs3]; simp [n_id6_tk, n_id6_w, n_id6_id, k6]
            have jT : σ3 tk = some (.tok L.length) := by rw [hs3, hL]; simp
            have jW : σ3 w = some (.cells 69 (T.map tV ++ .lst 70 (L.map rowV) (.tok tk) (decide (L = [])) :: List.replicate (5 - t) .nilS)) := by rw [hs3]; simp [n_w_tk]
            have leZ : ∀ (x : Int) (Y : AS), Y id = some (rdC b x nl) → (∀ j, j ≠ id2 → j ≠ id → j ≠ id4 → j ≠ w → j ≠ tk → ∀ y, σ3 j = some y → Y j = some y) → AS.le ((σ.set rid (rBox id b.length mkn)).set id (rdC b x nl)) Y := by
              intro x Y hY hj
              refine leY x Y hY fun j e1 e2 e3 e4 y hy => ?_
              have e5 : j ≠ tk := by rintro rfl; rw [h_tk] at hy; cases hy
              exact hj j e1 e2 e3 e4 e5 y (by rw [hs3]; simp [AS.set, e2, e4, e5, hy])
            by_cases hic : i < c
            · have hIc : ((i : Int) < c) = True := by simp; omega
              obtain ⟨CL, hCL⟩ : ∃ CL, T.map tV ++ .lst 70 (L.map rowV) (.tok tk) (decide (L = [])) :: List.replicate (5 - t) .nilS = CL := ⟨_, rfl⟩
              have hCL6 : CL.length = 6 := by rw [← hCL]; simp [hT5]; omega
              have hCLg : ∀ hh, CL[t]'hh = .lst 70 (L.map rowV) (.tok tk) (decide (L = [])) := fun hh => by
                have := getD_mid (T.map tV) (.lst 70 (L.map rowV) (.tok tk) (decide (L = []))) (List.replicate (5 - t) .nilS)
                rw [hTl, hCL, List.getD_eq_getElem?_getD, List.getElem?_eq_getElem hh] at this
                exact this
              have hCLs : ∀ v, List.take t CL ++ v :: List.drop (t + 1) CL = T.map tV ++ v :: List.replicate (5 - t) .nilS := fun v => by
                rw [← hCL]
                have := cut_mid (T.map tV) (.lst 70 (L.map rowV) (.tok tk) (decide (L = []))) v (List.replicate (5 - t) .nilS)
                rwa [hTl] at this
              rw [hCL] at jW
              rw [show c - i = (c - (i + 1)) + 1 by omega, rRws] at hX3
              have hrow := wrow_ok rid id mkn (by omega) b a6 t nl σ3 jR jI ha6 (by omega)
              cases hRw : rRow b mkn (kindsL (t : Int)) a6 with
              | error e =>
                rw [hRw] at hX3 hrow
                simp only [preR] at hX3
                have hXX : rAll b = .error e := by
                  rw [hAll, ← hX2, ← hX3]; rfl
                have hb : ACalls Try.prog 72 [.ptr rid 0, .sc (.int .i64 t)] σ3 No (ThrR b nl id e σ3) := hrow.mono (fun _ _ h => by obtain ⟨v, a, h, _⟩ := h; cases h) (fun _ _ h => by obtain ⟨e', h, h2⟩ := h; cases h; exact h2)
                repeat (first
                  | (with_reducible apply AWp.seq)
                  | (with_reducible apply AWp.block)
                  | ((with_reducible apply AWp.fork); simp -implicitDefEqProofs [hIc, n_id2_id, n_id_id2, h, n_id2_rid, n_rid_id2, hr, n_tk_id, n_id_tk, kI, n_tk_rid, n_rid_tk, kR, n_tk_w, n_w_tk, kW, n_tk_id6, n_id6_tk, k6])
                  | ((fail_if_success (with_reducible apply AWp.region (id := 10))); (fail_if_success (with_reducible apply AWp.region (id := 16))); (with_reducible apply AWp.region); simp -implicitDefEqProofs [hIc, n_id2_id, n_id_id2, h, n_id2_rid, n_rid_id2, hr, n_tk_id, n_id_tk, kI, n_tk_rid, n_rid_tk, kR, n_tk_w, n_w_tk, kW, n_tk_id6, n_id6_tk, k6])
                  | (with_reducible refine And.intro (by first | omega | assumption | decide) ?_)
                  | ((with_reducible show condK _ _ _); simp -implicitDefEqProofs [hIc, n_id2_id, n_id_id2, h, n_id2_rid, n_rid_id2, hr, n_tk_id, n_id_tk, kI, n_tk_rid, n_rid_tk, kR, n_tk_w, n_w_tk, kW, n_tk_id6, n_id6_tk, k6])
                  | ((with_reducible show guardK _ _ _ _ _ _ _ _ _); simp -implicitDefEqProofs [hIc, n_id2_id, n_id_id2, h, n_id2_rid, n_rid_id2, hr, n_tk_id, n_id_tk, kI, n_tk_rid, n_rid_tk, kR, n_tk_w, n_w_tk, kW, n_tk_id6, n_id6_tk, k6])
                  | ((with_reducible apply AWp.ret); try simp -implicitDefEqProofs [hIc, n_id2_id, n_id_id2, h, n_id2_rid, n_rid_id2, hr, n_tk_id, n_id_tk, kI, n_tk_rid, n_rid_tk, kR, n_tk_w, n_w_tk, kW, n_tk_id6, n_id6_tk, k6])
                  | ((with_reducible apply AWp.skip); try simp -implicitDefEqProofs [hIc, n_id2_id, n_id_id2, h, n_id2_rid, n_rid_id2, hr, n_tk_id, n_id_tk, kI, n_tk_rid, n_rid_tk, kR, n_tk_w, n_w_tk, kW, n_tk_id6, n_id6_tk, k6])
                  | ((with_reducible apply AWp.exit); try simp -implicitDefEqProofs [hIc, n_id2_id, n_id_id2, h, n_id2_rid, n_rid_id2, hr, n_tk_id, n_id_tk, kI, n_tk_rid, n_rid_tk, kR, n_tk_w, n_w_tk, kW, n_tk_id6, n_id6_tk, k6]))
                (((with_reducible apply AWp.drawS (id := 16) (t := (Sch.step 0 (Sch.step 2 (Sch.step 3 (Sch.step 5 (Sch.step 8 (Sch.step 9 (Sch.alt 1 (Sch.alt 4 (Sch.step 6 (Sch.alt 7 (Sch.alt 10 (Sch.step 11 (Sch.alt 12 (Sch.step 13 (Sch.alt 14 Sch.done Sch.none)) Sch.none)) Sch.none) (Sch.alt 10 (Sch.step 11 (Sch.read 7 (Sch.alt 12 (Sch.step 13 (Sch.alt 14 Sch.done Sch.none)) Sch.none))) Sch.none))) (Sch.alt 10 (Sch.step 11 (Sch.read 4 (Sch.step 6 (Sch.read 7 (Sch.alt 12 (Sch.step 13 (Sch.alt 14 Sch.done Sch.none)) Sch.none))))) Sch.none)) (Sch.alt 4 (Sch.step 6 (Sch.alt 1 (Sch.alt 7 (Sch.alt 10 (Sch.step 11 (Sch.alt 12 (Sch.step 13 (Sch.alt 14 Sch.done Sch.none)) Sch.none)) Sch.none) (Sch.alt 10 (Sch.step 11 (Sch.read 7 (Sch.alt 12 (Sch.step 13 (Sch.alt 14 Sch.done Sch.none)) Sch.none))) Sch.none)) (Sch.alt 7 (Sch.alt 1 (Sch.alt 10 (Sch.step 11 (Sch.alt 12 (Sch.step 13 (Sch.alt 14 Sch.done Sch.none)) Sch.none)) Sch.none) (Sch.alt 10 (Sch.step 11 (Sch.alt 1 (Sch.alt 12 (Sch.step 13 (Sch.alt 14 Sch.done Sch.none)) Sch.none) (Sch.alt 12 (Sch.read 1 (Sch.step 13 (Sch.alt 14 Sch.done Sch.none))) Sch.none))) Sch.none)) (Sch.alt 10 (Sch.step 11 (Sch.read 7 (Sch.alt 1 (Sch.alt 12 (Sch.step 13 (Sch.alt 14 Sch.done Sch.none)) Sch.none) (Sch.alt 12 (Sch.read 1 (Sch.step 13 (Sch.alt 14 Sch.done Sch.none))) Sch.none)))) Sch.none)))) (Sch.alt 10 (Sch.step 11 (Sch.read 4 (Sch.step 6 (Sch.read 7 (Sch.alt 1 (Sch.alt 12 (Sch.step 13 (Sch.alt 14 Sch.done Sch.none)) Sch.none) (Sch.alt 12 (Sch.read 1 (Sch.step 13 (Sch.alt 14 Sch.done Sch.none))) Sch.none)))))) Sch.none))))))))))); (exact mixed); kernel_rfl; kernel_rfl; (repeat (with_reducible first | apply PanQ.then | apply PanQ.block | apply PanQ.body | apply PanQ.no))); simp -implicitDefEqProofs [j6, jW, jT, hT6, hlt, hCL6, hCLg, n_id2_id, n_id_id2, h, n_id2_rid, n_rid_id2, hr, n_tk_id, n_id_tk, kI, n_tk_rid, n_rid_tk, kR, n_tk_w, n_w_tk, kW, n_tk_id6, n_id6_tk, k6])
                all_goals
                  repeat' (first
                    | (with_reducible apply And.intro)
                    | (refine aCall.thrR hb ?_; intro x; simp -implicitDefEqProofs))
                all_goals
                  exact TTb.of hXX x mkn (leZ x _ (by simp) fun j e1 e2 e3 e4 e5 y hy => by simp [AS.set, e2, hy])
              | ok z =>
                obtain ⟨l, a7⟩ := z
                rw [hRw] at hX3 hrow
                simp only at hX3
                rw [preR_app] at hX3
                have ha7 := rRow_len hRw ha6
                have hb : ACalls Try.prog 72 [.ptr rid 0, .sc (.int .i64 t)] σ3 (Gives (rowV l) (σ3.set id (rdC b a7 nl))) No := hrow.mono (fun _ _ h => by obtain ⟨v, a, h, h2, h3⟩ := h; cases h; exact ⟨h2, h3.symm⟩) (fun _ _ h => by obtain ⟨e', h, h2⟩ := h; cases h)
                simp only [rowV] at hb
                have hL1 : L.length ≤ 70000 := by omega
                have hLe : (L ++ [l]).map rowV = L.map rowV ++ [.lst 3 (l.map i64v) .unk (decide (l = []))] := by simp [rowV]
                have hLn : decide (L ++ [l] = []) = false := by simp
                clear hAll leX leY leZ hle hs hrow
                repeat (first
                  | (with_reducible apply AWp.seq)
                  | (with_reducible apply AWp.block)
                  | ((with_reducible apply AWp.fork); simp -implicitDefEqProofs [hIc, n_id2_id, n_id_id2, h, n_id2_rid, n_rid_id2, hr, n_tk_id, n_id_tk, kI, n_tk_rid, n_rid_tk, kR, n_tk_w, n_w_tk, kW, n_tk_id6, n_id6_tk, k6])
                  | ((fail_if_success (with_reducible apply AWp.region (id := 10))); (fail_if_success (with_reducible apply AWp.region (id := 16))); (with_reducible apply AWp.region); simp -implicitDefEqProofs [hIc, n_id2_id, n_id_id2, h, n_id2_rid, n_rid_id2, hr, n_tk_id, n_id_tk, kI, n_tk_rid, n_rid_tk, kR, n_tk_w, n_w_tk, kW, n_tk_id6, n_id6_tk, k6])
                  | (with_reducible refine And.intro (by first | omega | assumption | decide) ?_)
                  | ((with_reducible show condK _ _ _); simp -implicitDefEqProofs [hIc, n_id2_id, n_id_id2, h, n_id2_rid, n_rid_id2, hr, n_tk_id, n_id_tk, kI, n_tk_rid, n_rid_tk, kR, n_tk_w, n_w_tk, kW, n_tk_id6, n_id6_tk, k6])
                  | ((with_reducible show guardK _ _ _ _ _ _ _ _ _); simp -implicitDefEqProofs [hIc, n_id2_id, n_id_id2, h, n_id2_rid, n_rid_id2, hr, n_tk_id, n_id_tk, kI, n_tk_rid, n_rid_tk, kR, n_tk_w, n_w_tk, kW, n_tk_id6, n_id6_tk, k6])
                  | ((with_reducible apply AWp.ret); try simp -implicitDefEqProofs [hIc, n_id2_id, n_id_id2, h, n_id2_rid, n_rid_id2, hr, n_tk_id, n_id_tk, kI, n_tk_rid, n_rid_tk, kR, n_tk_w, n_w_tk, kW, n_tk_id6, n_id6_tk, k6])
                  | ((with_reducible apply AWp.skip); try simp -implicitDefEqProofs [hIc, n_id2_id, n_id_id2, h, n_id2_rid, n_rid_id2, hr, n_tk_id, n_id_tk, kI, n_tk_rid, n_rid_tk, kR, n_tk_w, n_w_tk, kW, n_tk_id6, n_id6_tk, k6])
                  | ((with_reducible apply AWp.exit); try simp -implicitDefEqProofs [hIc, n_id2_id, n_id_id2, h, n_id2_rid, n_rid_id2, hr, n_tk_id, n_id_tk, kI, n_tk_rid, n_rid_tk, kR, n_tk_w, n_w_tk, kW, n_tk_id6, n_id6_tk, k6]))
                (((with_reducible apply AWp.drawS (id := 16) (t := (Sch.step 0 (Sch.step 2 (Sch.step 3 (Sch.step 5 (Sch.step 8 (Sch.step 9 (Sch.alt 1 (Sch.alt 4 (Sch.step 6 (Sch.alt 7 (Sch.alt 10 (Sch.step 11 (Sch.alt 12 (Sch.step 13 (Sch.alt 14 Sch.done Sch.none)) Sch.none)) Sch.none) (Sch.alt 10 (Sch.step 11 (Sch.read 7 (Sch.alt 12 (Sch.step 13 (Sch.alt 14 Sch.done Sch.none)) Sch.none))) Sch.none))) (Sch.alt 10 (Sch.step 11 (Sch.read 4 (Sch.step 6 (Sch.read 7 (Sch.alt 12 (Sch.step 13 (Sch.alt 14 Sch.done Sch.none)) Sch.none))))) Sch.none)) (Sch.alt 4 (Sch.step 6 (Sch.alt 1 (Sch.alt 7 (Sch.alt 10 (Sch.step 11 (Sch.alt 12 (Sch.step 13 (Sch.alt 14 Sch.done Sch.none)) Sch.none)) Sch.none) (Sch.alt 10 (Sch.step 11 (Sch.read 7 (Sch.alt 12 (Sch.step 13 (Sch.alt 14 Sch.done Sch.none)) Sch.none))) Sch.none)) (Sch.alt 7 (Sch.alt 1 (Sch.alt 10 (Sch.step 11 (Sch.alt 12 (Sch.step 13 (Sch.alt 14 Sch.done Sch.none)) Sch.none)) Sch.none) (Sch.alt 10 (Sch.step 11 (Sch.alt 1 (Sch.alt 12 (Sch.step 13 (Sch.alt 14 Sch.done Sch.none)) Sch.none) (Sch.alt 12 (Sch.read 1 (Sch.step 13 (Sch.alt 14 Sch.done Sch.none))) Sch.none))) Sch.none)) (Sch.alt 10 (Sch.step 11 (Sch.read 7 (Sch.alt 1 (Sch.alt 12 (Sch.step 13 (Sch.alt 14 Sch.done Sch.none)) Sch.none) (Sch.alt 12 (Sch.read 1 (Sch.step 13 (Sch.alt 14 Sch.done Sch.none))) Sch.none)))) Sch.none)))) (Sch.alt 10 (Sch.step 11 (Sch.read 4 (Sch.step 6 (Sch.read 7 (Sch.alt 1 (Sch.alt 12 (Sch.step 13 (Sch.alt 14 Sch.done Sch.none)) Sch.none) (Sch.alt 12 (Sch.read 1 (Sch.step 13 (Sch.alt 14 Sch.done Sch.none))) Sch.none)))))) Sch.none))))))))))); (exact mixed); kernel_rfl; kernel_rfl; (repeat (with_reducible first | apply PanQ.then | apply PanQ.block | apply PanQ.body | apply PanQ.no))); simp -implicitDefEqProofs [j6, jW, jT, hT6, hlt, hCL6, hCLg, n_id6_id, n_w_id, n_tk_id, n_tk_w, n_w_tk, n_id_w, n_id_tk, n_id6_tk, n_tk_id6, n_id6_w, n_w_id6, n_id2_id, n_id_id2, h, n_id2_rid, n_rid_id2, hr, n_tk_id, n_id_tk, kI, n_tk_rid, n_rid_tk, kR, n_tk_w, n_w_tk, kW, n_tk_id6, n_id6_tk, k6])
                all_goals
                  repeat' (first
                    | (with_reducible refine And.intro (by omega) ?_)
                    | (with_reducible apply And.intro)
                    | (refine aCall.gives hb ?_; simp -implicitDefEqProofs [j6, jW, jT, hT6, hlt, hCL6, hCLg, n_id6_id, n_w_id, n_tk_id, n_tk_w, n_w_tk, n_id_w, n_id_tk, n_id6_tk, n_tk_id6, n_id6_w, n_w_id6]))
                all_goals
                  (with_reducible apply AWp.region)
                  simp -implicitDefEqProofs
                  refine ⟨m3 - 1, _, _, by omega, FrWk.mk ?_, ?_, i + 1, a7, L ++ [l], by omega, by omega, ha7, by simp [hL], hX3, rfl, rfl⟩
                  · simp [wInc (show i < 4000000000000000000 by omega)]
                  · rw [hCLs, hLe, hLn, hs3, hL]
                    exact le_fin3 n_id_w n_id_tk n_w_tk
            · have hIc : ((i : Int) < c) = False := by simp; omega
              obtain rfl : i = c := by omega
              have hXe : rRws b mkn (kindsL (t : Int)) i a5 = .ok (L, a6) := by rw [← hX3]; simp [rRws, preR]
              rw [hXe] at hX2
              simp only at hX2
              rw [preR_app] at hX2
              have ha6' := ha6
              refine AWp.wkC w (T.map tV ++ tV L :: List.replicate (5 - t) .nilS) jW (by simp) (fun k _ => Wk_at ?_ _ _ k) ?_
              · simp only [tV, lV, List.map_map]
                exact (Wk_unk _ _ _ _).2 trivial
              repeat (first
                | (with_reducible apply AWp.seq)
                | (with_reducible apply AWp.block)
                | ((with_reducible apply AWp.fork); simp -implicitDefEqProofs [hIc, n_id2_id, n_id_id2, h, n_id2_rid, n_rid_id2, hr, n_tk_id, n_id_tk, kI, n_tk_rid, n_rid_tk, kR, n_tk_w, n_w_tk, kW, n_tk_id6, n_id6_tk, k6])
                | ((fail_if_success (with_reducible apply AWp.region (id := 10))); (fail_if_success (with_reducible apply AWp.region (id := 16))); (with_reducible apply AWp.region); simp -implicitDefEqProofs [hIc, n_id2_id, n_id_id2, h, n_id2_rid, n_rid_id2, hr, n_tk_id, n_id_tk, kI, n_tk_rid, n_rid_tk, kR, n_tk_w, n_w_tk, kW, n_tk_id6, n_id6_tk, k6])
                | (with_reducible refine And.intro (by first | omega | assumption | decide) ?_)
                | ((with_reducible show condK _ _ _); simp -implicitDefEqProofs [hIc, n_id2_id, n_id_id2, h, n_id2_rid, n_rid_id2, hr, n_tk_id, n_id_tk, kI, n_tk_rid, n_rid_tk, kR, n_tk_w, n_w_tk, kW, n_tk_id6, n_id6_tk, k6])
                | ((with_reducible show guardK _ _ _ _ _ _ _ _ _); simp -implicitDefEqProofs [hIc, n_id2_id, n_id_id2, h, n_id2_rid, n_rid_id2, hr, n_tk_id, n_id_tk, kI, n_tk_rid, n_rid_tk, kR, n_tk_w, n_w_tk, kW, n_tk_id6, n_id6_tk, k6])
                | ((with_reducible apply AWp.ret); try simp -implicitDefEqProofs [hIc, n_id2_id, n_id_id2, h, n_id2_rid, n_rid_id2, hr, n_tk_id, n_id_tk, kI, n_tk_rid, n_rid_tk, kR, n_tk_w, n_w_tk, kW, n_tk_id6, n_id6_tk, k6])
                | ((with_reducible apply AWp.skip); try simp -implicitDefEqProofs [hIc, n_id2_id, n_id_id2, h, n_id2_rid, n_rid_id2, hr, n_tk_id, n_id_tk, kI, n_tk_rid, n_rid_tk, kR, n_tk_w, n_w_tk, kW, n_tk_id6, n_id6_tk, k6])
                | ((with_reducible apply AWp.exit); try simp -implicitDefEqProofs [hIc, n_id2_id, n_id_id2, h, n_id2_rid, n_rid_id2, hr, n_tk_id, n_id_tk, kI, n_tk_rid, n_rid_tk, kR, n_tk_w, n_w_tk, kW, n_tk_id6, n_id6_tk, k6]))
              refine ⟨m2 - 1, _, _, by omega, FrWk.mk (by simp [wInc (show t < 4000000000000000000 by omega)]), ?_, t + 1, a6, T ++ [L], by omega, by omega, ha6', by simp [hT5], hX2, rfl, rfl⟩
              have k1 : σ1 tk = none := by rw [hs2] at h_tk; simpa [AS.set, n_tk_w, n_tk_id] using h_tk
              rw [hs3, hs2, show (T ++ [L]).map tV ++ List.replicate (6 - (t + 1)) AV.nilS = T.map tV ++ tV L :: List.replicate (5 - t) .nilS by rw [show 6 - (t + 1) = 5 - t by omega]; simp]
              intro j_ y_ hy_
              by_cases e_id : j_ = id
              · subst e_id; simp [AS.set, k1, n_id_w, n_w_id, n_id_tk, n_tk_id, n_w_tk, n_tk_w, n_id2_id, n_id_id2, h, n_id2_rid, n_rid_id2, hr, n_tk_id, n_id_tk, kI, n_tk_rid, n_rid_tk, kR, n_tk_w, n_w_tk, kW, n_tk_id6, n_id6_tk, k6] at hy_ ⊢; try first | exact hy_ | (cases hy_; done)
              by_cases e_w : j_ = w
              · subst e_w; simp [AS.set, k1, n_id_w, n_w_id, n_id_tk, n_tk_id, n_w_tk, n_tk_w, n_id2_id, n_id_id2, h, n_id2_rid, n_rid_id2, hr, n_tk_id, n_id_tk, kI, n_tk_rid, n_rid_tk, kR, n_tk_w, n_w_tk, kW, n_tk_id6, n_id6_tk, k6] at hy_ ⊢; try first | exact hy_ | (cases hy_; done)
              by_cases e_tk : j_ = tk
              · subst e_tk; simp [AS.set, k1, n_id_w, n_w_id, n_id_tk, n_tk_id, n_w_tk, n_tk_w, n_id2_id, n_id_id2, h, n_id2_rid, n_rid_id2, hr, n_tk_id, n_id_tk, kI, n_tk_rid, n_rid_tk, kR, n_tk_w, n_w_tk, kW, n_tk_id6, n_id6_tk, k6] at hy_ ⊢; try first | exact hy_ | (cases hy_; done)
              simp [AS.set, k1, n_id_w, n_w_id, n_id_tk, n_tk_id, n_w_tk, n_tk_w, n_id2_id, n_id_id2, h, n_id2_rid, n_rid_id2, hr, n_tk_id, n_id_tk, kI, n_tk_rid, n_rid_tk, kR, n_tk_w, n_w_tk, kW, n_tk_id6, n_id6_tk, k6, e_id, e_w, e_tk] at hy_ ⊢; try exact hy_
          · have hT6 : ((t : Int) < 6) = False := by simp; omega
            obtain rfl : t = 6 := by omega
            have hXe : rTbs b mkn d 0 a4 = .ok (T, a5) := by
              rw [← hX2, List.drop_eq_nil_of_le (by omega)]; simp [rTbs, preR]
            rw [hXe] at hAll
            simp only at hAll
            simp only [Nat.sub_self, List.replicate_zero, List.append_nil] at kW
            obtain ⟨R, hR⟩ : ∃ R : AS, R = fun j => if j = w then none else σ2 j := ⟨_, rfl⟩
            have hRw : R w = none := by rw [hR]; simp
            have hRj : ∀ j, j ≠ w → R j = σ2 j := fun j hj => by rw [hR]; simp [hj]
            have hR2 : σ2 = R.set w (.cells 69 (T.map tV)) := by
              funext j
              by_cases e : j = w
              · subst e; simp [kW]
              · simp [AS.set, e, hRj j e]
            rw [hR2]
            refine AWp.freezeCell id6 w (e := 69) (m := 6) (ty := 24) (cs2 := [.sc (.int .i64 en), .msl w 0 6 6]) (T.map tV) [.sc (.int .i64 en), .lst 69 (T.map tV) .full false] n_id6_w (by rw [hRj id6 n_id6_w]; exact k6) hRw (by simpa using hT5) (fun v hv => ?_) (flat_tV T).symm rfl (fun k hk G G' x hle conv hx => ?_) ?_
            · obtain ⟨l, _, rfl⟩ := List.mem_map.1 hv
              simp [tV, lV]
            · match k, hk with
              | 0, _ => exact hx.mono hle
              | 1, _ => exact conv _ hx
            have g2B : σ' id2 = some (.cells 24 [.sc (.int .i64 0), .nilS]) := by rw [hs]; simp [n_id2_id4, n_id2_id, hB2]
            have n_id2_id6 : ¬ id2 = id6 := by rintro rfl; rw [g2B] at h_id6; cases h_id6
            have n_id2_w : ¬ id2 = w := by rintro rfl; rw [g2B] at h_w; cases h_w
            have r2 : R id2 = some (.cells 24 [.sc (.int .i64 0), .nilS]) := by
              rw [hRj id2 n_id2_w, hs2]; simp [n_id2_w, n_id2_id, hkeep id2 n_id2_id _ g2B]
            repeat (first
              | (with_reducible apply AWp.seq)
              | (with_reducible apply AWp.block)
              | ((with_reducible apply AWp.fork); simp -implicitDefEqProofs [hT6, r2, n_id2_id6, n_id2_id, n_id_id2, h, n_id2_rid, n_rid_id2, hr])
              | ((fail_if_success (with_reducible apply AWp.region (id := 10))); (fail_if_success (with_reducible apply AWp.region (id := 16))); (with_reducible apply AWp.region); simp -implicitDefEqProofs [hT6, r2, n_id2_id6, n_id2_id, n_id_id2, h, n_id2_rid, n_rid_id2, hr])
              | (with_reducible refine And.intro (by first | omega | assumption | decide) ?_)
              | ((with_reducible show condK _ _ _); simp -implicitDefEqProofs [hT6, r2, n_id2_id6, n_id2_id, n_id_id2, h, n_id2_rid, n_rid_id2, hr])
              | ((with_reducible show guardK _ _ _ _ _ _ _ _ _); simp -implicitDefEqProofs [hT6, r2, n_id2_id6, n_id2_id, n_id_id2, h, n_id2_rid, n_rid_id2, hr])
              | ((with_reducible apply AWp.ret); try simp -implicitDefEqProofs [hT6, r2, n_id2_id6, n_id2_id, n_id_id2, h, n_id2_rid, n_rid_id2, hr])
              | ((with_reducible apply AWp.skip); try simp -implicitDefEqProofs [hT6, r2, n_id2_id6, n_id2_id, n_id_id2, h, n_id2_rid, n_rid_id2, hr])
              | ((with_reducible apply AWp.exit); try simp -implicitDefEqProofs [hT6, r2, n_id2_id6, n_id2_id, n_id_id2, h, n_id2_rid, n_rid_id2, hr]))
            have n_id_id2' : ¬ id = id2 := n_id_id2
            refine ⟨tvR (en, T), (σ.set rid (rBox id b.length mkn)).set id (rdC b a5 nl), Wk_agg2 (Wk.refl _) ((Wk_unk _ _ _ _).2 trivial), ?_, (en, T), a5, mkn, hAll, rfl, rfl⟩
            refine leX a5 _ ?_ (fun j e1 e2 e3 y hy => ?_)
            · simp only [AS.set, n_id_id2, n_id_id6, if_false]
              rw [hRj id n_id_w]; exact kI
            · have m1 : j ≠ w := by rintro rfl; rw [h_w] at hy; cases hy
              have m2 : j ≠ id6 := by rintro rfl; rw [h_id6] at hy; cases hy
              simp only [AS.set, e1, m2, if_false]
              rw [hRj j m1, hs2]
              simp [AS.set, e2, m1, hkeep j e2 y hy]

end Go.Proofs.Ytpekbapmnmnjoaa
