/- Package body: a body is read. -/
import Derived.Test.YtnkjbgcbchbonaaBody8
set_option linter.unusedSimpArgs false
set_option linter.unusedVariables false
set_option maxRecDepth 100000
set_option maxHeartbeats 3200000
namespace Go.Proofs.Ytnkjbgcbchbonaa
open Go Go.AW

def eBody (b : List UInt8) (fr : Nat) : Except Int ((List UInt8 × List R6) × Nat) :=
  match eNum b fr 1 with
  | .error e => .error e
  | .ok (c, a1) =>
    if c % 4 = 2 then
      match eCode b a1 (c / 4) with
      | .error e => .error e
      | .ok (l, a2) => .ok ((l, []), a2)
    else if ¬ ((c = 3 ∨ c = 11) ∧ fr % 4 = 0) then .error 2 else
    match ePad b 3 a1 with
    | .error e => .error e
    | .ok a2 => match eNum b a2 4 with
      | .error e => .error e
      | .ok (n, a3) => match eCode b a3 n with
        | .error e => .error e
        | .ok (l, a4) =>
          if c = 11 then
            match eClauses b fr a4 with
            | .error e => .error e
            | .ok (rs, a5) => .ok ((l, rs), a5)
          else if l.length < 64 then .error 2 else .ok ((l, []), a4)

def bdV (x : List UInt8 × List R6) : AV := bodyV x.1 x.2 .unk .unk (decide (x.1 = [])) (decide (x.2 = []))

theorem eRaws_len {b : List UInt8} : ∀ {k a : Nat} {l : List R6} {a' : Nat}, eRaws b k a = .ok (l, a') → l.length = k := by
  intro k
  induction k with
  | zero => intro a l a' h; simp [eRaws] at h; simp [← h.1]
  | succ k ih =>
    intro a l a' h
    simp only [eRaws] at h
    cases h1 : eNums b 6 a with
    | error e => rw [h1] at h; simp at h
    | ok x =>
      obtain ⟨x, a1⟩ := x
      rw [h1] at h
      simp only at h
      cases h2 : eRaws b k a1 with
      | error e => rw [h2] at h; simp at h
      | ok y =>
        obtain ⟨y, a2⟩ := y
        rw [h2] at h
        simp at h
        have := ih h2
        simp [← h.1, this]
theorem eClauses_ne {b : List UInt8} {fr a : Nat} {l : List R6} {a' : Nat} (h : eClauses b fr a = .ok (l, a')) : l ≠ [] ∧ l.length ≤ 6 := by
  unfold eClauses at h
  split at h
  · cases h
  · split at h
    · cases h
    · split at h
      · cases h
      · split at h
        · cases h
        · rename_i hn
          split at h
          · cases h
          · split at h
            · cases h
            · have := eRaws_len h
              refine ⟨?_, by omega⟩
              rintro rfl
              simp at this
              omega

/-- A place that all ways lead through. -/
def meetQ (I : Fr → AS → Prop) (s : Fr) (σ : AS) : Prop := ∃ s1 σ1, FrWk Try.prog s s1 ∧ AS.le σ1 σ ∧ I s1 σ1
theorem AWp.meet {n : Nat} {ds : List Deferred} {c y : Code} {Q Q2 : AQ} {s : Fr} {σ : AS} (I : Fr → AS → Prop) (h1 : AWp Try.prog n ds c (thenQ (meetQ I) Q2) s σ) (h2 : ∀ s1 σ1, I s1 σ1 → AWp Try.prog n ds y Q s1 σ1) : AWp Try.prog n ds c (thenQ (AWp Try.prog n ds y Q) Q2) s σ :=
  AWp.mono h1 fun e s σ h => by
    cases e with
    | normal => obtain ⟨s1, σ1, g1, g2, g3⟩ := h; exact (h2 s1 σ1 g3).weaken g1 g2
    | exit i => exact h
    | ret => exact h
    | panic v => exact h

theorem le_mid {B : AS} {id id6 : Nat} {R2 Rx C : ABlk} (h6 : B id6 = none) : AS.le (B.set id Rx) (((B.set id R2).set id6 C).set id Rx) := by
  intro j x hx
  by_cases e : j = id
  · subst e; simpa [AS.set] using hx
  · simp [AS.set, e] at hx
    have : j ≠ id6 := by rintro rfl; rw [h6] at hx; cases hx
    simp [AS.set, e, this, hx]

/-- Three zeros. -/
def bdI (b : List UInt8) (nl : Bool) (fr c : Int) (id id2 id4 : Nat) (X : Except Int Nat) (B : AS) (m : Nat) (f : Fr) (σ' : AS) : Prop :=
  ∃ (i a : Nat), m = 3 - i ∧ i ≤ 3 ∧ a ≤ b.length ∧ fr ≤ (a : Int) ∧ ePad b (3 - i) a = X ∧ σ' = B.set id (rdC b a nl) ∧
    f = mkF [(1, .sc (.int .i64 fr)), (2, .ptr id2 0), (4, .ptr id4 0), (5, .sc (.int .i64 c)), (29, .sc (.int .i64 i))]

theorem eCode_ne {b : List UInt8} {a : Nat} {n : Int} {l : List UInt8} {a' : Nat} (h : eCode b a n = .ok (l, a')) : l ≠ [] := by
  unfold eCode at h
  split at h
  · cases h
  · split at h
    · cases h
      have := seg_length b a n (by omega) (by omega) (by omega)
      intro e
      rw [e] at this
      simp at this
      omega
    · cases h
theorem eCode_len {b : List UInt8} {a : Nat} {n : Int} {l : List UInt8} {a' : Nat} (h : eCode b a n = .ok (l, a')) : a ≤ a' ∧ a' ≤ b.length := by
  unfold eCode at h
  split at h
  · cases h
  · split at h
    · cases h; omega
    · cases h

def bdM (b : List UInt8) (nl : Bool) (fr c : Int) (a2 id id2 id4 : Nat) (B : AS) (s1 : Fr) (σ1 : AS) : Prop :=
  ∃ n a3 l a4 id6, eNum b a2 4 = .ok (n, a3) ∧ eCode b a3 n = .ok (l, a4) ∧ B id6 = none ∧ s1 = mkF [(1, .sc (.int .i64 fr)), (2, .ptr id2 0), (4, .ptr id4 0), (5, .sc (.int .i64 c)), (6, .ptr id6 0)] ∧
    σ1 = (B.set id (rdC b (a4 : Nat) nl)).set id6 (.cells 48 [.lst 5 (l.map u8) .unk false, .nilS])

theorem bbody_ok (id : Nat) (b : List UInt8) (fr : Nat) (nl : Bool) (hnl : nl = true → b = []) (σ : AS) (h : σ id = some (rdC b fr nl)) (ha : fr ≤ b.length) (hl : b.length ≤ 140737488355328) :
    ACalls Try.prog 53 [rdV id, .sc (.int .i64 fr)] σ (RD (eBody b fr) bdV b nl id σ) (TD (eBody b fr) b nl id σ) := by
  have hneed := fun e σ => need_ok e σ
  have hbad := fun e σ => need_bad e σ
  refine ACalls.of_body Try.func53 rfl rfl (by simp [Try.ntmps53]) ?_
  simp only [rdV]
  repeat (first
    | (with_reducible apply AWp.seq)
    | (with_reducible apply AWp.block)
    | ((with_reducible apply AWp.fork); simp -implicitDefEqProofs)
    | ((fail_if_success (with_reducible apply AWp.region (id := 9))); (with_reducible apply AWp.region); simp -implicitDefEqProofs)
    | (with_reducible refine And.intro (by first | omega | assumption | decide) ?_)
    | ((with_reducible apply AWp.ret); try simp -implicitDefEqProofs)
    | ((with_reducible apply AWp.skip); try simp -implicitDefEqProofs)
    | ((with_reducible apply AWp.exit); try simp -implicitDefEqProofs))
  intro id2 h_id2
  have n1 : id ≠ id2 := by rintro rfl; rw [h] at h_id2; cases h_id2
  have n1' : ¬ id2 = id := fun e => n1 e.symm
  repeat (first
    | (with_reducible apply AWp.seq)
    | (with_reducible apply AWp.block)
    | ((with_reducible apply AWp.fork); simp -implicitDefEqProofs)
    | ((fail_if_success (with_reducible apply AWp.region (id := 9))); (with_reducible apply AWp.region); simp -implicitDefEqProofs)
    | (with_reducible refine And.intro (by first | omega | assumption | decide) ?_)
    | ((with_reducible apply AWp.ret); try simp -implicitDefEqProofs)
    | ((with_reducible apply AWp.skip); try simp -implicitDefEqProofs)
    | ((with_reducible apply AWp.exit); try simp -implicitDefEqProofs))
  intro id4 n_id4_id2 h_id4
  have n_id2_id4 : ¬ id2 = id4 := fun e => n_id4_id2 e.symm
  have n4 : id ≠ id4 := by rintro rfl; rw [h] at h_id4; cases h_id4
  have n4' : ¬ id4 = id := fun e => n4 e.symm
  obtain ⟨B, hBs, hB2, hB4, hBi, hle, hle4⟩ : ∃ B : AS, ((σ.set id2 (.cells 99 [.ptr id 0])).set id4 (.cells 48 [.nilS, .nilS])) = B.set id (rdC b fr nl) ∧ B id2 = some (.cells 99 [.ptr id 0]) ∧ B id4 = some (.cells 48 [.nilS, .nilS]) ∧ B id ≠ none ∧ (∀ x : Int, AS.le (σ.set id (rdC b x nl)) (B.set id (rdC b x nl))) ∧ ∀ (x : Int) (y : ABlk), AS.le (σ.set id (rdC b x nl)) ((B.set id (rdC b x nl)).set id4 y) := by
    refine ⟨_, (set_self (by simp [AS.set, n1, n4, h])).symm, by simp [n_id2_id4], by simp, by simp [AS.set, n1, n4, h], fun x => le_set (le_new (by simp [AS.set, n_id4_id2, h_id4]) (le_new h_id2 (AS.le_refl _))), fun x y => ?_⟩
    intro j z hz
    by_cases e1 : j = id
    · subst e1; simpa [AS.set, n4] using hz
    · have e2 : j ≠ id4 := by rintro rfl; simp [AS.set, e1, h_id4] at hz
      have e3 : j ≠ id2 := by rintro rfl; simp [AS.set, e1, h_id2] at hz
      simp [AS.set, e1] at hz
      simp [AS.set, e1, e2, e3, hz]
  simp only [hBs]
  clear hBs
  have no : ∀ e, eBody b fr = .error e → ∀ x : Int, ∃ σ', AS.le σ' (B.set id (rdC b x nl)) ∧ TD (eBody b fr) b nl id σ (flt e) σ' := fun e he x => ⟨_, hle x, e, he, rfl, x, rfl⟩
  have hC : eBody b fr = eBody b fr := rfl
  conv at hC => rhs; unfold eBody
  generalize eBody b fr = X at hC no ⊢
  cases hN : eNum b fr 1 with
  | error e =>
    rw [hN] at hC
    have hm1 := bnum_badB id b fr 1 nl B ha hl (by decide) e hN
    repeat (first
      | (with_reducible apply AWp.seq)
      | (with_reducible apply AWp.block)
      | ((with_reducible apply AWp.fork); simp -implicitDefEqProofs [n1, n1', n4, n4', hB2, hB4, n_id4_id2, n_id2_id4])
      | ((fail_if_success (with_reducible apply AWp.region (id := 9))); (with_reducible apply AWp.region); simp -implicitDefEqProofs [n1, n1', n4, n4', hB2, hB4, n_id4_id2, n_id2_id4])
      | (with_reducible refine And.intro (by first | omega | assumption | decide) ?_)
      | ((with_reducible show condK _ _ _); simp -implicitDefEqProofs [n1, n1', n4, n4', hB2, hB4, n_id4_id2, n_id2_id4])
      | ((with_reducible show guardK _ _ _ _ _ _ _ _ _); simp -implicitDefEqProofs [n1, n1', n4, n4', hB2, hB4, n_id4_id2, n_id2_id4])
      | ((with_reducible apply aCall.id); first
          | ((apply aCall.thr (hm1)); simp -implicitDefEqProofs [n1, n1', n4, n4', hB2, hB4, n_id4_id2, n_id2_id4]))
      | ((with_reducible apply AWp.ret); try simp -implicitDefEqProofs [n1, n1', n4, n4', hB2, hB4, n_id4_id2, n_id2_id4])
      | ((with_reducible apply AWp.skip); try simp -implicitDefEqProofs [n1, n1', n4, n4', hB2, hB4, n_id4_id2, n_id2_id4])
      | ((with_reducible apply AWp.exit); try simp -implicitDefEqProofs [n1, n1', n4, n4', hB2, hB4, n_id4_id2, n_id2_id4]))
    exact no e hC
  | ok y =>
  obtain ⟨c, a1⟩ := y
  rw [hN] at hC
  simp only at hC
  have hm1 := bnum_okB id b fr 1 nl B hl (by decide) (by omega) c a1 hN
  have l1 := eNum_len hN
  have hc : 0 ≤ c ∧ c < 256 := by
    obtain ⟨h1, rfl, _⟩ := eNum_ok hN
    have h2 := numL_lt (seg b fr 1)
    have h3 : (seg b fr 1).length = 1 := by have := seg_length b fr 1 (by omega) (by omega) (by omega); omega
    rw [h3] at h2
    exact ⟨numL_nonneg _, by simpa using h2⟩
  have hb3 : IntKind.i64.wrap (bAnd 64 c 3) = c % 4 := by
    have := and_mask (w := 64) (a := c) 2 hc.1 (by omega) (by omega)
    rw [show (2 : Int) ^ 2 - 1 = 3 from by decide, show (2 : Int) ^ 2 = 4 from by decide] at this
    rw [this, in_i64 (by omega) (by omega)]
  have hs3 : IntKind.i64.wrap (c / 4) = c / 4 := in_i64 (by omega) (by omega)
  have kq : id4 ≠ id := n4'
  by_cases h2 : c % 4 = 2
  · rw [if_pos h2] at hC
    cases hM : eCode b a1 (c / 4) with
    | error e =>
      rw [hM] at hC
      have hm2 := bcode_badB id b a1 nl B l1.2 hl _ e hM
      repeat (first
        | (with_reducible apply AWp.seq)
        | (with_reducible apply AWp.block)
        | ((with_reducible apply AWp.fork); simp -implicitDefEqProofs [n1, n1', n4, n4', hB2, hB4, hb3, hs3, h2, n_id4_id2, n_id2_id4])
        | ((fail_if_success (with_reducible apply AWp.region (id := 9))); (with_reducible apply AWp.region); simp -implicitDefEqProofs [n1, n1', n4, n4', hB2, hB4, hb3, hs3, h2, n_id4_id2, n_id2_id4])
        | (with_reducible refine And.intro (by first | omega | assumption | decide) ?_)
        | ((with_reducible show condK _ _ _); simp -implicitDefEqProofs [n1, n1', n4, n4', hB2, hB4, hb3, hs3, h2, n_id4_id2, n_id2_id4])
        | ((with_reducible show guardK _ _ _ _ _ _ _ _ _); simp -implicitDefEqProofs [n1, n1', n4, n4', hB2, hB4, hb3, hs3, h2, n_id4_id2, n_id2_id4])
        | ((with_reducible apply aCall.id); first
            | ((apply aCall.gives (hm1)); simp -implicitDefEqProofs [n1, n1', n4, n4', hB2, hB4, hb3, hs3, h2, n_id4_id2, n_id2_id4])
            | ((apply aCall.thr (hm2)); simp -implicitDefEqProofs [n1, n1', n4, n4', hB2, hB4, hb3, hs3, h2, n_id4_id2, n_id2_id4]))
        | ((with_reducible apply AWp.ret); try simp -implicitDefEqProofs [n1, n1', n4, n4', hB2, hB4, hb3, hs3, h2, n_id4_id2, n_id2_id4])
        | ((with_reducible apply AWp.skip); try simp -implicitDefEqProofs [n1, n1', n4, n4', hB2, hB4, hb3, hs3, h2, n_id4_id2, n_id2_id4])
        | ((with_reducible apply AWp.exit); try simp -implicitDefEqProofs [n1, n1', n4, n4', hB2, hB4, hb3, hs3, h2, n_id4_id2, n_id2_id4]))
      exact no e hC
    | ok y =>
      obtain ⟨l, a2⟩ := y
      rw [hM] at hC
      simp only at hC
      have hm2 := bcode_okB id b a1 nl B hnl hl _ l a2 hM
      repeat (first
        | (with_reducible apply AWp.seq)
        | (with_reducible apply AWp.block)
        | ((with_reducible apply AWp.fork); simp -implicitDefEqProofs [n1, n1', n4, n4', hB2, hB4, hb3, hs3, h2, n_id4_id2, n_id2_id4])
        | ((fail_if_success (with_reducible apply AWp.region (id := 9))); (with_reducible apply AWp.region); simp -implicitDefEqProofs [n1, n1', n4, n4', hB2, hB4, hb3, hs3, h2, n_id4_id2, n_id2_id4])
        | (with_reducible refine And.intro (by first | omega | assumption | decide) ?_)
        | ((with_reducible show condK _ _ _); simp -implicitDefEqProofs [n1, n1', n4, n4', hB2, hB4, hb3, hs3, h2, n_id4_id2, n_id2_id4])
        | ((with_reducible show guardK _ _ _ _ _ _ _ _ _); simp -implicitDefEqProofs [n1, n1', n4, n4', hB2, hB4, hb3, hs3, h2, n_id4_id2, n_id2_id4])
        | ((with_reducible apply aCall.id); first
            | ((apply aCall.gives (hm1)); simp -implicitDefEqProofs [n1, n1', n4, n4', hB2, hB4, hb3, hs3, h2, n_id4_id2, n_id2_id4])
            | ((apply aCall.gives (hm2)); simp -implicitDefEqProofs [n1, n1', n4, n4', hB2, hB4, hb3, hs3, h2, n_id4_id2, n_id2_id4]))
        | ((with_reducible apply AWp.ret); try simp -implicitDefEqProofs [n1, n1', n4, n4', hB2, hB4, hb3, hs3, h2, n_id4_id2, n_id2_id4])
        | ((with_reducible apply AWp.skip); try simp -implicitDefEqProofs [n1, n1', n4, n4', hB2, hB4, hb3, hs3, h2, n_id4_id2, n_id2_id4])
        | ((with_reducible apply AWp.exit); try simp -implicitDefEqProofs [n1, n1', n4, n4', hB2, hB4, hb3, hs3, h2, n_id4_id2, n_id2_id4]))
      refine ⟨bdV (l, []), σ.set id (rdC b a2 nl), ?_, ?_, (l, []), a2, hC, rfl, rfl⟩
      · exact Wk_agg2 (by simp [eCode_ne hM]) (by simp)
      · exact hle4 _ _
  rw [if_neg h2] at hC
  by_cases h3 : (c = 3 ∨ c = 11) ∧ fr % 4 = 0
  · rw [if_neg (by simpa using h3)] at hC
    have hr4 : ((fr : Int).tmod 4) = ((fr % 4 : Nat) : Int) := by rw [Int.tmod_eq_emod_of_nonneg (by omega)]; omega
    have d2 : ((fr : Int) % 4 = 0) = True := by simp; omega
    have d3 : c = 3 ∨ (¬ c = 3 ∧ c = 11) := by omega
    generalize hP : ePad b 3 a1 = EP at hC
    rcases d3 with rfl | ⟨d4, rfl⟩
    · repeat (first
        | (with_reducible apply AWp.seq)
        | (with_reducible apply AWp.block)
        | ((with_reducible apply AWp.fork); simp -implicitDefEqProofs [n1, n1', n4, n4', hB2, hB4, hb3, hr4, d2, n_id4_id2, n_id2_id4])
        | ((fail_if_success (with_reducible apply AWp.region (id := 9))); (with_reducible apply AWp.region); simp -implicitDefEqProofs [n1, n1', n4, n4', hB2, hB4, hb3, hr4, d2, n_id4_id2, n_id2_id4])
        | (with_reducible refine And.intro (by first | omega | assumption | decide) ?_)
        | ((with_reducible show condK _ _ _); simp -implicitDefEqProofs [n1, n1', n4, n4', hB2, hB4, hb3, hr4, d2, n_id4_id2, n_id2_id4])
        | ((with_reducible show guardK _ _ _ _ _ _ _ _ _); simp -implicitDefEqProofs [n1, n1', n4, n4', hB2, hB4, hb3, hr4, d2, n_id4_id2, n_id2_id4])
        | ((with_reducible apply aCall.id); first
            | ((apply aCall.gives (hm1)); simp -implicitDefEqProofs [n1, n1', n4, n4', hB2, hB4, hb3, hr4, d2, n_id4_id2, n_id2_id4])
            | ((apply aCall.gives (hneed _ _)); simp -implicitDefEqProofs [n1, n1', n4, n4', hB2, hB4, hb3, hr4, d2, n_id4_id2, n_id2_id4]))
        | ((with_reducible apply AWp.ret); try simp -implicitDefEqProofs [n1, n1', n4, n4', hB2, hB4, hb3, hr4, d2, n_id4_id2, n_id2_id4])
        | ((with_reducible apply AWp.skip); try simp -implicitDefEqProofs [n1, n1', n4, n4', hB2, hB4, hb3, hr4, d2, n_id4_id2, n_id2_id4])
        | ((with_reducible apply AWp.exit); try simp -implicitDefEqProofs [n1, n1', n4, n4', hB2, hB4, hb3, hr4, d2, n_id4_id2, n_id2_id4]))
      refine AWp.loopI (bdI b nl fr 3 id id2 id4 EP B) (k0 := 3) ⟨0, a1, rfl, by omega, l1.2, by omega, hP, rfl, rfl⟩ (FrWk.mk (by simp)) (AS.le_refl _) ?_
      rintro m f σ' ⟨i, a2, hm, hi, l2, l2', hX, rfl, rfl⟩
      by_cases hlt : i < 3
      · have hI : ((i : Int) < 3) = True := by simp; omega
        rw [show 3 - i = (2 - i) + 1 by omega] at hX
        simp only [ePad] at hX
        cases hM : eMust b a2 0 with
        | error e =>
          rw [hM] at hX
          have hm2 := bmust_badB id b a2 nl B l2 hl 0 e hM
          repeat (first
            | (with_reducible apply AWp.seq)
            | (with_reducible apply AWp.block)
            | ((with_reducible apply AWp.fork); simp -implicitDefEqProofs [hI, n1, n1', n4, n4', hB2, hB4, n_id4_id2, n_id2_id4])
            | ((fail_if_success (with_reducible apply AWp.region (id := 9))); (with_reducible apply AWp.region); simp -implicitDefEqProofs [hI, n1, n1', n4, n4', hB2, hB4, n_id4_id2, n_id2_id4])
            | (with_reducible refine And.intro (by first | omega | assumption | decide) ?_)
            | ((with_reducible show condK _ _ _); simp -implicitDefEqProofs [hI, n1, n1', n4, n4', hB2, hB4, n_id4_id2, n_id2_id4])
            | ((with_reducible show guardK _ _ _ _ _ _ _ _ _); simp -implicitDefEqProofs [hI, n1, n1', n4, n4', hB2, hB4, n_id4_id2, n_id2_id4])
            | ((with_reducible apply aCall.id); first
                | ((apply aCall.thr (hm2)); simp -implicitDefEqProofs [hI, n1, n1', n4, n4', hB2, hB4, n_id4_id2, n_id2_id4]))
            | ((with_reducible apply AWp.ret); try simp -implicitDefEqProofs [hI, n1, n1', n4, n4', hB2, hB4, n_id4_id2, n_id2_id4])
            | ((with_reducible apply AWp.skip); try simp -implicitDefEqProofs [hI, n1, n1', n4, n4', hB2, hB4, n_id4_id2, n_id2_id4])
            | ((with_reducible apply AWp.exit); try simp -implicitDefEqProofs [hI, n1, n1', n4, n4', hB2, hB4, n_id4_id2, n_id2_id4]))
          refine no e ?_
          rw [hC, ← hX]
        | ok a3 =>
          rw [hM] at hX
          simp only at hX
          have hm2 := bmust_okB id b a2 nl B hl 0 a3 hM
          repeat (first
            | (with_reducible apply AWp.seq)
            | (with_reducible apply AWp.block)
            | ((with_reducible apply AWp.fork); simp -implicitDefEqProofs [hI, n1, n1', n4, n4', hB2, hB4, n_id4_id2, n_id2_id4])
            | ((fail_if_success (with_reducible apply AWp.region (id := 9))); (with_reducible apply AWp.region); simp -implicitDefEqProofs [hI, n1, n1', n4, n4', hB2, hB4, n_id4_id2, n_id2_id4])
            | (with_reducible refine And.intro (by first | omega | assumption | decide) ?_)
            | ((with_reducible show condK _ _ _); simp -implicitDefEqProofs [hI, n1, n1', n4, n4', hB2, hB4, n_id4_id2, n_id2_id4])
            | ((with_reducible show guardK _ _ _ _ _ _ _ _ _); simp -implicitDefEqProofs [hI, n1, n1', n4, n4', hB2, hB4, n_id4_id2, n_id2_id4])
            | ((with_reducible apply aCall.id); first
                | ((apply aCall.gives (hm2)); simp -implicitDefEqProofs [hI, n1, n1', n4, n4', hB2, hB4, n_id4_id2, n_id2_id4]))
            | ((with_reducible apply AWp.ret); try simp -implicitDefEqProofs [hI, n1, n1', n4, n4', hB2, hB4, n_id4_id2, n_id2_id4])
            | ((with_reducible apply AWp.skip); try simp -implicitDefEqProofs [hI, n1, n1', n4, n4', hB2, hB4, n_id4_id2, n_id2_id4])
            | ((with_reducible apply AWp.exit); try simp -implicitDefEqProofs [hI, n1, n1', n4, n4', hB2, hB4, n_id4_id2, n_id2_id4]))
          clear hC
          refine ⟨m - 1, _, _, by omega, FrWk.mk ?_, AS.le_refl _, i + 1, a3, by omega, by omega, (eMust_len hM).2, by have := eMust_len hM; omega, by rw [← hX]; congr 1; omega, rfl, rfl⟩
          simp [wInc (show i < 4000000000000000000 by omega)]
      · have hI : ((i : Int) < 3) = False := by simp; omega
        obtain rfl : i = 3 := by omega
        simp only [Nat.sub_self, ePad] at hX
        rw [← hX] at hC
        simp only at hC
        repeat (first
          | (with_reducible apply AWp.seq)
          | (with_reducible apply AWp.block)
          | ((with_reducible apply AWp.fork); simp -implicitDefEqProofs [hI, n1, n1', n4, n4', hB2, hB4, n_id4_id2, n_id2_id4])
          | ((fail_if_success (with_reducible apply AWp.region (id := 9))); (with_reducible apply AWp.region); simp -implicitDefEqProofs [hI, n1, n1', n4, n4', hB2, hB4, n_id4_id2, n_id2_id4])
          | (with_reducible refine And.intro (by first | omega | assumption | decide) ?_)
          | ((with_reducible show condK _ _ _); simp -implicitDefEqProofs [hI, n1, n1', n4, n4', hB2, hB4, n_id4_id2, n_id2_id4])
          | ((with_reducible show guardK _ _ _ _ _ _ _ _ _); simp -implicitDefEqProofs [hI, n1, n1', n4, n4', hB2, hB4, n_id4_id2, n_id2_id4])
          | ((with_reducible apply AWp.ret); try simp -implicitDefEqProofs [hI, n1, n1', n4, n4', hB2, hB4, n_id4_id2, n_id2_id4])
          | ((with_reducible apply AWp.skip); try simp -implicitDefEqProofs [hI, n1, n1', n4, n4', hB2, hB4, n_id4_id2, n_id2_id4])
          | ((with_reducible apply AWp.exit); try simp -implicitDefEqProofs [hI, n1, n1', n4, n4', hB2, hB4, n_id4_id2, n_id2_id4]))
        refine AWp.meet (bdM b nl fr 3 a2 id id2 id4 B) ?_ ?_
        · cases hM : eNum b a2 4 with
          | error e =>
            rw [hM] at hC
            have no' := no e hC
            clear hC no hm1 hneed hbad
            (((with_reducible apply AWp.drawS (id := 9) (t := (Sch.alt 0 (Sch.alt 1 (Sch.alt 2 (Sch.alt 3 (Sch.step 4 (Sch.alt 5 (Sch.alt 6 Sch.done Sch.none) Sch.none)) (Sch.alt 5 (Sch.alt 3 (Sch.step 4 (Sch.alt 6 Sch.done Sch.none)) Sch.none) Sch.none)) (Sch.alt 5 (Sch.alt 2 (Sch.alt 3 (Sch.step 4 (Sch.alt 6 Sch.done Sch.none)) Sch.none) Sch.none) Sch.none)) (Sch.alt 5 (Sch.read 1 (Sch.alt 2 (Sch.alt 3 (Sch.step 4 (Sch.alt 6 Sch.done Sch.none)) Sch.none) Sch.none)) Sch.none)) (Sch.alt 1 (Sch.alt 0 (Sch.alt 2 (Sch.alt 3 (Sch.step 4 (Sch.alt 5 (Sch.alt 6 Sch.done Sch.none) Sch.none)) (Sch.alt 5 (Sch.alt 3 (Sch.step 4 (Sch.alt 6 Sch.done Sch.none)) Sch.none) Sch.none)) (Sch.alt 5 (Sch.alt 2 (Sch.alt 3 (Sch.step 4 (Sch.alt 6 Sch.done Sch.none)) Sch.none) Sch.none) Sch.none)) (Sch.alt 2 (Sch.alt 0 (Sch.alt 3 (Sch.step 4 (Sch.alt 5 (Sch.alt 6 Sch.done Sch.none) Sch.none)) (Sch.alt 5 (Sch.alt 3 (Sch.step 4 (Sch.alt 6 Sch.done Sch.none)) Sch.none) Sch.none)) (Sch.alt 5 (Sch.read 0 (Sch.alt 3 (Sch.step 4 (Sch.alt 6 Sch.done Sch.none)) Sch.none)) Sch.none)) (Sch.alt 5 (Sch.alt 0 (Sch.alt 2 (Sch.alt 3 (Sch.step 4 (Sch.alt 6 Sch.done Sch.none)) Sch.none) Sch.none) (Sch.alt 2 (Sch.read 0 (Sch.alt 3 (Sch.step 4 (Sch.alt 6 Sch.done Sch.none)) Sch.none)) Sch.none)) Sch.none))) (Sch.alt 5 (Sch.read 1 (Sch.alt 0 (Sch.alt 2 (Sch.alt 3 (Sch.step 4 (Sch.alt 6 Sch.done Sch.none)) Sch.none) Sch.none) (Sch.alt 2 (Sch.read 0 (Sch.alt 3 (Sch.step 4 (Sch.alt 6 Sch.done Sch.none)) Sch.none)) Sch.none))) Sch.none))))); (exact mixed); kernel_rfl; kernel_rfl; (repeat (with_reducible first | apply PanQ.then | apply PanQ.block | apply PanQ.body | apply PanQ.no))); simp -implicitDefEqProofs [n1, n1', n4, n4', hB2, hB4, n_id4_id2, n_id2_id4])
            all_goals
              repeat' (first
                | (with_reducible apply And.intro)
                | (intro id6 u6 v6; have w6 : ¬ id2 = id6 := (by rintro rfl; rw [hB2] at v6; cases v6); have w6' : ¬ id6 = id2 := (fun e => w6 e.symm); have u6' : ¬ id = id6 := (fun e => u6 e.symm); try simp -implicitDefEqProofs [n1, n1', n4, n4', hB2, hB4, w6, w6', u6, u6'])
                | (simp -implicitDefEqProofs [show ¬ id2 = id6 by assumption, show ¬ id6 = id by assumption, n1, n1', n4, n4', hB2, hB4])
                | (refine aCall.thr (bnum_bad id b a2 4 nl _ (by simp [AS.set, *]) l2 hl (by decide) e hM) ?_; simp -implicitDefEqProofs [n1, n1', n4, n4', hB2, hB4]))
            all_goals
              intro x
              exact (no' x).imp fun σ' h => ⟨AS.le_trans h.1 (by first | exact AS.le_refl _ | exact le_mid (by assumption) | exact le_new (by simp [AS.set, *]) (AS.le_refl _)), h.2⟩
          | ok y =>
            obtain ⟨n, a3⟩ := y
            rw [hM] at hC
            simp only at hC
            have l3 := eNum_len hM
            cases hM2 : eCode b a3 n with
            | error e =>
              rw [hM2] at hC
              have no' := no e hC
              clear hC no hm1 hneed hbad
              (((with_reducible apply AWp.drawS (id := 9) (t := (Sch.alt 0 (Sch.alt 1 (Sch.alt 2 (Sch.alt 3 (Sch.step 4 (Sch.alt 5 (Sch.alt 6 Sch.done Sch.none) Sch.none)) (Sch.alt 5 (Sch.alt 3 (Sch.step 4 (Sch.alt 6 Sch.done Sch.none)) Sch.none) Sch.none)) (Sch.alt 5 (Sch.alt 2 (Sch.alt 3 (Sch.step 4 (Sch.alt 6 Sch.done Sch.none)) Sch.none) Sch.none) Sch.none)) (Sch.alt 5 (Sch.read 1 (Sch.alt 2 (Sch.alt 3 (Sch.step 4 (Sch.alt 6 Sch.done Sch.none)) Sch.none) Sch.none)) Sch.none)) (Sch.alt 1 (Sch.alt 0 (Sch.alt 2 (Sch.alt 3 (Sch.step 4 (Sch.alt 5 (Sch.alt 6 Sch.done Sch.none) Sch.none)) (Sch.alt 5 (Sch.alt 3 (Sch.step 4 (Sch.alt 6 Sch.done Sch.none)) Sch.none) Sch.none)) (Sch.alt 5 (Sch.alt 2 (Sch.alt 3 (Sch.step 4 (Sch.alt 6 Sch.done Sch.none)) Sch.none) Sch.none) Sch.none)) (Sch.alt 2 (Sch.alt 0 (Sch.alt 3 (Sch.step 4 (Sch.alt 5 (Sch.alt 6 Sch.done Sch.none) Sch.none)) (Sch.alt 5 (Sch.alt 3 (Sch.step 4 (Sch.alt 6 Sch.done Sch.none)) Sch.none) Sch.none)) (Sch.alt 5 (Sch.read 0 (Sch.alt 3 (Sch.step 4 (Sch.alt 6 Sch.done Sch.none)) Sch.none)) Sch.none)) (Sch.alt 5 (Sch.alt 0 (Sch.alt 2 (Sch.alt 3 (Sch.step 4 (Sch.alt 6 Sch.done Sch.none)) Sch.none) Sch.none) (Sch.alt 2 (Sch.read 0 (Sch.alt 3 (Sch.step 4 (Sch.alt 6 Sch.done Sch.none)) Sch.none)) Sch.none)) Sch.none))) (Sch.alt 5 (Sch.read 1 (Sch.alt 0 (Sch.alt 2 (Sch.alt 3 (Sch.step 4 (Sch.alt 6 Sch.done Sch.none)) Sch.none) Sch.none) (Sch.alt 2 (Sch.read 0 (Sch.alt 3 (Sch.step 4 (Sch.alt 6 Sch.done Sch.none)) Sch.none)) Sch.none))) Sch.none))))); (exact mixed); kernel_rfl; kernel_rfl; (repeat (with_reducible first | apply PanQ.then | apply PanQ.block | apply PanQ.body | apply PanQ.no))); simp -implicitDefEqProofs [n1, n1', n4, n4', hB2, hB4, n_id4_id2, n_id2_id4])
              all_goals
                repeat' (first
                  | (with_reducible apply And.intro)
                  | (intro id6 u6 v6; have w6 : ¬ id2 = id6 := (by rintro rfl; rw [hB2] at v6; cases v6); have w6' : ¬ id6 = id2 := (fun e => w6 e.symm); have u6' : ¬ id = id6 := (fun e => u6 e.symm); try simp -implicitDefEqProofs [n1, n1', n4, n4', hB2, hB4, w6, w6', u6, u6'])
                  | (simp -implicitDefEqProofs [show ¬ id2 = id6 by assumption, show ¬ id6 = id by assumption, n1, n1', n4, n4', hB2, hB4])
                  | (refine aCall.gives (bnum_ok id b a2 4 nl _ (by simp [AS.set, *]) hl (by decide) (by omega) n a3 hM) ?_; simp -implicitDefEqProofs [n1, n1', n4, n4', hB2, hB4])
                  | (refine aCall.thr (bcode_bad id b a3 nl _ (by simp [AS.set, *]) l3.2 hl n e hM2) ?_; simp -implicitDefEqProofs [n1, n1', n4, n4', hB2, hB4]))
              all_goals
                intro x
                exact (no' x).imp fun σ' h => ⟨AS.le_trans h.1 (by first | exact AS.le_refl _ | exact le_mid (by assumption) | exact le_new (by simp [AS.set, *]) (AS.le_refl _)), h.2⟩
            | ok y =>
              obtain ⟨l, a4⟩ := y
              clear hC no hm1 hneed hbad
              (((with_reducible apply AWp.drawS (id := 9) (t := (Sch.alt 0 (Sch.alt 1 (Sch.alt 2 (Sch.alt 3 (Sch.step 4 (Sch.alt 5 (Sch.alt 6 Sch.done Sch.none) Sch.none)) (Sch.alt 5 (Sch.alt 3 (Sch.step 4 (Sch.alt 6 Sch.done Sch.none)) Sch.none) Sch.none)) (Sch.alt 5 (Sch.alt 2 (Sch.alt 3 (Sch.step 4 (Sch.alt 6 Sch.done Sch.none)) Sch.none) Sch.none) Sch.none)) (Sch.alt 5 (Sch.read 1 (Sch.alt 2 (Sch.alt 3 (Sch.step 4 (Sch.alt 6 Sch.done Sch.none)) Sch.none) Sch.none)) Sch.none)) (Sch.alt 1 (Sch.alt 0 (Sch.alt 2 (Sch.alt 3 (Sch.step 4 (Sch.alt 5 (Sch.alt 6 Sch.done Sch.none) Sch.none)) (Sch.alt 5 (Sch.alt 3 (Sch.step 4 (Sch.alt 6 Sch.done Sch.none)) Sch.none) Sch.none)) (Sch.alt 5 (Sch.alt 2 (Sch.alt 3 (Sch.step 4 (Sch.alt 6 Sch.done Sch.none)) Sch.none) Sch.none) Sch.none)) (Sch.alt 2 (Sch.alt 0 (Sch.alt 3 (Sch.step 4 (Sch.alt 5 (Sch.alt 6 Sch.done Sch.none) Sch.none)) (Sch.alt 5 (Sch.alt 3 (Sch.step 4 (Sch.alt 6 Sch.done Sch.none)) Sch.none) Sch.none)) (Sch.alt 5 (Sch.read 0 (Sch.alt 3 (Sch.step 4 (Sch.alt 6 Sch.done Sch.none)) Sch.none)) Sch.none)) (Sch.alt 5 (Sch.alt 0 (Sch.alt 2 (Sch.alt 3 (Sch.step 4 (Sch.alt 6 Sch.done Sch.none)) Sch.none) Sch.none) (Sch.alt 2 (Sch.read 0 (Sch.alt 3 (Sch.step 4 (Sch.alt 6 Sch.done Sch.none)) Sch.none)) Sch.none)) Sch.none))) (Sch.alt 5 (Sch.read 1 (Sch.alt 0 (Sch.alt 2 (Sch.alt 3 (Sch.step 4 (Sch.alt 6 Sch.done Sch.none)) Sch.none) Sch.none) (Sch.alt 2 (Sch.read 0 (Sch.alt 3 (Sch.step 4 (Sch.alt 6 Sch.done Sch.none)) Sch.none)) Sch.none))) Sch.none))))); (exact mixed); kernel_rfl; kernel_rfl; (repeat (with_reducible first | apply PanQ.then | apply PanQ.block | apply PanQ.body | apply PanQ.no))); simp -implicitDefEqProofs [n1, n1', n4, n4', hB2, hB4, n_id4_id2, n_id2_id4])
              all_goals
                repeat' (first
                  | (with_reducible apply And.intro)
                  | (intro id6 u6 v6; have w6 : ¬ id2 = id6 := (by rintro rfl; rw [hB2] at v6; cases v6); have w6' : ¬ id6 = id2 := (fun e => w6 e.symm); have u6' : ¬ id = id6 := (fun e => u6 e.symm); try simp -implicitDefEqProofs [n1, n1', n4, n4', hB2, hB4, w6, w6', u6, u6'])
                  | (simp -implicitDefEqProofs [show ¬ id2 = id6 by assumption, show ¬ id6 = id by assumption, n1, n1', n4, n4', hB2, hB4])
                  | (refine aCall.gives (bnum_ok id b a2 4 nl _ (by simp [AS.set, *]) hl (by decide) (by omega) n a3 hM) ?_; simp -implicitDefEqProofs [n1, n1', n4, n4', hB2, hB4])
                  | (refine aCall.gives (bcode_ok id b a3 nl _ hnl (by simp [AS.set, *]) hl n l a4 hM2) ?_; simp -implicitDefEqProofs [n1, n1', n4, n4', hB2, hB4]))
              all_goals
                refine ⟨_, _, FrWk.mk (by simp), ?_, n, a3, l, a4, id6, hM, hM2, by assumption, rfl, rfl⟩
                first | exact AS.le_refl _ | skip
        · rintro s1 σ1 ⟨n, a3, l, a4, id6, hM, hM2, h6, rfl, rfl⟩
          rw [hM] at hC
          simp only at hC
          rw [hM2] at hC
          simp only at hC
          have l4 : a4 ≤ b.length := (eCode_len hM2).2
          have w1 : ¬ id6 = id := by rintro rfl; exact hBi h6
          have w1' : ¬ id = id6 := fun e => w1 e.symm
          have w2 : ¬ id6 = id2 := by rintro rfl; rw [hB2] at h6; cases h6
          have w2' : ¬ id2 = id6 := fun e => w2 e.symm
          have w4 : ¬ id6 = id4 := by rintro rfl; rw [hB4] at h6; cases h6
          have w4' : ¬ id4 = id6 := fun e => w4 e.symm
          have hle6 : ∀ (x : Int) (y z : ABlk), AS.le (σ.set id (rdC b x nl)) (((B.set id (rdC b x nl)).set id6 y).set id4 z) := by
            intro x y z j q hj
            have h1 := hle4 x z j q hj
            by_cases e : j = id6
            · subst e; simp [AS.set, w1, w4, h6] at h1
            · by_cases e4 : j = id4
              · subst e4; simpa [AS.set] using h1
              · simpa [AS.set, e, e4] using h1
          by_cases h64 : l.length < 64
          · rw [if_neg (by omega), if_pos h64] at hC
            have h64' : ((l.length : Int) < 64) = True := by simp; omega
            repeat (first
              | (with_reducible apply AWp.seq)
              | (with_reducible apply AWp.block)
              | ((with_reducible apply AWp.fork); simp -implicitDefEqProofs [n1, n1', n4, n4', hB2, hB4, w1, w1', w2, w2', w4, w4', h64', h64, n_id4_id2, n_id2_id4])
              | ((fail_if_success (with_reducible apply AWp.region (id := 9))); (with_reducible apply AWp.region); simp -implicitDefEqProofs [n1, n1', n4, n4', hB2, hB4, w1, w1', w2, w2', w4, w4', h64', h64, n_id4_id2, n_id2_id4])
              | (with_reducible refine And.intro (by first | omega | assumption | decide) ?_)
              | ((with_reducible show condK _ _ _); simp -implicitDefEqProofs [n1, n1', n4, n4', hB2, hB4, w1, w1', w2, w2', w4, w4', h64', h64, n_id4_id2, n_id2_id4])
              | ((with_reducible show guardK _ _ _ _ _ _ _ _ _); simp -implicitDefEqProofs [n1, n1', n4, n4', hB2, hB4, w1, w1', w2, w2', w4, w4', h64', h64, n_id4_id2, n_id2_id4])
              | ((with_reducible apply aCall.id); first
                  | ((apply aCall.gives (small_ok _ _ _)); simp -implicitDefEqProofs [n1, n1', n4, n4', hB2, hB4, w1, w1', w2, w2', w4, w4', h64', h64, n_id4_id2, n_id2_id4])
                  | ((apply aCall.gp (hbad _ _)); simp -implicitDefEqProofs [n1, n1', n4, n4', hB2, hB4, w1, w1', w2, w2', w4, w4', h64', h64, n_id4_id2, n_id2_id4]))
              | ((with_reducible apply AWp.ret); try simp -implicitDefEqProofs [n1, n1', n4, n4', hB2, hB4, w1, w1', w2, w2', w4, w4', h64', h64, n_id4_id2, n_id2_id4])
              | ((with_reducible apply AWp.skip); try simp -implicitDefEqProofs [n1, n1', n4, n4', hB2, hB4, w1, w1', w2, w2', w4, w4', h64', h64, n_id4_id2, n_id2_id4])
              | ((with_reducible apply AWp.exit); try simp -implicitDefEqProofs [n1, n1', n4, n4', hB2, hB4, w1, w1', w2, w2', w4, w4', h64', h64, n_id4_id2, n_id2_id4]))
            exact (no 2 hC a4).imp fun σ' h => ⟨AS.le_trans h.1 (le_new (by simp [AS.set, w1, h6]) (AS.le_refl _)), h.2⟩
          · rw [if_neg (by omega), if_neg h64] at hC
            have h64' : ((l.length : Int) < 64) = False := by simp; omega
            repeat (first
              | (with_reducible apply AWp.seq)
              | (with_reducible apply AWp.block)
              | ((with_reducible apply AWp.fork); simp -implicitDefEqProofs [n1, n1', n4, n4', hB2, hB4, w1, w1', w2, w2', w4, w4', h64', h64, n_id4_id2, n_id2_id4])
              | ((fail_if_success (with_reducible apply AWp.region (id := 9))); (with_reducible apply AWp.region); simp -implicitDefEqProofs [n1, n1', n4, n4', hB2, hB4, w1, w1', w2, w2', w4, w4', h64', h64, n_id4_id2, n_id2_id4])
              | (with_reducible refine And.intro (by first | omega | assumption | decide) ?_)
              | ((with_reducible show condK _ _ _); simp -implicitDefEqProofs [n1, n1', n4, n4', hB2, hB4, w1, w1', w2, w2', w4, w4', h64', h64, n_id4_id2, n_id2_id4])
              | ((with_reducible show guardK _ _ _ _ _ _ _ _ _); simp -implicitDefEqProofs [n1, n1', n4, n4', hB2, hB4, w1, w1', w2, w2', w4, w4', h64', h64, n_id4_id2, n_id2_id4])
              | ((with_reducible apply aCall.id); first
                  | ((apply aCall.gives (small_ok _ _ _)); simp -implicitDefEqProofs [n1, n1', n4, n4', hB2, hB4, w1, w1', w2, w2', w4, w4', h64', h64, n_id4_id2, n_id2_id4])
                  | ((apply aCall.gives (hneed _ _)); simp -implicitDefEqProofs [n1, n1', n4, n4', hB2, hB4, w1, w1', w2, w2', w4, w4', h64', h64, n_id4_id2, n_id2_id4]))
              | ((with_reducible apply AWp.ret); try simp -implicitDefEqProofs [n1, n1', n4, n4', hB2, hB4, w1, w1', w2, w2', w4, w4', h64', h64, n_id4_id2, n_id2_id4])
              | ((with_reducible apply AWp.skip); try simp -implicitDefEqProofs [n1, n1', n4, n4', hB2, hB4, w1, w1', w2, w2', w4, w4', h64', h64, n_id4_id2, n_id2_id4])
              | ((with_reducible apply AWp.exit); try simp -implicitDefEqProofs [n1, n1', n4, n4', hB2, hB4, w1, w1', w2, w2', w4, w4', h64', h64, n_id4_id2, n_id2_id4]))
            exact ⟨bdV (l, []), σ.set id (rdC b a4 nl), Wk_agg2 (by simp [eCode_ne hM2]) (by simp), hle6 _ _ _, (l, []), a4, hC, rfl, rfl⟩
    · repeat (first
        | (with_reducible apply AWp.seq)
        | (with_reducible apply AWp.block)
        | ((with_reducible apply AWp.fork); simp -implicitDefEqProofs [n1, n1', n4, n4', hB2, hB4, hb3, hr4, d2, n_id4_id2, n_id2_id4])
        | ((fail_if_success (with_reducible apply AWp.region (id := 9))); (with_reducible apply AWp.region); simp -implicitDefEqProofs [n1, n1', n4, n4', hB2, hB4, hb3, hr4, d2, n_id4_id2, n_id2_id4])
        | (with_reducible refine And.intro (by first | omega | assumption | decide) ?_)
        | ((with_reducible show condK _ _ _); simp -implicitDefEqProofs [n1, n1', n4, n4', hB2, hB4, hb3, hr4, d2, n_id4_id2, n_id2_id4])
        | ((with_reducible show guardK _ _ _ _ _ _ _ _ _); simp -implicitDefEqProofs [n1, n1', n4, n4', hB2, hB4, hb3, hr4, d2, n_id4_id2, n_id2_id4])
        | ((with_reducible apply aCall.id); first
            | ((apply aCall.gives (hm1)); simp -implicitDefEqProofs [n1, n1', n4, n4', hB2, hB4, hb3, hr4, d2, n_id4_id2, n_id2_id4])
            | ((apply aCall.gives (hneed _ _)); simp -implicitDefEqProofs [n1, n1', n4, n4', hB2, hB4, hb3, hr4, d2, n_id4_id2, n_id2_id4]))
        | ((with_reducible apply AWp.ret); try simp -implicitDefEqProofs [n1, n1', n4, n4', hB2, hB4, hb3, hr4, d2, n_id4_id2, n_id2_id4])
        | ((with_reducible apply AWp.skip); try simp -implicitDefEqProofs [n1, n1', n4, n4', hB2, hB4, hb3, hr4, d2, n_id4_id2, n_id2_id4])
        | ((with_reducible apply AWp.exit); try simp -implicitDefEqProofs [n1, n1', n4, n4', hB2, hB4, hb3, hr4, d2, n_id4_id2, n_id2_id4]))
      refine AWp.loopI (bdI b nl fr 11 id id2 id4 EP B) (k0 := 3) ⟨0, a1, rfl, by omega, l1.2, by omega, hP, rfl, rfl⟩ (FrWk.mk (by simp)) (AS.le_refl _) ?_
      rintro m f σ' ⟨i, a2, hm, hi, l2, l2', hX, rfl, rfl⟩
      by_cases hlt : i < 3
      · have hI : ((i : Int) < 3) = True := by simp; omega
        rw [show 3 - i = (2 - i) + 1 by omega] at hX
        simp only [ePad] at hX
        cases hM : eMust b a2 0 with
        | error e =>
          rw [hM] at hX
          have hm2 := bmust_badB id b a2 nl B l2 hl 0 e hM
          repeat (first
            | (with_reducible apply AWp.seq)
            | (with_reducible apply AWp.block)
            | ((with_reducible apply AWp.fork); simp -implicitDefEqProofs [hI, n1, n1', n4, n4', hB2, hB4, n_id4_id2, n_id2_id4])
            | ((fail_if_success (with_reducible apply AWp.region (id := 9))); (with_reducible apply AWp.region); simp -implicitDefEqProofs [hI, n1, n1', n4, n4', hB2, hB4, n_id4_id2, n_id2_id4])
            | (with_reducible refine And.intro (by first | omega | assumption | decide) ?_)
            | ((with_reducible show condK _ _ _); simp -implicitDefEqProofs [hI, n1, n1', n4, n4', hB2, hB4, n_id4_id2, n_id2_id4])
            | ((with_reducible show guardK _ _ _ _ _ _ _ _ _); simp -implicitDefEqProofs [hI, n1, n1', n4, n4', hB2, hB4, n_id4_id2, n_id2_id4])
            | ((with_reducible apply aCall.id); first
                | ((apply aCall.thr (hm2)); simp -implicitDefEqProofs [hI, n1, n1', n4, n4', hB2, hB4, n_id4_id2, n_id2_id4]))
            | ((with_reducible apply AWp.ret); try simp -implicitDefEqProofs [hI, n1, n1', n4, n4', hB2, hB4, n_id4_id2, n_id2_id4])
            | ((with_reducible apply AWp.skip); try simp -implicitDefEqProofs [hI, n1, n1', n4, n4', hB2, hB4, n_id4_id2, n_id2_id4])
            | ((with_reducible apply AWp.exit); try simp -implicitDefEqProofs [hI, n1, n1', n4, n4', hB2, hB4, n_id4_id2, n_id2_id4]))
          refine no e ?_
          rw [hC, ← hX]
        | ok a3 =>
          rw [hM] at hX
          simp only at hX
          have hm2 := bmust_okB id b a2 nl B hl 0 a3 hM
          repeat (first
            | (with_reducible apply AWp.seq)
            | (with_reducible apply AWp.block)
            | ((with_reducible apply AWp.fork); simp -implicitDefEqProofs [hI, n1, n1', n4, n4', hB2, hB4, n_id4_id2, n_id2_id4])
            | ((fail_if_success (with_reducible apply AWp.region (id := 9))); (with_reducible apply AWp.region); simp -implicitDefEqProofs [hI, n1, n1', n4, n4', hB2, hB4, n_id4_id2, n_id2_id4])
            | (with_reducible refine And.intro (by first | omega | assumption | decide) ?_)
            | ((with_reducible show condK _ _ _); simp -implicitDefEqProofs [hI, n1, n1', n4, n4', hB2, hB4, n_id4_id2, n_id2_id4])
            | ((with_reducible show guardK _ _ _ _ _ _ _ _ _); simp -implicitDefEqProofs [hI, n1, n1', n4, n4', hB2, hB4, n_id4_id2, n_id2_id4])
            | ((with_reducible apply aCall.id); first
                | ((apply aCall.gives (hm2)); simp -implicitDefEqProofs [hI, n1, n1', n4, n4', hB2, hB4, n_id4_id2, n_id2_id4]))
            | ((with_reducible apply AWp.ret); try simp -implicitDefEqProofs [hI, n1, n1', n4, n4', hB2, hB4, n_id4_id2, n_id2_id4])
            | ((with_reducible apply AWp.skip); try simp -implicitDefEqProofs [hI, n1, n1', n4, n4', hB2, hB4, n_id4_id2, n_id2_id4])
            | ((with_reducible apply AWp.exit); try simp -implicitDefEqProofs [hI, n1, n1', n4, n4', hB2, hB4, n_id4_id2, n_id2_id4]))
          clear hC
          refine ⟨m - 1, _, _, by omega, FrWk.mk ?_, AS.le_refl _, i + 1, a3, by omega, by omega, (eMust_len hM).2, by have := eMust_len hM; omega, by rw [← hX]; congr 1; omega, rfl, rfl⟩
          simp [wInc (show i < 4000000000000000000 by omega)]
      · have hI : ((i : Int) < 3) = False := by simp; omega
        obtain rfl : i = 3 := by omega
        simp only [Nat.sub_self, ePad] at hX
        rw [← hX] at hC
        simp only at hC
        repeat (first
          | (with_reducible apply AWp.seq)
          | (with_reducible apply AWp.block)
          | ((with_reducible apply AWp.fork); simp -implicitDefEqProofs [hI, n1, n1', n4, n4', hB2, hB4, n_id4_id2, n_id2_id4])
          | ((fail_if_success (with_reducible apply AWp.region (id := 9))); (with_reducible apply AWp.region); simp -implicitDefEqProofs [hI, n1, n1', n4, n4', hB2, hB4, n_id4_id2, n_id2_id4])
          | (with_reducible refine And.intro (by first | omega | assumption | decide) ?_)
          | ((with_reducible show condK _ _ _); simp -implicitDefEqProofs [hI, n1, n1', n4, n4', hB2, hB4, n_id4_id2, n_id2_id4])
          | ((with_reducible show guardK _ _ _ _ _ _ _ _ _); simp -implicitDefEqProofs [hI, n1, n1', n4, n4', hB2, hB4, n_id4_id2, n_id2_id4])
          | ((with_reducible apply AWp.ret); try simp -implicitDefEqProofs [hI, n1, n1', n4, n4', hB2, hB4, n_id4_id2, n_id2_id4])
          | ((with_reducible apply AWp.skip); try simp -implicitDefEqProofs [hI, n1, n1', n4, n4', hB2, hB4, n_id4_id2, n_id2_id4])
          | ((with_reducible apply AWp.exit); try simp -implicitDefEqProofs [hI, n1, n1', n4, n4', hB2, hB4, n_id4_id2, n_id2_id4]))
        refine AWp.meet (bdM b nl fr 11 a2 id id2 id4 B) ?_ ?_
        · cases hM : eNum b a2 4 with
          | error e =>
            rw [hM] at hC
            have no' := no e hC
            clear hC no hm1 hneed hbad
            (((with_reducible apply AWp.drawS (id := 9) (t := (Sch.alt 0 (Sch.alt 1 (Sch.alt 2 (Sch.alt 3 (Sch.step 4 (Sch.alt 5 (Sch.alt 6 Sch.done Sch.none) Sch.none)) (Sch.alt 5 (Sch.alt 3 (Sch.step 4 (Sch.alt 6 Sch.done Sch.none)) Sch.none) Sch.none)) (Sch.alt 5 (Sch.alt 2 (Sch.alt 3 (Sch.step 4 (Sch.alt 6 Sch.done Sch.none)) Sch.none) Sch.none) Sch.none)) (Sch.alt 5 (Sch.read 1 (Sch.alt 2 (Sch.alt 3 (Sch.step 4 (Sch.alt 6 Sch.done Sch.none)) Sch.none) Sch.none)) Sch.none)) (Sch.alt 1 (Sch.alt 0 (Sch.alt 2 (Sch.alt 3 (Sch.step 4 (Sch.alt 5 (Sch.alt 6 Sch.done Sch.none) Sch.none)) (Sch.alt 5 (Sch.alt 3 (Sch.step 4 (Sch.alt 6 Sch.done Sch.none)) Sch.none) Sch.none)) (Sch.alt 5 (Sch.alt 2 (Sch.alt 3 (Sch.step 4 (Sch.alt 6 Sch.done Sch.none)) Sch.none) Sch.none) Sch.none)) (Sch.alt 2 (Sch.alt 0 (Sch.alt 3 (Sch.step 4 (Sch.alt 5 (Sch.alt 6 Sch.done Sch.none) Sch.none)) (Sch.alt 5 (Sch.alt 3 (Sch.step 4 (Sch.alt 6 Sch.done Sch.none)) Sch.none) Sch.none)) (Sch.alt 5 (Sch.read 0 (Sch.alt 3 (Sch.step 4 (Sch.alt 6 Sch.done Sch.none)) Sch.none)) Sch.none)) (Sch.alt 5 (Sch.alt 0 (Sch.alt 2 (Sch.alt 3 (Sch.step 4 (Sch.alt 6 Sch.done Sch.none)) Sch.none) Sch.none) (Sch.alt 2 (Sch.read 0 (Sch.alt 3 (Sch.step 4 (Sch.alt 6 Sch.done Sch.none)) Sch.none)) Sch.none)) Sch.none))) (Sch.alt 5 (Sch.read 1 (Sch.alt 0 (Sch.alt 2 (Sch.alt 3 (Sch.step 4 (Sch.alt 6 Sch.done Sch.none)) Sch.none) Sch.none) (Sch.alt 2 (Sch.read 0 (Sch.alt 3 (Sch.step 4 (Sch.alt 6 Sch.done Sch.none)) Sch.none)) Sch.none))) Sch.none))))); (exact mixed); kernel_rfl; kernel_rfl; (repeat (with_reducible first | apply PanQ.then | apply PanQ.block | apply PanQ.body | apply PanQ.no))); simp -implicitDefEqProofs [n1, n1', n4, n4', hB2, hB4, n_id4_id2, n_id2_id4])
            all_goals
              repeat' (first
                | (with_reducible apply And.intro)
                | (intro id6 u6 v6; have w6 : ¬ id2 = id6 := (by rintro rfl; rw [hB2] at v6; cases v6); have w6' : ¬ id6 = id2 := (fun e => w6 e.symm); have u6' : ¬ id = id6 := (fun e => u6 e.symm); try simp -implicitDefEqProofs [n1, n1', n4, n4', hB2, hB4, w6, w6', u6, u6'])
                | (simp -implicitDefEqProofs [show ¬ id2 = id6 by assumption, show ¬ id6 = id by assumption, n1, n1', n4, n4', hB2, hB4])
                | (refine aCall.thr (bnum_bad id b a2 4 nl _ (by simp [AS.set, *]) l2 hl (by decide) e hM) ?_; simp -implicitDefEqProofs [n1, n1', n4, n4', hB2, hB4]))
            all_goals
              intro x
              exact (no' x).imp fun σ' h => ⟨AS.le_trans h.1 (by first | exact AS.le_refl _ | exact le_mid (by assumption) | exact le_new (by simp [AS.set, *]) (AS.le_refl _)), h.2⟩
          | ok y =>
            obtain ⟨n, a3⟩ := y
            rw [hM] at hC
            simp only at hC
            have l3 := eNum_len hM
            cases hM2 : eCode b a3 n with
            | error e =>
              rw [hM2] at hC
              have no' := no e hC
              clear hC no hm1 hneed hbad
              (((with_reducible apply AWp.drawS (id := 9) (t := (Sch.alt 0 (Sch.alt 1 (Sch.alt 2 (Sch.alt 3 (Sch.step 4 (Sch.alt 5 (Sch.alt 6 Sch.done Sch.none) Sch.none)) (Sch.alt 5 (Sch.alt 3 (Sch.step 4 (Sch.alt 6 Sch.done Sch.none)) Sch.none) Sch.none)) (Sch.alt 5 (Sch.alt 2 (Sch.alt 3 (Sch.step 4 (Sch.alt 6 Sch.done Sch.none)) Sch.none) Sch.none) Sch.none)) (Sch.alt 5 (Sch.read 1 (Sch.alt 2 (Sch.alt 3 (Sch.step 4 (Sch.alt 6 Sch.done Sch.none)) Sch.none) Sch.none)) Sch.none)) (Sch.alt 1 (Sch.alt 0 (Sch.alt 2 (Sch.alt 3 (Sch.step 4 (Sch.alt 5 (Sch.alt 6 Sch.done Sch.none) Sch.none)) (Sch.alt 5 (Sch.alt 3 (Sch.step 4 (Sch.alt 6 Sch.done Sch.none)) Sch.none) Sch.none)) (Sch.alt 5 (Sch.alt 2 (Sch.alt 3 (Sch.step 4 (Sch.alt 6 Sch.done Sch.none)) Sch.none) Sch.none) Sch.none)) (Sch.alt 2 (Sch.alt 0 (Sch.alt 3 (Sch.step 4 (Sch.alt 5 (Sch.alt 6 Sch.done Sch.none) Sch.none)) (Sch.alt 5 (Sch.alt 3 (Sch.step 4 (Sch.alt 6 Sch.done Sch.none)) Sch.none) Sch.none)) (Sch.alt 5 (Sch.read 0 (Sch.alt 3 (Sch.step 4 (Sch.alt 6 Sch.done Sch.none)) Sch.none)) Sch.none)) (Sch.alt 5 (Sch.alt 0 (Sch.alt 2 (Sch.alt 3 (Sch.step 4 (Sch.alt 6 Sch.done Sch.none)) Sch.none) Sch.none) (Sch.alt 2 (Sch.read 0 (Sch.alt 3 (Sch.step 4 (Sch.alt 6 Sch.done Sch.none)) Sch.none)) Sch.none)) Sch.none))) (Sch.alt 5 (Sch.read 1 (Sch.alt 0 (Sch.alt 2 (Sch.alt 3 (Sch.step 4 (Sch.alt 6 Sch.done Sch.none)) Sch.none) Sch.none) (Sch.alt 2 (Sch.read 0 (Sch.alt 3 (Sch.step 4 (Sch.alt 6 Sch.done Sch.none)) Sch.none)) Sch.none))) Sch.none))))); (exact mixed); kernel_rfl; kernel_rfl; (repeat (with_reducible first | apply PanQ.then | apply PanQ.block | apply PanQ.body | apply PanQ.no))); simp -implicitDefEqProofs [n1, n1', n4, n4', hB2, hB4, n_id4_id2, n_id2_id4])
              all_goals
                repeat' (first
                  | (with_reducible apply And.intro)
                  | (intro id6 u6 v6; have w6 : ¬ id2 = id6 := (by rintro rfl; rw [hB2] at v6; cases v6); have w6' : ¬ id6 = id2 := (fun e => w6 e.symm); have u6' : ¬ id = id6 := (fun e => u6 e.symm); try simp -implicitDefEqProofs [n1, n1', n4, n4', hB2, hB4, w6, w6', u6, u6'])
                  | (simp -implicitDefEqProofs [show ¬ id2 = id6 by assumption, show ¬ id6 = id by assumption, n1, n1', n4, n4', hB2, hB4])
                  | (refine aCall.gives (bnum_ok id b a2 4 nl _ (by simp [AS.set, *]) hl (by decide) (by omega) n a3 hM) ?_; simp -implicitDefEqProofs [n1, n1', n4, n4', hB2, hB4])
                  | (refine aCall.thr (bcode_bad id b a3 nl _ (by simp [AS.set, *]) l3.2 hl n e hM2) ?_; simp -implicitDefEqProofs [n1, n1', n4, n4', hB2, hB4]))
              all_goals
                intro x
                exact (no' x).imp fun σ' h => ⟨AS.le_trans h.1 (by first | exact AS.le_refl _ | exact le_mid (by assumption) | exact le_new (by simp [AS.set, *]) (AS.le_refl _)), h.2⟩
            | ok y =>
              obtain ⟨l, a4⟩ := y
              clear hC no hm1 hneed hbad
              (((with_reducible apply AWp.drawS (id := 9) (t := (Sch.alt 0 (Sch.alt 1 (Sch.alt 2 (Sch.alt 3 (Sch.step 4 (Sch.alt 5 (Sch.alt 6 Sch.done Sch.none) Sch.none)) (Sch.alt 5 (Sch.alt 3 (Sch.step 4 (Sch.alt 6 Sch.done Sch.none)) Sch.none) Sch.none)) (Sch.alt 5 (Sch.alt 2 (Sch.alt 3 (Sch.step 4 (Sch.alt 6 Sch.done Sch.none)) Sch.none) Sch.none) Sch.none)) (Sch.alt 5 (Sch.read 1 (Sch.alt 2 (Sch.alt 3 (Sch.step 4 (Sch.alt 6 Sch.done Sch.none)) Sch.none) Sch.none)) Sch.none)) (Sch.alt 1 (Sch.alt 0 (Sch.alt 2 (Sch.alt 3 (Sch.step 4 (Sch.alt 5 (Sch.alt 6 Sch.done Sch.none) Sch.none)) (Sch.alt 5 (Sch.alt 3 (Sch.step 4 (Sch.alt 6 Sch.done Sch.none)) Sch.none) Sch.none)) (Sch.alt 5 (Sch.alt 2 (Sch.alt 3 (Sch.step 4 (Sch.alt 6 Sch.done Sch.none)) Sch.none) Sch.none) Sch.none)) (Sch.alt 2 (Sch.alt 0 (Sch.alt 3 (Sch.step 4 (Sch.alt 5 (Sch.alt 6 Sch.done Sch.none) Sch.none)) (Sch.alt 5 (Sch.alt 3 (Sch.step 4 (Sch.alt 6 Sch.done Sch.none)) Sch.none) Sch.none)) (Sch.alt 5 (Sch.read 0 (Sch.alt 3 (Sch.step 4 (Sch.alt 6 Sch.done Sch.none)) Sch.none)) Sch.none)) (Sch.alt 5 (Sch.alt 0 (Sch.alt 2 (Sch.alt 3 (Sch.step 4 (Sch.alt 6 Sch.done Sch.none)) Sch.none) Sch.none) (Sch.alt 2 (Sch.read 0 (Sch.alt 3 (Sch.step 4 (Sch.alt 6 Sch.done Sch.none)) Sch.none)) Sch.none)) Sch.none))) (Sch.alt 5 (Sch.read 1 (Sch.alt 0 (Sch.alt 2 (Sch.alt 3 (Sch.step 4 (Sch.alt 6 Sch.done Sch.none)) Sch.none) Sch.none) (Sch.alt 2 (Sch.read 0 (Sch.alt 3 (Sch.step 4 (Sch.alt 6 Sch.done Sch.none)) Sch.none)) Sch.none))) Sch.none))))); (exact mixed); kernel_rfl; kernel_rfl; (repeat (with_reducible first | apply PanQ.then | apply PanQ.block | apply PanQ.body | apply PanQ.no))); simp -implicitDefEqProofs [n1, n1', n4, n4', hB2, hB4, n_id4_id2, n_id2_id4])
              all_goals
                repeat' (first
                  | (with_reducible apply And.intro)
                  | (intro id6 u6 v6; have w6 : ¬ id2 = id6 := (by rintro rfl; rw [hB2] at v6; cases v6); have w6' : ¬ id6 = id2 := (fun e => w6 e.symm); have u6' : ¬ id = id6 := (fun e => u6 e.symm); try simp -implicitDefEqProofs [n1, n1', n4, n4', hB2, hB4, w6, w6', u6, u6'])
                  | (simp -implicitDefEqProofs [show ¬ id2 = id6 by assumption, show ¬ id6 = id by assumption, n1, n1', n4, n4', hB2, hB4])
                  | (refine aCall.gives (bnum_ok id b a2 4 nl _ (by simp [AS.set, *]) hl (by decide) (by omega) n a3 hM) ?_; simp -implicitDefEqProofs [n1, n1', n4, n4', hB2, hB4])
                  | (refine aCall.gives (bcode_ok id b a3 nl _ hnl (by simp [AS.set, *]) hl n l a4 hM2) ?_; simp -implicitDefEqProofs [n1, n1', n4, n4', hB2, hB4]))
              all_goals
                refine ⟨_, _, FrWk.mk (by simp), ?_, n, a3, l, a4, id6, hM, hM2, by assumption, rfl, rfl⟩
                first | exact AS.le_refl _ | skip
        · rintro s1 σ1 ⟨n, a3, l, a4, id6, hM, hM2, h6, rfl, rfl⟩
          rw [hM] at hC
          simp only at hC
          rw [hM2] at hC
          simp only at hC
          have l4 : a4 ≤ b.length := (eCode_len hM2).2
          have w1 : ¬ id6 = id := by rintro rfl; exact hBi h6
          have w1' : ¬ id = id6 := fun e => w1 e.symm
          have w2 : ¬ id6 = id2 := by rintro rfl; rw [hB2] at h6; cases h6
          have w2' : ¬ id2 = id6 := fun e => w2 e.symm
          have w4 : ¬ id6 = id4 := by rintro rfl; rw [hB4] at h6; cases h6
          have w4' : ¬ id4 = id6 := fun e => w4 e.symm
          have hle6 : ∀ (x : Int) (y z : ABlk), AS.le (σ.set id (rdC b x nl)) (((B.set id (rdC b x nl)).set id6 y).set id4 z) := by
            intro x y z j q hj
            have h1 := hle4 x z j q hj
            by_cases e : j = id6
            · subst e; simp [AS.set, w1, w4, h6] at h1
            · by_cases e4 : j = id4
              · subst e4; simpa [AS.set] using h1
              · simpa [AS.set, e, e4] using h1
          rw [if_pos trivial] at hC
          have hcl := bclauses_ok id b fr a4 nl ((B.set id (rdC b a4 nl)).set id6 (.cells 48 [.lst 5 (l.map u8) .unk false, .nilS])) (by simp [w1']) l4 (by have := eNum_len hM; have := eCode_len hM2; omega) hl
          cases hE : eClauses b fr a4 with
          | error e =>
            rw [hE] at hC
            have hcl' := RD.bad hcl hE
            repeat (first
              | (with_reducible apply AWp.seq)
              | (with_reducible apply AWp.block)
              | ((with_reducible apply AWp.fork); simp -implicitDefEqProofs [n1, n1', n4, n4', hB2, hB4, w1, w1', w2, w2', w4, w4', n_id4_id2, n_id2_id4])
              | ((fail_if_success (with_reducible apply AWp.region (id := 9))); (with_reducible apply AWp.region); simp -implicitDefEqProofs [n1, n1', n4, n4', hB2, hB4, w1, w1', w2, w2', w4, w4', n_id4_id2, n_id2_id4])
              | (with_reducible refine And.intro (by first | omega | assumption | decide) ?_)
              | ((with_reducible show condK _ _ _); simp -implicitDefEqProofs [n1, n1', n4, n4', hB2, hB4, w1, w1', w2, w2', w4, w4', n_id4_id2, n_id2_id4])
              | ((with_reducible show guardK _ _ _ _ _ _ _ _ _); simp -implicitDefEqProofs [n1, n1', n4, n4', hB2, hB4, w1, w1', w2, w2', w4, w4', n_id4_id2, n_id2_id4])
              | ((with_reducible apply aCall.id); first
                  | ((apply aCall.gives (hneed _ _)); simp -implicitDefEqProofs [n1, n1', n4, n4', hB2, hB4, w1, w1', w2, w2', w4, w4', n_id4_id2, n_id2_id4])
                  | ((apply aCall.thr (hcl')); simp -implicitDefEqProofs [n1, n1', n4, n4', hB2, hB4, w1, w1', w2, w2', w4, w4', n_id4_id2, n_id2_id4]))
              | ((with_reducible apply AWp.ret); try simp -implicitDefEqProofs [n1, n1', n4, n4', hB2, hB4, w1, w1', w2, w2', w4, w4', n_id4_id2, n_id2_id4])
              | ((with_reducible apply AWp.skip); try simp -implicitDefEqProofs [n1, n1', n4, n4', hB2, hB4, w1, w1', w2, w2', w4, w4', n_id4_id2, n_id2_id4])
              | ((with_reducible apply AWp.exit); try simp -implicitDefEqProofs [n1, n1', n4, n4', hB2, hB4, w1, w1', w2, w2', w4, w4', n_id4_id2, n_id2_id4]))
            intro x
            exact (no e hC x).imp fun σ' h => ⟨AS.le_trans h.1 (by first | exact le_mid h6 | exact le_new (by simp [AS.set, w1, h6]) (AS.le_refl _)), h.2⟩
          | ok y =>
            obtain ⟨rs, a5⟩ := y
            rw [hE] at hC
            simp only at hC
            have hcl' := RD.ok hcl hE
            repeat (first
              | (with_reducible apply AWp.seq)
              | (with_reducible apply AWp.block)
              | ((with_reducible apply AWp.fork); simp -implicitDefEqProofs [n1, n1', n4, n4', hB2, hB4, w1, w1', w2, w2', w4, w4', n_id4_id2, n_id2_id4])
              | ((fail_if_success (with_reducible apply AWp.region (id := 9))); (with_reducible apply AWp.region); simp -implicitDefEqProofs [n1, n1', n4, n4', hB2, hB4, w1, w1', w2, w2', w4, w4', n_id4_id2, n_id2_id4])
              | (with_reducible refine And.intro (by first | omega | assumption | decide) ?_)
              | ((with_reducible show condK _ _ _); simp -implicitDefEqProofs [n1, n1', n4, n4', hB2, hB4, w1, w1', w2, w2', w4, w4', n_id4_id2, n_id2_id4])
              | ((with_reducible show guardK _ _ _ _ _ _ _ _ _); simp -implicitDefEqProofs [n1, n1', n4, n4', hB2, hB4, w1, w1', w2, w2', w4, w4', n_id4_id2, n_id2_id4])
              | ((with_reducible apply aCall.id); first
                  | ((apply aCall.gives (hneed _ _)); simp -implicitDefEqProofs [n1, n1', n4, n4', hB2, hB4, w1, w1', w2, w2', w4, w4', n_id4_id2, n_id2_id4])
                  | ((apply aCall.gives (hcl')); simp -implicitDefEqProofs [n1, n1', n4, n4', hB2, hB4, w1, w1', w2, w2', w4, w4', n_id4_id2, n_id2_id4]))
              | ((with_reducible apply AWp.ret); try simp -implicitDefEqProofs [n1, n1', n4, n4', hB2, hB4, w1, w1', w2, w2', w4, w4', n_id4_id2, n_id2_id4])
              | ((with_reducible apply AWp.skip); try simp -implicitDefEqProofs [n1, n1', n4, n4', hB2, hB4, w1, w1', w2, w2', w4, w4', n_id4_id2, n_id2_id4])
              | ((with_reducible apply AWp.exit); try simp -implicitDefEqProofs [n1, n1', n4, n4', hB2, hB4, w1, w1', w2, w2', w4, w4', n_id4_id2, n_id2_id4]))
            have hne := eClauses_ne hE
            refine ⟨bdV (l, rs), σ.set id (rdC b a5 nl), Wk_agg2 (by simp [eCode_ne hM2]) (by simp [hne.1]), ?_, (l, rs), a5, hC, rfl, rfl⟩
            exact hle6 _ _ _
  · rw [if_pos (by simpa using h3)] at hC
    have hr4 : ((fr : Int).tmod 4) = ((fr % 4 : Nat) : Int) := by rw [Int.tmod_eq_emod_of_nonneg (by omega)]; omega
    by_cases d1 : c = 3
    · have d2 : ((fr : Int) % 4 = 0) = False := by simp; omega
      subst d1
      repeat (first
        | (with_reducible apply AWp.seq)
        | (with_reducible apply AWp.block)
        | ((with_reducible apply AWp.fork); simp -implicitDefEqProofs [n1, n1', n4, n4', hB2, hB4, hb3, hr4, d2, n_id4_id2, n_id2_id4])
        | ((fail_if_success (with_reducible apply AWp.region (id := 9))); (with_reducible apply AWp.region); simp -implicitDefEqProofs [n1, n1', n4, n4', hB2, hB4, hb3, hr4, d2, n_id4_id2, n_id2_id4])
        | (with_reducible refine And.intro (by first | omega | assumption | decide) ?_)
        | ((with_reducible show condK _ _ _); simp -implicitDefEqProofs [n1, n1', n4, n4', hB2, hB4, hb3, hr4, d2, n_id4_id2, n_id2_id4])
        | ((with_reducible show guardK _ _ _ _ _ _ _ _ _); simp -implicitDefEqProofs [n1, n1', n4, n4', hB2, hB4, hb3, hr4, d2, n_id4_id2, n_id2_id4])
        | ((with_reducible apply aCall.id); first
            | ((apply aCall.gives (hm1)); simp -implicitDefEqProofs [n1, n1', n4, n4', hB2, hB4, hb3, hr4, d2, n_id4_id2, n_id2_id4])
            | ((apply aCall.gp (hbad _ _)); simp -implicitDefEqProofs [n1, n1', n4, n4', hB2, hB4, hb3, hr4, d2, n_id4_id2, n_id2_id4]))
        | ((with_reducible apply AWp.ret); try simp -implicitDefEqProofs [n1, n1', n4, n4', hB2, hB4, hb3, hr4, d2, n_id4_id2, n_id2_id4])
        | ((with_reducible apply AWp.skip); try simp -implicitDefEqProofs [n1, n1', n4, n4', hB2, hB4, hb3, hr4, d2, n_id4_id2, n_id2_id4])
        | ((with_reducible apply AWp.exit); try simp -implicitDefEqProofs [n1, n1', n4, n4', hB2, hB4, hb3, hr4, d2, n_id4_id2, n_id2_id4]))
      exact no 2 hC _
    · by_cases d3 : c = 11
      · have d2 : ((fr : Int) % 4 = 0) = False := by simp; omega
        subst d3
        repeat (first
          | (with_reducible apply AWp.seq)
          | (with_reducible apply AWp.block)
          | ((with_reducible apply AWp.fork); simp -implicitDefEqProofs [n1, n1', n4, n4', hB2, hB4, hb3, hr4, d2, n_id4_id2, n_id2_id4])
          | ((fail_if_success (with_reducible apply AWp.region (id := 9))); (with_reducible apply AWp.region); simp -implicitDefEqProofs [n1, n1', n4, n4', hB2, hB4, hb3, hr4, d2, n_id4_id2, n_id2_id4])
          | (with_reducible refine And.intro (by first | omega | assumption | decide) ?_)
          | ((with_reducible show condK _ _ _); simp -implicitDefEqProofs [n1, n1', n4, n4', hB2, hB4, hb3, hr4, d2, n_id4_id2, n_id2_id4])
          | ((with_reducible show guardK _ _ _ _ _ _ _ _ _); simp -implicitDefEqProofs [n1, n1', n4, n4', hB2, hB4, hb3, hr4, d2, n_id4_id2, n_id2_id4])
          | ((with_reducible apply aCall.id); first
              | ((apply aCall.gives (hm1)); simp -implicitDefEqProofs [n1, n1', n4, n4', hB2, hB4, hb3, hr4, d2, n_id4_id2, n_id2_id4])
              | ((apply aCall.gp (hbad _ _)); simp -implicitDefEqProofs [n1, n1', n4, n4', hB2, hB4, hb3, hr4, d2, n_id4_id2, n_id2_id4]))
          | ((with_reducible apply AWp.ret); try simp -implicitDefEqProofs [n1, n1', n4, n4', hB2, hB4, hb3, hr4, d2, n_id4_id2, n_id2_id4])
          | ((with_reducible apply AWp.skip); try simp -implicitDefEqProofs [n1, n1', n4, n4', hB2, hB4, hb3, hr4, d2, n_id4_id2, n_id2_id4])
          | ((with_reducible apply AWp.exit); try simp -implicitDefEqProofs [n1, n1', n4, n4', hB2, hB4, hb3, hr4, d2, n_id4_id2, n_id2_id4]))
        exact no 2 hC _
      · repeat (first
          | (with_reducible apply AWp.seq)
          | (with_reducible apply AWp.block)
          | ((with_reducible apply AWp.fork); simp -implicitDefEqProofs [n1, n1', n4, n4', hB2, hB4, hb3, h2, d1, d3, n_id4_id2, n_id2_id4])
          | ((fail_if_success (with_reducible apply AWp.region (id := 9))); (with_reducible apply AWp.region); simp -implicitDefEqProofs [n1, n1', n4, n4', hB2, hB4, hb3, h2, d1, d3, n_id4_id2, n_id2_id4])
          | (with_reducible refine And.intro (by first | omega | assumption | decide) ?_)
          | ((with_reducible show condK _ _ _); simp -implicitDefEqProofs [n1, n1', n4, n4', hB2, hB4, hb3, h2, d1, d3, n_id4_id2, n_id2_id4])
          | ((with_reducible show guardK _ _ _ _ _ _ _ _ _); simp -implicitDefEqProofs [n1, n1', n4, n4', hB2, hB4, hb3, h2, d1, d3, n_id4_id2, n_id2_id4])
          | ((with_reducible apply aCall.id); first
              | ((apply aCall.gives (hm1)); simp -implicitDefEqProofs [n1, n1', n4, n4', hB2, hB4, hb3, h2, d1, d3, n_id4_id2, n_id2_id4])
              | ((apply aCall.gp (hbad _ _)); simp -implicitDefEqProofs [n1, n1', n4, n4', hB2, hB4, hb3, h2, d1, d3, n_id4_id2, n_id2_id4]))
          | ((with_reducible apply AWp.ret); try simp -implicitDefEqProofs [n1, n1', n4, n4', hB2, hB4, hb3, h2, d1, d3, n_id4_id2, n_id2_id4])
          | ((with_reducible apply AWp.skip); try simp -implicitDefEqProofs [n1, n1', n4, n4', hB2, hB4, hb3, h2, d1, d3, n_id4_id2, n_id2_id4])
          | ((with_reducible apply AWp.exit); try simp -implicitDefEqProofs [n1, n1', n4, n4', hB2, hB4, hb3, h2, d1, d3, n_id4_id2, n_id2_id4]))
        exact no 2 hC _

end Go.Proofs.Ytnkjbgcbchbonaa
