/- Package body: clauses are read. -/
import Derived.Test.YtnkjbgcbchbonaaBody7
set_option linter.unusedSimpArgs false
set_option linter.unusedVariables false
set_option maxRecDepth 100000
set_option maxHeartbeats 3200000
namespace Go.Proofs.Ytnkjbgcbchbonaa
open Go Go.AW

/-- What a reader comes to, or what it gives up with. -/
def RD {α : Type} (x : Except Int (α × Nat)) (f : α → AV) (b : List UInt8) (nl : Bool) (id : Nat) (σ : AS) (r : AV) (σ' : AS) : Prop := ∃ v a, x = .ok (v, a) ∧ r = f v ∧ σ' = σ.set id (rdC b (a : Nat) nl)
def TD {α : Type} (x : Except Int α) (b : List UInt8) (nl : Bool) (id : Nat) (σ : AS) (p : AV) (σ' : AS) : Prop := ∃ e, x = .error e ∧ Thr b nl id e σ p σ'
theorem RD.ok {α : Type} {f : FuncId} {args : List AV} {x : Except Int (α × Nat)} {g : α → AV} {b : List UInt8} {nl : Bool} {id : Nat} {σ : AS} {v : α} {a : Nat} (h : ACalls Try.prog f args σ (RD x g b nl id σ) (TD x b nl id σ)) (hx : x = .ok (v, a)) :
    ACalls Try.prog f args σ (Gives (g v) (σ.set id (rdC b a nl))) No :=
  h.mono (fun r σ' hr => by obtain ⟨v', a', h1, rfl, rfl⟩ := hr; rw [hx] at h1; cases h1; exact ⟨rfl, rfl⟩) (fun p σ' hp => by obtain ⟨e, h1, _⟩ := hp; rw [hx] at h1; cases h1)
theorem RD.bad {α : Type} {f : FuncId} {args : List AV} {x : Except Int (α × Nat)} {g : α → AV} {b : List UInt8} {nl : Bool} {id : Nat} {σ : AS} {e : Int} (h : ACalls Try.prog f args σ (RD x g b nl id σ) (TD x b nl id σ)) (hx : x = .error e) :
    ACalls Try.prog f args σ No (Thr b nl id e σ) :=
  h.mono (fun r σ' hr => by obtain ⟨v', a', h1, _, _⟩ := hr; rw [hx] at h1; cases h1) (fun p σ' hp => by obtain ⟨e, h1, h2⟩ := hp; rw [hx] at h1; cases h1; exact h2)

def ePad (b : List UInt8) : Nat → Nat → Except Int Nat
  | 0, a => .ok a
  | k + 1, a => match eMust b a 0 with
    | .error e => .error e
    | .ok a' => ePad b k a'
def eNums (b : List UInt8) : Nat → Nat → Except Int (List Int × Nat)
  | 0, a => .ok ([], a)
  | k + 1, a => match eNum b a 2 with
    | .error e => .error e
    | .ok (v, a') => match eNums b k a' with
      | .error e => .error e
      | .ok (l, a2) => .ok (v :: l, a2)
def r6 (l : List Int) : R6 := ⟨l.getD 0 0, l.getD 1 0, l.getD 2 0, l.getD 3 0, l.getD 4 0, l.getD 5 0⟩
def eRaws (b : List UInt8) : Nat → Nat → Except Int (List R6 × Nat)
  | 0, a => .ok ([], a)
  | k + 1, a => match eNums b 6 a with
    | .error e => .error e
    | .ok (l, a') => match eRaws b k a' with
      | .error e => .error e
      | .ok (rs, a2) => .ok (r6 l :: rs, a2)
def eClauses (b : List UInt8) (fr a : Nat) : Except Int (List R6 × Nat) :=
  match ePad b ((4 - (a - fr) % 4) % 4) a with
  | .error e => .error e
  | .ok a1 => match eMust b a1 1 with
    | .error e => .error e
    | .ok a2 => match eNum b a2 1 with
      | .error e => .error e
      | .ok (n, a3) => if n < 1 ∨ 6 < n then .error 2 else match eMust b a3 0 with
        | .error e => .error e
        | .ok a4 => match eMust b a4 0 with
          | .error e => .error e
          | .ok a5 => eRaws b n.toNat a5
/-- What comes behind what is there. -/
def pre {α : Type} (d : List α) : Except Int (List α × Nat) → Except Int (List α × Nat)
  | .error e => .error e
  | .ok (l, a) => .ok (d ++ l, a)
theorem pre_nums (b : List UInt8) (d : List Int) (k a : Nat) : pre d (eNums b (k + 1) a) = match eNum b a 2 with | .error e => .error e | .ok (v, a') => pre (d ++ [v]) (eNums b k a') := by
  simp only [eNums]
  cases eNum b a 2 with
  | error e => rfl
  | ok x =>
    obtain ⟨v, a'⟩ := x
    simp only
    cases eNums b k a' with
    | error e => rfl
    | ok y => obtain ⟨l, a2⟩ := y; simp [pre]
theorem pre_raws (b : List UInt8) (d : List R6) (k a : Nat) : pre d (eRaws b (k + 1) a) = match eNums b 6 a with | .error e => .error e | .ok (l, a') => pre (d ++ [r6 l]) (eRaws b k a') := by
  simp only [eRaws]
  cases eNums b 6 a with
  | error e => rfl
  | ok x =>
    obtain ⟨v, a'⟩ := x
    simp only
    cases eRaws b k a' with
    | error e => rfl
    | ok y => obtain ⟨l, a2⟩ := y; simp [pre]
theorem eNum_len {b : List UInt8} {a n : Nat} {v : Int} {a' : Nat} (h : eNum b a n = .ok (v, a')) : a ≤ a' ∧ a' ≤ b.length := by
  obtain ⟨h1, _, rfl⟩ := eNum_ok h; omega
theorem eMust_len {b : List UInt8} {a : Nat} {c : Int} {a' : Nat} (h : eMust b a c = .ok a') : a' = a + 1 ∧ a' ≤ b.length := by
  obtain ⟨h1, _, rfl⟩ := eNum_ok (eMust_ok h); omega

theorem clause_ok (l : List Int) (hl : l.length = 6) (σ : AS) : ACalls Try.prog 79 [.agg (l.map i64v)] σ (Gives (rawV (r6 l)) σ) No := by
  match l, hl with
  | [a, b, c, d, e, f], _ =>
    refine ACalls.of_body Try.func79 rfl rfl (by simp [Try.ntmps79]) ?_
    simp [i64v_def, r6, rawV]
    repeat (first
      | (with_reducible apply AWp.seq)
      | (with_reducible apply AWp.block)
      | ((with_reducible apply AWp.fork); simp -implicitDefEqProofs)
      | ((with_reducible apply AWp.region); simp -implicitDefEqProofs)
      | (with_reducible refine And.intro (by first | omega | assumption | decide) ?_)
      | ((with_reducible apply AWp.ret); try simp -implicitDefEqProofs)
      | ((with_reducible apply AWp.skip); try simp -implicitDefEqProofs)
      | ((with_reducible apply AWp.exit); try simp -implicitDefEqProofs))
    intro id h_id
    repeat (first
      | (with_reducible apply AWp.seq)
      | (with_reducible apply AWp.block)
      | ((with_reducible apply AWp.fork); simp -implicitDefEqProofs)
      | ((with_reducible apply AWp.region); simp -implicitDefEqProofs)
      | (with_reducible refine And.intro (by first | omega | assumption | decide) ?_)
      | ((with_reducible apply AWp.ret); try simp -implicitDefEqProofs)
      | ((with_reducible apply AWp.skip); try simp -implicitDefEqProofs)
      | ((with_reducible apply AWp.exit); try simp -implicitDefEqProofs))
    intro id2 n_id2_id h_id2
    have n_id_id2 : ¬ id = id2 := fun e => n_id2_id e.symm
    repeat (first
      | (with_reducible apply AWp.seq)
      | (with_reducible apply AWp.block)
      | ((with_reducible apply AWp.fork); simp -implicitDefEqProofs [n_id2_id, n_id_id2])
      | ((with_reducible apply AWp.region); simp -implicitDefEqProofs [n_id2_id, n_id_id2])
      | (with_reducible refine And.intro (by first | omega | assumption | decide) ?_)
      | ((with_reducible show condK _ _ _); simp -implicitDefEqProofs [n_id2_id, n_id_id2])
      | ((with_reducible show guardK _ _ _ _ _ _ _ _ _); simp -implicitDefEqProofs [n_id2_id, n_id_id2])
      | ((with_reducible apply AWp.ret); try simp -implicitDefEqProofs [n_id2_id, n_id_id2])
      | ((with_reducible apply AWp.skip); try simp -implicitDefEqProofs [n_id2_id, n_id_id2])
      | ((with_reducible apply AWp.exit); try simp -implicitDefEqProofs [n_id2_id, n_id_id2]))
    all_goals (repeat (first | exact AS.le_refl _ | refine le_new (by simp [h_id, h_id2, n_id_id2, n_id2_id]) ?_))

/-- Where the bytes up to a multiple of four are skipped. -/
def clP (b : List UInt8) (nl : Bool) (fr : Nat) (id id2 : Nat) (X : Except Int Nat) (B : AS) (m : Nat) (f : Fr) (σ' : AS) : Prop :=
  ∃ a : Nat, m = (4 - (a - fr) % 4) % 4 ∧ fr ≤ a ∧ a ≤ b.length ∧ ePad b m a = X ∧ σ' = B.set id (rdC b a nl) ∧
    f = mkF [(1, .sc (.int .i64 fr)), (2, .ptr id2 0)]
/-- Clause by clause. -/
def clO (b : List UInt8) (nl : Bool) (n : Nat) (id id2 : Nat) (X : Except Int (List R6 × Nat)) (B : AS) (m : Nat) (f : Fr) (σ' : AS) : Prop :=
  ∃ (i a : Nat) (d : List R6) (v : AV) (D : AS), m = n - i ∧ i ≤ n ∧ a ≤ b.length ∧ d.length = i ∧ pre d (eRaws b (n - i) a) = X ∧
    ((i = 0 ∧ v = .nilS ∧ D = B) ∨ (∃ tk, 0 < i ∧ B tk = none ∧ v = .lst 91 (d.map rawV) (.tok tk) false ∧ D = B.set tk (.tok i))) ∧ σ' = D.set id (rdC b a nl) ∧
    f = mkF [(2, .ptr id2 0), (6, v), (33, .sc (.int .i64 n)), (34, .sc (.int .i64 i))]
/-- Number by number. -/
def clI (b : List UInt8) (nl : Bool) (n i : Nat) (id id2 id3 : Nat) (v : AV) (X : Except Int (List Int × Nat)) (D : AS) (m : Nat) (f : Fr) (σ' : AS) : Prop :=
  ∃ (k a : Nat) (d : List Int), m = 6 - k ∧ k ≤ 6 ∧ a ≤ b.length ∧ d.length = k ∧ pre d (eNums b (6 - k) a) = X ∧
    σ' = (D.set id3 (.cells 92 (d.map i64v ++ List.replicate (6 - k) (i64v 0)))).set id (rdC b a nl) ∧
    f = mkF [(2, .ptr id2 0), (6, v), (7, .ptr id3 0), (33, .sc (.int .i64 n)), (34, .sc (.int .i64 i)), (36, .sc (.int .i64 k))]

theorem le_fin {B B' : AS} {id id3 tk : Nat} {R C T : ABlk} (h : ∀ j, j ≠ tk → B' j = B j) (h3 : B id3 = none) (n1 : tk ≠ id) : AS.le ((B.set tk T).set id R) (((B'.set id3 C).set id R).set tk T) := by
  intro j x hx
  by_cases e1 : j = tk
  · subst e1; simpa [AS.set, n1] using hx
  · by_cases e2 : j = id
    · subst e2; simpa [AS.set, e1] using hx
    · have e3 : j ≠ id3 := by rintro rfl; simp [AS.set, e1, e2, h3] at hx
      simp [AS.set, e1, e2] at hx
      simp [AS.set, e1, e2, e3, h j e1, hx]

theorem bclauses_ok (id : Nat) (b : List UInt8) (fr a : Nat) (nl : Bool) (σ : AS) (h : σ id = some (rdC b a nl)) (ha : a ≤ b.length) (hf : fr ≤ a) (hl : b.length ≤ 140737488355328) :
    ACalls Try.prog 71 [rdV id, .sc (.int .i64 fr)] σ (RD (eClauses b fr a) (fun l => .lst 91 (l.map rawV) .unk false) b nl id σ) (TD (eClauses b fr a) b nl id σ) := by
  have hneed := fun e σ => need_ok e σ
  have hbad := fun e σ => need_bad e σ
  refine ACalls.of_body Try.func71 rfl rfl (by simp [Try.ntmps71]) ?_
  simp only [rdV]
  repeat (first
    | (with_reducible apply AWp.seq)
    | (with_reducible apply AWp.block)
    | ((with_reducible apply AWp.fork); simp -implicitDefEqProofs)
    | ((with_reducible apply AWp.region); simp -implicitDefEqProofs)
    | (with_reducible refine And.intro (by first | omega | assumption | decide) ?_)
    | ((with_reducible apply AWp.ret); try simp -implicitDefEqProofs)
    | ((with_reducible apply AWp.skip); try simp -implicitDefEqProofs)
    | ((with_reducible apply AWp.exit); try simp -implicitDefEqProofs))
  intro id2 h_id2
  have n1 : id ≠ id2 := by rintro rfl; rw [h] at h_id2; cases h_id2
  have n1' : ¬ id2 = id := fun e => n1 e.symm
  repeat (first
    | (with_reducible apply AWp.seq)
    | (with_reducible apply AWp.block)
    | ((with_reducible apply AWp.fork); simp -implicitDefEqProofs)
    | ((with_reducible apply AWp.region); simp -implicitDefEqProofs)
    | (with_reducible refine And.intro (by first | omega | assumption | decide) ?_)
    | ((with_reducible apply AWp.ret); try simp -implicitDefEqProofs)
    | ((with_reducible apply AWp.skip); try simp -implicitDefEqProofs)
    | ((with_reducible apply AWp.exit); try simp -implicitDefEqProofs))
  generalize hB : σ.set id2 (.cells 99 [.ptr id 0]) = B
  have hBid : B id = some (rdC b a nl) := by rw [← hB]; simp [n1, h]
  have hB2 : B id2 = some (.cells 99 [.ptr id 0]) := by rw [← hB]; simp
  refine AWp.loopI (clP b nl fr id id2 (ePad b ((4 - (a - fr) % 4) % 4) a) B) (k0 := (4 - (a - fr) % 4) % 4) ⟨a, rfl, hf, ha, rfl, rfl, rfl⟩ (FrWk.mk (by simp)) (by rw [set_self hBid]; exact AS.le_refl _) ?_
  rintro m f σ' ⟨a1, hm, h1, h2, hX, rfl, rfl⟩
  have hw1 : IntKind.i64.wrap ((a1 : Int) - fr) = ((a1 - fr : Nat) : Int) := by rw [in_i64 (by omega) (by omega)]; omega
  have hw2 : ((a1 - fr : Nat) : Int).tmod 4 = (((a1 - fr) % 4 : Nat) : Int) := by rw [Int.tmod_eq_emod_of_nonneg (by omega)]; omega
  have hat := bat_B id b a1 nl B
  cases m with
  | succ m =>
    have hz : (((a1 - fr : Nat) : Int) % 4 = 0) = False := by simp; omega
    simp only [ePad] at hX
    cases hM : eMust b a1 0 with
    | error e =>
      rw [hM] at hX
      simp only at hX
      have hm1 := bmust_badB id b a1 nl B h2 hl 0 e hM
      repeat (first
        | (with_reducible apply AWp.seq)
        | (with_reducible apply AWp.block)
        | ((with_reducible apply AWp.fork); simp -implicitDefEqProofs [hw1, hw2, hz, n1, n1', hB2])
        | ((with_reducible apply AWp.region); simp -implicitDefEqProofs [hw1, hw2, hz, n1, n1', hB2])
        | (with_reducible refine And.intro (by first | omega | assumption | decide) ?_)
        | ((with_reducible show condK _ _ _); simp -implicitDefEqProofs [hw1, hw2, hz, n1, n1', hB2])
        | ((with_reducible show guardK _ _ _ _ _ _ _ _ _); simp -implicitDefEqProofs [hw1, hw2, hz, n1, n1', hB2])
        | ((with_reducible apply aCall.id); first
            | ((apply aCall.gives (hat)); simp -implicitDefEqProofs [hw1, hw2, hz, n1, n1', hB2])
            | ((apply aCall.thr (hm1)); simp -implicitDefEqProofs [hw1, hw2, hz, n1, n1', hB2]))
        | ((with_reducible apply AWp.ret); try simp -implicitDefEqProofs [hw1, hw2, hz, n1, n1', hB2])
        | ((with_reducible apply AWp.skip); try simp -implicitDefEqProofs [hw1, hw2, hz, n1, n1', hB2])
        | ((with_reducible apply AWp.exit); try simp -implicitDefEqProofs [hw1, hw2, hz, n1, n1', hB2]))
      intro x
      refine ⟨_, ?_, e, ?_, rfl, x, rfl⟩
      · rw [← hB]; exact le_set (le_new h_id2 (AS.le_refl _))
      · simp only [eClauses, ← hX]
    | ok a2 =>
      rw [hM] at hX
      simp only at hX
      obtain ⟨rfl, hlen⟩ := eMust_len hM
      have hm1 := bmust_okB id b a1 nl B hl 0 _ hM
      repeat (first
        | (with_reducible apply AWp.seq)
        | (with_reducible apply AWp.block)
        | ((with_reducible apply AWp.fork); simp -implicitDefEqProofs [hw1, hw2, hz, n1, n1', hB2])
        | ((with_reducible apply AWp.region); simp -implicitDefEqProofs [hw1, hw2, hz, n1, n1', hB2])
        | (with_reducible refine And.intro (by first | omega | assumption | decide) ?_)
        | ((with_reducible show condK _ _ _); simp -implicitDefEqProofs [hw1, hw2, hz, n1, n1', hB2])
        | ((with_reducible show guardK _ _ _ _ _ _ _ _ _); simp -implicitDefEqProofs [hw1, hw2, hz, n1, n1', hB2])
        | ((with_reducible apply aCall.id); first
            | ((apply aCall.gives (hat)); simp -implicitDefEqProofs [hw1, hw2, hz, n1, n1', hB2])
            | ((apply aCall.gives (hm1)); simp -implicitDefEqProofs [hw1, hw2, hz, n1, n1', hB2]))
        | ((with_reducible apply AWp.ret); try simp -implicitDefEqProofs [hw1, hw2, hz, n1, n1', hB2])
        | ((with_reducible apply AWp.skip); try simp -implicitDefEqProofs [hw1, hw2, hz, n1, n1', hB2])
        | ((with_reducible apply AWp.exit); try simp -implicitDefEqProofs [hw1, hw2, hz, n1, n1', hB2]))
      refine ⟨m, _, _, by omega, FrWk.mk (by simp), AS.le_refl _, a1 + 1, by omega, by omega, by omega, hX, by simp, rfl⟩
  | zero =>
    have hz : (((a1 - fr : Nat) : Int) % 4 = 0) = True := by simp; omega
    simp only [ePad] at hX
    have hC : eClauses b fr a = match eMust b a1 1 with
      | .error e => .error e
      | .ok a2 => match eNum b a2 1 with
        | .error e => .error e
        | .ok (n, a3) => if n < 1 ∨ 6 < n then .error 2 else match eMust b a3 0 with
          | .error e => .error e
          | .ok a4 => match eMust b a4 0 with
            | .error e => .error e
            | .ok a5 => eRaws b n.toNat a5 := by simp only [eClauses, ← hX]
    clear hX
    generalize eClauses b fr a = X at hC ⊢
    have hle : ∀ x : Nat, AS.le (σ.set id (rdC b x nl)) (B.set id (rdC b x nl)) := fun x => by rw [← hB]; exact le_set (le_new h_id2 (AS.le_refl _))
    have hleI : ∀ x : Int, AS.le (σ.set id (rdC b x nl)) (B.set id (rdC b x nl)) := fun x => by rw [← hB]; exact le_set (le_new h_id2 (AS.le_refl _))
    have no : ∀ e, X = .error e → ∀ x : Int, ∃ σ', AS.le σ' (B.set id (rdC b x nl)) ∧ TD X b nl id σ (flt e) σ' := fun e he x => ⟨_, hleI x, e, he, rfl, x, rfl⟩
    cases hM : eMust b a1 1 with
    | error e =>
      rw [hM] at hC
      have hm1 := bmust_badB id b a1 nl B h2 hl 1 e hM
      repeat (first
        | (with_reducible apply AWp.seq)
        | (with_reducible apply AWp.block)
        | ((with_reducible apply AWp.fork); simp -implicitDefEqProofs [hw1, hw2, hz, n1, n1', hB2])
        | ((with_reducible apply AWp.region); simp -implicitDefEqProofs [hw1, hw2, hz, n1, n1', hB2])
        | (with_reducible refine And.intro (by first | omega | assumption | decide) ?_)
        | ((with_reducible show condK _ _ _); simp -implicitDefEqProofs [hw1, hw2, hz, n1, n1', hB2])
        | ((with_reducible show guardK _ _ _ _ _ _ _ _ _); simp -implicitDefEqProofs [hw1, hw2, hz, n1, n1', hB2])
        | ((with_reducible apply aCall.id); first
            | ((apply aCall.gives (hat)); simp -implicitDefEqProofs [hw1, hw2, hz, n1, n1', hB2])
            | ((apply aCall.thr (hm1)); simp -implicitDefEqProofs [hw1, hw2, hz, n1, n1', hB2]))
        | ((with_reducible apply AWp.ret); try simp -implicitDefEqProofs [hw1, hw2, hz, n1, n1', hB2])
        | ((with_reducible apply AWp.skip); try simp -implicitDefEqProofs [hw1, hw2, hz, n1, n1', hB2])
        | ((with_reducible apply AWp.exit); try simp -implicitDefEqProofs [hw1, hw2, hz, n1, n1', hB2]))
      exact no e hC
    | ok a2 =>
    rw [hM] at hC
    simp only at hC
    have hm1 := bmust_okB id b a1 nl B hl 1 _ hM
    have l2 := eMust_len hM
    cases hN : eNum b a2 1 with
    | error e =>
      rw [hN] at hC
      have hm2 := bnum_badB id b a2 1 nl B l2.2 hl (by decide) e hN
      repeat (first
        | (with_reducible apply AWp.seq)
        | (with_reducible apply AWp.block)
        | ((with_reducible apply AWp.fork); simp -implicitDefEqProofs [hw1, hw2, hz, n1, n1', hB2])
        | ((with_reducible apply AWp.region); simp -implicitDefEqProofs [hw1, hw2, hz, n1, n1', hB2])
        | (with_reducible refine And.intro (by first | omega | assumption | decide) ?_)
        | ((with_reducible show condK _ _ _); simp -implicitDefEqProofs [hw1, hw2, hz, n1, n1', hB2])
        | ((with_reducible show guardK _ _ _ _ _ _ _ _ _); simp -implicitDefEqProofs [hw1, hw2, hz, n1, n1', hB2])
        | ((with_reducible apply aCall.id); first
            | ((apply aCall.gives (hat)); simp -implicitDefEqProofs [hw1, hw2, hz, n1, n1', hB2])
            | ((apply aCall.gives (hm1)); simp -implicitDefEqProofs [hw1, hw2, hz, n1, n1', hB2])
            | ((apply aCall.thr (hm2)); simp -implicitDefEqProofs [hw1, hw2, hz, n1, n1', hB2]))
        | ((with_reducible apply AWp.ret); try simp -implicitDefEqProofs [hw1, hw2, hz, n1, n1', hB2])
        | ((with_reducible apply AWp.skip); try simp -implicitDefEqProofs [hw1, hw2, hz, n1, n1', hB2])
        | ((with_reducible apply AWp.exit); try simp -implicitDefEqProofs [hw1, hw2, hz, n1, n1', hB2]))
      exact no e hC
    | ok x =>
    obtain ⟨n, a3⟩ := x
    rw [hN] at hC
    simp only at hC
    have hm2 := bnum_okB id b a2 1 nl B hl (by decide) (by omega) n a3 hN
    have l3 := eNum_len hN
    by_cases hn : n < 1 ∨ 6 < n
    · rw [if_pos hn] at hC
      by_cases hn0 : 0 < n
      · have hn6 : ¬ n ≤ 6 := by omega
        repeat (first
          | (with_reducible apply AWp.seq)
          | (with_reducible apply AWp.block)
          | ((with_reducible apply AWp.fork); simp -implicitDefEqProofs [hw1, hw2, hz, n1, n1', hB2, hn0, hn6])
          | ((with_reducible apply AWp.region); simp -implicitDefEqProofs [hw1, hw2, hz, n1, n1', hB2, hn0, hn6])
          | (with_reducible refine And.intro (by first | omega | assumption | decide) ?_)
          | ((with_reducible show condK _ _ _); simp -implicitDefEqProofs [hw1, hw2, hz, n1, n1', hB2, hn0, hn6])
          | ((with_reducible show guardK _ _ _ _ _ _ _ _ _); simp -implicitDefEqProofs [hw1, hw2, hz, n1, n1', hB2, hn0, hn6])
          | ((with_reducible apply aCall.id); first
              | ((apply aCall.gives (hat)); simp -implicitDefEqProofs [hw1, hw2, hz, n1, n1', hB2, hn0, hn6])
              | ((apply aCall.gives (hm1)); simp -implicitDefEqProofs [hw1, hw2, hz, n1, n1', hB2, hn0, hn6])
              | ((apply aCall.gives (hm2)); simp -implicitDefEqProofs [hw1, hw2, hz, n1, n1', hB2, hn0, hn6])
              | ((apply aCall.gp (hbad _ _)); simp -implicitDefEqProofs [hw1, hw2, hz, n1, n1', hB2, hn0, hn6]))
          | ((with_reducible apply AWp.ret); try simp -implicitDefEqProofs [hw1, hw2, hz, n1, n1', hB2, hn0, hn6])
          | ((with_reducible apply AWp.skip); try simp -implicitDefEqProofs [hw1, hw2, hz, n1, n1', hB2, hn0, hn6])
          | ((with_reducible apply AWp.exit); try simp -implicitDefEqProofs [hw1, hw2, hz, n1, n1', hB2, hn0, hn6]))
        exact no 2 hC _
      · repeat (first
          | (with_reducible apply AWp.seq)
          | (with_reducible apply AWp.block)
          | ((with_reducible apply AWp.fork); simp -implicitDefEqProofs [hw1, hw2, hz, n1, n1', hB2, hn0])
          | ((with_reducible apply AWp.region); simp -implicitDefEqProofs [hw1, hw2, hz, n1, n1', hB2, hn0])
          | (with_reducible refine And.intro (by first | omega | assumption | decide) ?_)
          | ((with_reducible show condK _ _ _); simp -implicitDefEqProofs [hw1, hw2, hz, n1, n1', hB2, hn0])
          | ((with_reducible show guardK _ _ _ _ _ _ _ _ _); simp -implicitDefEqProofs [hw1, hw2, hz, n1, n1', hB2, hn0])
          | ((with_reducible apply aCall.id); first
              | ((apply aCall.gives (hat)); simp -implicitDefEqProofs [hw1, hw2, hz, n1, n1', hB2, hn0])
              | ((apply aCall.gives (hm1)); simp -implicitDefEqProofs [hw1, hw2, hz, n1, n1', hB2, hn0])
              | ((apply aCall.gives (hm2)); simp -implicitDefEqProofs [hw1, hw2, hz, n1, n1', hB2, hn0])
              | ((apply aCall.gp (hbad _ _)); simp -implicitDefEqProofs [hw1, hw2, hz, n1, n1', hB2, hn0]))
          | ((with_reducible apply AWp.ret); try simp -implicitDefEqProofs [hw1, hw2, hz, n1, n1', hB2, hn0])
          | ((with_reducible apply AWp.skip); try simp -implicitDefEqProofs [hw1, hw2, hz, n1, n1', hB2, hn0])
          | ((with_reducible apply AWp.exit); try simp -implicitDefEqProofs [hw1, hw2, hz, n1, n1', hB2, hn0]))
        exact no 2 hC _
    rw [if_neg hn] at hC
    have hn0 : 0 < n := by omega
    have hn6 : n ≤ 6 := by omega
    cases hM4 : eMust b a3 0 with
    | error e =>
      rw [hM4] at hC
      have hm4 := bmust_badB id b a3 nl B (by omega) hl 0 e hM4
      repeat (first
        | (with_reducible apply AWp.seq)
        | (with_reducible apply AWp.block)
        | ((with_reducible apply AWp.fork); simp -implicitDefEqProofs [hw1, hw2, hz, n1, n1', hB2, hn0, hn6])
        | ((with_reducible apply AWp.region); simp -implicitDefEqProofs [hw1, hw2, hz, n1, n1', hB2, hn0, hn6])
        | (with_reducible refine And.intro (by first | omega | assumption | decide) ?_)
        | ((with_reducible show condK _ _ _); simp -implicitDefEqProofs [hw1, hw2, hz, n1, n1', hB2, hn0, hn6])
        | ((with_reducible show guardK _ _ _ _ _ _ _ _ _); simp -implicitDefEqProofs [hw1, hw2, hz, n1, n1', hB2, hn0, hn6])
        | ((with_reducible apply aCall.id); first
            | ((apply aCall.gives (hat)); simp -implicitDefEqProofs [hw1, hw2, hz, n1, n1', hB2, hn0, hn6])
            | ((apply aCall.gives (hm1)); simp -implicitDefEqProofs [hw1, hw2, hz, n1, n1', hB2, hn0, hn6])
            | ((apply aCall.gives (hm2)); simp -implicitDefEqProofs [hw1, hw2, hz, n1, n1', hB2, hn0, hn6])
            | ((apply aCall.gives (hneed _ _)); simp -implicitDefEqProofs [hw1, hw2, hz, n1, n1', hB2, hn0, hn6])
            | ((apply aCall.thr (hm4)); simp -implicitDefEqProofs [hw1, hw2, hz, n1, n1', hB2, hn0, hn6]))
        | ((with_reducible apply AWp.ret); try simp -implicitDefEqProofs [hw1, hw2, hz, n1, n1', hB2, hn0, hn6])
        | ((with_reducible apply AWp.skip); try simp -implicitDefEqProofs [hw1, hw2, hz, n1, n1', hB2, hn0, hn6])
        | ((with_reducible apply AWp.exit); try simp -implicitDefEqProofs [hw1, hw2, hz, n1, n1', hB2, hn0, hn6]))
      exact no e hC
    | ok a4 =>
    rw [hM4] at hC
    simp only at hC
    have hm4 := bmust_okB id b a3 nl B hl 0 _ hM4
    have l4 := eMust_len hM4
    cases hM5 : eMust b a4 0 with
    | error e =>
      rw [hM5] at hC
      have hm5 := bmust_badB id b a4 nl B (by omega) hl 0 e hM5
      repeat (first
        | (with_reducible apply AWp.seq)
        | (with_reducible apply AWp.block)
        | ((with_reducible apply AWp.fork); simp -implicitDefEqProofs [hw1, hw2, hz, n1, n1', hB2, hn0, hn6])
        | ((with_reducible apply AWp.region); simp -implicitDefEqProofs [hw1, hw2, hz, n1, n1', hB2, hn0, hn6])
        | (with_reducible refine And.intro (by first | omega | assumption | decide) ?_)
        | ((with_reducible show condK _ _ _); simp -implicitDefEqProofs [hw1, hw2, hz, n1, n1', hB2, hn0, hn6])
        | ((with_reducible show guardK _ _ _ _ _ _ _ _ _); simp -implicitDefEqProofs [hw1, hw2, hz, n1, n1', hB2, hn0, hn6])
        | ((with_reducible apply aCall.id); first
            | ((apply aCall.gives (hat)); simp -implicitDefEqProofs [hw1, hw2, hz, n1, n1', hB2, hn0, hn6])
            | ((apply aCall.gives (hm1)); simp -implicitDefEqProofs [hw1, hw2, hz, n1, n1', hB2, hn0, hn6])
            | ((apply aCall.gives (hm2)); simp -implicitDefEqProofs [hw1, hw2, hz, n1, n1', hB2, hn0, hn6])
            | ((apply aCall.gives (hneed _ _)); simp -implicitDefEqProofs [hw1, hw2, hz, n1, n1', hB2, hn0, hn6])
            | ((apply aCall.gives (hm4)); simp -implicitDefEqProofs [hw1, hw2, hz, n1, n1', hB2, hn0, hn6])
            | ((apply aCall.thr (hm5)); simp -implicitDefEqProofs [hw1, hw2, hz, n1, n1', hB2, hn0, hn6]))
        | ((with_reducible apply AWp.ret); try simp -implicitDefEqProofs [hw1, hw2, hz, n1, n1', hB2, hn0, hn6])
        | ((with_reducible apply AWp.skip); try simp -implicitDefEqProofs [hw1, hw2, hz, n1, n1', hB2, hn0, hn6])
        | ((with_reducible apply AWp.exit); try simp -implicitDefEqProofs [hw1, hw2, hz, n1, n1', hB2, hn0, hn6]))
      exact no e hC
    | ok a5 =>
    rw [hM5] at hC
    simp only at hC
    have hm5 := bmust_okB id b a4 nl B hl 0 _ hM5
    have l5 := eMust_len hM5
    repeat (first
      | (with_reducible apply AWp.seq)
      | (with_reducible apply AWp.block)
      | ((with_reducible apply AWp.fork); simp -implicitDefEqProofs [hw1, hw2, hz, n1, n1', hB2, hn0, hn6])
      | ((with_reducible apply AWp.region); simp -implicitDefEqProofs [hw1, hw2, hz, n1, n1', hB2, hn0, hn6])
      | (with_reducible refine And.intro (by first | omega | assumption | decide) ?_)
      | ((with_reducible show condK _ _ _); simp -implicitDefEqProofs [hw1, hw2, hz, n1, n1', hB2, hn0, hn6])
      | ((with_reducible show guardK _ _ _ _ _ _ _ _ _); simp -implicitDefEqProofs [hw1, hw2, hz, n1, n1', hB2, hn0, hn6])
      | ((with_reducible apply aCall.id); first
          | ((apply aCall.gives (hat)); simp -implicitDefEqProofs [hw1, hw2, hz, n1, n1', hB2, hn0, hn6])
          | ((apply aCall.gives (hm1)); simp -implicitDefEqProofs [hw1, hw2, hz, n1, n1', hB2, hn0, hn6])
          | ((apply aCall.gives (hm2)); simp -implicitDefEqProofs [hw1, hw2, hz, n1, n1', hB2, hn0, hn6])
          | ((apply aCall.gives (hneed _ _)); simp -implicitDefEqProofs [hw1, hw2, hz, n1, n1', hB2, hn0, hn6])
          | ((apply aCall.gives (hm4)); simp -implicitDefEqProofs [hw1, hw2, hz, n1, n1', hB2, hn0, hn6])
          | ((apply aCall.gives (hm5)); simp -implicitDefEqProofs [hw1, hw2, hz, n1, n1', hB2, hn0, hn6]))
      | ((with_reducible apply AWp.ret); try simp -implicitDefEqProofs [hw1, hw2, hz, n1, n1', hB2, hn0, hn6])
      | ((with_reducible apply AWp.skip); try simp -implicitDefEqProofs [hw1, hw2, hz, n1, n1', hB2, hn0, hn6])
      | ((with_reducible apply AWp.exit); try simp -implicitDefEqProofs [hw1, hw2, hz, n1, n1', hB2, hn0, hn6]))
    obtain ⟨N, rfl⟩ : ∃ N : Nat, n = N := ⟨n.toNat, by omega⟩
    simp only [Int.toNat_natCast] at hC
    refine AWp.loopI (clO b nl N id id2 X B) (k0 := N) ⟨0, a5, [], .nilS, B, by omega, by omega, l5.2, rfl, by rw [hC]; cases eRaws b N a5 <;> rfl, .inl ⟨rfl, rfl, rfl⟩, rfl, rfl⟩ (FrWk.mk (by simp)) (AS.le_refl _) ?_
    clear hC hM5 hm5 hM4 hm4 hN hm2 hM hm1 hat hw1 hw2 hz hle
    rintro m f σ' ⟨i, a6, d, v, D, hm, hi, l6, hd, hX, hD, rfl, rfl⟩
    have hD2 : D id2 = some (.cells 99 [.ptr id 0]) := by
      rcases hD with ⟨_, _, rfl⟩ | ⟨tk, _, htk, _, rfl⟩
      · exact hB2
      · have : id2 ≠ tk := by rintro rfl; rw [hB2] at htk; cases htk
        simp [this, hB2]
    have hBD : ∀ x : ABlk, AS.le (B.set id x) (D.set id x) := by
      intro x
      rcases hD with ⟨_, _, rfl⟩ | ⟨tk, _, htk, _, rfl⟩
      · exact AS.le_refl _
      · exact le_set (le_new htk (AS.le_refl _))
    by_cases hlt : i < N
    · have hI : ((i : Int) < N) = True := by simp; omega
      have hsucc : N - i = (N - i - 1) + 1 := by omega
      rw [hsucc, pre_raws] at hX
      repeat (first
        | (with_reducible apply AWp.seq)
        | (with_reducible apply AWp.block)
        | ((with_reducible apply AWp.fork); simp -implicitDefEqProofs [hI, hD2, n1, n1'])
        | ((with_reducible apply AWp.region); simp -implicitDefEqProofs [hI, hD2, n1, n1'])
        | (with_reducible refine And.intro (by first | omega | assumption | decide) ?_)
        | ((with_reducible show condK _ _ _); simp -implicitDefEqProofs [hI, hD2, n1, n1'])
        | ((with_reducible show guardK _ _ _ _ _ _ _ _ _); simp -implicitDefEqProofs [hI, hD2, n1, n1'])
        | ((with_reducible apply AWp.ret); try simp -implicitDefEqProofs [hI, hD2, n1, n1'])
        | ((with_reducible apply AWp.skip); try simp -implicitDefEqProofs [hI, hD2, n1, n1'])
        | ((with_reducible apply AWp.exit); try simp -implicitDefEqProofs [hI, hD2, n1, n1']))
      intro id3 n_id3_id h_id3
      have n_id_id3 : ¬ id = id3 := fun e => n_id3_id e.symm
      have n3 : ¬ id2 = id3 := by rintro rfl; rw [hD2] at h_id3; cases h_id3
      have n3' : ¬ id3 = id2 := fun e => n3 e.symm
      repeat (first
        | (with_reducible apply AWp.seq)
        | (with_reducible apply AWp.block)
        | ((with_reducible apply AWp.fork); simp -implicitDefEqProofs [n3, n3', n1, n1', n_id3_id, n_id_id3])
        | ((with_reducible apply AWp.region); simp -implicitDefEqProofs [n3, n3', n1, n1', n_id3_id, n_id_id3])
        | (with_reducible refine And.intro (by first | omega | assumption | decide) ?_)
        | ((with_reducible show condK _ _ _); simp -implicitDefEqProofs [n3, n3', n1, n1', n_id3_id, n_id_id3])
        | ((with_reducible show guardK _ _ _ _ _ _ _ _ _); simp -implicitDefEqProofs [n3, n3', n1, n1', n_id3_id, n_id_id3])
        | ((with_reducible apply AWp.ret); try simp -implicitDefEqProofs [n3, n3', n1, n1', n_id3_id, n_id_id3])
        | ((with_reducible apply AWp.skip); try simp -implicitDefEqProofs [n3, n3', n1, n1', n_id3_id, n_id_id3])
        | ((with_reducible apply AWp.exit); try simp -implicitDefEqProofs [n3, n3', n1, n1', n_id3_id, n_id_id3]))
      have hcomm : ∀ x y : ABlk, ((D.set id x).set id3 y) = ((D.set id3 y).set id x) := by
        intro x y
        funext j
        by_cases e1 : j = id
        · subst e1; simp [AS.set, n_id_id3]
        · by_cases e2 : j = id3
          · subst e2; simp [AS.set, e1]
          · simp [AS.set, e1, e2]
      have hcomm' : ∀ x y : ABlk, ((D.set id3 y).set id x) = ((D.set id x).set id3 y) := fun x y => (hcomm x y).symm
      have hcomm2 : ∀ x y z : ABlk, (((D.set id3 z).set id x).set id3 y) = ((D.set id3 y).set id x) := by
        intro x y z
        funext j
        by_cases e1 : j = id
        · subst e1; simp [AS.set, n_id_id3]
        · by_cases e2 : j = id3
          · subst e2; simp [AS.set, e1]
          · simp [AS.set, e1, e2]
      generalize hE6 : eNums b 6 a6 = E6 at hX
      refine AWp.loopI (clI b nl N i id id2 id3 v E6 D) (k0 := 6) ⟨0, a6, [], rfl, by omega, l6, rfl, by rw [← hE6]; cases eNums b 6 a6 <;> rfl, rfl, rfl⟩ (FrWk.mk (by simp)) ?_ ?_
      · rw [hcomm]
        exact AS.le_refl _
      rintro m2 f σ' ⟨k, a7, nm, hm2, hk, l7, hnm, hX2, rfl, rfl⟩
      by_cases hkl : k < 6
      · have hK : ((k : Int) < 6) = True := by simp; omega
        have hsucc2 : 6 - k = (6 - k - 1) + 1 := by omega
        rw [hsucc2, pre_nums] at hX2
        cases hM : eNum b a7 2 with
        | error e =>
          rw [hM] at hX2
          have hm1 := bnum_badB id b a7 2 nl (D.set id3 (.cells 92 (nm.map i64v ++ List.replicate (6 - k) (i64v 0)))) l7 hl (by decide) e hM
          repeat (first
            | (with_reducible apply AWp.seq)
            | (with_reducible apply AWp.block)
            | ((with_reducible apply AWp.fork); simp -implicitDefEqProofs [hK, hD2, n1, n1', n3, n3', n_id3_id, n_id_id3])
            | ((with_reducible apply AWp.region); simp -implicitDefEqProofs [hK, hD2, n1, n1', n3, n3', n_id3_id, n_id_id3])
            | (with_reducible refine And.intro (by first | omega | assumption | decide) ?_)
            | ((with_reducible show condK _ _ _); simp -implicitDefEqProofs [hK, hD2, n1, n1', n3, n3', n_id3_id, n_id_id3])
            | ((with_reducible show guardK _ _ _ _ _ _ _ _ _); simp -implicitDefEqProofs [hK, hD2, n1, n1', n3, n3', n_id3_id, n_id_id3])
            | ((with_reducible apply aCall.id); first
                | ((apply aCall.thr (hm1)); simp -implicitDefEqProofs [hK, hD2, n1, n1', n3, n3', n_id3_id, n_id_id3]))
            | ((with_reducible apply AWp.ret); try simp -implicitDefEqProofs [hK, hD2, n1, n1', n3, n3', n_id3_id, n_id_id3])
            | ((with_reducible apply AWp.skip); try simp -implicitDefEqProofs [hK, hD2, n1, n1', n3, n3', n_id3_id, n_id_id3])
            | ((with_reducible apply AWp.exit); try simp -implicitDefEqProofs [hK, hD2, n1, n1', n3, n3', n_id3_id, n_id_id3]))
          intro x
          simp only at hX2
          subst hX2
          simp only at hX
          refine no e hX.symm x |>.imp fun σ' h => ⟨AS.le_trans h.1 (AS.le_trans (hBD _) (by rw [hcomm']; exact le_new (by simp [AS.set, n_id3_id, h_id3]) (AS.le_refl _))), h.2⟩
        | ok y =>
          obtain ⟨w, a8⟩ := y
          rw [hM] at hX2
          simp only at hX2
          have hm1 := bnum_okB id b a7 2 nl (D.set id3 (.cells 92 (nm.map i64v ++ List.replicate (6 - k) (i64v 0)))) hl (by decide) (by omega) w a8 hM
          repeat (first
            | (with_reducible apply AWp.seq)
            | (with_reducible apply AWp.block)
            | ((with_reducible apply AWp.fork); simp -implicitDefEqProofs [hK, hD2, n1, n1', n3, n3', n_id3_id, n_id_id3])
            | ((with_reducible apply AWp.region); simp -implicitDefEqProofs [hK, hD2, n1, n1', n3, n3', n_id3_id, n_id_id3])
            | (with_reducible refine And.intro (by first | omega | assumption | decide) ?_)
            | ((with_reducible show condK _ _ _); simp -implicitDefEqProofs [hK, hD2, n1, n1', n3, n3', n_id3_id, n_id_id3])
            | ((with_reducible show guardK _ _ _ _ _ _ _ _ _); simp -implicitDefEqProofs [hK, hD2, n1, n1', n3, n3', n_id3_id, n_id_id3])
            | ((with_reducible apply aCall.id); first
                | ((apply aCall.gives (hm1)); simp -implicitDefEqProofs [hK, hD2, n1, n1', n3, n3', n_id3_id, n_id_id3]))
            | ((with_reducible apply AWp.ret); try simp -implicitDefEqProofs [hK, hD2, n1, n1', n3, n3', n_id3_id, n_id_id3])
            | ((with_reducible apply AWp.skip); try simp -implicitDefEqProofs [hK, hD2, n1, n1', n3, n3', n_id3_id, n_id_id3])
            | ((with_reducible apply AWp.exit); try simp -implicitDefEqProofs [hK, hD2, n1, n1', n3, n3', n_id3_id, n_id_id3]))
          have hcell : List.take k (nm.map i64v ++ List.replicate (6 - k) (i64v 0)) ++ (.sc (.int .i64 w)) :: List.drop (k + 1) (nm.map i64v ++ List.replicate (6 - k) (i64v 0)) = (nm ++ [w]).map i64v ++ List.replicate (6 - (k + 1)) (i64v 0) := by
            have e1 : List.take k (nm.map i64v ++ List.replicate (6 - k) (i64v 0)) = nm.map i64v := by
              rw [List.take_append_of_le_length (by simp; omega), List.take_of_length_le (by simp; omega)]
            have e2 : List.drop (k + 1) (nm.map i64v ++ List.replicate (6 - k) (i64v 0)) = List.replicate (6 - (k + 1)) (i64v 0) := by
              rw [List.drop_append, List.drop_of_length_le (by simp; omega), List.nil_append]
              simp [hnm]
              omega
            rw [e1, e2]
            simp [i64v_def]
          rw [hcell]
          clear hD
          refine ⟨m2 - 1, _, _, by omega, FrWk.mk ?_, AS.le_refl _, k + 1, a8, nm ++ [w], by omega, by omega, (eNum_len hM).2, by simp; omega, hX2, rfl, rfl⟩
          simp [wInc (show k < 4000000000000000000 by omega)]
      · have hK : ((k : Int) < 6) = False := by simp; omega
        obtain rfl : k = 6 := by omega
        simp only [Nat.sub_self, List.replicate_zero, List.append_nil, eNums, pre] at hX2 ⊢
        have h6 : List.take 6 (nm.map i64v) = nm.map i64v := List.take_of_length_le (by simp; omega)
        rw [← hX2] at hX
        simp only at hX
        have hcl := fun σ => clause_ok nm hnm σ
        rcases hD with ⟨h0, rfl, rfl⟩ | ⟨tk, hi0, htk, rfl, rfl⟩
        · obtain rfl : d = [] := List.length_eq_zero_iff.1 (by omega)
          repeat (first
            | (with_reducible apply AWp.seq)
            | (with_reducible apply AWp.block)
            | ((with_reducible apply AWp.fork); simp -implicitDefEqProofs [hK, n1, n1', n3, n3', h6, rawV, n_id3_id, n_id_id3])
            | ((with_reducible apply AWp.region); simp -implicitDefEqProofs [hK, n1, n1', n3, n3', h6, rawV, n_id3_id, n_id_id3])
            | (with_reducible refine And.intro (by first | omega | assumption | decide) ?_)
            | ((with_reducible show condK _ _ _); simp -implicitDefEqProofs [hK, n1, n1', n3, n3', h6, rawV, n_id3_id, n_id_id3])
            | ((with_reducible show guardK _ _ _ _ _ _ _ _ _); simp -implicitDefEqProofs [hK, n1, n1', n3, n3', h6, rawV, n_id3_id, n_id_id3])
            | ((with_reducible apply aCall.id); first
                | ((apply aCall.gives (hcl _)); simp -implicitDefEqProofs [hK, n1, n1', n3, n3', h6, rawV, n_id3_id, n_id_id3]))
            | ((with_reducible apply AWp.ret); try simp -implicitDefEqProofs [hK, n1, n1', n3, n3', h6, rawV, n_id3_id, n_id_id3])
            | ((with_reducible apply AWp.skip); try simp -implicitDefEqProofs [hK, n1, n1', n3, n3', h6, rawV, n_id3_id, n_id_id3])
            | ((with_reducible apply AWp.exit); try simp -implicitDefEqProofs [hK, n1, n1', n3, n3', h6, rawV, n_id3_id, n_id_id3]))
          intro tk t1 t3 htk
          have t1' : ¬ id = tk := fun e => t1 e.symm
          have t3' : ¬ id3 = tk := fun e => t3 e.symm
          repeat (first
            | (with_reducible apply AWp.seq)
            | (with_reducible apply AWp.block)
            | ((with_reducible apply AWp.fork); simp -implicitDefEqProofs [t1, t1', t3, t3', n_id3_id, n_id_id3])
            | ((with_reducible apply AWp.region); simp -implicitDefEqProofs [t1, t1', t3, t3', n_id3_id, n_id_id3])
            | (with_reducible refine And.intro (by first | omega | assumption | decide) ?_)
            | ((with_reducible show condK _ _ _); simp -implicitDefEqProofs [t1, t1', t3, t3', n_id3_id, n_id_id3])
            | ((with_reducible show guardK _ _ _ _ _ _ _ _ _); simp -implicitDefEqProofs [t1, t1', t3, t3', n_id3_id, n_id_id3])
            | ((with_reducible apply AWp.ret); try simp -implicitDefEqProofs [t1, t1', t3, t3', n_id3_id, n_id_id3])
            | ((with_reducible apply AWp.skip); try simp -implicitDefEqProofs [t1, t1', t3, t3', n_id3_id, n_id_id3])
            | ((with_reducible apply AWp.exit); try simp -implicitDefEqProofs [t1, t1', t3, t3', n_id3_id, n_id_id3]))
          clear hBD no hleI
          refine ⟨m - 1, _, _, by omega, FrWk.mk ?_, le_fin (B := D) (B' := D) (id3 := id3) (fun _ _ => rfl) h_id3 t1, 1, a7, [r6 nm], _, _, by omega, by omega, l7, rfl, ?_, .inr ⟨tk, by omega, htk, rfl, rfl⟩, rfl, rfl⟩
          · simp [h0, show IntKind.i64.wrap 1 = 1 from by kernel_rfl, rawV]
          · rw [← hX, h0]; rfl
        · have t1 : ¬ tk = id := by rintro rfl; rw [hBid] at htk; cases htk
          have t3 : ¬ tk = id3 := by rintro rfl; simp [AS.set] at h_id3
          have t1' : ¬ id = tk := fun e => t1 e.symm
          have t3' : ¬ id3 = tk := fun e => t3 e.symm
          have h3 : B id3 = none := by simpa [AS.set, t3'] using h_id3
          repeat (first
            | (with_reducible apply AWp.seq)
            | (with_reducible apply AWp.block)
            | ((with_reducible apply AWp.fork); simp -implicitDefEqProofs [hK, n1, n1', n3, n3', h6, rawV, t1, t1', t3, t3', hd, n_id3_id, n_id_id3])
            | ((with_reducible apply AWp.region); simp -implicitDefEqProofs [hK, n1, n1', n3, n3', h6, rawV, t1, t1', t3, t3', hd, n_id3_id, n_id_id3])
            | (with_reducible refine And.intro (by first | omega | assumption | decide) ?_)
            | ((with_reducible show condK _ _ _); simp -implicitDefEqProofs [hK, n1, n1', n3, n3', h6, rawV, t1, t1', t3, t3', hd, n_id3_id, n_id_id3])
            | ((with_reducible show guardK _ _ _ _ _ _ _ _ _); simp -implicitDefEqProofs [hK, n1, n1', n3, n3', h6, rawV, t1, t1', t3, t3', hd, n_id3_id, n_id_id3])
            | ((with_reducible apply aCall.id); first
                | ((apply aCall.gives (hcl _)); simp -implicitDefEqProofs [hK, n1, n1', n3, n3', h6, rawV, t1, t1', t3, t3', hd, n_id3_id, n_id_id3]))
            | ((with_reducible apply AWp.ret); try simp -implicitDefEqProofs [hK, n1, n1', n3, n3', h6, rawV, t1, t1', t3, t3', hd, n_id3_id, n_id_id3])
            | ((with_reducible apply AWp.skip); try simp -implicitDefEqProofs [hK, n1, n1', n3, n3', h6, rawV, t1, t1', t3, t3', hd, n_id3_id, n_id_id3])
            | ((with_reducible apply AWp.exit); try simp -implicitDefEqProofs [hK, n1, n1', n3, n3', h6, rawV, t1, t1', t3, t3', hd, n_id3_id, n_id_id3]))
          clear hBD no hleI
          refine ⟨m - 1, _, _, by omega, FrWk.mk ?_, le_set (le_new (by simp [AS.set, t3', h3]) (AS.le_refl _)), i + 1, a7, d ++ [r6 nm], _, _, by omega, by omega, l7, by simp [hd], ?_, .inr ⟨tk, by omega, htk, rfl, rfl⟩, rfl, rfl⟩
          · simp [wInc (show i < 4000000000000000000 by omega), rawV]
          · exact hX
    · have hI : ((i : Int) < N) = False := by simp; omega
      have hz : N - i = 0 := by omega
      rw [hz] at hX
      simp only [eRaws, pre, List.append_nil] at hX
      repeat (first
        | (with_reducible apply AWp.seq)
        | (with_reducible apply AWp.block)
        | ((with_reducible apply AWp.fork); simp -implicitDefEqProofs [hI])
        | ((with_reducible apply AWp.region); simp -implicitDefEqProofs [hI])
        | (with_reducible refine And.intro (by first | omega | assumption | decide) ?_)
        | ((with_reducible show condK _ _ _); simp -implicitDefEqProofs [hI])
        | ((with_reducible show guardK _ _ _ _ _ _ _ _ _); simp -implicitDefEqProofs [hI])
        | ((with_reducible apply AWp.ret); try simp -implicitDefEqProofs [hI])
        | ((with_reducible apply AWp.skip); try simp -implicitDefEqProofs [hI])
        | ((with_reducible apply AWp.exit); try simp -implicitDefEqProofs [hI]))
      refine ⟨.lst 91 (d.map rawV) .unk false, _, ?_, AS.le_trans (hleI _) (hBD _), d, a6, hX.symm, rfl, rfl⟩
      rcases hD with ⟨h0, _, _⟩ | ⟨tk, _, htk, rfl, _⟩
      · omega
      · simp

end Go.Proofs.Ytnkjbgcbchbonaa
