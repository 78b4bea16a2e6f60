/- Package rows: what reads, and gives up. -/
import Derived.Test.YtpekbapmnmnjoaaRows8
set_option linter.unusedSimpArgs false
set_option linter.unusedVariables false
set_option maxRecDepth 100000
set_option maxHeartbeats 3200000
namespace Go.Proofs.Ytpekbapmnmnjoaa
open Go Go.AW

/-- What the reader gives up with. -/
def fltR (a e : Int) : AV := .ifc 104 (.agg [.sc (.int .i64 a), .sc (.int .i64 e)])
def rBox (id : Nat) (size marks : Int) : ABlk := .cells 108 [.ptr id 0, .sc (.int .i64 size), .sc (.int .i64 marks)]
def ThrR (b : List UInt8) (nl : Bool) (id : Nat) (x : Int × Int) (σ : AS) (p : AV) (σ' : AS) : Prop := p = fltR x.1 x.2 ∧ ∃ a : Int, σ' = σ.set id (rdC b a nl)
theorem aCall.thrR {f : FuncId} {args : List AV} {b : List UInt8} {nl : Bool} {id : Nat} {x : Int × Int} {σ0 σ : AS} {K Kp : AV → AS → Prop} (h : ACalls Try.prog f args σ0 No (ThrR b nl id x σ)) (hk : ∀ a : Int, Kp (fltR x.1 x.2) (σ.set id (rdC b a nl))) : aCall Try.prog (.sc (.func (.func f) #[] #[])) args σ0 K Kp :=
  .of h (fun _ _ h => h.elim) (fun r σ' h => by obtain ⟨rfl, a, rfl⟩ := h; exact hk a)
theorem le_setR {σ σ' : AS} {i : Nat} {x : ABlk} (h : AS.le σ σ') : AS.le (σ.set i x) (σ'.set i x) := by
  intro j y hy
  by_cases e : j = i
  · subst e; simpa [AS.set] using hy
  · simp [AS.set, e] at hy ⊢; exact h j y hy
theorem set_selfR {σ : AS} {i : Nat} {x : ABlk} (h : σ i = some x) : σ.set i x = σ := by
  funext j
  by_cases e : j = i
  · subst e; simp [AS.set, h]
  · simp [AS.set, e]

def rNum (b : List UInt8) (a n : Nat) : Except (Int × Int) (Int × Nat) := if a + n ≤ b.length then .ok (numL (seg b a n), a + n) else .error ((b.length : Int), 1)
def rLeast (b : List UInt8) (a : Nat) (most : Int) : Except (Int × Int) (Int × Nat) :=
  match rNum b a 1 with
  | .error e => .error e
  | .ok (v, a') => if most < v then .error ((a : Int), 2) else .ok (v, a')

theorem rNum_ok {b : List UInt8} {a n : Nat} {v : Int} {a' : Nat} (h : rNum b a n = .ok (v, a')) : a + n ≤ b.length ∧ v = numL (seg b a n) ∧ a' = a + n := by
  unfold rNum at h
  split at h
  · cases h; exact ⟨by assumption, rfl, rfl⟩
  · cases h
theorem rNum_bad {b : List UInt8} {a n : Nat} {e : Int × Int} (h : rNum b a n = .error e) : ¬ a + n ≤ b.length ∧ e = ((b.length : Int), 1) := by
  unfold rNum at h
  split at h
  · cases h
  · cases h; exact ⟨by assumption, rfl⟩
theorem seg_numR {b : List UInt8} {a n : Nat} (h : a + n ≤ b.length) (h4 : n ≤ 4) : 0 ≤ numL (seg b a n) ∧ numL (seg b a n) < 4294967296 := by
  refine ⟨numL_nonneg _, ?_⟩
  have h1 := numL_lt (seg b a n)
  have h2 : (seg b a n).length = n := by have := seg_length b a n (by omega) (by omega) (by omega); omega
  rw [h2] at h1
  generalize numL (seg b a n) = z at h1 ⊢
  have h3 : n = 0 ∨ n = 1 ∨ n = 2 ∨ n = 3 ∨ n = 4 := by omega
  rcases h3 with rfl | rfl | rfl | rfl | rfl <;> simp at h1 <;> omega

theorem wnum_ok (rid id : Nat) (mk : Int) (b : List UInt8) (a n : Nat) (nl : Bool) (σ : AS) (hr : σ rid = some (rBox id b.length mk)) (h : σ id = some (rdC b a nl)) (hl : b.length ≤ 140737488355328) (hw : wide n = true) (h4 : n ≤ 4) (v : Int) (a' : Nat) (he : rNum b a n = .ok (v, a')) :
    ACalls Try.prog 71 [.ptr rid 0, .sc (.int .i64 n)] σ (Gives (.sc (.int .i64 v)) (σ.set id (rdC b a' nl))) No := by
  obtain ⟨h1, rfl, rfl⟩ := rNum_ok he
  have hv := seg_numR h1 h4
  have hw1 : IntKind.i64.wrap (numL (seg b a n)) = numL (seg b a n) := in_i64 (by omega) (by omega)
  have hn := num_ok id b a n nl σ h (by omega) (by omega) hl hw (by omega)
  simp only [rBox] at hr
  refine ACalls.of_body Try.func71 rfl rfl (by simp [Try.ntmps71]) ?_
  repeat (first
    | (with_reducible apply AWp.seq)
    | (with_reducible apply AWp.block)
    | ((with_reducible apply AWp.fork); simp -implicitDefEqProofs [hr, hw1])
    | ((with_reducible apply AWp.region); simp -implicitDefEqProofs [hr, hw1])
    | (with_reducible refine And.intro (by first | omega | assumption | decide) ?_)
    | ((with_reducible show condK _ _ _); simp -implicitDefEqProofs [hr, hw1])
    | ((with_reducible show guardK _ _ _ _ _ _ _ _ _); simp -implicitDefEqProofs [hr, hw1])
    | ((with_reducible apply aCall.id); first
        | ((apply aCall.gives (hn)); simp -implicitDefEqProofs [hr, hw1]))
    | ((with_reducible apply AWp.ret); try simp -implicitDefEqProofs [hr, hw1])
    | ((with_reducible apply AWp.skip); try simp -implicitDefEqProofs [hr, hw1])
    | ((with_reducible apply AWp.exit); try simp -implicitDefEqProofs [hr, hw1]))

theorem wnum_bad (rid id : Nat) (mk : Int) (b : List UInt8) (a n : Nat) (nl : Bool) (σ : AS) (hr : σ rid = some (rBox id b.length mk)) (h : σ id = some (rdC b a nl)) (ha : a ≤ b.length) (hl : b.length ≤ 140737488355328) (hw : wide n = true) (e : Int × Int) (he : rNum b a n = .error e) :
    ACalls Try.prog 71 [.ptr rid 0, .sc (.int .i64 n)] σ No (ThrR b nl id e σ) := by
  obtain ⟨h1, rfl⟩ := rNum_bad he
  have hE : numE b a n = 1 := by simp [numE, hw]; omega
  have hn := num_bad id b a n nl σ h (by omega) (by omega) hl (by omega)
  rw [hE] at hn
  simp only [rBox] at hr
  refine ACalls.of_body Try.func71 rfl rfl (by simp [Try.ntmps71]) ?_
  repeat (first
    | (with_reducible apply AWp.seq)
    | (with_reducible apply AWp.block)
    | ((with_reducible apply AWp.fork); simp -implicitDefEqProofs [hr])
    | ((with_reducible apply AWp.region); simp -implicitDefEqProofs [hr])
    | (with_reducible refine And.intro (by first | omega | assumption | decide) ?_)
    | ((with_reducible show condK _ _ _); simp -implicitDefEqProofs [hr])
    | ((with_reducible show guardK _ _ _ _ _ _ _ _ _); simp -implicitDefEqProofs [hr])
    | ((with_reducible apply aCall.id); first
        | ((apply aCall.gives (hn)); simp -implicitDefEqProofs [hr]))
    | ((with_reducible apply AWp.ret); try simp -implicitDefEqProofs [hr])
    | ((with_reducible apply AWp.skip); try simp -implicitDefEqProofs [hr])
    | ((with_reducible apply AWp.exit); try simp -implicitDefEqProofs [hr]))
  exact ⟨σ, AS.le_refl _, rfl, a, (set_selfR h).symm⟩

theorem rLeast_ok {b : List UInt8} {a : Nat} {most v : Int} {a' : Nat} (h : rLeast b a most = .ok (v, a')) : rNum b a 1 = .ok (v, a') ∧ v ≤ most := by
  unfold rLeast at h
  cases hn : rNum b a 1 with
  | error e => rw [hn] at h; simp at h
  | ok x =>
    obtain ⟨v', a2⟩ := x
    rw [hn] at h
    simp only at h
    split at h
    · cases h
    · cases h; exact ⟨rfl, by omega⟩
theorem rLeast_bad {b : List UInt8} {a : Nat} {most : Int} {e : Int × Int} (h : rLeast b a most = .error e) : rNum b a 1 = .error e ∨ (e = ((a : Int), 2) ∧ ∃ v a', rNum b a 1 = .ok (v, a') ∧ most < v) := by
  unfold rLeast at h
  cases hn : rNum b a 1 with
  | error e' => rw [hn] at h; simp at h; subst h; exact .inl rfl
  | ok x =>
    obtain ⟨v', a2⟩ := x
    rw [hn] at h
    simp only at h
    split at h
    · cases h; exact .inr ⟨rfl, v', a2, rfl, by assumption⟩
    · cases h

theorem wleast_ok (rid id : Nat) (mk : Int) (b : List UInt8) (a : Nat) (nl : Bool) (σ : AS) (hr : σ rid = some (rBox id b.length mk)) (h : σ id = some (rdC b a nl)) (hl : b.length ≤ 140737488355328) (most v : Int) (a' : Nat) (he : rLeast b a most = .ok (v, a')) :
    ACalls Try.prog 70 [.ptr rid 0, .sc (.int .i64 most)] σ (Gives (.sc (.int .i64 v)) (σ.set id (rdC b a' nl))) No := by
  obtain ⟨h1, h2⟩ := rLeast_ok he
  have hn := wnum_ok rid id mk b a 1 nl σ hr h hl rfl (by omega) v a' h1
  have hat := at_ok id b a nl σ h
  have h2' : ¬ most < v := by omega
  simp only [rBox] at hr
  refine ACalls.of_body Try.func70 rfl rfl (by simp [Try.ntmps70]) ?_
  repeat (first
    | (with_reducible apply AWp.seq)
    | (with_reducible apply AWp.block)
    | ((with_reducible apply AWp.fork); simp -implicitDefEqProofs [hr, h2'])
    | ((with_reducible apply AWp.region); simp -implicitDefEqProofs [hr, h2'])
    | (with_reducible refine And.intro (by first | omega | assumption | decide) ?_)
    | ((with_reducible show condK _ _ _); simp -implicitDefEqProofs [hr, h2'])
    | ((with_reducible show guardK _ _ _ _ _ _ _ _ _); simp -implicitDefEqProofs [hr, h2'])
    | ((with_reducible apply aCall.id); first
        | ((apply aCall.gives (hat)); simp -implicitDefEqProofs [hr, h2'])
        | ((apply aCall.gives (hn)); simp -implicitDefEqProofs [hr, h2']))
    | ((with_reducible apply AWp.ret); try simp -implicitDefEqProofs [hr, h2'])
    | ((with_reducible apply AWp.skip); try simp -implicitDefEqProofs [hr, h2'])
    | ((with_reducible apply AWp.exit); try simp -implicitDefEqProofs [hr, h2']))

theorem wleast_bad (rid id : Nat) (mk : Int) (b : List UInt8) (a : Nat) (nl : Bool) (σ : AS) (hr : σ rid = some (rBox id b.length mk)) (h : σ id = some (rdC b a nl)) (ha : a ≤ b.length) (hl : b.length ≤ 140737488355328) (most : Int) (e : Int × Int) (he : rLeast b a most = .error e) :
    ACalls Try.prog 70 [.ptr rid 0, .sc (.int .i64 most)] σ No (ThrR b nl id e σ) := by
  have hat := at_ok id b a nl σ h
  rcases rLeast_bad he with he | ⟨rfl, v, a', he, hv⟩
  · have hn := wnum_bad rid id mk b a 1 nl σ hr h ha hl rfl e he
    simp only [rBox] at hr
    refine ACalls.of_body Try.func70 rfl rfl (by simp [Try.ntmps70]) ?_
    repeat (first
      | (with_reducible apply AWp.seq)
      | (with_reducible apply AWp.block)
      | ((with_reducible apply AWp.fork); simp -implicitDefEqProofs [hr])
      | ((with_reducible apply AWp.region); simp -implicitDefEqProofs [hr])
      | (with_reducible refine And.intro (by first | omega | assumption | decide) ?_)
      | ((with_reducible show condK _ _ _); simp -implicitDefEqProofs [hr])
      | ((with_reducible show guardK _ _ _ _ _ _ _ _ _); simp -implicitDefEqProofs [hr])
      | ((with_reducible apply aCall.id); first
          | ((apply aCall.gives (hat)); simp -implicitDefEqProofs [hr]))
      | ((with_reducible apply AWp.ret); try simp -implicitDefEqProofs [hr])
      | ((with_reducible apply AWp.skip); try simp -implicitDefEqProofs [hr])
      | ((with_reducible apply AWp.exit); try simp -implicitDefEqProofs [hr]))
    refine aCall.thrR hn ?_
    intro x
    simp -implicitDefEqProofs
    exact ⟨_, AS.le_refl _, rfl, x, rfl⟩
  · have hn := wnum_ok rid id mk b a 1 nl σ hr h hl rfl (by omega) v a' he
    simp only [rBox] at hr
    refine ACalls.of_body Try.func70 rfl rfl (by simp [Try.ntmps70]) ?_
    repeat (first
      | (with_reducible apply AWp.seq)
      | (with_reducible apply AWp.block)
      | ((with_reducible apply AWp.fork); simp -implicitDefEqProofs [hr, hv])
      | ((with_reducible apply AWp.region); simp -implicitDefEqProofs [hr, hv])
      | (with_reducible refine And.intro (by first | omega | assumption | decide) ?_)
      | ((with_reducible show condK _ _ _); simp -implicitDefEqProofs [hr, hv])
      | ((with_reducible show guardK _ _ _ _ _ _ _ _ _); simp -implicitDefEqProofs [hr, hv])
      | ((with_reducible apply aCall.id); first
          | ((apply aCall.gives (hat)); simp -implicitDefEqProofs [hr, hv])
          | ((apply aCall.gives (hn)); simp -implicitDefEqProofs [hr, hv]))
      | ((with_reducible apply AWp.ret); try simp -implicitDefEqProofs [hr, hv])
      | ((with_reducible apply AWp.skip); try simp -implicitDefEqProofs [hr, hv])
      | ((with_reducible apply AWp.exit); try simp -implicitDefEqProofs [hr, hv]))
    exact ⟨_, AS.le_refl _, rfl, _, rfl⟩

/-! ## rows -/

def RDR {α : Type} (x : Except (Int × Int) (α × Nat)) (f : α → AV) (b : List UInt8) (nl : Bool) (id : Nat) (σ : AS) (r : AV) (σ' : AS) : Prop := ∃ v a, x = .ok (v, a) ∧ r = f v ∧ σ' = σ.set id (rdC b (a : Nat) nl)
def TDR {α : Type} (x : Except (Int × Int) α) (b : List UInt8) (nl : Bool) (id : Nat) (σ : AS) (p : AV) (σ' : AS) : Prop := ∃ e, x = .error e ∧ ThrR b nl id e σ p σ'
def rRow (b : List UInt8) (mk : Nat) : List UInt8 → Nat → Except (Int × Int) (List Int × Nat)
  | [], a => .ok ([], a)
  | k :: ks, a => match rNum b a (wK k mk).toNat with
    | .error e => .error e
    | .ok (v, a') => match rRow b mk ks a' with
      | .error e => .error e
      | .ok (l, a2) => .ok (v :: l, a2)
/-- What comes behind what is there. -/
def preR {α : Type} (d : List α) : Except (Int × Int) (List α × Nat) → Except (Int × Int) (List α × Nat)
  | .error e => .error e
  | .ok (l, a) => .ok (d ++ l, a)
theorem preR_row (b : List UInt8) (mk : Nat) (d : List Int) (k : UInt8) (ks : List UInt8) (a : Nat) :
    preR d (rRow b mk (k :: ks) a) = match rNum b a (wK k mk).toNat with | .error e => .error e | .ok (v, a') => preR (d ++ [v]) (rRow b mk ks a') := by
  simp only [rRow]
  cases rNum b a (wK k mk).toNat with
  | error e => rfl
  | ok x =>
    obtain ⟨v, a'⟩ := x
    simp only
    cases rRow b mk ks a' with
    | error e => rfl
    | ok y => obtain ⟨l, a2⟩ := y; simp [preR]

def rowV (l : List Int) : AV := .lst 3 (l.map i64v) .unk (decide (l = []))
def rwI (b : List UInt8) (nl : Bool) (mk : Nat) (ks : List UInt8) (rid id it tk : Nat) (X : Except (Int × Int) (List Int × Nat)) (B : AS) (m : Nat) (f : Fr) (σ' : AS) : Prop :=
  ∃ (j a : Nat) (d : List Int), m = ks.length - j ∧ j ≤ ks.length ∧ a ≤ b.length ∧ d.length = j ∧ preR d (rRow b mk (ks.drop j) a) = X ∧
    σ' = ((B.set it (.siter ⟨ks.toArray⟩ j)).set id (rdC b a nl)).set tk (.tok j) ∧
    f = mkF [(0, .ptr rid 0), (5, .lst 3 (d.map i64v) (.tok tk) (decide (d = []))), (10, .ptr it 0)]

theorem wrow_ok (rid id : Nat) (mk : Nat) (hmk : mk ≤ 3) (b : List UInt8) (a t : Nat) (nl : Bool) (σ : AS) (hr : σ rid = some (rBox id b.length mk)) (h : σ id = some (rdC b a nl)) (ha : a ≤ b.length) (hl : b.length ≤ 140737488355328) :
    ACalls Try.prog 72 [.ptr rid 0, .sc (.int .i64 t)] σ (RDR (rRow b mk (kindsL t) a) rowV b nl id σ) (TDR (rRow b mk (kindsL t) a) b nl id σ) := by
  have hkd := fun σ => kinds_ok t σ
  have hka := kinds_ascii (t : Int)
  have hkl := kinds_len (t : Int)
  simp only [strV] at hkd
  generalize hks : kindsL (t : Int) = ks at *
  have n_rid_id : ¬ rid = id := by rintro rfl; rw [hr] at h; simp [rBox, rdC] at h
  have n_id_rid : ¬ id = rid := fun e => n_rid_id e.symm
  refine ACalls.of_body Try.func72 rfl rfl (by simp [Try.ntmps72]) ?_
  refine AWp.seq ?_
  repeat (first
    | (with_reducible apply AWp.seq)
    | (with_reducible apply AWp.block)
    | ((with_reducible apply AWp.fork); simp -implicitDefEqProofs)
    | ((fail_if_success (with_reducible apply AWp.region (id := 2))); (with_reducible apply AWp.region); simp -implicitDefEqProofs)
    | (with_reducible refine And.intro (by first | omega | assumption | decide) ?_)
    | ((with_reducible apply AWp.ret); try simp -implicitDefEqProofs)
    | ((with_reducible apply AWp.skip); try simp -implicitDefEqProofs)
    | ((with_reducible apply AWp.exit); try simp -implicitDefEqProofs))
  refine AWp.mint 5 3 [] true (by simp [Try.ntmps72]) (.inr ⟨by simp, rfl, rfl⟩) ?_
  simp -implicitDefEqProofs
  intro tk h_tk
  have n_id_tk : ¬ id = tk := by rintro rfl; rw [h] at h_tk; cases h_tk
  have n_tk_id : ¬ tk = id := fun e => n_id_tk e.symm
  have n_rid_tk : ¬ rid = tk := by rintro rfl; rw [hr] at h_tk; cases h_tk
  have n_tk_rid : ¬ tk = rid := fun e => n_rid_tk e.symm
  repeat (first
    | (with_reducible apply AWp.seq)
    | (with_reducible apply AWp.block)
    | ((with_reducible apply AWp.fork); simp -implicitDefEqProofs [n_tk_id, n_id_tk, h, n_tk_rid, n_rid_tk, hr])
    | ((with_reducible apply AWp.region); simp -implicitDefEqProofs [n_tk_id, n_id_tk, h, n_tk_rid, n_rid_tk, hr])
    | (with_reducible refine And.intro (by first | omega | assumption | decide) ?_)
    | ((with_reducible show condK _ _ _); simp -implicitDefEqProofs [n_tk_id, n_id_tk, h, n_tk_rid, n_rid_tk, hr])
    | ((with_reducible show guardK _ _ _ _ _ _ _ _ _); simp -implicitDefEqProofs [n_tk_id, n_id_tk, h, n_tk_rid, n_rid_tk, hr])
    | ((with_reducible apply aCall.id); first
        | ((apply aCall.gives (hkd _)); simp -implicitDefEqProofs [n_tk_id, n_id_tk, h, n_tk_rid, n_rid_tk, hr]))
    | ((with_reducible apply AWp.ret); try simp -implicitDefEqProofs [n_tk_id, n_id_tk, h, n_tk_rid, n_rid_tk, hr])
    | ((with_reducible apply AWp.skip); try simp -implicitDefEqProofs [n_tk_id, n_id_tk, h, n_tk_rid, n_rid_tk, hr])
    | ((with_reducible apply AWp.exit); try simp -implicitDefEqProofs [n_tk_id, n_id_tk, h, n_tk_rid, n_rid_tk, hr]))
  intro it n_it_tk h_it
  have n_tk_it : ¬ tk = it := fun e => n_it_tk e.symm
  have n_id_it : ¬ id = it := by rintro rfl; rw [h] at h_it; cases h_it
  have n_it_id : ¬ it = id := fun e => n_id_it e.symm
  have n_rid_it : ¬ rid = it := by rintro rfl; rw [hr] at h_it; cases h_it
  have n_it_rid : ¬ it = rid := fun e => n_rid_it e.symm
  repeat (first
    | (with_reducible apply AWp.seq)
    | (with_reducible apply AWp.block)
    | ((with_reducible apply AWp.fork); simp -implicitDefEqProofs [n_tk_id, n_id_tk, h, n_tk_rid, n_rid_tk, hr, n_it_id, n_id_it, n_it_rid, n_rid_it])
    | ((with_reducible apply AWp.region); simp -implicitDefEqProofs [n_tk_id, n_id_tk, h, n_tk_rid, n_rid_tk, hr, n_it_id, n_id_it, n_it_rid, n_rid_it])
    | (with_reducible refine And.intro (by first | omega | assumption | decide) ?_)
    | ((with_reducible show condK _ _ _); simp -implicitDefEqProofs [n_tk_id, n_id_tk, h, n_tk_rid, n_rid_tk, hr, n_it_id, n_id_it, n_it_rid, n_rid_it])
    | ((with_reducible show guardK _ _ _ _ _ _ _ _ _); simp -implicitDefEqProofs [n_tk_id, n_id_tk, h, n_tk_rid, n_rid_tk, hr, n_it_id, n_id_it, n_it_rid, n_rid_it])
    | ((with_reducible apply AWp.ret); try simp -implicitDefEqProofs [n_tk_id, n_id_tk, h, n_tk_rid, n_rid_tk, hr, n_it_id, n_id_it, n_it_rid, n_rid_it])
    | ((with_reducible apply AWp.skip); try simp -implicitDefEqProofs [n_tk_id, n_id_tk, h, n_tk_rid, n_rid_tk, hr, n_it_id, n_id_it, n_it_rid, n_rid_it])
    | ((with_reducible apply AWp.exit); try simp -implicitDefEqProofs [n_tk_id, n_id_tk, h, n_tk_rid, n_rid_tk, hr, n_it_id, n_id_it, n_it_rid, n_rid_it]))
  refine AWp.loopI (rwI b nl mk ks rid id it tk (rRow b mk ks a) σ) (k0 := ks.length) ⟨0, a, [], by omega, by omega, ha, rfl, ?_, rfl, rfl⟩ (FrWk.mk (by simp)) ?_ ?_
  · simp only [List.drop_zero]
    cases rRow b mk ks a with
    | error e => rfl
    | ok x => obtain ⟨l, a2⟩ := x; rfl
  · intro j_ y_ hy_
    by_cases e_it : j_ = it
    · subst e_it; simp [AS.set, h, h_tk, h_it, n_it_tk, n_tk_it, n_tk_id, n_id_tk, h, n_tk_rid, n_rid_tk, hr, n_it_id, n_id_it, n_it_rid, n_rid_it] at hy_ ⊢; try first | exact hy_ | (cases hy_; done)
    by_cases e_id : j_ = id
    · subst e_id; simp [AS.set, h, h_tk, h_it, n_it_tk, n_tk_it, n_tk_id, n_id_tk, h, n_tk_rid, n_rid_tk, hr, n_it_id, n_id_it, n_it_rid, n_rid_it] at hy_ ⊢; try first | exact hy_ | (cases hy_; done)
    by_cases e_tk : j_ = tk
    · subst e_tk; simp [AS.set, h, h_tk, h_it, n_it_tk, n_tk_it, n_tk_id, n_id_tk, h, n_tk_rid, n_rid_tk, hr, n_it_id, n_id_it, n_it_rid, n_rid_it] at hy_ ⊢; try first | exact hy_ | (cases hy_; done)
    simp [AS.set, h, h_tk, h_it, n_it_tk, n_tk_it, n_tk_id, n_id_tk, h, n_tk_rid, n_rid_tk, hr, n_it_id, n_id_it, n_it_rid, n_rid_it, e_it, e_id, e_tk] at hy_ ⊢; try exact hy_
  rintro m f σ' ⟨j, a1, d, hm, hj, ha1, hd, hX, hs, rfl⟩
  have gI : σ' id = some (rdC b a1 nl) := by rw [hs]; simp [n_id_tk]
  have gR : σ' rid = some (rBox id b.length mk) := by rw [hs]; simp [n_rid_tk, n_rid_id, n_rid_it, hr]
  have gT : σ' tk = some (.tok d.length) := by rw [hs, hd]; simp
  have gS : σ' it = some (.siter ⟨ks.toArray⟩ j) := by rw [hs]; simp [n_it_tk, n_it_id]
  simp only [rBox] at gR
  by_cases hlt : j < ks.length
  · obtain ⟨kd, hg, hdr, hmem, _⟩ := at_lt ks hlt
    have hdec := dec_ascii ks j hg (hka kd hmem)
    have hwd := fun σ => width_ok kd mk hmk σ
    have hw24 := wK_24 kd mk
    rw [hdr, preR_row] at hX
    have hwn : wK kd mk = (((wK kd mk).toNat : Nat) : Int) := by omega
    have hwide : wide (((wK kd mk).toNat : Nat) : Int) = true := by rcases hw24 with e | e <;> rw [e] <;> rfl
    cases hN : rNum b a1 (wK kd mk).toNat with
    | error e =>
      rw [hN] at hX
      simp only at hX
      have hb := fun σ hr h => wnum_bad rid id mk b a1 (wK kd mk).toNat nl σ hr h ha1 hl hwide e hN
      rw [← hwn] at hb
      repeat (first
        | (with_reducible apply AWp.seq)
        | (with_reducible apply AWp.block)
        | ((with_reducible apply AWp.fork); simp -implicitDefEqProofs [gS, hlt, hdec, gR, n_tk_id, n_id_tk, h, n_tk_rid, n_rid_tk, hr, n_it_id, n_id_it, n_it_rid, n_rid_it])
        | ((with_reducible apply AWp.region); simp -implicitDefEqProofs [gS, hlt, hdec, gR, n_tk_id, n_id_tk, h, n_tk_rid, n_rid_tk, hr, n_it_id, n_id_it, n_it_rid, n_rid_it])
        | (with_reducible refine And.intro (by first | omega | assumption | decide) ?_)
        | ((with_reducible show condK _ _ _); simp -implicitDefEqProofs [gS, hlt, hdec, gR, n_tk_id, n_id_tk, h, n_tk_rid, n_rid_tk, hr, n_it_id, n_id_it, n_it_rid, n_rid_it])
        | ((with_reducible show guardK _ _ _ _ _ _ _ _ _); simp -implicitDefEqProofs [gS, hlt, hdec, gR, n_tk_id, n_id_tk, h, n_tk_rid, n_rid_tk, hr, n_it_id, n_id_it, n_it_rid, n_rid_it])
        | ((with_reducible apply aCall.id); first
            | ((apply aCall.gives (hwd _)); simp -implicitDefEqProofs [gS, hlt, hdec, gR, n_tk_id, n_id_tk, h, n_tk_rid, n_rid_tk, hr, n_it_id, n_id_it, n_it_rid, n_rid_it]))
        | ((with_reducible apply AWp.ret); try simp -implicitDefEqProofs [gS, hlt, hdec, gR, n_tk_id, n_id_tk, h, n_tk_rid, n_rid_tk, hr, n_it_id, n_id_it, n_it_rid, n_rid_it])
        | ((with_reducible apply AWp.skip); try simp -implicitDefEqProofs [gS, hlt, hdec, gR, n_tk_id, n_id_tk, h, n_tk_rid, n_rid_tk, hr, n_it_id, n_id_it, n_it_rid, n_rid_it])
        | ((with_reducible apply AWp.exit); try simp -implicitDefEqProofs [gS, hlt, hdec, gR, n_tk_id, n_id_tk, h, n_tk_rid, n_rid_tk, hr, n_it_id, n_id_it, n_it_rid, n_rid_it]))
      refine aCall.thrR (hb _ (by simp [n_rid_it, gR, rBox]) (by simp [n_id_it, gI])) ?_
      intro x
      simp -implicitDefEqProofs [n_tk_id, n_id_tk, h, n_tk_rid, n_rid_tk, hr, n_it_id, n_id_it, n_it_rid, n_rid_it]
      refine ⟨σ.set id (rdC b x nl), ?_, e, hX.symm, rfl, x, rfl⟩
      rw [hs]
      intro j_ y_ hy_
      by_cases e_it : j_ = it
      · subst e_it; simp [AS.set, h_tk, h_it, n_it_tk, n_tk_it, n_tk_id, n_id_tk, h, n_tk_rid, n_rid_tk, hr, n_it_id, n_id_it, n_it_rid, n_rid_it] at hy_ ⊢; try first | exact hy_ | (cases hy_; done)
      by_cases e_id : j_ = id
      · subst e_id; simp [AS.set, h_tk, h_it, n_it_tk, n_tk_it, n_tk_id, n_id_tk, h, n_tk_rid, n_rid_tk, hr, n_it_id, n_id_it, n_it_rid, n_rid_it] at hy_ ⊢; try first | exact hy_ | (cases hy_; done)
      by_cases e_tk : j_ = tk
      · subst e_tk; simp [AS.set, h_tk, h_it, n_it_tk, n_tk_it, n_tk_id, n_id_tk, h, n_tk_rid, n_rid_tk, hr, n_it_id, n_id_it, n_it_rid, n_rid_it] at hy_ ⊢; try first | exact hy_ | (cases hy_; done)
      simp [AS.set, h_tk, h_it, n_it_tk, n_tk_it, n_tk_id, n_id_tk, h, n_tk_rid, n_rid_tk, hr, n_it_id, n_id_it, n_it_rid, n_rid_it, e_it, e_id, e_tk] at hy_ ⊢; try exact hy_
    | ok v =>
      obtain ⟨v, a2⟩ := v
      rw [hN] at hX
      simp only at hX
      obtain ⟨h1, _, h3⟩ := rNum_ok hN
      have hb := fun σ hr h => wnum_ok rid id mk b a1 (wK kd mk).toNat nl σ hr h hl hwide (by omega) v a2 hN
      rw [← hwn] at hb
      have hd1 : d.length ≤ 1000 := by omega
      repeat (first
        | (with_reducible apply AWp.seq)
        | (with_reducible apply AWp.block)
        | ((with_reducible apply AWp.fork); simp -implicitDefEqProofs [gS, hlt, hdec, gR, gT, n_tk_id, n_id_tk, h, n_tk_rid, n_rid_tk, hr, n_it_id, n_id_it, n_it_rid, n_rid_it])
        | ((with_reducible apply AWp.region); simp -implicitDefEqProofs [gS, hlt, hdec, gR, gT, n_tk_id, n_id_tk, h, n_tk_rid, n_rid_tk, hr, n_it_id, n_id_it, n_it_rid, n_rid_it])
        | (with_reducible refine And.intro (by first | omega | assumption | decide) ?_)
        | ((with_reducible show condK _ _ _); simp -implicitDefEqProofs [gS, hlt, hdec, gR, gT, n_tk_id, n_id_tk, h, n_tk_rid, n_rid_tk, hr, n_it_id, n_id_it, n_it_rid, n_rid_it])
        | ((with_reducible show guardK _ _ _ _ _ _ _ _ _); simp -implicitDefEqProofs [gS, hlt, hdec, gR, gT, n_tk_id, n_id_tk, h, n_tk_rid, n_rid_tk, hr, n_it_id, n_id_it, n_it_rid, n_rid_it])
        | ((with_reducible apply aCall.id); first
            | ((apply aCall.gives (hwd _)); simp -implicitDefEqProofs [gS, hlt, hdec, gR, gT, n_tk_id, n_id_tk, h, n_tk_rid, n_rid_tk, hr, n_it_id, n_id_it, n_it_rid, n_rid_it])
            | ((apply aCall.gives (hb _ (by simp [n_rid_it, gR, rBox]) (by simp [n_id_it, gI]))); simp -implicitDefEqProofs [gS, hlt, hdec, gR, gT, n_tk_id, n_id_tk, h, n_tk_rid, n_rid_tk, hr, n_it_id, n_id_it, n_it_rid, n_rid_it]))
        | ((with_reducible apply AWp.ret); try simp -implicitDefEqProofs [gS, hlt, hdec, gR, gT, n_tk_id, n_id_tk, h, n_tk_rid, n_rid_tk, hr, n_it_id, n_id_it, n_it_rid, n_rid_it])
        | ((with_reducible apply AWp.skip); try simp -implicitDefEqProofs [gS, hlt, hdec, gR, gT, n_tk_id, n_id_tk, h, n_tk_rid, n_rid_tk, hr, n_it_id, n_id_it, n_it_rid, n_rid_it])
        | ((with_reducible apply AWp.exit); try simp -implicitDefEqProofs [gS, hlt, hdec, gR, gT, n_tk_id, n_id_tk, h, n_tk_rid, n_rid_tk, hr, n_it_id, n_id_it, n_it_rid, n_rid_it]))
      refine ⟨m - 1, _, _, by omega, FrWk.mk ?_, ?_, j + 1, a2, d ++ [v], by omega, by omega, by omega, by simp [hd], hX, rfl, rfl⟩
      · simp [i64v_def]
      · rw [hs, hd]
        intro j_ y_ hy_
        by_cases e_it : j_ = it
        · subst e_it; simp [AS.set, h_tk, h_it, n_it_tk, n_tk_it, n_tk_id, n_id_tk, h, n_tk_rid, n_rid_tk, hr, n_it_id, n_id_it, n_it_rid, n_rid_it] at hy_ ⊢; try first | exact hy_ | (cases hy_; done)
        by_cases e_id : j_ = id
        · subst e_id; simp [AS.set, h_tk, h_it, n_it_tk, n_tk_it, n_tk_id, n_id_tk, h, n_tk_rid, n_rid_tk, hr, n_it_id, n_id_it, n_it_rid, n_rid_it] at hy_ ⊢; try first | exact hy_ | (cases hy_; done)
        by_cases e_tk : j_ = tk
        · subst e_tk; simp [AS.set, h_tk, h_it, n_it_tk, n_tk_it, n_tk_id, n_id_tk, h, n_tk_rid, n_rid_tk, hr, n_it_id, n_id_it, n_it_rid, n_rid_it] at hy_ ⊢; try first | exact hy_ | (cases hy_; done)
        simp [AS.set, h_tk, h_it, n_it_tk, n_tk_it, n_tk_id, n_id_tk, h, n_tk_rid, n_rid_tk, hr, n_it_id, n_id_it, n_it_rid, n_rid_it, e_it, e_id, e_tk] at hy_ ⊢; try exact hy_
  · have hks' : ks.drop j = [] := List.drop_eq_nil_of_le (by omega)
    rw [hks'] at hX
    have hX2 : rRow b mk ks a = .ok (d, a1) := by rw [← hX]; simp [rRow, preR]
    have hlt' : (j < ks.length) = False := by simp; omega
    have bsz : (⟨ks.toArray⟩ : ByteArray).size = ks.length := by simp [ByteArray.size]
    repeat (first
      | (with_reducible apply AWp.seq)
      | (with_reducible apply AWp.block)
      | ((with_reducible apply AWp.fork); simp -implicitDefEqProofs [gS, hlt', bsz, n_tk_id, n_id_tk, h, n_tk_rid, n_rid_tk, hr, n_it_id, n_id_it, n_it_rid, n_rid_it])
      | ((with_reducible apply AWp.region); simp -implicitDefEqProofs [gS, hlt', bsz, n_tk_id, n_id_tk, h, n_tk_rid, n_rid_tk, hr, n_it_id, n_id_it, n_it_rid, n_rid_it])
      | (with_reducible refine And.intro (by first | omega | assumption | decide) ?_)
      | ((with_reducible show condK _ _ _); simp -implicitDefEqProofs [gS, hlt', bsz, n_tk_id, n_id_tk, h, n_tk_rid, n_rid_tk, hr, n_it_id, n_id_it, n_it_rid, n_rid_it])
      | ((with_reducible show guardK _ _ _ _ _ _ _ _ _); simp -implicitDefEqProofs [gS, hlt', bsz, n_tk_id, n_id_tk, h, n_tk_rid, n_rid_tk, hr, n_it_id, n_id_it, n_it_rid, n_rid_it])
      | ((with_reducible apply AWp.ret); try simp -implicitDefEqProofs [gS, hlt', bsz, n_tk_id, n_id_tk, h, n_tk_rid, n_rid_tk, hr, n_it_id, n_id_it, n_it_rid, n_rid_it])
      | ((with_reducible apply AWp.skip); try simp -implicitDefEqProofs [gS, hlt', bsz, n_tk_id, n_id_tk, h, n_tk_rid, n_rid_tk, hr, n_it_id, n_id_it, n_it_rid, n_rid_it])
      | ((with_reducible apply AWp.exit); try simp -implicitDefEqProofs [gS, hlt', bsz, n_tk_id, n_id_tk, h, n_tk_rid, n_rid_tk, hr, n_it_id, n_id_it, n_it_rid, n_rid_it]))
    refine ⟨rowV d, σ.set id (rdC b a1 nl), by simp [rowV], ?_, d, a1, hX2, rfl, rfl⟩
    rw [hs]
    intro j_ y_ hy_
    by_cases e_it : j_ = it
    · subst e_it; simp [AS.set, h_tk, h_it, n_it_tk, n_tk_it, n_tk_id, n_id_tk, h, n_tk_rid, n_rid_tk, hr, n_it_id, n_id_it, n_it_rid, n_rid_it] at hy_ ⊢; try first | exact hy_ | (cases hy_; done)
    by_cases e_id : j_ = id
    · subst e_id; simp [AS.set, h_tk, h_it, n_it_tk, n_tk_it, n_tk_id, n_id_tk, h, n_tk_rid, n_rid_tk, hr, n_it_id, n_id_it, n_it_rid, n_rid_it] at hy_ ⊢; try first | exact hy_ | (cases hy_; done)
    by_cases e_tk : j_ = tk
    · subst e_tk; simp [AS.set, h_tk, h_it, n_it_tk, n_tk_it, n_tk_id, n_id_tk, h, n_tk_rid, n_rid_tk, hr, n_it_id, n_id_it, n_it_rid, n_rid_it] at hy_ ⊢; try first | exact hy_ | (cases hy_; done)
    simp [AS.set, h_tk, h_it, n_it_tk, n_tk_it, n_tk_id, n_id_tk, h, n_tk_rid, n_rid_tk, hr, n_it_id, n_id_it, n_it_rid, n_rid_it, e_it, e_id, e_tk] at hy_ ⊢; try exact hy_

end Go.Proofs.Ytpekbapmnmnjoaa
