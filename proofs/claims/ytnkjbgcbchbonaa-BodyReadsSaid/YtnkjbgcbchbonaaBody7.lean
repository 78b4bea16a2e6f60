/- Package body: what reads, and gives up. -/
import Derived.Test.YtnkjbgcbchbonaaBody5
set_option linter.unusedSimpArgs false
set_option linter.unusedVariables false
set_option maxRecDepth 100000
set_option maxHeartbeats 3200000
namespace Go.Proofs.Ytnkjbgcbchbonaa
open Go Go.AW

/-- What a body's reader gives up with. -/
def flt (e : Int) : AV := .ifc 96 (.sc (.int .i64 e))
def rdV (id : Nat) : AV := .agg [.ptr id 0]
def Thr (b : List UInt8) (nl : Bool) (id : Nat) (e : Int) (σ : AS) (p : AV) (σ' : AS) : Prop := p = flt e ∧ ∃ a : Int, σ' = σ.set id (rdC b a nl)

theorem aCall.gp {f : FuncId} {args : List AV} {σ σ1 : AS} {v : AV} {K Kp : AV → AS → Prop} (h : ACalls Try.prog f args σ No (Gives v σ1)) (hk : Kp v σ1) : aCall Try.prog (.sc (.func (.func f) #[] #[])) args σ K Kp :=
  .of h (fun _ _ h => h.elim) (fun r σ' h => by obtain ⟨rfl, rfl⟩ := h; exact hk)
theorem aCall.thr {f : FuncId} {args : List AV} {b : List UInt8} {nl : Bool} {id : Nat} {e : Int} {σ0 σ : AS} {K Kp : AV → AS → Prop} (h : ACalls Try.prog f args σ0 No (Thr b nl id e σ)) (hk : ∀ a : Int, Kp (flt e) (σ.set id (rdC b a nl))) : aCall Try.prog (.sc (.func (.func f) #[] #[])) args σ0 K Kp :=
  .of h (fun _ _ h => h.elim) (fun r σ' h => by obtain ⟨rfl, a, rfl⟩ := h; exact hk a)
theorem le_set {σ σ' : AS} {i : Nat} {x : ABlk} (h : AS.le σ σ') : AS.le (σ.set i x) (σ'.set i x) := by
  intro j y hy
  by_cases e : j = i
  · subst e; simpa [AS.set] using hy
  · simp [AS.set, e] at hy ⊢; exact h j y hy
theorem set_self {σ : AS} {i : Nat} {x : ABlk} (h : σ i = some x) : σ.set i x = σ := by
  funext j
  by_cases e : j = i
  · subst e; simp [AS.set, h]
  · simp [AS.set, e]

def eNum (b : List UInt8) (a n : Nat) : Except Int (Int × Nat) := if a + n ≤ b.length then .ok (numL (seg b a n), a + n) else .error 1
def eMust (b : List UInt8) (a : Nat) (c : Int) : Except Int Nat :=
  match eNum b a 1 with
  | .error e => .error e
  | .ok (v, a') => if v = c then .ok a' else .error 2
def eCode (b : List UInt8) (a : Nat) (n : Int) : Except Int (List UInt8 × Nat) :=
  if n < 1 ∨ 65535 < n then .error 2 else if a + n ≤ b.length then .ok (seg b a n, a + n.toNat) else .error 1

theorem need_ok (e : Int) (σ : AS) : ACalls Try.prog 69 [.sc (.bool true), .sc (.int .i64 e)] σ (Gives (.tup []) σ) No := by
  refine ACalls.of_body Try.func69 rfl rfl (by simp [Try.ntmps69]) ?_
  repeat (first
    | (with_reducible apply AWp.seq)
    | (with_reducible apply AWp.block)
    | ((with_reducible apply AWp.fork); simp -implicitDefEqProofs)
    | ((with_reducible apply AWp.region); simp -implicitDefEqProofs)
    | (with_reducible refine And.intro (by first | omega | assumption | decide) ?_)
    | ((with_reducible apply AWp.ret); try simp -implicitDefEqProofs)
    | ((with_reducible apply AWp.skip); try simp -implicitDefEqProofs)
    | ((with_reducible apply AWp.exit); try simp -implicitDefEqProofs))

theorem need_bad (e : Int) (σ : AS) : ACalls Try.prog 69 [.sc (.bool false), .sc (.int .i64 e)] σ No (Gives (flt e) σ) := by
  refine ACalls.of_body Try.func69 rfl rfl (by simp [Try.ntmps69]) ?_
  repeat (first
    | (with_reducible apply AWp.seq)
    | (with_reducible apply AWp.block)
    | ((with_reducible apply AWp.fork); simp -implicitDefEqProofs)
    | ((with_reducible apply AWp.region); simp -implicitDefEqProofs)
    | (with_reducible refine And.intro (by first | omega | assumption | decide) ?_)
    | ((with_reducible apply AWp.ret); try simp -implicitDefEqProofs)
    | ((with_reducible apply AWp.skip); try simp -implicitDefEqProofs)
    | ((with_reducible apply AWp.exit); try simp -implicitDefEqProofs))
  exact ⟨σ, AS.le_refl _, rfl, rfl⟩

theorem eNum_ok {b : List UInt8} {a n : Nat} {v : Int} {a' : Nat} (h : eNum b a n = .ok (v, a')) : a + n ≤ b.length ∧ v = numL (seg b a n) ∧ a' = a + n := by
  unfold eNum at h
  split at h
  · cases h; exact ⟨by assumption, rfl, rfl⟩
  · cases h
theorem eNum_bad {b : List UInt8} {a n : Nat} {e : Int} (h : eNum b a n = .error e) : ¬ a + n ≤ b.length ∧ e = 1 := by
  unfold eNum at h
  split at h
  · cases h
  · cases h; exact ⟨by assumption, rfl⟩
theorem seg_num {b : List UInt8} {a n : Nat} (h : a + n ≤ b.length) (h4 : n ≤ 4) : 0 ≤ numL (seg b a n) ∧ numL (seg b a n) < 4294967296 := by
  refine ⟨numL_nonneg _, ?_⟩
  have h1 := numL_lt (seg b a n)
  have h2 : (seg b a n).length = n := by have := seg_length b a n (by omega) (by omega) (by omega); omega
  rw [h2] at h1
  generalize numL (seg b a n) = z at h1 ⊢
  have h3 : n = 0 ∨ n = 1 ∨ n = 2 ∨ n = 3 ∨ n = 4 := by omega
  rcases h3 with rfl | rfl | rfl | rfl | rfl <;> simp at h1 <;> omega

theorem bnum_ok (id : Nat) (b : List UInt8) (a n : Nat) (nl : Bool) (σ : AS) (h : σ id = some (rdC b a nl)) (hl : b.length ≤ 140737488355328) (hw : wide n = true) (h4 : n ≤ 4) (v : Int) (a' : Nat) (he : eNum b a n = .ok (v, a')) :
    ACalls Try.prog 67 [rdV id, .sc (.int .i64 n)] σ (Gives (.sc (.int .i64 v)) (σ.set id (rdC b a' nl))) No := by
  obtain ⟨h1, rfl, rfl⟩ := eNum_ok he
  have hv := seg_num h1 h4
  have hw1 : IntKind.i64.wrap (numL (seg b a n)) = numL (seg b a n) := in_i64 (by omega) (by omega)
  have hn := fun σ h => num_ok id b a n nl σ h (by omega) (by omega) hl hw (by omega)
  have hneed := fun σ => need_ok 0 σ
  refine ACalls.of_body Try.func67 rfl rfl (by simp [Try.ntmps67]) ?_
  simp only [rdV]
  repeat (first
    | (with_reducible apply AWp.seq)
    | (with_reducible apply AWp.block)
    | ((with_reducible apply AWp.fork); simp -implicitDefEqProofs)
    | ((with_reducible apply AWp.region); simp -implicitDefEqProofs)
    | (with_reducible refine And.intro (by first | omega | assumption | decide) ?_)
    | ((with_reducible apply AWp.ret); try simp -implicitDefEqProofs)
    | ((with_reducible apply AWp.skip); try simp -implicitDefEqProofs)
    | ((with_reducible apply AWp.exit); try simp -implicitDefEqProofs))
  intro id2 h_id2
  have n1 : id ≠ id2 := by rintro rfl; rw [h] at h_id2; cases h_id2
  have n1' : ¬ id2 = id := fun e => n1 e.symm
  repeat (first
    | (with_reducible apply AWp.seq)
    | (with_reducible apply AWp.block)
    | ((with_reducible apply AWp.fork); simp -implicitDefEqProofs [n1, n1', h])
    | ((with_reducible apply AWp.region); simp -implicitDefEqProofs [n1, n1', h])
    | (with_reducible refine And.intro (by first | omega | assumption | decide) ?_)
    | ((with_reducible show condK _ _ _); simp -implicitDefEqProofs [n1, n1', h])
    | ((with_reducible show guardK _ _ _ _ _ _ _ _ _); simp -implicitDefEqProofs [n1, n1', h])
    | ((with_reducible apply aCall.id); first
        | ((apply aCall.gives (hn _ (by simp [AS.set, n1, h]))); simp -implicitDefEqProofs [n1, n1', h])
        | ((apply aCall.gives (hneed _)); simp -implicitDefEqProofs [n1, n1', h]))
    | ((with_reducible apply AWp.ret); try simp -implicitDefEqProofs [n1, n1', h])
    | ((with_reducible apply AWp.skip); try simp -implicitDefEqProofs [n1, n1', h])
    | ((with_reducible apply AWp.exit); try simp -implicitDefEqProofs [n1, n1', h]))
  rw [hw1]
  exact ⟨Wk.refl _, le_set (le_new h_id2 (AS.le_refl _))⟩

theorem bnum_bad (id : Nat) (b : List UInt8) (a n : Nat) (nl : Bool) (σ : AS) (h : σ id = some (rdC b a nl)) (ha : a ≤ b.length) (hl : b.length ≤ 140737488355328) (hw : wide n = true) (e : Int) (he : eNum b a n = .error e) :
    ACalls Try.prog 67 [rdV id, .sc (.int .i64 n)] σ No (Thr b nl id e σ) := by
  obtain ⟨h1, rfl⟩ := eNum_bad he
  have hE : numE b a n = 1 := by simp [numE, hw]; omega
  have hn := fun σ h => num_bad id b a n nl σ h (by omega) (by omega) hl (by omega)
  rw [hE] at hn
  have hneed := fun σ => need_bad 1 σ
  refine ACalls.of_body Try.func67 rfl rfl (by simp [Try.ntmps67]) ?_
  simp only [rdV]
  repeat (first
    | (with_reducible apply AWp.seq)
    | (with_reducible apply AWp.block)
    | ((with_reducible apply AWp.fork); simp -implicitDefEqProofs)
    | ((with_reducible apply AWp.region); simp -implicitDefEqProofs)
    | (with_reducible refine And.intro (by first | omega | assumption | decide) ?_)
    | ((with_reducible apply AWp.ret); try simp -implicitDefEqProofs)
    | ((with_reducible apply AWp.skip); try simp -implicitDefEqProofs)
    | ((with_reducible apply AWp.exit); try simp -implicitDefEqProofs))
  intro id2 h_id2
  have n1 : id ≠ id2 := by rintro rfl; rw [h] at h_id2; cases h_id2
  have n1' : ¬ id2 = id := fun e => n1 e.symm
  repeat (first
    | (with_reducible apply AWp.seq)
    | (with_reducible apply AWp.block)
    | ((with_reducible apply AWp.fork); simp -implicitDefEqProofs [n1, n1', h])
    | ((with_reducible apply AWp.region); simp -implicitDefEqProofs [n1, n1', h])
    | (with_reducible refine And.intro (by first | omega | assumption | decide) ?_)
    | ((with_reducible show condK _ _ _); simp -implicitDefEqProofs [n1, n1', h])
    | ((with_reducible show guardK _ _ _ _ _ _ _ _ _); simp -implicitDefEqProofs [n1, n1', h])
    | ((with_reducible apply aCall.id); first
        | ((apply aCall.gives (hn _ (by simp [AS.set, n1, h]))); simp -implicitDefEqProofs [n1, n1', h])
        | ((apply aCall.gp (hneed _)); simp -implicitDefEqProofs [n1, n1', h]))
    | ((with_reducible apply AWp.ret); try simp -implicitDefEqProofs [n1, n1', h])
    | ((with_reducible apply AWp.skip); try simp -implicitDefEqProofs [n1, n1', h])
    | ((with_reducible apply AWp.exit); try simp -implicitDefEqProofs [n1, n1', h]))
  exact ⟨σ, le_new h_id2 (AS.le_refl _), rfl, a, (set_self h).symm⟩

theorem eMust_ok {b : List UInt8} {a : Nat} {c : Int} {a' : Nat} (h : eMust b a c = .ok a') : eNum b a 1 = .ok (c, a') := by
  unfold eMust at h
  cases hn : eNum b a 1 with
  | error e => rw [hn] at h; simp at h
  | ok v =>
    obtain ⟨v, a2⟩ := v
    rw [hn] at h
    simp only at h
    split at h
    · rename_i e; subst e; cases h; rfl
    · cases h
theorem eMust_bad {b : List UInt8} {a : Nat} {c e : Int} (h : eMust b a c = .error e) : eNum b a 1 = .error e ∨ (e = 2 ∧ ∃ v a', eNum b a 1 = .ok (v, a') ∧ v ≠ c) := by
  unfold eMust at h
  cases hn : eNum b a 1 with
  | error e => rw [hn] at h; simp at h; subst h; exact .inl rfl
  | ok v =>
    obtain ⟨v, a2⟩ := v
    rw [hn] at h
    simp only at h
    split at h
    · cases h
    · cases h; exact .inr ⟨rfl, v, a2, rfl, by assumption⟩

theorem bmust_ok (id : Nat) (b : List UInt8) (a : Nat) (nl : Bool) (σ : AS) (h : σ id = some (rdC b a nl)) (hl : b.length ≤ 140737488355328) (c : Int) (a' : Nat) (he : eMust b a c = .ok a') :
    ACalls Try.prog 70 [rdV id, .sc (.int .i64 c)] σ (Gives (.tup []) (σ.set id (rdC b a' nl))) No := by
  have hn := fun σ h => bnum_ok id b a 1 nl σ h hl (by decide) (by omega) c a' (eMust_ok he)
  have hneed := fun σ => need_ok 2 σ
  refine ACalls.of_body Try.func70 rfl rfl (by simp [Try.ntmps70]) ?_
  simp only [rdV] at hn ⊢
  repeat (first
    | (with_reducible apply AWp.seq)
    | (with_reducible apply AWp.block)
    | ((with_reducible apply AWp.fork); simp -implicitDefEqProofs)
    | ((with_reducible apply AWp.region); simp -implicitDefEqProofs)
    | (with_reducible refine And.intro (by first | omega | assumption | decide) ?_)
    | ((with_reducible apply AWp.ret); try simp -implicitDefEqProofs)
    | ((with_reducible apply AWp.skip); try simp -implicitDefEqProofs)
    | ((with_reducible apply AWp.exit); try simp -implicitDefEqProofs))
  intro id2 h_id2
  have n1 : id ≠ id2 := by rintro rfl; rw [h] at h_id2; cases h_id2
  have n1' : ¬ id2 = id := fun e => n1 e.symm
  repeat (first
    | (with_reducible apply AWp.seq)
    | (with_reducible apply AWp.block)
    | ((with_reducible apply AWp.fork); simp -implicitDefEqProofs [n1, n1', h])
    | ((with_reducible apply AWp.region); simp -implicitDefEqProofs [n1, n1', h])
    | (with_reducible refine And.intro (by first | omega | assumption | decide) ?_)
    | ((with_reducible show condK _ _ _); simp -implicitDefEqProofs [n1, n1', h])
    | ((with_reducible show guardK _ _ _ _ _ _ _ _ _); simp -implicitDefEqProofs [n1, n1', h])
    | ((with_reducible apply aCall.id); first
        | ((apply aCall.gives (hn _ (by simp [AS.set, n1, h]))); simp -implicitDefEqProofs [n1, n1', h])
        | ((apply aCall.gives (hneed _)); simp -implicitDefEqProofs [n1, n1', h]))
    | ((with_reducible apply AWp.ret); try simp -implicitDefEqProofs [n1, n1', h])
    | ((with_reducible apply AWp.skip); try simp -implicitDefEqProofs [n1, n1', h])
    | ((with_reducible apply AWp.exit); try simp -implicitDefEqProofs [n1, n1', h]))
  exact le_set (le_new h_id2 (AS.le_refl _))

theorem bmust_bad (id : Nat) (b : List UInt8) (a : Nat) (nl : Bool) (σ : AS) (h : σ id = some (rdC b a nl)) (ha : a ≤ b.length) (hl : b.length ≤ 140737488355328) (c e : Int) (he : eMust b a c = .error e) :
    ACalls Try.prog 70 [rdV id, .sc (.int .i64 c)] σ No (Thr b nl id e σ) := by
  have hneed := fun σ => need_bad 2 σ
  rcases eMust_bad he with he | ⟨rfl, v, a', he, hv⟩
  · have hn := fun σ h => bnum_bad id b a 1 nl σ h ha hl (by decide) e he
    refine ACalls.of_body Try.func70 rfl rfl (by simp [Try.ntmps70]) ?_
    simp only [rdV] at hn ⊢
    repeat (first
      | (with_reducible apply AWp.seq)
      | (with_reducible apply AWp.block)
      | ((with_reducible apply AWp.fork); simp -implicitDefEqProofs)
      | ((with_reducible apply AWp.region); simp -implicitDefEqProofs)
      | (with_reducible refine And.intro (by first | omega | assumption | decide) ?_)
      | ((with_reducible apply AWp.ret); try simp -implicitDefEqProofs)
      | ((with_reducible apply AWp.skip); try simp -implicitDefEqProofs)
      | ((with_reducible apply AWp.exit); try simp -implicitDefEqProofs))
    intro id2 h_id2
    have n1 : id ≠ id2 := by rintro rfl; rw [h] at h_id2; cases h_id2
    have n1' : ¬ id2 = id := fun e => n1 e.symm
    repeat (first
      | (with_reducible apply AWp.seq)
      | (with_reducible apply AWp.block)
      | ((with_reducible apply AWp.fork); simp -implicitDefEqProofs [n1, n1', h])
      | ((with_reducible apply AWp.region); simp -implicitDefEqProofs [n1, n1', h])
      | (with_reducible refine And.intro (by first | omega | assumption | decide) ?_)
      | ((with_reducible show condK _ _ _); simp -implicitDefEqProofs [n1, n1', h])
      | ((with_reducible show guardK _ _ _ _ _ _ _ _ _); simp -implicitDefEqProofs [n1, n1', h])
      | ((with_reducible apply aCall.id); first
          | ((apply aCall.thr (hn _ (by simp [AS.set, n1, h]))); simp -implicitDefEqProofs [n1, n1', h])
          | ((apply aCall.gp (hneed _)); simp -implicitDefEqProofs [n1, n1', h]))
      | ((with_reducible apply AWp.ret); try simp -implicitDefEqProofs [n1, n1', h])
      | ((with_reducible apply AWp.skip); try simp -implicitDefEqProofs [n1, n1', h])
      | ((with_reducible apply AWp.exit); try simp -implicitDefEqProofs [n1, n1', h]))
    intro x
    exact ⟨_, le_set (le_new h_id2 (AS.le_refl _)), rfl, x, rfl⟩
  · have hn := fun σ h => bnum_ok id b a 1 nl σ h hl (by decide) (by omega) v a' he
    refine ACalls.of_body Try.func70 rfl rfl (by simp [Try.ntmps70]) ?_
    simp only [rdV] at hn ⊢
    repeat (first
      | (with_reducible apply AWp.seq)
      | (with_reducible apply AWp.block)
      | ((with_reducible apply AWp.fork); simp -implicitDefEqProofs)
      | ((with_reducible apply AWp.region); simp -implicitDefEqProofs)
      | (with_reducible refine And.intro (by first | omega | assumption | decide) ?_)
      | ((with_reducible apply AWp.ret); try simp -implicitDefEqProofs)
      | ((with_reducible apply AWp.skip); try simp -implicitDefEqProofs)
      | ((with_reducible apply AWp.exit); try simp -implicitDefEqProofs))
    intro id2 h_id2
    have n1 : id ≠ id2 := by rintro rfl; rw [h] at h_id2; cases h_id2
    have n1' : ¬ id2 = id := fun e => n1 e.symm
    repeat (first
      | (with_reducible apply AWp.seq)
      | (with_reducible apply AWp.block)
      | ((with_reducible apply AWp.fork); simp -implicitDefEqProofs [n1, n1', h, hv])
      | ((with_reducible apply AWp.region); simp -implicitDefEqProofs [n1, n1', h, hv])
      | (with_reducible refine And.intro (by first | omega | assumption | decide) ?_)
      | ((with_reducible show condK _ _ _); simp -implicitDefEqProofs [n1, n1', h, hv])
      | ((with_reducible show guardK _ _ _ _ _ _ _ _ _); simp -implicitDefEqProofs [n1, n1', h, hv])
      | ((with_reducible apply aCall.id); first
          | ((apply aCall.gives (hn _ (by simp [AS.set, n1, h]))); simp -implicitDefEqProofs [n1, n1', h, hv])
          | ((apply aCall.gp (hneed _)); simp -implicitDefEqProofs [n1, n1', h, hv]))
      | ((with_reducible apply AWp.ret); try simp -implicitDefEqProofs [n1, n1', h, hv])
      | ((with_reducible apply AWp.skip); try simp -implicitDefEqProofs [n1, n1', h, hv])
      | ((with_reducible apply AWp.exit); try simp -implicitDefEqProofs [n1, n1', h, hv]))
    exact ⟨_, le_set (le_new h_id2 (AS.le_refl _)), rfl, _, rfl⟩

theorem bcode_ok (id : Nat) (b : List UInt8) (a : Nat) (nl : Bool) (σ : AS) (hnl : nl = true → b = []) (h : σ id = some (rdC b a nl)) (hl : b.length ≤ 140737488355328) (n : Int) (l : List UInt8) (a' : Nat) (he : eCode b a n = .ok (l, a')) :
    ACalls Try.prog 68 [rdV id, .sc (.int .i64 n)] σ (Gives (.lst 5 (l.map u8) .unk false) (σ.set id (rdC b a' nl))) No := by
  have hneed := fun e σ => need_ok e σ
  unfold eCode at he
  by_cases c1 : n < 1 ∨ 65535 < n
  · rw [if_pos c1] at he; cases he
  rw [if_neg c1] at he
  by_cases c2 : a + n ≤ b.length
  · rw [if_pos c2] at he
    cases he
    have p1 : 0 < n := by omega
    have p2 : n ≤ 65535 := by omega
    have hnl' : nl = false := by
      cases nl with
      | false => rfl
      | true => have := hnl rfl; subst this; simp at c2; omega
    subst hnl'
    have hn := fun σ h => take_ok id b a n false σ (by simp) h (by omega) (by omega) hl (by omega) (by omega)
    refine ACalls.of_body Try.func68 rfl rfl (by simp [Try.ntmps68]) ?_
    simp only [rdV]
    repeat (first
      | (with_reducible apply AWp.seq)
      | (with_reducible apply AWp.block)
      | ((with_reducible apply AWp.fork); simp -implicitDefEqProofs)
      | ((with_reducible apply AWp.region); simp -implicitDefEqProofs)
      | (with_reducible refine And.intro (by first | omega | assumption | decide) ?_)
      | ((with_reducible apply AWp.ret); try simp -implicitDefEqProofs)
      | ((with_reducible apply AWp.skip); try simp -implicitDefEqProofs)
      | ((with_reducible apply AWp.exit); try simp -implicitDefEqProofs))
    intro id2 h_id2
    have n1 : id ≠ id2 := by rintro rfl; rw [h] at h_id2; cases h_id2
    have n1' : ¬ id2 = id := fun e => n1 e.symm
    repeat (first
      | (with_reducible apply AWp.seq)
      | (with_reducible apply AWp.block)
      | ((with_reducible apply AWp.fork); simp -implicitDefEqProofs [n1, n1', h, p1, p2])
      | ((with_reducible apply AWp.region); simp -implicitDefEqProofs [n1, n1', h, p1, p2])
      | (with_reducible refine And.intro (by first | omega | assumption | decide) ?_)
      | ((with_reducible show condK _ _ _); simp -implicitDefEqProofs [n1, n1', h, p1, p2])
      | ((with_reducible show guardK _ _ _ _ _ _ _ _ _); simp -implicitDefEqProofs [n1, n1', h, p1, p2])
      | ((with_reducible apply aCall.id); first
          | ((apply aCall.gives (hneed _ _)); simp -implicitDefEqProofs [n1, n1', h, p1, p2]))
      | ((with_reducible apply AWp.ret); try simp -implicitDefEqProofs [n1, n1', h, p1, p2])
      | ((with_reducible apply AWp.skip); try simp -implicitDefEqProofs [n1, n1', h, p1, p2])
      | ((with_reducible apply AWp.exit); try simp -implicitDefEqProofs [n1, n1', h, p1, p2]))
    refine aCall.of (hn _ (by simp [AS.set, n1, h])) ?_ (fun _ _ h => h.elim)
    rintro r σ1 ⟨tk, htk, rfl, rfl⟩
    simp -implicitDefEqProofs
    repeat (first
      | (with_reducible apply AWp.seq)
      | (with_reducible apply AWp.block)
      | ((with_reducible apply AWp.fork); simp -implicitDefEqProofs [n1, n1', h, p1, p2])
      | ((with_reducible apply AWp.region); simp -implicitDefEqProofs [n1, n1', h, p1, p2])
      | (with_reducible refine And.intro (by first | omega | assumption | decide) ?_)
      | ((with_reducible show condK _ _ _); simp -implicitDefEqProofs [n1, n1', h, p1, p2])
      | ((with_reducible show guardK _ _ _ _ _ _ _ _ _); simp -implicitDefEqProofs [n1, n1', h, p1, p2])
      | ((with_reducible apply aCall.id); first
          | ((apply aCall.gives (hneed _ _)); simp -implicitDefEqProofs [n1, n1', h, p1, p2]))
      | ((with_reducible apply AWp.ret); try simp -implicitDefEqProofs [n1, n1', h, p1, p2])
      | ((with_reducible apply AWp.skip); try simp -implicitDefEqProofs [n1, n1', h, p1, p2])
      | ((with_reducible apply AWp.exit); try simp -implicitDefEqProofs [n1, n1', h, p1, p2]))
    have e : (a : Int) + max n 0 = a + n := by omega
    have t1 : tk ≠ id := by rintro rfl; simp [AS.set, n1, h] at htk
    rw [e]
    exact le_new (by simp [AS.set, t1] at htk ⊢; exact htk) (le_set (le_new h_id2 (AS.le_refl _)))
  · rw [if_neg c2] at he; cases he

theorem bcode_bad (id : Nat) (b : List UInt8) (a : Nat) (nl : Bool) (σ : AS) (h : σ id = some (rdC b a nl)) (ha : a ≤ b.length) (hl : b.length ≤ 140737488355328) (n e : Int) (he : eCode b a n = .error e) :
    ACalls Try.prog 68 [rdV id, .sc (.int .i64 n)] σ No (Thr b nl id e σ) := by
  have hneed := fun e σ => need_ok e σ
  have hbad := fun e σ => need_bad e σ
  unfold eCode at he
  by_cases c1 : n < 1 ∨ 65535 < n
  · rw [if_pos c1] at he
    cases he
    refine ACalls.of_body Try.func68 rfl rfl (by simp [Try.ntmps68]) ?_
    simp only [rdV]
    by_cases p1 : 0 < n
    · have p2 : ¬ n ≤ 65535 := by omega
      repeat (first
        | (with_reducible apply AWp.seq)
        | (with_reducible apply AWp.block)
        | ((with_reducible apply AWp.fork); simp -implicitDefEqProofs)
        | ((with_reducible apply AWp.region); simp -implicitDefEqProofs)
        | (with_reducible refine And.intro (by first | omega | assumption | decide) ?_)
        | ((with_reducible apply AWp.ret); try simp -implicitDefEqProofs)
        | ((with_reducible apply AWp.skip); try simp -implicitDefEqProofs)
        | ((with_reducible apply AWp.exit); try simp -implicitDefEqProofs))
      intro id2 h_id2
      repeat (first
        | (with_reducible apply AWp.seq)
        | (with_reducible apply AWp.block)
        | ((with_reducible apply AWp.fork); simp -implicitDefEqProofs [p1, p2])
        | ((with_reducible apply AWp.region); simp -implicitDefEqProofs [p1, p2])
        | (with_reducible refine And.intro (by first | omega | assumption | decide) ?_)
        | ((with_reducible show condK _ _ _); simp -implicitDefEqProofs [p1, p2])
        | ((with_reducible show guardK _ _ _ _ _ _ _ _ _); simp -implicitDefEqProofs [p1, p2])
        | ((with_reducible apply aCall.id); first
            | ((apply aCall.gp (hbad _ _)); simp -implicitDefEqProofs [p1, p2]))
        | ((with_reducible apply AWp.ret); try simp -implicitDefEqProofs [p1, p2])
        | ((with_reducible apply AWp.skip); try simp -implicitDefEqProofs [p1, p2])
        | ((with_reducible apply AWp.exit); try simp -implicitDefEqProofs [p1, p2]))
      exact ⟨σ, le_new h_id2 (AS.le_refl _), rfl, a, (set_self h).symm⟩
    · repeat (first
        | (with_reducible apply AWp.seq)
        | (with_reducible apply AWp.block)
        | ((with_reducible apply AWp.fork); simp -implicitDefEqProofs)
        | ((with_reducible apply AWp.region); simp -implicitDefEqProofs)
        | (with_reducible refine And.intro (by first | omega | assumption | decide) ?_)
        | ((with_reducible apply AWp.ret); try simp -implicitDefEqProofs)
        | ((with_reducible apply AWp.skip); try simp -implicitDefEqProofs)
        | ((with_reducible apply AWp.exit); try simp -implicitDefEqProofs))
      intro id2 h_id2
      repeat (first
        | (with_reducible apply AWp.seq)
        | (with_reducible apply AWp.block)
        | ((with_reducible apply AWp.fork); simp -implicitDefEqProofs [p1])
        | ((with_reducible apply AWp.region); simp -implicitDefEqProofs [p1])
        | (with_reducible refine And.intro (by first | omega | assumption | decide) ?_)
        | ((with_reducible show condK _ _ _); simp -implicitDefEqProofs [p1])
        | ((with_reducible show guardK _ _ _ _ _ _ _ _ _); simp -implicitDefEqProofs [p1])
        | ((with_reducible apply aCall.id); first
            | ((apply aCall.gp (hbad _ _)); simp -implicitDefEqProofs [p1]))
        | ((with_reducible apply AWp.ret); try simp -implicitDefEqProofs [p1])
        | ((with_reducible apply AWp.skip); try simp -implicitDefEqProofs [p1])
        | ((with_reducible apply AWp.exit); try simp -implicitDefEqProofs [p1]))
      exact ⟨σ, le_new h_id2 (AS.le_refl _), rfl, a, (set_self h).symm⟩
  rw [if_neg c1] at he
  by_cases c2 : a + n ≤ b.length
  · rw [if_pos c2] at he; cases he
  · rw [if_neg c2] at he
    cases he
    have p1 : 0 < n := by omega
    have p2 : n ≤ 65535 := by omega
    have hE : skipE b a n = 1 := by simp [skipE]; omega
    have hn := fun σ h => take_bad id b a n nl σ h (by omega) (by omega) hl (by omega)
    rw [hE] at hn
    refine ACalls.of_body Try.func68 rfl rfl (by simp [Try.ntmps68]) ?_
    simp only [rdV]
    repeat (first
      | (with_reducible apply AWp.seq)
      | (with_reducible apply AWp.block)
      | ((with_reducible apply AWp.fork); simp -implicitDefEqProofs)
      | ((with_reducible apply AWp.region); simp -implicitDefEqProofs)
      | (with_reducible refine And.intro (by first | omega | assumption | decide) ?_)
      | ((with_reducible apply AWp.ret); try simp -implicitDefEqProofs)
      | ((with_reducible apply AWp.skip); try simp -implicitDefEqProofs)
      | ((with_reducible apply AWp.exit); try simp -implicitDefEqProofs))
    intro id2 h_id2
    have n1 : id ≠ id2 := by rintro rfl; rw [h] at h_id2; cases h_id2
    have n1' : ¬ id2 = id := fun e => n1 e.symm
    repeat (first
      | (with_reducible apply AWp.seq)
      | (with_reducible apply AWp.block)
      | ((with_reducible apply AWp.fork); simp -implicitDefEqProofs [n1, n1', h, p1, p2])
      | ((with_reducible apply AWp.region); simp -implicitDefEqProofs [n1, n1', h, p1, p2])
      | (with_reducible refine And.intro (by first | omega | assumption | decide) ?_)
      | ((with_reducible show condK _ _ _); simp -implicitDefEqProofs [n1, n1', h, p1, p2])
      | ((with_reducible show guardK _ _ _ _ _ _ _ _ _); simp -implicitDefEqProofs [n1, n1', h, p1, p2])
      | ((with_reducible apply aCall.id); first
          | ((apply aCall.gives (hneed _ _)); simp -implicitDefEqProofs [n1, n1', h, p1, p2])
          | ((apply aCall.gives (hn _ (by simp [AS.set, n1, h]))); simp -implicitDefEqProofs [n1, n1', h, p1, p2]))
      | ((with_reducible apply AWp.ret); try simp -implicitDefEqProofs [n1, n1', h, p1, p2])
      | ((with_reducible apply AWp.skip); try simp -implicitDefEqProofs [n1, n1', h, p1, p2])
      | ((with_reducible apply AWp.exit); try simp -implicitDefEqProofs [n1, n1', h, p1, p2]))
    repeat (first
      | (with_reducible apply AWp.seq)
      | (with_reducible apply AWp.block)
      | ((with_reducible apply AWp.fork); simp -implicitDefEqProofs [n1, n1', h, p1, p2])
      | ((with_reducible apply AWp.region); simp -implicitDefEqProofs [n1, n1', h, p1, p2])
      | (with_reducible refine And.intro (by first | omega | assumption | decide) ?_)
      | ((with_reducible show condK _ _ _); simp -implicitDefEqProofs [n1, n1', h, p1, p2])
      | ((with_reducible show guardK _ _ _ _ _ _ _ _ _); simp -implicitDefEqProofs [n1, n1', h, p1, p2])
      | ((with_reducible apply aCall.id); first
          | ((apply aCall.gp (hbad _ _)); simp -implicitDefEqProofs [n1, n1', h, p1, p2]))
      | ((with_reducible apply AWp.ret); try simp -implicitDefEqProofs [n1, n1', h, p1, p2])
      | ((with_reducible apply AWp.skip); try simp -implicitDefEqProofs [n1, n1', h, p1, p2])
      | ((with_reducible apply AWp.exit); try simp -implicitDefEqProofs [n1, n1', h, p1, p2]))
    exact ⟨σ, le_new h_id2 (AS.le_refl _), rfl, a, (set_self h).symm⟩

/-! the same from a state that tells where the reader stands -/
theorem Thr_set (b : List UInt8) (nl : Bool) (id : Nat) (e : Int) (B : AS) (x : ABlk) : Thr b nl id e (B.set id x) = Thr b nl id e B := by
  funext p σ'
  simp [Thr]
theorem bat_B (id : Nat) (b : List UInt8) (a : Nat) (nl : Bool) (B : AS) : ACalls Try.prog 40 [.ptr id 0] (B.set id (rdC b a nl)) (Gives (.sc (.int .i64 a)) (B.set id (rdC b a nl))) No :=
  at_ok id b a nl _ (by simp)
theorem bnum_okB (id : Nat) (b : List UInt8) (a n : Nat) (nl : Bool) (B : AS) (hl : b.length ≤ 140737488355328) (hw : wide n = true) (h4 : n ≤ 4) (v : Int) (a' : Nat) (he : eNum b a n = .ok (v, a')) :
    ACalls Try.prog 67 [rdV id, .sc (.int .i64 n)] (B.set id (rdC b a nl)) (Gives (.sc (.int .i64 v)) (B.set id (rdC b a' nl))) No := by
  have h := bnum_ok id b a n nl (B.set id (rdC b a nl)) (by simp) hl hw h4 v a' he
  simpa only [AS.set_set] using h
theorem bnum_badB (id : Nat) (b : List UInt8) (a n : Nat) (nl : Bool) (B : AS) (ha : a ≤ b.length) (hl : b.length ≤ 140737488355328) (hw : wide n = true) (e : Int) (he : eNum b a n = .error e) :
    ACalls Try.prog 67 [rdV id, .sc (.int .i64 n)] (B.set id (rdC b a nl)) No (Thr b nl id e B) := by
  have h := bnum_bad id b a n nl (B.set id (rdC b a nl)) (by simp) ha hl hw e he
  rwa [Thr_set] at h
theorem bmust_okB (id : Nat) (b : List UInt8) (a : Nat) (nl : Bool) (B : AS) (hl : b.length ≤ 140737488355328) (c : Int) (a' : Nat) (he : eMust b a c = .ok a') :
    ACalls Try.prog 70 [rdV id, .sc (.int .i64 c)] (B.set id (rdC b a nl)) (Gives (.tup []) (B.set id (rdC b a' nl))) No := by
  have h := bmust_ok id b a nl (B.set id (rdC b a nl)) (by simp) hl c a' he
  simpa only [AS.set_set] using h
theorem bmust_badB (id : Nat) (b : List UInt8) (a : Nat) (nl : Bool) (B : AS) (ha : a ≤ b.length) (hl : b.length ≤ 140737488355328) (c e : Int) (he : eMust b a c = .error e) :
    ACalls Try.prog 70 [rdV id, .sc (.int .i64 c)] (B.set id (rdC b a nl)) No (Thr b nl id e B) := by
  have h := bmust_bad id b a nl (B.set id (rdC b a nl)) (by simp) ha hl c e he
  rwa [Thr_set] at h
theorem bcode_okB (id : Nat) (b : List UInt8) (a : Nat) (nl : Bool) (B : AS) (hnl : nl = true → b = []) (hl : b.length ≤ 140737488355328) (n : Int) (l : List UInt8) (a' : Nat) (he : eCode b a n = .ok (l, a')) :
    ACalls Try.prog 68 [rdV id, .sc (.int .i64 n)] (B.set id (rdC b a nl)) (Gives (.lst 5 (l.map u8) .unk false) (B.set id (rdC b a' nl))) No := by
  have h := bcode_ok id b a nl (B.set id (rdC b a nl)) hnl (by simp) hl n l a' he
  simpa only [AS.set_set] using h
theorem bcode_badB (id : Nat) (b : List UInt8) (a : Nat) (nl : Bool) (B : AS) (ha : a ≤ b.length) (hl : b.length ≤ 140737488355328) (n e : Int) (he : eCode b a n = .error e) :
    ACalls Try.prog 68 [rdV id, .sc (.int .i64 n)] (B.set id (rdC b a nl)) No (Thr b nl id e B) := by
  have h := bcode_bad id b a nl (B.set id (rdC b a nl)) (by simp) ha hl n e he
  rwa [Thr_set] at h

end Go.Proofs.Ytnkjbgcbchbonaa
