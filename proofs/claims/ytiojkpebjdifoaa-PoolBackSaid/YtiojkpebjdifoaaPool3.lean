/- Package pool: the builder. -/
import Derived.Test.YtiojkpebjdifoaaPool2
set_option linter.unusedSimpArgs false
set_option linter.unusedVariables false
set_option maxRecDepth 100000
set_option maxHeartbeats 3200000
namespace Go.Proofs.Ytiojkpebjdifoaa
open Go Go.AW

/-- The place of the first that is so. -/
def idxP {α : Type} (p : α → Bool) : List α → Option Nat
  | [] => none
  | x :: r => if p x then some 0 else (idxP p r).map (· + 1)
def idxPI {α : Type} (p : α → Bool) (l : List α) : Int := match idxP p l with | some i => i | none => -1
theorem idxPI_any {α : Type} (p : α → Bool) (l : List α) : decide (0 ≤ idxPI p l) = l.any p := by
  unfold idxPI
  have : (idxP p l).isSome = l.any p := by
    induction l with
    | nil => rfl
    | cons x r ih => by_cases h : p x <;> simp [idxP, h, ih]
  cases h : idxP p l with
  | none => rw [h] at this; simp at this; simp [← this]; simpa using this
  | some k => rw [h] at this; simp [← this]

def sV (l : List UInt8) : AV := .sc (.string ⟨l.toArray⟩)

theorem names1_ok (l : List UInt8) (hl : l.length ≤ 140737488355328) (σ : AS) : ACalls Try.prog 52 [sV l] σ (Gives (.sc (.bool (!fineB l))) σ) No := by
  refine ACalls.of_body Try.func52 rfl rfl (by simp [Try.ntmps52]) ?_
  simp only [sV]
  repeat (first
    | (with_reducible apply AWp.seq)
    | (with_reducible apply AWp.block)
    | ((with_reducible apply AWp.fork); simp -implicitDefEqProofs)
    | ((with_reducible apply AWp.region); simp -implicitDefEqProofs)
    | (with_reducible refine And.intro (by first | omega | assumption | decide) ?_)
    | ((with_reducible apply aCall.id); first
        | ((apply aCall.gives (fine_ok l hl _)); simp -implicitDefEqProofs))
    | ((with_reducible apply AWp.ret); try simp -implicitDefEqProofs)
    | ((with_reducible apply AWp.skip); try simp -implicitDefEqProofs)
    | ((with_reducible apply AWp.exit); try simp -implicitDefEqProofs))

def ifI (l : List (List UInt8)) (nl : Bool) (o : Own) (σ : AS) (m : Nat) (fr : Fr) (σ' : AS) : Prop :=
  ∃ i : Nat, m = l.length - i ∧ i ≤ l.length ∧ idxP (fun s => !fineB s) l = (idxP (fun s => !fineB s) (l.drop i)).map (· + i) ∧ σ' = σ ∧
    fr = mkF [(0, .lst 9 (l.map sV) o nl), (1, .sc (.func (.func 52) #[] #[])), (7, .sc (.int .i64 l.length)), (8, .sc (.int .i64 i))]

theorem indexf_ok (l : List (List UInt8)) (nl : Bool) (o : Own) (hl : l.length ≤ 140737488355328) (hs : ∀ s ∈ l, s.length ≤ 140737488355328) (σ : AS) :
    ACalls Try.prog 59 [.lst 9 (l.map sV) o nl, .sc (.func (.func 52) #[] #[])] σ (Gives (.sc (.int .i64 (idxPI (fun s => !fineB s) l))) σ) No := by
  refine ACalls.of_body Try.func59 rfl rfl (by simp [Try.ntmps59]) ?_
  repeat (first
    | (with_reducible apply AWp.seq)
    | (with_reducible apply AWp.block)
    | ((with_reducible apply AWp.fork); simp -implicitDefEqProofs)
    | ((with_reducible apply AWp.region); simp -implicitDefEqProofs)
    | (with_reducible refine And.intro (by first | omega | assumption | decide) ?_)
    | ((with_reducible apply AWp.ret); try simp -implicitDefEqProofs)
    | ((with_reducible apply AWp.skip); try simp -implicitDefEqProofs)
    | ((with_reducible apply AWp.exit); try simp -implicitDefEqProofs))
  refine AWp.loopI (ifI l nl o σ) (k0 := l.length) ⟨0, by omega, by omega, by simp, rfl, rfl⟩ (FrWk.mk (by simp)) (AS.le_refl _) ?_
  rintro m fr σ' ⟨i, hm, hi, hA, rfl, rfl⟩
  by_cases hlt : i < l.length
  · obtain ⟨c, hg, hd, hmem, _⟩ := at_lt l hlt
    obtain ⟨_, hg'⟩ := List.getElem?_eq_some_iff.1 hg
    have hI : ((i : Int) < l.length) = True := by simp; omega
    have hf := fun σ => names1_ok c (hs c hmem) σ
    rw [hd] at hA
    simp only [idxP] at hA
    cases c0 : fineB c with
    | false =>
      rw [c0] at hf
      simp [c0] at hA
      repeat (first
        | (with_reducible apply AWp.seq)
        | (with_reducible apply AWp.block)
        | ((with_reducible apply AWp.fork); simp -implicitDefEqProofs [hI, hlt, hg, hg', sV])
        | ((with_reducible apply AWp.region); simp -implicitDefEqProofs [hI, hlt, hg, hg', sV])
        | (with_reducible refine And.intro (by first | omega | assumption | decide) ?_)
        | ((with_reducible show condK _ _ _); simp -implicitDefEqProofs [hI, hlt, hg, hg', sV])
        | ((with_reducible show guardK _ _ _ _ _ _ _ _ _); simp -implicitDefEqProofs [hI, hlt, hg, hg', sV])
        | ((with_reducible apply aCall.id); first
            | ((apply aCall.gives (hf _)); simp -implicitDefEqProofs [hI, hlt, hg, hg', sV]))
        | ((with_reducible apply AWp.ret); try simp -implicitDefEqProofs [hI, hlt, hg, hg', sV])
        | ((with_reducible apply AWp.skip); try simp -implicitDefEqProofs [hI, hlt, hg, hg', sV])
        | ((with_reducible apply AWp.exit); try simp -implicitDefEqProofs [hI, hlt, hg, hg', sV]))
      simp [idxPI, hA]
    | true =>
      rw [c0] at hf
      simp only [c0, Bool.not_true, Bool.false_eq_true, if_false] at hA
      repeat (first
        | (with_reducible apply AWp.seq)
        | (with_reducible apply AWp.block)
        | ((with_reducible apply AWp.fork); simp -implicitDefEqProofs [hI, hlt, hg, hg', sV])
        | ((with_reducible apply AWp.region); simp -implicitDefEqProofs [hI, hlt, hg, hg', sV])
        | (with_reducible refine And.intro (by first | omega | assumption | decide) ?_)
        | ((with_reducible show condK _ _ _); simp -implicitDefEqProofs [hI, hlt, hg, hg', sV])
        | ((with_reducible show guardK _ _ _ _ _ _ _ _ _); simp -implicitDefEqProofs [hI, hlt, hg, hg', sV])
        | ((with_reducible apply aCall.id); first
            | ((apply aCall.gives (hf _)); simp -implicitDefEqProofs [hI, hlt, hg, hg', sV]))
        | ((with_reducible apply AWp.ret); try simp -implicitDefEqProofs [hI, hlt, hg, hg', sV])
        | ((with_reducible apply AWp.skip); try simp -implicitDefEqProofs [hI, hlt, hg, hg', sV])
        | ((with_reducible apply AWp.exit); try simp -implicitDefEqProofs [hI, hlt, hg, hg', sV]))
      refine ⟨m - 1, _, _, by omega, FrWk.mk ?_, AS.le_refl _, i + 1, by omega, by omega, ?_, rfl, rfl⟩
      · simp [wInc (show i < 4000000000000000000 by omega), sV]
      · rw [hA, Option.map_map]
        congr 1
        funext x
        simp; omega
  · have hI : ((i : Int) < l.length) = False := by simp; omega
    have : l.drop i = [] := List.drop_eq_nil_of_le (by omega)
    rw [this] at hA
    repeat (first
      | (with_reducible apply AWp.seq)
      | (with_reducible apply AWp.block)
      | ((with_reducible apply AWp.fork); simp -implicitDefEqProofs [hI])
      | ((with_reducible apply AWp.region); simp -implicitDefEqProofs [hI])
      | (with_reducible refine And.intro (by first | omega | assumption | decide) ?_)
      | ((with_reducible show condK _ _ _); simp -implicitDefEqProofs [hI])
      | ((with_reducible show guardK _ _ _ _ _ _ _ _ _); simp -implicitDefEqProofs [hI])
      | ((with_reducible apply AWp.ret); try simp -implicitDefEqProofs [hI])
      | ((with_reducible apply AWp.skip); try simp -implicitDefEqProofs [hI])
      | ((with_reducible apply AWp.exit); try simp -implicitDefEqProofs [hI]))
    simp [idxPI, hA, idxP]

theorem any_not_all {α : Type} (p : α → Bool) (l : List α) : l.any (fun s => !p s) = !l.all p := by
  induction l with
  | nil => rfl
  | cons x r ih => simp [ih]

theorem contf_ok (l : List (List UInt8)) (nl : Bool) (o : Own) (hl : l.length ≤ 140737488355328) (hs : ∀ s ∈ l, s.length ≤ 140737488355328) (σ : AS) :
    ACalls Try.prog 51 [.lst 9 (l.map sV) o nl, .sc (.func (.func 52) #[] #[])] σ (Gives (.sc (.bool (!l.all fineB))) σ) No := by
  refine ACalls.of_body Try.func51 rfl rfl (by simp [Try.ntmps51]) ?_
  repeat (first
    | (with_reducible apply AWp.seq)
    | (with_reducible apply AWp.block)
    | ((with_reducible apply AWp.fork); simp -implicitDefEqProofs)
    | ((with_reducible apply AWp.region); simp -implicitDefEqProofs)
    | (with_reducible refine And.intro (by first | omega | assumption | decide) ?_)
    | ((with_reducible apply aCall.id); first
        | ((apply aCall.gives (indexf_ok l nl o hl hs _)); simp -implicitDefEqProofs))
    | ((with_reducible apply AWp.ret); try simp -implicitDefEqProofs)
    | ((with_reducible apply AWp.skip); try simp -implicitDefEqProofs)
    | ((with_reducible apply AWp.exit); try simp -implicitDefEqProofs))
  refine wk_b ?_
  rw [idxPI_any, any_not_all]

def bldT : Nat := 97
def bldC (pool : List UInt8) (o : Own) (mid : Nat) : ABlk := .cells 97 [.lst 5 (pool.map u8) o false, .mp mid]

theorem fresh_ok (σ : AS) : ACalls Try.prog 53 [] σ (fun r σ' => ∃ bid mid, σ bid = none ∧ σ mid = none ∧ bid ≠ mid ∧ r = .ptr bid 0 ∧ σ' = (σ.set mid (.map (skvs []))).set bid (bldC [0] .full mid)) No := by
  refine ACalls.of_body Try.func53 rfl rfl (by simp [Try.ntmps53]) ?_
  repeat (first
    | (with_reducible apply AWp.seq)
    | (with_reducible apply AWp.block)
    | ((with_reducible apply AWp.fork); simp -implicitDefEqProofs)
    | ((with_reducible apply AWp.region); simp -implicitDefEqProofs)
    | (with_reducible refine And.intro (by first | omega | assumption | decide) ?_)
    | ((with_reducible apply AWp.ret); try simp -implicitDefEqProofs)
    | ((with_reducible apply AWp.skip); try simp -implicitDefEqProofs)
    | ((with_reducible apply AWp.exit); try simp -implicitDefEqProofs))
  unfold mapK
  intro mid h_mid
  simp -implicitDefEqProofs
  intro bid n_bid_mid h_bid
  have n_mid_bid : ¬ mid = bid := fun e => n_bid_mid e.symm
  repeat (first
    | (with_reducible apply AWp.seq)
    | (with_reducible apply AWp.block)
    | ((with_reducible apply AWp.fork); simp -implicitDefEqProofs [n_bid_mid, n_mid_bid])
    | ((with_reducible apply AWp.region); simp -implicitDefEqProofs [n_bid_mid, n_mid_bid])
    | (with_reducible refine And.intro (by first | omega | assumption | decide) ?_)
    | ((with_reducible show condK _ _ _); simp -implicitDefEqProofs [n_bid_mid, n_mid_bid])
    | ((with_reducible show guardK _ _ _ _ _ _ _ _ _); simp -implicitDefEqProofs [n_bid_mid, n_mid_bid])
    | ((with_reducible apply AWp.ret); try simp -implicitDefEqProofs [n_bid_mid, n_mid_bid])
    | ((with_reducible apply AWp.skip); try simp -implicitDefEqProofs [n_bid_mid, n_mid_bid])
    | ((with_reducible apply AWp.exit); try simp -implicitDefEqProofs [n_bid_mid, n_mid_bid]))
  exact ⟨_, _, Wk.refl _, AS.le_refl _, bid, h_bid, mid, h_mid, n_bid_mid, rfl, rfl⟩

/-- A pool's owner: nobody, or a token. -/
def PS (o : Own) (n : Nat) (σ0 σ : AS) : Prop := (o = .full ∧ σ = σ0) ∨ (∃ tk, o = .tok tk ∧ σ0 tk = none ∧ σ = σ0.set tk (.tok n))

theorem names2_ok (pool s : List UInt8) (o : Own) (sid : Nat) (σ0 σ : AS) (hp : PS o pool.length σ0 σ) (hsid : σ0 sid = some (.cells 9 [sV s])) (h1 : pool.length ≤ 1000000) (h2 : s.length ≤ 1000000) :
    ACalls Try.prog 55 [.lst 5 (pool.map u8) o false, .ptr sid 0] σ (Owns (fun tk => .lst 5 ((pool ++ s ++ [0]).map u8) (.tok tk) false) (pool ++ s ++ [0]).length σ0) No := by
  refine ACalls.of_body Try.func55 rfl rfl (by simp [Try.ntmps55]) ?_
  rcases hp with ⟨rfl, rfl⟩ | ⟨tk, rfl, htk, rfl⟩
  · repeat (first
      | (with_reducible apply AWp.seq)
      | (with_reducible apply AWp.block)
      | ((with_reducible apply AWp.fork); simp -implicitDefEqProofs [hsid, sV])
      | ((with_reducible apply AWp.region); simp -implicitDefEqProofs [hsid, sV])
      | (with_reducible refine And.intro (by first | omega | assumption | decide) ?_)
      | ((with_reducible show condK _ _ _); simp -implicitDefEqProofs [hsid, sV])
      | ((with_reducible show guardK _ _ _ _ _ _ _ _ _); simp -implicitDefEqProofs [hsid, sV])
      | ((with_reducible apply AWp.ret); try simp -implicitDefEqProofs [hsid, sV])
      | ((with_reducible apply AWp.skip); try simp -implicitDefEqProofs [hsid, sV])
      | ((with_reducible apply AWp.exit); try simp -implicitDefEqProofs [hsid, sV]))
    intro tk h_tk
    repeat (first
      | (with_reducible apply AWp.seq)
      | (with_reducible apply AWp.block)
      | ((with_reducible apply AWp.fork); simp -implicitDefEqProofs)
      | ((with_reducible apply AWp.region); simp -implicitDefEqProofs)
      | (with_reducible refine And.intro (by first | omega | assumption | decide) ?_)
      | ((with_reducible apply AWp.ret); try simp -implicitDefEqProofs)
      | ((with_reducible apply AWp.skip); try simp -implicitDefEqProofs)
      | ((with_reducible apply AWp.exit); try simp -implicitDefEqProofs))
    refine owns_end tk h_tk (wk_eq (by first | rfl | simp)) ?_
    exact le_tok (AS.le_refl _) (by first | omega | (simp; omega))
  · have n1 : ¬ sid = tk := by intro e; subst e; rw [htk] at hsid; cases hsid
    have n2 : ¬ tk = sid := fun e => n1 e.symm
    repeat (first
      | (with_reducible apply AWp.seq)
      | (with_reducible apply AWp.block)
      | ((with_reducible apply AWp.fork); simp -implicitDefEqProofs [hsid, sV, n1, n2])
      | ((with_reducible apply AWp.region); simp -implicitDefEqProofs [hsid, sV, n1, n2])
      | (with_reducible refine And.intro (by first | omega | assumption | decide) ?_)
      | ((with_reducible show condK _ _ _); simp -implicitDefEqProofs [hsid, sV, n1, n2])
      | ((with_reducible show guardK _ _ _ _ _ _ _ _ _); simp -implicitDefEqProofs [hsid, sV, n1, n2])
      | ((with_reducible apply AWp.ret); try simp -implicitDefEqProofs [hsid, sV, n1, n2])
      | ((with_reducible apply AWp.skip); try simp -implicitDefEqProofs [hsid, sV, n1, n2])
      | ((with_reducible apply AWp.exit); try simp -implicitDefEqProofs [hsid, sV, n1, n2]))
    refine owns_end tk htk (wk_eq (by first | rfl | simp)) ?_
    exact le_tok (AS.le_refl _) (by first | omega | (simp; omega))

/-- .. of a heap where more is known. -/
theorem PS.le {o : Own} {n : Nat} {σ0 σ : AS} (h : PS o n σ0 σ) : AS.le σ0 σ := by
  rcases h with ⟨_, rfl⟩ | ⟨tk, _, htk, rfl⟩
  · exact AS.le_refl _
  · exact le_new htk (AS.le_refl _)

theorem put_hit (bid mid : Nat) (pool s : List UInt8) (o : Own) (kvs : List (ByteArray × AV)) (at' : Int) (fv : AV) (σ : AS) (h1 : σ bid = some (bldC pool o mid)) (h2 : σ mid = some (.map (skvs kvs))) (hf : findS ⟨s.toArray⟩ kvs = some (.sc (.int .i64 at'))) :
    ACalls Try.prog 54 [.ptr bid 0, sV s, fv] σ (Gives (.sc (.int .i64 at')) σ) No := by
  refine ACalls.of_body Try.func54 rfl rfl (by simp [Try.ntmps54]) ?_
  simp only [sV, bldC] at h1 ⊢
  repeat (first
    | (with_reducible apply AWp.seq)
    | (with_reducible apply AWp.block)
    | ((with_reducible apply AWp.fork); simp -implicitDefEqProofs)
    | ((fail_if_success (with_reducible apply AWp.region (id := 1))); (with_reducible apply AWp.region); simp -implicitDefEqProofs)
    | (with_reducible refine And.intro (by first | omega | assumption | decide) ?_)
    | ((with_reducible apply AWp.ret); try simp -implicitDefEqProofs)
    | ((with_reducible apply AWp.skip); try simp -implicitDefEqProofs)
    | ((with_reducible apply AWp.exit); try simp -implicitDefEqProofs))
  with_reducible apply AWp.regionS
  refine sOps.first 5 ?_
  simp -implicitDefEqProofs [h1]
  refine sOps.sp rfl (SOp.lookup (by decide) mid ⟨s.toArray⟩ kvs Try.underlying95 Try.underlying9 (by simp) (by simp) (by simp) h2 ?_)
  refine sOps.rest ?_
  simp -implicitDefEqProofs [lookV, hf]
  repeat (first
    | (with_reducible apply AWp.seq)
    | (with_reducible apply AWp.block)
    | ((with_reducible apply AWp.fork); simp -implicitDefEqProofs)
    | ((with_reducible apply AWp.region); simp -implicitDefEqProofs)
    | (with_reducible refine And.intro (by first | omega | assumption | decide) ?_)
    | ((with_reducible apply AWp.ret); try simp -implicitDefEqProofs)
    | ((with_reducible apply AWp.skip); try simp -implicitDefEqProofs)
    | ((with_reducible apply AWp.exit); try simp -implicitDefEqProofs))

theorem put_new (bid mid : Nat) (pool pool' s : List UInt8) (o : Own) (kvs : List (ByteArray × AV)) (f : Nat) (caps : List AV) (σ0 σ : AS) (hne : ¬ bid = mid) (h1 : σ0 bid = some (bldC pool o mid)) (h2 : σ0 mid = some (.map (skvs kvs))) (hp : PS o pool.length σ0 σ)
    (hf : findS ⟨s.toArray⟩ kvs = none) (hl : pool.length ≤ 1000000)
    (ht : ACalls Try.prog f ([.lst 5 (pool.map u8) o false] ++ caps) σ (Owns (fun tk => .lst 5 (pool'.map u8) (.tok tk) false) pool'.length σ0) No) :
    ACalls Try.prog 54 [.ptr bid 0, sV s, .fn (.func f) [] caps] σ
      (fun r σ' => ∃ tk, σ0 tk = none ∧ r = .sc (.int .i64 pool.length) ∧ σ' = ((σ0.set tk (.tok pool'.length)).set bid (bldC pool' (.tok tk) mid)).set mid (.map (skvs (updS ⟨s.toArray⟩ (.sc (.int .i64 pool.length)) kvs)))) No := by
  have g1 := hp.le bid _ h1
  have g2 := hp.le mid _ h2
  have hz : zeroAV Try.prog 3 = .sc (.int .i64 0) := by simp
  refine ACalls.of_body Try.func54 rfl rfl (by simp [Try.ntmps54]) ?_
  simp only [sV, bldC] at h1 g1 ⊢
  repeat (first
    | (with_reducible apply AWp.seq)
    | (with_reducible apply AWp.block)
    | ((with_reducible apply AWp.fork); simp -implicitDefEqProofs)
    | ((fail_if_success (with_reducible apply AWp.region (id := 1))); (fail_if_success (with_reducible apply AWp.region (id := 4))); (fail_if_success (with_reducible apply AWp.region (id := 5))); (with_reducible apply AWp.region); simp -implicitDefEqProofs)
    | (with_reducible refine And.intro (by first | omega | assumption | decide) ?_)
    | ((with_reducible apply AWp.ret); try simp -implicitDefEqProofs)
    | ((with_reducible apply AWp.skip); try simp -implicitDefEqProofs)
    | ((with_reducible apply AWp.exit); try simp -implicitDefEqProofs))
  with_reducible apply AWp.regionS
  refine sOps.first 5 ?_
  simp -implicitDefEqProofs [g1]
  refine sOps.sp rfl (SOp.lookup (by decide) mid ⟨s.toArray⟩ kvs Try.underlying95 Try.underlying9 (by simp) (by simp) (by simp) g2 ?_)
  refine sOps.rest ?_
  simp -implicitDefEqProofs [lookV, hf, hz]
  repeat (first
    | (with_reducible apply AWp.seq)
    | (with_reducible apply AWp.block)
    | ((with_reducible apply AWp.fork); simp -implicitDefEqProofs [g1])
    | ((fail_if_success (with_reducible apply AWp.region (id := 1))); (fail_if_success (with_reducible apply AWp.region (id := 4))); (fail_if_success (with_reducible apply AWp.region (id := 5))); (with_reducible apply AWp.region); simp -implicitDefEqProofs [g1])
    | (with_reducible refine And.intro (by first | omega | assumption | decide) ?_)
    | ((with_reducible show condK _ _ _); simp -implicitDefEqProofs [g1])
    | ((with_reducible show guardK _ _ _ _ _ _ _ _ _); simp -implicitDefEqProofs [g1])
    | ((with_reducible apply AWp.ret); try simp -implicitDefEqProofs [g1])
    | ((with_reducible apply AWp.skip); try simp -implicitDefEqProofs [g1])
    | ((with_reducible apply AWp.exit); try simp -implicitDefEqProofs [g1]))
  with_reducible apply AWp.region
  simp -implicitDefEqProofs [g1]
  refine ⟨_, _, ht, ?_, fun _ _ h => h.elim⟩
  rintro r σ1 ⟨tk, htk, rfl, rfl⟩
  have n1 : ¬ bid = tk := by intro e; subst e; rw [htk] at h1; cases h1
  have n2 : ¬ mid = tk := by intro e; subst e; rw [htk] at h2; cases h2
  have n3 : ¬ tk = bid := fun e => n1 e.symm
  have n4 : ¬ tk = mid := fun e => n2 e.symm
  have n5 : ¬ mid = bid := fun e => hne e.symm
  simp -implicitDefEqProofs [h1, h2, n1, n2, n3, n4]
  repeat (first
    | (with_reducible apply AWp.seq)
    | (with_reducible apply AWp.block)
    | ((with_reducible apply AWp.fork); simp -implicitDefEqProofs [h1, h2, n1, n2, n3, n4, hne, n5])
    | ((fail_if_success (with_reducible apply AWp.region (id := 5))); (with_reducible apply AWp.region); simp -implicitDefEqProofs [h1, h2, n1, n2, n3, n4, hne, n5])
    | (with_reducible refine And.intro (by first | omega | assumption | decide) ?_)
    | ((with_reducible show condK _ _ _); simp -implicitDefEqProofs [h1, h2, n1, n2, n3, n4, hne, n5])
    | ((with_reducible show guardK _ _ _ _ _ _ _ _ _); simp -implicitDefEqProofs [h1, h2, n1, n2, n3, n4, hne, n5])
    | ((with_reducible apply AWp.ret); try simp -implicitDefEqProofs [h1, h2, n1, n2, n3, n4, hne, n5])
    | ((with_reducible apply AWp.skip); try simp -implicitDefEqProofs [h1, h2, n1, n2, n3, n4, hne, n5])
    | ((with_reducible apply AWp.exit); try simp -implicitDefEqProofs [h1, h2, n1, n2, n3, n4, hne, n5]))
  with_reducible apply AWp.regionS
  refine sOps.first 6 ?_
  simp -implicitDefEqProofs [h1, h2, n1, n2, n3, n4, hne, n5]
  refine sOps.sp rfl (SOp.mapUpdate mid ⟨s.toArray⟩ kvs Try.underlying95 Try.underlying9 (by simp) (by simp) (by simp [h2, n1, n2, n3, n4, hne, n5]) ?_)
  refine sOps.rest ?_
  simp -implicitDefEqProofs
  repeat (first
    | (with_reducible apply AWp.seq)
    | (with_reducible apply AWp.block)
    | ((with_reducible apply AWp.fork); simp -implicitDefEqProofs)
    | ((with_reducible apply AWp.region); simp -implicitDefEqProofs)
    | (with_reducible refine And.intro (by first | omega | assumption | decide) ?_)
    | ((with_reducible apply AWp.ret); try simp -implicitDefEqProofs)
    | ((with_reducible apply AWp.skip); try simp -implicitDefEqProofs)
    | ((with_reducible apply AWp.exit); try simp -implicitDefEqProofs))
  exact ⟨_, _, Wk.refl _, AS.le_refl _, tk, htk, rfl, rfl⟩

end Go.Proofs.Ytiojkpebjdifoaa
