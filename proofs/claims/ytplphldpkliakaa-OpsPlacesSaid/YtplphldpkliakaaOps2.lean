/- Package ops: Of, Named, Many; the reference's Name, Of, Named. -/
import Derived.Test.YtplphldpkliakaaOps1
set_option linter.unusedSimpArgs false
set_option linter.unusedVariables false
set_option maxRecDepth 100000
set_option maxHeartbeats 3200000
namespace Go.Proofs.Ytplphldpkliakaa
open Go Go.AW

/-- The table. -/
def tabL (op : Int) : List UInt8 × Int × Int := ofT op

theorem tab_out (op : Int) (h : op < 1 ∨ 75 < op) : ofT op = ([], 0, 0) := by
  unfold ofT
  repeat (rw [if_neg (by omega)])
  unfold sumsT
  repeat (rw [if_neg (by omega)])
  unfold jumpsT
  repeat (rw [if_neg (by omega)])
  unfold fieldsT
  repeat (rw [if_neg (by omega)])
  unfold othersT
  repeat (rw [if_neg (by omega)])

theorem tab_in : ∀ k : Fin 75, (ofT ((k.val : Int) + 1)).1 ≠ [] := by decide

theorem many_ok (σ : AS) : ACalls Try.prog 63 [] σ (Gives (.sc (.int .i64 75)) σ) No := by
  refine ACalls.of_body Try.func63 rfl rfl (by simp [Try.ntmps63]) ?_
  repeat (first
    | (with_reducible apply AWp.seq)
    | (with_reducible apply AWp.block)
    | ((with_reducible apply AWp.fork); simp)
    | ((with_reducible apply AWp.region); simp)
    | (with_reducible refine And.intro (by first | omega | assumption | decide) ?_)
    | ((with_reducible apply AWp.ret); try simp)
    | ((with_reducible apply AWp.skip); try simp)
    | ((with_reducible apply AWp.exit); try simp))

def ofE (op : Int) : Int := if op < 1 ∨ 75 < op then 3 else 0

theorem str_nil (l : List UInt8) : ((⟨l.toArray⟩ : ByteArray) = ByteArray.empty) ↔ l = [] := by
  constructor
  · intro h
    have := congrArg (fun b : ByteArray => b.data.toList) h
    simpa using this
  · rintro rfl; rfl

theorem Of_ok (op : Int) (σ : AS) : ACalls Try.prog 38 [.sc (.int .i64 op)] σ (Gives (.tup [infV (ofT op), .sc (.int .i64 (ofE op))]) σ) No := by
  refine ACalls.of_body Try.func38 rfl rfl (by simp [Try.ntmps38]) ?_
  repeat (first
    | (with_reducible apply AWp.seq)
    | (with_reducible apply AWp.block)
    | ((with_reducible apply AWp.fork); simp)
    | ((with_reducible apply AWp.region); simp)
    | (with_reducible refine And.intro (by first | omega | assumption | decide) ?_)
    | ((with_reducible apply AWp.ret); try simp)
    | ((with_reducible apply AWp.skip); try simp)
    | ((with_reducible apply AWp.exit); try simp))
  intro id hid
  by_cases h : op < 1 ∨ 75 < op
  · have h1 := tab_out op h
    repeat (first
      | (with_reducible apply AWp.seq)
      | (with_reducible apply AWp.block)
      | ((with_reducible apply AWp.fork); simp [h1, infV])
      | ((with_reducible apply AWp.region); simp [h1, infV])
      | (with_reducible refine And.intro (by first | omega | assumption | decide) ?_)
      | ((with_reducible apply aCall.id); first
          | ((apply aCall.gives (of_ok _ _)); simp [h1, infV]))
      | ((with_reducible apply AWp.ret); try simp [h1, infV])
      | ((with_reducible apply AWp.skip); try simp [h1, infV])
      | ((with_reducible apply AWp.exit); try simp [h1, infV]))
    intro id2 ne hid2
    have ne' : ¬ id = id2 := fun e => ne e.symm
    repeat (first
      | (with_reducible apply AWp.seq)
      | (with_reducible apply AWp.block)
      | ((with_reducible apply AWp.fork); simp [h1, infV, ne, ne'])
      | ((with_reducible apply AWp.region); simp [h1, infV, ne, ne'])
      | (with_reducible refine And.intro (by first | omega | assumption | decide) ?_)
      | ((with_reducible apply AWp.ret); try simp [h1, infV, ne, ne'])
      | ((with_reducible apply AWp.skip); try simp [h1, infV, ne, ne'])
      | ((with_reducible apply AWp.exit); try simp [h1, infV, ne, ne']))
    simp [ofE, h]
    all_goals (repeat (first | exact AS.le_refl _ | refine le_new (by simp [hid, hid2, ne, ne']) ?_))
  · have h1 : (ofT op).1 ≠ [] := by
      have := tab_in ⟨(op - 1).toNat, by omega⟩
      have e : (((op - 1).toNat : Nat) : Int) + 1 = op := by omega
      change (ofT ((((op - 1).toNat : Nat) : Int) + 1)).1 ≠ [] at this
      rwa [e] at this
    have h2 := str_nil (ofT op).1
    simp [h1] at h2
    repeat (first
      | (with_reducible apply AWp.seq)
      | (with_reducible apply AWp.block)
      | ((with_reducible apply AWp.fork); simp [infV])
      | ((with_reducible apply AWp.region); simp [infV])
      | (with_reducible refine And.intro (by first | omega | assumption | decide) ?_)
      | ((with_reducible apply aCall.id); first
          | ((apply aCall.gives (of_ok _ _)); simp [infV]))
      | ((with_reducible apply AWp.ret); try simp [infV])
      | ((with_reducible apply AWp.skip); try simp [infV])
      | ((with_reducible apply AWp.exit); try simp [infV]))
    intro id2 ne hid2
    have ne' : ¬ id = id2 := fun e => ne e.symm
    repeat (first
      | (with_reducible apply AWp.seq)
      | (with_reducible apply AWp.block)
      | ((with_reducible apply AWp.fork); simp [h1, h2, infV, ne, ne'])
      | ((with_reducible apply AWp.region); simp [h1, h2, infV, ne, ne'])
      | (with_reducible refine And.intro (by first | omega | assumption | decide) ?_)
      | ((with_reducible apply AWp.ret); try simp [h1, h2, infV, ne, ne'])
      | ((with_reducible apply AWp.skip); try simp [h1, h2, infV, ne, ne'])
      | ((with_reducible apply AWp.exit); try simp [h1, h2, infV, ne, ne']))
    simp [ofE, h]
    all_goals (repeat (first | exact AS.le_refl _ | refine le_new (by simp [hid, hid2, ne, ne']) ?_))

/-- Is it the op's name? -/
def isNm (s : ByteArray) (op : Int) : Bool := decide ((ofT op).1 = s.data.toList)
def namedR (s : ByteArray) : Int × Int := match (List.range 75).find? (fun k : Nat => isNm s ((k : Int) + 1)) with | some k => ((k : Int) + 1, 0) | none => (0, 18)

theorem namedR_hit (s : ByteArray) (k : Nat) (hk : k < 75) (h : isNm s ((k : Int) + 1) = true) (hb : ∀ j, j < k → isNm s ((j : Int) + 1) = false) : namedR s = ((k : Int) + 1, 0) := by
  unfold namedR
  have : (List.range 75).find? (fun k : Nat => isNm s ((k : Int) + 1)) = some k := by
    rw [List.find?_range_eq_some]
    refine ⟨h, by simpa using hk, fun j hj => by simp [hb j hj]⟩
  rw [this]
theorem namedR_none (s : ByteArray) (hb : ∀ j : Nat, j < 75 → isNm s ((j : Int) + 1) = false) : namedR s = (0, 18) := by
  unfold namedR
  have : (List.range 75).find? (fun k : Nat => isNm s ((k : Int) + 1)) = none := by
    rw [List.find?_eq_none]
    intro x hx
    simp at hx
    simp [hb x hx]
  rw [this]

def nmI (s : ByteArray) (σ : AS) (m : Nat) (fr : Fr) (σ' : AS) : Prop :=
  ∃ k : Nat, m = 75 - k ∧ k ≤ 75 ∧ (∀ j, j < k → isNm s ((j : Int) + 1) = false) ∧ σ' = σ ∧ fr = mkF [(0, .sc (.string s)), (4, .sc (.int .i64 (k + 1)))]

theorem Named_ok (s : ByteArray) (σ : AS) : ACalls Try.prog 40 [.sc (.string s)] σ (Gives (.tup [.sc (.int .i64 (namedR s).1), .sc (.int .i64 (namedR s).2)]) σ) No := by
  refine ACalls.of_body Try.func40 rfl rfl (by simp [Try.ntmps40]) ?_
  repeat (first
    | (with_reducible apply AWp.seq)
    | (with_reducible apply AWp.block)
    | ((with_reducible apply AWp.fork); simp)
    | ((with_reducible apply AWp.region); simp)
    | (with_reducible refine And.intro (by first | omega | assumption | decide) ?_)
    | ((with_reducible apply AWp.ret); try simp)
    | ((with_reducible apply AWp.skip); try simp)
    | ((with_reducible apply AWp.exit); try simp))
  refine AWp.loopI (nmI s σ) (k0 := 75) ⟨0, by omega, by omega, fun j hj => by omega, rfl, rfl⟩ (FrWk.mk (by simp)) (AS.le_refl _) ?_
  rintro m fr σ' ⟨k, hm, hk, hb, rfl, rfl⟩
  by_cases hlt : k < 75
  · have hI : (k : Int) + 1 ≤ 75 := by omega
    have w8 : IntKind.i64.wrap ((k : Int) + 1 + 1) = ((k + 1 : Nat) : Int) + 1 := by rw [in_i64 (by omega) (by omega)]; simp
    cases hn : isNm s ((k : Int) + 1) with
    | true =>
      have hn' : (ofT ((k : Int) + 1)).1 = s.data.toList := by simpa [isNm] using hn
      have hr := namedR_hit s k hlt hn hb
      repeat (first
        | (with_reducible apply AWp.seq)
        | (with_reducible apply AWp.block)
        | ((with_reducible apply AWp.fork); simp [hI, infV, hn'])
        | ((with_reducible apply AWp.region); simp [hI, infV, hn'])
        | (with_reducible refine And.intro (by first | omega | assumption | decide) ?_)
        | ((with_reducible apply aCall.id); first
            | ((apply aCall.gives (many_ok _)); simp [hI, infV, hn'])
            | ((apply aCall.gives (of_ok _ _)); simp [hI, infV, hn']))
        | ((with_reducible apply AWp.ret); try simp [hI, infV, hn'])
        | ((with_reducible apply AWp.skip); try simp [hI, infV, hn'])
        | ((with_reducible apply AWp.exit); try simp [hI, infV, hn']))
      simp [hr]
    | false =>
      have hn' : ¬ (ofT ((k : Int) + 1)).1 = s.data.toList := by simpa [isNm] using hn
      repeat (first
        | (with_reducible apply AWp.seq)
        | (with_reducible apply AWp.block)
        | ((with_reducible apply AWp.fork); simp [hI, infV, hn'])
        | ((with_reducible apply AWp.region); simp [hI, infV, hn'])
        | (with_reducible refine And.intro (by first | omega | assumption | decide) ?_)
        | ((with_reducible apply aCall.id); first
            | ((apply aCall.gives (many_ok _)); simp [hI, infV, hn'])
            | ((apply aCall.gives (of_ok _ _)); simp [hI, infV, hn']))
        | ((with_reducible apply AWp.ret); try simp [hI, infV, hn'])
        | ((with_reducible apply AWp.skip); try simp [hI, infV, hn'])
        | ((with_reducible apply AWp.exit); try simp [hI, infV, hn']))
      refine ⟨m - 1, _, _, by omega, FrWk.mk ?_, AS.le_refl _, k + 1, by omega, by omega, fun j hj => ?_, rfl, rfl⟩
      · simp [w8]
      · by_cases hjk : j = k
        · subst hjk; exact hn
        · exact hb j (by omega)
  · have hI : ¬ (k : Int) + 1 ≤ 75 := by omega
    have hr := namedR_none s (fun j hj => hb j (by omega))
    repeat (first
      | (with_reducible apply AWp.seq)
      | (with_reducible apply AWp.block)
      | ((with_reducible apply AWp.fork); simp [hI])
      | ((with_reducible apply AWp.region); simp [hI])
      | (with_reducible refine And.intro (by first | omega | assumption | decide) ?_)
      | ((with_reducible apply aCall.id); first
          | ((apply aCall.gives (many_ok _)); simp [hI]))
      | ((with_reducible apply AWp.ret); try simp [hI])
      | ((with_reducible apply AWp.skip); try simp [hI])
      | ((with_reducible apply AWp.exit); try simp [hI]))
    simp [hr]

end Go.Proofs.Ytplphldpkliakaa
