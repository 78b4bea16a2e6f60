/- Package pool: Name; the reference's Name. -/
import Derived.Test.YtiojkpebjdifoaaPool1
set_option linter.unusedSimpArgs false
set_option linter.unusedVariables false
set_option maxRecDepth 100000
set_option maxHeartbeats 3200000
namespace Go.Proofs.Ytiojkpebjdifoaa
open Go Go.AW

def nameS (b : List UInt8) (at' : Int) : List UInt8 × Int :=
  if at' < 1 ∨ b.length ≤ at' then ([], 3) else
  match idxB 0 (b.drop at'.toNat) with
  | none => ([], 1)
  | some n => if fineB ((b.drop at'.toNat).take n) then ((b.drop at'.toNat).take n, 0) else ([], 18)

theorem idxB_lt (l : List UInt8) : ∀ n, idxB 0 l = some n → n < l.length := by
  induction l with
  | nil => intro n h; simp [idxB] at h
  | cons c r ih =>
    intro n h
    simp only [idxB] at h
    split at h
    · cases h; simp
    · cases hr : idxB 0 r with
      | none => rw [hr] at h; simp at h
      | some k => rw [hr] at h; simp at h; have := ih k hr; simp; omega

theorem name_ok (b : List UInt8) (nl : Bool) (o : Own) (at' : Int) (hl : b.length ≤ 140737488355328) (ha : -9223372036854775808 ≤ at') (hb : at' < 9223372036854775808) (σ : AS) :
    ACalls Try.prog 37 [.lst 5 (b.map u8) o nl, .sc (.int .i64 at')] σ (Gives (.tup [.sc (.string ⟨(nameS b at').1.toArray⟩), .sc (.int .i64 (nameS b at').2)]) σ) No := by
  refine ACalls.of_body Try.func37 rfl rfl (by simp [Try.ntmps37]) ?_
  by_cases c1 : at' < 1
  · have hS : nameS b at' = ([], 3) := by simp [nameS, c1]
    rw [hS]
    repeat (first
      | (with_reducible apply AWp.seq)
      | (with_reducible apply AWp.block)
      | ((with_reducible apply AWp.fork); simp -implicitDefEqProofs [c1])
      | ((with_reducible apply AWp.region); simp -implicitDefEqProofs [c1])
      | (with_reducible refine And.intro (by first | omega | assumption | decide) ?_)
      | ((with_reducible show condK _ _ _); simp -implicitDefEqProofs [c1])
      | ((with_reducible show guardK _ _ _ _ _ _ _ _ _); simp -implicitDefEqProofs [c1])
      | ((with_reducible apply AWp.ret); try simp -implicitDefEqProofs [c1])
      | ((with_reducible apply AWp.skip); try simp -implicitDefEqProofs [c1])
      | ((with_reducible apply AWp.exit); try simp -implicitDefEqProofs [c1]))
    try rfl
  · by_cases c2 : b.length ≤ at'
    · have hS : nameS b at' = ([], 3) := by simp [nameS, c2]
      rw [hS]
      repeat (first
        | (with_reducible apply AWp.seq)
        | (with_reducible apply AWp.block)
        | ((with_reducible apply AWp.fork); simp -implicitDefEqProofs [c1, c2])
        | ((with_reducible apply AWp.region); simp -implicitDefEqProofs [c1, c2])
        | (with_reducible refine And.intro (by first | omega | assumption | decide) ?_)
        | ((with_reducible show condK _ _ _); simp -implicitDefEqProofs [c1, c2])
        | ((with_reducible show guardK _ _ _ _ _ _ _ _ _); simp -implicitDefEqProofs [c1, c2])
        | ((with_reducible apply AWp.ret); try simp -implicitDefEqProofs [c1, c2])
        | ((with_reducible apply AWp.skip); try simp -implicitDefEqProofs [c1, c2])
        | ((with_reducible apply AWp.exit); try simp -implicitDefEqProofs [c1, c2]))
      try rfl
    · have hx := fun o σ => index_ok (b.drop at'.toNat) nl o (by simp; omega) σ
      have hT : (b.map u8).take b.length = b.map u8 := List.take_of_length_le (by simp)
      simp only [List.map_drop] at hx
      have h0 : 0 ≤ at' := by omega
      have h1 : at'.toNat ≤ b.length := by omega
      cases hi : idxB 0 (b.drop at'.toNat) with
      | none =>
        have hS : nameS b at' = ([], 1) := by simp [nameS, c1, c2, hi]
        have hI : idxI (b.drop at'.toNat) = -1 := by simp [idxI, hi]
        rw [hS]
        rw [hI] at hx
        repeat (first
          | (with_reducible apply AWp.seq)
          | (with_reducible apply AWp.block)
          | ((with_reducible apply AWp.fork); simp -implicitDefEqProofs [c1, c2, h0, h1, hT])
          | ((with_reducible apply AWp.region); simp -implicitDefEqProofs [c1, c2, h0, h1, hT])
          | (with_reducible refine And.intro (by first | omega | assumption | decide) ?_)
          | ((with_reducible show condK _ _ _); simp -implicitDefEqProofs [c1, c2, h0, h1, hT])
          | ((with_reducible show guardK _ _ _ _ _ _ _ _ _); simp -implicitDefEqProofs [c1, c2, h0, h1, hT])
          | ((with_reducible apply aCall.id); first
              | ((apply aCall.gives (hx _ _)); simp -implicitDefEqProofs [c1, c2, h0, h1, hT]))
          | ((with_reducible apply AWp.ret); try simp -implicitDefEqProofs [c1, c2, h0, h1, hT])
          | ((with_reducible apply AWp.skip); try simp -implicitDefEqProofs [c1, c2, h0, h1, hT])
          | ((with_reducible apply AWp.exit); try simp -implicitDefEqProofs [c1, c2, h0, h1, hT]))
        try rfl
      | some n =>
        have hn := idxB_lt _ _ hi
        simp at hn
        have hS : nameS b at' = if fineB ((b.drop at'.toNat).take n) then ((b.drop at'.toNat).take n, 0) else ([], 18) := by simp [nameS, c1, c2, hi]
        have hI : idxI (b.drop at'.toNat) = n := by simp [idxI, hi]
        rw [hS]
        rw [hI] at hx
        have n0 : ((n : Int) < 0) = False := by simp
        have wn : IntKind.i64.wrap (at' + n) = at' + n := in_i64 (by omega) (by omega)
        have g1 : 0 ≤ at' + n := by omega
        have g2 : (at' + n).toNat ≤ b.length := by omega
        have g3 : at'.toNat ≤ (at' + n).toNat := by omega
        have hs : (b.take (at' + n).toNat).drop at'.toNat = (b.drop at'.toNat).take n := by
          rw [List.drop_take]; congr 1; omega
        have hs2 : ((b.map u8).take (at' + n).toNat).drop at'.toNat = ((b.drop at'.toNat).take n).map u8 := by rw [← hs]; simp [List.map_drop, List.map_take]
        have hf := fun σ => fine_ok ((b.drop at'.toNat).take n) (by simp; omega) σ
        generalize (b.drop at'.toNat).take n = s at hs hs2 hf ⊢
        cases hb : fineB s
        all_goals
          rw [hb] at hf
          repeat (first
            | (with_reducible apply AWp.seq)
            | (with_reducible apply AWp.block)
            | ((with_reducible apply AWp.fork); simp -implicitDefEqProofs [c1, c2, h0, h1, n0, wn, g1, g2, g3, hT, hs2, allU8_map])
            | ((with_reducible apply AWp.region); simp -implicitDefEqProofs [c1, c2, h0, h1, n0, wn, g1, g2, g3, hT, hs2, allU8_map])
            | (with_reducible refine And.intro (by first | omega | assumption | decide) ?_)
            | ((with_reducible show condK _ _ _); simp -implicitDefEqProofs [c1, c2, h0, h1, n0, wn, g1, g2, g3, hT, hs2, allU8_map])
            | ((with_reducible show guardK _ _ _ _ _ _ _ _ _); simp -implicitDefEqProofs [c1, c2, h0, h1, n0, wn, g1, g2, g3, hT, hs2, allU8_map])
            | ((with_reducible apply aCall.id); first
                | ((apply aCall.gives (hx _ _)); simp -implicitDefEqProofs [c1, c2, h0, h1, n0, wn, g1, g2, g3, hT, hs2, allU8_map])
                | ((apply aCall.gives (hf _)); simp -implicitDefEqProofs [c1, c2, h0, h1, n0, wn, g1, g2, g3, hT, hs2, allU8_map]))
            | ((with_reducible apply AWp.ret); try simp -implicitDefEqProofs [c1, c2, h0, h1, n0, wn, g1, g2, g3, hT, hs2, allU8_map])
            | ((with_reducible apply AWp.skip); try simp -implicitDefEqProofs [c1, c2, h0, h1, n0, wn, g1, g2, g3, hT, hs2, allU8_map])
            | ((with_reducible apply AWp.exit); try simp -implicitDefEqProofs [c1, c2, h0, h1, n0, wn, g1, g2, g3, hT, hs2, allU8_map]))
          try rfl

def rnI (b : List UInt8) (nl : Bool) (o : Own) (a : Nat) (σ : AS) (m : Nat) (fr : Fr) (σ' : AS) : Prop :=
  ∃ j : Nat, m = b.length - (a + j) ∧ a + j ≤ b.length ∧ idxB 0 (b.drop a) = (idxB 0 (b.drop (a + j))).map (· + j) ∧ σ' = σ ∧
    fr = mkF [(0, .lst 5 (b.map u8) o nl), (1, .sc (.int .i64 a)), (6, .sc (.int .i64 (a + j : Nat)))]

theorem rname_ok (b : List UInt8) (nl : Bool) (o : Own) (at' : Int) (hl : b.length ≤ 140737488355328) (σ : AS) :
    ACalls Try.prog 38 [.lst 5 (b.map u8) o nl, .sc (.int .i64 at')] σ (Gives (.tup [.sc (.string ⟨(nameS b at').1.toArray⟩), .sc (.int .i64 (nameS b at').2)]) σ) No := by
  refine ACalls.of_body Try.func38 rfl rfl (by simp [Try.ntmps38]) ?_
  by_cases c1 : at' < 1
  · have hS : nameS b at' = ([], 3) := by simp [nameS, c1]
    rw [hS]
    repeat (first
      | (with_reducible apply AWp.seq)
      | (with_reducible apply AWp.block)
      | ((with_reducible apply AWp.fork); simp -implicitDefEqProofs [c1])
      | ((with_reducible apply AWp.region); simp -implicitDefEqProofs [c1])
      | (with_reducible refine And.intro (by first | omega | assumption | decide) ?_)
      | ((with_reducible show condK _ _ _); simp -implicitDefEqProofs [c1])
      | ((with_reducible show guardK _ _ _ _ _ _ _ _ _); simp -implicitDefEqProofs [c1])
      | ((with_reducible apply AWp.ret); try simp -implicitDefEqProofs [c1])
      | ((with_reducible apply AWp.skip); try simp -implicitDefEqProofs [c1])
      | ((with_reducible apply AWp.exit); try simp -implicitDefEqProofs [c1]))
    try rfl
  · by_cases c2 : b.length ≤ at'
    · have hS : nameS b at' = ([], 3) := by simp [nameS, c2]
      rw [hS]
      repeat (first
        | (with_reducible apply AWp.seq)
        | (with_reducible apply AWp.block)
        | ((with_reducible apply AWp.fork); simp -implicitDefEqProofs [c1, c2])
        | ((with_reducible apply AWp.region); simp -implicitDefEqProofs [c1, c2])
        | (with_reducible refine And.intro (by first | omega | assumption | decide) ?_)
        | ((with_reducible show condK _ _ _); simp -implicitDefEqProofs [c1, c2])
        | ((with_reducible show guardK _ _ _ _ _ _ _ _ _); simp -implicitDefEqProofs [c1, c2])
        | ((with_reducible apply AWp.ret); try simp -implicitDefEqProofs [c1, c2])
        | ((with_reducible apply AWp.skip); try simp -implicitDefEqProofs [c1, c2])
        | ((with_reducible apply AWp.exit); try simp -implicitDefEqProofs [c1, c2]))
      try rfl
    · obtain ⟨a, rfl⟩ : ∃ a : Nat, at' = a := ⟨at'.toNat, by omega⟩
      have c2' : ¬ b.length ≤ a := by omega
      have c1' : ¬ a < 1 := by omega
      have hS0 : nameS b a = match idxB 0 (b.drop a) with
          | none => ([], 1)
          | some n => if fineB ((b.drop a).take n) then ((b.drop a).take n, 0) else ([], 18) := by
        unfold nameS
        rw [if_neg (by omega)]
        rfl
      rw [hS0]
      repeat (first
        | (with_reducible apply AWp.seq)
        | (with_reducible apply AWp.block)
        | ((with_reducible apply AWp.fork); simp -implicitDefEqProofs [c1, c2, c1', c2'])
        | ((with_reducible apply AWp.region); simp -implicitDefEqProofs [c1, c2, c1', c2'])
        | (with_reducible refine And.intro (by first | omega | assumption | decide) ?_)
        | ((with_reducible show condK _ _ _); simp -implicitDefEqProofs [c1, c2, c1', c2'])
        | ((with_reducible show guardK _ _ _ _ _ _ _ _ _); simp -implicitDefEqProofs [c1, c2, c1', c2'])
        | ((with_reducible apply AWp.ret); try simp -implicitDefEqProofs [c1, c2, c1', c2'])
        | ((with_reducible apply AWp.skip); try simp -implicitDefEqProofs [c1, c2, c1', c2'])
        | ((with_reducible apply AWp.exit); try simp -implicitDefEqProofs [c1, c2, c1', c2']))
      refine AWp.loopI (rnI b nl o a σ) (k0 := b.length - a) ⟨0, by omega, by omega, by simp, rfl, rfl⟩ (FrWk.mk (by simp)) (AS.le_refl _) ?_
      rintro m fr σ' ⟨j, hm, hj, hA, rfl, rfl⟩
      by_cases hlt : a + j < b.length
      · obtain ⟨c, hg, hd, _, _⟩ := at_lt b hlt
        obtain ⟨_, hg'⟩ := List.getElem?_eq_some_iff.1 hg
        have hI : (((a + j : Nat) : Int) < b.length) = True := by simp; omega
        have hI' : ((a : Int) + j < b.length) = True := by simp; omega
        have ht : ((a : Int) + j).toNat = a + j := by omega
        have h00 : (0 ≤ (a : Int) + j) = True := by simp; omega
        rw [hd] at hA
        simp only [idxB] at hA
        by_cases c0 : c = 0
        · subst c0
          simp at hA
          have hS : (if fineB ((b.drop a).take j) then ((b.drop a).take j, (0 : Int)) else ([], 18)) = match idxB 0 (b.drop a) with
            | none => ([], 1)
            | some n => if fineB ((b.drop a).take n) then ((b.drop a).take n, 0) else ([], 18) := by rw [hA]
          rw [← hS]
          have hs : (b.take (a + j)).drop a = (b.drop a).take j := by
            rw [List.drop_take]; congr 1; omega
          have hs2 : ((b.map u8).take (a + j)).drop a = ((b.drop a).take j).map u8 := by rw [← hs]; simp [List.map_drop, List.map_take]
          have hf := fun σ => rfine_ok ((b.drop a).take j) (by simp; omega) σ
          have he : ((a : Int) + j = b.length) = False := by simp; omega
          have he2 : (a + j = b.length) = False := by simp; omega
          have g2 : a + j ≤ b.length := hj
          generalize (b.drop a).take j = s at hs hs2 hf ⊢
          cases hb : fineB s
          all_goals
            rw [hb] at hf
            repeat (first
              | (with_reducible apply AWp.seq)
              | (with_reducible apply AWp.block)
              | ((with_reducible apply AWp.fork); simp -implicitDefEqProofs [hI, hI', hlt, hg, hg', ht, h00, he, he2, g2, hs2, allU8_map])
              | ((with_reducible apply AWp.region); simp -implicitDefEqProofs [hI, hI', hlt, hg, hg', ht, h00, he, he2, g2, hs2, allU8_map])
              | (with_reducible refine And.intro (by first | omega | assumption | decide) ?_)
              | ((with_reducible show condK _ _ _); simp -implicitDefEqProofs [hI, hI', hlt, hg, hg', ht, h00, he, he2, g2, hs2, allU8_map])
              | ((with_reducible show guardK _ _ _ _ _ _ _ _ _); simp -implicitDefEqProofs [hI, hI', hlt, hg, hg', ht, h00, he, he2, g2, hs2, allU8_map])
              | ((with_reducible apply aCall.id); first
                  | ((apply aCall.gives (hf _)); simp -implicitDefEqProofs [hI, hI', hlt, hg, hg', ht, h00, he, he2, g2, hs2, allU8_map]))
              | ((with_reducible apply AWp.ret); try simp -implicitDefEqProofs [hI, hI', hlt, hg, hg', ht, h00, he, he2, g2, hs2, allU8_map])
              | ((with_reducible apply AWp.skip); try simp -implicitDefEqProofs [hI, hI', hlt, hg, hg', ht, h00, he, he2, g2, hs2, allU8_map])
              | ((with_reducible apply AWp.exit); try simp -implicitDefEqProofs [hI, hI', hlt, hg, hg', ht, h00, he, he2, g2, hs2, allU8_map]))
            try rfl
        · have c3 : ((c.toNat : Int) = 0) = False := by
            simp
            intro h
            apply c0
            apply UInt8.toNat_inj.1
            simp; omega
          have c4 : (c.toNat = 0) = False := by
            simp
            intro h
            apply c0
            apply UInt8.toNat_inj.1
            simp; omega
          simp only [c0, if_false] at hA
          have w1 : IntKind.i64.wrap ((a : Int) + j + 1) = ((a + (j + 1) : Nat) : Int) := by rw [in_i64 (by omega) (by omega)]; simp; omega
          repeat (first
            | (with_reducible apply AWp.seq)
            | (with_reducible apply AWp.block)
            | ((with_reducible apply AWp.fork); simp -implicitDefEqProofs [hI, hI', hlt, hg, hg', ht, h00, c3, c4])
            | ((with_reducible apply AWp.region); simp -implicitDefEqProofs [hI, hI', hlt, hg, hg', ht, h00, c3, c4])
            | (with_reducible refine And.intro (by first | omega | assumption | decide) ?_)
            | ((with_reducible show condK _ _ _); simp -implicitDefEqProofs [hI, hI', hlt, hg, hg', ht, h00, c3, c4])
            | ((with_reducible show guardK _ _ _ _ _ _ _ _ _); simp -implicitDefEqProofs [hI, hI', hlt, hg, hg', ht, h00, c3, c4])
            | ((with_reducible apply AWp.ret); try simp -implicitDefEqProofs [hI, hI', hlt, hg, hg', ht, h00, c3, c4])
            | ((with_reducible apply AWp.skip); try simp -implicitDefEqProofs [hI, hI', hlt, hg, hg', ht, h00, c3, c4])
            | ((with_reducible apply AWp.exit); try simp -implicitDefEqProofs [hI, hI', hlt, hg, hg', ht, h00, c3, c4]))
          refine ⟨m - 1, _, _, by omega, FrWk.mk ?_, AS.le_refl _, j + 1, by omega, by omega, ?_, rfl, rfl⟩
          · simp [w1]
          · rw [hA, Option.map_map]
            have : a + (j + 1) = a + j + 1 := by omega
            rw [this]
            congr 1
            funext x
            simp; omega
      · have he0 : a + j = b.length := by omega
        have hI : (((a + j : Nat) : Int) < b.length) = False := by simp; omega
        have hI' : ((a : Int) + j < b.length) = False := by simp; omega
        have : b.drop (a + j) = [] := List.drop_eq_nil_of_le (by omega)
        rw [this] at hA
        simp [idxB] at hA
        have he : ((a : Int) + j = b.length) = True := by simp; omega
        have hS : (([] : List UInt8), (1 : Int)) = match idxB 0 (b.drop a) with
          | none => ([], 1)
          | some n => if fineB ((b.drop a).take n) then ((b.drop a).take n, 0) else ([], 18) := by rw [hA]
        rw [← hS]
        repeat (first
          | (with_reducible apply AWp.seq)
          | (with_reducible apply AWp.block)
          | ((with_reducible apply AWp.fork); simp -implicitDefEqProofs [hI, hI', he, he0])
          | ((with_reducible apply AWp.region); simp -implicitDefEqProofs [hI, hI', he, he0])
          | (with_reducible refine And.intro (by first | omega | assumption | decide) ?_)
          | ((with_reducible show condK _ _ _); simp -implicitDefEqProofs [hI, hI', he, he0])
          | ((with_reducible show guardK _ _ _ _ _ _ _ _ _); simp -implicitDefEqProofs [hI, hI', he, he0])
          | ((with_reducible apply AWp.ret); try simp -implicitDefEqProofs [hI, hI', he, he0])
          | ((with_reducible apply AWp.skip); try simp -implicitDefEqProofs [hI, hI', he, he0])
          | ((with_reducible apply AWp.exit); try simp -implicitDefEqProofs [hI, hI', he, he0]))
        try rfl

end Go.Proofs.Ytiojkpebjdifoaa
