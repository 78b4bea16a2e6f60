/- The document: number, Get, Whole, Field. -/
import Derived.Test.YtplphldpkliakaaSigE
import Derived.Test.YtplphldpkliakaaSig7
set_option linter.unusedSimpArgs false
set_option linter.unusedVariables false
set_option maxRecDepth 100000
set_option maxHeartbeats 3200000
namespace Go.Proofs.Ytplphldpkliakaa
namespace Sg
open Go Go.AW

def gotA (t : Ty) (a e : Int) : AV := .agg [.sc (.int .i64 t.kind), .sc (.int .i64 t.index), .sc (.int .i64 t.dims), .sc (.bool t.ref), .sc (.int .i64 a), .sc (.int .i64 e)]
def gotV : Except Int (Ty × Nat) → AV
  | .error e => gotA ⟨0, 0, 0, false⟩ 0 e
  | .ok (t, a) => gotA t a 0
theorem ePk_upk {b : List UInt8} {a : Nat} {x n e : Int} (hu : upk (b.drop a) = (x, n, e)) : ePk b a = if e = 0 then .ok (x, a + n.toNat) else .error e := by unfold ePk; rw [hu]

theorem rnum_cls (k c : Int) (hc : c = 18 ∧ k = 5 ∨ c = 17 ∧ k = 6) (b : List UInt8) (o : Own) (nl : Bool) (a d : Nat) (rf : Bool) (hl : b.length ≤ 100000) (ha : a ≤ 100001) (σ : AS) :
    ACalls Try.prog 80 [.lst 5 (b.map u8) o nl, .sc (.int .i64 a), .agg [.sc (.int .i64 0), .sc (.int .i64 0), .sc (.int .i64 d), .sc (.bool rf)], .sc (.int .i64 c)] σ (Gives (gotV (mkT k rf d (eIx b a))) σ) No := by
  obtain ⟨⟨x, n, e⟩, hu⟩ : ∃ t, upk (b.drop a) = t := ⟨_, rfl⟩
  have hp := fun σ => runpack_ok b o nl a (by omega) (by omega) (by omega) x n e (by simpa using hu) σ
  have hco := fun σ => rcoded_ok x σ
  have hE := ePk_upk hu
  refine ACalls.of_body Try.func80 rfl rfl (by simp [Try.ntmps80]) ?_
  repeat (first
    | (with_reducible first | apply AWp.seq | apply AWp.block | refine And.intro (by first | omega | assumption | decide) ?_)
    | ((first | (with_reducible first | apply AWp.fork | apply AWp.region)); simp -implicitDefEqProofs)
    | ((with_reducible first | apply AWp.ret | apply AWp.skip | apply AWp.exit); try simp -implicitDefEqProofs))
  intro id1 h_id1
  repeat (first
    | (with_reducible first | apply AWp.seq | apply AWp.block | refine And.intro (by first | omega | assumption | decide) ?_)
    | ((first | (with_reducible first | apply AWp.fork | apply AWp.region)); simp -implicitDefEqProofs)
    | ((with_reducible first | apply AWp.ret | apply AWp.skip | apply AWp.exit); try simp -implicitDefEqProofs))
  intro id2 n_id2_id1 h_id2
  have n_id1_id2 : ¬ id1 = id2 := fun e => n_id2_id1 e.symm
  repeat (first
    | (with_reducible first | apply AWp.seq | apply AWp.block | refine And.intro (by first | omega | assumption | decide) ?_)
    | ((first | (with_reducible first | apply AWp.fork | apply AWp.region | show condK _ _ _ | show guardK _ _ _ _ _ _ _ _ _) | ((with_reducible apply aCall.id); first | apply aCall.gives (hp _))); simp -implicitDefEqProofs [n_id2_id1, n_id1_id2])
    | ((with_reducible first | apply AWp.ret | apply AWp.skip | apply AWp.exit); try simp -implicitDefEqProofs [n_id2_id1, n_id1_id2]))
  intro id3 n_id3_id2 n_id3_id1 h_id3
  have n_id2_id3 : ¬ id2 = id3 := fun e => n_id3_id2 e.symm
  have n_id1_id3 : ¬ id1 = id3 := fun e => n_id3_id1 e.symm
  have hle : ∀ x y z, AS.le σ (((σ.set id1 x).set id2 y).set id3 z) := fun x y z => AS.le_set (AS.le_set (AS.le_set (AS.le_refl _) h_id1) (by simp [*])) (by simp [*])
  by_cases he : e = 0
  · subst he
    rw [if_pos rfl] at hE
    obtain ⟨h1, h2, h3, h4, h5, h6⟩ := upk_one _ _ _ hu
    have h5' : n ≤ 100000 := by simp at h5; omega
    have hw : IntKind.i64.wrap (a + n) = ((a + n.toNat : Nat) : Int) := by rw [in_i64 (by omega) (by omega)]; omega
    unfold eIx
    rw [hE]
    obtain ⟨⟨ct, cr, ce⟩, hX⟩ : ∃ t, codedS x = t := ⟨_, rfl⟩
    have hR : ixOk x = true → 1 ≤ cr ∧ cr ≤ 32 := fun h => by have := coded_row h; rw [hX] at this; exact this.2
    rw [hX] at hco
    simp only [ixOk, hX] at hR ⊢
    have hc19 : (c = 19) = False := eq_false (by omega)
    repeat (first
      | (with_reducible first | apply AWp.seq | apply AWp.block | refine And.intro (by first | omega | assumption | decide) ?_)
      | ((first | (with_reducible first | apply AWp.fork | apply AWp.region | show condK _ _ _ | show guardK _ _ _ _ _ _ _ _ _) | ((with_reducible apply aCall.id); first | apply aCall.gives (hco _))); simp -implicitDefEqProofs [hw, hc19, n_id2_id1, n_id1_id2, n_id3_id2, n_id2_id3, n_id3_id1, n_id1_id3])
      | ((with_reducible first | apply AWp.ret | apply AWp.skip | apply AWp.exit); try simp -implicitDefEqProofs [hw, hc19, n_id2_id1, n_id1_id2, n_id3_id2, n_id2_id3, n_id3_id1, n_id1_id3]))
    intro id4 n_id4_id3 n_id4_id2 n_id4_id1 h_id4
    have n_id3_id4 : ¬ id3 = id4 := fun e => n_id4_id3 e.symm
    have n_id2_id4 : ¬ id2 = id4 := fun e => n_id4_id2 e.symm
    have n_id1_id4 : ¬ id1 = id4 := fun e => n_id4_id1 e.symm
    have hle4 : ∀ x y z u, AS.le σ ((((σ.set id1 x).set id2 y).set id3 z).set id4 u) := fun x y z u => AS.le_set (hle _ _ _) (by simp [*])
    by_cases e1 : ce = 0
    · by_cases e2 : ct = 0
      · by_cases e3 : cr ≤ 32
        · obtain ⟨r1, r2⟩ := hR (by simp [e1, e2, e3])
          have hw2 : IntKind.i64.wrap (cr - 1) = cr - 1 := in_i64 (by omega) (by omega)
          have e3' : (32 < cr) = False := eq_false (by omega)
          rcases hc with ⟨rfl, rfl⟩ | ⟨rfl, rfl⟩
          · repeat (first
              | (with_reducible first | apply AWp.seq | apply AWp.block | refine And.intro (by first | omega | assumption | decide) ?_)
              | ((first | (with_reducible first | apply AWp.fork | apply AWp.region | show condK _ _ _ | show guardK _ _ _ _ _ _ _ _ _)); simp -implicitDefEqProofs [e1, e2, e3, e3', hw2, n_id2_id1, n_id1_id2, n_id3_id2, n_id2_id3, n_id3_id1, n_id1_id3, n_id4_id3, n_id3_id4, n_id4_id2, n_id2_id4, n_id4_id1, n_id1_id4])
              | ((with_reducible first | apply AWp.ret | apply AWp.skip | apply AWp.exit); try simp -implicitDefEqProofs [e1, e2, e3, e3', hw2, n_id2_id1, n_id1_id2, n_id3_id2, n_id2_id3, n_id3_id1, n_id1_id3, n_id4_id3, n_id3_id4, n_id4_id2, n_id2_id4, n_id4_id1, n_id1_id4]))
            simp [gotV, mkT, gotA]
            exact hle4 _ _ _ _
          · repeat (first
              | (with_reducible first | apply AWp.seq | apply AWp.block | refine And.intro (by first | omega | assumption | decide) ?_)
              | ((first | (with_reducible first | apply AWp.fork | apply AWp.region | show condK _ _ _ | show guardK _ _ _ _ _ _ _ _ _)); simp -implicitDefEqProofs [e1, e2, e3, e3', hw2, n_id2_id1, n_id1_id2, n_id3_id2, n_id2_id3, n_id3_id1, n_id1_id3, n_id4_id3, n_id3_id4, n_id4_id2, n_id2_id4, n_id4_id1, n_id1_id4])
              | ((with_reducible first | apply AWp.ret | apply AWp.skip | apply AWp.exit); try simp -implicitDefEqProofs [e1, e2, e3, e3', hw2, n_id2_id1, n_id1_id2, n_id3_id2, n_id2_id3, n_id3_id1, n_id1_id3, n_id4_id3, n_id3_id4, n_id4_id2, n_id2_id4, n_id4_id1, n_id1_id4]))
            simp [gotV, mkT, gotA]
            exact hle4 _ _ _ _
        · have e3' : (32 < cr) = True := eq_true (by omega)
          repeat (first
            | (with_reducible first | apply AWp.seq | apply AWp.block | refine And.intro (by first | omega | assumption | decide) ?_)
            | ((first | (with_reducible first | apply AWp.fork | apply AWp.region | show condK _ _ _ | show guardK _ _ _ _ _ _ _ _ _)); simp -implicitDefEqProofs [e1, e2, e3, e3', n_id2_id1, n_id1_id2, n_id3_id2, n_id2_id3, n_id3_id1, n_id1_id3, n_id4_id3, n_id3_id4, n_id4_id2, n_id2_id4, n_id4_id1, n_id1_id4])
            | ((with_reducible first | apply AWp.ret | apply AWp.skip | apply AWp.exit); try simp -implicitDefEqProofs [e1, e2, e3, e3', n_id2_id1, n_id1_id2, n_id3_id2, n_id2_id3, n_id3_id1, n_id1_id3, n_id4_id3, n_id3_id4, n_id4_id2, n_id2_id4, n_id4_id1, n_id1_id4]))
          simp [gotV, mkT, gotA, e3]
          exact hle4 _ _ _ _
      · repeat (first
          | (with_reducible first | apply AWp.seq | apply AWp.block | refine And.intro (by first | omega | assumption | decide) ?_)
          | ((first | (with_reducible first | apply AWp.fork | apply AWp.region | show condK _ _ _ | show guardK _ _ _ _ _ _ _ _ _)); simp -implicitDefEqProofs [e1, e2, n_id2_id1, n_id1_id2, n_id3_id2, n_id2_id3, n_id3_id1, n_id1_id3, n_id4_id3, n_id3_id4, n_id4_id2, n_id2_id4, n_id4_id1, n_id1_id4])
          | ((with_reducible first | apply AWp.ret | apply AWp.skip | apply AWp.exit); try simp -implicitDefEqProofs [e1, e2, n_id2_id1, n_id1_id2, n_id3_id2, n_id2_id3, n_id3_id1, n_id1_id3, n_id4_id3, n_id3_id4, n_id4_id2, n_id2_id4, n_id4_id1, n_id1_id4]))
        simp [gotV, mkT, gotA, e2]
        exact hle4 _ _ _ _
    · repeat (first
        | (with_reducible first | apply AWp.seq | apply AWp.block | refine And.intro (by first | omega | assumption | decide) ?_)
        | ((first | (with_reducible first | apply AWp.fork | apply AWp.region | show condK _ _ _ | show guardK _ _ _ _ _ _ _ _ _)); simp -implicitDefEqProofs [e1, n_id2_id1, n_id1_id2, n_id3_id2, n_id2_id3, n_id3_id1, n_id1_id3, n_id4_id3, n_id3_id4, n_id4_id2, n_id2_id4, n_id4_id1, n_id1_id4])
        | ((with_reducible first | apply AWp.ret | apply AWp.skip | apply AWp.exit); try simp -implicitDefEqProofs [e1, n_id2_id1, n_id1_id2, n_id3_id2, n_id2_id3, n_id3_id1, n_id1_id3, n_id4_id3, n_id3_id4, n_id4_id2, n_id2_id4, n_id4_id1, n_id1_id4]))
      simp [gotV, mkT, gotA, e1]
      exact hle4 _ _ _ _
  · rw [if_neg he] at hE
    unfold eIx
    rw [hE]
    repeat (first
      | (with_reducible first | apply AWp.seq | apply AWp.block | refine And.intro (by first | omega | assumption | decide) ?_)
      | ((first | (with_reducible first | apply AWp.fork | apply AWp.region | show condK _ _ _ | show guardK _ _ _ _ _ _ _ _ _)); simp -implicitDefEqProofs [he, n_id2_id1, n_id1_id2, n_id3_id2, n_id2_id3, n_id3_id1, n_id1_id3])
      | ((with_reducible first | apply AWp.ret | apply AWp.skip | apply AWp.exit); try simp -implicitDefEqProofs [he, n_id2_id1, n_id1_id2, n_id3_id2, n_id2_id3, n_id3_id1, n_id1_id3]))
    simp [gotV, mkT, gotA]
    exact hle _ _ _

theorem rnum_flt (b : List UInt8) (o : Own) (nl : Bool) (a d : Nat) (rf : Bool) (hl : b.length ≤ 100000) (ha : a ≤ 100001) (σ : AS) :
    ACalls Try.prog 80 [.lst 5 (b.map u8) o nl, .sc (.int .i64 a), .agg [.sc (.int .i64 0), .sc (.int .i64 0), .sc (.int .i64 d), .sc (.bool rf)], .sc (.int .i64 19)] σ (Gives (gotV (mkT 7 rf d (eFt b a))) σ) No := by
  obtain ⟨⟨x, n, e⟩, hu⟩ : ∃ t, upk (b.drop a) = t := ⟨_, rfl⟩
  have hp := fun σ => runpack_ok b o nl a (by omega) (by omega) (by omega) x n e (by simpa using hu) σ
  have hE := ePk_upk hu
  refine ACalls.of_body Try.func80 rfl rfl (by simp [Try.ntmps80]) ?_
  repeat (first
    | (with_reducible first | apply AWp.seq | apply AWp.block | refine And.intro (by first | omega | assumption | decide) ?_)
    | ((first | (with_reducible first | apply AWp.fork | apply AWp.region)); simp -implicitDefEqProofs)
    | ((with_reducible first | apply AWp.ret | apply AWp.skip | apply AWp.exit); try simp -implicitDefEqProofs))
  intro id1 h_id1
  repeat (first
    | (with_reducible first | apply AWp.seq | apply AWp.block | refine And.intro (by first | omega | assumption | decide) ?_)
    | ((first | (with_reducible first | apply AWp.fork | apply AWp.region)); simp -implicitDefEqProofs)
    | ((with_reducible first | apply AWp.ret | apply AWp.skip | apply AWp.exit); try simp -implicitDefEqProofs))
  intro id2 n_id2_id1 h_id2
  have n_id1_id2 : ¬ id1 = id2 := fun e => n_id2_id1 e.symm
  repeat (first
    | (with_reducible first | apply AWp.seq | apply AWp.block | refine And.intro (by first | omega | assumption | decide) ?_)
    | ((first | (with_reducible first | apply AWp.fork | apply AWp.region | show condK _ _ _ | show guardK _ _ _ _ _ _ _ _ _) | ((with_reducible apply aCall.id); first | apply aCall.gives (hp _))); simp -implicitDefEqProofs [n_id2_id1, n_id1_id2])
    | ((with_reducible first | apply AWp.ret | apply AWp.skip | apply AWp.exit); try simp -implicitDefEqProofs [n_id2_id1, n_id1_id2]))
  intro id3 n_id3_id2 n_id3_id1 h_id3
  have n_id2_id3 : ¬ id2 = id3 := fun e => n_id3_id2 e.symm
  have n_id1_id3 : ¬ id1 = id3 := fun e => n_id3_id1 e.symm
  have hle : ∀ x y z, AS.le σ (((σ.set id1 x).set id2 y).set id3 z) := fun x y z => AS.le_set (AS.le_set (AS.le_set (AS.le_refl _) h_id1) (by simp [*])) (by simp [*])
  by_cases he : e = 0
  · subst he
    rw [if_pos rfl] at hE
    obtain ⟨h1, h2, h3, h4, h5, h6⟩ := upk_one _ _ _ hu
    have h5' : n ≤ 100000 := by simp at h5; omega
    have hw : IntKind.i64.wrap (a + n) = ((a + n.toNat : Nat) : Int) := by rw [in_i64 (by omega) (by omega)]; omega
    unfold eFt
    rw [hE]
    by_cases h7 : x ≤ 7
    · have h7' : (7 < x) = False := eq_false (by omega)
      repeat (first
        | (with_reducible first | apply AWp.seq | apply AWp.block | refine And.intro (by first | omega | assumption | decide) ?_)
        | ((first | (with_reducible first | apply AWp.fork | apply AWp.region | show condK _ _ _ | show guardK _ _ _ _ _ _ _ _ _)); simp -implicitDefEqProofs [hw, h7', n_id2_id1, n_id1_id2, n_id3_id2, n_id2_id3, n_id3_id1, n_id1_id3])
        | ((with_reducible first | apply AWp.ret | apply AWp.skip | apply AWp.exit); try simp -implicitDefEqProofs [hw, h7', n_id2_id1, n_id1_id2, n_id3_id2, n_id2_id3, n_id3_id1, n_id1_id3]))
      simp [gotV, mkT, gotA, h7]
      exact hle _ _ _
    · have h7' : (7 < x) = True := eq_true (by omega)
      repeat (first
        | (with_reducible first | apply AWp.seq | apply AWp.block | refine And.intro (by first | omega | assumption | decide) ?_)
        | ((first | (with_reducible first | apply AWp.fork | apply AWp.region | show condK _ _ _ | show guardK _ _ _ _ _ _ _ _ _)); simp -implicitDefEqProofs [hw, h7', n_id2_id1, n_id1_id2, n_id3_id2, n_id2_id3, n_id3_id1, n_id1_id3])
        | ((with_reducible first | apply AWp.ret | apply AWp.skip | apply AWp.exit); try simp -implicitDefEqProofs [hw, h7', n_id2_id1, n_id1_id2, n_id3_id2, n_id2_id3, n_id3_id1, n_id1_id3]))
      simp [gotV, mkT, gotA, h7]
      exact hle _ _ _
  · rw [if_neg he] at hE
    unfold eFt
    rw [hE]
    repeat (first
      | (with_reducible first | apply AWp.seq | apply AWp.block | refine And.intro (by first | omega | assumption | decide) ?_)
      | ((first | (with_reducible first | apply AWp.fork | apply AWp.region | show condK _ _ _ | show guardK _ _ _ _ _ _ _ _ _)); simp -implicitDefEqProofs [he, n_id2_id1, n_id1_id2, n_id3_id2, n_id2_id3, n_id3_id1, n_id1_id3])
      | ((with_reducible first | apply AWp.ret | apply AWp.skip | apply AWp.exit); try simp -implicitDefEqProofs [he, n_id2_id1, n_id1_id2, n_id3_id2, n_id2_id3, n_id3_id1, n_id1_id3]))
    simp [gotV, mkT, gotA]
    exact hle _ _ _

end Sg
end Go.Proofs.Ytplphldpkliakaa
