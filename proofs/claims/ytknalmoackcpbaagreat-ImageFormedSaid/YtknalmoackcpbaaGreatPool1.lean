/- Package pool: Fine, Index, Name; the reference's Fine and Name. -/
import Derived.Test.YtknalmoackcpbaaGreatAwGo
import Derived.Test.YtknalmoackcpbaaGreatRef1
set_option linter.unusedSimpArgs false
set_option linter.unusedVariables false
set_option maxRecDepth 100000
set_option maxHeartbeats 3200000
namespace Go.Proofs.YtknalmoackcpbaaGreat
open Go Go.AW
theorem D0_XPool1 (S : List Nat) : Plans Tryz.prog [] S := mixed
def chrB (c : UInt8) : Bool := decide (33 ≤ c.toNat) && decide (c.toNat ≤ 126)
def fineB (l : List UInt8) : Bool := decide (0 < l.length) && (decide (l.length ≤ 24) && l.all chrB)
def fiI (l : List UInt8) (σ : AS) (m : Nat) (fr : Fr) (σ' : AS) : Prop :=
  ∃ i : Nat, m = l.length - i ∧ i ≤ l.length ∧ l.all chrB = (l.drop i).all chrB ∧ σ' = σ ∧ fr = mkF [(0, .sc (.string ⟨l.toArray⟩)), (12, .sc (.int .i64 l.length)), (13, .sc (.int .i64 i))]
theorem fine_ok (l : List UInt8) (hl : l.length ≤ 140737488355328) (σ : AS) : ACalls Tryz.prog 52 [.sc (.string ⟨l.toArray⟩)] σ (Gives (.sc (.bool (fineB l))) σ) No := by
  refine ACalls.of_body Tryz.func52 rfl rfl (by simp [Tryz.ntmps52]) ?_
  by_cases h0 : l = []
  · subst h0
    refine gO (D0_XPool1 []) True.intro True.intro (k := ?_)
    simp [fineB]
  · have hp : 0 < l.length := List.length_pos_iff.2 h0
    by_cases h24 : l.length ≤ 24
    · have e24 : (24 < (l.length : Int)) = False := by simp; omega
      have hF : fineB l = l.all chrB := by simp [fineB, hp, h24]
      rw [hF]
      refine gO (D0_XPool1 []) (j2 @h0 @e24) True.intro (k := ?_)
      refine AWp.loopI (fiI l σ) (k0 := l.length) ⟨0, by omega, by omega, rfl, rfl, rfl⟩ (FrWk.mk (by simp)) (AS.le_refl _) ?_
      rintro m fr σ' ⟨i, hm, hi, hA, rfl, rfl⟩
      by_cases hlt : i < l.length
      · obtain ⟨c, hg, hd, _, _⟩ := at_lt l hlt
        obtain ⟨_, hg'⟩ := List.getElem?_eq_some_iff.1 hg
        have hI : ((i : Int) < l.length) = True := by simp; omega
        rw [hd, List.all_cons] at hA
        by_cases c1 : c.toNat < 33
        · have hc : chrB c = false := by simp [chrB]; omega
          have c1' : ((c.toNat : Int) < 33) = True := by simp; omega
          refine gO (D0_XPool1 []) (j5 @hI @hlt @hg @hg' @c1') True.intro (k := ?_)
          simp [hA, hc]
        · by_cases c2 : 126 < c.toNat
          · have hc : chrB c = false := by simp [chrB]; omega
            have c1' : ((c.toNat : Int) < 33) = False := by simp; omega
            have c2' : (126 < (c.toNat : Int)) = True := by simp; omega
            refine gO (D0_XPool1 []) (j6 @hI @hlt @hg @hg' @c1' @c2') True.intro (k := ?_)
            simp [hA, hc]
          · have hc : chrB c = true := by simp [chrB]; omega
            have c1' : ((c.toNat : Int) < 33) = False := by simp; omega
            have c2' : (126 < (c.toNat : Int)) = False := by simp; omega
            refine gO (D0_XPool1 []) (j6 @hI @hlt @hg @hg' @c1' @c2') True.intro (k := ?_)
            refine ⟨m - 1, _, _, by omega, FrWk.mk ?_, AS.le_refl _, i + 1, by omega, by omega, by rw [hA, hc, Bool.true_and], rfl, rfl⟩
            simp [wInc (show i < 4000000000000000000 by omega)]
      · have hI : ((i : Int) < l.length) = False := by simp; omega
        have : l.drop i = [] := List.drop_eq_nil_of_le (by omega)
        rw [this] at hA
        refine gO (D0_XPool1 []) @hI True.intro (k := ?_)
        simp [hA]
    · have e24 : (24 < (l.length : Int)) = True := by simp; omega
      have hF : fineB l = false := by simp [fineB, h24]
      rw [hF]
      exact gE (D0_XPool1 []) (j2 @h0 @e24) True.intro
def rfI (l : List UInt8) (σ : AS) (m : Nat) (fr : Fr) (σ' : AS) : Prop :=
  ∃ i : Nat, m = l.length - i ∧ i ≤ l.length ∧ l.all chrB = (l.drop i).all chrB ∧ σ' = σ ∧ fr = mkF [(0, .sc (.string ⟨l.toArray⟩)), (3, .sc (.int .i64 i))]
theorem rfine_ok (l : List UInt8) (hl : l.length ≤ 140737488355328) (σ : AS) : ACalls Tryz.prog 22 [.sc (.string ⟨l.toArray⟩)] σ (Gives (.sc (.bool (fineB l))) σ) No := by
  refine ACalls.of_body Tryz.func22 rfl rfl (by simp [Tryz.ntmps22]) ?_
  refine gO (D0_XPool1 []) True.intro True.intro (k := ?_)
  refine AWp.loopI (rfI l σ) (k0 := l.length) ⟨0, by omega, by omega, rfl, rfl, rfl⟩ (FrWk.mk (by simp)) (AS.le_refl _) ?_
  rintro m fr σ' ⟨i, hm, hi, hA, rfl, rfl⟩
  by_cases hlt : i < l.length
  · obtain ⟨c, hg, hd, _, _⟩ := at_lt l hlt
    obtain ⟨_, hg'⟩ := List.getElem?_eq_some_iff.1 hg
    have hI : ((i : Int) < l.length) = True := by simp; omega
    rw [hd, List.all_cons] at hA
    by_cases c1 : c.toNat < 33
    · have hc : chrB c = false := by simp [chrB]; omega
      have hF : fineB l = false := by simp [fineB, hA, hc]
      have c1' : ((c.toNat : Int) < 33) = True := by simp; omega
      exact gE (D0_XPool1 []) (j6 @hI @hlt @hg @hg' @c1' @hF) True.intro
    · by_cases c2 : 126 < c.toNat
      · have hc : chrB c = false := by simp [chrB]; omega
        have hF : fineB l = false := by simp [fineB, hA, hc]
        have c1' : ((c.toNat : Int) < 33) = False := by simp; omega
        have c2' : (126 < (c.toNat : Int)) = True := by simp; omega
        exact gE (D0_XPool1 []) (j7 @hI @hlt @hg @hg' @c1' @c2' @hF) True.intro
      · have hc : chrB c = true := by simp [chrB]; omega
        have c1' : ((c.toNat : Int) < 33) = False := by simp; omega
        have c2' : (126 < (c.toNat : Int)) = False := by simp; omega
        refine gO (D0_XPool1 []) (j6 @hI @hlt @hg @hg' @c1' @c2') True.intro (k := ?_)
        refine ⟨m - 1, _, _, by omega, FrWk.mk ?_, AS.le_refl _, i + 1, by omega, by omega, by rw [hA, hc, Bool.true_and], rfl, rfl⟩
        simp [wInc (show i < 4000000000000000000 by omega)]
  · have hI : ((i : Int) < l.length) = False := by simp; omega
    have : l.drop i = [] := List.drop_eq_nil_of_le (by omega)
    rw [this] at hA
    simp at hA
    repeat' (first
      | (with_reducible first | apply AWp.seq | apply AWp.block | refine And.intro (by first | omega | assumption | decide) ?_)
      | ((first | (with_reducible first | apply AWp.fork | apply AWp.region | show condK _ _ _ | show guardK _ _ _ _ _ _ _ _ _)); simp -implicitDefEqProofs [hI])
      | trivial
      | (with_reducible apply And.intro)
      | ((with_reducible first | apply AWp.ret | apply AWp.skip | apply AWp.exit); try simp -implicitDefEqProofs [hI])
      | ((with_reducible first | apply condK.split | apply guardK.split | apply pureG.split) <;> (intro hc; (try simp -implicitDefEqProofs only [hc]); (try simp at hc)) <;> try simp -implicitDefEqProofs [hI]))
    all_goals
      apply wk_b
      rw [Bool.eq_iff_iff]
      simp [fineB]
      try simp_all
    all_goals try omega
def idxB (c : UInt8) : List UInt8 → Option Nat
  | [] => none
  | x :: r => if x = c then some 0 else (idxB c r).map (· + 1)
def idxI (l : List UInt8) : Int := match idxB 0 l with | some i => i | none => -1
def ixI (l : List UInt8) (nl : Bool) (o : Own) (σ : AS) (m : Nat) (fr : Fr) (σ' : AS) : Prop :=
  ∃ i : Nat, m = l.length - i ∧ i ≤ l.length ∧ idxB 0 l = (idxB 0 (l.drop i)).map (· + i) ∧ σ' = σ ∧
    fr = mkF [(0, .lst 5 (l.map u8) o nl), (1, .sc (.int .u8 0)), (7, .sc (.int .i64 l.length)), (8, .sc (.int .i64 i))]
theorem index_ok (l : List UInt8) (nl : Bool) (o : Own) (hl : l.length ≤ 140737488355328) (σ : AS) : ACalls Tryz.prog 248 [.lst 5 (l.map u8) o nl, .sc (.int .u8 0)] σ (Gives (.sc (.int .i64 (idxI l))) σ) No := by
  refine ACalls.of_body Tryz.func248 rfl rfl (by simp [Tryz.ntmps248]) ?_
  refine gO (D0_XPool1 []) True.intro True.intro (k := ?_)
  refine AWp.loopI (ixI l nl o σ) (k0 := l.length) ⟨0, by omega, by omega, by simp, rfl, rfl⟩ (FrWk.mk (by simp)) (AS.le_refl _) ?_
  rintro m fr σ' ⟨i, hm, hi, hA, rfl, rfl⟩
  by_cases hlt : i < l.length
  · obtain ⟨c, hg, hd, _, _⟩ := at_lt l hlt
    obtain ⟨_, hg'⟩ := List.getElem?_eq_some_iff.1 hg
    have hI : ((i : Int) < l.length) = True := by simp; omega
    rw [hd] at hA
    simp only [idxB] at hA
    by_cases c0 : c = 0
    · subst c0
      simp at hA
      refine gO (D0_XPool1 []) (j4 @hI @hlt @hg @hg') True.intro (k := ?_)
      simp [idxI, hA]
    · have c1 : ((0 : Int) = (c.toNat : Int)) = False := by
        simp
        intro h
        apply c0
        apply UInt8.toNat_inj.1
        simp; omega
      simp only [c0, if_false] at hA
      refine gO (D0_XPool1 []) (j5 @hI @hlt @hg @hg' @c1) True.intro (k := ?_)
      refine ⟨m - 1, _, _, by omega, FrWk.mk ?_, AS.le_refl _, i + 1, by omega, by omega, ?_, rfl, rfl⟩
      · simp [wInc (show i < 4000000000000000000 by omega)]
      · rw [hA, Option.map_map]
        congr 1
        funext x
        simp; omega
  · have hI : ((i : Int) < l.length) = False := by simp; omega
    have : l.drop i = [] := List.drop_eq_nil_of_le (by omega)
    rw [this] at hA
    refine gO (D0_XPool1 []) @hI True.intro (k := ?_)
    simp [idxI, hA, idxB]
end Go.Proofs.YtknalmoackcpbaaGreat
