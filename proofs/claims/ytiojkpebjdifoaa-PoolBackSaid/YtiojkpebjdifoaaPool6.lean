/- Chapter 02: the reference's Names, bytes, Long; PoolNames as a walk. -/
import Derived.Test.YtiojkpebjdifoaaPool5
set_option linter.unusedSimpArgs false
set_option linter.unusedVariables false
set_option maxRecDepth 100000
set_option maxHeartbeats 3200000
namespace Go.Proofs.Ytiojkpebjdifoaa
open Go Go.AW

def bV (x : List UInt8 × Bool) : AV := .lst 5 (x.1.map u8) .unk x.2
def longB (l : List (List UInt8 × Bool)) : Bool := decide (60 < l.length) || l.any fun s => decide (300 < s.1.length)

def loI (l : List (List UInt8 × Bool)) (o : Own) (nl : Bool) (σ : AS) (m : Nat) (fr : Fr) (σ' : AS) : Prop :=
  ∃ i : Nat, m = l.length - i ∧ i ≤ l.length ∧ (l.any fun s => decide (300 < s.1.length)) = ((l.drop i).any fun s => decide (300 < s.1.length)) ∧ σ' = σ ∧
    fr = mkF [(0, .lst 22 (l.map bV) o nl), (3, .sc (.int .i64 i))]

theorem long_ok (l : List (List UInt8 × Bool)) (o : Own) (nl : Bool) (hl : l.length ≤ 140737488355328) (hs : ∀ s ∈ l, s.1.length ≤ 140737488355328) (σ : AS) :
    ACalls Try.prog 32 [.lst 22 (l.map bV) o nl] σ (Gives (.sc (.bool (longB l))) σ) No := by
  refine ACalls.of_body Try.func32 rfl rfl (by simp [Try.ntmps32]) ?_
  by_cases c : 60 < l.length
  · have c1 : (60 < (l.length : Int)) = True := by simp; omega
    have hL : longB l = true := by simp [longB, c]
    rw [hL]
    repeat (first
      | (with_reducible apply AWp.seq)
      | (with_reducible apply AWp.block)
      | ((with_reducible apply AWp.fork); simp -implicitDefEqProofs [c1])
      | ((with_reducible apply AWp.region); simp -implicitDefEqProofs [c1])
      | (with_reducible refine And.intro (by first | omega | assumption | decide) ?_)
      | ((with_reducible show condK _ _ _); simp -implicitDefEqProofs [c1])
      | ((with_reducible show guardK _ _ _ _ _ _ _ _ _); simp -implicitDefEqProofs [c1])
      | ((with_reducible apply AWp.ret); try simp -implicitDefEqProofs [c1])
      | ((with_reducible apply AWp.skip); try simp -implicitDefEqProofs [c1])
      | ((with_reducible apply AWp.exit); try simp -implicitDefEqProofs [c1]))
  · have c1 : (60 < (l.length : Int)) = False := by simp; omega
    have hL : longB l = l.any fun s => decide (300 < s.1.length) := by simp [longB, c]
    rw [hL]
    repeat (first
      | (with_reducible apply AWp.seq)
      | (with_reducible apply AWp.block)
      | ((with_reducible apply AWp.fork); simp -implicitDefEqProofs [c1])
      | ((with_reducible apply AWp.region); simp -implicitDefEqProofs [c1])
      | (with_reducible refine And.intro (by first | omega | assumption | decide) ?_)
      | ((with_reducible show condK _ _ _); simp -implicitDefEqProofs [c1])
      | ((with_reducible show guardK _ _ _ _ _ _ _ _ _); simp -implicitDefEqProofs [c1])
      | ((with_reducible apply AWp.ret); try simp -implicitDefEqProofs [c1])
      | ((with_reducible apply AWp.skip); try simp -implicitDefEqProofs [c1])
      | ((with_reducible apply AWp.exit); try simp -implicitDefEqProofs [c1]))
    refine AWp.loopI (loI l o nl σ) (k0 := l.length) ⟨0, by omega, by omega, rfl, rfl, rfl⟩ (FrWk.mk (by simp)) (AS.le_refl _) ?_
    rintro m fr σ' ⟨i, hm, hi, hA, rfl, rfl⟩
    by_cases hlt : i < l.length
    · obtain ⟨s, hg, hd, hmem, _⟩ := at_lt l hlt
      obtain ⟨_, hg'⟩ := List.getElem?_eq_some_iff.1 hg
      have hI : ((i : Int) < l.length) = True := by simp; omega
      have hsl := hs s hmem
      rw [hd, List.any_cons] at hA
      by_cases c3 : 300 < s.1.length
      · have c3' : (300 < (s.1.length : Int)) = True := by simp; omega
        repeat (first
          | (with_reducible apply AWp.seq)
          | (with_reducible apply AWp.block)
          | ((with_reducible apply AWp.fork); simp -implicitDefEqProofs [hI, hlt, hg, hg', bV, c3'])
          | ((with_reducible apply AWp.region); simp -implicitDefEqProofs [hI, hlt, hg, hg', bV, c3'])
          | (with_reducible refine And.intro (by first | omega | assumption | decide) ?_)
          | ((with_reducible show condK _ _ _); simp -implicitDefEqProofs [hI, hlt, hg, hg', bV, c3'])
          | ((with_reducible show guardK _ _ _ _ _ _ _ _ _); simp -implicitDefEqProofs [hI, hlt, hg, hg', bV, c3'])
          | ((with_reducible apply AWp.ret); try simp -implicitDefEqProofs [hI, hlt, hg, hg', bV, c3'])
          | ((with_reducible apply AWp.skip); try simp -implicitDefEqProofs [hI, hlt, hg, hg', bV, c3'])
          | ((with_reducible apply AWp.exit); try simp -implicitDefEqProofs [hI, hlt, hg, hg', bV, c3']))
        simp [hA, c3]
      · have c3' : (300 < (s.1.length : Int)) = False := by simp; omega
        repeat (first
          | (with_reducible apply AWp.seq)
          | (with_reducible apply AWp.block)
          | ((with_reducible apply AWp.fork); simp -implicitDefEqProofs [hI, hlt, hg, hg', bV, c3'])
          | ((with_reducible apply AWp.region); simp -implicitDefEqProofs [hI, hlt, hg, hg', bV, c3'])
          | (with_reducible refine And.intro (by first | omega | assumption | decide) ?_)
          | ((with_reducible show condK _ _ _); simp -implicitDefEqProofs [hI, hlt, hg, hg', bV, c3'])
          | ((with_reducible show guardK _ _ _ _ _ _ _ _ _); simp -implicitDefEqProofs [hI, hlt, hg, hg', bV, c3'])
          | ((with_reducible apply AWp.ret); try simp -implicitDefEqProofs [hI, hlt, hg, hg', bV, c3'])
          | ((with_reducible apply AWp.skip); try simp -implicitDefEqProofs [hI, hlt, hg, hg', bV, c3'])
          | ((with_reducible apply AWp.exit); try simp -implicitDefEqProofs [hI, hlt, hg, hg', bV, c3']))
        refine ⟨m - 1, _, _, by omega, FrWk.mk ?_, AS.le_refl _, i + 1, by omega, by omega, by rw [hA]; simp [c3], rfl, rfl⟩
        simp [wInc (show i < 4000000000000000000 by omega), bV]
    · have hI : ((i : Int) < l.length) = False := by simp; omega
      have : l.drop i = [] := List.drop_eq_nil_of_le (by omega)
      rw [this] at hA
      repeat (first
        | (with_reducible apply AWp.seq)
        | (with_reducible apply AWp.block)
        | ((with_reducible apply AWp.fork); simp -implicitDefEqProofs [hI])
        | ((with_reducible apply AWp.region); simp -implicitDefEqProofs [hI])
        | (with_reducible refine And.intro (by first | omega | assumption | decide) ?_)
        | ((with_reducible show condK _ _ _); simp -implicitDefEqProofs [hI])
        | ((with_reducible show guardK _ _ _ _ _ _ _ _ _); simp -implicitDefEqProofs [hI])
        | ((with_reducible apply AWp.ret); try simp -implicitDefEqProofs [hI])
        | ((with_reducible apply AWp.skip); try simp -implicitDefEqProofs [hI])
        | ((with_reducible apply AWp.exit); try simp -implicitDefEqProofs [hI]))
      simp [hA]

def byI (l : List (List UInt8)) (o : Own) (nl : Bool) (B : AS) (m : Nat) (fr : Fr) (σ' : AS) : Prop :=
  ∃ (i : Nat) (pl : AV), m = l.length - i ∧ i ≤ l.length ∧
    ((i = 0 ∧ pl = .nilS ∧ σ' = B) ∨ (∃ tk, 0 < i ∧ B tk = none ∧ pl = .lst 22 ((l.take i).map fun s => bV (s, false)) (.tok tk) false ∧ σ' = B.set tk (.tok i))) ∧
    fr = mkF [(3, pl), (6, .lst 9 (l.map sV) o nl), (7, .sc (.int .i64 l.length)), (8, .sc (.int .i64 i))]

theorem bytes_ok (l : List (List UInt8)) (o : Own) (nl : Bool) (hl : l.length ≤ 8796093022208) (hs : ∀ s ∈ l, s.length ≤ 140737488355328) (σ : AS) :
    ACalls Try.prog 33 [.lst 9 (l.map sV) o nl] σ (Gives (.lst 22 ((l.map fun s => (s, false)).map bV) .unk (decide (l = []))) σ) No := by
  refine ACalls.of_body Try.func33 rfl rfl (by simp [Try.ntmps33]) ?_
  repeat (first
    | (with_reducible apply AWp.seq)
    | (with_reducible apply AWp.block)
    | ((with_reducible apply AWp.fork); simp -implicitDefEqProofs)
    | ((with_reducible apply AWp.region); simp -implicitDefEqProofs)
    | (with_reducible refine And.intro (by first | omega | assumption | decide) ?_)
    | ((with_reducible apply AWp.ret); try simp -implicitDefEqProofs)
    | ((with_reducible apply AWp.skip); try simp -implicitDefEqProofs)
    | ((with_reducible apply AWp.exit); try simp -implicitDefEqProofs))
  refine AWp.loopI (byI l o nl σ) (k0 := l.length) ⟨0, _, by omega, by omega, .inl ⟨rfl, rfl, rfl⟩, rfl⟩ (FrWk.mk (by simp)) (AS.le_refl _) ?_
  rintro m fr σ' ⟨i, pl, hm, hi, hC, rfl⟩
  by_cases hlt : i < l.length
  · obtain ⟨s, hg, hd, hmem, htake⟩ := at_lt l hlt
    obtain ⟨_, hg'⟩ := List.getElem?_eq_some_iff.1 hg
    have hI : ((i : Int) < l.length) = True := by simp; omega
    have hsl := hs s hmem
    have hmin : min i l.length = i := by omega
    rcases hC with ⟨h0, rfl, rfl⟩ | ⟨tk, h0, htk, rfl, rfl⟩
    · subst h0
      repeat (first
        | (with_reducible apply AWp.seq)
        | (with_reducible apply AWp.block)
        | ((with_reducible apply AWp.fork); simp -implicitDefEqProofs [hI, hlt, hg, hg', sV])
        | ((with_reducible apply AWp.region); simp -implicitDefEqProofs [hI, hlt, hg, hg', sV])
        | (with_reducible refine And.intro (by first | omega | assumption | decide) ?_)
        | ((with_reducible show condK _ _ _); simp -implicitDefEqProofs [hI, hlt, hg, hg', sV])
        | ((with_reducible show guardK _ _ _ _ _ _ _ _ _); simp -implicitDefEqProofs [hI, hlt, hg, hg', sV])
        | ((with_reducible apply AWp.ret); try simp -implicitDefEqProofs [hI, hlt, hg, hg', sV])
        | ((with_reducible apply AWp.skip); try simp -implicitDefEqProofs [hI, hlt, hg, hg', sV])
        | ((with_reducible apply AWp.exit); try simp -implicitDefEqProofs [hI, hlt, hg, hg', sV]))
      intro tk htk
      repeat (first
        | (with_reducible apply AWp.seq)
        | (with_reducible apply AWp.block)
        | ((with_reducible apply AWp.fork); simp -implicitDefEqProofs)
        | ((with_reducible apply AWp.region); simp -implicitDefEqProofs)
        | (with_reducible refine And.intro (by first | omega | assumption | decide) ?_)
        | ((with_reducible apply AWp.ret); try simp -implicitDefEqProofs)
        | ((with_reducible apply AWp.skip); try simp -implicitDefEqProofs)
        | ((with_reducible apply AWp.exit); try simp -implicitDefEqProofs))
      refine ⟨m - 1, _, _, by omega, FrWk.mk (l := [(3, .lst 22 ((l.take (0 + 1)).map fun s => bV (s, false)) (.tok tk) false), (6, .lst 9 (l.map sV) o nl), (7, .sc (.int .i64 l.length)), (8, .sc (.int .i64 (0 + 1 : Nat)))]) ?_, AS.le_refl _, 0 + 1, _, by omega, by omega, .inr ⟨tk, by omega, htk, rfl, rfl⟩, rfl⟩
      have := wInc (show 0 < 4000000000000000000 by omega)
      simp at this
      rw [htake]
      simp [bV, this]
    · repeat (first
        | (with_reducible apply AWp.seq)
        | (with_reducible apply AWp.block)
        | ((with_reducible apply AWp.fork); simp -implicitDefEqProofs [hI, hlt, hg, hg', sV, hmin])
        | ((with_reducible apply AWp.region); simp -implicitDefEqProofs [hI, hlt, hg, hg', sV, hmin])
        | (with_reducible refine And.intro (by first | omega | assumption | decide) ?_)
        | ((with_reducible show condK _ _ _); simp -implicitDefEqProofs [hI, hlt, hg, hg', sV, hmin])
        | ((with_reducible show guardK _ _ _ _ _ _ _ _ _); simp -implicitDefEqProofs [hI, hlt, hg, hg', sV, hmin])
        | ((with_reducible apply AWp.ret); try simp -implicitDefEqProofs [hI, hlt, hg, hg', sV, hmin])
        | ((with_reducible apply AWp.skip); try simp -implicitDefEqProofs [hI, hlt, hg, hg', sV, hmin])
        | ((with_reducible apply AWp.exit); try simp -implicitDefEqProofs [hI, hlt, hg, hg', sV, hmin]))
      refine ⟨m - 1, _, _, by omega, FrWk.mk (l := [(3, .lst 22 ((l.take (i + 1)).map fun s => bV (s, false)) (.tok tk) false), (6, .lst 9 (l.map sV) o nl), (7, .sc (.int .i64 l.length)), (8, .sc (.int .i64 (i + 1 : Nat)))]) ?_, le_tok (AS.le_refl _) (by simp [hmin]), i + 1, _, by omega, by omega, .inr ⟨tk, by omega, htk, rfl, rfl⟩, rfl⟩
      rw [htake]
      simp [bV, wInc (show i < 4000000000000000000 by omega)]
  · have hI : ((i : Int) < l.length) = False := by simp; omega
    rcases hC with ⟨h0, rfl, rfl⟩ | ⟨tk, h0, htk, rfl, rfl⟩
    · have : l = [] := List.length_eq_zero_iff.1 (by omega)
      subst this
      subst h0
      repeat (first
        | (with_reducible apply AWp.seq)
        | (with_reducible apply AWp.block)
        | ((with_reducible apply AWp.fork); simp -implicitDefEqProofs)
        | ((with_reducible apply AWp.region); simp -implicitDefEqProofs)
        | (with_reducible refine And.intro (by first | omega | assumption | decide) ?_)
        | ((with_reducible apply AWp.ret); try simp -implicitDefEqProofs)
        | ((with_reducible apply AWp.skip); try simp -implicitDefEqProofs)
        | ((with_reducible apply AWp.exit); try simp -implicitDefEqProofs))
    · have h1 : l.take i = l := List.take_of_length_le (by omega)
      have h2 : decide (l = []) = false := by
        have : l ≠ [] := by rintro rfl; simp at hi; omega
        simp [this]
      rw [h1, h2]
      repeat (first
        | (with_reducible apply AWp.seq)
        | (with_reducible apply AWp.block)
        | ((with_reducible apply AWp.fork); simp -implicitDefEqProofs [hI])
        | ((with_reducible apply AWp.region); simp -implicitDefEqProofs [hI])
        | (with_reducible refine And.intro (by first | omega | assumption | decide) ?_)
        | ((with_reducible show condK _ _ _); simp -implicitDefEqProofs [hI])
        | ((with_reducible show guardK _ _ _ _ _ _ _ _ _); simp -implicitDefEqProofs [hI])
        | ((with_reducible apply AWp.ret); try simp -implicitDefEqProofs [hI])
        | ((with_reducible apply AWp.skip); try simp -implicitDefEqProofs [hI])
        | ((with_reducible apply AWp.exit); try simp -implicitDefEqProofs [hI]))
      refine ⟨?_, le_new htk (AS.le_refl _)⟩
      simp [List.map_map, Function.comp_def]

theorem Wk_agg3 {P : Program} {a b c a' b' c' : AV} (h1 : AV.Wk P a a') (h2 : AV.Wk P b b') (h3 : AV.Wk P c c') : AV.Wk P (.agg [a, b, c]) (.agg [a', b', c']) := by
  intro G x h
  cases h with
  | agg vs l h =>
    refine .agg vs l fun i hi => ?_
    have := h i hi
    match i, hi with
    | 0, _ => exact h1 _ _ this
    | 1, _ => exact h2 _ _ this
    | 2, _ => exact h3 _ _ this

def poolC (p : List UInt8) (o : Own) (nlp : Bool) (pl : AV) : ABlk := .cells 62 [.lst 5 (p.map u8) o nlp, pl, .sc (.int .i64 0)]

def rfnI (l : List (List UInt8)) (o : Own) (nl : Bool) (id : Nat) (B : AS) (m : Nat) (fr : Fr) (σ' : AS) : Prop :=
  ∃ i : Nat, m = l.length - i ∧ i ≤ l.length ∧ l.all fineB = (l.drop i).all fineB ∧ σ' = B ∧ fr = mkF [(0, .lst 9 (l.map sV) o nl), (2, .ptr id 0), (3, .sc (.int .i64 i))]

def rnmI (l : List (List UInt8)) (o : Own) (nl : Bool) (id2 id4 tb : Nat) (B : AS) (m : Nat) (fr : Fr) (σ' : AS) : Prop :=
  ∃ (i : Nat) (p : List UInt8) (d : List (List UInt8 × Nat)) (pl : AV), m = l.length - i ∧ i ≤ l.length ∧ nmF (l.drop i) p d = nmF l [0] [] ∧ d.map (·.1) = l.take i ∧ (∀ q ∈ d, 1 ≤ q.2 ∧ q.2 ≤ 1000000) ∧ 1 ≤ p.length ∧ p.length ≤ 1 + 25 * i ∧
    ((i = 0 ∧ pl = .nilS ∧ σ' = (B.set tb (.tok p.length)).set id4 (poolC p (.tok tb) false pl)) ∨
     (∃ ta, 0 < i ∧ B ta = none ∧ ta ≠ tb ∧ ta ≠ id4 ∧ pl = plV d (.tok ta) ∧ σ' = ((B.set tb (.tok p.length)).set id4 (poolC p (.tok tb) false pl)).set ta (.tok i))) ∧
    fr = mkF [(0, .lst 9 (l.map sV) o nl), (2, .ptr id2 0), (4, .ptr id4 0), (5, .sc (.int .i64 i))]
def rnsI (l : List (List UInt8)) (s : List UInt8) (d : List (List UInt8 × Nat)) (o : Own) (nl : Bool) (id2 id4 : Nat) (i : Nat) (B : AS) (m : Nat) (fr : Fr) (σ' : AS) : Prop :=
  ∃ (k at' : Nat), m = i - k ∧ k ≤ i ∧ ((at' = 0 ∧ lookD s d = lookD s (d.drop k)) ∨ (1 ≤ at' ∧ at' ≤ 1000000 ∧ lookD s d = some at')) ∧ σ' = B ∧
    fr = mkF [(0, .lst 9 (l.map sV) o nl), (2, .ptr id2 0), (4, .ptr id4 0), (5, .sc (.int .i64 i)), (6, .sc (.int .i64 at')), (7, .sc (.int .i64 k))]

theorem rnames_bad (l : List (List UInt8)) (o : Own) (nl : Bool) (hl : l.length ≤ 1000) (hs : ∀ s ∈ l, s.length ≤ 140737488355328) (hf : l.all fineB = false) (σ : AS) :
    ACalls Try.prog 35 [.lst 9 (l.map sV) o nl] σ (Gives (.agg [.nilS, .nilS, .sc (.int .i64 18)]) σ) No := by
  refine ACalls.of_body Try.func35 rfl rfl (by simp [Try.ntmps35]) ?_
  repeat (first
    | (with_reducible apply AWp.seq)
    | (with_reducible apply AWp.block)
    | ((with_reducible apply AWp.fork); simp -implicitDefEqProofs)
    | ((with_reducible apply AWp.region); simp -implicitDefEqProofs)
    | (with_reducible refine And.intro (by first | omega | assumption | decide) ?_)
    | (((with_reducible apply AWp.drawS (id := 15) (t := (Sch.step 0 (Sch.step 1 (Sch.step 2 (Sch.step 4 (Sch.step 5 (Sch.step 6 (Sch.read 3 (Sch.read 7 (Sch.step 8 Sch.done))))))))))); (exact mixed); kernel_rfl; kernel_rfl; (repeat (with_reducible first | apply PanQ.then | apply PanQ.block | apply PanQ.body))); simp -implicitDefEqProofs)
    | (((with_reducible apply AWp.drawS (id := 19) (t := (Sch.step 0 (Sch.step 2 (Sch.step 3 (Sch.step 4 (Sch.read 1 (Sch.read 5 (Sch.alt 6 (Sch.step 7 (Sch.alt 8 Sch.done Sch.none)) Sch.none))))))))); (exact mixed); kernel_rfl; kernel_rfl; (repeat (with_reducible first | apply PanQ.then | apply PanQ.block | apply PanQ.body))); simp -implicitDefEqProofs)
    | ((with_reducible apply AWp.ret); try simp -implicitDefEqProofs)
    | ((with_reducible apply AWp.skip); try simp -implicitDefEqProofs)
    | ((with_reducible apply AWp.exit); try simp -implicitDefEqProofs))
  intro id h_id
  repeat (first
    | (with_reducible apply AWp.seq)
    | (with_reducible apply AWp.block)
    | ((with_reducible apply AWp.fork); simp -implicitDefEqProofs)
    | ((with_reducible apply AWp.region); simp -implicitDefEqProofs)
    | (with_reducible refine And.intro (by first | omega | assumption | decide) ?_)
    | (((with_reducible apply AWp.drawS (id := 15) (t := (Sch.step 0 (Sch.step 1 (Sch.step 2 (Sch.step 4 (Sch.step 5 (Sch.step 6 (Sch.read 3 (Sch.read 7 (Sch.step 8 Sch.done))))))))))); (exact mixed); kernel_rfl; kernel_rfl; (repeat (with_reducible first | apply PanQ.then | apply PanQ.block | apply PanQ.body))); simp -implicitDefEqProofs)
    | (((with_reducible apply AWp.drawS (id := 19) (t := (Sch.step 0 (Sch.step 2 (Sch.step 3 (Sch.step 4 (Sch.read 1 (Sch.read 5 (Sch.alt 6 (Sch.step 7 (Sch.alt 8 Sch.done Sch.none)) Sch.none))))))))); (exact mixed); kernel_rfl; kernel_rfl; (repeat (with_reducible first | apply PanQ.then | apply PanQ.block | apply PanQ.body))); simp -implicitDefEqProofs)
    | ((with_reducible apply AWp.ret); try simp -implicitDefEqProofs)
    | ((with_reducible apply AWp.skip); try simp -implicitDefEqProofs)
    | ((with_reducible apply AWp.exit); try simp -implicitDefEqProofs))
  refine AWp.loopI (rfnI l o nl id (σ.set id (.cells 62 [.nilS, .nilS, .sc (.int .i64 0)]))) (k0 := l.length) ⟨0, by omega, by omega, rfl, rfl, rfl⟩ (FrWk.mk (by simp)) (AS.le_refl _) ?_
  rintro m fr σ' ⟨i, hm, hi, hA, rfl, rfl⟩
  by_cases hlt : i < l.length
  · obtain ⟨s, hg, hd, hmem, _⟩ := at_lt l hlt
    obtain ⟨_, hg'⟩ := List.getElem?_eq_some_iff.1 hg
    have hI : ((i : Int) < l.length) = True := by simp; omega
    have hff := fun σ => rfine_ok s (hs s hmem) σ
    rw [hd, List.all_cons] at hA
    cases hb : fineB s
    · rw [hb] at hff
      repeat (first
        | (with_reducible apply AWp.seq)
        | (with_reducible apply AWp.block)
        | ((with_reducible apply AWp.fork); simp -implicitDefEqProofs [hI, hlt, hg, hg', sV])
        | ((with_reducible apply AWp.region); simp -implicitDefEqProofs [hI, hlt, hg, hg', sV])
        | (with_reducible refine And.intro (by first | omega | assumption | decide) ?_)
        | ((with_reducible show condK _ _ _); simp -implicitDefEqProofs [hI, hlt, hg, hg', sV])
        | ((with_reducible show guardK _ _ _ _ _ _ _ _ _); simp -implicitDefEqProofs [hI, hlt, hg, hg', sV])
        | (((with_reducible apply AWp.drawS (id := 15) (t := (Sch.step 0 (Sch.step 1 (Sch.step 2 (Sch.step 4 (Sch.step 5 (Sch.step 6 (Sch.read 3 (Sch.read 7 (Sch.step 8 Sch.done))))))))))); (exact mixed); kernel_rfl; kernel_rfl; (repeat (with_reducible first | apply PanQ.then | apply PanQ.block | apply PanQ.body))); simp -implicitDefEqProofs [hI, hlt, hg, hg', sV])
        | (((with_reducible apply AWp.drawS (id := 19) (t := (Sch.step 0 (Sch.step 2 (Sch.step 3 (Sch.step 4 (Sch.read 1 (Sch.read 5 (Sch.alt 6 (Sch.step 7 (Sch.alt 8 Sch.done Sch.none)) Sch.none))))))))); (exact mixed); kernel_rfl; kernel_rfl; (repeat (with_reducible first | apply PanQ.then | apply PanQ.block | apply PanQ.body))); simp -implicitDefEqProofs [hI, hlt, hg, hg', sV])
        | ((with_reducible apply aCall.id); first
            | ((apply aCall.gives (hff _)); simp -implicitDefEqProofs [hI, hlt, hg, hg', sV]))
        | ((with_reducible apply AWp.ret); try simp -implicitDefEqProofs [hI, hlt, hg, hg', sV])
        | ((with_reducible apply AWp.skip); try simp -implicitDefEqProofs [hI, hlt, hg, hg', sV])
        | ((with_reducible apply AWp.exit); try simp -implicitDefEqProofs [hI, hlt, hg, hg', sV]))
      all_goals (repeat (first | exact AS.le_refl _ | refine le_new (by simp [*]) ?_))
    · rw [hb] at hff hA
      repeat (first
        | (with_reducible apply AWp.seq)
        | (with_reducible apply AWp.block)
        | ((with_reducible apply AWp.fork); simp -implicitDefEqProofs [hI, hlt, hg, hg', sV])
        | ((with_reducible apply AWp.region); simp -implicitDefEqProofs [hI, hlt, hg, hg', sV])
        | (with_reducible refine And.intro (by first | omega | assumption | decide) ?_)
        | ((with_reducible show condK _ _ _); simp -implicitDefEqProofs [hI, hlt, hg, hg', sV])
        | ((with_reducible show guardK _ _ _ _ _ _ _ _ _); simp -implicitDefEqProofs [hI, hlt, hg, hg', sV])
        | (((with_reducible apply AWp.drawS (id := 15) (t := (Sch.step 0 (Sch.step 1 (Sch.step 2 (Sch.step 4 (Sch.step 5 (Sch.step 6 (Sch.read 3 (Sch.read 7 (Sch.step 8 Sch.done))))))))))); (exact mixed); kernel_rfl; kernel_rfl; (repeat (with_reducible first | apply PanQ.then | apply PanQ.block | apply PanQ.body))); simp -implicitDefEqProofs [hI, hlt, hg, hg', sV])
        | (((with_reducible apply AWp.drawS (id := 19) (t := (Sch.step 0 (Sch.step 2 (Sch.step 3 (Sch.step 4 (Sch.read 1 (Sch.read 5 (Sch.alt 6 (Sch.step 7 (Sch.alt 8 Sch.done Sch.none)) Sch.none))))))))); (exact mixed); kernel_rfl; kernel_rfl; (repeat (with_reducible first | apply PanQ.then | apply PanQ.block | apply PanQ.body))); simp -implicitDefEqProofs [hI, hlt, hg, hg', sV])
        | ((with_reducible apply aCall.id); first
            | ((apply aCall.gives (hff _)); simp -implicitDefEqProofs [hI, hlt, hg, hg', sV]))
        | ((with_reducible apply AWp.ret); try simp -implicitDefEqProofs [hI, hlt, hg, hg', sV])
        | ((with_reducible apply AWp.skip); try simp -implicitDefEqProofs [hI, hlt, hg, hg', sV])
        | ((with_reducible apply AWp.exit); try simp -implicitDefEqProofs [hI, hlt, hg, hg', sV]))
      refine ⟨m - 1, _, _, by omega, FrWk.mk ?_, AS.le_refl _, i + 1, by omega, by omega, by rw [hA, Bool.true_and], rfl, rfl⟩
      simp [wInc (show i < 4000000000000000000 by omega), sV]
  · have : l.drop i = [] := List.drop_eq_nil_of_le (by omega)
    rw [this, hf] at hA
    simp at hA

theorem rnames_ok (l : List (List UInt8)) (o : Own) (nl : Bool) (hl : l.length ≤ 1000) (hs : ∀ s ∈ l, s.length ≤ 140737488355328) (hf : l.all fineB = true) (σ : AS) :
    ACalls Try.prog 35 [.lst 9 (l.map sV) o nl] σ (Gives (.agg [.lst 5 ((nmF l [0] []).1.map u8) .unk false, .lst 3 ((nmF l [0] []).2.map fun p => .sc (.int .i64 p.2)) .unk (decide (l = [])), .sc (.int .i64 0)]) σ) No := by
  have hlen := nmF_len l [0] [] hf
  simp at hlen
  refine ACalls.of_body Try.func35 rfl rfl (by simp [Try.ntmps35]) ?_
  repeat (first
    | (with_reducible apply AWp.seq)
    | (with_reducible apply AWp.block)
    | ((with_reducible apply AWp.fork); simp -implicitDefEqProofs)
    | ((with_reducible apply AWp.region); simp -implicitDefEqProofs)
    | (with_reducible refine And.intro (by first | omega | assumption | decide) ?_)
    | (((with_reducible apply AWp.drawS (id := 15) (t := (Sch.step 0 (Sch.step 1 (Sch.step 2 (Sch.step 4 (Sch.step 5 (Sch.step 6 (Sch.read 3 (Sch.read 7 (Sch.step 8 Sch.done))))))))))); (exact mixed); kernel_rfl; kernel_rfl; (repeat (with_reducible first | apply PanQ.then | apply PanQ.block | apply PanQ.body))); simp -implicitDefEqProofs)
    | (((with_reducible apply AWp.drawS (id := 19) (t := (Sch.step 0 (Sch.step 2 (Sch.step 3 (Sch.step 4 (Sch.read 1 (Sch.read 5 (Sch.alt 6 (Sch.step 7 (Sch.alt 8 Sch.done Sch.none)) Sch.none))))))))); (exact mixed); kernel_rfl; kernel_rfl; (repeat (with_reducible first | apply PanQ.then | apply PanQ.block | apply PanQ.body))); simp -implicitDefEqProofs)
    | ((with_reducible apply AWp.ret); try simp -implicitDefEqProofs)
    | ((with_reducible apply AWp.skip); try simp -implicitDefEqProofs)
    | ((with_reducible apply AWp.exit); try simp -implicitDefEqProofs))
  intro id h_id
  repeat (first
    | (with_reducible apply AWp.seq)
    | (with_reducible apply AWp.block)
    | ((with_reducible apply AWp.fork); simp -implicitDefEqProofs)
    | ((with_reducible apply AWp.region); simp -implicitDefEqProofs)
    | (with_reducible refine And.intro (by first | omega | assumption | decide) ?_)
    | (((with_reducible apply AWp.drawS (id := 15) (t := (Sch.step 0 (Sch.step 1 (Sch.step 2 (Sch.step 4 (Sch.step 5 (Sch.step 6 (Sch.read 3 (Sch.read 7 (Sch.step 8 Sch.done))))))))))); (exact mixed); kernel_rfl; kernel_rfl; (repeat (with_reducible first | apply PanQ.then | apply PanQ.block | apply PanQ.body))); simp -implicitDefEqProofs)
    | (((with_reducible apply AWp.drawS (id := 19) (t := (Sch.step 0 (Sch.step 2 (Sch.step 3 (Sch.step 4 (Sch.read 1 (Sch.read 5 (Sch.alt 6 (Sch.step 7 (Sch.alt 8 Sch.done Sch.none)) Sch.none))))))))); (exact mixed); kernel_rfl; kernel_rfl; (repeat (with_reducible first | apply PanQ.then | apply PanQ.block | apply PanQ.body))); simp -implicitDefEqProofs)
    | ((with_reducible apply AWp.ret); try simp -implicitDefEqProofs)
    | ((with_reducible apply AWp.skip); try simp -implicitDefEqProofs)
    | ((with_reducible apply AWp.exit); try simp -implicitDefEqProofs))
  refine AWp.loopI (rfnI l o nl id (σ.set id (.cells 62 [.nilS, .nilS, .sc (.int .i64 0)]))) (k0 := l.length) ⟨0, by omega, by omega, rfl, rfl, rfl⟩ (FrWk.mk (by simp)) (AS.le_refl _) ?_
  rintro m fr σ' ⟨i, hm, hi, hA, rfl, rfl⟩
  by_cases hlt : i < l.length
  · obtain ⟨s, hg, hd, hmem, _⟩ := at_lt l hlt
    obtain ⟨_, hg'⟩ := List.getElem?_eq_some_iff.1 hg
    have hI : ((i : Int) < l.length) = True := by simp; omega
    have hff := fun σ => rfine_ok s (hs s hmem) σ
    have hb : fineB s = true := List.all_eq_true.1 hf s hmem
    rw [hd, List.all_cons] at hA
    rw [hb] at hff hA
    repeat (first
      | (with_reducible apply AWp.seq)
      | (with_reducible apply AWp.block)
      | ((with_reducible apply AWp.fork); simp -implicitDefEqProofs [hI, hlt, hg, hg', sV])
      | ((with_reducible apply AWp.region); simp -implicitDefEqProofs [hI, hlt, hg, hg', sV])
      | (with_reducible refine And.intro (by first | omega | assumption | decide) ?_)
      | ((with_reducible show condK _ _ _); simp -implicitDefEqProofs [hI, hlt, hg, hg', sV])
      | ((with_reducible show guardK _ _ _ _ _ _ _ _ _); simp -implicitDefEqProofs [hI, hlt, hg, hg', sV])
      | (((with_reducible apply AWp.drawS (id := 15) (t := (Sch.step 0 (Sch.step 1 (Sch.step 2 (Sch.step 4 (Sch.step 5 (Sch.step 6 (Sch.read 3 (Sch.read 7 (Sch.step 8 Sch.done))))))))))); (exact mixed); kernel_rfl; kernel_rfl; (repeat (with_reducible first | apply PanQ.then | apply PanQ.block | apply PanQ.body))); simp -implicitDefEqProofs [hI, hlt, hg, hg', sV])
      | (((with_reducible apply AWp.drawS (id := 19) (t := (Sch.step 0 (Sch.step 2 (Sch.step 3 (Sch.step 4 (Sch.read 1 (Sch.read 5 (Sch.alt 6 (Sch.step 7 (Sch.alt 8 Sch.done Sch.none)) Sch.none))))))))); (exact mixed); kernel_rfl; kernel_rfl; (repeat (with_reducible first | apply PanQ.then | apply PanQ.block | apply PanQ.body))); simp -implicitDefEqProofs [hI, hlt, hg, hg', sV])
      | ((with_reducible apply aCall.id); first
          | ((apply aCall.gives (hff _)); simp -implicitDefEqProofs [hI, hlt, hg, hg', sV]))
      | ((with_reducible apply AWp.ret); try simp -implicitDefEqProofs [hI, hlt, hg, hg', sV])
      | ((with_reducible apply AWp.skip); try simp -implicitDefEqProofs [hI, hlt, hg, hg', sV])
      | ((with_reducible apply AWp.exit); try simp -implicitDefEqProofs [hI, hlt, hg, hg', sV]))
    refine ⟨m - 1, _, _, by omega, FrWk.mk ?_, AS.le_refl _, i + 1, by omega, by omega, by rw [hA, Bool.true_and], rfl, rfl⟩
    simp [wInc (show i < 4000000000000000000 by omega), sV]
  · have hI : ((i : Int) < l.length) = False := by simp; omega
    repeat (first
      | (with_reducible apply AWp.seq)
      | (with_reducible apply AWp.block)
      | ((with_reducible apply AWp.fork); simp -implicitDefEqProofs [hI])
      | ((with_reducible apply AWp.region); simp -implicitDefEqProofs [hI])
      | (with_reducible refine And.intro (by first | omega | assumption | decide) ?_)
      | ((with_reducible show condK _ _ _); simp -implicitDefEqProofs [hI])
      | ((with_reducible show guardK _ _ _ _ _ _ _ _ _); simp -implicitDefEqProofs [hI])
      | (((with_reducible apply AWp.drawS (id := 15) (t := (Sch.step 0 (Sch.step 1 (Sch.step 2 (Sch.step 4 (Sch.step 5 (Sch.step 6 (Sch.read 3 (Sch.read 7 (Sch.step 8 Sch.done))))))))))); (exact mixed); kernel_rfl; kernel_rfl; (repeat (with_reducible first | apply PanQ.then | apply PanQ.block | apply PanQ.body))); simp -implicitDefEqProofs [hI])
      | (((with_reducible apply AWp.drawS (id := 19) (t := (Sch.step 0 (Sch.step 2 (Sch.step 3 (Sch.step 4 (Sch.read 1 (Sch.read 5 (Sch.alt 6 (Sch.step 7 (Sch.alt 8 Sch.done Sch.none)) Sch.none))))))))); (exact mixed); kernel_rfl; kernel_rfl; (repeat (with_reducible first | apply PanQ.then | apply PanQ.block | apply PanQ.body))); simp -implicitDefEqProofs [hI])
      | ((with_reducible apply AWp.ret); try simp -implicitDefEqProofs [hI])
      | ((with_reducible apply AWp.skip); try simp -implicitDefEqProofs [hI])
      | ((with_reducible apply AWp.exit); try simp -implicitDefEqProofs [hI]))
    clear hm hi hA hlt hI
    intro id4 n_id4_id h_id4
    have n_id_id4 : ¬ id = id4 := fun e => n_id4_id e.symm
    repeat (first
      | (with_reducible apply AWp.seq)
      | (with_reducible apply AWp.block)
      | ((with_reducible apply AWp.fork); simp -implicitDefEqProofs [n_id4_id, n_id_id4])
      | ((with_reducible apply AWp.region); simp -implicitDefEqProofs [n_id4_id, n_id_id4])
      | (with_reducible refine And.intro (by first | omega | assumption | decide) ?_)
      | ((with_reducible show condK _ _ _); simp -implicitDefEqProofs [n_id4_id, n_id_id4])
      | ((with_reducible show guardK _ _ _ _ _ _ _ _ _); simp -implicitDefEqProofs [n_id4_id, n_id_id4])
      | (((with_reducible apply AWp.drawS (id := 15) (t := (Sch.step 0 (Sch.step 1 (Sch.step 2 (Sch.step 4 (Sch.step 5 (Sch.step 6 (Sch.read 3 (Sch.read 7 (Sch.step 8 Sch.done))))))))))); (exact mixed); kernel_rfl; kernel_rfl; (repeat (with_reducible first | apply PanQ.then | apply PanQ.block | apply PanQ.body))); simp -implicitDefEqProofs [n_id4_id, n_id_id4])
      | (((with_reducible apply AWp.drawS (id := 19) (t := (Sch.step 0 (Sch.step 2 (Sch.step 3 (Sch.step 4 (Sch.read 1 (Sch.read 5 (Sch.alt 6 (Sch.step 7 (Sch.alt 8 Sch.done Sch.none)) Sch.none))))))))); (exact mixed); kernel_rfl; kernel_rfl; (repeat (with_reducible first | apply PanQ.then | apply PanQ.block | apply PanQ.body))); simp -implicitDefEqProofs [n_id4_id, n_id_id4])
      | ((with_reducible apply AWp.ret); try simp -implicitDefEqProofs [n_id4_id, n_id_id4])
      | ((with_reducible apply AWp.skip); try simp -implicitDefEqProofs [n_id4_id, n_id_id4])
      | ((with_reducible apply AWp.exit); try simp -implicitDefEqProofs [n_id4_id, n_id_id4]))
    intro tb n_tb_id4 n_tb_id h_tb
    have n_id4_tb : ¬ id4 = tb := fun e => n_tb_id4 e.symm
    have n_id_tb : ¬ id = tb := fun e => n_tb_id e.symm
    simp -implicitDefEqProofs [n_id4_id, n_id_id4, n_tb_id4, n_id4_tb, n_tb_id, n_id_tb]
    repeat (first
      | (with_reducible apply AWp.seq)
      | (with_reducible apply AWp.block)
      | ((with_reducible apply AWp.fork); simp -implicitDefEqProofs [n_id4_id, n_id_id4, n_tb_id4, n_id4_tb, n_tb_id, n_id_tb])
      | ((with_reducible apply AWp.region); simp -implicitDefEqProofs [n_id4_id, n_id_id4, n_tb_id4, n_id4_tb, n_tb_id, n_id_tb])
      | (with_reducible refine And.intro (by first | omega | assumption | decide) ?_)
      | ((with_reducible show condK _ _ _); simp -implicitDefEqProofs [n_id4_id, n_id_id4, n_tb_id4, n_id4_tb, n_tb_id, n_id_tb])
      | ((with_reducible show guardK _ _ _ _ _ _ _ _ _); simp -implicitDefEqProofs [n_id4_id, n_id_id4, n_tb_id4, n_id4_tb, n_tb_id, n_id_tb])
      | (((with_reducible apply AWp.drawS (id := 15) (t := (Sch.step 0 (Sch.step 1 (Sch.step 2 (Sch.step 4 (Sch.step 5 (Sch.step 6 (Sch.read 3 (Sch.read 7 (Sch.step 8 Sch.done))))))))))); (exact mixed); kernel_rfl; kernel_rfl; (repeat (with_reducible first | apply PanQ.then | apply PanQ.block | apply PanQ.body))); simp -implicitDefEqProofs [n_id4_id, n_id_id4, n_tb_id4, n_id4_tb, n_tb_id, n_id_tb])
      | (((with_reducible apply AWp.drawS (id := 19) (t := (Sch.step 0 (Sch.step 2 (Sch.step 3 (Sch.step 4 (Sch.read 1 (Sch.read 5 (Sch.alt 6 (Sch.step 7 (Sch.alt 8 Sch.done Sch.none)) Sch.none))))))))); (exact mixed); kernel_rfl; kernel_rfl; (repeat (with_reducible first | apply PanQ.then | apply PanQ.block | apply PanQ.body))); simp -implicitDefEqProofs [n_id4_id, n_id_id4, n_tb_id4, n_id4_tb, n_tb_id, n_id_tb])
      | ((with_reducible apply AWp.ret); try simp -implicitDefEqProofs [n_id4_id, n_id_id4, n_tb_id4, n_id4_tb, n_tb_id, n_id_tb])
      | ((with_reducible apply AWp.skip); try simp -implicitDefEqProofs [n_id4_id, n_id_id4, n_tb_id4, n_id4_tb, n_tb_id, n_id_tb])
      | ((with_reducible apply AWp.exit); try simp -implicitDefEqProofs [n_id4_id, n_id_id4, n_tb_id4, n_id4_tb, n_tb_id, n_id_tb]))
    have hB4 : ∀ x, (σ.set id (.cells 62 [.nilS, .nilS, .sc (.int .i64 0)])) x = none → ¬ x = id ∧ σ x = none := by intro x h; simp at h; exact h
    have hBid : (σ.set id (.cells 62 [.nilS, .nilS, .sc (.int .i64 0)])) id = some (.cells 62 [.nilS, .nilS, .sc (.int .i64 0)]) := by simp
    have hBle : AS.le σ (σ.set id (.cells 62 [.nilS, .nilS, .sc (.int .i64 0)])) := le_new h_id (AS.le_refl _)
    have h4 : (σ.set id (.cells 62 [.nilS, .nilS, .sc (.int .i64 0)])) id4 = none := by simp [*]
    have hb : (σ.set id (.cells 62 [.nilS, .nilS, .sc (.int .i64 0)])) tb = none := by simp [*]
    generalize hBdef : (σ.set id (.cells 62 [.nilS, .nilS, .sc (.int .i64 0)])) = B at *
    refine AWp.loopI (rnmI l o nl id id4 tb B) (k0 := l.length) ⟨0, [0], [], _, by omega, by omega, rfl, rfl, by simp, by simp, by simp, .inl ⟨rfl, rfl, rfl⟩, rfl⟩ (FrWk.mk (by simp)) ?_ ?_
    · intro j x hx
      by_cases a1 : j = id4
      · subst a1; simp [AS.set, poolC] at hx ⊢; simp [*]
      · by_cases a2 : j = tb
        · subst a2; simp [AS.set, *] at hx ⊢; exact hx
        · simp [AS.set, *] at hx ⊢; exact hx
    rintro m fr σ' ⟨i, p, d, pl, hm, hi, hN, hd, hq, hp1, hp, hC, rfl⟩
    have hdl : d.length = i := by have := congrArg List.length hd; simpa [hi] using this
    by_cases hlt : i < l.length
    · obtain ⟨s, hg, hdr, hmem, htake⟩ := at_lt l hlt
      obtain ⟨_, hg'⟩ := List.getElem?_eq_some_iff.1 hg
      have hI : ((i : Int) < l.length) = True := by simp; omega
      have hs24 : s.length ≤ 24 := by
        have := List.all_eq_true.1 hf s hmem
        simp [fineB] at this; exact this.2.1
      rw [hdr] at hN
      simp only [nmF] at hN
      have hcell : σ' id4 = some (poolC p (.tok tb) false pl) := by
        rcases hC with ⟨_, rfl, rfl⟩ | ⟨ta, _, _, q1, q2, rfl, rfl⟩
        · simp
        · simp [Ne.symm q2]
      have hplV : 0 < i → ∃ oo, pl = plV d oo := by
        intro h
        rcases hC with ⟨h0, _⟩ | ⟨ta, _, _, q1, q2, rfl, _⟩
        · omega
        · exact ⟨_, rfl⟩
      repeat (first
        | (with_reducible apply AWp.seq)
        | (with_reducible apply AWp.block)
        | ((with_reducible apply AWp.fork); simp -implicitDefEqProofs [hI, n_id4_id, n_id_id4, n_tb_id4, n_id4_tb, n_tb_id, n_id_tb])
        | ((with_reducible apply AWp.region); simp -implicitDefEqProofs [hI, n_id4_id, n_id_id4, n_tb_id4, n_id4_tb, n_tb_id, n_id_tb])
        | (with_reducible refine And.intro (by first | omega | assumption | decide) ?_)
        | ((with_reducible show condK _ _ _); simp -implicitDefEqProofs [hI, n_id4_id, n_id_id4, n_tb_id4, n_id4_tb, n_tb_id, n_id_tb])
        | ((with_reducible show guardK _ _ _ _ _ _ _ _ _); simp -implicitDefEqProofs [hI, n_id4_id, n_id_id4, n_tb_id4, n_id4_tb, n_tb_id, n_id_tb])
        | (((with_reducible apply AWp.drawS (id := 15) (t := (Sch.step 0 (Sch.step 1 (Sch.step 2 (Sch.step 4 (Sch.step 5 (Sch.step 6 (Sch.read 3 (Sch.read 7 (Sch.step 8 Sch.done))))))))))); (exact mixed); kernel_rfl; kernel_rfl; (repeat (with_reducible first | apply PanQ.then | apply PanQ.block | apply PanQ.body))); simp -implicitDefEqProofs [hI, n_id4_id, n_id_id4, n_tb_id4, n_id4_tb, n_tb_id, n_id_tb])
        | (((with_reducible apply AWp.drawS (id := 19) (t := (Sch.step 0 (Sch.step 2 (Sch.step 3 (Sch.step 4 (Sch.read 1 (Sch.read 5 (Sch.alt 6 (Sch.step 7 (Sch.alt 8 Sch.done Sch.none)) Sch.none))))))))); (exact mixed); kernel_rfl; kernel_rfl; (repeat (with_reducible first | apply PanQ.then | apply PanQ.block | apply PanQ.body))); simp -implicitDefEqProofs [hI, n_id4_id, n_id_id4, n_tb_id4, n_id4_tb, n_tb_id, n_id_tb])
        | ((with_reducible apply AWp.ret); try simp -implicitDefEqProofs [hI, n_id4_id, n_id_id4, n_tb_id4, n_id4_tb, n_tb_id, n_id_tb])
        | ((with_reducible apply AWp.skip); try simp -implicitDefEqProofs [hI, n_id4_id, n_id_id4, n_tb_id4, n_id4_tb, n_tb_id, n_id_tb])
        | ((with_reducible apply AWp.exit); try simp -implicitDefEqProofs [hI, n_id4_id, n_id_id4, n_tb_id4, n_id4_tb, n_tb_id, n_id_tb]))
      refine AWp.loopI (rnsI l s d o nl id id4 i σ') (k0 := i) ⟨0, 0, by omega, by omega, .inl ⟨rfl, by simp⟩, rfl, rfl⟩ (FrWk.mk (by simp)) (AS.le_refl _) ?_
      rintro m2 fr σ'' ⟨k, at', hm2, hk, hL, rfl, rfl⟩
      by_cases hcont : k < i ∧ at' = 0
      · obtain ⟨hki, rfl⟩ := hcont
        have hL' : lookD s d = lookD s (d.drop k) := by
          rcases hL with ⟨_, h⟩ | ⟨h, _⟩
          · exact h
          · omega
        obtain ⟨⟨sk, ak⟩, hgk, hdk, hmk, _⟩ := at_lt d (i := k) (by omega)
        have hlk : l[k]? = some sk := by
          have : (d.map (·.1))[k]? = some sk := by simp [hgk]
          rw [hd, List.getElem?_take_of_lt hki] at this
          exact this
        obtain ⟨hkl, hlk'⟩ := List.getElem?_eq_some_iff.1 hlk
        obtain ⟨hkd, hgk'⟩ := List.getElem?_eq_some_iff.1 hgk
        have hK : ((k : Int) < i) = True := by simp; omega
        obtain ⟨oo, hpl⟩ := hplV (by omega)
        rw [hpl] at hcell
        simp only [poolC, plV] at hcell
        rw [hdk] at hL'
        simp only [lookD] at hL'
        have hak := hq _ hmk
        simp only at hak
        by_cases he : sk = s
        · subst he
          rw [if_pos rfl] at hL'
          repeat (first
            | (with_reducible apply AWp.seq)
            | (with_reducible apply AWp.block)
            | ((with_reducible apply AWp.fork); simp -implicitDefEqProofs [hI, hK, hki, hlt, hkl, hg, hg', hlk, hlk', hgk, hgk', hkd, sV, hcell, n_id4_id, n_id_id4, n_tb_id4, n_id4_tb, n_tb_id, n_id_tb])
            | ((with_reducible apply AWp.region); simp -implicitDefEqProofs [hI, hK, hki, hlt, hkl, hg, hg', hlk, hlk', hgk, hgk', hkd, sV, hcell, n_id4_id, n_id_id4, n_tb_id4, n_id4_tb, n_tb_id, n_id_tb])
            | (with_reducible refine And.intro (by first | omega | assumption | decide) ?_)
            | ((with_reducible show condK _ _ _); simp -implicitDefEqProofs [hI, hK, hki, hlt, hkl, hg, hg', hlk, hlk', hgk, hgk', hkd, sV, hcell, n_id4_id, n_id_id4, n_tb_id4, n_id4_tb, n_tb_id, n_id_tb])
            | ((with_reducible show guardK _ _ _ _ _ _ _ _ _); simp -implicitDefEqProofs [hI, hK, hki, hlt, hkl, hg, hg', hlk, hlk', hgk, hgk', hkd, sV, hcell, n_id4_id, n_id_id4, n_tb_id4, n_id4_tb, n_tb_id, n_id_tb])
            | (((with_reducible apply AWp.drawS (id := 15) (t := (Sch.step 0 (Sch.step 1 (Sch.step 2 (Sch.step 4 (Sch.step 5 (Sch.step 6 (Sch.read 3 (Sch.read 7 (Sch.step 8 Sch.done))))))))))); (exact mixed); kernel_rfl; kernel_rfl; (repeat (with_reducible first | apply PanQ.then | apply PanQ.block | apply PanQ.body))); simp -implicitDefEqProofs [hI, hK, hki, hlt, hkl, hg, hg', hlk, hlk', hgk, hgk', hkd, sV, hcell, n_id4_id, n_id_id4, n_tb_id4, n_id4_tb, n_tb_id, n_id_tb])
            | (((with_reducible apply AWp.drawS (id := 19) (t := (Sch.step 0 (Sch.step 2 (Sch.step 3 (Sch.step 4 (Sch.read 1 (Sch.read 5 (Sch.alt 6 (Sch.step 7 (Sch.alt 8 Sch.done Sch.none)) Sch.none))))))))); (exact mixed); kernel_rfl; kernel_rfl; (repeat (with_reducible first | apply PanQ.then | apply PanQ.block | apply PanQ.body))); simp -implicitDefEqProofs [hI, hK, hki, hlt, hkl, hg, hg', hlk, hlk', hgk, hgk', hkd, sV, hcell, n_id4_id, n_id_id4, n_tb_id4, n_id4_tb, n_tb_id, n_id_tb])
            | ((with_reducible apply AWp.ret); try simp -implicitDefEqProofs [hI, hK, hki, hlt, hkl, hg, hg', hlk, hlk', hgk, hgk', hkd, sV, hcell, n_id4_id, n_id_id4, n_tb_id4, n_id4_tb, n_tb_id, n_id_tb])
            | ((with_reducible apply AWp.skip); try simp -implicitDefEqProofs [hI, hK, hki, hlt, hkl, hg, hg', hlk, hlk', hgk, hgk', hkd, sV, hcell, n_id4_id, n_id_id4, n_tb_id4, n_id4_tb, n_tb_id, n_id_tb])
            | ((with_reducible apply AWp.exit); try simp -implicitDefEqProofs [hI, hK, hki, hlt, hkl, hg, hg', hlk, hlk', hgk, hgk', hkd, sV, hcell, n_id4_id, n_id_id4, n_tb_id4, n_id4_tb, n_tb_id, n_id_tb]))
          clear hC hL hplV
          refine ⟨m2 - 1, _, _, by omega, FrWk.mk ?_, AS.le_refl _, k + 1, ak, by omega, by omega, .inr ⟨by omega, by omega, hL'⟩, rfl, rfl⟩
          simp [wInc (show k < 4000000000000000000 by omega), sV]
        · rw [if_neg (fun e => he e.symm)] at hL'
          repeat (first
            | (with_reducible apply AWp.seq)
            | (with_reducible apply AWp.block)
            | ((with_reducible apply AWp.fork); simp -implicitDefEqProofs [hI, hK, hki, hlt, hkl, hg, hg', hlk, hlk', hgk, hgk', hkd, sV, hcell, he, n_id4_id, n_id_id4, n_tb_id4, n_id4_tb, n_tb_id, n_id_tb])
            | ((with_reducible apply AWp.region); simp -implicitDefEqProofs [hI, hK, hki, hlt, hkl, hg, hg', hlk, hlk', hgk, hgk', hkd, sV, hcell, he, n_id4_id, n_id_id4, n_tb_id4, n_id4_tb, n_tb_id, n_id_tb])
            | (with_reducible refine And.intro (by first | omega | assumption | decide) ?_)
            | ((with_reducible show condK _ _ _); simp -implicitDefEqProofs [hI, hK, hki, hlt, hkl, hg, hg', hlk, hlk', hgk, hgk', hkd, sV, hcell, he, n_id4_id, n_id_id4, n_tb_id4, n_id4_tb, n_tb_id, n_id_tb])
            | ((with_reducible show guardK _ _ _ _ _ _ _ _ _); simp -implicitDefEqProofs [hI, hK, hki, hlt, hkl, hg, hg', hlk, hlk', hgk, hgk', hkd, sV, hcell, he, n_id4_id, n_id_id4, n_tb_id4, n_id4_tb, n_tb_id, n_id_tb])
            | (((with_reducible apply AWp.drawS (id := 15) (t := (Sch.step 0 (Sch.step 1 (Sch.step 2 (Sch.step 4 (Sch.step 5 (Sch.step 6 (Sch.read 3 (Sch.read 7 (Sch.step 8 Sch.done))))))))))); (exact mixed); kernel_rfl; kernel_rfl; (repeat (with_reducible first | apply PanQ.then | apply PanQ.block | apply PanQ.body))); simp -implicitDefEqProofs [hI, hK, hki, hlt, hkl, hg, hg', hlk, hlk', hgk, hgk', hkd, sV, hcell, he, n_id4_id, n_id_id4, n_tb_id4, n_id4_tb, n_tb_id, n_id_tb])
            | (((with_reducible apply AWp.drawS (id := 19) (t := (Sch.step 0 (Sch.step 2 (Sch.step 3 (Sch.step 4 (Sch.read 1 (Sch.read 5 (Sch.alt 6 (Sch.step 7 (Sch.alt 8 Sch.done Sch.none)) Sch.none))))))))); (exact mixed); kernel_rfl; kernel_rfl; (repeat (with_reducible first | apply PanQ.then | apply PanQ.block | apply PanQ.body))); simp -implicitDefEqProofs [hI, hK, hki, hlt, hkl, hg, hg', hlk, hlk', hgk, hgk', hkd, sV, hcell, he, n_id4_id, n_id_id4, n_tb_id4, n_id4_tb, n_tb_id, n_id_tb])
            | ((with_reducible apply AWp.ret); try simp -implicitDefEqProofs [hI, hK, hki, hlt, hkl, hg, hg', hlk, hlk', hgk, hgk', hkd, sV, hcell, he, n_id4_id, n_id_id4, n_tb_id4, n_id4_tb, n_tb_id, n_id_tb])
            | ((with_reducible apply AWp.skip); try simp -implicitDefEqProofs [hI, hK, hki, hlt, hkl, hg, hg', hlk, hlk', hgk, hgk', hkd, sV, hcell, he, n_id4_id, n_id_id4, n_tb_id4, n_id4_tb, n_tb_id, n_id_tb])
            | ((with_reducible apply AWp.exit); try simp -implicitDefEqProofs [hI, hK, hki, hlt, hkl, hg, hg', hlk, hlk', hgk, hgk', hkd, sV, hcell, he, n_id4_id, n_id_id4, n_tb_id4, n_id4_tb, n_tb_id, n_id_tb]))
          clear hC hL hplV
          refine ⟨m2 - 1, _, _, by omega, FrWk.mk ?_, AS.le_refl _, k + 1, 0, by omega, by omega, .inl ⟨rfl, hL'⟩, rfl, rfl⟩
          simp [wInc (show k < 4000000000000000000 by omega), sV]
      · have hstop : ((k : Int) < i) = False ∨ (((k : Int) < i) = True ∧ ((at' : Int) = 0) = False ∧ (at' = 0) = False) := by
          by_cases h : k < i
          · right
            refine ⟨by simp; omega, by simp; omega, by simp; omega⟩
          · left; simp; omega
        have hres : (at' = 0 ∧ lookD s d = none) ∨ (1 ≤ at' ∧ at' ≤ 1000000 ∧ lookD s d = some at') := by
          rcases hL with ⟨h, h2⟩ | h
          · left
            have : d.drop k = [] := List.drop_eq_nil_of_le (by omega)
            rw [this] at h2
            exact ⟨h, h2⟩
          · exact .inr h
        clear hL hcont
        have hL2 : (k : Int) < i ∨ ¬ (k : Int) < i := by omega
        have hbt : ∀ ta, B ta = none → ta ≠ id := fun ta h => (hB4 ta h).1
        rcases hres with ⟨rfl, hlook⟩ | ⟨g1, g2, hlook⟩
        · rw [hlook] at hN
          have hstop' : ((k : Int) < i) = False := by
            rcases hstop with h | ⟨_, h, _⟩
            · exact h
            · simp at h
          have hend : ∀ (ta : Nat) (hta : B ta = none) (q1 : ta ≠ tb) (q2 : ta ≠ id4) (fr : Fr) (σ1 : AS), FrWk Try.prog fr (mkF [(0, .lst 9 (l.map sV) o nl), (2, .ptr id 0), (4, .ptr id4 0), (5, .sc (.int .i64 (i + 1 : Nat)))]) →
              AS.le (((B.set tb (.tok (p ++ s ++ [0]).length)).set id4 (poolC (p ++ s ++ [0]) (.tok tb) false (plV (d ++ [(s, p.length)]) (.tok ta)))).set ta (.tok (i + 1))) σ1 → loopQ Try.prog (rnmI l o nl id id4 tb B) m fr σ1 := by
            intro ta hta q1 q2 fr σ1 h1 h2
            refine ⟨m - 1, _, _, by clear hC; omega, h1, h2, i + 1, p ++ s ++ [0], d ++ [(s, p.length)], _, by clear hC; omega, by clear hC; omega, hN, by rw [List.map_append, hd, htake]; rfl, ?_, by clear hC; simp; omega, by clear hC; simp; omega, .inr ⟨ta, by omega, hta, q1, q2, rfl, rfl⟩, rfl⟩
            intro q hq'
            rcases List.mem_append.1 hq' with h | h
            · exact hq q h
            · simp at h; subst h; clear hC; simp; omega
          rcases hC with ⟨h0, rfl, rfl⟩ | ⟨ta, hi0, hta, q1, q2, rfl, rfl⟩
          · have hd0 : d = [] := List.length_eq_zero_iff.1 (by omega)
            subst hd0
            repeat (first
              | (with_reducible apply AWp.seq)
              | (with_reducible apply AWp.block)
              | ((with_reducible apply AWp.fork); simp -implicitDefEqProofs [hI, hstop', hlt, hg, hg', sV, poolC, n_id4_id, n_id_id4, n_tb_id4, n_id4_tb, n_tb_id, n_id_tb])
              | ((with_reducible apply AWp.region); simp -implicitDefEqProofs [hI, hstop', hlt, hg, hg', sV, poolC, n_id4_id, n_id_id4, n_tb_id4, n_id4_tb, n_tb_id, n_id_tb])
              | (with_reducible refine And.intro (by first | omega | assumption | decide) ?_)
              | ((with_reducible show condK _ _ _); simp -implicitDefEqProofs [hI, hstop', hlt, hg, hg', sV, poolC, n_id4_id, n_id_id4, n_tb_id4, n_id4_tb, n_tb_id, n_id_tb])
              | ((with_reducible show guardK _ _ _ _ _ _ _ _ _); simp -implicitDefEqProofs [hI, hstop', hlt, hg, hg', sV, poolC, n_id4_id, n_id_id4, n_tb_id4, n_id4_tb, n_tb_id, n_id_tb])
              | (((with_reducible apply AWp.drawS (id := 15) (t := (Sch.step 0 (Sch.step 1 (Sch.step 2 (Sch.step 4 (Sch.step 5 (Sch.step 6 (Sch.read 3 (Sch.read 7 (Sch.step 8 Sch.done))))))))))); (exact mixed); kernel_rfl; kernel_rfl; (repeat (with_reducible first | apply PanQ.then | apply PanQ.block | apply PanQ.body))); simp -implicitDefEqProofs [hI, hstop', hlt, hg, hg', sV, poolC, n_id4_id, n_id_id4, n_tb_id4, n_id4_tb, n_tb_id, n_id_tb])
              | (((with_reducible apply AWp.drawS (id := 19) (t := (Sch.step 0 (Sch.step 2 (Sch.step 3 (Sch.step 4 (Sch.read 1 (Sch.read 5 (Sch.alt 6 (Sch.step 7 (Sch.alt 8 Sch.done Sch.none)) Sch.none))))))))); (exact mixed); kernel_rfl; kernel_rfl; (repeat (with_reducible first | apply PanQ.then | apply PanQ.block | apply PanQ.body))); simp -implicitDefEqProofs [hI, hstop', hlt, hg, hg', sV, poolC, n_id4_id, n_id_id4, n_tb_id4, n_id4_tb, n_tb_id, n_id_tb])
              | ((with_reducible apply AWp.ret); try simp -implicitDefEqProofs [hI, hstop', hlt, hg, hg', sV, poolC, n_id4_id, n_id_id4, n_tb_id4, n_id4_tb, n_tb_id, n_id_tb])
              | ((with_reducible apply AWp.skip); try simp -implicitDefEqProofs [hI, hstop', hlt, hg, hg', sV, poolC, n_id4_id, n_id_id4, n_tb_id4, n_id4_tb, n_tb_id, n_id_tb])
              | ((with_reducible apply AWp.exit); try simp -implicitDefEqProofs [hI, hstop', hlt, hg, hg', sV, poolC, n_id4_id, n_id_id4, n_tb_id4, n_id4_tb, n_tb_id, n_id_tb]))
            intro ta
            intros
            have u1 : ta ≠ id4 := by assumption
            have u2 : ta ≠ tb := by assumption
            have u5 : B ta = none := by assumption
            have u1' : id4 ≠ ta := fun e => u1 e.symm
            have u2' : tb ≠ ta := fun e => u2 e.symm
            simp -implicitDefEqProofs [u1, u2, u1', u2', n_id4_id, n_id_id4, n_tb_id4, n_id4_tb, n_tb_id, n_id_tb]
            repeat (first
              | (with_reducible apply AWp.seq)
              | (with_reducible apply AWp.block)
              | ((with_reducible apply AWp.fork); simp -implicitDefEqProofs [n_id4_id, n_id_id4, n_tb_id4, n_id4_tb, n_tb_id, n_id_tb])
              | ((with_reducible apply AWp.region); simp -implicitDefEqProofs [n_id4_id, n_id_id4, n_tb_id4, n_id4_tb, n_tb_id, n_id_tb])
              | (with_reducible refine And.intro (by first | omega | assumption | decide) ?_)
              | ((with_reducible show condK _ _ _); simp -implicitDefEqProofs [n_id4_id, n_id_id4, n_tb_id4, n_id4_tb, n_tb_id, n_id_tb])
              | ((with_reducible show guardK _ _ _ _ _ _ _ _ _); simp -implicitDefEqProofs [n_id4_id, n_id_id4, n_tb_id4, n_id4_tb, n_tb_id, n_id_tb])
              | (((with_reducible apply AWp.drawS (id := 15) (t := (Sch.step 0 (Sch.step 1 (Sch.step 2 (Sch.step 4 (Sch.step 5 (Sch.step 6 (Sch.read 3 (Sch.read 7 (Sch.step 8 Sch.done))))))))))); (exact mixed); kernel_rfl; kernel_rfl; (repeat (with_reducible first | apply PanQ.then | apply PanQ.block | apply PanQ.body))); simp -implicitDefEqProofs [n_id4_id, n_id_id4, n_tb_id4, n_id4_tb, n_tb_id, n_id_tb])
              | (((with_reducible apply AWp.drawS (id := 19) (t := (Sch.step 0 (Sch.step 2 (Sch.step 3 (Sch.step 4 (Sch.read 1 (Sch.read 5 (Sch.alt 6 (Sch.step 7 (Sch.alt 8 Sch.done Sch.none)) Sch.none))))))))); (exact mixed); kernel_rfl; kernel_rfl; (repeat (with_reducible first | apply PanQ.then | apply PanQ.block | apply PanQ.body))); simp -implicitDefEqProofs [n_id4_id, n_id_id4, n_tb_id4, n_id4_tb, n_tb_id, n_id_tb])
              | ((with_reducible apply AWp.ret); try simp -implicitDefEqProofs [n_id4_id, n_id_id4, n_tb_id4, n_id4_tb, n_tb_id, n_id_tb])
              | ((with_reducible apply AWp.skip); try simp -implicitDefEqProofs [n_id4_id, n_id_id4, n_tb_id4, n_id4_tb, n_tb_id, n_id_tb])
              | ((with_reducible apply AWp.exit); try simp -implicitDefEqProofs [n_id4_id, n_id_id4, n_tb_id4, n_id4_tb, n_tb_id, n_id_tb]))
            refine hend ta u5 u2 u1 _ _ (FrWk.mk ?_) ?_
            · simp [wInc (show i < 4000000000000000000 by omega), sV]
            · intro j x hx
              by_cases a1 : j = ta
              · subst a1; simp [AS.set, poolC, plV, *] at hx ⊢; exact hx
              · by_cases a2 : j = id4
                · subst a2; simp [AS.set, poolC, plV, *] at hx ⊢; exact hx
                · by_cases a3 : j = tb
                  · subst a3; simp [AS.set, poolC, plV, *] at hx ⊢; exact hx
                  · simp [AS.set, poolC, plV, *] at hx ⊢; exact hx
          · have q1' : tb ≠ ta := fun e => q1 e.symm
            have q2' : id4 ≠ ta := fun e => q2 e.symm
            repeat (first
              | (with_reducible apply AWp.seq)
              | (with_reducible apply AWp.block)
              | ((with_reducible apply AWp.fork); simp -implicitDefEqProofs [hI, hstop', hlt, hg, hg', sV, poolC, plV, q1, q2, q1', q2', hdl, n_id4_id, n_id_id4, n_tb_id4, n_id4_tb, n_tb_id, n_id_tb])
              | ((with_reducible apply AWp.region); simp -implicitDefEqProofs [hI, hstop', hlt, hg, hg', sV, poolC, plV, q1, q2, q1', q2', hdl, n_id4_id, n_id_id4, n_tb_id4, n_id4_tb, n_tb_id, n_id_tb])
              | (with_reducible refine And.intro (by first | omega | assumption | decide) ?_)
              | ((with_reducible show condK _ _ _); simp -implicitDefEqProofs [hI, hstop', hlt, hg, hg', sV, poolC, plV, q1, q2, q1', q2', hdl, n_id4_id, n_id_id4, n_tb_id4, n_id4_tb, n_tb_id, n_id_tb])
              | ((with_reducible show guardK _ _ _ _ _ _ _ _ _); simp -implicitDefEqProofs [hI, hstop', hlt, hg, hg', sV, poolC, plV, q1, q2, q1', q2', hdl, n_id4_id, n_id_id4, n_tb_id4, n_id4_tb, n_tb_id, n_id_tb])
              | (((with_reducible apply AWp.drawS (id := 15) (t := (Sch.step 0 (Sch.step 1 (Sch.step 2 (Sch.step 4 (Sch.step 5 (Sch.step 6 (Sch.read 3 (Sch.read 7 (Sch.step 8 Sch.done))))))))))); (exact mixed); kernel_rfl; kernel_rfl; (repeat (with_reducible first | apply PanQ.then | apply PanQ.block | apply PanQ.body))); simp -implicitDefEqProofs [hI, hstop', hlt, hg, hg', sV, poolC, plV, q1, q2, q1', q2', hdl, n_id4_id, n_id_id4, n_tb_id4, n_id4_tb, n_tb_id, n_id_tb])
              | (((with_reducible apply AWp.drawS (id := 19) (t := (Sch.step 0 (Sch.step 2 (Sch.step 3 (Sch.step 4 (Sch.read 1 (Sch.read 5 (Sch.alt 6 (Sch.step 7 (Sch.alt 8 Sch.done Sch.none)) Sch.none))))))))); (exact mixed); kernel_rfl; kernel_rfl; (repeat (with_reducible first | apply PanQ.then | apply PanQ.block | apply PanQ.body))); simp -implicitDefEqProofs [hI, hstop', hlt, hg, hg', sV, poolC, plV, q1, q2, q1', q2', hdl, n_id4_id, n_id_id4, n_tb_id4, n_id4_tb, n_tb_id, n_id_tb])
              | ((with_reducible apply AWp.ret); try simp -implicitDefEqProofs [hI, hstop', hlt, hg, hg', sV, poolC, plV, q1, q2, q1', q2', hdl, n_id4_id, n_id_id4, n_tb_id4, n_id4_tb, n_tb_id, n_id_tb])
              | ((with_reducible apply AWp.skip); try simp -implicitDefEqProofs [hI, hstop', hlt, hg, hg', sV, poolC, plV, q1, q2, q1', q2', hdl, n_id4_id, n_id_id4, n_tb_id4, n_id4_tb, n_tb_id, n_id_tb])
              | ((with_reducible apply AWp.exit); try simp -implicitDefEqProofs [hI, hstop', hlt, hg, hg', sV, poolC, plV, q1, q2, q1', q2', hdl, n_id4_id, n_id_id4, n_tb_id4, n_id4_tb, n_tb_id, n_id_tb]))
            refine hend ta hta q1 q2 _ _ (FrWk.mk ?_) ?_
            · simp [wInc (show i < 4000000000000000000 by omega), sV]
            · intro j x hx
              by_cases a1 : j = ta
              · subst a1; simp [AS.set, poolC, plV, *] at hx ⊢; exact hx
              · by_cases a2 : j = id4
                · subst a2; simp [AS.set, poolC, plV, *] at hx ⊢; exact hx
                · by_cases a3 : j = tb
                  · subst a3; simp [AS.set, poolC, plV, *] at hx ⊢; exact hx
                  · simp [AS.set, poolC, plV, *] at hx ⊢; exact hx
        · rw [hlook] at hN
          have z1 : ((at' : Int) = 0) = False := by simp; omega
          have z2 : (at' = 0) = False := by simp; omega
          rcases hC with ⟨h0, rfl, rfl⟩ | ⟨ta, hi0, hta, q1, q2, rfl, rfl⟩
          · have hd0 : d = [] := List.length_eq_zero_iff.1 (by omega)
            subst hd0
            simp [lookD] at hlook
          · have q1' : tb ≠ ta := fun e => q1 e.symm
            have q2' : id4 ≠ ta := fun e => q2 e.symm
            rcases hL2 with hL2 | hL2
            all_goals
              repeat (first
                | (with_reducible apply AWp.seq)
                | (with_reducible apply AWp.block)
                | ((with_reducible apply AWp.fork); simp -implicitDefEqProofs [hI, hL2, z1, z2, hlt, hg, hg', sV, poolC, plV, q1, q2, q1', q2', hdl, n_id4_id, n_id_id4, n_tb_id4, n_id4_tb, n_tb_id, n_id_tb])
                | ((with_reducible apply AWp.region); simp -implicitDefEqProofs [hI, hL2, z1, z2, hlt, hg, hg', sV, poolC, plV, q1, q2, q1', q2', hdl, n_id4_id, n_id_id4, n_tb_id4, n_id4_tb, n_tb_id, n_id_tb])
                | (with_reducible refine And.intro (by first | omega | assumption | decide) ?_)
                | ((with_reducible show condK _ _ _); simp -implicitDefEqProofs [hI, hL2, z1, z2, hlt, hg, hg', sV, poolC, plV, q1, q2, q1', q2', hdl, n_id4_id, n_id_id4, n_tb_id4, n_id4_tb, n_tb_id, n_id_tb])
                | ((with_reducible show guardK _ _ _ _ _ _ _ _ _); simp -implicitDefEqProofs [hI, hL2, z1, z2, hlt, hg, hg', sV, poolC, plV, q1, q2, q1', q2', hdl, n_id4_id, n_id_id4, n_tb_id4, n_id4_tb, n_tb_id, n_id_tb])
                | (((with_reducible apply AWp.drawS (id := 15) (t := (Sch.step 0 (Sch.step 1 (Sch.step 2 (Sch.step 4 (Sch.step 5 (Sch.step 6 (Sch.read 3 (Sch.read 7 (Sch.step 8 Sch.done))))))))))); (exact mixed); kernel_rfl; kernel_rfl; (repeat (with_reducible first | apply PanQ.then | apply PanQ.block | apply PanQ.body))); simp -implicitDefEqProofs [hI, hL2, z1, z2, hlt, hg, hg', sV, poolC, plV, q1, q2, q1', q2', hdl, n_id4_id, n_id_id4, n_tb_id4, n_id4_tb, n_tb_id, n_id_tb])
                | (((with_reducible apply AWp.drawS (id := 19) (t := (Sch.step 0 (Sch.step 2 (Sch.step 3 (Sch.step 4 (Sch.read 1 (Sch.read 5 (Sch.alt 6 (Sch.step 7 (Sch.alt 8 Sch.done Sch.none)) Sch.none))))))))); (exact mixed); kernel_rfl; kernel_rfl; (repeat (with_reducible first | apply PanQ.then | apply PanQ.block | apply PanQ.body))); simp -implicitDefEqProofs [hI, hL2, z1, z2, hlt, hg, hg', sV, poolC, plV, q1, q2, q1', q2', hdl, n_id4_id, n_id_id4, n_tb_id4, n_id4_tb, n_tb_id, n_id_tb])
                | ((with_reducible apply AWp.ret); try simp -implicitDefEqProofs [hI, hL2, z1, z2, hlt, hg, hg', sV, poolC, plV, q1, q2, q1', q2', hdl, n_id4_id, n_id_id4, n_tb_id4, n_id4_tb, n_tb_id, n_id_tb])
                | ((with_reducible apply AWp.skip); try simp -implicitDefEqProofs [hI, hL2, z1, z2, hlt, hg, hg', sV, poolC, plV, q1, q2, q1', q2', hdl, n_id4_id, n_id_id4, n_tb_id4, n_id4_tb, n_tb_id, n_id_tb])
                | ((with_reducible apply AWp.exit); try simp -implicitDefEqProofs [hI, hL2, z1, z2, hlt, hg, hg', sV, poolC, plV, q1, q2, q1', q2', hdl, n_id4_id, n_id_id4, n_tb_id4, n_id4_tb, n_tb_id, n_id_tb]))
              refine ⟨m - 1, _, _, by omega, FrWk.mk (l := [(0, .lst 9 (l.map sV) o nl), (2, .ptr id 0), (4, .ptr id4 0), (5, .sc (.int .i64 (i + 1 : Nat)))]) ?_, ?_, i + 1, p, d ++ [(s, at')], _, by omega, by omega, hN, by rw [List.map_append, hd, htake]; rfl, ?_, hp1, by omega, .inr ⟨ta, by omega, hta, q1, q2, rfl, rfl⟩, rfl⟩
              · simp [wInc (show i < 4000000000000000000 by omega), sV]
              · intro j x hx
                by_cases a1 : j = ta
                · subst a1; simp [AS.set, poolC, plV, *] at hx ⊢; exact hx
                · by_cases a2 : j = id4
                  · subst a2; simp [AS.set, poolC, plV, *] at hx ⊢; exact hx
                  · by_cases a3 : j = tb
                    · subst a3; simp [AS.set, poolC, plV, *] at hx ⊢; exact hx
                    · simp [AS.set, poolC, plV, *] at hx ⊢; exact hx
              · intro q hq'
                rcases List.mem_append.1 hq' with h | h
                · exact hq q h
                · simp at h; subst h; exact ⟨g1, g2⟩
    · have hI : ((i : Int) < l.length) = False := by simp; omega
      have hdr : l.drop i = [] := List.drop_eq_nil_of_le (by omega)
      rw [hdr] at hN
      simp only [nmF] at hN
      rw [← hN] at hlen ⊢
      simp only at hlen ⊢
      have hbig : (65536 < (p.length : Int)) = False := by simp; omega
      have hid4 : id ≠ id4 := n_id_id4
      have hidtb : id ≠ tb := n_id_tb
      rcases hC with ⟨h0, rfl, rfl⟩ | ⟨ta, hi0, hta, q1, q2, rfl, rfl⟩
      · have hd0 : d = [] := List.length_eq_zero_iff.1 (by omega)
        have hl0 : l = [] := List.length_eq_zero_iff.1 (by omega)
        subst hd0 hl0
        subst h0
        clear hI
        repeat (first
          | (with_reducible apply AWp.seq)
          | (with_reducible apply AWp.block)
          | ((with_reducible apply AWp.fork); simp -implicitDefEqProofs [poolC, hbig, hBid, n_id4_id, n_id_id4, n_tb_id4, n_id4_tb, n_tb_id, n_id_tb])
          | ((with_reducible apply AWp.region); simp -implicitDefEqProofs [poolC, hbig, hBid, n_id4_id, n_id_id4, n_tb_id4, n_id4_tb, n_tb_id, n_id_tb])
          | (with_reducible refine And.intro (by first | omega | assumption | decide) ?_)
          | ((with_reducible show condK _ _ _); simp -implicitDefEqProofs [poolC, hbig, hBid, n_id4_id, n_id_id4, n_tb_id4, n_id4_tb, n_tb_id, n_id_tb])
          | ((with_reducible show guardK _ _ _ _ _ _ _ _ _); simp -implicitDefEqProofs [poolC, hbig, hBid, n_id4_id, n_id_id4, n_tb_id4, n_id4_tb, n_tb_id, n_id_tb])
          | (((with_reducible apply AWp.drawS (id := 15) (t := (Sch.step 0 (Sch.step 1 (Sch.step 2 (Sch.step 4 (Sch.step 5 (Sch.step 6 (Sch.read 3 (Sch.read 7 (Sch.step 8 Sch.done))))))))))); (exact mixed); kernel_rfl; kernel_rfl; (repeat (with_reducible first | apply PanQ.then | apply PanQ.block | apply PanQ.body))); simp -implicitDefEqProofs [poolC, hbig, hBid, n_id4_id, n_id_id4, n_tb_id4, n_id4_tb, n_tb_id, n_id_tb])
          | (((with_reducible apply AWp.drawS (id := 19) (t := (Sch.step 0 (Sch.step 2 (Sch.step 3 (Sch.step 4 (Sch.read 1 (Sch.read 5 (Sch.alt 6 (Sch.step 7 (Sch.alt 8 Sch.done Sch.none)) Sch.none))))))))); (exact mixed); kernel_rfl; kernel_rfl; (repeat (with_reducible first | apply PanQ.then | apply PanQ.block | apply PanQ.body))); simp -implicitDefEqProofs [poolC, hbig, hBid, n_id4_id, n_id_id4, n_tb_id4, n_id4_tb, n_tb_id, n_id_tb])
          | ((with_reducible apply AWp.ret); try simp -implicitDefEqProofs [poolC, hbig, hBid, n_id4_id, n_id_id4, n_tb_id4, n_id4_tb, n_tb_id, n_id_tb])
          | ((with_reducible apply AWp.skip); try simp -implicitDefEqProofs [poolC, hbig, hBid, n_id4_id, n_id_id4, n_tb_id4, n_id4_tb, n_tb_id, n_id_tb])
          | ((with_reducible apply AWp.exit); try simp -implicitDefEqProofs [poolC, hbig, hBid, n_id4_id, n_id_id4, n_tb_id4, n_id4_tb, n_tb_id, n_id_tb]))
        refine ⟨Wk_agg3 (by simp) (by simp) (by simp), ?_⟩
        intro j x hx
        have a0 : j ≠ id := by rintro rfl; rw [h_id] at hx; cases hx
        have a2 : j ≠ id4 := by rintro rfl; rw [h_id4] at hx; cases hx
        have a3 : j ≠ tb := by rintro rfl; rw [h_tb] at hx; cases hx
        have := hBle j x hx
        simp [AS.set, *]
      · have q1' : tb ≠ ta := fun e => q1 e.symm
        have q2' : id4 ≠ ta := fun e => q2 e.symm
        have q3 : ta ≠ id := (hB4 ta hta).1
        have q3' : id ≠ ta := fun e => q3 e.symm
        repeat (first
          | (with_reducible apply AWp.seq)
          | (with_reducible apply AWp.block)
          | ((with_reducible apply AWp.fork); simp -implicitDefEqProofs [hI, poolC, plV, hbig, hBid, q1, q2, q1', q2', q3, q3', n_id4_id, n_id_id4, n_tb_id4, n_id4_tb, n_tb_id, n_id_tb])
          | ((with_reducible apply AWp.region); simp -implicitDefEqProofs [hI, poolC, plV, hbig, hBid, q1, q2, q1', q2', q3, q3', n_id4_id, n_id_id4, n_tb_id4, n_id4_tb, n_tb_id, n_id_tb])
          | (with_reducible refine And.intro (by first | omega | assumption | decide) ?_)
          | ((with_reducible show condK _ _ _); simp -implicitDefEqProofs [hI, poolC, plV, hbig, hBid, q1, q2, q1', q2', q3, q3', n_id4_id, n_id_id4, n_tb_id4, n_id4_tb, n_tb_id, n_id_tb])
          | ((with_reducible show guardK _ _ _ _ _ _ _ _ _); simp -implicitDefEqProofs [hI, poolC, plV, hbig, hBid, q1, q2, q1', q2', q3, q3', n_id4_id, n_id_id4, n_tb_id4, n_id4_tb, n_tb_id, n_id_tb])
          | (((with_reducible apply AWp.drawS (id := 15) (t := (Sch.step 0 (Sch.step 1 (Sch.step 2 (Sch.step 4 (Sch.step 5 (Sch.step 6 (Sch.read 3 (Sch.read 7 (Sch.step 8 Sch.done))))))))))); (exact mixed); kernel_rfl; kernel_rfl; (repeat (with_reducible first | apply PanQ.then | apply PanQ.block | apply PanQ.body))); simp -implicitDefEqProofs [hI, poolC, plV, hbig, hBid, q1, q2, q1', q2', q3, q3', n_id4_id, n_id_id4, n_tb_id4, n_id4_tb, n_tb_id, n_id_tb])
          | (((with_reducible apply AWp.drawS (id := 19) (t := (Sch.step 0 (Sch.step 2 (Sch.step 3 (Sch.step 4 (Sch.read 1 (Sch.read 5 (Sch.alt 6 (Sch.step 7 (Sch.alt 8 Sch.done Sch.none)) Sch.none))))))))); (exact mixed); kernel_rfl; kernel_rfl; (repeat (with_reducible first | apply PanQ.then | apply PanQ.block | apply PanQ.body))); simp -implicitDefEqProofs [hI, poolC, plV, hbig, hBid, q1, q2, q1', q2', q3, q3', n_id4_id, n_id_id4, n_tb_id4, n_id4_tb, n_tb_id, n_id_tb])
          | ((with_reducible apply AWp.ret); try simp -implicitDefEqProofs [hI, poolC, plV, hbig, hBid, q1, q2, q1', q2', q3, q3', n_id4_id, n_id_id4, n_tb_id4, n_id4_tb, n_tb_id, n_id_tb])
          | ((with_reducible apply AWp.skip); try simp -implicitDefEqProofs [hI, poolC, plV, hbig, hBid, q1, q2, q1', q2', q3, q3', n_id4_id, n_id_id4, n_tb_id4, n_id4_tb, n_tb_id, n_id_tb])
          | ((with_reducible apply AWp.exit); try simp -implicitDefEqProofs [hI, poolC, plV, hbig, hBid, q1, q2, q1', q2', q3, q3', n_id4_id, n_id_id4, n_tb_id4, n_id4_tb, n_tb_id, n_id_tb]))
        have h2 : decide (l = []) = false := by
          have : l ≠ [] := by rintro rfl; simp at hi; omega
          simp [this]
        rw [h2]
        refine ⟨Wk_agg3 (by simp) (by simp) (by simp), ?_⟩
        intro j x hx
        have a0 : j ≠ id := by rintro rfl; rw [h_id] at hx; cases hx
        have a2 : j ≠ id4 := by rintro rfl; rw [h_id4] at hx; cases hx
        have a3 : j ≠ tb := by rintro rfl; rw [h_tb] at hx; cases hx
        have a1 : j ≠ ta := by rintro rfl; rw [(hB4 _ hta).2] at hx; cases hx
        have := hBle j x hx
        simp [AS.set, *]

theorem rnames_all (l : List (List UInt8)) (nl : Bool) (o0 : Own) (hl : l.length ≤ 1000) (hs : ∀ s ∈ l, s.length ≤ 140737488355328) (σ : AS) :
    ACalls Try.prog 35 [.lst 9 (l.map sV) o0 nl] σ (Gives (.agg [.lst 5 ((namesR l).1.map u8) .unk (!l.all fineB), .lst 3 ((namesR l).2.1.map i64v) .unk (!l.all fineB || decide (l = [])), .sc (.int .i64 (namesR l).2.2)]) σ) No := by
  cases hf : l.all fineB with
  | true =>
    rw [namesR_ok l hl hf]
    have h := rnames_ok l o0 nl hl hs hf σ
    have e : (nmF l [0] []).2.map (fun p => (AV.sc (.int .i64 (p.2 : Int)))) = ((nmF l [0] []).2.map (fun p => (p.2 : Int))).map i64v := by simp [i64v_def]
    rw [e] at h
    simpa using h
  | false =>
    rw [namesR_bad l hf]
    exact (rnames_bad l o0 nl hl hs hf σ).told (Wk_agg3 (by simp) (by simp) (by simp))

theorem nmF_snd : ∀ (l : List (List UInt8)) (p : List UInt8) (d : List (List UInt8 × Nat)), (nmF l p d).2.length = d.length + l.length := by
  intro l
  induction l with
  | nil => intro p d; simp [nmF]
  | cons s r ih =>
    intro p d
    simp only [nmF]
    split
    · rw [ih]; simp; omega
    · rw [ih]; simp; omega

theorem poolNames_ok (l : List (List UInt8)) (nl : Bool) (hn : nl = true → l = []) (hl : l.length ≤ 8796093022208) (hs : ∀ s ∈ l, s.length ≤ 140737488355328) :
    ACalls Try.prog 8 [.lst 9 (l.map sV) .unk nl] noAS IsTrue No := by
  have h1 := fun σ => bytes_ok l .unk nl hl hs σ
  have h2 := fun o σ => long_ok (l.map fun s => (s, false)) o (decide (l = [])) (by simp; omega) (by intro s h; simp at h; obtain ⟨a, h, rfl⟩ := h; exact hs a h) σ
  have hLl : (l.map fun s => (s, false)).length = l.length := by simp
  generalize (l.map fun s => (s, false)) = L at h1 h2 hLl
  refine ACalls.of_body Try.func8 rfl rfl (by simp [Try.ntmps8]) ?_
  cases hL : longB L with
  | true =>
    rw [hL] at h2
    repeat (first
      | (with_reducible apply AWp.seq)
      | (with_reducible apply AWp.block)
      | ((with_reducible apply AWp.fork); simp -implicitDefEqProofs)
      | ((with_reducible apply AWp.region); simp -implicitDefEqProofs)
      | (with_reducible refine And.intro (by first | omega | assumption | decide) ?_)
      | ((with_reducible apply aCall.id); first
          | ((apply aCall.gives (pwakes_ok _)); simp -implicitDefEqProofs)
          | ((apply aCall.gives (h1 _)); simp -implicitDefEqProofs)
          | ((apply aCall.gives (h2 _ _)); simp -implicitDefEqProofs))
      | ((with_reducible apply AWp.ret); try simp -implicitDefEqProofs)
      | ((with_reducible apply AWp.skip); try simp -implicitDefEqProofs)
      | ((with_reducible apply AWp.exit); try simp -implicitDefEqProofs))
  | false =>
    rw [hL] at h2
    have hl60 : l.length ≤ 60 := by simp [longB] at hL; omega
    have hml : (l.map sV).length = l.length := by simp
    have h3 := fun nl o σ => names_all l nl o (by omega) hs σ
    have h4 := fun nl o σ => rnames_all l nl o (by omega) hs σ
    have hb1 : (namesR l).1.length ≤ 140737488355328 ∧ (namesR l).2.1.length ≤ 140737488355328 := by
      cases hf : l.all fineB with
      | true =>
        rw [namesR_ok l (by omega) hf]
        have a1 := nmF_len l [0] [] hf
        have a2 := nmF_snd l [0] []
        simp at a1 a2 ⊢
        omega
      | false => rw [namesR_bad l hf]; simp
    generalize namesR l = r at h3 h4 hb1
    obtain ⟨r1, r2, r3⟩ := r
    simp only at h3 h4 hb1
    have h5 := fun o1 o2 n1 n2 σ => same_ok r1 r1 o1 o2 n1 n2 hb1.1 σ
    have h6 := fun o1 o2 n1 n2 σ => sints_ok r2 r2 o1 o2 n1 n2 hb1.2 hb1.2 σ
    repeat (first
      | (with_reducible apply AWp.seq)
      | (with_reducible apply AWp.block)
      | ((with_reducible apply AWp.fork); simp -implicitDefEqProofs)
      | ((with_reducible apply AWp.region); simp -implicitDefEqProofs)
      | (with_reducible refine And.intro (by first | omega | assumption | decide) ?_)
      | ((with_reducible apply aCall.id); first
          | ((apply aCall.gives (pwakes_ok _)); simp -implicitDefEqProofs)
          | ((apply aCall.gives (h1 _)); simp -implicitDefEqProofs)
          | ((apply aCall.gives (h2 _ _)); simp -implicitDefEqProofs))
      | ((with_reducible apply AWp.ret); try simp -implicitDefEqProofs)
      | ((with_reducible apply AWp.skip); try simp -implicitDefEqProofs)
      | ((with_reducible apply AWp.exit); try simp -implicitDefEqProofs))
    intro tk h_tk
    repeat (first
      | (with_reducible apply AWp.seq)
      | (with_reducible apply AWp.block)
      | ((with_reducible apply AWp.fork); simp -implicitDefEqProofs)
      | ((with_reducible apply AWp.region); simp -implicitDefEqProofs)
      | (with_reducible refine And.intro (by first | omega | assumption | decide) ?_)
      | ((with_reducible apply aCall.id); first
          | ((apply aCall.gives (h3 _ _ _)); simp -implicitDefEqProofs)
          | ((apply aCall.gives (h4 _ _ _)); simp -implicitDefEqProofs))
      | ((with_reducible apply AWp.ret); try simp -implicitDefEqProofs)
      | ((with_reducible apply AWp.skip); try simp -implicitDefEqProofs)
      | ((with_reducible apply AWp.exit); try simp -implicitDefEqProofs))
    intro id n_id_tk h_id
    have n_tk_id : ¬ tk = id := fun e => n_id_tk e.symm
    repeat (first
      | (with_reducible apply AWp.seq)
      | (with_reducible apply AWp.block)
      | ((with_reducible apply AWp.fork); simp -implicitDefEqProofs [n_id_tk, n_tk_id])
      | ((with_reducible apply AWp.region); simp -implicitDefEqProofs [n_id_tk, n_tk_id])
      | (with_reducible refine And.intro (by first | omega | assumption | decide) ?_)
      | ((with_reducible show condK _ _ _); simp -implicitDefEqProofs [n_id_tk, n_tk_id])
      | ((with_reducible show guardK _ _ _ _ _ _ _ _ _); simp -implicitDefEqProofs [n_id_tk, n_tk_id])
      | ((with_reducible apply aCall.id); first
          | ((apply aCall.gives (h5 _ _ _ _ _)); simp -implicitDefEqProofs [n_id_tk, n_tk_id])
          | ((apply aCall.gives (h6 _ _ _ _ _)); simp -implicitDefEqProofs [n_id_tk, n_tk_id]))
      | ((with_reducible apply AWp.ret); try simp -implicitDefEqProofs [n_id_tk, n_tk_id])
      | ((with_reducible apply AWp.skip); try simp -implicitDefEqProofs [n_id_tk, n_tk_id])
      | ((with_reducible apply AWp.exit); try simp -implicitDefEqProofs [n_id_tk, n_tk_id]))

end Go.Proofs.Ytiojkpebjdifoaa
