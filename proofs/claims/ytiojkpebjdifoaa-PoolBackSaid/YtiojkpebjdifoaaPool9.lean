/- Chapter 02: the reference's Blobs; PoolBlobs as a walk. -/
import Derived.Test.YtiojkpebjdifoaaPool8
set_option linter.unusedSimpArgs false
set_option linter.unusedVariables false
set_option maxRecDepth 100000
set_option maxHeartbeats 3200000
namespace Go.Proofs.Ytiojkpebjdifoaa
open Go Go.AW

def okQ (q : List UInt8 × Nat) : Prop := (q.1 = [] → q.2 = 0) ∧ (q.1 ≠ [] → 1 ≤ q.2) ∧ q.2 ≤ 1000000
def rbmI (l : List (List UInt8 × Bool)) (o : Own) (nl : Bool) (id2 id4 tb : Nat) (B : AS) (m : Nat) (fr : Fr) (σ' : AS) : Prop :=
  ∃ (i : Nat) (p : List UInt8) (d : List (List UInt8 × Nat)) (pl : AV), m = l.length - i ∧ i ≤ l.length ∧ bmF ((l.drop i).map (·.1)) p d = bmF (l.map (·.1)) [0] [] ∧ d.map (·.1) = (l.take i).map (·.1) ∧ (∀ q ∈ d, okQ q) ∧ 1 ≤ p.length ∧ p.length ≤ 1 + 304 * i ∧
    ((i = 0 ∧ pl = .nilS ∧ σ' = (B.set tb (.tok p.length)).set id4 (poolC p (.tok tb) false pl)) ∨
     (∃ ta, 0 < i ∧ B ta = none ∧ ta ≠ tb ∧ ta ≠ id4 ∧ pl = plV d (.tok ta) ∧ σ' = ((B.set tb (.tok p.length)).set id4 (poolC p (.tok tb) false pl)).set ta (.tok i))) ∧
    fr = mkF [(0, .lst 22 (l.map bV) o nl), (2, .ptr id2 0), (3, .ptr id4 0), (4, .sc (.int .i64 i))]
def rbsI (l : List (List UInt8 × Bool)) (s : List UInt8) (d : List (List UInt8 × Nat)) (o : Own) (nl : Bool) (id2 id4 : Nat) (i : Nat) (B : AS) (m : Nat) (fr : Fr) (σ' : AS) : Prop :=
  ∃ (k at' : Nat), m = i - k ∧ k ≤ i ∧ ((at' = 0 ∧ (s ≠ [] → lookD s d = lookD s (d.drop k))) ∨ (1 ≤ at' ∧ at' ≤ 1000000 ∧ s ≠ [] ∧ lookD s d = some at')) ∧ σ' = B ∧
    fr = mkF [(0, .lst 22 (l.map bV) o nl), (2, .ptr id2 0), (3, .ptr id4 0), (4, .sc (.int .i64 i)), (5, .sc (.int .i64 at')), (6, .sc (.int .i64 k))]

theorem rblobs_ok (l : List (List UInt8 × Bool)) (o : Own) (nl : Bool) (hl : l.length ≤ 60) (hs : ∀ s ∈ l, s.1.length ≤ 300) (σ : AS) :
    ACalls Try.prog 42 [.lst 22 (l.map bV) o nl] σ (Gives (.agg [.lst 5 ((bmF (l.map (·.1)) [0] []).1.map u8) .unk false, .lst 3 ((bmF (l.map (·.1)) [0] []).2.map fun p => .sc (.int .i64 p.2)) .unk (decide (l = [])), .sc (.int .i64 0)]) σ) No := by
  refine ACalls.of_body Try.func42 rfl rfl (by simp [Try.ntmps42]) ?_
  repeat (first
    | (with_reducible apply AWp.seq)
    | (with_reducible apply AWp.block)
    | ((with_reducible apply AWp.fork); simp -implicitDefEqProofs)
    | ((with_reducible apply AWp.region); simp -implicitDefEqProofs)
    | (with_reducible refine And.intro (by first | omega | assumption | decide) ?_)
    | (((with_reducible apply AWp.drawS (id := 12) (t := (Sch.step 0 (Sch.step 1 (Sch.step 2 (Sch.step 4 (Sch.step 5 (Sch.step 6 (Sch.read 3 (Sch.read 7 (Sch.pure 8 Sch.done))))))))))); (exact mixed); kernel_rfl; kernel_rfl; (repeat (with_reducible first | apply PanQ.then | apply PanQ.block | apply PanQ.body))); simp -implicitDefEqProofs)
    | (((with_reducible apply AWp.drawS (id := 16) (t := (Sch.step 0 (Sch.step 2 (Sch.step 3 (Sch.step 4 (Sch.read 5 (Sch.read 6 (Sch.alt 1 (Sch.alt 7 (Sch.alt 8 (Sch.step 9 (Sch.alt 10 Sch.done Sch.none)) Sch.none) Sch.none) (Sch.alt 7 (Sch.read 1 (Sch.alt 8 (Sch.step 9 (Sch.alt 10 Sch.done Sch.none)) Sch.none)) Sch.none)))))))))); (exact mixed); kernel_rfl; kernel_rfl; (repeat (with_reducible first | apply PanQ.then | apply PanQ.block | apply PanQ.body))); simp -implicitDefEqProofs)
    | (((with_reducible apply AWp.drawS (id := 17) (t := (Sch.step 0 (Sch.step 2 (Sch.step 3 (Sch.step 4 (Sch.read 1 (Sch.read 5 (Sch.alt 6 (Sch.step 7 (Sch.alt 8 Sch.done Sch.none)) Sch.none))))))))); (exact mixed); kernel_rfl; kernel_rfl; (repeat (with_reducible first | apply PanQ.then | apply PanQ.block | apply PanQ.body))); simp -implicitDefEqProofs)
    | ((with_reducible apply AWp.ret); try simp -implicitDefEqProofs)
    | ((with_reducible apply AWp.skip); try simp -implicitDefEqProofs)
    | ((with_reducible apply AWp.exit); try simp -implicitDefEqProofs))
  intro id h_id
  repeat (first
    | (with_reducible apply AWp.seq)
    | (with_reducible apply AWp.block)
    | ((with_reducible apply AWp.fork); simp -implicitDefEqProofs)
    | ((with_reducible apply AWp.region); simp -implicitDefEqProofs)
    | (with_reducible refine And.intro (by first | omega | assumption | decide) ?_)
    | (((with_reducible apply AWp.drawS (id := 12) (t := (Sch.step 0 (Sch.step 1 (Sch.step 2 (Sch.step 4 (Sch.step 5 (Sch.step 6 (Sch.read 3 (Sch.read 7 (Sch.pure 8 Sch.done))))))))))); (exact mixed); kernel_rfl; kernel_rfl; (repeat (with_reducible first | apply PanQ.then | apply PanQ.block | apply PanQ.body))); simp -implicitDefEqProofs)
    | (((with_reducible apply AWp.drawS (id := 16) (t := (Sch.step 0 (Sch.step 2 (Sch.step 3 (Sch.step 4 (Sch.read 5 (Sch.read 6 (Sch.alt 1 (Sch.alt 7 (Sch.alt 8 (Sch.step 9 (Sch.alt 10 Sch.done Sch.none)) Sch.none) Sch.none) (Sch.alt 7 (Sch.read 1 (Sch.alt 8 (Sch.step 9 (Sch.alt 10 Sch.done Sch.none)) Sch.none)) Sch.none)))))))))); (exact mixed); kernel_rfl; kernel_rfl; (repeat (with_reducible first | apply PanQ.then | apply PanQ.block | apply PanQ.body))); simp -implicitDefEqProofs)
    | (((with_reducible apply AWp.drawS (id := 17) (t := (Sch.step 0 (Sch.step 2 (Sch.step 3 (Sch.step 4 (Sch.read 1 (Sch.read 5 (Sch.alt 6 (Sch.step 7 (Sch.alt 8 Sch.done Sch.none)) Sch.none))))))))); (exact mixed); kernel_rfl; kernel_rfl; (repeat (with_reducible first | apply PanQ.then | apply PanQ.block | apply PanQ.body))); simp -implicitDefEqProofs)
    | ((with_reducible apply AWp.ret); try simp -implicitDefEqProofs)
    | ((with_reducible apply AWp.skip); try simp -implicitDefEqProofs)
    | ((with_reducible apply AWp.exit); try simp -implicitDefEqProofs))
  intro id4 n_id4_id h_id4
  have n_id_id4 : ¬ id = id4 := fun e => n_id4_id e.symm
  repeat (first
    | (with_reducible apply AWp.seq)
    | (with_reducible apply AWp.block)
    | ((with_reducible apply AWp.fork); simp -implicitDefEqProofs [n_id4_id, n_id_id4])
    | ((with_reducible apply AWp.region); simp -implicitDefEqProofs [n_id4_id, n_id_id4])
    | (with_reducible refine And.intro (by first | omega | assumption | decide) ?_)
    | ((with_reducible show condK _ _ _); simp -implicitDefEqProofs [n_id4_id, n_id_id4])
    | ((with_reducible show guardK _ _ _ _ _ _ _ _ _); simp -implicitDefEqProofs [n_id4_id, n_id_id4])
    | (((with_reducible apply AWp.drawS (id := 12) (t := (Sch.step 0 (Sch.step 1 (Sch.step 2 (Sch.step 4 (Sch.step 5 (Sch.step 6 (Sch.read 3 (Sch.read 7 (Sch.pure 8 Sch.done))))))))))); (exact mixed); kernel_rfl; kernel_rfl; (repeat (with_reducible first | apply PanQ.then | apply PanQ.block | apply PanQ.body))); simp -implicitDefEqProofs [n_id4_id, n_id_id4])
    | (((with_reducible apply AWp.drawS (id := 16) (t := (Sch.step 0 (Sch.step 2 (Sch.step 3 (Sch.step 4 (Sch.read 5 (Sch.read 6 (Sch.alt 1 (Sch.alt 7 (Sch.alt 8 (Sch.step 9 (Sch.alt 10 Sch.done Sch.none)) Sch.none) Sch.none) (Sch.alt 7 (Sch.read 1 (Sch.alt 8 (Sch.step 9 (Sch.alt 10 Sch.done Sch.none)) Sch.none)) Sch.none)))))))))); (exact mixed); kernel_rfl; kernel_rfl; (repeat (with_reducible first | apply PanQ.then | apply PanQ.block | apply PanQ.body))); simp -implicitDefEqProofs [n_id4_id, n_id_id4])
    | (((with_reducible apply AWp.drawS (id := 17) (t := (Sch.step 0 (Sch.step 2 (Sch.step 3 (Sch.step 4 (Sch.read 1 (Sch.read 5 (Sch.alt 6 (Sch.step 7 (Sch.alt 8 Sch.done Sch.none)) Sch.none))))))))); (exact mixed); kernel_rfl; kernel_rfl; (repeat (with_reducible first | apply PanQ.then | apply PanQ.block | apply PanQ.body))); simp -implicitDefEqProofs [n_id4_id, n_id_id4])
    | ((with_reducible apply AWp.ret); try simp -implicitDefEqProofs [n_id4_id, n_id_id4])
    | ((with_reducible apply AWp.skip); try simp -implicitDefEqProofs [n_id4_id, n_id_id4])
    | ((with_reducible apply AWp.exit); try simp -implicitDefEqProofs [n_id4_id, n_id_id4]))
  intro tb n_tb_id4 n_tb_id h_tb
  have n_id4_tb : ¬ id4 = tb := fun e => n_tb_id4 e.symm
  have n_id_tb : ¬ id = tb := fun e => n_tb_id e.symm
  simp -implicitDefEqProofs [n_id4_id, n_id_id4, n_tb_id4, n_id4_tb, n_tb_id, n_id_tb]
  repeat (first
    | (with_reducible apply AWp.seq)
    | (with_reducible apply AWp.block)
    | ((with_reducible apply AWp.fork); simp -implicitDefEqProofs [n_id4_id, n_id_id4, n_tb_id4, n_id4_tb, n_tb_id, n_id_tb])
    | ((with_reducible apply AWp.region); simp -implicitDefEqProofs [n_id4_id, n_id_id4, n_tb_id4, n_id4_tb, n_tb_id, n_id_tb])
    | (with_reducible refine And.intro (by first | omega | assumption | decide) ?_)
    | ((with_reducible show condK _ _ _); simp -implicitDefEqProofs [n_id4_id, n_id_id4, n_tb_id4, n_id4_tb, n_tb_id, n_id_tb])
    | ((with_reducible show guardK _ _ _ _ _ _ _ _ _); simp -implicitDefEqProofs [n_id4_id, n_id_id4, n_tb_id4, n_id4_tb, n_tb_id, n_id_tb])
    | (((with_reducible apply AWp.drawS (id := 12) (t := (Sch.step 0 (Sch.step 1 (Sch.step 2 (Sch.step 4 (Sch.step 5 (Sch.step 6 (Sch.read 3 (Sch.read 7 (Sch.pure 8 Sch.done))))))))))); (exact mixed); kernel_rfl; kernel_rfl; (repeat (with_reducible first | apply PanQ.then | apply PanQ.block | apply PanQ.body))); simp -implicitDefEqProofs [n_id4_id, n_id_id4, n_tb_id4, n_id4_tb, n_tb_id, n_id_tb])
    | (((with_reducible apply AWp.drawS (id := 16) (t := (Sch.step 0 (Sch.step 2 (Sch.step 3 (Sch.step 4 (Sch.read 5 (Sch.read 6 (Sch.alt 1 (Sch.alt 7 (Sch.alt 8 (Sch.step 9 (Sch.alt 10 Sch.done Sch.none)) Sch.none) Sch.none) (Sch.alt 7 (Sch.read 1 (Sch.alt 8 (Sch.step 9 (Sch.alt 10 Sch.done Sch.none)) Sch.none)) Sch.none)))))))))); (exact mixed); kernel_rfl; kernel_rfl; (repeat (with_reducible first | apply PanQ.then | apply PanQ.block | apply PanQ.body))); simp -implicitDefEqProofs [n_id4_id, n_id_id4, n_tb_id4, n_id4_tb, n_tb_id, n_id_tb])
    | (((with_reducible apply AWp.drawS (id := 17) (t := (Sch.step 0 (Sch.step 2 (Sch.step 3 (Sch.step 4 (Sch.read 1 (Sch.read 5 (Sch.alt 6 (Sch.step 7 (Sch.alt 8 Sch.done Sch.none)) Sch.none))))))))); (exact mixed); kernel_rfl; kernel_rfl; (repeat (with_reducible first | apply PanQ.then | apply PanQ.block | apply PanQ.body))); simp -implicitDefEqProofs [n_id4_id, n_id_id4, n_tb_id4, n_id4_tb, n_tb_id, n_id_tb])
    | ((with_reducible apply AWp.ret); try simp -implicitDefEqProofs [n_id4_id, n_id_id4, n_tb_id4, n_id4_tb, n_tb_id, n_id_tb])
    | ((with_reducible apply AWp.skip); try simp -implicitDefEqProofs [n_id4_id, n_id_id4, n_tb_id4, n_id4_tb, n_tb_id, n_id_tb])
    | ((with_reducible apply AWp.exit); try simp -implicitDefEqProofs [n_id4_id, n_id_id4, n_tb_id4, n_id4_tb, n_tb_id, n_id_tb]))
  have hB4 : ∀ x, (σ.set id (.cells 62 [.nilS, .nilS, .sc (.int .i64 0)])) x = none → ¬ x = id ∧ σ x = none := by intro x h; simp at h; exact h
  have hBid : (σ.set id (.cells 62 [.nilS, .nilS, .sc (.int .i64 0)])) id = some (.cells 62 [.nilS, .nilS, .sc (.int .i64 0)]) := by simp
  have hBle : AS.le σ (σ.set id (.cells 62 [.nilS, .nilS, .sc (.int .i64 0)])) := le_new h_id (AS.le_refl _)
  have h4 : (σ.set id (.cells 62 [.nilS, .nilS, .sc (.int .i64 0)])) id4 = none := by simp [*]
  have hb : (σ.set id (.cells 62 [.nilS, .nilS, .sc (.int .i64 0)])) tb = none := by simp [*]
  generalize hBdef : (σ.set id (.cells 62 [.nilS, .nilS, .sc (.int .i64 0)])) = B at *
  refine AWp.loopI (rbmI l o nl id id4 tb B) (k0 := l.length) ⟨0, [0], [], _, by omega, by omega, rfl, rfl, by simp, by simp, by simp, .inl ⟨rfl, rfl, rfl⟩, rfl⟩ (FrWk.mk (by simp)) ?_ ?_
  · intro j x hx
    by_cases a1 : j = id4
    · subst a1; simp [AS.set, poolC] at hx ⊢; simp [*]
    · by_cases a2 : j = tb
      · subst a2; simp [AS.set, *] at hx ⊢; exact hx
      · simp [AS.set, *] at hx ⊢; exact hx
  rintro m fr σ' ⟨i, p, d, pl, hm, hi, hN, hd, hq, hp1, hp, hC, rfl⟩
  have hdl : d.length = i := by have := congrArg List.length hd; simpa [hi] using this
  have hb2 : ∀ q : List UInt8, q.length ≤ 1 + 304 * (i + 1) → i < l.length → (65536 < (q.length : Int)) = False := by intro q h1 h2; simp; omega
  by_cases hlt : i < l.length
  · obtain ⟨x, hg, hdr, hmem, htake⟩ := at_lt l hlt
    obtain ⟨s, sn⟩ := x
    obtain ⟨_, hg'⟩ := List.getElem?_eq_some_iff.1 hg
    have hI : ((i : Int) < l.length) = True := by simp; omega
    have hs3 : s.length ≤ 300 := hs _ hmem
    have hsb : (65536 < (s.length : Int)) = False := by simp; omega
    have hsl : s.length ≤ 140737488355328 := by omega
    have hpl1 : p.length ≤ 140737488355328 := by omega
    rw [hdr, List.map_cons] at hN
    simp only [bmF] at hN
    have hcell : σ' id4 = some (poolC p (.tok tb) false pl) := by
      rcases hC with ⟨_, rfl, rfl⟩ | ⟨ta, _, _, q1, q2, rfl, rfl⟩
      · simp
      · simp [Ne.symm q2]
    have hplV : 0 < i → ∃ oo, pl = plV d oo := by
      intro h
      rcases hC with ⟨h0, _⟩ | ⟨ta, _, _, q1, q2, rfl, _⟩
      · omega
      · exact ⟨_, rfl⟩
    repeat (first
      | (with_reducible apply AWp.seq)
      | (with_reducible apply AWp.block)
      | ((with_reducible apply AWp.fork); simp -implicitDefEqProofs [hI, hlt, hg, hg', bV, hsb, n_id4_id, n_id_id4, n_tb_id4, n_id4_tb, n_tb_id, n_id_tb])
      | ((with_reducible apply AWp.region); simp -implicitDefEqProofs [hI, hlt, hg, hg', bV, hsb, n_id4_id, n_id_id4, n_tb_id4, n_id4_tb, n_tb_id, n_id_tb])
      | (with_reducible refine And.intro (by first | omega | assumption | decide) ?_)
      | ((with_reducible show condK _ _ _); simp -implicitDefEqProofs [hI, hlt, hg, hg', bV, hsb, n_id4_id, n_id_id4, n_tb_id4, n_id4_tb, n_tb_id, n_id_tb])
      | ((with_reducible show guardK _ _ _ _ _ _ _ _ _); simp -implicitDefEqProofs [hI, hlt, hg, hg', bV, hsb, n_id4_id, n_id_id4, n_tb_id4, n_id4_tb, n_tb_id, n_id_tb])
      | (((with_reducible apply AWp.drawS (id := 12) (t := (Sch.step 0 (Sch.step 1 (Sch.step 2 (Sch.step 4 (Sch.step 5 (Sch.step 6 (Sch.read 3 (Sch.read 7 (Sch.pure 8 Sch.done))))))))))); (exact mixed); kernel_rfl; kernel_rfl; (repeat (with_reducible first | apply PanQ.then | apply PanQ.block | apply PanQ.body))); simp -implicitDefEqProofs [hI, hlt, hg, hg', bV, hsb, n_id4_id, n_id_id4, n_tb_id4, n_id4_tb, n_tb_id, n_id_tb])
      | (((with_reducible apply AWp.drawS (id := 16) (t := (Sch.step 0 (Sch.step 2 (Sch.step 3 (Sch.step 4 (Sch.read 5 (Sch.read 6 (Sch.alt 1 (Sch.alt 7 (Sch.alt 8 (Sch.step 9 (Sch.alt 10 Sch.done Sch.none)) Sch.none) Sch.none) (Sch.alt 7 (Sch.read 1 (Sch.alt 8 (Sch.step 9 (Sch.alt 10 Sch.done Sch.none)) Sch.none)) Sch.none)))))))))); (exact mixed); kernel_rfl; kernel_rfl; (repeat (with_reducible first | apply PanQ.then | apply PanQ.block | apply PanQ.body))); simp -implicitDefEqProofs [hI, hlt, hg, hg', bV, hsb, n_id4_id, n_id_id4, n_tb_id4, n_id4_tb, n_tb_id, n_id_tb])
      | (((with_reducible apply AWp.drawS (id := 17) (t := (Sch.step 0 (Sch.step 2 (Sch.step 3 (Sch.step 4 (Sch.read 1 (Sch.read 5 (Sch.alt 6 (Sch.step 7 (Sch.alt 8 Sch.done Sch.none)) Sch.none))))))))); (exact mixed); kernel_rfl; kernel_rfl; (repeat (with_reducible first | apply PanQ.then | apply PanQ.block | apply PanQ.body))); simp -implicitDefEqProofs [hI, hlt, hg, hg', bV, hsb, n_id4_id, n_id_id4, n_tb_id4, n_id4_tb, n_tb_id, n_id_tb])
      | ((with_reducible apply AWp.ret); try simp -implicitDefEqProofs [hI, hlt, hg, hg', bV, hsb, n_id4_id, n_id_id4, n_tb_id4, n_id4_tb, n_tb_id, n_id_tb])
      | ((with_reducible apply AWp.skip); try simp -implicitDefEqProofs [hI, hlt, hg, hg', bV, hsb, n_id4_id, n_id_id4, n_tb_id4, n_id4_tb, n_tb_id, n_id_tb])
      | ((with_reducible apply AWp.exit); try simp -implicitDefEqProofs [hI, hlt, hg, hg', bV, hsb, n_id4_id, n_id_id4, n_tb_id4, n_id4_tb, n_tb_id, n_id_tb]))
    refine AWp.loopI (rbsI l s d o nl id id4 i σ') (k0 := i) ⟨0, 0, by omega, by omega, .inl ⟨rfl, by simp⟩, rfl, rfl⟩ (FrWk.mk (by simp [bV])) (AS.le_refl _) ?_
    rintro m2 fr σ'' ⟨k, at', hm2, hk, hL, rfl, rfl⟩
    by_cases hcont : k < i ∧ at' = 0
    · obtain ⟨hki, rfl⟩ := hcont
      have hL' : s ≠ [] → lookD s d = lookD s (d.drop k) := by
        rcases hL with ⟨_, h⟩ | ⟨h, _⟩
        · exact h
        · omega
      obtain ⟨⟨sk, ak⟩, hgk, hdk, hmk, _⟩ := at_lt d (i := k) (by omega)
      obtain ⟨y, hlk, _, hymem, _⟩ := at_lt l (i := k) (by omega)
      have hy : y.1 = sk := by
        have : (d.map (·.1))[k]? = some sk := by simp [hgk]
        rw [hd, List.getElem?_map, List.getElem?_take_of_lt hki, hlk] at this
        simpa using this
      obtain ⟨sk', skn⟩ := y
      simp only at hy
      subst hy
      obtain ⟨hkl, hlk'⟩ := List.getElem?_eq_some_iff.1 hlk
      obtain ⟨hkd, hgk'⟩ := List.getElem?_eq_some_iff.1 hgk
      have hK : ((k : Int) < i) = True := by simp; omega
      obtain ⟨oo, hpl⟩ := hplV (by omega)
      rw [hpl] at hcell
      simp only [poolC, plV] at hcell
      rw [hdk] at hL'
      simp only [lookD] at hL'
      have hak := hq _ hmk
      simp only [okQ] at hak
      have hskl : sk'.length ≤ 140737488355328 := by have := hs _ hymem; simp at this; omega
      have hsame := fun σ => same_ok sk' s .unk .unk skn sn hskl σ
      by_cases he : sk' = s
      · subst he
        have hdc : decide (sk' = sk') = true := by simp
        rw [hdc] at hsame
        repeat (first
          | (with_reducible apply AWp.seq)
          | (with_reducible apply AWp.block)
          | ((with_reducible apply AWp.fork); simp -implicitDefEqProofs [hI, hK, hki, hlt, hkl, hg, hg', hlk, hlk', hgk, hgk', hkd, bV, hcell, n_id4_id, n_id_id4, n_tb_id4, n_id4_tb, n_tb_id, n_id_tb])
          | ((with_reducible apply AWp.region); simp -implicitDefEqProofs [hI, hK, hki, hlt, hkl, hg, hg', hlk, hlk', hgk, hgk', hkd, bV, hcell, n_id4_id, n_id_id4, n_tb_id4, n_id4_tb, n_tb_id, n_id_tb])
          | (with_reducible refine And.intro (by first | omega | assumption | decide) ?_)
          | ((with_reducible show condK _ _ _); simp -implicitDefEqProofs [hI, hK, hki, hlt, hkl, hg, hg', hlk, hlk', hgk, hgk', hkd, bV, hcell, n_id4_id, n_id_id4, n_tb_id4, n_id4_tb, n_tb_id, n_id_tb])
          | ((with_reducible show guardK _ _ _ _ _ _ _ _ _); simp -implicitDefEqProofs [hI, hK, hki, hlt, hkl, hg, hg', hlk, hlk', hgk, hgk', hkd, bV, hcell, n_id4_id, n_id_id4, n_tb_id4, n_id4_tb, n_tb_id, n_id_tb])
          | (((with_reducible apply AWp.drawS (id := 12) (t := (Sch.step 0 (Sch.step 1 (Sch.step 2 (Sch.step 4 (Sch.step 5 (Sch.step 6 (Sch.read 3 (Sch.read 7 (Sch.pure 8 Sch.done))))))))))); (exact mixed); kernel_rfl; kernel_rfl; (repeat (with_reducible first | apply PanQ.then | apply PanQ.block | apply PanQ.body))); simp -implicitDefEqProofs [hI, hK, hki, hlt, hkl, hg, hg', hlk, hlk', hgk, hgk', hkd, bV, hcell, n_id4_id, n_id_id4, n_tb_id4, n_id4_tb, n_tb_id, n_id_tb])
          | (((with_reducible apply AWp.drawS (id := 16) (t := (Sch.step 0 (Sch.step 2 (Sch.step 3 (Sch.step 4 (Sch.read 5 (Sch.read 6 (Sch.alt 1 (Sch.alt 7 (Sch.alt 8 (Sch.step 9 (Sch.alt 10 Sch.done Sch.none)) Sch.none) Sch.none) (Sch.alt 7 (Sch.read 1 (Sch.alt 8 (Sch.step 9 (Sch.alt 10 Sch.done Sch.none)) Sch.none)) Sch.none)))))))))); (exact mixed); kernel_rfl; kernel_rfl; (repeat (with_reducible first | apply PanQ.then | apply PanQ.block | apply PanQ.body))); simp -implicitDefEqProofs [hI, hK, hki, hlt, hkl, hg, hg', hlk, hlk', hgk, hgk', hkd, bV, hcell, n_id4_id, n_id_id4, n_tb_id4, n_id4_tb, n_tb_id, n_id_tb])
          | (((with_reducible apply AWp.drawS (id := 17) (t := (Sch.step 0 (Sch.step 2 (Sch.step 3 (Sch.step 4 (Sch.read 1 (Sch.read 5 (Sch.alt 6 (Sch.step 7 (Sch.alt 8 Sch.done Sch.none)) Sch.none))))))))); (exact mixed); kernel_rfl; kernel_rfl; (repeat (with_reducible first | apply PanQ.then | apply PanQ.block | apply PanQ.body))); simp -implicitDefEqProofs [hI, hK, hki, hlt, hkl, hg, hg', hlk, hlk', hgk, hgk', hkd, bV, hcell, n_id4_id, n_id_id4, n_tb_id4, n_id4_tb, n_tb_id, n_id_tb])
          | ((with_reducible apply aCall.id); first
              | ((apply aCall.gives (hsame _)); simp -implicitDefEqProofs [hI, hK, hki, hlt, hkl, hg, hg', hlk, hlk', hgk, hgk', hkd, bV, hcell, n_id4_id, n_id_id4, n_tb_id4, n_id4_tb, n_tb_id, n_id_tb]))
          | ((with_reducible apply pureCall.id); first
              | ((apply pureCall.gives (fun _ => hsame _)); simp -implicitDefEqProofs [hI, hK, hki, hlt, hkl, hg, hg', hlk, hlk', hgk, hgk', hkd, bV, hcell, n_id4_id, n_id_id4, n_tb_id4, n_id4_tb, n_tb_id, n_id_tb]))
          | ((with_reducible apply AWp.ret); try simp -implicitDefEqProofs [hI, hK, hki, hlt, hkl, hg, hg', hlk, hlk', hgk, hgk', hkd, bV, hcell, n_id4_id, n_id_id4, n_tb_id4, n_id4_tb, n_tb_id, n_id_tb])
          | ((with_reducible apply AWp.skip); try simp -implicitDefEqProofs [hI, hK, hki, hlt, hkl, hg, hg', hlk, hlk', hgk, hgk', hkd, bV, hcell, n_id4_id, n_id_id4, n_tb_id4, n_id4_tb, n_tb_id, n_id_tb])
          | ((with_reducible apply AWp.exit); try simp -implicitDefEqProofs [hI, hK, hki, hlt, hkl, hg, hg', hlk, hlk', hgk, hgk', hkd, bV, hcell, n_id4_id, n_id_id4, n_tb_id4, n_id4_tb, n_tb_id, n_id_tb]))
        clear hC hL hplV hq hB4
        refine ⟨m2 - 1, _, _, by omega, FrWk.mk ?_, AS.le_refl _, k + 1, ak, by omega, by omega, ?_, rfl, rfl⟩
        · simp [wInc (show k < 4000000000000000000 by omega), bV]
        · by_cases h0 : sk' = []
          · exact .inl ⟨hak.1 h0, fun h => absurd h0 h⟩
          · exact .inr ⟨hak.2.1 h0, hak.2.2, h0, by rw [hL' h0, if_pos rfl]⟩
      · have hdc : decide (sk' = s) = false := by simp [he]
        rw [hdc] at hsame
        repeat (first
          | (with_reducible apply AWp.seq)
          | (with_reducible apply AWp.block)
          | ((with_reducible apply AWp.fork); simp -implicitDefEqProofs [hI, hK, hki, hlt, hkl, hg, hg', hlk, hlk', hgk, hgk', hkd, bV, hcell, he, n_id4_id, n_id_id4, n_tb_id4, n_id4_tb, n_tb_id, n_id_tb])
          | ((with_reducible apply AWp.region); simp -implicitDefEqProofs [hI, hK, hki, hlt, hkl, hg, hg', hlk, hlk', hgk, hgk', hkd, bV, hcell, he, n_id4_id, n_id_id4, n_tb_id4, n_id4_tb, n_tb_id, n_id_tb])
          | (with_reducible refine And.intro (by first | omega | assumption | decide) ?_)
          | ((with_reducible show condK _ _ _); simp -implicitDefEqProofs [hI, hK, hki, hlt, hkl, hg, hg', hlk, hlk', hgk, hgk', hkd, bV, hcell, he, n_id4_id, n_id_id4, n_tb_id4, n_id4_tb, n_tb_id, n_id_tb])
          | ((with_reducible show guardK _ _ _ _ _ _ _ _ _); simp -implicitDefEqProofs [hI, hK, hki, hlt, hkl, hg, hg', hlk, hlk', hgk, hgk', hkd, bV, hcell, he, n_id4_id, n_id_id4, n_tb_id4, n_id4_tb, n_tb_id, n_id_tb])
          | (((with_reducible apply AWp.drawS (id := 12) (t := (Sch.step 0 (Sch.step 1 (Sch.step 2 (Sch.step 4 (Sch.step 5 (Sch.step 6 (Sch.read 3 (Sch.read 7 (Sch.pure 8 Sch.done))))))))))); (exact mixed); kernel_rfl; kernel_rfl; (repeat (with_reducible first | apply PanQ.then | apply PanQ.block | apply PanQ.body))); simp -implicitDefEqProofs [hI, hK, hki, hlt, hkl, hg, hg', hlk, hlk', hgk, hgk', hkd, bV, hcell, he, n_id4_id, n_id_id4, n_tb_id4, n_id4_tb, n_tb_id, n_id_tb])
          | (((with_reducible apply AWp.drawS (id := 16) (t := (Sch.step 0 (Sch.step 2 (Sch.step 3 (Sch.step 4 (Sch.read 5 (Sch.read 6 (Sch.alt 1 (Sch.alt 7 (Sch.alt 8 (Sch.step 9 (Sch.alt 10 Sch.done Sch.none)) Sch.none) Sch.none) (Sch.alt 7 (Sch.read 1 (Sch.alt 8 (Sch.step 9 (Sch.alt 10 Sch.done Sch.none)) Sch.none)) Sch.none)))))))))); (exact mixed); kernel_rfl; kernel_rfl; (repeat (with_reducible first | apply PanQ.then | apply PanQ.block | apply PanQ.body))); simp -implicitDefEqProofs [hI, hK, hki, hlt, hkl, hg, hg', hlk, hlk', hgk, hgk', hkd, bV, hcell, he, n_id4_id, n_id_id4, n_tb_id4, n_id4_tb, n_tb_id, n_id_tb])
          | (((with_reducible apply AWp.drawS (id := 17) (t := (Sch.step 0 (Sch.step 2 (Sch.step 3 (Sch.step 4 (Sch.read 1 (Sch.read 5 (Sch.alt 6 (Sch.step 7 (Sch.alt 8 Sch.done Sch.none)) Sch.none))))))))); (exact mixed); kernel_rfl; kernel_rfl; (repeat (with_reducible first | apply PanQ.then | apply PanQ.block | apply PanQ.body))); simp -implicitDefEqProofs [hI, hK, hki, hlt, hkl, hg, hg', hlk, hlk', hgk, hgk', hkd, bV, hcell, he, n_id4_id, n_id_id4, n_tb_id4, n_id4_tb, n_tb_id, n_id_tb])
          | ((with_reducible apply aCall.id); first
              | ((apply aCall.gives (hsame _)); simp -implicitDefEqProofs [hI, hK, hki, hlt, hkl, hg, hg', hlk, hlk', hgk, hgk', hkd, bV, hcell, he, n_id4_id, n_id_id4, n_tb_id4, n_id4_tb, n_tb_id, n_id_tb]))
          | ((with_reducible apply pureCall.id); first
              | ((apply pureCall.gives (fun _ => hsame _)); simp -implicitDefEqProofs [hI, hK, hki, hlt, hkl, hg, hg', hlk, hlk', hgk, hgk', hkd, bV, hcell, he, n_id4_id, n_id_id4, n_tb_id4, n_id4_tb, n_tb_id, n_id_tb]))
          | ((with_reducible apply AWp.ret); try simp -implicitDefEqProofs [hI, hK, hki, hlt, hkl, hg, hg', hlk, hlk', hgk, hgk', hkd, bV, hcell, he, n_id4_id, n_id_id4, n_tb_id4, n_id4_tb, n_tb_id, n_id_tb])
          | ((with_reducible apply AWp.skip); try simp -implicitDefEqProofs [hI, hK, hki, hlt, hkl, hg, hg', hlk, hlk', hgk, hgk', hkd, bV, hcell, he, n_id4_id, n_id_id4, n_tb_id4, n_id4_tb, n_tb_id, n_id_tb])
          | ((with_reducible apply AWp.exit); try simp -implicitDefEqProofs [hI, hK, hki, hlt, hkl, hg, hg', hlk, hlk', hgk, hgk', hkd, bV, hcell, he, n_id4_id, n_id_id4, n_tb_id4, n_id4_tb, n_tb_id, n_id_tb]))
        clear hC hL hplV hq hB4
        refine ⟨m2 - 1, _, _, by omega, FrWk.mk ?_, AS.le_refl _, k + 1, 0, by omega, by omega, .inl ⟨rfl, fun h => by rw [hL' h, if_neg (fun e => he e.symm)]⟩, rfl, rfl⟩
        simp [wInc (show k < 4000000000000000000 by omega), bV]
    · have hstop : ((k : Int) < i) = False ∨ (((k : Int) < i) = True ∧ ((at' : Int) = 0) = False ∧ (at' = 0) = False) := by
        by_cases h : k < i
        · right
          refine ⟨by simp; omega, by simp; omega, by simp; omega⟩
        · left; simp; omega
      have hL2 : (k : Int) < i ∨ ¬ (k : Int) < i := by omega
      have hres : (at' = 0 ∧ (s ≠ [] → lookD s d = none)) ∨ (1 ≤ at' ∧ at' ≤ 1000000 ∧ s ≠ [] ∧ lookD s d = some at') := by
        rcases hL with ⟨h, h2⟩ | h
        · left
          have : d.drop k = [] := List.drop_eq_nil_of_le (by omega)
          rw [this] at h2
          exact ⟨h, fun h => by rw [h2 h]; rfl⟩
        · exact .inr h
      clear hL hcont
      have hdm : ∀ a : Nat, (d ++ [(s, a)]).map (·.1) = (l.take (i + 1)).map (·.1) := by
        intro a
        rw [htake, List.map_append, List.map_append, hd]; rfl
      have endKeep : ∀ (a ta : Nat), lookD s (([], 0) :: d) = some a → okQ (s, a) → B ta = none → ta ≠ tb → ta ≠ id4 → ∀ (fr : Fr) (σ1 : AS), FrWk Try.prog fr (mkF [(0, .lst 22 (l.map bV) o nl), (2, .ptr id 0), (3, .ptr id4 0), (4, .sc (.int .i64 (i + 1 : Nat)))]) →
          AS.le (((B.set tb (.tok p.length)).set id4 (poolC p (.tok tb) false (plV (d ++ [(s, a)]) (.tok ta)))).set ta (.tok (i + 1))) σ1 → loopQ Try.prog (rbmI l o nl id id4 tb B) m fr σ1 := by
        intro a ta hlook hok hta q1 q2 fr σ1 h1 h2
        rw [hlook] at hN
        refine ⟨m - 1, _, _, by clear hC hres hstop; omega, h1, h2, i + 1, p, d ++ [(s, a)], _, by clear hC hres hstop; omega, by clear hC hres hstop; omega, hN, hdm a, ?_, hp1, by clear hC hres hstop; omega, .inr ⟨ta, by omega, hta, q1, q2, rfl, rfl⟩, rfl⟩
        intro q hq'
        rcases List.mem_append.1 hq' with h | h
        · exact hq q h
        · simp at h; subst h; exact hok
      have endNew : ∀ (ta : Nat), lookD s (([], 0) :: d) = none → s ≠ [] → B ta = none → ta ≠ tb → ta ≠ id4 → ∀ (fr : Fr) (σ1 : AS), (p ++ encB s).length ≤ 1 + 304 * (i + 1) → FrWk Try.prog fr (mkF [(0, .lst 22 (l.map bV) o nl), (2, .ptr id 0), (3, .ptr id4 0), (4, .sc (.int .i64 (i + 1 : Nat)))]) →
          AS.le (((B.set tb (.tok (p ++ encB s).length)).set id4 (poolC (p ++ encB s) (.tok tb) false (plV (d ++ [(s, p.length)]) (.tok ta)))).set ta (.tok (i + 1))) σ1 → loopQ Try.prog (rbmI l o nl id id4 tb B) m fr σ1 := by
        intro ta hlook hne hta q1 q2 fr σ1 hel h1 h2
        rw [hlook] at hN
        refine ⟨m - 1, _, _, by clear hC hres hstop; omega, h1, h2, i + 1, p ++ encB s, d ++ [(s, p.length)], _, by clear hC hres hstop; omega, by clear hC hres hstop; omega, hN, hdm _, ?_, by clear hC hres hstop; simp; omega, hel, .inr ⟨ta, by omega, hta, q1, q2, rfl, rfl⟩, rfl⟩
        intro q hq'
        rcases List.mem_append.1 hq' with h | h
        · exact hq q h
        · simp at h; subst h; exact ⟨fun h => absurd h hne, fun _ => hp1, by clear hC hres hstop; simp; omega⟩
      have hbp := hb2 p (by clear hC hres hstop; omega) hlt
      rcases hres with ⟨rfl, hnone⟩ | ⟨g1, g2, hne, hsome⟩
      · have hstop' : ((k : Int) < i) = False := by
          rcases hstop with h | ⟨_, h, _⟩
          · exact h
          · simp at h
        by_cases hs0 : s = []
        · subst hs0
          have hlook : lookD [] (([], 0) :: d) = some 0 := rfl
          rcases hC with ⟨h0, rfl, rfl⟩ | ⟨ta, hi0, hta, q1, q2, rfl, rfl⟩
          · have hd0 : d = [] := List.length_eq_zero_iff.1 (by omega)
            subst hd0
            repeat (first
              | (with_reducible apply AWp.seq)
              | (with_reducible apply AWp.block)
              | ((with_reducible apply AWp.fork); simp -implicitDefEqProofs [hI, hstop', hlt, hg, hg', bV, poolC, n_id4_id, n_id_id4, n_tb_id4, n_id4_tb, n_tb_id, n_id_tb])
              | ((with_reducible apply AWp.region); simp -implicitDefEqProofs [hI, hstop', hlt, hg, hg', bV, poolC, n_id4_id, n_id_id4, n_tb_id4, n_id4_tb, n_tb_id, n_id_tb])
              | (with_reducible refine And.intro (by first | omega | assumption | decide) ?_)
              | ((with_reducible show condK _ _ _); simp -implicitDefEqProofs [hI, hstop', hlt, hg, hg', bV, poolC, n_id4_id, n_id_id4, n_tb_id4, n_id4_tb, n_tb_id, n_id_tb])
              | ((with_reducible show guardK _ _ _ _ _ _ _ _ _); simp -implicitDefEqProofs [hI, hstop', hlt, hg, hg', bV, poolC, n_id4_id, n_id_id4, n_tb_id4, n_id4_tb, n_tb_id, n_id_tb])
              | (((with_reducible apply AWp.drawS (id := 12) (t := (Sch.step 0 (Sch.step 1 (Sch.step 2 (Sch.step 4 (Sch.step 5 (Sch.step 6 (Sch.read 3 (Sch.read 7 (Sch.pure 8 Sch.done))))))))))); (exact mixed); kernel_rfl; kernel_rfl; (repeat (with_reducible first | apply PanQ.then | apply PanQ.block | apply PanQ.body))); simp -implicitDefEqProofs [hI, hstop', hlt, hg, hg', bV, poolC, n_id4_id, n_id_id4, n_tb_id4, n_id4_tb, n_tb_id, n_id_tb])
              | (((with_reducible apply AWp.drawS (id := 16) (t := (Sch.step 0 (Sch.step 2 (Sch.step 3 (Sch.step 4 (Sch.read 5 (Sch.read 6 (Sch.alt 1 (Sch.alt 7 (Sch.alt 8 (Sch.step 9 (Sch.alt 10 Sch.done Sch.none)) Sch.none) Sch.none) (Sch.alt 7 (Sch.read 1 (Sch.alt 8 (Sch.step 9 (Sch.alt 10 Sch.done Sch.none)) Sch.none)) Sch.none)))))))))); (exact mixed); kernel_rfl; kernel_rfl; (repeat (with_reducible first | apply PanQ.then | apply PanQ.block | apply PanQ.body))); simp -implicitDefEqProofs [hI, hstop', hlt, hg, hg', bV, poolC, n_id4_id, n_id_id4, n_tb_id4, n_id4_tb, n_tb_id, n_id_tb])
              | (((with_reducible apply AWp.drawS (id := 17) (t := (Sch.step 0 (Sch.step 2 (Sch.step 3 (Sch.step 4 (Sch.read 1 (Sch.read 5 (Sch.alt 6 (Sch.step 7 (Sch.alt 8 Sch.done Sch.none)) Sch.none))))))))); (exact mixed); kernel_rfl; kernel_rfl; (repeat (with_reducible first | apply PanQ.then | apply PanQ.block | apply PanQ.body))); simp -implicitDefEqProofs [hI, hstop', hlt, hg, hg', bV, poolC, n_id4_id, n_id_id4, n_tb_id4, n_id4_tb, n_tb_id, n_id_tb])
              | ((with_reducible apply AWp.ret); try simp -implicitDefEqProofs [hI, hstop', hlt, hg, hg', bV, poolC, n_id4_id, n_id_id4, n_tb_id4, n_id4_tb, n_tb_id, n_id_tb])
              | ((with_reducible apply AWp.skip); try simp -implicitDefEqProofs [hI, hstop', hlt, hg, hg', bV, poolC, n_id4_id, n_id_id4, n_tb_id4, n_id4_tb, n_tb_id, n_id_tb])
              | ((with_reducible apply AWp.exit); try simp -implicitDefEqProofs [hI, hstop', hlt, hg, hg', bV, poolC, n_id4_id, n_id_id4, n_tb_id4, n_id4_tb, n_tb_id, n_id_tb]))
            intro ta
            intros
            have u1 : ta ≠ id4 := by assumption
            have u2 : ta ≠ tb := by assumption
            have u5 : B ta = none := by assumption
            have u1' : id4 ≠ ta := fun e => u1 e.symm
            have u2' : tb ≠ ta := fun e => u2 e.symm
            simp -implicitDefEqProofs [u1, u2, u1', u2', n_id4_id, n_id_id4, n_tb_id4, n_id4_tb, n_tb_id, n_id_tb]
            repeat (first
              | (with_reducible apply AWp.seq)
              | (with_reducible apply AWp.block)
              | ((with_reducible apply AWp.fork); simp -implicitDefEqProofs [u1, u2, u1', u2', hbp, n_id4_id, n_id_id4, n_tb_id4, n_id4_tb, n_tb_id, n_id_tb])
              | ((with_reducible apply AWp.region); simp -implicitDefEqProofs [u1, u2, u1', u2', hbp, n_id4_id, n_id_id4, n_tb_id4, n_id4_tb, n_tb_id, n_id_tb])
              | (with_reducible refine And.intro (by first | omega | assumption | decide) ?_)
              | ((with_reducible show condK _ _ _); simp -implicitDefEqProofs [u1, u2, u1', u2', hbp, n_id4_id, n_id_id4, n_tb_id4, n_id4_tb, n_tb_id, n_id_tb])
              | ((with_reducible show guardK _ _ _ _ _ _ _ _ _); simp -implicitDefEqProofs [u1, u2, u1', u2', hbp, n_id4_id, n_id_id4, n_tb_id4, n_id4_tb, n_tb_id, n_id_tb])
              | (((with_reducible apply AWp.drawS (id := 12) (t := (Sch.step 0 (Sch.step 1 (Sch.step 2 (Sch.step 4 (Sch.step 5 (Sch.step 6 (Sch.read 3 (Sch.read 7 (Sch.pure 8 Sch.done))))))))))); (exact mixed); kernel_rfl; kernel_rfl; (repeat (with_reducible first | apply PanQ.then | apply PanQ.block | apply PanQ.body))); simp -implicitDefEqProofs [u1, u2, u1', u2', hbp, n_id4_id, n_id_id4, n_tb_id4, n_id4_tb, n_tb_id, n_id_tb])
              | (((with_reducible apply AWp.drawS (id := 16) (t := (Sch.step 0 (Sch.step 2 (Sch.step 3 (Sch.step 4 (Sch.read 5 (Sch.read 6 (Sch.alt 1 (Sch.alt 7 (Sch.alt 8 (Sch.step 9 (Sch.alt 10 Sch.done Sch.none)) Sch.none) Sch.none) (Sch.alt 7 (Sch.read 1 (Sch.alt 8 (Sch.step 9 (Sch.alt 10 Sch.done Sch.none)) Sch.none)) Sch.none)))))))))); (exact mixed); kernel_rfl; kernel_rfl; (repeat (with_reducible first | apply PanQ.then | apply PanQ.block | apply PanQ.body))); simp -implicitDefEqProofs [u1, u2, u1', u2', hbp, n_id4_id, n_id_id4, n_tb_id4, n_id4_tb, n_tb_id, n_id_tb])
              | (((with_reducible apply AWp.drawS (id := 17) (t := (Sch.step 0 (Sch.step 2 (Sch.step 3 (Sch.step 4 (Sch.read 1 (Sch.read 5 (Sch.alt 6 (Sch.step 7 (Sch.alt 8 Sch.done Sch.none)) Sch.none))))))))); (exact mixed); kernel_rfl; kernel_rfl; (repeat (with_reducible first | apply PanQ.then | apply PanQ.block | apply PanQ.body))); simp -implicitDefEqProofs [u1, u2, u1', u2', hbp, n_id4_id, n_id_id4, n_tb_id4, n_id4_tb, n_tb_id, n_id_tb])
              | ((with_reducible apply AWp.ret); try simp -implicitDefEqProofs [u1, u2, u1', u2', hbp, n_id4_id, n_id_id4, n_tb_id4, n_id4_tb, n_tb_id, n_id_tb])
              | ((with_reducible apply AWp.skip); try simp -implicitDefEqProofs [u1, u2, u1', u2', hbp, n_id4_id, n_id_id4, n_tb_id4, n_id4_tb, n_tb_id, n_id_tb])
              | ((with_reducible apply AWp.exit); try simp -implicitDefEqProofs [u1, u2, u1', u2', hbp, n_id4_id, n_id_id4, n_tb_id4, n_id4_tb, n_tb_id, n_id_tb]))
            refine endKeep 0 ta hlook ⟨fun _ => rfl, fun h => absurd rfl h, by simp⟩ u5 u2 u1 _ _ (FrWk.mk ?_) ?_
            · simp [wInc (show i < 4000000000000000000 by omega), bV]
            · intro j x hx
              by_cases a1 : j = ta
              · subst a1; simp [AS.set, poolC, plV, *] at hx ⊢; exact hx
              · by_cases a2 : j = id4
                · subst a2; simp [AS.set, poolC, plV, *] at hx ⊢; exact hx
                · by_cases a3 : j = tb
                  · subst a3; simp [AS.set, poolC, plV, *] at hx ⊢; exact hx
                  · simp [AS.set, poolC, plV, *] at hx ⊢; exact hx
          · have q1' : tb ≠ ta := fun e => q1 e.symm
            have q2' : id4 ≠ ta := fun e => q2 e.symm
            repeat (first
              | (with_reducible apply AWp.seq)
              | (with_reducible apply AWp.block)
              | ((with_reducible apply AWp.fork); simp -implicitDefEqProofs [hI, hstop', hlt, hg, hg', bV, poolC, plV, q1, q2, q1', q2', hdl, hbp, n_id4_id, n_id_id4, n_tb_id4, n_id4_tb, n_tb_id, n_id_tb])
              | ((with_reducible apply AWp.region); simp -implicitDefEqProofs [hI, hstop', hlt, hg, hg', bV, poolC, plV, q1, q2, q1', q2', hdl, hbp, n_id4_id, n_id_id4, n_tb_id4, n_id4_tb, n_tb_id, n_id_tb])
              | (with_reducible refine And.intro (by first | omega | assumption | decide) ?_)
              | ((with_reducible show condK _ _ _); simp -implicitDefEqProofs [hI, hstop', hlt, hg, hg', bV, poolC, plV, q1, q2, q1', q2', hdl, hbp, n_id4_id, n_id_id4, n_tb_id4, n_id4_tb, n_tb_id, n_id_tb])
              | ((with_reducible show guardK _ _ _ _ _ _ _ _ _); simp -implicitDefEqProofs [hI, hstop', hlt, hg, hg', bV, poolC, plV, q1, q2, q1', q2', hdl, hbp, n_id4_id, n_id_id4, n_tb_id4, n_id4_tb, n_tb_id, n_id_tb])
              | (((with_reducible apply AWp.drawS (id := 12) (t := (Sch.step 0 (Sch.step 1 (Sch.step 2 (Sch.step 4 (Sch.step 5 (Sch.step 6 (Sch.read 3 (Sch.read 7 (Sch.pure 8 Sch.done))))))))))); (exact mixed); kernel_rfl; kernel_rfl; (repeat (with_reducible first | apply PanQ.then | apply PanQ.block | apply PanQ.body))); simp -implicitDefEqProofs [hI, hstop', hlt, hg, hg', bV, poolC, plV, q1, q2, q1', q2', hdl, hbp, n_id4_id, n_id_id4, n_tb_id4, n_id4_tb, n_tb_id, n_id_tb])
              | (((with_reducible apply AWp.drawS (id := 16) (t := (Sch.step 0 (Sch.step 2 (Sch.step 3 (Sch.step 4 (Sch.read 5 (Sch.read 6 (Sch.alt 1 (Sch.alt 7 (Sch.alt 8 (Sch.step 9 (Sch.alt 10 Sch.done Sch.none)) Sch.none) Sch.none) (Sch.alt 7 (Sch.read 1 (Sch.alt 8 (Sch.step 9 (Sch.alt 10 Sch.done Sch.none)) Sch.none)) Sch.none)))))))))); (exact mixed); kernel_rfl; kernel_rfl; (repeat (with_reducible first | apply PanQ.then | apply PanQ.block | apply PanQ.body))); simp -implicitDefEqProofs [hI, hstop', hlt, hg, hg', bV, poolC, plV, q1, q2, q1', q2', hdl, hbp, n_id4_id, n_id_id4, n_tb_id4, n_id4_tb, n_tb_id, n_id_tb])
              | (((with_reducible apply AWp.drawS (id := 17) (t := (Sch.step 0 (Sch.step 2 (Sch.step 3 (Sch.step 4 (Sch.read 1 (Sch.read 5 (Sch.alt 6 (Sch.step 7 (Sch.alt 8 Sch.done Sch.none)) Sch.none))))))))); (exact mixed); kernel_rfl; kernel_rfl; (repeat (with_reducible first | apply PanQ.then | apply PanQ.block | apply PanQ.body))); simp -implicitDefEqProofs [hI, hstop', hlt, hg, hg', bV, poolC, plV, q1, q2, q1', q2', hdl, hbp, n_id4_id, n_id_id4, n_tb_id4, n_id4_tb, n_tb_id, n_id_tb])
              | ((with_reducible apply AWp.ret); try simp -implicitDefEqProofs [hI, hstop', hlt, hg, hg', bV, poolC, plV, q1, q2, q1', q2', hdl, hbp, n_id4_id, n_id_id4, n_tb_id4, n_id4_tb, n_tb_id, n_id_tb])
              | ((with_reducible apply AWp.skip); try simp -implicitDefEqProofs [hI, hstop', hlt, hg, hg', bV, poolC, plV, q1, q2, q1', q2', hdl, hbp, n_id4_id, n_id_id4, n_tb_id4, n_id4_tb, n_tb_id, n_id_tb])
              | ((with_reducible apply AWp.exit); try simp -implicitDefEqProofs [hI, hstop', hlt, hg, hg', bV, poolC, plV, q1, q2, q1', q2', hdl, hbp, n_id4_id, n_id_id4, n_tb_id4, n_id4_tb, n_tb_id, n_id_tb]))
            refine endKeep 0 ta hlook ⟨fun _ => rfl, fun h => absurd rfl h, by simp⟩ hta q1 q2 _ _ (FrWk.mk ?_) ?_
            · simp [wInc (show i < 4000000000000000000 by omega), bV]
            · intro j x hx
              by_cases a1 : j = ta
              · subst a1; simp [AS.set, poolC, plV, *] at hx ⊢; exact hx
              · by_cases a2 : j = id4
                · subst a2; simp [AS.set, poolC, plV, *] at hx ⊢; exact hx
                · by_cases a3 : j = tb
                  · subst a3; simp [AS.set, poolC, plV, *] at hx ⊢; exact hx
                  · simp [AS.set, poolC, plV, *] at hx ⊢; exact hx
        · have hlook : lookD s (([], 0) :: d) = none := by simp only [lookD]; rw [if_neg hs0]; exact hnone hs0
          have hpos : (0 < (s.length : Int)) = True := by
            have := List.length_pos_iff.2 hs0
            simp; omega
          have hpos' : (0 < s.length) = True := by simpa using List.length_pos_iff.2 hs0
          have hpl := packL_len s.length (by omega) (by omega)
          have hrp := fun σ => rpack_ok s.length (by omega) (by omega) σ
          have hel : (p ++ encB s).length ≤ 1 + 304 * (i + 1) := by clear hC hstop; simp [encB]; omega
          have hbp2 := hb2 (p ++ encB s) hel hlt
          have hE : encB s = packL s.length ++ s := rfl
          have hpn : (p ++ (packL s.length ++ s)).length = p.length + (packL s.length).length + s.length := by simp; omega
          have hbp3 : (65536 < ((p.length + (packL s.length).length + s.length : Nat) : Int)) = False := by clear hC hstop; simp; omega
          have hbp4 : (65536 < (p.length : Int) + (((packL s.length).length : Int) + s.length)) = False := by clear hC hstop; simp; omega
          have hbp5 : (65536 < (p.length : Int) + ((packL s.length).length : Int) + s.length) = False := by clear hC hstop; simp; omega
          generalize packL s.length = P at hrp hpl hE hpn hbp3 hbp4 hbp5
          have hB1 : p.length + P.length ≤ 140737488355328 := by clear hC hstop; omega
          have hB2 : p.length + P.length + s.length ≤ 140737488355328 := by clear hC hstop; omega
          rcases hC with ⟨h0, rfl, rfl⟩ | ⟨ta, hi0, hta, q1, q2, rfl, rfl⟩
          · have hd0 : d = [] := List.length_eq_zero_iff.1 (by omega)
            subst hd0
            repeat (first
              | (with_reducible apply AWp.seq)
              | (with_reducible apply AWp.block)
              | ((with_reducible apply AWp.fork); simp -implicitDefEqProofs [hI, hstop', hlt, hg, hg', bV, poolC, hpos, hpos', hs0, n_id4_id, n_id_id4, n_tb_id4, n_id4_tb, n_tb_id, n_id_tb])
              | ((with_reducible apply AWp.region); simp -implicitDefEqProofs [hI, hstop', hlt, hg, hg', bV, poolC, hpos, hpos', hs0, n_id4_id, n_id_id4, n_tb_id4, n_id4_tb, n_tb_id, n_id_tb])
              | (with_reducible refine And.intro (by first | omega | assumption | decide) ?_)
              | ((with_reducible show condK _ _ _); simp -implicitDefEqProofs [hI, hstop', hlt, hg, hg', bV, poolC, hpos, hpos', hs0, n_id4_id, n_id_id4, n_tb_id4, n_id4_tb, n_tb_id, n_id_tb])
              | ((with_reducible show guardK _ _ _ _ _ _ _ _ _); simp -implicitDefEqProofs [hI, hstop', hlt, hg, hg', bV, poolC, hpos, hpos', hs0, n_id4_id, n_id_id4, n_tb_id4, n_id4_tb, n_tb_id, n_id_tb])
              | (((with_reducible apply AWp.drawS (id := 12) (t := (Sch.step 0 (Sch.step 1 (Sch.step 2 (Sch.step 4 (Sch.step 5 (Sch.step 6 (Sch.read 3 (Sch.read 7 (Sch.pure 8 Sch.done))))))))))); (exact mixed); kernel_rfl; kernel_rfl; (repeat (with_reducible first | apply PanQ.then | apply PanQ.block | apply PanQ.body))); simp -implicitDefEqProofs [hI, hstop', hlt, hg, hg', bV, poolC, hpos, hpos', hs0, n_id4_id, n_id_id4, n_tb_id4, n_id4_tb, n_tb_id, n_id_tb])
              | (((with_reducible apply AWp.drawS (id := 16) (t := (Sch.step 0 (Sch.step 2 (Sch.step 3 (Sch.step 4 (Sch.read 5 (Sch.read 6 (Sch.alt 1 (Sch.alt 7 (Sch.alt 8 (Sch.step 9 (Sch.alt 10 Sch.done Sch.none)) Sch.none) Sch.none) (Sch.alt 7 (Sch.read 1 (Sch.alt 8 (Sch.step 9 (Sch.alt 10 Sch.done Sch.none)) Sch.none)) Sch.none)))))))))); (exact mixed); kernel_rfl; kernel_rfl; (repeat (with_reducible first | apply PanQ.then | apply PanQ.block | apply PanQ.body))); simp -implicitDefEqProofs [hI, hstop', hlt, hg, hg', bV, poolC, hpos, hpos', hs0, n_id4_id, n_id_id4, n_tb_id4, n_id4_tb, n_tb_id, n_id_tb])
              | (((with_reducible apply AWp.drawS (id := 17) (t := (Sch.step 0 (Sch.step 2 (Sch.step 3 (Sch.step 4 (Sch.read 1 (Sch.read 5 (Sch.alt 6 (Sch.step 7 (Sch.alt 8 Sch.done Sch.none)) Sch.none))))))))); (exact mixed); kernel_rfl; kernel_rfl; (repeat (with_reducible first | apply PanQ.then | apply PanQ.block | apply PanQ.body))); simp -implicitDefEqProofs [hI, hstop', hlt, hg, hg', bV, poolC, hpos, hpos', hs0, n_id4_id, n_id_id4, n_tb_id4, n_id4_tb, n_tb_id, n_id_tb])
              | ((with_reducible apply aCall.id); first
                  | ((apply aCall.owns (hrp _)); simp -implicitDefEqProofs [hI, hstop', hlt, hg, hg', bV, poolC, hpos, hpos', hs0, n_id4_id, n_id_id4, n_tb_id4, n_id4_tb, n_tb_id, n_id_tb]))
              | ((with_reducible apply AWp.ret); try simp -implicitDefEqProofs [hI, hstop', hlt, hg, hg', bV, poolC, hpos, hpos', hs0, n_id4_id, n_id_id4, n_tb_id4, n_id4_tb, n_tb_id, n_id_tb])
              | ((with_reducible apply AWp.skip); try simp -implicitDefEqProofs [hI, hstop', hlt, hg, hg', bV, poolC, hpos, hpos', hs0, n_id4_id, n_id_id4, n_tb_id4, n_id4_tb, n_tb_id, n_id_tb])
              | ((with_reducible apply AWp.exit); try simp -implicitDefEqProofs [hI, hstop', hlt, hg, hg', bV, poolC, hpos, hpos', hs0, n_id4_id, n_id_id4, n_tb_id4, n_id4_tb, n_tb_id, n_id_tb]))
            refine ⟨?_, ?_⟩
            all_goals
              refine aCall.owns (hrp _) (fun tk htk => ?_)
              have k1 : tk ≠ id4 := by rintro rfl; simp [AS.set] at htk
              have k2 : tk ≠ tb := by rintro rfl; simp [AS.set, k1] at htk
              have k1' : id4 ≠ tk := fun e => k1 e.symm
              have k2' : tb ≠ tk := fun e => k2 e.symm
              simp -implicitDefEqProofs [k1, k2, k1', k2', hB1, hB2, poolC, n_id4_id, n_id_id4, n_tb_id4, n_id4_tb, n_tb_id, n_id_tb]
              repeat (first
                | (with_reducible apply AWp.seq)
                | (with_reducible apply AWp.block)
                | ((with_reducible apply AWp.fork); simp -implicitDefEqProofs [hI, hstop', hlt, hg, hg', bV, poolC, plV, hpos, hpos', hs0, k1, k2, k1', k2', hB1, hB2, n_id4_id, n_id_id4, n_tb_id4, n_id4_tb, n_tb_id, n_id_tb])
                | ((with_reducible apply AWp.region); simp -implicitDefEqProofs [hI, hstop', hlt, hg, hg', bV, poolC, plV, hpos, hpos', hs0, k1, k2, k1', k2', hB1, hB2, n_id4_id, n_id_id4, n_tb_id4, n_id4_tb, n_tb_id, n_id_tb])
                | (with_reducible refine And.intro (by first | omega | assumption | decide) ?_)
                | ((with_reducible show condK _ _ _); simp -implicitDefEqProofs [hI, hstop', hlt, hg, hg', bV, poolC, plV, hpos, hpos', hs0, k1, k2, k1', k2', hB1, hB2, n_id4_id, n_id_id4, n_tb_id4, n_id4_tb, n_tb_id, n_id_tb])
                | ((with_reducible show guardK _ _ _ _ _ _ _ _ _); simp -implicitDefEqProofs [hI, hstop', hlt, hg, hg', bV, poolC, plV, hpos, hpos', hs0, k1, k2, k1', k2', hB1, hB2, n_id4_id, n_id_id4, n_tb_id4, n_id4_tb, n_tb_id, n_id_tb])
                | (((with_reducible apply AWp.drawS (id := 12) (t := (Sch.step 0 (Sch.step 1 (Sch.step 2 (Sch.step 4 (Sch.step 5 (Sch.step 6 (Sch.read 3 (Sch.read 7 (Sch.pure 8 Sch.done))))))))))); (exact mixed); kernel_rfl; kernel_rfl; (repeat (with_reducible first | apply PanQ.then | apply PanQ.block | apply PanQ.body))); simp -implicitDefEqProofs [hI, hstop', hlt, hg, hg', bV, poolC, plV, hpos, hpos', hs0, k1, k2, k1', k2', hB1, hB2, n_id4_id, n_id_id4, n_tb_id4, n_id4_tb, n_tb_id, n_id_tb])
                | (((with_reducible apply AWp.drawS (id := 16) (t := (Sch.step 0 (Sch.step 2 (Sch.step 3 (Sch.step 4 (Sch.read 5 (Sch.read 6 (Sch.alt 1 (Sch.alt 7 (Sch.alt 8 (Sch.step 9 (Sch.alt 10 Sch.done Sch.none)) Sch.none) Sch.none) (Sch.alt 7 (Sch.read 1 (Sch.alt 8 (Sch.step 9 (Sch.alt 10 Sch.done Sch.none)) Sch.none)) Sch.none)))))))))); (exact mixed); kernel_rfl; kernel_rfl; (repeat (with_reducible first | apply PanQ.then | apply PanQ.block | apply PanQ.body))); simp -implicitDefEqProofs [hI, hstop', hlt, hg, hg', bV, poolC, plV, hpos, hpos', hs0, k1, k2, k1', k2', hB1, hB2, n_id4_id, n_id_id4, n_tb_id4, n_id4_tb, n_tb_id, n_id_tb])
                | (((with_reducible apply AWp.drawS (id := 17) (t := (Sch.step 0 (Sch.step 2 (Sch.step 3 (Sch.step 4 (Sch.read 1 (Sch.read 5 (Sch.alt 6 (Sch.step 7 (Sch.alt 8 Sch.done Sch.none)) Sch.none))))))))); (exact mixed); kernel_rfl; kernel_rfl; (repeat (with_reducible first | apply PanQ.then | apply PanQ.block | apply PanQ.body))); simp -implicitDefEqProofs [hI, hstop', hlt, hg, hg', bV, poolC, plV, hpos, hpos', hs0, k1, k2, k1', k2', hB1, hB2, n_id4_id, n_id_id4, n_tb_id4, n_id4_tb, n_tb_id, n_id_tb])
                | ((with_reducible apply AWp.ret); try simp -implicitDefEqProofs [hI, hstop', hlt, hg, hg', bV, poolC, plV, hpos, hpos', hs0, k1, k2, k1', k2', hB1, hB2, n_id4_id, n_id_id4, n_tb_id4, n_id4_tb, n_tb_id, n_id_tb])
                | ((with_reducible apply AWp.skip); try simp -implicitDefEqProofs [hI, hstop', hlt, hg, hg', bV, poolC, plV, hpos, hpos', hs0, k1, k2, k1', k2', hB1, hB2, n_id4_id, n_id_id4, n_tb_id4, n_id4_tb, n_tb_id, n_id_tb])
                | ((with_reducible apply AWp.exit); try simp -implicitDefEqProofs [hI, hstop', hlt, hg, hg', bV, poolC, plV, hpos, hpos', hs0, k1, k2, k1', k2', hB1, hB2, n_id4_id, n_id_id4, n_tb_id4, n_id4_tb, n_tb_id, n_id_tb]))
              intro ta
              intros
              have u1 : ta ≠ id4 := by assumption
              have u2 : ta ≠ tb := by assumption
              have u3 : ta ≠ tk := by assumption
              have u5 : B ta = none := by assumption
              have u1' : id4 ≠ ta := fun e => u1 e.symm
              have u2' : tb ≠ ta := fun e => u2 e.symm
              have u3' : tk ≠ ta := fun e => u3 e.symm
              have htk0 : B tk = none := by simpa [AS.set, k1, k2] using htk
              simp -implicitDefEqProofs [u1, u2, u1', u2', u3, u3', n_id4_id, n_id_id4, n_tb_id4, n_id4_tb, n_tb_id, n_id_tb]
              repeat (first
                | (with_reducible apply AWp.seq)
                | (with_reducible apply AWp.block)
                | ((with_reducible apply AWp.fork); simp -implicitDefEqProofs [u1, u2, u1', u2', u3, u3', k1, k2, k1', k2', hbp3, hbp4, hbp5, n_id4_id, n_id_id4, n_tb_id4, n_id4_tb, n_tb_id, n_id_tb])
                | ((with_reducible apply AWp.region); simp -implicitDefEqProofs [u1, u2, u1', u2', u3, u3', k1, k2, k1', k2', hbp3, hbp4, hbp5, n_id4_id, n_id_id4, n_tb_id4, n_id4_tb, n_tb_id, n_id_tb])
                | (with_reducible refine And.intro (by first | omega | assumption | decide) ?_)
                | ((with_reducible show condK _ _ _); simp -implicitDefEqProofs [u1, u2, u1', u2', u3, u3', k1, k2, k1', k2', hbp3, hbp4, hbp5, n_id4_id, n_id_id4, n_tb_id4, n_id4_tb, n_tb_id, n_id_tb])
                | ((with_reducible show guardK _ _ _ _ _ _ _ _ _); simp -implicitDefEqProofs [u1, u2, u1', u2', u3, u3', k1, k2, k1', k2', hbp3, hbp4, hbp5, n_id4_id, n_id_id4, n_tb_id4, n_id4_tb, n_tb_id, n_id_tb])
                | (((with_reducible apply AWp.drawS (id := 12) (t := (Sch.step 0 (Sch.step 1 (Sch.step 2 (Sch.step 4 (Sch.step 5 (Sch.step 6 (Sch.read 3 (Sch.read 7 (Sch.pure 8 Sch.done))))))))))); (exact mixed); kernel_rfl; kernel_rfl; (repeat (with_reducible first | apply PanQ.then | apply PanQ.block | apply PanQ.body))); simp -implicitDefEqProofs [u1, u2, u1', u2', u3, u3', k1, k2, k1', k2', hbp3, hbp4, hbp5, n_id4_id, n_id_id4, n_tb_id4, n_id4_tb, n_tb_id, n_id_tb])
                | (((with_reducible apply AWp.drawS (id := 16) (t := (Sch.step 0 (Sch.step 2 (Sch.step 3 (Sch.step 4 (Sch.read 5 (Sch.read 6 (Sch.alt 1 (Sch.alt 7 (Sch.alt 8 (Sch.step 9 (Sch.alt 10 Sch.done Sch.none)) Sch.none) Sch.none) (Sch.alt 7 (Sch.read 1 (Sch.alt 8 (Sch.step 9 (Sch.alt 10 Sch.done Sch.none)) Sch.none)) Sch.none)))))))))); (exact mixed); kernel_rfl; kernel_rfl; (repeat (with_reducible first | apply PanQ.then | apply PanQ.block | apply PanQ.body))); simp -implicitDefEqProofs [u1, u2, u1', u2', u3, u3', k1, k2, k1', k2', hbp3, hbp4, hbp5, n_id4_id, n_id_id4, n_tb_id4, n_id4_tb, n_tb_id, n_id_tb])
                | (((with_reducible apply AWp.drawS (id := 17) (t := (Sch.step 0 (Sch.step 2 (Sch.step 3 (Sch.step 4 (Sch.read 1 (Sch.read 5 (Sch.alt 6 (Sch.step 7 (Sch.alt 8 Sch.done Sch.none)) Sch.none))))))))); (exact mixed); kernel_rfl; kernel_rfl; (repeat (with_reducible first | apply PanQ.then | apply PanQ.block | apply PanQ.body))); simp -implicitDefEqProofs [u1, u2, u1', u2', u3, u3', k1, k2, k1', k2', hbp3, hbp4, hbp5, n_id4_id, n_id_id4, n_tb_id4, n_id4_tb, n_tb_id, n_id_tb])
                | ((with_reducible apply AWp.ret); try simp -implicitDefEqProofs [u1, u2, u1', u2', u3, u3', k1, k2, k1', k2', hbp3, hbp4, hbp5, n_id4_id, n_id_id4, n_tb_id4, n_id4_tb, n_tb_id, n_id_tb])
                | ((with_reducible apply AWp.skip); try simp -implicitDefEqProofs [u1, u2, u1', u2', u3, u3', k1, k2, k1', k2', hbp3, hbp4, hbp5, n_id4_id, n_id_id4, n_tb_id4, n_id4_tb, n_tb_id, n_id_tb])
                | ((with_reducible apply AWp.exit); try simp -implicitDefEqProofs [u1, u2, u1', u2', u3, u3', k1, k2, k1', k2', hbp3, hbp4, hbp5, n_id4_id, n_id_id4, n_tb_id4, n_id4_tb, n_tb_id, n_id_tb]))
              refine endNew ta hlook hs0 u5 u2 u1 _ _ hel (FrWk.mk ?_) ?_
              · simp [wInc (show i < 4000000000000000000 by omega), bV]
              · intro j x hx
                rw [hE] at hx
                by_cases a1 : j = ta
                · subst a1; simp [AS.set, poolC, plV, *] at hx ⊢; exact hx
                · by_cases a2 : j = id4
                  · subst a2; simp [AS.set, poolC, plV, *] at hx ⊢; exact hx
                  · by_cases a3 : j = tb
                    · subst a3; simp [AS.set, poolC, plV, *] at hx ⊢; rw [← hx]
                    · by_cases a4 : j = tk
                      · subst a4; simp [AS.set, poolC, plV, *] at hx
                      · simp [AS.set, poolC, plV, *] at hx ⊢; exact hx
          · have q1' : tb ≠ ta := fun e => q1 e.symm
            have q2' : id4 ≠ ta := fun e => q2 e.symm
            repeat (first
              | (with_reducible apply AWp.seq)
              | (with_reducible apply AWp.block)
              | ((with_reducible apply AWp.fork); simp -implicitDefEqProofs [hI, hstop', hlt, hg, hg', bV, poolC, plV, q1, q2, q1', q2', hdl, hpos, hpos', hs0, n_id4_id, n_id_id4, n_tb_id4, n_id4_tb, n_tb_id, n_id_tb])
              | ((with_reducible apply AWp.region); simp -implicitDefEqProofs [hI, hstop', hlt, hg, hg', bV, poolC, plV, q1, q2, q1', q2', hdl, hpos, hpos', hs0, n_id4_id, n_id_id4, n_tb_id4, n_id4_tb, n_tb_id, n_id_tb])
              | (with_reducible refine And.intro (by first | omega | assumption | decide) ?_)
              | ((with_reducible show condK _ _ _); simp -implicitDefEqProofs [hI, hstop', hlt, hg, hg', bV, poolC, plV, q1, q2, q1', q2', hdl, hpos, hpos', hs0, n_id4_id, n_id_id4, n_tb_id4, n_id4_tb, n_tb_id, n_id_tb])
              | ((with_reducible show guardK _ _ _ _ _ _ _ _ _); simp -implicitDefEqProofs [hI, hstop', hlt, hg, hg', bV, poolC, plV, q1, q2, q1', q2', hdl, hpos, hpos', hs0, n_id4_id, n_id_id4, n_tb_id4, n_id4_tb, n_tb_id, n_id_tb])
              | (((with_reducible apply AWp.drawS (id := 12) (t := (Sch.step 0 (Sch.step 1 (Sch.step 2 (Sch.step 4 (Sch.step 5 (Sch.step 6 (Sch.read 3 (Sch.read 7 (Sch.pure 8 Sch.done))))))))))); (exact mixed); kernel_rfl; kernel_rfl; (repeat (with_reducible first | apply PanQ.then | apply PanQ.block | apply PanQ.body))); simp -implicitDefEqProofs [hI, hstop', hlt, hg, hg', bV, poolC, plV, q1, q2, q1', q2', hdl, hpos, hpos', hs0, n_id4_id, n_id_id4, n_tb_id4, n_id4_tb, n_tb_id, n_id_tb])
              | (((with_reducible apply AWp.drawS (id := 16) (t := (Sch.step 0 (Sch.step 2 (Sch.step 3 (Sch.step 4 (Sch.read 5 (Sch.read 6 (Sch.alt 1 (Sch.alt 7 (Sch.alt 8 (Sch.step 9 (Sch.alt 10 Sch.done Sch.none)) Sch.none) Sch.none) (Sch.alt 7 (Sch.read 1 (Sch.alt 8 (Sch.step 9 (Sch.alt 10 Sch.done Sch.none)) Sch.none)) Sch.none)))))))))); (exact mixed); kernel_rfl; kernel_rfl; (repeat (with_reducible first | apply PanQ.then | apply PanQ.block | apply PanQ.body))); simp -implicitDefEqProofs [hI, hstop', hlt, hg, hg', bV, poolC, plV, q1, q2, q1', q2', hdl, hpos, hpos', hs0, n_id4_id, n_id_id4, n_tb_id4, n_id4_tb, n_tb_id, n_id_tb])
              | (((with_reducible apply AWp.drawS (id := 17) (t := (Sch.step 0 (Sch.step 2 (Sch.step 3 (Sch.step 4 (Sch.read 1 (Sch.read 5 (Sch.alt 6 (Sch.step 7 (Sch.alt 8 Sch.done Sch.none)) Sch.none))))))))); (exact mixed); kernel_rfl; kernel_rfl; (repeat (with_reducible first | apply PanQ.then | apply PanQ.block | apply PanQ.body))); simp -implicitDefEqProofs [hI, hstop', hlt, hg, hg', bV, poolC, plV, q1, q2, q1', q2', hdl, hpos, hpos', hs0, n_id4_id, n_id_id4, n_tb_id4, n_id4_tb, n_tb_id, n_id_tb])
              | ((with_reducible apply aCall.id); first
                  | ((apply aCall.owns (hrp _)); simp -implicitDefEqProofs [hI, hstop', hlt, hg, hg', bV, poolC, plV, q1, q2, q1', q2', hdl, hpos, hpos', hs0, n_id4_id, n_id_id4, n_tb_id4, n_id4_tb, n_tb_id, n_id_tb]))
              | ((with_reducible apply AWp.ret); try simp -implicitDefEqProofs [hI, hstop', hlt, hg, hg', bV, poolC, plV, q1, q2, q1', q2', hdl, hpos, hpos', hs0, n_id4_id, n_id_id4, n_tb_id4, n_id4_tb, n_tb_id, n_id_tb])
              | ((with_reducible apply AWp.skip); try simp -implicitDefEqProofs [hI, hstop', hlt, hg, hg', bV, poolC, plV, q1, q2, q1', q2', hdl, hpos, hpos', hs0, n_id4_id, n_id_id4, n_tb_id4, n_id4_tb, n_tb_id, n_id_tb])
              | ((with_reducible apply AWp.exit); try simp -implicitDefEqProofs [hI, hstop', hlt, hg, hg', bV, poolC, plV, q1, q2, q1', q2', hdl, hpos, hpos', hs0, n_id4_id, n_id_id4, n_tb_id4, n_id4_tb, n_tb_id, n_id_tb]))
            refine ⟨?_, ?_⟩
            all_goals
              refine aCall.owns (hrp _) (fun tk htk => ?_)
              have k3 : tk ≠ ta := by rintro rfl; simp [AS.set] at htk
              have k1 : tk ≠ id4 := by rintro rfl; simp [AS.set, k3] at htk
              have k2 : tk ≠ tb := by rintro rfl; simp [AS.set, k1, k3] at htk
              have k1' : id4 ≠ tk := fun e => k1 e.symm
              have k2' : tb ≠ tk := fun e => k2 e.symm
              have k3' : ta ≠ tk := fun e => k3 e.symm
              have htk0 : B tk = none := by simpa [AS.set, k1, k2, k3] using htk
              simp -implicitDefEqProofs [k1, k2, k1', k2', hB1, hB2, poolC, q1, q2, q1', q2', k3, k3', n_id4_id, n_id_id4, n_tb_id4, n_id4_tb, n_tb_id, n_id_tb]
              repeat (first
                | (with_reducible apply AWp.seq)
                | (with_reducible apply AWp.block)
                | ((with_reducible apply AWp.fork); simp -implicitDefEqProofs [hI, hstop', hlt, hg, hg', bV, poolC, plV, q1, q2, q1', q2', hdl, hpos, hpos', hs0, k1, k2, k1', k2', hB1, hB2, k3, k3', hbp3, hbp4, hbp5, n_id4_id, n_id_id4, n_tb_id4, n_id4_tb, n_tb_id, n_id_tb])
                | ((with_reducible apply AWp.region); simp -implicitDefEqProofs [hI, hstop', hlt, hg, hg', bV, poolC, plV, q1, q2, q1', q2', hdl, hpos, hpos', hs0, k1, k2, k1', k2', hB1, hB2, k3, k3', hbp3, hbp4, hbp5, n_id4_id, n_id_id4, n_tb_id4, n_id4_tb, n_tb_id, n_id_tb])
                | (with_reducible refine And.intro (by first | omega | assumption | decide) ?_)
                | ((with_reducible show condK _ _ _); simp -implicitDefEqProofs [hI, hstop', hlt, hg, hg', bV, poolC, plV, q1, q2, q1', q2', hdl, hpos, hpos', hs0, k1, k2, k1', k2', hB1, hB2, k3, k3', hbp3, hbp4, hbp5, n_id4_id, n_id_id4, n_tb_id4, n_id4_tb, n_tb_id, n_id_tb])
                | ((with_reducible show guardK _ _ _ _ _ _ _ _ _); simp -implicitDefEqProofs [hI, hstop', hlt, hg, hg', bV, poolC, plV, q1, q2, q1', q2', hdl, hpos, hpos', hs0, k1, k2, k1', k2', hB1, hB2, k3, k3', hbp3, hbp4, hbp5, n_id4_id, n_id_id4, n_tb_id4, n_id4_tb, n_tb_id, n_id_tb])
                | (((with_reducible apply AWp.drawS (id := 12) (t := (Sch.step 0 (Sch.step 1 (Sch.step 2 (Sch.step 4 (Sch.step 5 (Sch.step 6 (Sch.read 3 (Sch.read 7 (Sch.pure 8 Sch.done))))))))))); (exact mixed); kernel_rfl; kernel_rfl; (repeat (with_reducible first | apply PanQ.then | apply PanQ.block | apply PanQ.body))); simp -implicitDefEqProofs [hI, hstop', hlt, hg, hg', bV, poolC, plV, q1, q2, q1', q2', hdl, hpos, hpos', hs0, k1, k2, k1', k2', hB1, hB2, k3, k3', hbp3, hbp4, hbp5, n_id4_id, n_id_id4, n_tb_id4, n_id4_tb, n_tb_id, n_id_tb])
                | (((with_reducible apply AWp.drawS (id := 16) (t := (Sch.step 0 (Sch.step 2 (Sch.step 3 (Sch.step 4 (Sch.read 5 (Sch.read 6 (Sch.alt 1 (Sch.alt 7 (Sch.alt 8 (Sch.step 9 (Sch.alt 10 Sch.done Sch.none)) Sch.none) Sch.none) (Sch.alt 7 (Sch.read 1 (Sch.alt 8 (Sch.step 9 (Sch.alt 10 Sch.done Sch.none)) Sch.none)) Sch.none)))))))))); (exact mixed); kernel_rfl; kernel_rfl; (repeat (with_reducible first | apply PanQ.then | apply PanQ.block | apply PanQ.body))); simp -implicitDefEqProofs [hI, hstop', hlt, hg, hg', bV, poolC, plV, q1, q2, q1', q2', hdl, hpos, hpos', hs0, k1, k2, k1', k2', hB1, hB2, k3, k3', hbp3, hbp4, hbp5, n_id4_id, n_id_id4, n_tb_id4, n_id4_tb, n_tb_id, n_id_tb])
                | (((with_reducible apply AWp.drawS (id := 17) (t := (Sch.step 0 (Sch.step 2 (Sch.step 3 (Sch.step 4 (Sch.read 1 (Sch.read 5 (Sch.alt 6 (Sch.step 7 (Sch.alt 8 Sch.done Sch.none)) Sch.none))))))))); (exact mixed); kernel_rfl; kernel_rfl; (repeat (with_reducible first | apply PanQ.then | apply PanQ.block | apply PanQ.body))); simp -implicitDefEqProofs [hI, hstop', hlt, hg, hg', bV, poolC, plV, q1, q2, q1', q2', hdl, hpos, hpos', hs0, k1, k2, k1', k2', hB1, hB2, k3, k3', hbp3, hbp4, hbp5, n_id4_id, n_id_id4, n_tb_id4, n_id4_tb, n_tb_id, n_id_tb])
                | ((with_reducible apply AWp.ret); try simp -implicitDefEqProofs [hI, hstop', hlt, hg, hg', bV, poolC, plV, q1, q2, q1', q2', hdl, hpos, hpos', hs0, k1, k2, k1', k2', hB1, hB2, k3, k3', hbp3, hbp4, hbp5, n_id4_id, n_id_id4, n_tb_id4, n_id4_tb, n_tb_id, n_id_tb])
                | ((with_reducible apply AWp.skip); try simp -implicitDefEqProofs [hI, hstop', hlt, hg, hg', bV, poolC, plV, q1, q2, q1', q2', hdl, hpos, hpos', hs0, k1, k2, k1', k2', hB1, hB2, k3, k3', hbp3, hbp4, hbp5, n_id4_id, n_id_id4, n_tb_id4, n_id4_tb, n_tb_id, n_id_tb])
                | ((with_reducible apply AWp.exit); try simp -implicitDefEqProofs [hI, hstop', hlt, hg, hg', bV, poolC, plV, q1, q2, q1', q2', hdl, hpos, hpos', hs0, k1, k2, k1', k2', hB1, hB2, k3, k3', hbp3, hbp4, hbp5, n_id4_id, n_id_id4, n_tb_id4, n_id4_tb, n_tb_id, n_id_tb]))
              refine endNew ta hlook hs0 hta q1 q2 _ _ hel (FrWk.mk ?_) ?_
              · simp [wInc (show i < 4000000000000000000 by omega), bV]
              · intro j x hx
                rw [hE] at hx
                by_cases a1 : j = ta
                · subst a1; simp [AS.set, poolC, plV, *] at hx ⊢; exact hx
                · by_cases a2 : j = id4
                  · subst a2; simp [AS.set, poolC, plV, *] at hx ⊢; exact hx
                  · by_cases a3 : j = tb
                    · subst a3; simp [AS.set, poolC, plV, *] at hx ⊢; rw [← hx]
                    · by_cases a4 : j = tk
                      · subst a4; simp [AS.set, poolC, plV, *] at hx
                      · simp [AS.set, poolC, plV, *] at hx ⊢; exact hx
      · have hlook : lookD s (([], 0) :: d) = some at' := by simp only [lookD]; rw [if_neg hne]; exact hsome
        have z1 : ((at' : Int) = 0) = False := by simp; omega
        have z2 : (at' = 0) = False := by simp; omega
        rcases hC with ⟨h0, rfl, rfl⟩ | ⟨ta, hi0, hta, q1, q2, rfl, rfl⟩
        · have hd0 : d = [] := List.length_eq_zero_iff.1 (by omega)
          subst hd0
          simp [lookD] at hsome
        · have q1' : tb ≠ ta := fun e => q1 e.symm
          have q2' : id4 ≠ ta := fun e => q2 e.symm
          rcases hL2 with hL2 | hL2
          all_goals
            repeat (first
              | (with_reducible apply AWp.seq)
              | (with_reducible apply AWp.block)
              | ((with_reducible apply AWp.fork); simp -implicitDefEqProofs [hI, hL2, z1, z2, hlt, hg, hg', bV, poolC, plV, q1, q2, q1', q2', hdl, hbp, n_id4_id, n_id_id4, n_tb_id4, n_id4_tb, n_tb_id, n_id_tb])
              | ((with_reducible apply AWp.region); simp -implicitDefEqProofs [hI, hL2, z1, z2, hlt, hg, hg', bV, poolC, plV, q1, q2, q1', q2', hdl, hbp, n_id4_id, n_id_id4, n_tb_id4, n_id4_tb, n_tb_id, n_id_tb])
              | (with_reducible refine And.intro (by first | omega | assumption | decide) ?_)
              | ((with_reducible show condK _ _ _); simp -implicitDefEqProofs [hI, hL2, z1, z2, hlt, hg, hg', bV, poolC, plV, q1, q2, q1', q2', hdl, hbp, n_id4_id, n_id_id4, n_tb_id4, n_id4_tb, n_tb_id, n_id_tb])
              | ((with_reducible show guardK _ _ _ _ _ _ _ _ _); simp -implicitDefEqProofs [hI, hL2, z1, z2, hlt, hg, hg', bV, poolC, plV, q1, q2, q1', q2', hdl, hbp, n_id4_id, n_id_id4, n_tb_id4, n_id4_tb, n_tb_id, n_id_tb])
              | (((with_reducible apply AWp.drawS (id := 12) (t := (Sch.step 0 (Sch.step 1 (Sch.step 2 (Sch.step 4 (Sch.step 5 (Sch.step 6 (Sch.read 3 (Sch.read 7 (Sch.pure 8 Sch.done))))))))))); (exact mixed); kernel_rfl; kernel_rfl; (repeat (with_reducible first | apply PanQ.then | apply PanQ.block | apply PanQ.body))); simp -implicitDefEqProofs [hI, hL2, z1, z2, hlt, hg, hg', bV, poolC, plV, q1, q2, q1', q2', hdl, hbp, n_id4_id, n_id_id4, n_tb_id4, n_id4_tb, n_tb_id, n_id_tb])
              | (((with_reducible apply AWp.drawS (id := 16) (t := (Sch.step 0 (Sch.step 2 (Sch.step 3 (Sch.step 4 (Sch.read 5 (Sch.read 6 (Sch.alt 1 (Sch.alt 7 (Sch.alt 8 (Sch.step 9 (Sch.alt 10 Sch.done Sch.none)) Sch.none) Sch.none) (Sch.alt 7 (Sch.read 1 (Sch.alt 8 (Sch.step 9 (Sch.alt 10 Sch.done Sch.none)) Sch.none)) Sch.none)))))))))); (exact mixed); kernel_rfl; kernel_rfl; (repeat (with_reducible first | apply PanQ.then | apply PanQ.block | apply PanQ.body))); simp -implicitDefEqProofs [hI, hL2, z1, z2, hlt, hg, hg', bV, poolC, plV, q1, q2, q1', q2', hdl, hbp, n_id4_id, n_id_id4, n_tb_id4, n_id4_tb, n_tb_id, n_id_tb])
              | (((with_reducible apply AWp.drawS (id := 17) (t := (Sch.step 0 (Sch.step 2 (Sch.step 3 (Sch.step 4 (Sch.read 1 (Sch.read 5 (Sch.alt 6 (Sch.step 7 (Sch.alt 8 Sch.done Sch.none)) Sch.none))))))))); (exact mixed); kernel_rfl; kernel_rfl; (repeat (with_reducible first | apply PanQ.then | apply PanQ.block | apply PanQ.body))); simp -implicitDefEqProofs [hI, hL2, z1, z2, hlt, hg, hg', bV, poolC, plV, q1, q2, q1', q2', hdl, hbp, n_id4_id, n_id_id4, n_tb_id4, n_id4_tb, n_tb_id, n_id_tb])
              | ((with_reducible apply AWp.ret); try simp -implicitDefEqProofs [hI, hL2, z1, z2, hlt, hg, hg', bV, poolC, plV, q1, q2, q1', q2', hdl, hbp, n_id4_id, n_id_id4, n_tb_id4, n_id4_tb, n_tb_id, n_id_tb])
              | ((with_reducible apply AWp.skip); try simp -implicitDefEqProofs [hI, hL2, z1, z2, hlt, hg, hg', bV, poolC, plV, q1, q2, q1', q2', hdl, hbp, n_id4_id, n_id_id4, n_tb_id4, n_id4_tb, n_tb_id, n_id_tb])
              | ((with_reducible apply AWp.exit); try simp -implicitDefEqProofs [hI, hL2, z1, z2, hlt, hg, hg', bV, poolC, plV, q1, q2, q1', q2', hdl, hbp, n_id4_id, n_id_id4, n_tb_id4, n_id4_tb, n_tb_id, n_id_tb]))
            refine endKeep at' ta hlook ⟨fun h => absurd h hne, fun _ => g1, g2⟩ hta q1 q2 _ _ (FrWk.mk ?_) ?_
            · simp [wInc (show i < 4000000000000000000 by omega), bV]
            · intro j x hx
              by_cases a1 : j = ta
              · subst a1; simp [AS.set, poolC, plV, *] at hx ⊢; exact hx
              · by_cases a2 : j = id4
                · subst a2; simp [AS.set, poolC, plV, *] at hx ⊢; exact hx
                · by_cases a3 : j = tb
                  · subst a3; simp [AS.set, poolC, plV, *] at hx ⊢; exact hx
                  · simp [AS.set, poolC, plV, *] at hx ⊢; exact hx
  · have hI : ((i : Int) < l.length) = False := by simp; omega
    have hdr : l.drop i = [] := List.drop_eq_nil_of_le (by omega)
    rw [hdr] at hN
    simp only [List.map_nil, bmF] at hN
    rw [← hN]
    simp only
    have hid4 : id ≠ id4 := n_id_id4
    have hidtb : id ≠ tb := n_id_tb
    rcases hC with ⟨h0, rfl, rfl⟩ | ⟨ta, hi0, hta, q1, q2, rfl, rfl⟩
    · have hd0 : d = [] := List.length_eq_zero_iff.1 (by omega)
      have hl0 : l = [] := List.length_eq_zero_iff.1 (by omega)
      subst hd0 hl0
      subst h0
      clear hI
      repeat (first
        | (with_reducible apply AWp.seq)
        | (with_reducible apply AWp.block)
        | ((with_reducible apply AWp.fork); simp -implicitDefEqProofs [poolC, hBid, n_id4_id, n_id_id4, n_tb_id4, n_id4_tb, n_tb_id, n_id_tb])
        | ((with_reducible apply AWp.region); simp -implicitDefEqProofs [poolC, hBid, n_id4_id, n_id_id4, n_tb_id4, n_id4_tb, n_tb_id, n_id_tb])
        | (with_reducible refine And.intro (by first | omega | assumption | decide) ?_)
        | ((with_reducible show condK _ _ _); simp -implicitDefEqProofs [poolC, hBid, n_id4_id, n_id_id4, n_tb_id4, n_id4_tb, n_tb_id, n_id_tb])
        | ((with_reducible show guardK _ _ _ _ _ _ _ _ _); simp -implicitDefEqProofs [poolC, hBid, n_id4_id, n_id_id4, n_tb_id4, n_id4_tb, n_tb_id, n_id_tb])
        | (((with_reducible apply AWp.drawS (id := 12) (t := (Sch.step 0 (Sch.step 1 (Sch.step 2 (Sch.step 4 (Sch.step 5 (Sch.step 6 (Sch.read 3 (Sch.read 7 (Sch.pure 8 Sch.done))))))))))); (exact mixed); kernel_rfl; kernel_rfl; (repeat (with_reducible first | apply PanQ.then | apply PanQ.block | apply PanQ.body))); simp -implicitDefEqProofs [poolC, hBid, n_id4_id, n_id_id4, n_tb_id4, n_id4_tb, n_tb_id, n_id_tb])
        | (((with_reducible apply AWp.drawS (id := 16) (t := (Sch.step 0 (Sch.step 2 (Sch.step 3 (Sch.step 4 (Sch.read 5 (Sch.read 6 (Sch.alt 1 (Sch.alt 7 (Sch.alt 8 (Sch.step 9 (Sch.alt 10 Sch.done Sch.none)) Sch.none) Sch.none) (Sch.alt 7 (Sch.read 1 (Sch.alt 8 (Sch.step 9 (Sch.alt 10 Sch.done Sch.none)) Sch.none)) Sch.none)))))))))); (exact mixed); kernel_rfl; kernel_rfl; (repeat (with_reducible first | apply PanQ.then | apply PanQ.block | apply PanQ.body))); simp -implicitDefEqProofs [poolC, hBid, n_id4_id, n_id_id4, n_tb_id4, n_id4_tb, n_tb_id, n_id_tb])
        | (((with_reducible apply AWp.drawS (id := 17) (t := (Sch.step 0 (Sch.step 2 (Sch.step 3 (Sch.step 4 (Sch.read 1 (Sch.read 5 (Sch.alt 6 (Sch.step 7 (Sch.alt 8 Sch.done Sch.none)) Sch.none))))))))); (exact mixed); kernel_rfl; kernel_rfl; (repeat (with_reducible first | apply PanQ.then | apply PanQ.block | apply PanQ.body))); simp -implicitDefEqProofs [poolC, hBid, n_id4_id, n_id_id4, n_tb_id4, n_id4_tb, n_tb_id, n_id_tb])
        | ((with_reducible apply AWp.ret); try simp -implicitDefEqProofs [poolC, hBid, n_id4_id, n_id_id4, n_tb_id4, n_id4_tb, n_tb_id, n_id_tb])
        | ((with_reducible apply AWp.skip); try simp -implicitDefEqProofs [poolC, hBid, n_id4_id, n_id_id4, n_tb_id4, n_id4_tb, n_tb_id, n_id_tb])
        | ((with_reducible apply AWp.exit); try simp -implicitDefEqProofs [poolC, hBid, n_id4_id, n_id_id4, n_tb_id4, n_id4_tb, n_tb_id, n_id_tb]))
      refine ⟨Wk_agg3 (by simp) (by simp) (by simp), ?_⟩
      intro j x hx
      have a0 : j ≠ id := by rintro rfl; rw [h_id] at hx; cases hx
      have a2 : j ≠ id4 := by rintro rfl; rw [h_id4] at hx; cases hx
      have a3 : j ≠ tb := by rintro rfl; rw [h_tb] at hx; cases hx
      have := hBle j x hx
      simp [AS.set, *]
    · have q1' : tb ≠ ta := fun e => q1 e.symm
      have q2' : id4 ≠ ta := fun e => q2 e.symm
      have q3 : ta ≠ id := (hB4 ta hta).1
      have q3' : id ≠ ta := fun e => q3 e.symm
      repeat (first
        | (with_reducible apply AWp.seq)
        | (with_reducible apply AWp.block)
        | ((with_reducible apply AWp.fork); simp -implicitDefEqProofs [hI, poolC, plV, hBid, q1, q2, q1', q2', q3, q3', n_id4_id, n_id_id4, n_tb_id4, n_id4_tb, n_tb_id, n_id_tb])
        | ((with_reducible apply AWp.region); simp -implicitDefEqProofs [hI, poolC, plV, hBid, q1, q2, q1', q2', q3, q3', n_id4_id, n_id_id4, n_tb_id4, n_id4_tb, n_tb_id, n_id_tb])
        | (with_reducible refine And.intro (by first | omega | assumption | decide) ?_)
        | ((with_reducible show condK _ _ _); simp -implicitDefEqProofs [hI, poolC, plV, hBid, q1, q2, q1', q2', q3, q3', n_id4_id, n_id_id4, n_tb_id4, n_id4_tb, n_tb_id, n_id_tb])
        | ((with_reducible show guardK _ _ _ _ _ _ _ _ _); simp -implicitDefEqProofs [hI, poolC, plV, hBid, q1, q2, q1', q2', q3, q3', n_id4_id, n_id_id4, n_tb_id4, n_id4_tb, n_tb_id, n_id_tb])
        | (((with_reducible apply AWp.drawS (id := 12) (t := (Sch.step 0 (Sch.step 1 (Sch.step 2 (Sch.step 4 (Sch.step 5 (Sch.step 6 (Sch.read 3 (Sch.read 7 (Sch.pure 8 Sch.done))))))))))); (exact mixed); kernel_rfl; kernel_rfl; (repeat (with_reducible first | apply PanQ.then | apply PanQ.block | apply PanQ.body))); simp -implicitDefEqProofs [hI, poolC, plV, hBid, q1, q2, q1', q2', q3, q3', n_id4_id, n_id_id4, n_tb_id4, n_id4_tb, n_tb_id, n_id_tb])
        | (((with_reducible apply AWp.drawS (id := 16) (t := (Sch.step 0 (Sch.step 2 (Sch.step 3 (Sch.step 4 (Sch.read 5 (Sch.read 6 (Sch.alt 1 (Sch.alt 7 (Sch.alt 8 (Sch.step 9 (Sch.alt 10 Sch.done Sch.none)) Sch.none) Sch.none) (Sch.alt 7 (Sch.read 1 (Sch.alt 8 (Sch.step 9 (Sch.alt 10 Sch.done Sch.none)) Sch.none)) Sch.none)))))))))); (exact mixed); kernel_rfl; kernel_rfl; (repeat (with_reducible first | apply PanQ.then | apply PanQ.block | apply PanQ.body))); simp -implicitDefEqProofs [hI, poolC, plV, hBid, q1, q2, q1', q2', q3, q3', n_id4_id, n_id_id4, n_tb_id4, n_id4_tb, n_tb_id, n_id_tb])
        | (((with_reducible apply AWp.drawS (id := 17) (t := (Sch.step 0 (Sch.step 2 (Sch.step 3 (Sch.step 4 (Sch.read 1 (Sch.read 5 (Sch.alt 6 (Sch.step 7 (Sch.alt 8 Sch.done Sch.none)) Sch.none))))))))); (exact mixed); kernel_rfl; kernel_rfl; (repeat (with_reducible first | apply PanQ.then | apply PanQ.block | apply PanQ.body))); simp -implicitDefEqProofs [hI, poolC, plV, hBid, q1, q2, q1', q2', q3, q3', n_id4_id, n_id_id4, n_tb_id4, n_id4_tb, n_tb_id, n_id_tb])
        | ((with_reducible apply AWp.ret); try simp -implicitDefEqProofs [hI, poolC, plV, hBid, q1, q2, q1', q2', q3, q3', n_id4_id, n_id_id4, n_tb_id4, n_id4_tb, n_tb_id, n_id_tb])
        | ((with_reducible apply AWp.skip); try simp -implicitDefEqProofs [hI, poolC, plV, hBid, q1, q2, q1', q2', q3, q3', n_id4_id, n_id_id4, n_tb_id4, n_id4_tb, n_tb_id, n_id_tb])
        | ((with_reducible apply AWp.exit); try simp -implicitDefEqProofs [hI, poolC, plV, hBid, q1, q2, q1', q2', q3, q3', n_id4_id, n_id_id4, n_tb_id4, n_id4_tb, n_tb_id, n_id_tb]))
      have h2 : decide (l = []) = false := by
        have : l ≠ [] := by rintro rfl; simp at hi; omega
        simp [this]
      rw [h2]
      refine ⟨Wk_agg3 (by simp) (by simp) (by simp), ?_⟩
      intro j x hx
      have a0 : j ≠ id := by rintro rfl; rw [h_id] at hx; cases hx
      have a2 : j ≠ id4 := by rintro rfl; rw [h_id4] at hx; cases hx
      have a3 : j ≠ tb := by rintro rfl; rw [h_tb] at hx; cases hx
      have a1 : j ≠ ta := by rintro rfl; rw [(hB4 _ hta).2] at hx; cases hx
      have := hBle j x hx
      simp [AS.set, *]

end Go.Proofs.Ytiojkpebjdifoaa
