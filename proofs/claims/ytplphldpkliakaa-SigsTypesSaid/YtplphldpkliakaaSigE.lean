/- The document: Put. -/
import Derived.Test.YtplphldpkliakaaSigD
import Derived.Test.YtplphldpkliakaaRef1b
set_option linter.unusedSimpArgs false
set_option linter.unusedVariables false
set_option maxRecDepth 100000
set_option maxHeartbeats 3200000
namespace Go.Proofs.Ytplphldpkliakaa
namespace Sg
open Go Go.AW

def rfB (r : Bool) : List UInt8 := if r = true then [16] else []
def dmB (r : Bool) (i : Nat) : List UInt8 := rfB r ++ List.replicate i 29
theorem dmB_next (r : Bool) (i : Nat) : dmB r (i + 1) = dmB r i ++ [29] := by simp [dmB, List.replicate_succ']
theorem dmB_len (r : Bool) (i : Nat) : (dmB r i).length ≤ 1 + i := by cases r <;> simp [dmB, rfB] <;> omega

theorem rput_ok (t : Ty) (ht : plainT t = true) (σ : AS) : ACalls Try.prog 23 [tyV t] σ
    (Owns (fun tk => .lst 5 ((tyB t).map u8) (.tok tk) false) (tyB t).length σ) No := by
  obtain ⟨d0, d3, x0, hk⟩ := plain_cases ht
  obtain ⟨k, x, d, rf⟩ := t
  simp only at d0 d3 x0 hk
  obtain ⟨n, rfl⟩ : ∃ n : Nat, d = n := ⟨d.toNat, by omega⟩
  have hn3 : n ≤ 3 := by omega
  refine ACalls.of_body Try.func23 rfl rfl (by simp [Try.ntmps23]) ?_
  simp only [tyV_def]
  repeat (first
    | (with_reducible first | apply AWp.seq | apply AWp.block | refine And.intro (by first | omega | assumption | decide) ?_)
    | ((first | (with_reducible first | apply AWp.fork | ((fail_if_success (apply AWp.region (id := 2))); apply AWp.region) | show condK _ _ _ | show guardK _ _ _ _ _ _ _ _ _)); simp -implicitDefEqProofs [ci_lt, ci_le])
    | ((with_reducible first | apply AWp.ret | apply AWp.skip | apply AWp.exit); try simp -implicitDefEqProofs [ci_lt, ci_le]))
  intro id h_id
  repeat (first
    | (with_reducible first | apply AWp.seq | apply AWp.block | refine And.intro (by first | omega | assumption | decide) ?_)
    | ((first | (with_reducible first | apply AWp.fork | ((fail_if_success (apply AWp.region (id := 2))); apply AWp.region) | show condK _ _ _ | show guardK _ _ _ _ _ _ _ _ _)); simp -implicitDefEqProofs [ci_lt, ci_le])
    | ((with_reducible first | apply AWp.ret | apply AWp.skip | apply AWp.exit); try simp -implicitDefEqProofs [ci_lt, ci_le]))
  refine AWp.mint 3 5 [] true (by simp [Try.ntmps23]) (.inr ⟨by simp, rfl, rfl⟩) ?_
  simp -implicitDefEqProofs [ci_lt, ci_le]
  intro tk n_tk_id h_tk
  have n_id_tk : ¬ id = tk := fun e => n_tk_id e.symm
  have hle : ∀ x y, AS.le (σ.set tk x) ((σ.set id y).set tk x) := fun x y => le_set (AS.le_set (AS.le_refl _) h_id)
  have h00 : dmB true 0 = [16] := rfl
  cases rf
  · repeat (first
      | (with_reducible first | apply AWp.seq | apply AWp.block | refine And.intro (by first | omega | assumption | decide) ?_)
      | ((first | (with_reducible first | apply AWp.fork | apply AWp.region | show condK _ _ _ | show guardK _ _ _ _ _ _ _ _ _)); simp -implicitDefEqProofs [ci_lt, ci_le, n_id_tk, n_tk_id, h00])
      | ((with_reducible first | apply AWp.ret | apply AWp.skip | apply AWp.exit); try simp -implicitDefEqProofs [ci_lt, ci_le, n_id_tk, n_tk_id, h00]))
    refine AWp.loopA (α := (Nat)) (0) (fun i => n - i) (fun i => i ≤ n) [(1, ?_), (2, ?_)] (fun i => [(4, .sc (.int .i64 i)), (3, .lst 5 ((dmB false i).map u8) (.tok tk) (decide (dmB false i = [])))]) (fun i => (σ.set id (.cells 24 [.sc (.int .i64 k), .sc (.int .i64 x), .sc (.int .i64 n), .sc (.bool false)])).set tk (.tok (dmB false i).length)) ?_ ?_ ?_ ?_
    rotate_left 2
    · (try dsimp only); (simp only [List.cons_append, List.nil_append]; repeat (first | exact FrWk.nil | refine FrWk.cons (by first | (simp -implicitDefEqProofs [ci_lt, ci_le, n_id_tk, n_tk_id, h00]; done) | exact Wk.of (by (try simp -implicitDefEqProofs [ci_lt, ci_le, n_id_tk, n_tk_id, h00]) <;> rfl)) ?_))
    · (try dsimp only); (simp [dmB, rfB]; done)
    · exact Nat.zero_le _
    intro i hx_
    try dsimp only at hx_ ⊢
    obtain hi := hx_
    simp only [List.cons_append, List.nil_append]
    have hd := dmB_len false i
    have hE1 : (dmB false (i + 1)).map u8 = (dmB false i).map u8 ++ [u8 29] := by rw [dmB_next, List.map_append]; rfl
    have hE2 : (dmB false (i + 1)).length = (dmB false i).length + 1 := by rw [dmB_next, List.length_append]; rfl
    have hE3 : dmB false (i + 1) ≠ [] := by rw [dmB_next]; simp
    by_cases hlt : i < n
    · have wi_i : IntKind.i64.wrap ((i : Int) + 1) = ((i + 1 : Nat) : Int) := ci_wi (by omega)
      repeat (first
        | (with_reducible first | apply AWp.seq | apply AWp.block | refine And.intro (by first | omega | assumption | decide) ?_)
        | ((first | (with_reducible first | apply AWp.fork | apply AWp.region | show condK _ _ _ | show guardK _ _ _ _ _ _ _ _ _)); simp -implicitDefEqProofs [hlt, ci_lt, ci_le, n_id_tk, n_tk_id, h00, wi_i])
        | ((with_reducible first | apply AWp.ret | apply AWp.skip | apply AWp.exit); try simp -implicitDefEqProofs [hlt, ci_lt, ci_le, n_id_tk, n_tk_id, h00, wi_i]))
      refine stepA.mk ((i + 1)) (by (try dsimp only); omega) (by (try dsimp only); (simp only [List.cons_append, List.nil_append]; repeat (first | exact FrWk.nil | refine FrWk.cons (by first | (simp -implicitDefEqProofs [hE1, hE2, hE3, ci_lt, ci_le, n_id_tk, n_tk_id, h00, wi_i]; done) | exact Wk.of (by (try simp -implicitDefEqProofs [hE1, hE2, hE3, ci_lt, ci_le, n_id_tk, n_tk_id, h00, wi_i]) <;> rfl)) ?_))) (by (try dsimp only); (simp [hE1, hE2, hE3]; done)) ?_
      try dsimp only
      exact hlt
    · have hin : i = n := by omega
      subst hin
      rcases hk with ⟨rfl, _, h, rfl⟩ | ⟨rfl, rfl⟩ | ⟨rfl, rfl⟩ | ⟨rfl, rfl⟩ | ⟨rfl, hi⟩ | ⟨rfl, hi⟩ | ⟨rfl, hi⟩
      · have hB : tyB { kind := 1, index := 0, dims := i, ref := false } = dmB false i ++ [1] := by simp [tyB, kdB, dmB, rfB]
        rw [hB]
        repeat (first
          | (with_reducible first | apply AWp.seq | apply AWp.block | refine And.intro (by first | omega | assumption | decide) ?_)
          | ((first | (with_reducible first | apply AWp.fork | apply AWp.region | show condK _ _ _ | show guardK _ _ _ _ _ _ _ _ _)); simp -implicitDefEqProofs [hlt, hd, ci_lt, ci_le, n_id_tk, n_tk_id, h00])
          | ((with_reducible first | apply AWp.ret | apply AWp.skip | apply AWp.exit); try simp -implicitDefEqProofs [hlt, hd, ci_lt, ci_le, n_id_tk, n_tk_id, h00]))
        exact owns_end tk h_tk (by simp) (by simpa using hle _ _)
      · have hB : tyB { kind := 2, index := 0, dims := i, ref := false } = dmB false i ++ [8] := by simp [tyB, kdB, dmB, rfB]
        rw [hB]
        repeat (first
          | (with_reducible first | apply AWp.seq | apply AWp.block | refine And.intro (by first | omega | assumption | decide) ?_)
          | ((first | (with_reducible first | apply AWp.fork | apply AWp.region | show condK _ _ _ | show guardK _ _ _ _ _ _ _ _ _)); simp -implicitDefEqProofs [hlt, hd, ci_lt, ci_le, n_id_tk, n_tk_id, h00])
          | ((with_reducible first | apply AWp.ret | apply AWp.skip | apply AWp.exit); try simp -implicitDefEqProofs [hlt, hd, ci_lt, ci_le, n_id_tk, n_tk_id, h00]))
        exact owns_end tk h_tk (by simp) (by simpa using hle _ _)
      · have hB : tyB { kind := 3, index := 0, dims := i, ref := false } = dmB false i ++ [10] := by simp [tyB, kdB, dmB, rfB]
        rw [hB]
        repeat (first
          | (with_reducible first | apply AWp.seq | apply AWp.block | refine And.intro (by first | omega | assumption | decide) ?_)
          | ((first | (with_reducible first | apply AWp.fork | apply AWp.region | show condK _ _ _ | show guardK _ _ _ _ _ _ _ _ _)); simp -implicitDefEqProofs [hlt, hd, ci_lt, ci_le, n_id_tk, n_tk_id, h00])
          | ((with_reducible first | apply AWp.ret | apply AWp.skip | apply AWp.exit); try simp -implicitDefEqProofs [hlt, hd, ci_lt, ci_le, n_id_tk, n_tk_id, h00]))
        exact owns_end tk h_tk (by simp) (by simpa using hle _ _)
      · have hB : tyB { kind := 4, index := 0, dims := i, ref := false } = dmB false i ++ [28] := by simp [tyB, kdB, dmB, rfB]
        rw [hB]
        repeat (first
          | (with_reducible first | apply AWp.seq | apply AWp.block | refine And.intro (by first | omega | assumption | decide) ?_)
          | ((first | (with_reducible first | apply AWp.fork | apply AWp.region | show condK _ _ _ | show guardK _ _ _ _ _ _ _ _ _)); simp -implicitDefEqProofs [hlt, hd, ci_lt, ci_le, n_id_tk, n_tk_id, h00])
          | ((with_reducible first | apply AWp.ret | apply AWp.skip | apply AWp.exit); try simp -implicitDefEqProofs [hlt, hd, ci_lt, ci_le, n_id_tk, n_tk_id, h00]))
        exact owns_end tk h_tk (by simp) (by simpa using hle _ _)
      · have hB : tyB { kind := 5, index := x, dims := i, ref := false } = dmB false i ++ (18 :: packL (4 * (x + 1))) := by simp [tyB, kdB, dmB, rfB]
        rw [hB]
        have hp := fun σ => rpack_ok (4 * (x + 1)) (by omega) (by omega) σ
        have hpb : (packL (4 * (x + 1))).length ≤ 4 := by
          simp only [packL, beL_length, sizeI]
          split <;> (try split) <;> (try split) <;> simp
        have hw : IntKind.i64.wrap (x + 1) = x + 1 := in_i64 (by omega) (by omega)
        have hw2 : IntKind.i64.wrap (4 * (x + 1)) = 4 * (x + 1) := in_i64 (by omega) (by omega)
        repeat (first
          | (with_reducible first | apply AWp.seq | apply AWp.block | refine And.intro (by first | omega | assumption | decide) ?_)
          | ((first | (with_reducible first | apply AWp.fork | apply AWp.region | show condK _ _ _ | show guardK _ _ _ _ _ _ _ _ _) | ((with_reducible apply aCall.id); first | apply aCall.owns (hp _))); simp -implicitDefEqProofs [hlt, hd, hpb, hw, hw2, ci_lt, ci_le, n_id_tk, n_tk_id, h00])
          | ((with_reducible first | apply AWp.ret | apply AWp.skip | apply AWp.exit); try simp -implicitDefEqProofs [hlt, hd, hpb, hw, hw2, ci_lt, ci_le, n_id_tk, n_tk_id, h00]))
        intro tk2 n1 n2 h2
        have n3 : ¬ tk = tk2 := fun e => n1 e.symm
        repeat (first
          | (with_reducible first | apply AWp.seq | apply AWp.block | refine And.intro (by first | omega | assumption | decide) ?_)
          | ((first | (with_reducible first | apply AWp.fork | apply AWp.region | show condK _ _ _ | show guardK _ _ _ _ _ _ _ _ _)); simp -implicitDefEqProofs [hpb, hd, n3, ci_lt, ci_le, n_id_tk, n_tk_id, h00])
          | ((with_reducible first | apply AWp.ret | apply AWp.skip | apply AWp.exit); try simp -implicitDefEqProofs [hpb, hd, n3, ci_lt, ci_le, n_id_tk, n_tk_id, h00]))
        have hz : ∀ a b c d, AS.le (σ.set tk d) ((((σ.set id a).set tk b).set tk2 c).set tk d) := fun a b c d =>
          le_set (AS.le_set (AS.le_set (AS.le_set (AS.le_refl _) h_id) (by simp [n_tk_id, h_tk])) (by simp [n1, n2, h2]))
        have hn : ∀ a b : Nat, a + (b + 1) = a + 1 + b := fun a b => by omega
        exact owns_end tk h_tk (by simp) (by rw [hn]; exact hz _ _ _ _)
      · have hB : tyB { kind := 6, index := x, dims := i, ref := false } = dmB false i ++ (17 :: packL (4 * (x + 1))) := by simp [tyB, kdB, dmB, rfB]
        rw [hB]
        have hp := fun σ => rpack_ok (4 * (x + 1)) (by omega) (by omega) σ
        have hpb : (packL (4 * (x + 1))).length ≤ 4 := by
          simp only [packL, beL_length, sizeI]
          split <;> (try split) <;> (try split) <;> simp
        have hw : IntKind.i64.wrap (x + 1) = x + 1 := in_i64 (by omega) (by omega)
        have hw2 : IntKind.i64.wrap (4 * (x + 1)) = 4 * (x + 1) := in_i64 (by omega) (by omega)
        repeat (first
          | (with_reducible first | apply AWp.seq | apply AWp.block | refine And.intro (by first | omega | assumption | decide) ?_)
          | ((first | (with_reducible first | apply AWp.fork | apply AWp.region | show condK _ _ _ | show guardK _ _ _ _ _ _ _ _ _) | ((with_reducible apply aCall.id); first | apply aCall.owns (hp _))); simp -implicitDefEqProofs [hlt, hd, hpb, hw, hw2, ci_lt, ci_le, n_id_tk, n_tk_id, h00])
          | ((with_reducible first | apply AWp.ret | apply AWp.skip | apply AWp.exit); try simp -implicitDefEqProofs [hlt, hd, hpb, hw, hw2, ci_lt, ci_le, n_id_tk, n_tk_id, h00]))
        intro tk2 n1 n2 h2
        have n3 : ¬ tk = tk2 := fun e => n1 e.symm
        repeat (first
          | (with_reducible first | apply AWp.seq | apply AWp.block | refine And.intro (by first | omega | assumption | decide) ?_)
          | ((first | (with_reducible first | apply AWp.fork | apply AWp.region | show condK _ _ _ | show guardK _ _ _ _ _ _ _ _ _)); simp -implicitDefEqProofs [hpb, hd, n3, ci_lt, ci_le, n_id_tk, n_tk_id, h00])
          | ((with_reducible first | apply AWp.ret | apply AWp.skip | apply AWp.exit); try simp -implicitDefEqProofs [hpb, hd, n3, ci_lt, ci_le, n_id_tk, n_tk_id, h00]))
        have hz : ∀ a b c d, AS.le (σ.set tk d) ((((σ.set id a).set tk b).set tk2 c).set tk d) := fun a b c d =>
          le_set (AS.le_set (AS.le_set (AS.le_set (AS.le_refl _) h_id) (by simp [n_tk_id, h_tk])) (by simp [n1, n2, h2]))
        have hn : ∀ a b : Nat, a + (b + 1) = a + 1 + b := fun a b => by omega
        exact owns_end tk h_tk (by simp) (by rw [hn]; exact hz _ _ _ _)
      · have hB : tyB { kind := 7, index := x, dims := i, ref := false } = dmB false i ++ (19 :: packL x) := by simp [tyB, kdB, dmB, rfB]
        rw [hB]
        have hp := fun σ => rpack_ok x (by omega) (by omega) σ
        have hpb : (packL x).length ≤ 4 := by
          simp only [packL, beL_length, sizeI]
          split <;> (try split) <;> (try split) <;> simp
        repeat (first
          | (with_reducible first | apply AWp.seq | apply AWp.block | refine And.intro (by first | omega | assumption | decide) ?_)
          | ((first | (with_reducible first | apply AWp.fork | apply AWp.region | show condK _ _ _ | show guardK _ _ _ _ _ _ _ _ _) | ((with_reducible apply aCall.id); first | apply aCall.owns (hp _))); simp -implicitDefEqProofs [hlt, hd, hpb, ci_lt, ci_le, n_id_tk, n_tk_id, h00])
          | ((with_reducible first | apply AWp.ret | apply AWp.skip | apply AWp.exit); try simp -implicitDefEqProofs [hlt, hd, hpb, ci_lt, ci_le, n_id_tk, n_tk_id, h00]))
        intro tk2 n1 n2 h2
        have n3 : ¬ tk = tk2 := fun e => n1 e.symm
        repeat (first
          | (with_reducible first | apply AWp.seq | apply AWp.block | refine And.intro (by first | omega | assumption | decide) ?_)
          | ((first | (with_reducible first | apply AWp.fork | apply AWp.region | show condK _ _ _ | show guardK _ _ _ _ _ _ _ _ _)); simp -implicitDefEqProofs [hpb, hd, n3, ci_lt, ci_le, n_id_tk, n_tk_id, h00])
          | ((with_reducible first | apply AWp.ret | apply AWp.skip | apply AWp.exit); try simp -implicitDefEqProofs [hpb, hd, n3, ci_lt, ci_le, n_id_tk, n_tk_id, h00]))
        have hz : ∀ a b c d, AS.le (σ.set tk d) ((((σ.set id a).set tk b).set tk2 c).set tk d) := fun a b c d =>
          le_set (AS.le_set (AS.le_set (AS.le_set (AS.le_refl _) h_id) (by simp [n_tk_id, h_tk])) (by simp [n1, n2, h2]))
        have hn : ∀ a b : Nat, a + (b + 1) = a + 1 + b := fun a b => by omega
        exact owns_end tk h_tk (by simp) (by rw [hn]; exact hz _ _ _ _)
  · repeat (first
      | (with_reducible first | apply AWp.seq | apply AWp.block | refine And.intro (by first | omega | assumption | decide) ?_)
      | ((first | (with_reducible first | apply AWp.fork | apply AWp.region | show condK _ _ _ | show guardK _ _ _ _ _ _ _ _ _)); simp -implicitDefEqProofs [ci_lt, ci_le, n_id_tk, n_tk_id, h00])
      | ((with_reducible first | apply AWp.ret | apply AWp.skip | apply AWp.exit); try simp -implicitDefEqProofs [ci_lt, ci_le, n_id_tk, n_tk_id, h00]))
    refine AWp.loopA (α := (Nat)) (0) (fun i => n - i) (fun i => i ≤ n) [(1, ?_), (2, ?_)] (fun i => [(4, .sc (.int .i64 i)), (3, .lst 5 ((dmB true i).map u8) (.tok tk) (decide (dmB true i = [])))]) (fun i => (σ.set id (.cells 24 [.sc (.int .i64 k), .sc (.int .i64 x), .sc (.int .i64 n), .sc (.bool true)])).set tk (.tok (dmB true i).length)) ?_ ?_ ?_ ?_
    rotate_left 2
    · (try dsimp only); (simp only [List.cons_append, List.nil_append]; repeat (first | exact FrWk.nil | refine FrWk.cons (by first | (simp -implicitDefEqProofs [ci_lt, ci_le, n_id_tk, n_tk_id, h00]; done) | exact Wk.of (by (try simp -implicitDefEqProofs [ci_lt, ci_le, n_id_tk, n_tk_id, h00]) <;> rfl)) ?_))
    · (try dsimp only); (simp [dmB, rfB]; done)
    · exact Nat.zero_le _
    intro i hx_
    try dsimp only at hx_ ⊢
    obtain hi := hx_
    simp only [List.cons_append, List.nil_append]
    have hd := dmB_len true i
    have hE1 : (dmB true (i + 1)).map u8 = (dmB true i).map u8 ++ [u8 29] := by rw [dmB_next, List.map_append]; rfl
    have hE2 : (dmB true (i + 1)).length = (dmB true i).length + 1 := by rw [dmB_next, List.length_append]; rfl
    have hE3 : dmB true (i + 1) ≠ [] := by rw [dmB_next]; simp
    by_cases hlt : i < n
    · have wi_i : IntKind.i64.wrap ((i : Int) + 1) = ((i + 1 : Nat) : Int) := ci_wi (by omega)
      repeat (first
        | (with_reducible first | apply AWp.seq | apply AWp.block | refine And.intro (by first | omega | assumption | decide) ?_)
        | ((first | (with_reducible first | apply AWp.fork | apply AWp.region | show condK _ _ _ | show guardK _ _ _ _ _ _ _ _ _)); simp -implicitDefEqProofs [hlt, ci_lt, ci_le, n_id_tk, n_tk_id, h00, wi_i])
        | ((with_reducible first | apply AWp.ret | apply AWp.skip | apply AWp.exit); try simp -implicitDefEqProofs [hlt, ci_lt, ci_le, n_id_tk, n_tk_id, h00, wi_i]))
      refine stepA.mk ((i + 1)) (by (try dsimp only); omega) (by (try dsimp only); (simp only [List.cons_append, List.nil_append]; repeat (first | exact FrWk.nil | refine FrWk.cons (by first | (simp -implicitDefEqProofs [hE1, hE2, hE3, ci_lt, ci_le, n_id_tk, n_tk_id, h00, wi_i]; done) | exact Wk.of (by (try simp -implicitDefEqProofs [hE1, hE2, hE3, ci_lt, ci_le, n_id_tk, n_tk_id, h00, wi_i]) <;> rfl)) ?_))) (by (try dsimp only); (simp [hE1, hE2, hE3]; done)) ?_
      try dsimp only
      exact hlt
    · have hin : i = n := by omega
      subst hin
      rcases hk with ⟨rfl, _, h, rfl⟩ | ⟨rfl, rfl⟩ | ⟨rfl, rfl⟩ | ⟨rfl, rfl⟩ | ⟨rfl, hi⟩ | ⟨rfl, hi⟩ | ⟨rfl, hi⟩
      · cases h
      · have hB : tyB { kind := 2, index := 0, dims := i, ref := true } = dmB true i ++ [8] := by simp [tyB, kdB, dmB, rfB]
        rw [hB]
        repeat (first
          | (with_reducible first | apply AWp.seq | apply AWp.block | refine And.intro (by first | omega | assumption | decide) ?_)
          | ((first | (with_reducible first | apply AWp.fork | apply AWp.region | show condK _ _ _ | show guardK _ _ _ _ _ _ _ _ _)); simp -implicitDefEqProofs [hlt, hd, ci_lt, ci_le, n_id_tk, n_tk_id, h00])
          | ((with_reducible first | apply AWp.ret | apply AWp.skip | apply AWp.exit); try simp -implicitDefEqProofs [hlt, hd, ci_lt, ci_le, n_id_tk, n_tk_id, h00]))
        exact owns_end tk h_tk (by simp) (by simpa using hle _ _)
      · have hB : tyB { kind := 3, index := 0, dims := i, ref := true } = dmB true i ++ [10] := by simp [tyB, kdB, dmB, rfB]
        rw [hB]
        repeat (first
          | (with_reducible first | apply AWp.seq | apply AWp.block | refine And.intro (by first | omega | assumption | decide) ?_)
          | ((first | (with_reducible first | apply AWp.fork | apply AWp.region | show condK _ _ _ | show guardK _ _ _ _ _ _ _ _ _)); simp -implicitDefEqProofs [hlt, hd, ci_lt, ci_le, n_id_tk, n_tk_id, h00])
          | ((with_reducible first | apply AWp.ret | apply AWp.skip | apply AWp.exit); try simp -implicitDefEqProofs [hlt, hd, ci_lt, ci_le, n_id_tk, n_tk_id, h00]))
        exact owns_end tk h_tk (by simp) (by simpa using hle _ _)
      · have hB : tyB { kind := 4, index := 0, dims := i, ref := true } = dmB true i ++ [28] := by simp [tyB, kdB, dmB, rfB]
        rw [hB]
        repeat (first
          | (with_reducible first | apply AWp.seq | apply AWp.block | refine And.intro (by first | omega | assumption | decide) ?_)
          | ((first | (with_reducible first | apply AWp.fork | apply AWp.region | show condK _ _ _ | show guardK _ _ _ _ _ _ _ _ _)); simp -implicitDefEqProofs [hlt, hd, ci_lt, ci_le, n_id_tk, n_tk_id, h00])
          | ((with_reducible first | apply AWp.ret | apply AWp.skip | apply AWp.exit); try simp -implicitDefEqProofs [hlt, hd, ci_lt, ci_le, n_id_tk, n_tk_id, h00]))
        exact owns_end tk h_tk (by simp) (by simpa using hle _ _)
      · have hB : tyB { kind := 5, index := x, dims := i, ref := true } = dmB true i ++ (18 :: packL (4 * (x + 1))) := by simp [tyB, kdB, dmB, rfB]
        rw [hB]
        have hp := fun σ => rpack_ok (4 * (x + 1)) (by omega) (by omega) σ
        have hpb : (packL (4 * (x + 1))).length ≤ 4 := by
          simp only [packL, beL_length, sizeI]
          split <;> (try split) <;> (try split) <;> simp
        have hw : IntKind.i64.wrap (x + 1) = x + 1 := in_i64 (by omega) (by omega)
        have hw2 : IntKind.i64.wrap (4 * (x + 1)) = 4 * (x + 1) := in_i64 (by omega) (by omega)
        repeat (first
          | (with_reducible first | apply AWp.seq | apply AWp.block | refine And.intro (by first | omega | assumption | decide) ?_)
          | ((first | (with_reducible first | apply AWp.fork | apply AWp.region | show condK _ _ _ | show guardK _ _ _ _ _ _ _ _ _) | ((with_reducible apply aCall.id); first | apply aCall.owns (hp _))); simp -implicitDefEqProofs [hlt, hd, hpb, hw, hw2, ci_lt, ci_le, n_id_tk, n_tk_id, h00])
          | ((with_reducible first | apply AWp.ret | apply AWp.skip | apply AWp.exit); try simp -implicitDefEqProofs [hlt, hd, hpb, hw, hw2, ci_lt, ci_le, n_id_tk, n_tk_id, h00]))
        intro tk2 n1 n2 h2
        have n3 : ¬ tk = tk2 := fun e => n1 e.symm
        repeat (first
          | (with_reducible first | apply AWp.seq | apply AWp.block | refine And.intro (by first | omega | assumption | decide) ?_)
          | ((first | (with_reducible first | apply AWp.fork | apply AWp.region | show condK _ _ _ | show guardK _ _ _ _ _ _ _ _ _)); simp -implicitDefEqProofs [hpb, hd, n3, ci_lt, ci_le, n_id_tk, n_tk_id, h00])
          | ((with_reducible first | apply AWp.ret | apply AWp.skip | apply AWp.exit); try simp -implicitDefEqProofs [hpb, hd, n3, ci_lt, ci_le, n_id_tk, n_tk_id, h00]))
        have hz : ∀ a b c d, AS.le (σ.set tk d) ((((σ.set id a).set tk b).set tk2 c).set tk d) := fun a b c d =>
          le_set (AS.le_set (AS.le_set (AS.le_set (AS.le_refl _) h_id) (by simp [n_tk_id, h_tk])) (by simp [n1, n2, h2]))
        have hn : ∀ a b : Nat, a + (b + 1) = a + 1 + b := fun a b => by omega
        exact owns_end tk h_tk (by simp) (by rw [hn]; exact hz _ _ _ _)
      · have hB : tyB { kind := 6, index := x, dims := i, ref := true } = dmB true i ++ (17 :: packL (4 * (x + 1))) := by simp [tyB, kdB, dmB, rfB]
        rw [hB]
        have hp := fun σ => rpack_ok (4 * (x + 1)) (by omega) (by omega) σ
        have hpb : (packL (4 * (x + 1))).length ≤ 4 := by
          simp only [packL, beL_length, sizeI]
          split <;> (try split) <;> (try split) <;> simp
        have hw : IntKind.i64.wrap (x + 1) = x + 1 := in_i64 (by omega) (by omega)
        have hw2 : IntKind.i64.wrap (4 * (x + 1)) = 4 * (x + 1) := in_i64 (by omega) (by omega)
        repeat (first
          | (with_reducible first | apply AWp.seq | apply AWp.block | refine And.intro (by first | omega | assumption | decide) ?_)
          | ((first | (with_reducible first | apply AWp.fork | apply AWp.region | show condK _ _ _ | show guardK _ _ _ _ _ _ _ _ _) | ((with_reducible apply aCall.id); first | apply aCall.owns (hp _))); simp -implicitDefEqProofs [hlt, hd, hpb, hw, hw2, ci_lt, ci_le, n_id_tk, n_tk_id, h00])
          | ((with_reducible first | apply AWp.ret | apply AWp.skip | apply AWp.exit); try simp -implicitDefEqProofs [hlt, hd, hpb, hw, hw2, ci_lt, ci_le, n_id_tk, n_tk_id, h00]))
        intro tk2 n1 n2 h2
        have n3 : ¬ tk = tk2 := fun e => n1 e.symm
        repeat (first
          | (with_reducible first | apply AWp.seq | apply AWp.block | refine And.intro (by first | omega | assumption | decide) ?_)
          | ((first | (with_reducible first | apply AWp.fork | apply AWp.region | show condK _ _ _ | show guardK _ _ _ _ _ _ _ _ _)); simp -implicitDefEqProofs [hpb, hd, n3, ci_lt, ci_le, n_id_tk, n_tk_id, h00])
          | ((with_reducible first | apply AWp.ret | apply AWp.skip | apply AWp.exit); try simp -implicitDefEqProofs [hpb, hd, n3, ci_lt, ci_le, n_id_tk, n_tk_id, h00]))
        have hz : ∀ a b c d, AS.le (σ.set tk d) ((((σ.set id a).set tk b).set tk2 c).set tk d) := fun a b c d =>
          le_set (AS.le_set (AS.le_set (AS.le_set (AS.le_refl _) h_id) (by simp [n_tk_id, h_tk])) (by simp [n1, n2, h2]))
        have hn : ∀ a b : Nat, a + (b + 1) = a + 1 + b := fun a b => by omega
        exact owns_end tk h_tk (by simp) (by rw [hn]; exact hz _ _ _ _)
      · have hB : tyB { kind := 7, index := x, dims := i, ref := true } = dmB true i ++ (19 :: packL x) := by simp [tyB, kdB, dmB, rfB]
        rw [hB]
        have hp := fun σ => rpack_ok x (by omega) (by omega) σ
        have hpb : (packL x).length ≤ 4 := by
          simp only [packL, beL_length, sizeI]
          split <;> (try split) <;> (try split) <;> simp
        repeat (first
          | (with_reducible first | apply AWp.seq | apply AWp.block | refine And.intro (by first | omega | assumption | decide) ?_)
          | ((first | (with_reducible first | apply AWp.fork | apply AWp.region | show condK _ _ _ | show guardK _ _ _ _ _ _ _ _ _) | ((with_reducible apply aCall.id); first | apply aCall.owns (hp _))); simp -implicitDefEqProofs [hlt, hd, hpb, ci_lt, ci_le, n_id_tk, n_tk_id, h00])
          | ((with_reducible first | apply AWp.ret | apply AWp.skip | apply AWp.exit); try simp -implicitDefEqProofs [hlt, hd, hpb, ci_lt, ci_le, n_id_tk, n_tk_id, h00]))
        intro tk2 n1 n2 h2
        have n3 : ¬ tk = tk2 := fun e => n1 e.symm
        repeat (first
          | (with_reducible first | apply AWp.seq | apply AWp.block | refine And.intro (by first | omega | assumption | decide) ?_)
          | ((first | (with_reducible first | apply AWp.fork | apply AWp.region | show condK _ _ _ | show guardK _ _ _ _ _ _ _ _ _)); simp -implicitDefEqProofs [hpb, hd, n3, ci_lt, ci_le, n_id_tk, n_tk_id, h00])
          | ((with_reducible first | apply AWp.ret | apply AWp.skip | apply AWp.exit); try simp -implicitDefEqProofs [hpb, hd, n3, ci_lt, ci_le, n_id_tk, n_tk_id, h00]))
        have hz : ∀ a b c d, AS.le (σ.set tk d) ((((σ.set id a).set tk b).set tk2 c).set tk d) := fun a b c d =>
          le_set (AS.le_set (AS.le_set (AS.le_set (AS.le_refl _) h_id) (by simp [n_tk_id, h_tk])) (by simp [n1, n2, h2]))
        have hn : ∀ a b : Nat, a + (b + 1) = a + 1 + b := fun a b => by omega
        exact owns_end tk h_tk (by simp) (by rw [hn]; exact hz _ _ _ _)

end Sg
end Go.Proofs.Ytplphldpkliakaa
