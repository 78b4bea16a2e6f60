/- Chapter 07: CodeJoins. -/
import Derived.Test.YtnkjbgcbchbonaaCodeB
set_option linter.unusedSimpArgs false
set_option linter.unusedVariables false
set_option maxRecDepth 100000
set_option maxHeartbeats 3200000
namespace Go.Proofs.Ytnkjbgcbchbonaa
open Go Go.AW

def jmpB (op : Int) : Bool := (decide (34 ≤ op) && decide (op ≤ 42)) || decide (op = 71)
theorem jmp_tab : ∀ k : Fin 75, (ofT ((k.val : Int) + 1)).2.1 = 5 → jmpB ((k.val : Int) + 1) = true := by decide +kernel
theorem jmp_o {op : Int} (h : jmpB op = false) : ¬ oO op = 5 := by
  intro h5
  by_cases ho : op < 1 ∨ 75 < op
  · rw [oO_out ho] at h5; cases h5
  · have := jmp_tab ⟨(op - 1).toNat, by omega⟩
    have e : (((op - 1).toNat : Nat) : Int) + 1 = op := by omega
    simp only [e] at this
    have h6 := this h5
    rw [h] at h6; cases h6
theorem code_plain (P Q : List Int) : ∀ (l : List Ins) (i j : Nat), (∀ x ∈ l, jmpB x.op = false) → codeG P l i = codeG Q l j := by
  intro l
  induction l with
  | nil => intro i j _; rfl
  | cons x r ih =>
    intro i j h
    simp only [codeG]
    rw [ih (i + 1) (j + 1) (fun y hy => h y (by simp [hy]))]
    congr 1
    unfold insB opdB
    have := jmp_o (h x (by simp))
    simp [this]
theorem code_app (P : List Int) : ∀ (l m : List Ins) (i : Nat), codeG P (l ++ m) i = codeG P l i ++ codeG P m (i + l.length) := by
  intro l
  induction l with
  | nil => intro m i; rfl
  | cons x r ih =>
    intro m i
    simp only [List.cons_append, codeG, ih, List.append_assoc, List.length_cons]
    rw [show i + 1 + r.length = i + (r.length + 1) by omega]
theorem flow_no {l : List Ins} (h : ∀ x ∈ l, jmpB x.op = false) (n : Nat) : l.any (flowB n) = false := by
  rw [Bool.eq_false_iff]
  intro hh
  obtain ⟨x, hx, hf⟩ := List.any_eq_true.1 hh
  have := jmp_o (h x hx)
  simp [flowB, this] at hf
theorem enc_plain {l : List Ins} (hl : l.length ≤ 160) (h : ∀ x ∈ l, jmpB x.op = false) : encodeS l = if l.all rawB then (codeG [] l 0, 0) else ([], 17) := by
  have hp : placesS l = if l.all rawB then (placesG l 0, 0) else ([], 17) := by unfold placesS; rw [if_neg (by omega)]
  unfold encodeS
  rw [hp]
  split
  · rw [if_pos rfl, flow_no h]
    simp only [Bool.false_eq_true, if_false]
    rw [code_plain (placesG l 0) [] l 0 0 h]
  · simp
theorem enc_joins {l m : List Ins} (hl : l.length ≤ 80) (hm : m.length ≤ 80) (h : ∀ x ∈ l ++ m, jmpB x.op = false) :
    ((encodeS l).2 = 0 ∧ (encodeS m).2 = 0 ∧ encodeS (l ++ m) = ((encodeS l).1 ++ (encodeS m).1, 0)) ∨ (¬ ((encodeS l).2 = 0 ∧ (encodeS m).2 = 0) ∧ encodeS (l ++ m) = ([], 17)) := by
  have h1 := enc_plain (l := l) (by omega) (fun x hx => h x (by simp [hx]))
  have h2 := enc_plain (l := m) (by omega) (fun x hx => h x (by simp [hx]))
  have h3 := enc_plain (l := l ++ m) (by simp; omega) h
  rw [h1, h2, h3, List.all_append]
  cases a1 : l.all rawB <;> cases a2 : m.all rawB
  · right; simp
  · right; simp
  · right; simp
  · left
    simp only [Bool.and_self, if_true]
    refine ⟨trivial, trivial, ?_⟩
    rw [code_app, code_plain [] [] m (0 + l.length) 0 (fun x hx => h x (by simp [hx]))]

theorem codeJoins_ok (l m : List Ins) (nl nm : Bool) (hl : l.length ≤ 140737488355328) (hm : m.length ≤ 140737488355328) :
    ACalls Try.prog 4 [insL l .unk nl, insL m .unk nm] noAS IsTrue No := by
  refine ACalls.of_body Try.func4 rfl rfl (by simp [Try.ntmps4]) ?_
  by_cases hL : 80 < l.length
  · have hL' : (80 < (l.length : Int)) = True := eq_true (by omega)
    simp only [insL]
    repeat (first
      | (with_reducible first | apply AWp.seq | apply AWp.block | refine And.intro (by first | omega | assumption | decide) ?_)
      | ((first | (with_reducible first | apply AWp.fork | apply AWp.region | show condK _ _ _ | show guardK _ _ _ _ _ _ _ _ _) | ((with_reducible apply aCall.id); first | apply aCall.gives (cwakes_ok _))); simp -implicitDefEqProofs [hL', ci_lt, ci_le])
      | ((with_reducible first | apply AWp.ret | apply AWp.skip | apply AWp.exit); try simp -implicitDefEqProofs [hL', ci_lt, ci_le]))
  have hL' : (80 < (l.length : Int)) = False := eq_false (by omega)
  by_cases hM : 80 < m.length
  · have hM' : (80 < (m.length : Int)) = True := eq_true (by omega)
    simp only [insL]
    repeat (first
      | (with_reducible first | apply AWp.seq | apply AWp.block | refine And.intro (by first | omega | assumption | decide) ?_)
      | ((first | (with_reducible first | apply AWp.fork | apply AWp.region | show condK _ _ _ | show guardK _ _ _ _ _ _ _ _ _) | ((with_reducible apply aCall.id); first | apply aCall.gives (cwakes_ok _))); simp -implicitDefEqProofs [hL', hM', ci_lt, ci_le])
      | ((with_reducible first | apply AWp.ret | apply AWp.skip | apply AWp.exit); try simp -implicitDefEqProofs [hL', hM', ci_lt, ci_le]))
  have hM' : (80 < (m.length : Int)) = False := eq_false (by omega)
  have hl1 : l.length ≤ 80 := by omega
  have hm1 : m.length ≤ 80 := by omega
  have he1 := fun o n σ => cencode_ok l o n hl σ
  have he2 := fun o n σ => cencode_ok m o n hm σ
  have hjn := enc_joins hl1 hm1
  have hel1 := encodeS_len l
  have hel2 := encodeS_len m
  obtain ⟨B, hB⟩ : ∃ B, l ++ m = B := ⟨_, rfl⟩
  have hBl : B.length = l.length + m.length := by rw [← hB]; simp
  have he3 := fun o n σ => cencode_ok B o n (by omega) σ
  have hBm : List.map insV l ++ List.map insV m = List.map insV B := by rw [← hB]; simp
  rw [hB] at hjn
  simp only [insL, enV] at he1 he2 he3 ⊢
  repeat (first
    | (with_reducible first | apply AWp.seq | apply AWp.block | refine And.intro (by first | omega | assumption | decide) ?_)
    | ((first | (with_reducible first | apply AWp.fork | apply AWp.region | show condK _ _ _ | show guardK _ _ _ _ _ _ _ _ _) | ((with_reducible apply aCall.id); first | apply aCall.gives (cwakes_ok _))); simp -implicitDefEqProofs [hL', hM', hBm, ci_lt, ci_le])
    | ((with_reducible first | apply AWp.ret | apply AWp.skip | apply AWp.exit); try simp -implicitDefEqProofs [hL', hM', hBm, ci_lt, ci_le]))
  intro tk h_tk
  repeat (first
    | (with_reducible first | apply AWp.seq | apply AWp.block | refine And.intro (by first | omega | assumption | decide) ?_)
    | ((first | (with_reducible first | apply AWp.fork | apply AWp.region | show condK _ _ _ | show guardK _ _ _ _ _ _ _ _ _)); simp -implicitDefEqProofs [hBm, ci_lt, ci_le])
    | ((with_reducible first | apply AWp.ret | apply AWp.skip | apply AWp.exit); try simp -implicitDefEqProofs [hBm, ci_lt, ci_le]))
  refine AWp.loopA (α := (Nat)) (0) (fun i => B.length - i) (fun i => i ≤ B.length ∧ ∀ x ∈ B.take i, jmpB x.op = false) [(0, ?_), (1, ?_), (5, ?_), (29, ?_)] (fun i => [(30, .sc (.int .i64 i))]) (fun i => noAS.set tk (.tok B.length)) ?_ ?_ ?_ ?_
  rotate_left 4
  · (try dsimp only); (simp only [List.cons_append, List.nil_append]; repeat (first | exact FrWk.nil | refine FrWk.cons (by first | (simp -implicitDefEqProofs [ci_lt, ci_le]; done) | exact Wk.of (by (try simp -implicitDefEqProofs [ci_lt, ci_le]) <;> rfl)) ?_))
  · (try dsimp only); (rw [hBl]; exact AS.le_refl _)
  · exact ⟨by omega, by simp⟩
  intro i hx_
  try dsimp only at hx_ ⊢
  obtain ⟨hi, hJ⟩ := hx_
  simp only [List.cons_append, List.nil_append]
  by_cases hlt : i < B.length
  · have wi_i : IntKind.i64.wrap ((i : Int) + 1) = ((i + 1 : Nat) : Int) := ci_wi (by omega)
    have hJn : jmpB B[i].op = false → ∀ x ∈ B.take (i + 1), jmpB x.op = false := by
      intro h x hx
      rw [List.take_succ_eq_append_getElem hlt] at hx
      rcases List.mem_append.1 hx with hx | hx
      · exact hJ x hx
      · simp at hx; subst hx; exact h
    generalize hx : B[i] = x at *
    obtain ⟨op, arg, k, ix, d, r⟩ := x
    simp only at hJn
    have hjd : jmpB op = ((decide (34 ≤ op) && decide (op ≤ 42)) || decide (op = 71)) := rfl
    by_cases j1 : 34 ≤ op <;> by_cases j2 : op ≤ 42 <;> by_cases j3 : op = 71
    all_goals
      first
      | (exfalso; omega)
      | skip
      repeat (first
        | (with_reducible first | apply AWp.seq | apply AWp.block | refine And.intro (by first | omega | assumption | decide) ?_)
        | ((first | (with_reducible first | apply AWp.fork | apply AWp.region | show condK _ _ _ | show guardK _ _ _ _ _ _ _ _ _)); simp -implicitDefEqProofs [hlt, hx, insV, j1, j2, j3, ci_lt, ci_le, wi_i])
        | ((with_reducible first | apply AWp.ret | apply AWp.skip | apply AWp.exit); try simp -implicitDefEqProofs [hlt, hx, insV, j1, j2, j3, ci_lt, ci_le, wi_i]))
      try
        refine stepA.mk (i + 1) (by (try dsimp only); omega) (by (try dsimp only); (simp only [List.cons_append, List.nil_append]; repeat (first | exact FrWk.nil | refine FrWk.cons (by first | (simp -implicitDefEqProofs [ci_lt, ci_le, wi_i]; done) | exact Wk.of (by (try simp -implicitDefEqProofs [ci_lt, ci_le, wi_i]) <;> rfl)) ?_))) (by (try dsimp only); (first | exact AS.le_refl _ | assumption | (repeat (first | exact AS.le_refl _ | assumption | refine le_new (by simp [*]) ?_)))) ?_
        try dsimp only
        exact ⟨hlt, hJn (by rw [hjd]; simp [j1, j2, j3])⟩
  · have hJ2 : ∀ x ∈ B, jmpB x.op = false := by rwa [List.take_of_length_le (by omega)] at hJ
    rcases hjn hJ2 with ⟨a1, a2, a3⟩ | ⟨a1, a3⟩
    · have hs := fun o1 o2 n1 n2 σ => same_ok ((encodeS l).1 ++ (encodeS m).1) ((encodeS l).1 ++ (encodeS m).1) o1 o2 n1 n2 (by simp; omega) σ
      rw [a3] at he3
      rw [a1] at he1
      rw [a2] at he2
      generalize (encodeS l).1 = e1 at *
      generalize (encodeS m).1 = e2 at *
      simp only [List.map_append] at hs he3
      repeat (first
        | (with_reducible first | apply AWp.seq | apply AWp.block | refine And.intro (by first | omega | assumption | decide) ?_)
        | ((first | (with_reducible first | apply AWp.fork | apply AWp.region | show condK _ _ _ | show guardK _ _ _ _ _ _ _ _ _) | ((with_reducible apply aCall.id); first | apply aCall.gives (he1 _ _ _) | apply aCall.gives (he2 _ _ _) | apply aCall.gives (he3 _ _ _))); simp -implicitDefEqProofs [hlt, ci_lt, ci_le])
        | ((with_reducible first | apply AWp.ret | apply AWp.skip | apply AWp.exit); try simp -implicitDefEqProofs [hlt, ci_lt, ci_le]))
      intro tk2 n_tk2_tk h_tk2
      have n_tk_tk2 : ¬ tk = tk2 := fun e => n_tk2_tk e.symm
      repeat (first
        | (with_reducible first | apply AWp.seq | apply AWp.block | refine And.intro (by first | omega | assumption | decide) ?_)
        | ((first | (with_reducible first | apply AWp.fork | apply AWp.region | show condK _ _ _ | show guardK _ _ _ _ _ _ _ _ _) | ((with_reducible apply aCall.id); first | apply aCall.gives (hs _ _ _ _ _))); simp -implicitDefEqProofs [ci_lt, ci_le, n_tk2_tk, n_tk_tk2])
        | ((with_reducible first | apply AWp.ret | apply AWp.skip | apply AWp.exit); try simp -implicitDefEqProofs [ci_lt, ci_le, n_tk2_tk, n_tk_tk2]))
    · rw [a3] at he3
      generalize encodeS l = q1 at *
      generalize encodeS m = q2 at *
      obtain ⟨e1, f1⟩ := q1
      obtain ⟨e2, f2⟩ := q2
      simp only at he1 he2 a1
      by_cases z1 : f1 = 0
      · have z2 : ¬ f2 = 0 := fun h => a1 ⟨z1, h⟩
        repeat (first
          | (with_reducible first | apply AWp.seq | apply AWp.block | refine And.intro (by first | omega | assumption | decide) ?_)
          | ((first | (with_reducible first | apply AWp.fork | apply AWp.region | show condK _ _ _ | show guardK _ _ _ _ _ _ _ _ _) | ((with_reducible apply aCall.id); first | apply aCall.gives (he1 _ _ _) | apply aCall.gives (he2 _ _ _) | apply aCall.gives (he3 _ _ _))); simp -implicitDefEqProofs [hlt, z1, z2, ci_lt, ci_le])
          | ((with_reducible first | apply AWp.ret | apply AWp.skip | apply AWp.exit); try simp -implicitDefEqProofs [hlt, z1, z2, ci_lt, ci_le]))
      · repeat (first
          | (with_reducible first | apply AWp.seq | apply AWp.block | refine And.intro (by first | omega | assumption | decide) ?_)
          | ((first | (with_reducible first | apply AWp.fork | apply AWp.region | show condK _ _ _ | show guardK _ _ _ _ _ _ _ _ _) | ((with_reducible apply aCall.id); first | apply aCall.gives (he1 _ _ _) | apply aCall.gives (he2 _ _ _) | apply aCall.gives (he3 _ _ _))); simp -implicitDefEqProofs [hlt, z1, ci_lt, ci_le])
          | ((with_reducible first | apply AWp.ret | apply AWp.skip | apply AWp.exit); try simp -implicitDefEqProofs [hlt, z1, ci_lt, ci_le]))

end Go.Proofs.Ytnkjbgcbchbonaa
