/- Package slices: insertion sort of parts. -/
import Derived.Test.YthbmjmdmamapiaaReg8
import Derived.Test.YthbmjmdmamapiaaAwGrow
set_option linter.unusedSimpArgs false
set_option linter.unusedVariables false
set_option maxRecDepth 100000
set_option maxHeartbeats 3200000
namespace Go.Proofs.Ythbmjmdmamapiaa
open Go Go.AW

def beforeW (a b : Pt) : Int :=
  let d := IntKind.i64.wrap (IntKind.i64.wrap (a.s.t - a.s.f) - IntKind.i64.wrap (b.s.t - b.s.f))
  if d = 0 then IntKind.i64.wrap (a.k - b.k) else d
theorem before_ok (σ : AS) (a b : Pt) : ACalls Try.prog 78 [ptV a, ptV b] σ (Gives (.sc (.int .i64 (beforeW a b))) σ) No := by
  refine ACalls.of_body Try.func78 rfl rfl (by simp [Try.ntmps78]) ?_
  simp only [ptV, beforeW]
  repeat (first
    | (with_reducible apply AWp.seq)
    | (with_reducible apply AWp.block)
    | ((with_reducible apply AWp.fork); simp -implicitDefEqProofs)
    | ((with_reducible apply AWp.region); simp -implicitDefEqProofs)
    | (with_reducible refine And.intro (by first | omega | assumption | decide) ?_)
    | ((with_reducible apply AWp.ret); try simp -implicitDefEqProofs)
    | ((with_reducible apply AWp.skip); try simp -implicitDefEqProofs)
    | ((with_reducible apply AWp.exit); try simp -implicitDefEqProofs))
  intro id h_id
  repeat (first
    | (with_reducible apply AWp.seq)
    | (with_reducible apply AWp.block)
    | ((with_reducible apply AWp.fork); simp -implicitDefEqProofs)
    | ((with_reducible apply AWp.region); simp -implicitDefEqProofs)
    | (with_reducible refine And.intro (by first | omega | assumption | decide) ?_)
    | ((with_reducible apply AWp.ret); try simp -implicitDefEqProofs)
    | ((with_reducible apply AWp.skip); try simp -implicitDefEqProofs)
    | ((with_reducible apply AWp.exit); try simp -implicitDefEqProofs))
  intro id2 n_id2_id h_id2
  have n_id_id2 : ¬ id = id2 := fun e => n_id2_id e.symm
  repeat' (first
    | (with_reducible apply AWp.seq)
    | (with_reducible apply AWp.block)
    | ((with_reducible apply AWp.fork); simp -implicitDefEqProofs [n_id2_id, n_id_id2])
    | ((with_reducible apply AWp.region); simp -implicitDefEqProofs [n_id2_id, n_id_id2])
    | (with_reducible refine And.intro (by first | omega | assumption | decide) ?_)
    | ((with_reducible show condK _ _ _); simp -implicitDefEqProofs [n_id2_id, n_id_id2])
    | ((with_reducible show guardK _ _ _ _ _ _ _ _ _); simp -implicitDefEqProofs [n_id2_id, n_id_id2])
    | trivial
    | (with_reducible apply And.intro)
    | ((with_reducible apply AWp.ret); try simp -implicitDefEqProofs [n_id2_id, n_id_id2])
    | ((with_reducible apply AWp.skip); try simp -implicitDefEqProofs [n_id2_id, n_id_id2])
    | ((with_reducible apply AWp.exit); try simp -implicitDefEqProofs [n_id2_id, n_id_id2])
    | ((with_reducible apply condK.split) <;> (intro hc; (try simp -implicitDefEqProofs only [hc]); (try simp at hc)) <;> try simp -implicitDefEqProofs [n_id2_id, n_id_id2])
    | ((with_reducible apply guardK.split) <;> (intro hc; (try simp -implicitDefEqProofs only [hc]); (try simp at hc)) <;> try simp -implicitDefEqProofs [n_id2_id, n_id_id2])
    | ((with_reducible apply pureG.split) <;> (intro hc; (try simp -implicitDefEqProofs only [hc]); (try simp at hc)) <;> try simp -implicitDefEqProofs [n_id2_id, n_id_id2]))
  all_goals (repeat' (with_reducible apply And.intro))
  all_goals first
    | exact AS.le_refl _
    | ((repeat (first | exact AS.le_refl _ | assumption | refine le_new (by simp [*]) ?_)); done)
    | (refine wk_eq ?_; simp_all [skipV]; done)
    | (refine wk_b ?_; rw [Bool.eq_iff_iff]; simp [*]; omega)
    | (refine wk_eq ?_; simp [*]; omega)
    | (refine wk_eq ?_; split <;> simp_all [skipV]; done)
    | (exfalso; omega)
theorem eqspan_ok (σ : AS) (a b : Pt) : ACalls Try.prog 80 [ptV a, ptV b] σ (Gives (.sc (.bool (decide (a.s.f = b.s.f) && decide (a.s.t = b.s.t)))) σ) No := by
  refine ACalls.of_body Try.func80 rfl rfl (by simp [Try.ntmps80]) ?_
  simp only [ptV]
  repeat (first
    | (with_reducible apply AWp.seq)
    | (with_reducible apply AWp.block)
    | ((with_reducible apply AWp.fork); simp -implicitDefEqProofs)
    | ((with_reducible apply AWp.region); simp -implicitDefEqProofs)
    | (with_reducible refine And.intro (by first | omega | assumption | decide) ?_)
    | ((with_reducible apply AWp.ret); try simp -implicitDefEqProofs)
    | ((with_reducible apply AWp.skip); try simp -implicitDefEqProofs)
    | ((with_reducible apply AWp.exit); try simp -implicitDefEqProofs))
  intro id h_id
  repeat (first
    | (with_reducible apply AWp.seq)
    | (with_reducible apply AWp.block)
    | ((with_reducible apply AWp.fork); simp -implicitDefEqProofs)
    | ((with_reducible apply AWp.region); simp -implicitDefEqProofs)
    | (with_reducible refine And.intro (by first | omega | assumption | decide) ?_)
    | ((with_reducible apply AWp.ret); try simp -implicitDefEqProofs)
    | ((with_reducible apply AWp.skip); try simp -implicitDefEqProofs)
    | ((with_reducible apply AWp.exit); try simp -implicitDefEqProofs))
  intro id2 n_id2_id h_id2
  have n_id_id2 : ¬ id = id2 := fun e => n_id2_id e.symm
  repeat (first
    | (with_reducible apply AWp.seq)
    | (with_reducible apply AWp.block)
    | ((with_reducible apply AWp.fork); simp -implicitDefEqProofs [n_id2_id, n_id_id2])
    | ((with_reducible apply AWp.region); simp -implicitDefEqProofs [n_id2_id, n_id_id2])
    | (with_reducible refine And.intro (by first | omega | assumption | decide) ?_)
    | ((with_reducible show condK _ _ _); simp -implicitDefEqProofs [n_id2_id, n_id_id2])
    | ((with_reducible show guardK _ _ _ _ _ _ _ _ _); simp -implicitDefEqProofs [n_id2_id, n_id_id2])
    | ((with_reducible apply AWp.ret); try simp -implicitDefEqProofs [n_id2_id, n_id_id2])
    | ((with_reducible apply AWp.skip); try simp -implicitDefEqProofs [n_id2_id, n_id_id2])
    | ((with_reducible apply AWp.exit); try simp -implicitDefEqProofs [n_id2_id, n_id_id2]))
  all_goals (repeat' (with_reducible apply And.intro))
  all_goals first
    | exact AS.le_refl _
    | ((repeat (first | exact AS.le_refl _ | assumption | refine le_new (by simp [*]) ?_)); done)
    | (refine wk_eq ?_; simp_all [skipV]; done)
    | (refine wk_b ?_; rw [Bool.eq_iff_iff]; simp [*]; omega)
    | (refine wk_eq ?_; simp [*]; omega)
    | (refine wk_eq ?_; split <;> simp_all [skipV]; done)
    | (exfalso; omega)

/-! insertion -/

def insRev (cmp : Pt → Pt → Int) (x : Pt) : List Pt → List Pt
  | [] => [x]
  | y :: r => if cmp x y < 0 then y :: insRev cmp x r else x :: y :: r
def sortRev (cmp : Pt → Pt → Int) (l : List Pt) : List Pt := l.foldl (fun acc x => insRev cmp x acc) []
def sortS (cmp : Pt → Pt → Int) (l : List Pt) : List Pt := (sortRev cmp l).reverse
theorem insRev_len (cmp : Pt → Pt → Int) (x : Pt) : ∀ l : List Pt, (insRev cmp x l).length = l.length + 1 := by
  intro l
  induction l with
  | nil => rfl
  | cons y r ih => rw [insRev]; split <;> simp [ih]
theorem sortRev_snoc (cmp : Pt → Pt → Int) (l : List Pt) (x : Pt) : sortRev cmp (l ++ [x]) = insRev cmp x (sortRev cmp l) := by simp [sortRev]
theorem sortRev_len (cmp : Pt → Pt → Int) (l : List Pt) : (sortRev cmp l).length = l.length := by
  suffices h : ∀ (l acc : List Pt), (l.foldl (fun acc x => insRev cmp x acc) acc).length = acc.length + l.length by
    have := h l []
    simp only [List.length_nil, Nat.zero_add] at this
    exact this
  intro l
  induction l with
  | nil => intro acc; simp
  | cons x l ih => intro acc; rw [List.foldl_cons, ih, insRev_len]; simp; omega

/-- The cells of a block that holds parts. -/
def ptC (L : List Pt) (spl : List AV) : List AV := flatC (L.map ptV ++ spl)
theorem ptC_all {L : List Pt} {spl : List AV} (h : ∀ x ∈ spl, x.cells.length = 4) : ∀ x ∈ L.map ptV ++ spl, x.cells.length = 4 := by
  intro x hx
  rcases List.mem_append.1 hx with hx | hx
  · obtain ⟨y, _, rfl⟩ := List.mem_map.1 hx; rfl
  · exact h x hx
theorem ptC_len {L : List Pt} {spl : List AV} (h : ∀ x ∈ spl, x.cells.length = 4) : (ptC L spl).length = (L.length + spl.length) * 4 := by
  rw [ptC, flatC_len (ptC_all h)]; simp
theorem ptC_at {L : List Pt} {spl : List AV} (h : ∀ x ∈ spl, x.cells.length = 4) {i : Nat} (hi : i < L.length) : ((ptC L spl).drop (i * 4)).take 4 = (ptV L[i]).cells := by
  have := flatC_at (ptC_all (L := L) h) (i := i) (by simp; omega)
  rw [ptC, this, List.getElem_append_left (by simp; exact hi)]; simp
theorem ptC_set {L : List Pt} {spl : List AV} (h : ∀ x ∈ spl, x.cells.length = 4) {i : Nat} (hi : i < L.length) (v : Pt) : (ptC L spl).take (i * 4) ++ ((ptV v).cells ++ (ptC L spl).drop (i * 4 + 4)) = ptC (L.set i v) spl := by
  have := flatC_set (ptC_all (L := L) h) (i := i) (by simp; omega) (v := ptV v) rfl
  rw [ptC, this, ptC, List.set_append_left _ _ (by simp; exact hi), List.map_set]

theorem get0 {α : Type} {A : List α} {y : α} {R : List α} (h : A.length < (A ++ y :: R).length) : (A ++ y :: R)[A.length]'h = y := by
  rw [List.getElem_append_right (Nat.le_refl _)]; simp
theorem get1 {α : Type} {A : List α} {y x : α} {R : List α} (h : A.length + 1 < (A ++ y :: x :: R).length) : (A ++ y :: x :: R)[A.length + 1]'h = x := by
  rw [List.getElem_append_right (by omega)]; simp
theorem set0 {α : Type} (A : List α) (y v : α) (R : List α) : (A ++ y :: R).set A.length v = A ++ v :: R := by
  induction A with
  | nil => rfl
  | cons a A ih => simp [ih]
theorem set1 {α : Type} (A : List α) (y x v : α) (R : List α) : (A ++ y :: x :: R).set (A.length + 1) v = A ++ y :: v :: R := by
  induction A with
  | nil => rfl
  | cons a A ih => simp [ih]

theorem ins_ok (L0 : List Pt) (spl : List AV) (f : Nat) (cmp : Pt → Pt → Int) (hcmp : ∀ σ x y, ACalls Try.prog f [ptV x, ptV y] σ (Gives (.sc (.int .i64 (cmp x y))) σ) No)
    (hspl : ∀ x ∈ spl, x.cells.length = 4) (hl : L0.length ≤ 100000) (id : Nat) (S : AS) (h0 : S id = none) :
    ACalls Try.prog 89 [.msl id 0 L0.length (L0.length + spl.length), .sc (.int .i64 0), .sc (.int .i64 L0.length), fnV f] (S.set id (.cells 64 (ptC L0 spl)))
      (Gives (.tup []) (S.set id (.cells 64 (ptC (sortS cmp L0) spl)))) No := by
  obtain ⟨n, hn⟩ : ∃ n, L0.length = n := ⟨_, rfl⟩
  rw [hn] at hl ⊢
  simp only [fnV]
  refine ACalls.of_body Try.func89 rfl rfl (by simp [Try.ntmps89]) ?_
  repeat (first
    | (with_reducible apply AWp.seq)
    | (with_reducible apply AWp.block)
    | ((with_reducible apply AWp.fork); simp -implicitDefEqProofs [ci_lt, ci_le])
    | ((with_reducible apply AWp.region); simp -implicitDefEqProofs [ci_lt, ci_le])
    | (with_reducible refine And.intro (by first | omega | assumption | decide) ?_)
    | ((with_reducible show condK _ _ _); simp -implicitDefEqProofs [ci_lt, ci_le])
    | ((with_reducible show guardK _ _ _ _ _ _ _ _ _); simp -implicitDefEqProofs [ci_lt, ci_le])
    | (((with_reducible apply AWp.drawS (id := 4) (t := (Sch.step 0 (Sch.step 1 (Sch.step 2 (Sch.step 3 (Sch.step 4 (Sch.step 5 (Sch.step 6 (Sch.step 7 (Sch.step 9 (Sch.step 10 (Sch.step 11 (Sch.step 12 (Sch.read 8 (Sch.read 13 (Sch.alt 14 (Sch.step 15 (Sch.step 16 Sch.done)) Sch.none))))))))))))))))); (exact mixed); kernel_rfl; kernel_rfl; (repeat (with_reducible first | apply PanQ.then | apply PanQ.block | apply PanQ.body | apply PanQ.no))); simp -implicitDefEqProofs [ci_lt, ci_le])
    | (((with_reducible apply AWp.drawS (id := 6) (t := (Sch.step 0 (Sch.step 1 (Sch.step 2 (Sch.step 3 (Sch.step 4 (Sch.step 5 (Sch.step 6 (Sch.step 7 (Sch.step 8 (Sch.step 10 (Sch.step 11 (Sch.step 12 (Sch.read 9 (Sch.read 13 (Sch.step 14 (Sch.alt 15 (Sch.step 16 (Sch.alt 17 Sch.done Sch.none)) Sch.none)))))))))))))))))); (exact mixed); kernel_rfl; kernel_rfl; (repeat (with_reducible first | apply PanQ.then | apply PanQ.block | apply PanQ.body | apply PanQ.no))); simp -implicitDefEqProofs [ci_lt, ci_le])
    | ((with_reducible apply AWp.ret); try simp -implicitDefEqProofs [ci_lt, ci_le])
    | ((with_reducible apply AWp.skip); try simp -implicitDefEqProofs [ci_lt, ci_le])
    | ((with_reducible apply AWp.exit); try simp -implicitDefEqProofs [ci_lt, ci_le]))
  have h1 : (sortRev cmp (L0.take 1)).reverse ++ L0.drop 1 = L0 := by
    cases L0 with
    | nil => rfl
    | cons a r => simp [sortRev, insRev]
  refine AWp.loopA (α := (Nat)) (1) (fun i => n - i) (fun i => 1 ≤ i ∧ (i ≤ n ∨ i = 1)) [(0, ?_), (1, ?_), (2, ?_), (3, ?_)] (fun i => [(8, .sc (.int .i64 i))]) (fun i => S.set id (.cells 64 (ptC ((sortRev cmp (L0.take i)).reverse ++ L0.drop i) spl))) ?_ ?_ ?_ ?_
  rotate_left 4
  · (try dsimp only); (simp only [List.cons_append, List.nil_append]; repeat (first | exact FrWk.nil | refine FrWk.cons (by first | (simp -implicitDefEqProofs [ci_lt, ci_le]; done) | exact Wk.of (by (try simp -implicitDefEqProofs [ci_lt, ci_le]) <;> rfl)) ?_))
  · (try dsimp only); (rw [h1]; exact AS.le_refl _)
  · exact ⟨by omega, by omega⟩
  intro i hx_
  try dsimp only at hx_ ⊢
  obtain ⟨hi1, hi⟩ := hx_
  simp only [List.cons_append, List.nil_append]
  by_cases hlt : i < n
  · have wi_i : IntKind.i64.wrap ((i : Int) + 1) = ((i + 1 : Nat) : Int) := ci_wi (by omega)
    repeat (first
      | (with_reducible apply AWp.seq)
      | (with_reducible apply AWp.block)
      | ((with_reducible apply AWp.fork); simp -implicitDefEqProofs [hlt, ci_lt, ci_le, wi_i])
      | ((with_reducible apply AWp.region); simp -implicitDefEqProofs [hlt, ci_lt, ci_le, wi_i])
      | (with_reducible refine And.intro (by first | omega | assumption | decide) ?_)
      | ((with_reducible show condK _ _ _); simp -implicitDefEqProofs [hlt, ci_lt, ci_le, wi_i])
      | ((with_reducible show guardK _ _ _ _ _ _ _ _ _); simp -implicitDefEqProofs [hlt, ci_lt, ci_le, wi_i])
      | (((with_reducible apply AWp.drawS (id := 4) (t := (Sch.step 0 (Sch.step 1 (Sch.step 2 (Sch.step 3 (Sch.step 4 (Sch.step 5 (Sch.step 6 (Sch.step 7 (Sch.step 9 (Sch.step 10 (Sch.step 11 (Sch.step 12 (Sch.read 8 (Sch.read 13 (Sch.alt 14 (Sch.step 15 (Sch.step 16 Sch.done)) Sch.none))))))))))))))))); (exact mixed); kernel_rfl; kernel_rfl; (repeat (with_reducible first | apply PanQ.then | apply PanQ.block | apply PanQ.body | apply PanQ.no))); simp -implicitDefEqProofs [hlt, ci_lt, ci_le, wi_i])
      | (((with_reducible apply AWp.drawS (id := 6) (t := (Sch.step 0 (Sch.step 1 (Sch.step 2 (Sch.step 3 (Sch.step 4 (Sch.step 5 (Sch.step 6 (Sch.step 7 (Sch.step 8 (Sch.step 10 (Sch.step 11 (Sch.step 12 (Sch.read 9 (Sch.read 13 (Sch.step 14 (Sch.alt 15 (Sch.step 16 (Sch.alt 17 Sch.done Sch.none)) Sch.none)))))))))))))))))); (exact mixed); kernel_rfl; kernel_rfl; (repeat (with_reducible first | apply PanQ.then | apply PanQ.block | apply PanQ.body | apply PanQ.no))); simp -implicitDefEqProofs [hlt, ci_lt, ci_le, wi_i])
      | ((with_reducible apply AWp.ret); try simp -implicitDefEqProofs [hlt, ci_lt, ci_le, wi_i])
      | ((with_reducible apply AWp.skip); try simp -implicitDefEqProofs [hlt, ci_lt, ci_le, wi_i])
      | ((with_reducible apply AWp.exit); try simp -implicitDefEqProofs [hlt, ci_lt, ci_le, wi_i]))
    have hsl : (sortRev cmp (L0.take i)).length = i := by rw [sortRev_len]; simp; omega
    have hil : i < L0.length := by omega
    refine AWp.loopA (α := (List Pt) × (List Pt)) ((sortRev cmp (L0.take i), [])) (fun ⟨A, B⟩ => A.length) (fun ⟨A, B⟩ => A.length ≤ i ∧ A.length + B.length = i ∧ insRev cmp (L0[i]'hil) (sortRev cmp (L0.take i)) = B.reverse ++ insRev cmp (L0[i]'hil) A) [(0, ?_), (1, ?_), (2, ?_), (3, ?_), (8, ?_), (12, ?_), (13, ?_), (14, ?_), (17, ?_)] (fun ⟨A, B⟩ => [(9, .sc (.int .i64 A.length))]) (fun ⟨A, B⟩ => S.set id (.cells 64 (ptC (A.reverse ++ (L0[i]'hil) :: (B ++ L0.drop (i + 1))) spl))) ?_ ?_ ?_ ?_
    rotate_left 9
    · (try dsimp only); (simp only [List.cons_append, List.nil_append]; repeat (first | exact FrWk.nil | refine FrWk.cons (by first | (simp -implicitDefEqProofs [ci_lt, ci_le, wi_i, hsl]; done) | exact Wk.of (by (try simp -implicitDefEqProofs [ci_lt, ci_le, wi_i, hsl]) <;> rfl)) ?_))
    · (try dsimp only); (rw [List.nil_append, ← List.drop_eq_getElem_cons]; exact AS.le_refl _)
    · exact ⟨by omega, by simp [hsl], by simp⟩
    intro x_ hx_
    obtain ⟨A, B⟩ := x_
    try dsimp only at hx_ ⊢
    obtain ⟨hA, hAB, hX⟩ := hx_
    simp only [List.cons_append, List.nil_append]
    have hts : L0.take (i + 1) = L0.take i ++ [L0[i]'hil] := List.take_succ_eq_append_getElem hil
    have hsn : sortRev cmp (L0.take (i + 1)) = insRev cmp (L0[i]'hil) (sortRev cmp (L0.take i)) := by rw [hts, sortRev_snoc]
    have hlen : (A.reverse ++ (L0[i]'hil) :: (B ++ L0.drop (i + 1))).length = n := by simp; omega
    generalize L0[i]'hil = x at *
    cases A with
    | nil =>
      repeat (first
        | (with_reducible apply AWp.seq)
        | (with_reducible apply AWp.block)
        | ((with_reducible apply AWp.fork); simp -implicitDefEqProofs [ci_lt, ci_le, wi_i, hsl])
        | ((with_reducible apply AWp.region); simp -implicitDefEqProofs [ci_lt, ci_le, wi_i, hsl])
        | (with_reducible refine And.intro (by first | omega | assumption | decide) ?_)
        | ((with_reducible show condK _ _ _); simp -implicitDefEqProofs [ci_lt, ci_le, wi_i, hsl])
        | ((with_reducible show guardK _ _ _ _ _ _ _ _ _); simp -implicitDefEqProofs [ci_lt, ci_le, wi_i, hsl])
        | (((with_reducible apply AWp.drawS (id := 4) (t := (Sch.step 0 (Sch.step 1 (Sch.step 2 (Sch.step 3 (Sch.step 4 (Sch.step 5 (Sch.step 6 (Sch.step 7 (Sch.step 9 (Sch.step 10 (Sch.step 11 (Sch.step 12 (Sch.read 8 (Sch.read 13 (Sch.alt 14 (Sch.step 15 (Sch.step 16 Sch.done)) Sch.none))))))))))))))))); (exact mixed); kernel_rfl; kernel_rfl; (repeat (with_reducible first | apply PanQ.then | apply PanQ.block | apply PanQ.body | apply PanQ.no))); simp -implicitDefEqProofs [ci_lt, ci_le, wi_i, hsl])
        | (((with_reducible apply AWp.drawS (id := 6) (t := (Sch.step 0 (Sch.step 1 (Sch.step 2 (Sch.step 3 (Sch.step 4 (Sch.step 5 (Sch.step 6 (Sch.step 7 (Sch.step 8 (Sch.step 10 (Sch.step 11 (Sch.step 12 (Sch.read 9 (Sch.read 13 (Sch.step 14 (Sch.alt 15 (Sch.step 16 (Sch.alt 17 Sch.done Sch.none)) Sch.none)))))))))))))))))); (exact mixed); kernel_rfl; kernel_rfl; (repeat (with_reducible first | apply PanQ.then | apply PanQ.block | apply PanQ.body | apply PanQ.no))); simp -implicitDefEqProofs [ci_lt, ci_le, wi_i, hsl])
        | ((with_reducible apply AWp.ret); try simp -implicitDefEqProofs [ci_lt, ci_le, wi_i, hsl])
        | ((with_reducible apply AWp.skip); try simp -implicitDefEqProofs [ci_lt, ci_le, wi_i, hsl])
        | ((with_reducible apply AWp.exit); try simp -implicitDefEqProofs [ci_lt, ci_le, wi_i, hsl]))
      refine stepA.mk (i + 1) (by (try dsimp only); omega) (by (try dsimp only); (simp only [List.cons_append, List.nil_append]; repeat (first | exact FrWk.nil | refine FrWk.cons (by first | (simp -implicitDefEqProofs [ci_lt, ci_le, wi_i, hsl]; done) | exact Wk.of (by (try simp -implicitDefEqProofs [ci_lt, ci_le, wi_i, hsl]) <;> rfl)) ?_))) (by (try dsimp only); (rw [hsn, hX, insRev]; simp [List.append_assoc])) ?_
      try dsimp only
      exact ⟨by omega, by omega⟩
    | cons y A =>
      have e1 : (y :: A).reverse ++ x :: (B ++ L0.drop (i + 1)) = A.reverse ++ y :: x :: (B ++ L0.drop (i + 1)) := by simp
      rw [e1] at hlen ⊢
      have hAl : (y :: A).length = A.length + 1 := rfl
      have hAr : A.reverse.length = A.length := by simp
      have hlt2 : A.length + 1 < (A.reverse ++ y :: x :: (B ++ L0.drop (i + 1))).length := by rw [hlen]; omega
      have m1 := ptC_at hspl hlt2
      have m2 := ptC_at hspl (show A.length < (A.reverse ++ y :: x :: (B ++ L0.drop (i + 1))).length by omega)
      have n1 := ptC_set hspl hlt2 y
      have hL := ptC_len (L := A.reverse ++ y :: x :: (B ++ L0.drop (i + 1))) hspl
      rw [hlen] at hL
      have s1 : (A.reverse ++ y :: x :: (B ++ L0.drop (i + 1))).set (A.length + 1) y = A.reverse ++ y :: y :: (B ++ L0.drop (i + 1)) := by
        have := set1 A.reverse y x y (B ++ L0.drop (i + 1)); rwa [hAr] at this
      have s2 : (A.reverse ++ y :: y :: (B ++ L0.drop (i + 1))).set A.length x = A.reverse ++ x :: y :: (B ++ L0.drop (i + 1)) := by
        have := set0 A.reverse y x (y :: (B ++ L0.drop (i + 1))); rwa [hAr] at this
      have n2 := ptC_set hspl (show A.length < (A.reverse ++ y :: y :: (B ++ L0.drop (i + 1))).length by simp) x
      have g1 : (A.reverse ++ y :: x :: (B ++ L0.drop (i + 1)))[A.length + 1]'hlt2 = x := by
        have := get1 (A := A.reverse) (y := y) (x := x) (R := B ++ L0.drop (i + 1)) (by rw [hAr]; exact hlt2)
        simpa only [hAr] using this
      have g2 : (A.reverse ++ y :: x :: (B ++ L0.drop (i + 1)))[A.length]'(by omega) = y := by
        have := get0 (A := A.reverse) (y := y) (R := x :: (B ++ L0.drop (i + 1))) (by rw [hAr]; omega)
        simpa only [hAr] using this
      rw [g1] at m1
      rw [g2] at m2
      rw [s1] at n1
      rw [s2] at n2
      have hL2 := ptC_len (L := A.reverse ++ y :: y :: (B ++ L0.drop (i + 1))) hspl
      have hln2 : (A.reverse ++ y :: y :: (B ++ L0.drop (i + 1))).length = n := by rw [← hlen]; simp
      rw [hln2] at hL2
      have e3 : A.reverse ++ x :: y :: (B ++ L0.drop (i + 1)) = A.reverse ++ x :: ((y :: B) ++ L0.drop (i + 1)) := by simp
      rw [e3] at n2
      generalize hCL : ptC (A.reverse ++ y :: x :: (B ++ L0.drop (i + 1))) spl = CL at *
      generalize ptC (A.reverse ++ y :: y :: (B ++ L0.drop (i + 1))) spl = CL2 at *
      have wA : IntKind.i64.wrap (A.length : Int) = A.length := in_i64 (by omega) (by omega)
      have b1 : A.length + 1 < n := by omega
      have b2 : A.length < n := by omega
      have b3 : (A.length + 1) * 4 + 4 ≤ CL.length := by omega
      have b4 : A.length * 4 + 4 ≤ CL.length := by omega
      have b5 : (A.length + 1) * 4 + 4 ≤ CL2.length := by omega
      have b6 : A.length * 4 + 4 ≤ CL2.length := by omega
      simp only [ptV, cells_agg, List.cons_append, List.nil_append] at m1 m2 n1 n2
      by_cases hc : cmp x y < 0
      · repeat (first
          | (with_reducible apply AWp.seq)
          | (with_reducible apply AWp.block)
          | ((with_reducible apply AWp.fork); simp -implicitDefEqProofs [hc, wA, m1, m2, n1, n2, hAl, b1, b2, b3, b4, b5, b6, ci_lt, ci_le, wi_i, hsl])
          | ((with_reducible apply AWp.region); simp -implicitDefEqProofs [hc, wA, m1, m2, n1, n2, hAl, b1, b2, b3, b4, b5, b6, ci_lt, ci_le, wi_i, hsl])
          | (with_reducible refine And.intro (by first | omega | assumption | decide) ?_)
          | ((with_reducible show condK _ _ _); simp -implicitDefEqProofs [hc, wA, m1, m2, n1, n2, hAl, b1, b2, b3, b4, b5, b6, ci_lt, ci_le, wi_i, hsl])
          | ((with_reducible show guardK _ _ _ _ _ _ _ _ _); simp -implicitDefEqProofs [hc, wA, m1, m2, n1, n2, hAl, b1, b2, b3, b4, b5, b6, ci_lt, ci_le, wi_i, hsl])
          | (((with_reducible apply AWp.drawS (id := 4) (t := (Sch.step 0 (Sch.step 1 (Sch.step 2 (Sch.step 3 (Sch.step 4 (Sch.step 5 (Sch.step 6 (Sch.step 7 (Sch.step 9 (Sch.step 10 (Sch.step 11 (Sch.step 12 (Sch.read 8 (Sch.read 13 (Sch.alt 14 (Sch.step 15 (Sch.step 16 Sch.done)) Sch.none))))))))))))))))); (exact mixed); kernel_rfl; kernel_rfl; (repeat (with_reducible first | apply PanQ.then | apply PanQ.block | apply PanQ.body | apply PanQ.no))); simp -implicitDefEqProofs [hc, wA, m1, m2, n1, n2, hAl, b1, b2, b3, b4, b5, b6, ci_lt, ci_le, wi_i, hsl])
          | (((with_reducible apply AWp.drawS (id := 6) (t := (Sch.step 0 (Sch.step 1 (Sch.step 2 (Sch.step 3 (Sch.step 4 (Sch.step 5 (Sch.step 6 (Sch.step 7 (Sch.step 8 (Sch.step 10 (Sch.step 11 (Sch.step 12 (Sch.read 9 (Sch.read 13 (Sch.step 14 (Sch.alt 15 (Sch.step 16 (Sch.alt 17 Sch.done Sch.none)) Sch.none)))))))))))))))))); (exact mixed); kernel_rfl; kernel_rfl; (repeat (with_reducible first | apply PanQ.then | apply PanQ.block | apply PanQ.body | apply PanQ.no))); simp -implicitDefEqProofs [hc, wA, m1, m2, n1, n2, hAl, b1, b2, b3, b4, b5, b6, ci_lt, ci_le, wi_i, hsl])
          | ((with_reducible apply aCall.id); first
              | ((apply aCall.gives (hcmp _ _ _)); simp -implicitDefEqProofs [hc, wA, m1, m2, n1, n2, hAl, b1, b2, b3, b4, b5, b6, ci_lt, ci_le, wi_i, hsl]))
          | ((with_reducible apply AWp.ret); try simp -implicitDefEqProofs [hc, wA, m1, m2, n1, n2, hAl, b1, b2, b3, b4, b5, b6, ci_lt, ci_le, wi_i, hsl])
          | ((with_reducible apply AWp.skip); try simp -implicitDefEqProofs [hc, wA, m1, m2, n1, n2, hAl, b1, b2, b3, b4, b5, b6, ci_lt, ci_le, wi_i, hsl])
          | ((with_reducible apply AWp.exit); try simp -implicitDefEqProofs [hc, wA, m1, m2, n1, n2, hAl, b1, b2, b3, b4, b5, b6, ci_lt, ci_le, wi_i, hsl]))
        refine stepA.mk ((A, y :: B)) (by (try dsimp only); omega) (by (try dsimp only); (simp only [List.cons_append, List.nil_append]; repeat (first | exact FrWk.nil | refine FrWk.cons (by first | (simp -implicitDefEqProofs [ci_lt, ci_le, wi_i, hsl]; done) | exact Wk.of (by (try simp -implicitDefEqProofs [ci_lt, ci_le, wi_i, hsl]) <;> rfl)) ?_))) (by (try dsimp only); (first | exact AS.le_refl _ | assumption | (repeat (first | exact AS.le_refl _ | assumption | refine le_new (by simp [*]) ?_)))) ?_
        try dsimp only
        refine ⟨by simp at hA; omega, by simp at hAB ⊢; omega, ?_⟩
        rw [hX, insRev, if_pos hc]; simp
      · repeat (first
          | (with_reducible apply AWp.seq)
          | (with_reducible apply AWp.block)
          | ((with_reducible apply AWp.fork); simp -implicitDefEqProofs [hc, wA, m1, m2, hAl, b1, b2, b3, b4, ci_lt, ci_le, wi_i, hsl])
          | ((with_reducible apply AWp.region); simp -implicitDefEqProofs [hc, wA, m1, m2, hAl, b1, b2, b3, b4, ci_lt, ci_le, wi_i, hsl])
          | (with_reducible refine And.intro (by first | omega | assumption | decide) ?_)
          | ((with_reducible show condK _ _ _); simp -implicitDefEqProofs [hc, wA, m1, m2, hAl, b1, b2, b3, b4, ci_lt, ci_le, wi_i, hsl])
          | ((with_reducible show guardK _ _ _ _ _ _ _ _ _); simp -implicitDefEqProofs [hc, wA, m1, m2, hAl, b1, b2, b3, b4, ci_lt, ci_le, wi_i, hsl])
          | (((with_reducible apply AWp.drawS (id := 4) (t := (Sch.step 0 (Sch.step 1 (Sch.step 2 (Sch.step 3 (Sch.step 4 (Sch.step 5 (Sch.step 6 (Sch.step 7 (Sch.step 9 (Sch.step 10 (Sch.step 11 (Sch.step 12 (Sch.read 8 (Sch.read 13 (Sch.alt 14 (Sch.step 15 (Sch.step 16 Sch.done)) Sch.none))))))))))))))))); (exact mixed); kernel_rfl; kernel_rfl; (repeat (with_reducible first | apply PanQ.then | apply PanQ.block | apply PanQ.body | apply PanQ.no))); simp -implicitDefEqProofs [hc, wA, m1, m2, hAl, b1, b2, b3, b4, ci_lt, ci_le, wi_i, hsl])
          | (((with_reducible apply AWp.drawS (id := 6) (t := (Sch.step 0 (Sch.step 1 (Sch.step 2 (Sch.step 3 (Sch.step 4 (Sch.step 5 (Sch.step 6 (Sch.step 7 (Sch.step 8 (Sch.step 10 (Sch.step 11 (Sch.step 12 (Sch.read 9 (Sch.read 13 (Sch.step 14 (Sch.alt 15 (Sch.step 16 (Sch.alt 17 Sch.done Sch.none)) Sch.none)))))))))))))))))); (exact mixed); kernel_rfl; kernel_rfl; (repeat (with_reducible first | apply PanQ.then | apply PanQ.block | apply PanQ.body | apply PanQ.no))); simp -implicitDefEqProofs [hc, wA, m1, m2, hAl, b1, b2, b3, b4, ci_lt, ci_le, wi_i, hsl])
          | ((with_reducible apply aCall.id); first
              | ((apply aCall.gives (hcmp _ _ _)); simp -implicitDefEqProofs [hc, wA, m1, m2, hAl, b1, b2, b3, b4, ci_lt, ci_le, wi_i, hsl]))
          | ((with_reducible apply AWp.ret); try simp -implicitDefEqProofs [hc, wA, m1, m2, hAl, b1, b2, b3, b4, ci_lt, ci_le, wi_i, hsl])
          | ((with_reducible apply AWp.skip); try simp -implicitDefEqProofs [hc, wA, m1, m2, hAl, b1, b2, b3, b4, ci_lt, ci_le, wi_i, hsl])
          | ((with_reducible apply AWp.exit); try simp -implicitDefEqProofs [hc, wA, m1, m2, hAl, b1, b2, b3, b4, ci_lt, ci_le, wi_i, hsl]))
        refine stepA.mk (i + 1) (by (try dsimp only); omega) (by (try dsimp only); (simp only [List.cons_append, List.nil_append]; repeat (first | exact FrWk.nil | refine FrWk.cons (by first | (simp -implicitDefEqProofs [ci_lt, ci_le, wi_i, hsl]; done) | exact Wk.of (by (try simp -implicitDefEqProofs [ci_lt, ci_le, wi_i, hsl]) <;> rfl)) ?_))) (by (try dsimp only); (rw [hsn, hX, insRev, if_neg hc, ← hCL]; simp [List.append_assoc])) ?_
        try dsimp only
        exact ⟨by omega, by omega⟩
  · repeat (first
      | (with_reducible apply AWp.seq)
      | (with_reducible apply AWp.block)
      | ((with_reducible apply AWp.fork); simp -implicitDefEqProofs [hlt, ci_lt, ci_le])
      | ((with_reducible apply AWp.region); simp -implicitDefEqProofs [hlt, ci_lt, ci_le])
      | (with_reducible refine And.intro (by first | omega | assumption | decide) ?_)
      | ((with_reducible show condK _ _ _); simp -implicitDefEqProofs [hlt, ci_lt, ci_le])
      | ((with_reducible show guardK _ _ _ _ _ _ _ _ _); simp -implicitDefEqProofs [hlt, ci_lt, ci_le])
      | (((with_reducible apply AWp.drawS (id := 4) (t := (Sch.step 0 (Sch.step 1 (Sch.step 2 (Sch.step 3 (Sch.step 4 (Sch.step 5 (Sch.step 6 (Sch.step 7 (Sch.step 9 (Sch.step 10 (Sch.step 11 (Sch.step 12 (Sch.read 8 (Sch.read 13 (Sch.alt 14 (Sch.step 15 (Sch.step 16 Sch.done)) Sch.none))))))))))))))))); (exact mixed); kernel_rfl; kernel_rfl; (repeat (with_reducible first | apply PanQ.then | apply PanQ.block | apply PanQ.body | apply PanQ.no))); simp -implicitDefEqProofs [hlt, ci_lt, ci_le])
      | (((with_reducible apply AWp.drawS (id := 6) (t := (Sch.step 0 (Sch.step 1 (Sch.step 2 (Sch.step 3 (Sch.step 4 (Sch.step 5 (Sch.step 6 (Sch.step 7 (Sch.step 8 (Sch.step 10 (Sch.step 11 (Sch.step 12 (Sch.read 9 (Sch.read 13 (Sch.step 14 (Sch.alt 15 (Sch.step 16 (Sch.alt 17 Sch.done Sch.none)) Sch.none)))))))))))))))))); (exact mixed); kernel_rfl; kernel_rfl; (repeat (with_reducible first | apply PanQ.then | apply PanQ.block | apply PanQ.body | apply PanQ.no))); simp -implicitDefEqProofs [hlt, ci_lt, ci_le])
      | ((with_reducible apply AWp.ret); try simp -implicitDefEqProofs [hlt, ci_lt, ci_le])
      | ((with_reducible apply AWp.skip); try simp -implicitDefEqProofs [hlt, ci_lt, ci_le])
      | ((with_reducible apply AWp.exit); try simp -implicitDefEqProofs [hlt, ci_lt, ci_le]))
    have hL : (sortRev cmp (L0.take i)).reverse ++ L0.drop i = sortS cmp L0 := by
      rw [List.take_of_length_le (by omega), List.drop_eq_nil_of_le (by omega)]; simp [sortS]
    rw [hL]
    exact AS.le_refl _

theorem stable_ok (L0 : List Pt) (spl : List AV) (f : Nat) (cmp : Pt → Pt → Int) (hcmp : ∀ σ x y, ACalls Try.prog f [ptV x, ptV y] σ (Gives (.sc (.int .i64 (cmp x y))) σ) No)
    (hspl : ∀ x ∈ spl, x.cells.length = 4) (hl : L0.length < 20) (id : Nat) (S : AS) (h0 : S id = none) :
    ACalls Try.prog 88 [.msl id 0 L0.length (L0.length + spl.length), .sc (.int .i64 L0.length), fnV f] (S.set id (.cells 64 (ptC L0 spl)))
      (Gives (.tup []) (S.set id (.cells 64 (ptC (sortS cmp L0) spl)))) No := by
  have hi := ins_ok L0 spl f cmp hcmp hspl (by omega) id S h0
  obtain ⟨n, hn⟩ : ∃ n, L0.length = n := ⟨_, rfl⟩
  rw [hn] at hl hi ⊢
  simp only [fnV] at hi ⊢
  have h20 : (20 ≤ (n : Int)) = False := by simp; omega
  have h20' : (20 < (n : Int)) = False := by simp; omega
  refine ACalls.of_body Try.func88 rfl rfl (by simp [Try.ntmps88]) ?_
  repeat (first
    | (with_reducible apply AWp.seq)
    | (with_reducible apply AWp.block)
    | ((with_reducible apply AWp.fork); simp -implicitDefEqProofs)
    | ((with_reducible apply AWp.region); simp -implicitDefEqProofs)
    | (with_reducible refine And.intro (by first | omega | assumption | decide) ?_)
    | ((with_reducible apply AWp.ret); try simp -implicitDefEqProofs)
    | ((with_reducible apply AWp.skip); try simp -implicitDefEqProofs)
    | ((with_reducible apply AWp.exit); try simp -implicitDefEqProofs))
  refine AWp.loopA (α := (Nat)) (0) (fun x => x) (fun x => True) [(0, ?_), (1, ?_), (2, ?_), (6, ?_)] (fun x => [(7, .sc (.int .i64 0)), (8, .sc (.int .i64 20))]) (fun x => S.set id (.cells 64 (ptC L0 spl))) ?_ ?_ ?_ ?_
  rotate_left 4
  · (try dsimp only); (simp only [List.cons_append, List.nil_append]; repeat (first | exact FrWk.nil | refine FrWk.cons (by first | (simp -implicitDefEqProofs; done) | exact Wk.of (by (try simp -implicitDefEqProofs) <;> rfl)) ?_))
  · (try dsimp only); (first | exact AS.le_refl _ | assumption | (repeat (first | exact AS.le_refl _ | assumption | refine le_new (by simp [*]) ?_)))
  · (try dsimp only) <;> first | exact trivial | exact ⟨by omega, rfl⟩ | omega | (simp; done) | exact ⟨by omega, by simp⟩ | exact ⟨by omega, by simp, rfl⟩
  intro x hx_
  try dsimp only at hx_ ⊢
  obtain _ := hx_
  simp only [List.cons_append, List.nil_append]
  repeat (first
    | (with_reducible apply AWp.seq)
    | (with_reducible apply AWp.block)
    | ((with_reducible apply AWp.fork); simp -implicitDefEqProofs [h20])
    | ((with_reducible apply AWp.region); simp -implicitDefEqProofs [h20])
    | (with_reducible refine And.intro (by first | omega | assumption | decide) ?_)
    | ((with_reducible show condK _ _ _); simp -implicitDefEqProofs [h20])
    | ((with_reducible show guardK _ _ _ _ _ _ _ _ _); simp -implicitDefEqProofs [h20])
    | ((with_reducible apply aCall.id); first
        | ((apply aCall.gives (hi)); simp -implicitDefEqProofs [h20]))
    | ((with_reducible apply AWp.ret); try simp -implicitDefEqProofs [h20])
    | ((with_reducible apply AWp.skip); try simp -implicitDefEqProofs [h20])
    | ((with_reducible apply AWp.exit); try simp -implicitDefEqProofs [h20]))
  refine AWp.loopA (α := (Nat)) (0) (fun x => x) (fun x => True) [(0, ?_), (1, ?_), (2, ?_)] (fun x => [(6, .sc (.int .i64 20))]) (fun x => S.set id (.cells 64 (ptC (sortS cmp L0) spl))) ?_ ?_ ?_ ?_
  rotate_left 3
  · (try dsimp only); (simp only [List.cons_append, List.nil_append]; repeat (first | exact FrWk.nil | refine FrWk.cons (by first | (simp -implicitDefEqProofs; done) | exact Wk.of (by (try simp -implicitDefEqProofs) <;> rfl)) ?_))
  · (try dsimp only); (first | exact AS.le_refl _ | assumption | (repeat (first | exact AS.le_refl _ | assumption | refine le_new (by simp [*]) ?_)))
  · (try dsimp only) <;> first | exact trivial | exact ⟨by omega, rfl⟩ | omega | (simp; done) | exact ⟨by omega, by simp⟩ | exact ⟨by omega, by simp, rfl⟩
  intro x hx_
  try dsimp only at hx_ ⊢
  obtain _ := hx_
  simp only [List.cons_append, List.nil_append]
  repeat (first
    | (with_reducible apply AWp.seq)
    | (with_reducible apply AWp.block)
    | ((with_reducible apply AWp.fork); simp -implicitDefEqProofs [h20'])
    | ((with_reducible apply AWp.region); simp -implicitDefEqProofs [h20'])
    | (with_reducible refine And.intro (by first | omega | assumption | decide) ?_)
    | ((with_reducible show condK _ _ _); simp -implicitDefEqProofs [h20'])
    | ((with_reducible show guardK _ _ _ _ _ _ _ _ _); simp -implicitDefEqProofs [h20'])
    | ((with_reducible apply AWp.ret); try simp -implicitDefEqProofs [h20'])
    | ((with_reducible apply AWp.skip); try simp -implicitDefEqProofs [h20'])
    | ((with_reducible apply AWp.exit); try simp -implicitDefEqProofs [h20']))

theorem ins_nil (f : Nat) (S : AS) :
    ACalls Try.prog 89 [.nilS, .sc (.int .i64 0), .sc (.int .i64 0), fnV f] S (Gives (.tup []) S) No := by
  simp only [fnV]
  refine ACalls.of_body Try.func89 rfl rfl (by simp [Try.ntmps89]) ?_
  repeat (first
    | (with_reducible apply AWp.seq)
    | (with_reducible apply AWp.block)
    | ((with_reducible apply AWp.fork); simp -implicitDefEqProofs)
    | ((with_reducible apply AWp.region); simp -implicitDefEqProofs)
    | (with_reducible refine And.intro (by first | omega | assumption | decide) ?_)
    | (((with_reducible apply AWp.drawS (id := 4) (t := (Sch.step 0 (Sch.step 1 (Sch.step 2 (Sch.step 3 (Sch.step 4 (Sch.step 5 (Sch.step 6 (Sch.step 7 (Sch.step 9 (Sch.step 10 (Sch.step 11 (Sch.step 12 (Sch.read 8 (Sch.read 13 (Sch.alt 14 (Sch.step 15 (Sch.step 16 Sch.done)) Sch.none))))))))))))))))); (exact mixed); kernel_rfl; kernel_rfl; (repeat (with_reducible first | apply PanQ.then | apply PanQ.block | apply PanQ.body | apply PanQ.no))); simp -implicitDefEqProofs)
    | (((with_reducible apply AWp.drawS (id := 6) (t := (Sch.step 0 (Sch.step 1 (Sch.step 2 (Sch.step 3 (Sch.step 4 (Sch.step 5 (Sch.step 6 (Sch.step 7 (Sch.step 8 (Sch.step 10 (Sch.step 11 (Sch.step 12 (Sch.read 9 (Sch.read 13 (Sch.step 14 (Sch.alt 15 (Sch.step 16 (Sch.alt 17 Sch.done Sch.none)) Sch.none)))))))))))))))))); (exact mixed); kernel_rfl; kernel_rfl; (repeat (with_reducible first | apply PanQ.then | apply PanQ.block | apply PanQ.body | apply PanQ.no))); simp -implicitDefEqProofs)
    | ((with_reducible apply AWp.ret); try simp -implicitDefEqProofs)
    | ((with_reducible apply AWp.skip); try simp -implicitDefEqProofs)
    | ((with_reducible apply AWp.exit); try simp -implicitDefEqProofs))
  refine AWp.loopA (α := (Nat)) (0) (fun x => x) (fun x => True) [(0, ?_), (1, ?_), (2, ?_), (3, ?_)] (fun x => [(8, .sc (.int .i64 1))]) (fun x => S) ?_ ?_ ?_ ?_
  rotate_left 4
  · (try dsimp only); (simp only [List.cons_append, List.nil_append]; repeat (first | exact FrWk.nil | refine FrWk.cons (by first | (simp -implicitDefEqProofs; done) | exact Wk.of (by (try simp -implicitDefEqProofs) <;> rfl)) ?_))
  · (try dsimp only); (first | exact AS.le_refl _ | assumption | (repeat (first | exact AS.le_refl _ | assumption | refine le_new (by simp [*]) ?_)))
  · (try dsimp only) <;> first | exact trivial | exact ⟨by omega, rfl⟩ | omega | (simp; done) | exact ⟨by omega, by simp⟩ | exact ⟨by omega, by simp, rfl⟩
  intro x hx_
  try dsimp only at hx_ ⊢
  obtain _ := hx_
  simp only [List.cons_append, List.nil_append]
  repeat (first
    | (with_reducible apply AWp.seq)
    | (with_reducible apply AWp.block)
    | ((with_reducible apply AWp.fork); simp -implicitDefEqProofs)
    | ((with_reducible apply AWp.region); simp -implicitDefEqProofs)
    | (with_reducible refine And.intro (by first | omega | assumption | decide) ?_)
    | (((with_reducible apply AWp.drawS (id := 4) (t := (Sch.step 0 (Sch.step 1 (Sch.step 2 (Sch.step 3 (Sch.step 4 (Sch.step 5 (Sch.step 6 (Sch.step 7 (Sch.step 9 (Sch.step 10 (Sch.step 11 (Sch.step 12 (Sch.read 8 (Sch.read 13 (Sch.alt 14 (Sch.step 15 (Sch.step 16 Sch.done)) Sch.none))))))))))))))))); (exact mixed); kernel_rfl; kernel_rfl; (repeat (with_reducible first | apply PanQ.then | apply PanQ.block | apply PanQ.body | apply PanQ.no))); simp -implicitDefEqProofs)
    | (((with_reducible apply AWp.drawS (id := 6) (t := (Sch.step 0 (Sch.step 1 (Sch.step 2 (Sch.step 3 (Sch.step 4 (Sch.step 5 (Sch.step 6 (Sch.step 7 (Sch.step 8 (Sch.step 10 (Sch.step 11 (Sch.step 12 (Sch.read 9 (Sch.read 13 (Sch.step 14 (Sch.alt 15 (Sch.step 16 (Sch.alt 17 Sch.done Sch.none)) Sch.none)))))))))))))))))); (exact mixed); kernel_rfl; kernel_rfl; (repeat (with_reducible first | apply PanQ.then | apply PanQ.block | apply PanQ.body | apply PanQ.no))); simp -implicitDefEqProofs)
    | ((with_reducible apply AWp.ret); try simp -implicitDefEqProofs)
    | ((with_reducible apply AWp.skip); try simp -implicitDefEqProofs)
    | ((with_reducible apply AWp.exit); try simp -implicitDefEqProofs))
theorem stable_nil (f : Nat) (S : AS) :
    ACalls Try.prog 88 [.nilS, .sc (.int .i64 0), fnV f] S (Gives (.tup []) S) No := by
  have hi := ins_nil f S
  simp only [fnV] at hi ⊢
  refine ACalls.of_body Try.func88 rfl rfl (by simp [Try.ntmps88]) ?_
  repeat (first
    | (with_reducible apply AWp.seq)
    | (with_reducible apply AWp.block)
    | ((with_reducible apply AWp.fork); simp -implicitDefEqProofs)
    | ((with_reducible apply AWp.region); simp -implicitDefEqProofs)
    | (with_reducible refine And.intro (by first | omega | assumption | decide) ?_)
    | ((with_reducible apply AWp.ret); try simp -implicitDefEqProofs)
    | ((with_reducible apply AWp.skip); try simp -implicitDefEqProofs)
    | ((with_reducible apply AWp.exit); try simp -implicitDefEqProofs))
  refine AWp.loopA (α := (Nat)) (0) (fun x => x) (fun x => True) [(0, ?_), (1, ?_), (2, ?_), (6, ?_)] (fun x => [(7, .sc (.int .i64 0)), (8, .sc (.int .i64 20))]) (fun x => S) ?_ ?_ ?_ ?_
  rotate_left 4
  · (try dsimp only); (simp only [List.cons_append, List.nil_append]; repeat (first | exact FrWk.nil | refine FrWk.cons (by first | (simp -implicitDefEqProofs; done) | exact Wk.of (by (try simp -implicitDefEqProofs) <;> rfl)) ?_))
  · (try dsimp only); (first | exact AS.le_refl _ | assumption | (repeat (first | exact AS.le_refl _ | assumption | refine le_new (by simp [*]) ?_)))
  · (try dsimp only) <;> first | exact trivial | exact ⟨by omega, rfl⟩ | omega | (simp; done) | exact ⟨by omega, by simp⟩ | exact ⟨by omega, by simp, rfl⟩
  intro x hx_
  try dsimp only at hx_ ⊢
  obtain _ := hx_
  simp only [List.cons_append, List.nil_append]
  repeat (first
    | (with_reducible apply AWp.seq)
    | (with_reducible apply AWp.block)
    | ((with_reducible apply AWp.fork); simp -implicitDefEqProofs)
    | ((with_reducible apply AWp.region); simp -implicitDefEqProofs)
    | (with_reducible refine And.intro (by first | omega | assumption | decide) ?_)
    | ((with_reducible apply aCall.id); first
        | ((apply aCall.gives (hi)); simp -implicitDefEqProofs))
    | ((with_reducible apply AWp.ret); try simp -implicitDefEqProofs)
    | ((with_reducible apply AWp.skip); try simp -implicitDefEqProofs)
    | ((with_reducible apply AWp.exit); try simp -implicitDefEqProofs))
  refine AWp.loopA (α := (Nat)) (0) (fun x => x) (fun x => True) [(0, ?_), (1, ?_), (2, ?_)] (fun x => [(6, .sc (.int .i64 20))]) (fun x => S) ?_ ?_ ?_ ?_
  rotate_left 3
  · (try dsimp only); (simp only [List.cons_append, List.nil_append]; repeat (first | exact FrWk.nil | refine FrWk.cons (by first | (simp -implicitDefEqProofs; done) | exact Wk.of (by (try simp -implicitDefEqProofs) <;> rfl)) ?_))
  · (try dsimp only); (first | exact AS.le_refl _ | assumption | (repeat (first | exact AS.le_refl _ | assumption | refine le_new (by simp [*]) ?_)))
  · (try dsimp only) <;> first | exact trivial | exact ⟨by omega, rfl⟩ | omega | (simp; done) | exact ⟨by omega, by simp⟩ | exact ⟨by omega, by simp, rfl⟩
  intro x hx_
  try dsimp only at hx_ ⊢
  obtain _ := hx_
  simp only [List.cons_append, List.nil_append]
  repeat (first
    | (with_reducible apply AWp.seq)
    | (with_reducible apply AWp.block)
    | ((with_reducible apply AWp.fork); simp -implicitDefEqProofs)
    | ((with_reducible apply AWp.region); simp -implicitDefEqProofs)
    | (with_reducible refine And.intro (by first | omega | assumption | decide) ?_)
    | ((with_reducible apply AWp.ret); try simp -implicitDefEqProofs)
    | ((with_reducible apply AWp.skip); try simp -implicitDefEqProofs)
    | ((with_reducible apply AWp.exit); try simp -implicitDefEqProofs))

theorem sort_ok (L0 : List Pt) (f : Nat) (cmp : Pt → Pt → Int) (hcmp : ∀ σ x y, ACalls Try.prog f [ptV x, ptV y] σ (Gives (.sc (.int .i64 (cmp x y))) σ) No) (hl : L0.length < 20)
    {v : AV} {S τ : AS} (hG : GV Try.prog 64 (L0.map ptV) v S τ) :
    ACalls Try.prog 77 [v, fnV f] τ (fun _ τ' => GV Try.prog 64 ((sortS cmp L0).map ptV) v S τ') No := by
  rcases hG with ⟨h1, rfl, rfl⟩ | ⟨id, cap, spl, h0, rfl, rfl, hall, hcap⟩
  · have hs := stable_nil f τ
    have : L0 = [] := by simpa using h1
    subst this
    simp only [fnV] at hs ⊢
    refine (show ACalls _ _ _ _ (Gives (.tup []) τ) No from ?_).mono (fun r σ' h => by obtain ⟨_, rfl⟩ := h; exact GV.nil) (fun _ _ h => h)
    refine ACalls.of_body Try.func77 rfl rfl (by simp [Try.ntmps77]) ?_
    repeat (first
      | (with_reducible apply AWp.seq)
      | (with_reducible apply AWp.block)
      | ((with_reducible apply AWp.fork); simp -implicitDefEqProofs)
      | ((with_reducible apply AWp.region); simp -implicitDefEqProofs)
      | (with_reducible refine And.intro (by first | omega | assumption | decide) ?_)
      | ((with_reducible apply aCall.id); first
          | ((apply aCall.gives (hs)); simp -implicitDefEqProofs))
      | ((with_reducible apply AWp.ret); try simp -implicitDefEqProofs)
      | ((with_reducible apply AWp.skip); try simp -implicitDefEqProofs)
      | ((with_reducible apply AWp.exit); try simp -implicitDefEqProofs))
  · have hspl : ∀ x ∈ spl, x.cells.length = 4 := fun x hx => hall x (by simp [hx])
    have hs := stable_ok L0 spl f cmp hcmp hspl hl id S h0
    have hlen : (sortS cmp L0).length = L0.length := by simp [sortS, sortRev_len]
    simp only [List.length_map] at hcap ⊢
    subst hcap
    obtain ⟨n, hn⟩ : ∃ n, L0.length = n := ⟨_, rfl⟩
    rw [hn] at hl hs hlen ⊢
    refine (show ACalls _ _ _ _ (Gives (.tup []) (S.set id (.cells 64 (ptC (sortS cmp L0) spl)))) No from ?_).mono (fun r σ' h => by
      obtain ⟨_, rfl⟩ := h
      exact .inr ⟨id, n + spl.length, spl, h0, by simp [hlen], rfl, ptC_all hspl, by simp [hlen]⟩) (fun _ _ h => h)
    simp only [fnV, ptC] at hs ⊢
    refine ACalls.of_body Try.func77 rfl rfl (by simp [Try.ntmps77]) ?_
    repeat (first
      | (with_reducible apply AWp.seq)
      | (with_reducible apply AWp.block)
      | ((with_reducible apply AWp.fork); simp -implicitDefEqProofs)
      | ((with_reducible apply AWp.region); simp -implicitDefEqProofs)
      | (with_reducible refine And.intro (by first | omega | assumption | decide) ?_)
      | ((with_reducible apply aCall.id); first
          | ((apply aCall.gives (hs)); simp -implicitDefEqProofs))
      | ((with_reducible apply AWp.ret); try simp -implicitDefEqProofs)
      | ((with_reducible apply AWp.skip); try simp -implicitDefEqProofs)
      | ((with_reducible apply AWp.exit); try simp -implicitDefEqProofs))

end Go.Proofs.Ythbmjmdmamapiaa
