/- Package slices: CompactFunc of parts. -/
import Derived.Test.YthbmjmdmamapiaaReg9
set_option linter.unusedSimpArgs false
set_option linter.unusedVariables false
set_option maxRecDepth 100000
set_option maxHeartbeats 3200000
namespace Go.Proofs.Ythbmjmdmamapiaa
open Go Go.AW

def compT (eq : Pt → Pt → Bool) : Pt → List Pt → List Pt
  | _, [] => []
  | p, y :: r => if eq y p = true then compT eq y r else y :: compT eq y r
def compS (eq : Pt → Pt → Bool) : List Pt → List Pt
  | [] => []
  | x :: r => x :: compT eq x r
theorem compT_snoc (eq : Pt → Pt → Bool) : ∀ (r : List Pt) (p y : Pt), compT eq p (r ++ [y]) = compT eq p r ++ (if eq y ((p :: r).getLast (by simp)) = true then [] else [y]) := by
  intro r
  induction r with
  | nil => intro p y; rfl
  | cons x r ih =>
    intro p y
    simp only [List.cons_append, compT, ih, List.getLast_cons_cons]
    split
    · rfl
    · rfl
theorem compS_snoc (eq : Pt → Pt → Bool) {l : List Pt} (y : Pt) (hl : l ≠ []) : compS eq (l ++ [y]) = compS eq l ++ (if eq y (l.getLast hl) = true then [] else [y]) := by
  cases l with
  | nil => exact absurd rfl hl
  | cons x r => simp only [List.cons_append, compS, compT_snoc]
theorem compS_take (eq : Pt → Pt → Bool) {L : List Pt} {i : Nat} (h0 : 0 < i) (hi : i < L.length) : compS eq (L.take (i + 1)) = compS eq (L.take i) ++ (if eq L[i] (L[i - 1]'(by omega)) = true then [] else [L[i]]) := by
  have hne : L.take i ≠ [] := by
    intro h; have := congrArg List.length h; simp only [List.length_take, List.length_nil] at this; omega
  rw [List.take_succ_eq_append_getElem hi, compS_snoc eq _ hne]
  have : (L.take i).getLast hne = L[i - 1]'(by omega) := by
    rw [List.getLast_eq_getElem]; simp only [List.length_take, Nat.min_eq_left (Nat.le_of_lt hi), List.getElem_take]
  rw [this]
theorem compS_len (eq : Pt → Pt → Bool) {L : List Pt} : (compS eq L).length ≤ L.length := by
  have h : ∀ (r : List Pt) (p : Pt), (compT eq p r).length ≤ r.length := by
    intro r
    induction r with
    | nil => intro p; simp [compT]
    | cons x r ih => intro p; rw [compT]; have := ih x; split <;> simp <;> omega
  cases L with
  | nil => simp [compS]
  | cons x r => simp [compS, h r x]

theorem ptC_at' {L : List Pt} {spl : List AV} (h : ∀ x ∈ spl, x.cells.length = 4) {i : Nat} {x : Pt} (hi : L[i]? = some x) : ((ptC L spl).drop (i * 4)).take 4 = (ptV x).cells := by
  obtain ⟨h1, rfl⟩ := List.getElem?_eq_some_iff.1 hi
  exact ptC_at h h1

theorem get0q {α : Type} {A : List α} {y : α} {R : List α} {j : Nat} (h : j = A.length) : (A ++ y :: R)[j]? = some y := by subst h; simp
theorem get1q {α : Type} {A : List α} {y x : α} {R : List α} {j : Nat} (h : j = A.length + 1) : (A ++ y :: x :: R)[j]? = some x := by
  subst h; rw [List.getElem?_append_right (by omega)]; simp

theorem comp_ok (L : List Pt) (spl : List AV) (f : Nat) (eq : Pt → Pt → Bool) (heq : ∀ σ x y, ACalls Try.prog f [ptV x, ptV y] σ (Gives (.sc (.bool (eq x y))) σ) No)
    (hspl : ∀ x ∈ spl, x.cells.length = 4) (hl : L.length < 1000) (id : Nat) (S : AS) (h0 : S id = none) :
    ACalls Try.prog 79 [.msl id 0 L.length (L.length + spl.length), fnV f] (S.set id (.cells 64 (ptC L spl)))
      (fun r τ' => GV Try.prog 64 ((compS eq L).map ptV) r S τ') No := by
  obtain ⟨n, hn⟩ : ∃ n, L.length = n := ⟨_, rfl⟩
  rw [hn] at hl ⊢
  have done : compS eq L = L → GV Try.prog 64 ((compS eq L).map ptV) (.msl id 0 n (n + spl.length)) S (S.set id (.cells 64 (ptC L spl))) := fun h => by
    rw [h]
    exact .inr ⟨id, n + spl.length, spl, h0, by simp [hn], rfl, ptC_all hspl, by simp [hn]⟩
  have hLen := ptC_len (L := L) hspl
  rw [hn] at hLen
  simp only [fnV]
  refine ACalls.of_body Try.func79 rfl rfl (by simp [Try.ntmps79]) ?_
  by_cases h2 : n < 2
  · have h2' : ((n : Int) < 2) = True := by simp; omega
    have hL : compS eq L = L := by
      match L, hn with
      | [], _ => rfl
      | [x], _ => rfl
      | x :: y :: r, hn => simp at hn; omega
    repeat (first
      | (with_reducible apply AWp.seq)
      | (with_reducible apply AWp.block)
      | ((with_reducible apply AWp.fork); simp -implicitDefEqProofs [h2', ci_lt, ci_le])
      | ((with_reducible apply AWp.region); simp -implicitDefEqProofs [h2', ci_lt, ci_le])
      | (with_reducible refine And.intro (by first | omega | assumption | decide) ?_)
      | ((with_reducible show condK _ _ _); simp -implicitDefEqProofs [h2', ci_lt, ci_le])
      | ((with_reducible show guardK _ _ _ _ _ _ _ _ _); simp -implicitDefEqProofs [h2', ci_lt, ci_le])
      | (((with_reducible apply AWp.drawS (id := 6) (t := (Sch.step 0 (Sch.step 1 (Sch.step 2 (Sch.step 3 (Sch.step 5 (Sch.step 6 (Sch.step 7 (Sch.step 8 (Sch.read 4 (Sch.read 9 (Sch.alt 10 Sch.done Sch.none))))))))))))); (exact mixed); kernel_rfl; kernel_rfl; (repeat (with_reducible first | apply PanQ.then | apply PanQ.block | apply PanQ.body | apply PanQ.no))); simp -implicitDefEqProofs [h2', ci_lt, ci_le])
      | (((with_reducible apply AWp.drawS (id := 11) (t := (Sch.step 0 (Sch.step 1 (Sch.step 2 (Sch.step 3 (Sch.step 5 (Sch.step 6 (Sch.step 7 (Sch.step 8 (Sch.read 4 (Sch.read 9 (Sch.alt 10 (Sch.step 11 Sch.done) Sch.none))))))))))))); (exact mixed); kernel_rfl; kernel_rfl; (repeat (with_reducible first | apply PanQ.then | apply PanQ.block | apply PanQ.body | apply PanQ.no))); simp -implicitDefEqProofs [h2', ci_lt, ci_le])
      | ((with_reducible apply AWp.ret); try simp -implicitDefEqProofs [h2', ci_lt, ci_le])
      | ((with_reducible apply AWp.skip); try simp -implicitDefEqProofs [h2', ci_lt, ci_le])
      | ((with_reducible apply AWp.exit); try simp -implicitDefEqProofs [h2', ci_lt, ci_le]))
    exact ⟨_, _, Wk.refl _, AS.le_refl _, done hL⟩
  · have h2' : ((n : Int) < 2) = False := by simp; omega
    repeat (first
      | (with_reducible apply AWp.seq)
      | (with_reducible apply AWp.block)
      | ((with_reducible apply AWp.fork); simp -implicitDefEqProofs [h2', ci_lt, ci_le])
      | ((with_reducible apply AWp.region); simp -implicitDefEqProofs [h2', ci_lt, ci_le])
      | (with_reducible refine And.intro (by first | omega | assumption | decide) ?_)
      | ((with_reducible show condK _ _ _); simp -implicitDefEqProofs [h2', ci_lt, ci_le])
      | ((with_reducible show guardK _ _ _ _ _ _ _ _ _); simp -implicitDefEqProofs [h2', ci_lt, ci_le])
      | (((with_reducible apply AWp.drawS (id := 6) (t := (Sch.step 0 (Sch.step 1 (Sch.step 2 (Sch.step 3 (Sch.step 5 (Sch.step 6 (Sch.step 7 (Sch.step 8 (Sch.read 4 (Sch.read 9 (Sch.alt 10 Sch.done Sch.none))))))))))))); (exact mixed); kernel_rfl; kernel_rfl; (repeat (with_reducible first | apply PanQ.then | apply PanQ.block | apply PanQ.body | apply PanQ.no))); simp -implicitDefEqProofs [h2', ci_lt, ci_le])
      | (((with_reducible apply AWp.drawS (id := 11) (t := (Sch.step 0 (Sch.step 1 (Sch.step 2 (Sch.step 3 (Sch.step 5 (Sch.step 6 (Sch.step 7 (Sch.step 8 (Sch.read 4 (Sch.read 9 (Sch.alt 10 (Sch.step 11 Sch.done) Sch.none))))))))))))); (exact mixed); kernel_rfl; kernel_rfl; (repeat (with_reducible first | apply PanQ.then | apply PanQ.block | apply PanQ.body | apply PanQ.no))); simp -implicitDefEqProofs [h2', ci_lt, ci_le])
      | ((with_reducible apply AWp.ret); try simp -implicitDefEqProofs [h2', ci_lt, ci_le])
      | ((with_reducible apply AWp.skip); try simp -implicitDefEqProofs [h2', ci_lt, ci_le])
      | ((with_reducible apply AWp.exit); try simp -implicitDefEqProofs [h2', ci_lt, ci_le]))
    have ht1 : compS eq (L.take 1) = L.take 1 := by
      cases L with
      | nil => simp at hn; omega
      | cons x r => simp [compS, compT]
    refine AWp.loopA (α := (Nat)) (1) (fun i => n - i) (fun i => 1 ≤ i ∧ i ≤ n ∧ compS eq (L.take i) = L.take i) [(0, ?_), (1, ?_)] (fun i => [(5, .sc (.int .i64 i))]) (fun i => S.set id (.cells 64 (ptC L spl))) ?_ ?_ ?_ ?_
    rotate_left 2
    · (try dsimp only); (simp only [List.cons_append, List.nil_append]; repeat (first | exact FrWk.nil | refine FrWk.cons (by first | (simp -implicitDefEqProofs [ci_lt, ci_le]; done) | exact Wk.of (by (try simp -implicitDefEqProofs [ci_lt, ci_le]) <;> rfl)) ?_))
    · (try dsimp only); (first | exact AS.le_refl _ | assumption | (repeat (first | exact AS.le_refl _ | assumption | refine le_new (by simp [*]) ?_)))
    · exact ⟨by omega, by omega, ht1⟩
    intro i hx_
    try dsimp only at hx_ ⊢
    obtain ⟨hi1, hi, hX⟩ := hx_
    simp only [List.cons_append, List.nil_append]
    by_cases hlt : i < n
    · have wi_i : IntKind.i64.wrap ((i : Int) + 1) = ((i + 1 : Nat) : Int) := ci_wi (by omega)
      have wi2 : IntKind.i64.wrap ((i : Int) - 1) = ((i - 1 : Nat) : Int) := by rw [in_i64 (by omega) (by omega)]; omega
      have hil : i < L.length := by omega
      have m1 := ptC_at hspl hil
      have m2 := ptC_at hspl (show i - 1 < L.length by omega)
      have hcs := compS_take eq (by omega) hil
      rw [hX] at hcs
      have b1 : i * 4 + 4 ≤ (ptC L spl).length := by omega
      have b2 : (i - 1) * 4 + 4 ≤ (ptC L spl).length := by omega
      have b3 : i - 1 < n := by omega
      simp only [ptV, cells_agg] at m1 m2
      cases hc : eq L[i] (L[i - 1]'(by omega)) with
      | false =>
        have hq := fun σ => heq σ L[i] (L[i - 1]'(by omega))
        rw [hc] at hcs hq
        repeat (first
          | (with_reducible apply AWp.seq)
          | (with_reducible apply AWp.block)
          | ((with_reducible apply AWp.fork); simp -implicitDefEqProofs [hlt, wi2, m1, m2, b1, b2, b3, ci_lt, ci_le, wi_i])
          | ((with_reducible apply AWp.region); simp -implicitDefEqProofs [hlt, wi2, m1, m2, b1, b2, b3, ci_lt, ci_le, wi_i])
          | (with_reducible refine And.intro (by first | omega | assumption | decide) ?_)
          | ((with_reducible show condK _ _ _); simp -implicitDefEqProofs [hlt, wi2, m1, m2, b1, b2, b3, ci_lt, ci_le, wi_i])
          | ((with_reducible show guardK _ _ _ _ _ _ _ _ _); simp -implicitDefEqProofs [hlt, wi2, m1, m2, b1, b2, b3, ci_lt, ci_le, wi_i])
          | (((with_reducible apply AWp.drawS (id := 6) (t := (Sch.step 0 (Sch.step 1 (Sch.step 2 (Sch.step 3 (Sch.step 5 (Sch.step 6 (Sch.step 7 (Sch.step 8 (Sch.read 4 (Sch.read 9 (Sch.alt 10 Sch.done Sch.none))))))))))))); (exact mixed); kernel_rfl; kernel_rfl; (repeat (with_reducible first | apply PanQ.then | apply PanQ.block | apply PanQ.body | apply PanQ.no))); simp -implicitDefEqProofs [hlt, wi2, m1, m2, b1, b2, b3, ci_lt, ci_le, wi_i])
          | (((with_reducible apply AWp.drawS (id := 11) (t := (Sch.step 0 (Sch.step 1 (Sch.step 2 (Sch.step 3 (Sch.step 5 (Sch.step 6 (Sch.step 7 (Sch.step 8 (Sch.read 4 (Sch.read 9 (Sch.alt 10 (Sch.step 11 Sch.done) Sch.none))))))))))))); (exact mixed); kernel_rfl; kernel_rfl; (repeat (with_reducible first | apply PanQ.then | apply PanQ.block | apply PanQ.body | apply PanQ.no))); simp -implicitDefEqProofs [hlt, wi2, m1, m2, b1, b2, b3, ci_lt, ci_le, wi_i])
          | ((with_reducible apply aCall.id); first
              | ((apply aCall.gives (hq _)); simp -implicitDefEqProofs [hlt, wi2, m1, m2, b1, b2, b3, ci_lt, ci_le, wi_i]))
          | ((with_reducible apply AWp.ret); try simp -implicitDefEqProofs [hlt, wi2, m1, m2, b1, b2, b3, ci_lt, ci_le, wi_i])
          | ((with_reducible apply AWp.skip); try simp -implicitDefEqProofs [hlt, wi2, m1, m2, b1, b2, b3, ci_lt, ci_le, wi_i])
          | ((with_reducible apply AWp.exit); try simp -implicitDefEqProofs [hlt, wi2, m1, m2, b1, b2, b3, ci_lt, ci_le, wi_i]))
        refine stepA.mk (i + 1) (by (try dsimp only); omega) (by (try dsimp only); (simp only [List.cons_append, List.nil_append]; repeat (first | exact FrWk.nil | refine FrWk.cons (by first | (simp -implicitDefEqProofs [ci_lt, ci_le, wi_i]; done) | exact Wk.of (by (try simp -implicitDefEqProofs [ci_lt, ci_le, wi_i]) <;> rfl)) ?_))) (by (try dsimp only); (first | exact AS.le_refl _ | assumption | (repeat (first | exact AS.le_refl _ | assumption | refine le_new (by simp [*]) ?_)))) ?_
        try dsimp only
        refine ⟨by omega, by omega, ?_⟩
        rw [hcs, List.take_succ_eq_append_getElem hil]; simp
      | true =>
        have hq := fun σ => heq σ L[i] (L[i - 1]'(by omega))
        rw [hc] at hcs hq
        repeat (first
          | (with_reducible apply AWp.seq)
          | (with_reducible apply AWp.block)
          | ((with_reducible apply AWp.fork); simp -implicitDefEqProofs [hlt, wi2, m1, m2, b1, b2, b3, ci_lt, ci_le, wi_i])
          | ((fail_if_success (with_reducible apply AWp.region (id := 7))); (with_reducible apply AWp.region); simp -implicitDefEqProofs [hlt, wi2, m1, m2, b1, b2, b3, ci_lt, ci_le, wi_i])
          | (with_reducible refine And.intro (by first | omega | assumption | decide) ?_)
          | ((with_reducible show condK _ _ _); simp -implicitDefEqProofs [hlt, wi2, m1, m2, b1, b2, b3, ci_lt, ci_le, wi_i])
          | ((with_reducible show guardK _ _ _ _ _ _ _ _ _); simp -implicitDefEqProofs [hlt, wi2, m1, m2, b1, b2, b3, ci_lt, ci_le, wi_i])
          | (((with_reducible apply AWp.drawS (id := 6) (t := (Sch.step 0 (Sch.step 1 (Sch.step 2 (Sch.step 3 (Sch.step 5 (Sch.step 6 (Sch.step 7 (Sch.step 8 (Sch.read 4 (Sch.read 9 (Sch.alt 10 Sch.done Sch.none))))))))))))); (exact mixed); kernel_rfl; kernel_rfl; (repeat (with_reducible first | apply PanQ.then | apply PanQ.block | apply PanQ.body | apply PanQ.no))); simp -implicitDefEqProofs [hlt, wi2, m1, m2, b1, b2, b3, ci_lt, ci_le, wi_i])
          | (((with_reducible apply AWp.drawS (id := 11) (t := (Sch.step 0 (Sch.step 1 (Sch.step 2 (Sch.step 3 (Sch.step 5 (Sch.step 6 (Sch.step 7 (Sch.step 8 (Sch.read 4 (Sch.read 9 (Sch.alt 10 (Sch.step 11 Sch.done) Sch.none))))))))))))); (exact mixed); kernel_rfl; kernel_rfl; (repeat (with_reducible first | apply PanQ.then | apply PanQ.block | apply PanQ.body | apply PanQ.no))); simp -implicitDefEqProofs [hlt, wi2, m1, m2, b1, b2, b3, ci_lt, ci_le, wi_i])
          | ((with_reducible apply aCall.id); first
              | ((apply aCall.gives (hq _)); simp -implicitDefEqProofs [hlt, wi2, m1, m2, b1, b2, b3, ci_lt, ci_le, wi_i]))
          | ((with_reducible apply AWp.ret); try simp -implicitDefEqProofs [hlt, wi2, m1, m2, b1, b2, b3, ci_lt, ci_le, wi_i])
          | ((with_reducible apply AWp.skip); try simp -implicitDefEqProofs [hlt, wi2, m1, m2, b1, b2, b3, ci_lt, ci_le, wi_i])
          | ((with_reducible apply AWp.exit); try simp -implicitDefEqProofs [hlt, wi2, m1, m2, b1, b2, b3, ci_lt, ci_le, wi_i]))
        with_reducible apply AWp.regionS
        refine sOps.first 2 ?_
        simp -implicitDefEqProofs
        refine sOps.sp rfl (SOp.sliceM (by decide) 64 id 0 n (n + spl.length) i n (by simp) (by simp) (by simp) (.inr ⟨_, .i64, rfl, by simp⟩) (.inl ⟨rfl, rfl⟩) (by omega) (by omega) (by omega) ?_)
        refine sOps.rest ?_
        simp -implicitDefEqProofs
        repeat (first
          | (with_reducible apply AWp.seq)
          | (with_reducible apply AWp.block)
          | ((with_reducible apply AWp.fork); simp -implicitDefEqProofs [ci_lt, ci_le, wi_i])
          | ((fail_if_success (with_reducible apply AWp.region (id := 14))); (with_reducible apply AWp.region); simp -implicitDefEqProofs [ci_lt, ci_le, wi_i])
          | (with_reducible refine And.intro (by first | omega | assumption | decide) ?_)
          | ((with_reducible show condK _ _ _); simp -implicitDefEqProofs [ci_lt, ci_le, wi_i])
          | ((with_reducible show guardK _ _ _ _ _ _ _ _ _); simp -implicitDefEqProofs [ci_lt, ci_le, wi_i])
          | (((with_reducible apply AWp.drawS (id := 6) (t := (Sch.step 0 (Sch.step 1 (Sch.step 2 (Sch.step 3 (Sch.step 5 (Sch.step 6 (Sch.step 7 (Sch.step 8 (Sch.read 4 (Sch.read 9 (Sch.alt 10 Sch.done Sch.none))))))))))))); (exact mixed); kernel_rfl; kernel_rfl; (repeat (with_reducible first | apply PanQ.then | apply PanQ.block | apply PanQ.body | apply PanQ.no))); simp -implicitDefEqProofs [ci_lt, ci_le, wi_i])
          | (((with_reducible apply AWp.drawS (id := 11) (t := (Sch.step 0 (Sch.step 1 (Sch.step 2 (Sch.step 3 (Sch.step 5 (Sch.step 6 (Sch.step 7 (Sch.step 8 (Sch.read 4 (Sch.read 9 (Sch.alt 10 (Sch.step 11 Sch.done) Sch.none))))))))))))); (exact mixed); kernel_rfl; kernel_rfl; (repeat (with_reducible first | apply PanQ.then | apply PanQ.block | apply PanQ.body | apply PanQ.no))); simp -implicitDefEqProofs [ci_lt, ci_le, wi_i])
          | ((with_reducible apply AWp.ret); try simp -implicitDefEqProofs [ci_lt, ci_le, wi_i])
          | ((with_reducible apply AWp.skip); try simp -implicitDefEqProofs [ci_lt, ci_le, wi_i])
          | ((with_reducible apply AWp.exit); try simp -implicitDefEqProofs [ci_lt, ci_le, wi_i]))
        have hC0 : compS eq (L.take (i + 1)) = L.take i := by rw [hcs]; simp
        have hC1 : (compS eq (L.take (i + 1))).length = i := by rw [hC0]; simp; omega
        refine AWp.loopA (α := (Nat) × (List Pt)) ((1, [])) (fun ⟨k, X⟩ => n - i - k) (fun ⟨k, X⟩ => 1 ≤ k ∧ k ≤ n - i ∧ (compS eq (L.take (i + k))).length + X.length = i + k - 1) [(0, ?_), (1, ?_), (4, ?_), (6, ?_), (12, ?_), (13, ?_), (14, ?_), (15, ?_), (18, ?_), (19, ?_), (20, ?_), (21, ?_), (22, ?_), (23, ?_), (24, ?_), (25, ?_), (26, ?_), (27, ?_), (28, ?_), (29, ?_), (30, ?_), (31, ?_)] (fun ⟨k, X⟩ => [(5, .sc (.int .i64 (compS eq (L.take (i + k))).length)), (7, .sc (.int .i64 k))]) (fun ⟨k, X⟩ => S.set id (.cells 64 (ptC (compS eq (L.take (i + k)) ++ (X ++ L.drop (i + k - 1))) spl))) ?_ ?_ ?_ ?_
        rotate_left 22
        · (try dsimp only); (simp only [List.cons_append, List.nil_append]; repeat (first | exact FrWk.nil | refine FrWk.cons (by first | (simp -implicitDefEqProofs [ci_lt, ci_le, wi_i, hC1]; done) | exact Wk.of (by (try simp -implicitDefEqProofs [ci_lt, ci_le, wi_i, hC1]) <;> rfl)) ?_))
        · (try dsimp only); (rw [hC0]; simp)
        · exact ⟨by omega, by omega, by rw [hC0]; simp; omega⟩
        intro x_ hx_
        obtain ⟨k, X⟩ := x_
        try dsimp only at hx_ ⊢
        obtain ⟨hk1, hk, hCX⟩ := hx_
        simp only [List.cons_append, List.nil_append]
        have hMl : (compS eq (L.take (i + k)) ++ (X ++ L.drop (i + k - 1))).length = n := by simp; omega
        have hML := ptC_len (L := compS eq (L.take (i + k)) ++ (X ++ L.drop (i + k - 1))) hspl
        rw [hMl] at hML
        by_cases hkl : k < n - i
        · have wi_k : IntKind.i64.wrap ((k : Int) + 1) = ((k + 1 : Nat) : Int) := ci_wi (by omega)
          have wk2 : IntKind.i64.wrap ((k : Int) - 1) = ((k - 1 : Nat) : Int) := by rw [in_i64 (by omega) (by omega)]; omega
          have hikl : i + k < L.length := by omega
          have hd : L.drop (i + k - 1) = L[i + k - 1]'(by omega) :: L[i + k] :: L.drop (i + k + 1) := by
            rw [List.drop_eq_getElem_cons (show i + k - 1 < L.length by omega)]
            congr 1
            rw [show i + k - 1 + 1 = i + k by omega, List.drop_eq_getElem_cons hikl]
          have hcs2 := compS_take eq (show 0 < i + k by omega) hikl
          have hkk : i + (k + 1) = i + k + 1 := by omega
          have hdk : L.drop (i + (k + 1) - 1) = L[i + k] :: L.drop (i + k + 1) := by
            rw [show i + (k + 1) - 1 = i + k by omega, List.drop_eq_getElem_cons hikl]
          have g1 : (compS eq (L.take (i + k)) ++ (X ++ L.drop (i + k - 1)))[i + k]? = some L[i + k] := by
            rw [hd, ← List.append_assoc]
            exact get1q (by simp; omega)
          have g2 : (compS eq (L.take (i + k)) ++ (X ++ L.drop (i + k - 1)))[i + (k - 1)]? = some (L[i + k - 1]'(by omega)) := by
            rw [hd, ← List.append_assoc]
            exact get0q (by simp; omega)
          have m1 := ptC_at' (spl := spl) hspl g1
          have m2 := ptC_at' (spl := spl) hspl g2
          rw [Nat.add_mul] at m1 m2
          have hq := fun σ => heq σ L[i + k] (L[i + k - 1]'(by omega))
          have b4 : i * 4 + k * 4 + 4 ≤ (ptC (compS eq (L.take (i + k)) ++ (X ++ L.drop (i + k - 1))) spl).length := by omega
          have b5 : i * 4 + (k - 1) * 4 + 4 ≤ (ptC (compS eq (L.take (i + k)) ++ (X ++ L.drop (i + k - 1))) spl).length := by omega
          have b6 : k - 1 < n - i := by omega
          have hcur : (compS eq (L.take (i + k))).length < n := by omega
          have b7 : (compS eq (L.take (i + k))).length * 4 + 4 ≤ (ptC (compS eq (L.take (i + k)) ++ (X ++ L.drop (i + k - 1))) spl).length := by omega
          have n1 := ptC_set (L := compS eq (L.take (i + k)) ++ (X ++ L.drop (i + k - 1))) hspl (show (compS eq (L.take (i + k))).length < _ by omega) L[i + k]
          have hxz : ∃ hd' X', X ++ [L[i + k - 1]'(by omega)] = hd' :: X' := by
            cases X with
            | nil => exact ⟨_, _, rfl⟩
            | cons a X => exact ⟨_, _, rfl⟩
          obtain ⟨hd', X', hxz⟩ := hxz
          have hX'l : X.length = X'.length := by have := congrArg List.length hxz; simpa using this
          have hMeq : compS eq (L.take (i + k)) ++ (X ++ L.drop (i + k - 1)) = compS eq (L.take (i + k)) ++ hd' :: (X' ++ L[i + k] :: L.drop (i + k + 1)) := by
            rw [hd, show X ++ L[i + k - 1]'(by omega) :: L[i + k] :: L.drop (i + k + 1) = (X ++ [L[i + k - 1]'(by omega)]) ++ L[i + k] :: L.drop (i + k + 1) by simp, hxz]; simp
          have hset : (compS eq (L.take (i + k)) ++ (X ++ L.drop (i + k - 1))).set (compS eq (L.take (i + k))).length L[i + k] = compS eq (L.take (i + k)) ++ L[i + k] :: (X' ++ L[i + k] :: L.drop (i + k + 1)) := by
            rw [hMeq, set0]
          rw [hset] at n1
          simp only [ptV, cells_agg, List.cons_append, List.nil_append] at m1 m2 n1
          cases hc2 : eq L[i + k] (L[i + k - 1]'(by omega)) with
          | true =>
            rw [hc2] at hq hcs2
            simp at hcs2
            repeat (first
              | (with_reducible apply AWp.seq)
              | (with_reducible apply AWp.block)
              | ((with_reducible apply AWp.fork); simp -implicitDefEqProofs [hkl, wk2, m1, m2, b4, b5, b6, ci_lt, ci_le, wi_i, hC1, wi_k])
              | ((fail_if_success (with_reducible apply AWp.region (id := 14))); (with_reducible apply AWp.region); simp -implicitDefEqProofs [hkl, wk2, m1, m2, b4, b5, b6, ci_lt, ci_le, wi_i, hC1, wi_k])
              | (with_reducible refine And.intro (by first | omega | assumption | decide) ?_)
              | ((with_reducible show condK _ _ _); simp -implicitDefEqProofs [hkl, wk2, m1, m2, b4, b5, b6, ci_lt, ci_le, wi_i, hC1, wi_k])
              | ((with_reducible show guardK _ _ _ _ _ _ _ _ _); simp -implicitDefEqProofs [hkl, wk2, m1, m2, b4, b5, b6, ci_lt, ci_le, wi_i, hC1, wi_k])
              | (((with_reducible apply AWp.drawS (id := 6) (t := (Sch.step 0 (Sch.step 1 (Sch.step 2 (Sch.step 3 (Sch.step 5 (Sch.step 6 (Sch.step 7 (Sch.step 8 (Sch.read 4 (Sch.read 9 (Sch.alt 10 Sch.done Sch.none))))))))))))); (exact mixed); kernel_rfl; kernel_rfl; (repeat (with_reducible first | apply PanQ.then | apply PanQ.block | apply PanQ.body | apply PanQ.no))); simp -implicitDefEqProofs [hkl, wk2, m1, m2, b4, b5, b6, ci_lt, ci_le, wi_i, hC1, wi_k])
              | (((with_reducible apply AWp.drawS (id := 11) (t := (Sch.step 0 (Sch.step 1 (Sch.step 2 (Sch.step 3 (Sch.step 5 (Sch.step 6 (Sch.step 7 (Sch.step 8 (Sch.read 4 (Sch.read 9 (Sch.alt 10 (Sch.step 11 Sch.done) Sch.none))))))))))))); (exact mixed); kernel_rfl; kernel_rfl; (repeat (with_reducible first | apply PanQ.then | apply PanQ.block | apply PanQ.body | apply PanQ.no))); simp -implicitDefEqProofs [hkl, wk2, m1, m2, b4, b5, b6, ci_lt, ci_le, wi_i, hC1, wi_k])
              | ((with_reducible apply aCall.id); first
                  | ((apply aCall.gives (hq _)); simp -implicitDefEqProofs [hkl, wk2, m1, m2, b4, b5, b6, ci_lt, ci_le, wi_i, hC1, wi_k]))
              | ((with_reducible apply AWp.ret); try simp -implicitDefEqProofs [hkl, wk2, m1, m2, b4, b5, b6, ci_lt, ci_le, wi_i, hC1, wi_k])
              | ((with_reducible apply AWp.skip); try simp -implicitDefEqProofs [hkl, wk2, m1, m2, b4, b5, b6, ci_lt, ci_le, wi_i, hC1, wi_k])
              | ((with_reducible apply AWp.exit); try simp -implicitDefEqProofs [hkl, wk2, m1, m2, b4, b5, b6, ci_lt, ci_le, wi_i, hC1, wi_k]))
            refine stepA.mk ((k + 1, X ++ [L[i + k - 1]'(by omega)])) (by (try dsimp only); omega) (by (try dsimp only); (simp only [List.cons_append, List.nil_append]; repeat (first | exact FrWk.nil | refine FrWk.cons (by first | (simp -implicitDefEqProofs [hkk, hcs2, ci_lt, ci_le, wi_i, hC1, wi_k]; done) | exact Wk.of (by (try simp -implicitDefEqProofs [hkk, hcs2, ci_lt, ci_le, wi_i, hC1, wi_k]) <;> rfl)) ?_))) (by (try dsimp only); (rw [hkk, hcs2, show i + k + 1 - 1 = i + k by omega, hd, List.drop_eq_getElem_cons hikl]; simp)) ?_
            try dsimp only
            exact ⟨by omega, by omega, by rw [hkk, hcs2]; simp; omega⟩
          | false =>
            rw [hc2] at hq hcs2
            simp at hcs2
            have wc : IntKind.i64.wrap (((compS eq (L.take (i + k))).length : Int) + 1) = (((compS eq (L.take (i + k))).length + 1 : Nat) : Int) := ci_wi (by omega)
            repeat (first
              | (with_reducible apply AWp.seq)
              | (with_reducible apply AWp.block)
              | ((with_reducible apply AWp.fork); simp -implicitDefEqProofs [hkl, wk2, m1, m2, b4, b5, b6, b7, n1, hcur, wc, ci_lt, ci_le, wi_i, hC1, wi_k])
              | ((fail_if_success (with_reducible apply AWp.region (id := 14))); (with_reducible apply AWp.region); simp -implicitDefEqProofs [hkl, wk2, m1, m2, b4, b5, b6, b7, n1, hcur, wc, ci_lt, ci_le, wi_i, hC1, wi_k])
              | (with_reducible refine And.intro (by first | omega | assumption | decide) ?_)
              | ((with_reducible show condK _ _ _); simp -implicitDefEqProofs [hkl, wk2, m1, m2, b4, b5, b6, b7, n1, hcur, wc, ci_lt, ci_le, wi_i, hC1, wi_k])
              | ((with_reducible show guardK _ _ _ _ _ _ _ _ _); simp -implicitDefEqProofs [hkl, wk2, m1, m2, b4, b5, b6, b7, n1, hcur, wc, ci_lt, ci_le, wi_i, hC1, wi_k])
              | (((with_reducible apply AWp.drawS (id := 6) (t := (Sch.step 0 (Sch.step 1 (Sch.step 2 (Sch.step 3 (Sch.step 5 (Sch.step 6 (Sch.step 7 (Sch.step 8 (Sch.read 4 (Sch.read 9 (Sch.alt 10 Sch.done Sch.none))))))))))))); (exact mixed); kernel_rfl; kernel_rfl; (repeat (with_reducible first | apply PanQ.then | apply PanQ.block | apply PanQ.body | apply PanQ.no))); simp -implicitDefEqProofs [hkl, wk2, m1, m2, b4, b5, b6, b7, n1, hcur, wc, ci_lt, ci_le, wi_i, hC1, wi_k])
              | (((with_reducible apply AWp.drawS (id := 11) (t := (Sch.step 0 (Sch.step 1 (Sch.step 2 (Sch.step 3 (Sch.step 5 (Sch.step 6 (Sch.step 7 (Sch.step 8 (Sch.read 4 (Sch.read 9 (Sch.alt 10 (Sch.step 11 Sch.done) Sch.none))))))))))))); (exact mixed); kernel_rfl; kernel_rfl; (repeat (with_reducible first | apply PanQ.then | apply PanQ.block | apply PanQ.body | apply PanQ.no))); simp -implicitDefEqProofs [hkl, wk2, m1, m2, b4, b5, b6, b7, n1, hcur, wc, ci_lt, ci_le, wi_i, hC1, wi_k])
              | ((with_reducible apply aCall.id); first
                  | ((apply aCall.gives (hq _)); simp -implicitDefEqProofs [hkl, wk2, m1, m2, b4, b5, b6, b7, n1, hcur, wc, ci_lt, ci_le, wi_i, hC1, wi_k]))
              | ((with_reducible apply AWp.ret); try simp -implicitDefEqProofs [hkl, wk2, m1, m2, b4, b5, b6, b7, n1, hcur, wc, ci_lt, ci_le, wi_i, hC1, wi_k])
              | ((with_reducible apply AWp.skip); try simp -implicitDefEqProofs [hkl, wk2, m1, m2, b4, b5, b6, b7, n1, hcur, wc, ci_lt, ci_le, wi_i, hC1, wi_k])
              | ((with_reducible apply AWp.exit); try simp -implicitDefEqProofs [hkl, wk2, m1, m2, b4, b5, b6, b7, n1, hcur, wc, ci_lt, ci_le, wi_i, hC1, wi_k]))
            refine stepA.mk ((k + 1, X')) (by (try dsimp only); omega) (by (try dsimp only); (simp only [List.cons_append, List.nil_append]; repeat (first | exact FrWk.nil | refine FrWk.cons (by first | (simp -implicitDefEqProofs [hkk, hcs2, ci_lt, ci_le, wi_i, hC1, wi_k]; done) | exact Wk.of (by (try simp -implicitDefEqProofs [hkk, hcs2, ci_lt, ci_le, wi_i, hC1, wi_k]) <;> rfl)) ?_))) (by (try dsimp only); (rw [hkk, hcs2, show i + k + 1 - 1 = i + k by omega, List.drop_eq_getElem_cons hikl]; simp)) ?_
            try dsimp only
            exact ⟨by omega, by omega, by rw [hkk, hcs2]; simp; omega⟩
        · obtain rfl : k = n - i := by omega
          have hin : i + (n - i) = n := by omega
          have htn : L.take n = L := List.take_of_length_le (by omega)
          simp only [hin, htn] at hCX hML hMl ⊢
          have hlast : ∃ R, X ++ L.drop (n - 1) = R ∧ (compS eq L).length + R.length = n := ⟨_, rfl, by simp; omega⟩
          obtain ⟨R, hR, hCR⟩ := hlast
          rw [hR] at hML hMl ⊢
          have hRl : 0 < R.length := by rw [← hR]; simp; omega
          have hcn : (compS eq L).length < n := by omega
          repeat (first
            | (with_reducible apply AWp.seq)
            | (with_reducible apply AWp.block)
            | ((with_reducible apply AWp.fork); simp -implicitDefEqProofs [hkl, ci_lt, ci_le, wi_i, hC1])
            | ((fail_if_success (with_reducible apply AWp.region (id := 14))); (with_reducible apply AWp.region); simp -implicitDefEqProofs [hkl, ci_lt, ci_le, wi_i, hC1])
            | (with_reducible refine And.intro (by first | omega | assumption | decide) ?_)
            | ((with_reducible show condK _ _ _); simp -implicitDefEqProofs [hkl, ci_lt, ci_le, wi_i, hC1])
            | ((with_reducible show guardK _ _ _ _ _ _ _ _ _); simp -implicitDefEqProofs [hkl, ci_lt, ci_le, wi_i, hC1])
            | (((with_reducible apply AWp.drawS (id := 6) (t := (Sch.step 0 (Sch.step 1 (Sch.step 2 (Sch.step 3 (Sch.step 5 (Sch.step 6 (Sch.step 7 (Sch.step 8 (Sch.read 4 (Sch.read 9 (Sch.alt 10 Sch.done Sch.none))))))))))))); (exact mixed); kernel_rfl; kernel_rfl; (repeat (with_reducible first | apply PanQ.then | apply PanQ.block | apply PanQ.body | apply PanQ.no))); simp -implicitDefEqProofs [hkl, ci_lt, ci_le, wi_i, hC1])
            | (((with_reducible apply AWp.drawS (id := 11) (t := (Sch.step 0 (Sch.step 1 (Sch.step 2 (Sch.step 3 (Sch.step 5 (Sch.step 6 (Sch.step 7 (Sch.step 8 (Sch.read 4 (Sch.read 9 (Sch.alt 10 (Sch.step 11 Sch.done) Sch.none))))))))))))); (exact mixed); kernel_rfl; kernel_rfl; (repeat (with_reducible first | apply PanQ.then | apply PanQ.block | apply PanQ.body | apply PanQ.no))); simp -implicitDefEqProofs [hkl, ci_lt, ci_le, wi_i, hC1])
            | ((with_reducible apply AWp.ret); try simp -implicitDefEqProofs [hkl, ci_lt, ci_le, wi_i, hC1])
            | ((with_reducible apply AWp.skip); try simp -implicitDefEqProofs [hkl, ci_lt, ci_le, wi_i, hC1])
            | ((with_reducible apply AWp.exit); try simp -implicitDefEqProofs [hkl, ci_lt, ci_le, wi_i, hC1]))
          with_reducible apply AWp.regionS
          refine sOps.first 2 ?_
          simp -implicitDefEqProofs
          refine sOps.sp rfl (SOp.sliceM (by decide) 64 id 0 n (n + spl.length) (compS eq L).length n (by simp) (by simp) (by simp) (.inr ⟨_, .i64, rfl, by simp⟩) (.inl ⟨rfl, rfl⟩) (by omega) (by omega) (by omega) ?_)
          simp -implicitDefEqProofs
          refine sOps.sp rfl (SOp.clearM 64 id ((compS eq L).length * 4) (n - (compS eq L).length) (n + spl.length - (compS eq L).length) (ptC (compS eq L ++ R) spl) (by simp) (by simp) (by simp) (by simp) (by simp) (by omega) (by simp) (by simp; omega) ?_)
          refine sOps.rest ?_
          simp -implicitDefEqProofs
          have hcells : (ptC (compS eq L ++ R) spl).take ((compS eq L).length * 4) ++ (flatC (List.replicate (n - (compS eq L).length) (zeroAV Try.prog 64)) ++ (ptC (compS eq L ++ R) spl).drop ((compS eq L).length * 4 + (n - (compS eq L).length) * 4))
              = flatC ((compS eq L).map ptV ++ (List.replicate (n - (compS eq L).length) (zeroAV Try.prog 64) ++ spl)) := by
            have q1 : (flatC ((compS eq L).map ptV)).length = (compS eq L).length * 4 := by
              rw [flatC_len (m := 4) (fun v hv => by obtain ⟨y, _, rfl⟩ := List.mem_map.1 hv; rfl)]; simp
            have q2 : (flatC (R.map ptV)).length = (n - (compS eq L).length) * 4 := by
              rw [flatC_len (m := 4) (fun v hv => by obtain ⟨y, _, rfl⟩ := List.mem_map.1 hv; rfl), List.length_map, show n - (compS eq L).length = R.length by omega]
            rw [ptC, List.map_append, List.append_assoc, flatC_app, flatC_app, flatC_app, flatC_app, ← q1, ← q2, List.take_left, ← List.drop_drop, List.drop_left, List.drop_left]
          simp at hcells
          rw [hcells]
          with_reducible apply AWp.seq
          with_reducible apply AWp.regionS
          refine sOps.first 2 ?_
          simp -implicitDefEqProofs
          refine sOps.sp rfl (SOp.sliceM (by decide) 64 id 0 n (n + spl.length) 0 (compS eq L).length (by simp) (by simp) (by simp) (.inl ⟨rfl, rfl⟩) (.inr ⟨_, .i64, rfl, by simp⟩) (by omega) (by omega) (by omega) ?_)
          refine sOps.rest ?_
          simp -implicitDefEqProofs
          repeat (first
            | (with_reducible apply AWp.seq)
            | (with_reducible apply AWp.block)
            | ((with_reducible apply AWp.fork); simp -implicitDefEqProofs [ci_lt, ci_le, wi_i, hC1])
            | ((fail_if_success (with_reducible apply AWp.region (id := 14))); (with_reducible apply AWp.region); simp -implicitDefEqProofs [ci_lt, ci_le, wi_i, hC1])
            | (with_reducible refine And.intro (by first | omega | assumption | decide) ?_)
            | ((with_reducible show condK _ _ _); simp -implicitDefEqProofs [ci_lt, ci_le, wi_i, hC1])
            | ((with_reducible show guardK _ _ _ _ _ _ _ _ _); simp -implicitDefEqProofs [ci_lt, ci_le, wi_i, hC1])
            | (((with_reducible apply AWp.drawS (id := 6) (t := (Sch.step 0 (Sch.step 1 (Sch.step 2 (Sch.step 3 (Sch.step 5 (Sch.step 6 (Sch.step 7 (Sch.step 8 (Sch.read 4 (Sch.read 9 (Sch.alt 10 Sch.done Sch.none))))))))))))); (exact mixed); kernel_rfl; kernel_rfl; (repeat (with_reducible first | apply PanQ.then | apply PanQ.block | apply PanQ.body | apply PanQ.no))); simp -implicitDefEqProofs [ci_lt, ci_le, wi_i, hC1])
            | (((with_reducible apply AWp.drawS (id := 11) (t := (Sch.step 0 (Sch.step 1 (Sch.step 2 (Sch.step 3 (Sch.step 5 (Sch.step 6 (Sch.step 7 (Sch.step 8 (Sch.read 4 (Sch.read 9 (Sch.alt 10 (Sch.step 11 Sch.done) Sch.none))))))))))))); (exact mixed); kernel_rfl; kernel_rfl; (repeat (with_reducible first | apply PanQ.then | apply PanQ.block | apply PanQ.body | apply PanQ.no))); simp -implicitDefEqProofs [ci_lt, ci_le, wi_i, hC1])
            | ((with_reducible apply AWp.ret); try simp -implicitDefEqProofs [ci_lt, ci_le, wi_i, hC1])
            | ((with_reducible apply AWp.skip); try simp -implicitDefEqProofs [ci_lt, ci_le, wi_i, hC1])
            | ((with_reducible apply AWp.exit); try simp -implicitDefEqProofs [ci_lt, ci_le, wi_i, hC1]))
          refine ⟨_, _, Wk.refl _, AS.le_refl _, .inr ⟨id, n + spl.length, List.replicate (n - (compS eq L).length) (zeroAV Try.prog 64) ++ spl, h0, by simp, by simp, fun x hx => ?_, by simp; omega⟩⟩
          rcases List.mem_append.1 hx with hx | hx
          · obtain ⟨y, _, rfl⟩ := List.mem_map.1 hx; rfl
          · rcases List.mem_append.1 hx with hx | hx
            · rw [(List.mem_replicate.1 hx).2]; simp
            · exact hspl x hx
    · obtain rfl : i = n := by omega
      rw [List.take_of_length_le (by omega)] at hX
      repeat (first
        | (with_reducible apply AWp.seq)
        | (with_reducible apply AWp.block)
        | ((with_reducible apply AWp.fork); simp -implicitDefEqProofs [hlt, ci_lt, ci_le])
        | ((fail_if_success (with_reducible apply AWp.region (id := 14))); (with_reducible apply AWp.region); simp -implicitDefEqProofs [hlt, ci_lt, ci_le])
        | (with_reducible refine And.intro (by first | omega | assumption | decide) ?_)
        | ((with_reducible show condK _ _ _); simp -implicitDefEqProofs [hlt, ci_lt, ci_le])
        | ((with_reducible show guardK _ _ _ _ _ _ _ _ _); simp -implicitDefEqProofs [hlt, ci_lt, ci_le])
        | (((with_reducible apply AWp.drawS (id := 6) (t := (Sch.step 0 (Sch.step 1 (Sch.step 2 (Sch.step 3 (Sch.step 5 (Sch.step 6 (Sch.step 7 (Sch.step 8 (Sch.read 4 (Sch.read 9 (Sch.alt 10 Sch.done Sch.none))))))))))))); (exact mixed); kernel_rfl; kernel_rfl; (repeat (with_reducible first | apply PanQ.then | apply PanQ.block | apply PanQ.body | apply PanQ.no))); simp -implicitDefEqProofs [hlt, ci_lt, ci_le])
        | (((with_reducible apply AWp.drawS (id := 11) (t := (Sch.step 0 (Sch.step 1 (Sch.step 2 (Sch.step 3 (Sch.step 5 (Sch.step 6 (Sch.step 7 (Sch.step 8 (Sch.read 4 (Sch.read 9 (Sch.alt 10 (Sch.step 11 Sch.done) Sch.none))))))))))))); (exact mixed); kernel_rfl; kernel_rfl; (repeat (with_reducible first | apply PanQ.then | apply PanQ.block | apply PanQ.body | apply PanQ.no))); simp -implicitDefEqProofs [hlt, ci_lt, ci_le])
        | ((with_reducible apply AWp.ret); try simp -implicitDefEqProofs [hlt, ci_lt, ci_le])
        | ((with_reducible apply AWp.skip); try simp -implicitDefEqProofs [hlt, ci_lt, ci_le])
        | ((with_reducible apply AWp.exit); try simp -implicitDefEqProofs [hlt, ci_lt, ci_le]))
      exact ⟨_, _, Wk.refl _, AS.le_refl _, done hX⟩

end Go.Proofs.Ythbmjmdmamapiaa
