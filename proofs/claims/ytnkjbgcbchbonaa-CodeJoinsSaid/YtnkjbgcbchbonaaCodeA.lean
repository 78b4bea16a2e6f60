/- Package code: Decode. -/
import Derived.Test.YtnkjbgcbchbonaaCode9
set_option linter.unusedSimpArgs false
set_option linter.unusedVariables false
set_option maxRecDepth 100000
set_option maxHeartbeats 3200000
namespace Go.Proofs.Ytnkjbgcbchbonaa
open Go Go.AW
abbrev sc_20_15_XCodeA : Sch := (Sch.step 0 (Sch.step 1 (Sch.step 2 (Sch.step 4 (Sch.step 5 (Sch.step 6 (Sch.step 8 (Sch.read 3 (Sch.read 7 (Sch.step 9 (Sch.read 10 (Sch.pure 11 (Sch.step 12 (Sch.step 13 (Sch.step 14 (Sch.step 15 (Sch.step 16 Sch.done)))))))))))))))))
abbrev sc_20_17_XCodeA : Sch := (Sch.step 0 (Sch.step 1 (Sch.step 2 (Sch.step 4 (Sch.step 7 (Sch.step 8 (Sch.read 3 (Sch.step 5 (Sch.read 6 (Sch.step 9 (Sch.step 10 Sch.done)))))))))))

theorem gv_upd {e : TypeId} {es : List AV} {v : AV} {S τ : AS} {j : Nat} {x b : ABlk} (h : GV Try.prog e es v S τ) (hj : S j = some x) : GV Try.prog e es v (S.set j b) (τ.set j b) := by
  rcases h with ⟨h1, h2, rfl⟩ | ⟨id, cap, spl, h0, h1, rfl, h3⟩
  · exact .inl ⟨h1, h2, rfl⟩
  · have hne : ¬ id = j := by rintro rfl; rw [h0] at hj; cases hj
    exact .inr ⟨id, cap, spl, by simp [AS.set, hne, h0], h1, AS.set_comm hne, h3⟩
theorem gv_len {e t x : TypeId} {es : List AV} {v : AV} {S τ : AS} (h : GV Try.prog e es v S τ) (ht : Try.prog.underlying t = some (.slice x)) (τ' : AS) (K : AV → Prop) : aLen Try.prog τ' t v K = K (.sc (.int .i64 es.length)) := by
  rcases h with ⟨h1, h2, rfl⟩ | ⟨id, cap, spl, h0, h1, rfl, h3⟩
  · subst h1 h2; simp [aLen, ht]
  · subst h1; simp [aLen, ht]
/-- One cell of an element is written. -/
theorem flatC_cell {m : Nat} {l : List AV} (h : ∀ v ∈ l, v.cells.length = m) {i j : Nat} (hi : i < l.length) (hj : j < m) {v w : AV} (hv : v.cells = l[i].cells.set j w) :
    (flatC l).take (i * m + j) ++ w :: (flatC l).drop (i * m + j + 1) = flatC (l.set i v) := by
  have h3 := h l[i] (List.getElem_mem hi)
  obtain ⟨h1, h2⟩ := flatC_split h hi
  rw [← flatC_set h hi (v := v) (by rw [hv]; simp [h3]), hv]
  have hA : (flatC l).take (i * m) = flatC (l.take i) := by rw [h1, List.take_append_of_le_length (by omega), List.take_of_length_le (by omega)]
  have hB : (flatC l).drop (i * m + m) = flatC (l.drop (i + 1)) := by
    rw [h1, ← List.append_assoc, List.drop_append_of_le_length (by simp; omega), List.drop_eq_nil_of_le (by simp; omega), List.nil_append]
  rw [hA, hB, h1, List.set_eq_take_append_cons_drop, if_pos (by omega)]
  have e1 : (flatC (l.take i) ++ (l[i].cells ++ flatC (l.drop (i + 1)))).take (i * m + j) = flatC (l.take i) ++ l[i].cells.take j := by
    rw [← h2, List.take_length_add_append, List.take_append_of_le_length (by omega)]
  have e2 : (flatC (l.take i) ++ (l[i].cells ++ flatC (l.drop (i + 1)))).drop (i * m + j + 1) = l[i].cells.drop (j + 1) ++ flatC (l.drop (i + 1)) := by
    rw [show i * m + j + 1 = (flatC (l.take i)).length + (j + 1) by omega, List.drop_length_add_append, List.drop_append_of_le_length (by omega)]
  rw [e1, e2]
  simp
theorem flatC_get1 {m : Nat} {l : List AV} (h : ∀ v ∈ l, v.cells.length = m) {i j : Nat} (hi : i < l.length) (hj : j < m) : (flatC l)[i * m + j]? = l[i].cells[j]? := by
  obtain ⟨h1, h2⟩ := flatC_get l h
  have h4 := h l[i] (List.getElem_mem hi)
  have h3 := h2 i j hi hj
  have hlt : i * m + j < (flatC l).length := by rw [h1]; exact idx_lt hi hj
  rw [List.getElem?_eq_getElem hlt, List.getElem?_eq_getElem (by omega)]
  simp only [List.getD_eq_getElem?_getD, List.getElem?_eq_getElem hlt, List.getElem?_eq_getElem hi, Option.getD_some] at h3
  rw [h3, List.getElem?_eq_getElem (by omega)]
  rfl

def preR (r : List RI) : Except (Int × Int) (List RI) → Except (Int × Int) (List RI)
  | .error e => .error e
  | .ok s => .ok (r ++ s)
theorem preR_step {b : List UInt8} {k a : Nat} (ha : a < b.length) (r : List RI) : preR r (decG b (k + 1) a) = match oneD b a with | .error e => .error e | .ok (x, t, a') => preR (r ++ [⟨x, a, t⟩]) (decG b k a') := by
  simp only [decG, if_pos ha]
  cases oneD b a with
  | error e => rfl
  | ok y =>
    obtain ⟨x, t, a'⟩ := y
    simp only
    cases decG b k a' with
    | error e => rfl
    | ok s => simp [preR]

theorem castL {op : Int} (h : 0 ≤ wdO (oO op)) (a : Nat) : ((a + 1 + (wdO (oO op)).toNat : Nat) : Int) = a + 1 + wdO (oO op) := by omega
theorem one_error {b : List UInt8} {a : Nat} {nl : Bool} {idr idx ta tj : Nat} {A J : List Int} {σ : AS} {p e : Int}
    (h : oneD b a = .error (p, e)) (h1 : σ idr = some (rdC b a nl)) (h2 : σ idx = some (rcC idr b.length A J ta tj)) (h3 : σ ta = some (.tok A.length)) (h4 : σ tj = some (.tok J.length))
    (hb : b.length ≤ 140737488355328) (hlt : a < b.length) (n_ta_tj : ¬ ta = tj) (hA : A.length ≤ 1000) (hJ : J.length ≤ 1000) :
    ∃ a2 : Int, ACalls Try.prog 41 [.ptr idx 0] σ (Gives (.tup [insV ⟨0, 0, noTy⟩, .sc (.int .i64 p), .sc (.int .i64 e)]) (σ.set idr (rdC b a2 nl))) No := by
  unfold oneD at h
  split at h
  · rename_i hop
    cases h
    exact ⟨_, one_form b a nl idr idx ta tj A J b.length σ h1 h2 hb hlt hop⟩
  rename_i hop
  split at h
  · rename_i hs
    cases h
    exact ⟨_, one_short b a nl idr idx ta tj A J b.length σ h1 h2 hb hlt hop hs⟩
  rename_i hs
  split at h
  · cases h
  rename_i hraw
  cases h
  have hw := wd_range (oO ((b.getD a 0).toNat : Int))
  have h9 := one_run b a nl idr idx ta tj A J b.length σ h1 h2 h3 h4 hb hlt n_ta_tj hA hJ ((b.getD a 0).toNat : Int) (oO ((b.getD a 0).toNat : Int)) _ _ rfl rfl rfl rfl hop (by omega) false (by
    rw [show ((a + 1 : Nat) : Int) = (a : Int) + 1 by omega, show (((wdO (oO ((b.getD a 0).toNat : Int))).toNat : Nat) : Int) = wdO (oO ((b.getD a 0).toNat : Int)) by omega] at hraw
    simpa using hraw)
  exact ⟨_, h9⟩
theorem one_okay {b : List UInt8} {a : Nat} {nl : Bool} {idr idx ta tj : Nat} {A J : List Int} {σ : AS} {x : Ins} {t : Int} {a' : Nat}
    (h : oneD b a = .ok (x, t, a')) (h1 : σ idr = some (rdC b a nl)) (h2 : σ idx = some (rcC idr b.length A J ta tj)) (h3 : σ ta = some (.tok A.length)) (h4 : σ tj = some (.tok J.length))
    (hb : b.length ≤ 140737488355328) (hlt : a < b.length) (n_ta_tj : ¬ ta = tj) (hA : A.length ≤ 1000) (hJ : J.length ≤ 1000) :
    ACalls Try.prog 41 [.ptr idx 0] σ (Gives (.tup [insV x, .sc (.int .i64 0), .sc (.int .i64 0)])
      ((((σ.set idr (rdC b a' nl)).set idx (rcC idr b.length (A ++ [(a : Int)]) (J ++ [t]) ta tj)).set ta (.tok (A.length + 1))).set tj (.tok (J.length + 1)))) No := by
  unfold oneD at h
  split at h
  · cases h
  rename_i hop
  split at h
  · cases h
  rename_i hs
  split at h
  · rename_i hraw
    simp only [Except.ok.injEq, Prod.mk.injEq] at h
    obtain ⟨rfl, rfl, rfl⟩ := h
    have hw := wd_range (oO ((b.getD a 0).toNat : Int))
    have e1 : ((a + 1 : Nat) : Int) = (a : Int) + 1 := by omega
    have e2 : (((wdO (oO ((b.getD a 0).toNat : Int))).toNat : Nat) : Int) = wdO (oO ((b.getD a 0).toNat : Int)) := by omega
    have e3 := castL hw.1 a
    rw [e1, e2] at hraw
    have h9 := one_run b a nl idr idx ta tj A J b.length σ h1 h2 h3 h4 hb hlt n_ta_tj hA hJ ((b.getD a 0).toNat : Int) (oO ((b.getD a 0).toNat : Int)) _
      (toD (oO ((b.getD a 0).toNat : Int)) (numL (seg b (a + 1 : Nat) (wdO (oO ((b.getD a 0).toNat : Int))).toNat)) (a + 1 + (wdO (oO ((b.getD a 0).toNat : Int))).toNat)) rfl rfl rfl (by
        rw [e1, e2]
        unfold toD
        split
        · rename_i e; rw [e3, e]; simp [wdO]; omega
        · rfl) hop (by omega) true hraw
    simp only [if_true] at h9
    rw [e1, e2, e3] at *
    exact h9
  · cases h

theorem le_none {σ τ : AS} {i : Nat} (h : AS.le σ τ) (hi : τ i = none) : σ i = none := by
  cases hx : σ i with
  | none => rfl
  | some y => have := h i y hx; rw [hi] at this; cases this
def preD (d : List Ins) : Except (Int × Int) (List Ins) → Except (Int × Int) (List Ins)
  | .error e => .error e
  | .ok s => .ok (d ++ s)
theorem preD_step (L : List Int) (d : List Ins) (y : RI) (s : List RI) : preD d (resG L (y :: s)) = match fixD L y with | .error e => .error e | .ok x => preD (d ++ [x]) (resG L s) := by
  simp only [resG]
  cases fixD L y with
  | error e => rfl
  | ok x =>
    simp only
    cases resG L s with
    | error e => rfl
    | ok l => simp [preD]

/-- What Decode hands back. -/
def DecQ (D : (List Ins × List Int) × Int × Int) (σ : AS) (r : AV) (σ' : AS) : Prop :=
  ∃ nl', (nl' = true → D.1.1 = []) ∧ σ' = σ ∧ r = .tup [insL D.1.1 .unk nl', .lst 3 (D.1.2.map i64v) .unk (decide (D.1.2 = [])), .sc (.int .i64 D.2.1), .sc (.int .i64 D.2.2)]
theorem Wk_tup4 {P : Program} {a b c d a' b' c' d' : AV} (h1 : AV.Wk P a a') (h2 : AV.Wk P b b') (h3 : AV.Wk P c c') (h4 : AV.Wk P d d') : AV.Wk P (.tup [a, b, c, d]) (.tup [a', b', c', d']) := by
  intro G x h
  cases h with
  | tup vs l h =>
    refine .tup vs l fun i hi => ?_
    have := h i hi
    match i, hi with
    | 0, _ => exact h1 _ _ this
    | 1, _ => exact h2 _ _ this
    | 2, _ => exact h3 _ _ this
    | 3, _ => exact h4 _ _ this

/-- Where the reader stands. -/
def stD (σ : AS) (b : List UInt8) (nl : Bool) (idr idx ta tj : Nat) (r : List RI) (a : Int) : AS :=
  (((σ.set idr (rdC b a nl)).set idx (rcC idr b.length (r.map (·.a)) (r.map (·.t)) ta tj)).set ta (.tok r.length)).set tj (.tok r.length)

theorem cdecode_ok (b : List UInt8) (own : Own) (nl : Bool) (hn : nl = true → b = []) (hb : b.length ≤ 100000) (σ : AS) :
    ACalls Try.prog 20 [.lst 5 (b.map u8) own nl] σ (DecQ (decS b) σ) No := by
  have hnew := new_ok b own nl hn (by omega) σ
  have hlf := fun idr a σ h h2 h3 => left_ok idr b a nl σ h h2 h3 (by omega)
  have hatt := fun idr a σ h => at_ok idr b a nl σ h
  refine ACalls.of_body Try.func20 rfl rfl (by simp [Try.ntmps20]) ?_
  repeat (first
    | (with_reducible first | apply AWp.seq | apply AWp.block | refine And.intro (by first | omega | assumption | decide) ?_)
    | ((first | (with_reducible first | apply AWp.fork | apply AWp.region | show condK _ _ _ | show guardK _ _ _ _ _ _ _ _ _) | ((with_reducible apply AWp.drawS (id := 15) (t := sc_20_15_XCodeA)); (exact mixed); kernel_rfl; kernel_rfl; (repeat (with_reducible first | apply PanQ.then | apply PanQ.block | apply PanQ.body | apply PanQ.no))) | ((with_reducible apply AWp.drawS (id := 17) (t := sc_20_17_XCodeA)); (exact mixed); kernel_rfl; kernel_rfl; (repeat (with_reducible first | apply PanQ.then | apply PanQ.block | apply PanQ.body | apply PanQ.no)))); simp -implicitDefEqProofs [ci_lt, ci_le])
    | ((with_reducible first | apply AWp.ret | apply AWp.skip | apply AWp.exit); try simp -implicitDefEqProofs [ci_lt, ci_le]))
  refine aCall.of hnew ?_ (fun _ _ h => h.elim)
  rintro r0 σ0 ⟨idr, h_idr, rfl, rfl⟩
  simp -implicitDefEqProofs [ci_lt, ci_le]
  intro idx n_idx_idr h_idx
  have n_idr_idx : ¬ idr = idx := fun e => n_idx_idr e.symm
  refine AWp.mintC idx 2 3 [] true (ty := 79) (cs := [.ptr idr 0, .sc (.int .i64 b.length), .nilS, .nilS]) (by simp [n_idx_idr]) (by simp) (.inr ⟨by simp, rfl, rfl⟩) ?_
  simp -implicitDefEqProofs [ci_lt, ci_le, n_idx_idr, n_idr_idx]
  intro ta n_ta_idx n_ta_idr h_ta
  have n_idx_ta : ¬ idx = ta := fun e => n_ta_idx e.symm
  have n_idr_ta : ¬ idr = ta := fun e => n_ta_idr e.symm
  refine AWp.mintC idx 3 3 [] true (ty := 79) (cs := [.ptr idr 0, .sc (.int .i64 b.length), .lst 3 [] (.tok ta) true, .nilS]) (by simp [n_idx_idr, n_idx_ta]) (by simp) (.inr ⟨by simp, rfl, rfl⟩) ?_
  simp -implicitDefEqProofs [n_idx_ta, n_ta_idx, ci_lt, ci_le, n_idx_idr, n_idr_idx]
  intro tj n_tj_ta n_tj_idx n_tj_idr h_tj
  have n_ta_tj : ¬ ta = tj := fun e => n_tj_ta e.symm
  have n_idx_tj : ¬ idx = tj := fun e => n_tj_idx e.symm
  have n_idr_tj : ¬ idr = tj := fun e => n_tj_idr e.symm
  repeat (first
    | (with_reducible first | apply AWp.seq | apply AWp.block | refine And.intro (by first | omega | assumption | decide) ?_)
    | ((first | (with_reducible first | apply AWp.fork | ((fail_if_success (apply AWp.region (id := 10))); apply AWp.region) | show condK _ _ _ | show guardK _ _ _ _ _ _ _ _ _) | ((with_reducible apply AWp.drawS (id := 15) (t := sc_20_15_XCodeA)); (exact mixed); kernel_rfl; kernel_rfl; (repeat (with_reducible first | apply PanQ.then | apply PanQ.block | apply PanQ.body | apply PanQ.no))) | ((with_reducible apply AWp.drawS (id := 17) (t := sc_20_17_XCodeA)); (exact mixed); kernel_rfl; kernel_rfl; (repeat (with_reducible first | apply PanQ.then | apply PanQ.block | apply PanQ.body | apply PanQ.no)))); simp -implicitDefEqProofs [ci_lt, ci_le, n_idx_idr, n_idr_idx, n_idx_ta, n_ta_idx, n_ta_idr, n_idr_ta, n_tj_ta, n_tj_idx, n_tj_idr, n_ta_tj, n_idx_tj, n_idr_tj])
    | ((with_reducible first | apply AWp.ret | apply AWp.skip | apply AWp.exit); try simp -implicitDefEqProofs [ci_lt, ci_le, n_idx_idr, n_idr_idx, n_idx_ta, n_ta_idx, n_ta_idr, n_idr_ta, n_tj_ta, n_tj_idx, n_tj_idr, n_ta_tj, n_idx_tj, n_idr_tj]))
  refine AWp.loopA (α := (List RI) × (Nat) × (AV) × (AS)) (([], 0, .nilS, stD σ b nl idr idx ta tj [] 0)) (fun ⟨r, a, v, τ⟩ => b.length - a) (fun ⟨r, a, v, τ⟩ => a ≤ b.length ∧ r.length ≤ 160 ∧ preR r (decG b (160 - r.length) a) = decG b 160 0 ∧ GV Try.prog 42 (r.map fun y => insV y.x) v (stD σ b nl idr idx ta tj r a) τ ∧ (r.map (·.a) ++ [(a : Int)]).Pairwise (· < ·)) [(0, ?_), (6, ?_)] (fun ⟨r, a, v, τ⟩ => [(7, v)]) (fun ⟨r, a, v, τ⟩ => τ) ?_ ?_ ?_ ?_
  rotate_left 2
  · (try dsimp only); (simp only [List.cons_append, List.nil_append]; repeat (first | exact FrWk.nil | refine FrWk.cons (by first | (simp -implicitDefEqProofs [ci_lt, ci_le, n_idx_idr, n_idr_idx, n_idx_ta, n_ta_idx, n_ta_idr, n_idr_ta, n_tj_ta, n_tj_idx, n_tj_idr, n_ta_tj, n_idx_tj, n_idr_tj]; done) | exact Wk.of (by (try simp -implicitDefEqProofs [ci_lt, ci_le, n_idx_idr, n_idr_idx, n_idx_ta, n_ta_idx, n_ta_idr, n_idr_ta, n_tj_ta, n_tj_idx, n_tj_idr, n_ta_tj, n_idx_tj, n_idr_tj]) <;> rfl)) ?_))
  · (try dsimp only); (simp [stD, rcC_def])
  · exact ⟨by omega, by simp, by simp [preR]; cases decG b 160 0 <;> rfl, GV.nil, by simp⟩
  intro x_ hx_
  obtain ⟨r, a, v, τ⟩ := x_
  try dsimp only at hx_ ⊢
  obtain ⟨ha, hr, hX, hG, hP⟩ := hx_
  simp only [List.cons_append, List.nil_append]
  have hle := hG.le
  have hσS : AS.le σ (stD σ b nl idr idx ta tj r a) := by
    unfold stD
    exact AS.le_set (AS.le_set (AS.le_set (AS.le_set (AS.le_refl _) h_idr) h_idx) h_ta) h_tj
  have hσ := AS.le_trans hσS hle
  have hτr : τ idr = some (rdC b a nl) := hle idr _ (by simp [stD, n_idr_idx, n_idr_ta, n_idr_tj])
  have hτx : τ idx = some (rcC idr b.length (r.map (·.a)) (r.map (·.t)) ta tj) := hle idx _ (by simp [stD, n_idx_ta, n_idx_tj])
  have hτa : τ ta = some (.tok r.length) := hle ta _ (by simp [stD, n_ta_tj])
  have hτj : τ tj = some (.tok r.length) := hle tj _ (by simp [stD])
  have hgl := gv_len hG (t := 22) Try.underlying22
  have hτx' := hτx
  rw [rcC_def] at hτx'
  have hl1 := hlf idr a τ hτr (by omega) (by omega)
  have ha1 := hatt idr a τ hτr
  by_cases hlt : a < b.length
  · have hpos : (a < b.length) = True := eq_true hlt
    by_cases h160 : r.length = 160
    · have hD : decG b 160 0 = .error (a, 4) := by rw [← hX, h160]; simp [decG, hlt, preR]
      have hDS : decS b = (([], []), (a : Int), 4) := by unfold decS; rw [hD]
      rw [hDS]
      have h160' : ((r.length : Int) = 160) = True := eq_true (by omega)
      repeat (first
        | (with_reducible first | apply AWp.seq | apply AWp.block | refine And.intro (by first | omega | assumption | decide) ?_)
        | ((first | (with_reducible first | apply AWp.fork | ((fail_if_success (apply AWp.region (id := 10))); apply AWp.region) | show condK _ _ _ | show guardK _ _ _ _ _ _ _ _ _) | ((with_reducible apply AWp.drawS (id := 15) (t := sc_20_15_XCodeA)); (exact mixed); kernel_rfl; kernel_rfl; (repeat (with_reducible first | apply PanQ.then | apply PanQ.block | apply PanQ.body | apply PanQ.no))) | ((with_reducible apply AWp.drawS (id := 17) (t := sc_20_17_XCodeA)); (exact mixed); kernel_rfl; kernel_rfl; (repeat (with_reducible first | apply PanQ.then | apply PanQ.block | apply PanQ.body | apply PanQ.no))) | ((with_reducible apply aCall.id); first | apply aCall.gives (hl1) | apply aCall.gives (ha1)) | ((with_reducible apply pureCall.id); first | apply pureCall.gives (fun _ => hl1) | apply pureCall.gives (fun _ => ha1))); simp -implicitDefEqProofs [hpos, h160, h160', ci_lt, ci_le, n_idx_idr, n_idr_idx, n_idx_ta, n_ta_idx, n_ta_idr, n_idr_ta, n_tj_ta, n_tj_idx, n_tj_idr, n_ta_tj, n_idx_tj, n_idr_tj, hτx', ↓hgl])
        | ((with_reducible first | apply AWp.ret | apply AWp.skip | apply AWp.exit); try simp -implicitDefEqProofs [hpos, h160, h160', ci_lt, ci_le, n_idx_idr, n_idr_idx, n_idx_ta, n_ta_idx, n_ta_idr, n_idr_ta, n_tj_ta, n_tj_idx, n_tj_idr, n_ta_tj, n_idx_tj, n_idr_tj, hτx', ↓hgl]))
      exact ⟨_, σ, Wk_tup4 (by simp [insL]) (by simp) (Wk.refl _) (Wk.refl _), hσ, true, by simp, rfl, rfl⟩
    · have h160' : ((r.length : Int) = 160) = False := eq_false (by omega)
      obtain ⟨k, hk⟩ : ∃ k, 160 - r.length = k + 1 := ⟨160 - r.length - 1, by omega⟩
      rw [hk, preR_step hlt] at hX
      cases hone : oneD b a with
      | error pe =>
        obtain ⟨p, e⟩ := pe
        rw [hone] at hX
        simp only at hX
        have hDS : decS b = (([], []), p, e) := by unfold decS; rw [← hX]
        rw [hDS]
        have he0 : ¬ e = 0 := one_err hone
        obtain ⟨a2, hc⟩ := one_error hone hτr hτx (by simpa using hτa) (by simpa using hτj) (by omega) hlt n_ta_tj (by simp; omega) (by simp; omega)
        simp only [insV, noTy] at hc
        repeat (first
          | (with_reducible first | apply AWp.seq | apply AWp.block | refine And.intro (by first | omega | assumption | decide) ?_)
          | ((first | (with_reducible first | apply AWp.fork | ((fail_if_success (apply AWp.region (id := 10))); apply AWp.region) | show condK _ _ _ | show guardK _ _ _ _ _ _ _ _ _) | ((with_reducible apply AWp.drawS (id := 15) (t := sc_20_15_XCodeA)); (exact mixed); kernel_rfl; kernel_rfl; (repeat (with_reducible first | apply PanQ.then | apply PanQ.block | apply PanQ.body | apply PanQ.no))) | ((with_reducible apply AWp.drawS (id := 17) (t := sc_20_17_XCodeA)); (exact mixed); kernel_rfl; kernel_rfl; (repeat (with_reducible first | apply PanQ.then | apply PanQ.block | apply PanQ.body | apply PanQ.no))) | ((with_reducible apply aCall.id); first | apply aCall.gives (hl1) | apply aCall.gives (hc)) | ((with_reducible apply pureCall.id); first | apply pureCall.gives (fun _ => hl1) | apply pureCall.gives (fun _ => hc))); simp -implicitDefEqProofs [hpos, h160, h160', he0, ci_lt, ci_le, n_idx_idr, n_idr_idx, n_idx_ta, n_ta_idx, n_ta_idr, n_idr_ta, n_tj_ta, n_tj_idx, n_tj_idr, n_ta_tj, n_idx_tj, n_idr_tj, hτx', ↓hgl])
          | ((with_reducible first | apply AWp.ret | apply AWp.skip | apply AWp.exit); try simp -implicitDefEqProofs [hpos, h160, h160', he0, ci_lt, ci_le, n_idx_idr, n_idr_idx, n_idx_ta, n_ta_idx, n_ta_idr, n_idr_ta, n_tj_ta, n_tj_idx, n_tj_idr, n_ta_tj, n_idx_tj, n_idr_tj, hτx', ↓hgl]))
        intro id8 m1 h_id8
        repeat (first
          | (with_reducible first | apply AWp.seq | apply AWp.block | refine And.intro (by first | omega | assumption | decide) ?_)
          | ((first | (with_reducible first | apply AWp.fork | ((fail_if_success (apply AWp.region (id := 10))); apply AWp.region) | show condK _ _ _ | show guardK _ _ _ _ _ _ _ _ _) | ((with_reducible apply AWp.drawS (id := 15) (t := sc_20_15_XCodeA)); (exact mixed); kernel_rfl; kernel_rfl; (repeat (with_reducible first | apply PanQ.then | apply PanQ.block | apply PanQ.body | apply PanQ.no))) | ((with_reducible apply AWp.drawS (id := 17) (t := sc_20_17_XCodeA)); (exact mixed); kernel_rfl; kernel_rfl; (repeat (with_reducible first | apply PanQ.then | apply PanQ.block | apply PanQ.body | apply PanQ.no)))); simp -implicitDefEqProofs [hpos, h160, h160', he0, ci_lt, ci_le, n_idx_idr, n_idr_idx, n_idx_ta, n_ta_idx, n_ta_idr, n_idr_ta, n_tj_ta, n_tj_idx, n_tj_idr, n_ta_tj, n_idx_tj, n_idr_tj, hτx', ↓hgl])
          | ((with_reducible first | apply AWp.ret | apply AWp.skip | apply AWp.exit); try simp -implicitDefEqProofs [hpos, h160, h160', he0, ci_lt, ci_le, n_idx_idr, n_idr_idx, n_idx_ta, n_ta_idx, n_ta_idr, n_idr_ta, n_tj_ta, n_tj_idx, n_tj_idr, n_ta_tj, n_idx_tj, n_idr_tj, hτx', ↓hgl]))
        exact ⟨_, σ, Wk_tup4 (by simp [insL]) (by simp) (Wk.refl _) (Wk.refl _), AS.le_set (AS.le_set hσ h_idr) (le_none hσ h_id8), true, by simp, rfl, rfl⟩
      | ok y =>
        obtain ⟨x, tt, a'⟩ := y
        rw [hone] at hX
        simp only at hX
        obtain ⟨o1, o2, o3, o4, o5⟩ := one_inv hlt hone
        have hwd := wd_range (oO x.op)
        have hc := one_okay hone hτr hτx (by simpa using hτa) (by simpa using hτj) (by omega) hlt n_ta_tj (by simp; omega) (by simp; omega)
        have hxv : insV x = .agg [.sc (.int .i64 x.op), .sc (.int .i64 x.arg), .sc (.int .i64 x.t.kind), .sc (.int .i64 x.t.index), .sc (.int .i64 x.t.dims), .sc (.bool x.t.ref)] := rfl
        rw [hxv] at hc
        repeat (first
          | (with_reducible first | apply AWp.seq | apply AWp.block | refine And.intro (by first | omega | assumption | decide) ?_)
          | ((first | (with_reducible first | apply AWp.fork | ((fail_if_success (apply AWp.region (id := 9))); apply AWp.region) | show condK _ _ _ | show guardK _ _ _ _ _ _ _ _ _) | ((with_reducible apply AWp.drawS (id := 15) (t := sc_20_15_XCodeA)); (exact mixed); kernel_rfl; kernel_rfl; (repeat (with_reducible first | apply PanQ.then | apply PanQ.block | apply PanQ.body | apply PanQ.no))) | ((with_reducible apply AWp.drawS (id := 17) (t := sc_20_17_XCodeA)); (exact mixed); kernel_rfl; kernel_rfl; (repeat (with_reducible first | apply PanQ.then | apply PanQ.block | apply PanQ.body | apply PanQ.no))) | ((with_reducible apply aCall.id); first | apply aCall.gives (hl1) | apply aCall.gives (hc)) | ((with_reducible apply pureCall.id); first | apply pureCall.gives (fun _ => hl1) | apply pureCall.gives (fun _ => hc))); simp -implicitDefEqProofs [hpos, h160, h160', ci_lt, ci_le, n_idx_idr, n_idr_idx, n_idx_ta, n_ta_idx, n_ta_idr, n_idr_ta, n_tj_ta, n_tj_idx, n_tj_idr, n_ta_tj, n_idx_tj, n_idr_tj, hτx', ↓hgl])
          | ((with_reducible first | apply AWp.ret | apply AWp.skip | apply AWp.exit); try simp -implicitDefEqProofs [hpos, h160, h160', ci_lt, ci_le, n_idx_idr, n_idr_idx, n_idx_ta, n_ta_idx, n_ta_idr, n_idr_ta, n_tj_ta, n_tj_idx, n_tj_idr, n_ta_tj, n_idx_tj, n_idr_tj, hτx', ↓hgl]))
        intro id8 m1 m2 m3 m4 h_id8
        repeat (first
          | (with_reducible first | apply AWp.seq | apply AWp.block | refine And.intro (by first | omega | assumption | decide) ?_)
          | ((first | (with_reducible first | apply AWp.fork | ((fail_if_success (apply AWp.region (id := 9))); apply AWp.region) | show condK _ _ _ | show guardK _ _ _ _ _ _ _ _ _) | ((with_reducible apply AWp.drawS (id := 15) (t := sc_20_15_XCodeA)); (exact mixed); kernel_rfl; kernel_rfl; (repeat (with_reducible first | apply PanQ.then | apply PanQ.block | apply PanQ.body | apply PanQ.no))) | ((with_reducible apply AWp.drawS (id := 17) (t := sc_20_17_XCodeA)); (exact mixed); kernel_rfl; kernel_rfl; (repeat (with_reducible first | apply PanQ.then | apply PanQ.block | apply PanQ.body | apply PanQ.no)))); simp -implicitDefEqProofs [ci_lt, ci_le, n_idx_idr, n_idr_idx, n_idx_ta, n_ta_idx, n_ta_idr, n_idr_ta, n_tj_ta, n_tj_idx, n_tj_idr, n_ta_tj, n_idx_tj, n_idr_tj, hτx', ↓hgl])
          | ((with_reducible first | apply AWp.ret | apply AWp.skip | apply AWp.exit); try simp -implicitDefEqProofs [ci_lt, ci_le, n_idx_idr, n_idr_idx, n_idx_ta, n_ta_idx, n_ta_idr, n_idr_ta, n_tj_ta, n_tj_idx, n_tj_idr, n_ta_tj, n_idx_tj, n_idr_tj, hτx', ↓hgl]))
        have hS : ((((stD σ b nl idr idx ta tj r a).set idr (rdC b a' nl)).set idx (rcC idr b.length (r.map (·.a) ++ [(a : Int)]) (r.map (·.t) ++ [tt]) ta tj)).set ta (.tok (r.length + 1))).set tj (.tok (r.length + 1)) = stD σ b nl idr idx ta tj (r ++ [⟨x, a, tt⟩]) a' := by
          funext j_
          simp [stD, AS.set]
          by_cases e1 : j_ = tj <;> by_cases e2 : j_ = ta <;> by_cases e3 : j_ = idx <;> by_cases e4 : j_ = idr <;> simp [e1, e2, e3, e4]
        have hG1 := gv_upd (b := .tok (r.length + 1)) (j := tj) (x := .tok r.length) (gv_upd (b := .tok (r.length + 1)) (j := ta) (x := .tok r.length) (gv_upd (b := rcC idr b.length (r.map (·.a) ++ [(a : Int)]) (r.map (·.t) ++ [tt]) ta tj) (j := idx) (x := rcC idr b.length (r.map (·.a)) (r.map (·.t)) ta tj)
          (gv_upd (b := rdC b a' nl) (j := idr) (x := rdC b a nl) hG (by simp [stD, n_idr_idx, n_idr_ta, n_idr_tj])) (by simp [stD, n_idx_idr, n_idx_ta, n_idx_tj])) (by simp [stD, n_ta_idr, n_ta_idx, n_ta_tj])) (by simp [stD, n_tj_idr, n_tj_idx, n_tj_ta])
        rw [hS] at hG1
        have hG8 := hG1.set (j := id8) (b := .cells 42 (insV x).cells) (by simp [m1, m2, m3, m4, h_id8])
        have hf8 : stD σ b nl idr idx ta tj (r ++ [⟨x, a, tt⟩]) a' id8 = none := hG1.fresh (by simp [m1, m2, m3, m4, h_id8])
        rw [hxv] at hG8
        simp only [cells_agg] at hG8
        with_reducible apply AWp.regionS
        refine sOps.first 3 ?_
        simp -implicitDefEqProofs [hxv]
        refine sOps.sp rfl (SOp.appendG (by decide) 42 (r.map fun y => insV y.x) [insV x] _ (by simp) (by simp) (by simp) (by simp) (by simpa using hG8) (by simp [srcElems, Try.underlying22, hxv]) (by simp [hxv]) (by simp [roomB]; omega) (by simp; omega) ?_)
        intro v2 τ2 hG2
        refine sOps.rest ?_
        simp -implicitDefEqProofs
        obtain ⟨τ3, hG3, hle3⟩ := hG2.weak (S := stD σ b nl idr idx ta tj (r ++ [⟨x, a, tt⟩]) a') (le_new hf8 (AS.le_refl _))
        repeat (first
          | (with_reducible first | apply AWp.seq | apply AWp.block | refine And.intro (by first | omega | assumption | decide) ?_)
          | ((first | (with_reducible first | apply AWp.fork | apply AWp.region | show condK _ _ _ | show guardK _ _ _ _ _ _ _ _ _) | ((with_reducible apply AWp.drawS (id := 15) (t := sc_20_15_XCodeA)); (exact mixed); kernel_rfl; kernel_rfl; (repeat (with_reducible first | apply PanQ.then | apply PanQ.block | apply PanQ.body | apply PanQ.no))) | ((with_reducible apply AWp.drawS (id := 17) (t := sc_20_17_XCodeA)); (exact mixed); kernel_rfl; kernel_rfl; (repeat (with_reducible first | apply PanQ.then | apply PanQ.block | apply PanQ.body | apply PanQ.no)))); simp -implicitDefEqProofs [ci_lt, ci_le, n_idx_idr, n_idr_idx, n_idx_ta, n_ta_idx, n_ta_idr, n_idr_ta, n_tj_ta, n_tj_idx, n_tj_idr, n_ta_tj, n_idx_tj, n_idr_tj, hτx', ↓hgl])
          | ((with_reducible first | apply AWp.ret | apply AWp.skip | apply AWp.exit); try simp -implicitDefEqProofs [ci_lt, ci_le, n_idx_idr, n_idr_idx, n_idx_ta, n_ta_idx, n_ta_idr, n_idr_ta, n_tj_ta, n_tj_idx, n_tj_idr, n_ta_tj, n_idx_tj, n_idr_tj, hτx', ↓hgl]))
        refine stepA.mk ((r ++ [⟨x, a, tt⟩], a', v2, τ3)) (by (try dsimp only); omega) (by (try dsimp only); (simp only [List.cons_append, List.nil_append]; repeat (first | exact FrWk.nil | refine FrWk.cons (by first | (simp -implicitDefEqProofs [ci_lt, ci_le, n_idx_idr, n_idr_idx, n_idx_ta, n_ta_idx, n_ta_idr, n_idr_ta, n_tj_ta, n_tj_idx, n_tj_idr, n_ta_tj, n_idx_tj, n_idr_tj, hτx', ↓hgl]; done) | exact Wk.of (by (try simp -implicitDefEqProofs [ci_lt, ci_le, n_idx_idr, n_idr_idx, n_idx_ta, n_ta_idx, n_ta_idr, n_idr_ta, n_tj_ta, n_tj_idx, n_tj_idr, n_ta_tj, n_idx_tj, n_idr_tj, hτx', ↓hgl]) <;> rfl)) ?_))) (by (try dsimp only); exact hle3) ?_
        try dsimp only
        refine ⟨o4, by simp; omega, ?_, by simpa using hG3, ?_⟩
        · rw [← hX]; simp [show 160 - (r.length + 1) = k by omega]
        · simp only [List.map_append, List.map_cons, List.map_nil]
          rw [List.pairwise_append]
          refine ⟨hP, by simp, fun z hz w hw => ?_⟩
          simp at hw
          subst hw
          have h1 : z ≤ a := by
            rcases List.mem_append.1 hz with hz | hz
            · have := (List.pairwise_append.1 hP).2.2 z hz a (by simp); omega
            · simp at hz; omega
          omega
  · have hpos : (a < b.length) = False := eq_false hlt
    have hab : a = b.length := by omega
    have hD : decG b 160 0 = .ok r := by
      rw [← hX, hab]
      cases 160 - r.length <;> simp [decG, preR]
    rcases hG with ⟨hr0, rfl, rfl⟩ | ⟨id9, cap, spl, h0, rfl, rfl, hall, hcap⟩
    · obtain rfl : r = [] := by simpa using hr0
      have hDS : decS b = (([], [(b.length : Int)]), 0, 0) := by unfold decS; rw [hD]; rfl
      rw [hDS]
      simp only [List.map_nil, List.length_nil, Int.natCast_zero] at hτx' hτa
      repeat (first
        | (with_reducible first | apply AWp.seq | apply AWp.block | refine And.intro (by first | omega | assumption | decide) ?_)
        | ((first | (with_reducible first | apply AWp.fork | apply AWp.region | show condK _ _ _ | show guardK _ _ _ _ _ _ _ _ _) | ((with_reducible apply AWp.drawS (id := 15) (t := sc_20_15_XCodeA)); (exact mixed); kernel_rfl; kernel_rfl; (repeat (with_reducible first | apply PanQ.then | apply PanQ.block | apply PanQ.body | apply PanQ.no))) | ((with_reducible apply AWp.drawS (id := 17) (t := sc_20_17_XCodeA)); (exact mixed); kernel_rfl; kernel_rfl; (repeat (with_reducible first | apply PanQ.then | apply PanQ.block | apply PanQ.body | apply PanQ.no))) | ((with_reducible apply aCall.id); first | apply aCall.gives (hl1)) | ((with_reducible apply pureCall.id); first | apply pureCall.gives (fun _ => hl1))); simp -implicitDefEqProofs [hpos, ci_lt, ci_le, n_idx_idr, n_idr_idx, n_idx_ta, n_ta_idx, n_ta_idr, n_idr_ta, n_tj_ta, n_tj_idx, n_tj_idr, n_ta_tj, n_idx_tj, n_idr_tj, hτx', ↓hgl, hτa])
        | ((with_reducible first | apply AWp.ret | apply AWp.skip | apply AWp.exit); try simp -implicitDefEqProofs [hpos, ci_lt, ci_le, n_idx_idr, n_idr_idx, n_idx_ta, n_ta_idx, n_ta_idr, n_idr_ta, n_tj_ta, n_tj_idx, n_tj_idr, n_ta_tj, n_idx_tj, n_idr_tj, hτx', ↓hgl, hτa]))
      refine AWp.loopA (α := (Nat)) (0) (fun z => z) (fun z => True) [(0, ?_), (6, ?_), (7, ?_), (51, ?_)] (fun z => [(52, .sc (.int .i64 0))]) (fun z => stD σ b nl idr idx ta tj [] a) ?_ ?_ ?_ ?_
      rotate_left 4
      · (try dsimp only); (simp only [List.cons_append, List.nil_append]; repeat (first | exact FrWk.nil | refine FrWk.cons (by first | (simp -implicitDefEqProofs [ci_lt, ci_le, n_idx_idr, n_idr_idx, n_idx_ta, n_ta_idx, n_ta_idr, n_idr_ta, n_tj_ta, n_tj_idx, n_tj_idr, n_ta_tj, n_idx_tj, n_idr_tj, hτx', ↓hgl, hτa]; done) | exact Wk.of (by (try simp -implicitDefEqProofs [ci_lt, ci_le, n_idx_idr, n_idr_idx, n_idx_ta, n_ta_idx, n_ta_idr, n_idr_ta, n_tj_ta, n_tj_idx, n_tj_idr, n_ta_tj, n_idx_tj, n_idr_tj, hτx', ↓hgl, hτa]) <;> rfl)) ?_))
      · (try dsimp only); (first | exact AS.le_refl _ | assumption | (repeat (first | exact AS.le_refl _ | assumption | refine le_new (by simp [*]) ?_)))
      · (try dsimp only) <;> first | exact trivial | exact ⟨by omega, rfl⟩ | omega | (simp; done) | exact ⟨by omega, by simp⟩ | exact ⟨by omega, by simp, rfl⟩
      intro z hx_
      try dsimp only at hx_ ⊢
      obtain _ := hx_
      simp only [List.cons_append, List.nil_append]
      repeat (first
        | (with_reducible first | apply AWp.seq | apply AWp.block | refine And.intro (by first | omega | assumption | decide) ?_)
        | ((first | (with_reducible first | apply AWp.fork | apply AWp.region | show condK _ _ _ | show guardK _ _ _ _ _ _ _ _ _) | ((with_reducible apply AWp.drawS (id := 15) (t := sc_20_15_XCodeA)); (exact mixed); kernel_rfl; kernel_rfl; (repeat (with_reducible first | apply PanQ.then | apply PanQ.block | apply PanQ.body | apply PanQ.no))) | ((with_reducible apply AWp.drawS (id := 17) (t := sc_20_17_XCodeA)); (exact mixed); kernel_rfl; kernel_rfl; (repeat (with_reducible first | apply PanQ.then | apply PanQ.block | apply PanQ.body | apply PanQ.no)))); simp -implicitDefEqProofs [ci_lt, ci_le, n_idx_idr, n_idr_idx, n_idx_ta, n_ta_idx, n_ta_idr, n_idr_ta, n_tj_ta, n_tj_idx, n_tj_idr, n_ta_tj, n_idx_tj, n_idr_tj, hτx', ↓hgl, hτa])
        | ((with_reducible first | apply AWp.ret | apply AWp.skip | apply AWp.exit); try simp -implicitDefEqProofs [ci_lt, ci_le, n_idx_idr, n_idr_idx, n_idx_ta, n_ta_idx, n_ta_idr, n_idr_ta, n_tj_ta, n_tj_idx, n_tj_idr, n_ta_tj, n_idx_tj, n_idr_tj, hτx', ↓hgl, hτa]))
      exact ⟨_, σ, Wk_tup4 (by simp [insL]) (by simp [i64v_def]) (Wk.refl _) (Wk.refl _), AS.le_set hσ h_ta, true, by simp, rfl, rfl⟩
    · have hSx : stD σ b nl idr idx ta tj r a idx = some (rcC idr b.length (r.map (·.a)) (r.map (·.t)) ta tj) := by simp [stD, n_idx_ta, n_idx_tj]
      have hSa : stD σ b nl idr idx ta tj r a ta = some (.tok r.length) := by simp [stD, n_ta_tj]
      have n_idx_id9 : ¬ idx = id9 := by rintro rfl; rw [h0] at hSx; cases hSx
      have n_id9_idx : ¬ id9 = idx := fun e => n_idx_id9 e.symm
      have n_ta_id9 : ¬ ta = id9 := by rintro rfl; rw [h0] at hSa; cases hSa
      have n_id9_ta : ¬ id9 = ta := fun e => n_ta_id9 e.symm
      rw [rcC_def] at hSx
      generalize stD σ b nl idr idx ta tj r a = S at *
      have hJl : (r.map (·.t)).length = r.length := by simp
      have hLl : (r.map (·.a)).length = r.length := by simp
      have hLP : (r.map (·.a)).Pairwise (· < ·) := (List.pairwise_append.1 hP).1
      have hDS : decS b = match resG (r.map (·.a)) r with
        | .error (p, e) => (([], []), p, e)
        | .ok l => ((l, r.map (·.a) ++ [(b.length : Int)]), 0, 0) := by unfold decS; rw [hD]; rfl
      generalize hLdef : r.map (·.a) = L at *
      generalize hJdef : r.map (·.t) = J at *
      repeat (first
        | (with_reducible first | apply AWp.seq | apply AWp.block | refine And.intro (by first | omega | assumption | decide) ?_)
        | ((first | (with_reducible first | apply AWp.fork | apply AWp.region | show condK _ _ _ | show guardK _ _ _ _ _ _ _ _ _) | ((with_reducible apply AWp.drawS (id := 15) (t := sc_20_15_XCodeA)); (exact mixed); kernel_rfl; kernel_rfl; (repeat (with_reducible first | apply PanQ.then | apply PanQ.block | apply PanQ.body | apply PanQ.no))) | ((with_reducible apply AWp.drawS (id := 17) (t := sc_20_17_XCodeA)); (exact mixed); kernel_rfl; kernel_rfl; (repeat (with_reducible first | apply PanQ.then | apply PanQ.block | apply PanQ.body | apply PanQ.no))) | ((with_reducible apply aCall.id); first | apply aCall.gives (hl1)) | ((with_reducible apply pureCall.id); first | apply pureCall.gives (fun _ => hl1))); simp -implicitDefEqProofs [hpos, ci_lt, ci_le, n_idx_idr, n_idr_idx, n_idx_ta, n_ta_idx, n_ta_idr, n_idr_ta, n_tj_ta, n_tj_idx, n_tj_idr, n_ta_tj, n_idx_tj, n_idr_tj, hτx', ↓hgl, n_idx_id9, n_id9_idx, n_ta_id9, n_id9_ta, hSx, hSa])
        | ((with_reducible first | apply AWp.ret | apply AWp.skip | apply AWp.exit); try simp -implicitDefEqProofs [hpos, ci_lt, ci_le, n_idx_idr, n_idr_idx, n_idx_ta, n_ta_idx, n_ta_idr, n_idr_ta, n_tj_ta, n_tj_idx, n_tj_idr, n_ta_tj, n_idx_tj, n_idr_tj, hτx', ↓hgl, n_idx_id9, n_id9_idx, n_ta_id9, n_id9_ta, hSx, hSa]))
      refine AWp.loopA (α := (Nat) × (List Ins)) ((0, [])) (fun ⟨k, d⟩ => r.length - k) (fun ⟨k, d⟩ => k ≤ r.length ∧ d.length = k ∧ preD d (resG L (r.drop k)) = resG L r) [(0, ?_), (6, ?_), (7, ?_), (51, ?_)] (fun ⟨k, d⟩ => [(52, .sc (.int .i64 k))]) (fun ⟨k, d⟩ => S.set id9 (.cells 42 (flatC ((d ++ (r.drop k).map (·.x)).map insV ++ spl)))) ?_ ?_ ?_ ?_
      rotate_left 4
      · (try dsimp only); (simp only [List.cons_append, List.nil_append]; repeat (first | exact FrWk.nil | refine FrWk.cons (by first | (simp -implicitDefEqProofs [ci_lt, ci_le, n_idx_idr, n_idr_idx, n_idx_ta, n_ta_idx, n_ta_idr, n_idr_ta, n_tj_ta, n_tj_idx, n_tj_idr, n_ta_tj, n_idx_tj, n_idr_tj, hτx', ↓hgl, n_idx_id9, n_id9_idx, n_ta_id9, n_id9_ta, hSx, hSa]; done) | exact Wk.of (by (try simp -implicitDefEqProofs [ci_lt, ci_le, n_idx_idr, n_idr_idx, n_idx_ta, n_ta_idx, n_ta_idr, n_idr_ta, n_tj_ta, n_tj_idx, n_tj_idr, n_ta_tj, n_idx_tj, n_idr_tj, hτx', ↓hgl, n_idx_id9, n_id9_idx, n_ta_id9, n_id9_ta, hSx, hSa]) <;> rfl)) ?_))
      · (try dsimp only); (simp [Function.comp_def])
      · exact ⟨by omega, rfl, by simp; cases resG L r <;> simp [preD]⟩
      intro x_ hx_
      obtain ⟨k, d⟩ := x_
      try dsimp only at hx_ ⊢
      obtain ⟨hk, hd, hR⟩ := hx_
      simp only [List.cons_append, List.nil_append]
      by_cases hkn : k < r.length
      · have wi_k : IntKind.i64.wrap ((k : Int) + 1) = ((k + 1 : Nat) : Int) := ci_wi (by omega)
        rw [List.drop_eq_getElem_cons hkn] at hR
        rw [List.drop_eq_getElem_cons hkn, List.map_cons]
        rw [preD_step] at hR
        have hJk : J[k]? = some r[k].t := by rw [← hJdef]; simp [hkn]
        have hLk : L[k]? = some r[k].a := by rw [← hLdef]; simp [hkn]
        have hkL : k < L.length := by omega
        have hkJ : k < J.length := by omega
        generalize r[k] = y at *
        obtain ⟨x, ya, yt⟩ := y
        simp only at hJk hLk hR ⊢
        generalize hM : (r.drop (k + 1)).map (·.x) = M at *
        have hMl : M.length = r.length - (k + 1) := by rw [← hM]; simp
        have hES6 : ∀ v ∈ (d ++ x :: M).map insV ++ spl, v.cells.length = 6 := by
          intro v hv
          rcases List.mem_append.1 hv with hv | hv
          · obtain ⟨z, _, rfl⟩ := List.mem_map.1 hv; rfl
          · exact (hall v (by simp [hv])).trans (by simp)
        have hkE : k < ((d ++ x :: M).map insV ++ spl).length := by simp; omega
        have hEk : ((d ++ x :: M).map insV ++ spl)[k]'hkE = insV x := by
          rw [List.getElem_append_left (by simp; omega), List.getElem_map, List.getElem_append_right (by omega)]
          simp [hd]
        have g0 : (flatC ((d ++ x :: M).map insV ++ spl))[k * 6]? = some (.sc (.int .i64 x.op)) := by
          have := flatC_get1 hES6 hkE (j := 0) (by omega)
          rw [hEk] at this
          exact this
        have hCl := flatC_len hES6
        have hset : ∀ p : Int, (flatC ((d ++ x :: M).map insV ++ spl)).take (k * 6 + 1) ++ .sc (.int .i64 p) :: (flatC ((d ++ x :: M).map insV ++ spl)).drop (k * 6 + 1 + 1) = flatC (((d ++ [{ x with arg := p }]) ++ M).map insV ++ spl) := by
          intro p
          rw [flatC_cell hES6 hkE (v := insV { x with arg := p }) (by omega) (by rw [hEk]; rfl)]
          congr 1
          rw [List.set_append_left _ _ (by simp; omega)]
          congr 1
          rw [← List.map_set]
          congr 1
          rw [List.set_append_right _ _ (by omega)]
          simp [hd]
        have hsame : (d ++ x :: M) = (d ++ [x]) ++ M := by simp
        have hnz : ∀ z : Ins, flatC (List.map insV (d ++ [z]) ++ (List.drop (k + 1) (List.map (insV ∘ fun x => x.x) r) ++ spl)) = flatC (((d ++ [z]) ++ M).map insV ++ spl) := by intro z; rw [← hM]; simp [List.map_drop]
        have hCl2 : k * 6 + 6 ≤ (flatC ((d ++ x :: M).map insV ++ spl)).length := by rw [hCl]; omega
        generalize hCL : flatC ((d ++ x :: M).map insV ++ spl) = CL at *
        have hxo : (ofT x.op).2.1 = oO x.op := rfl
        have hof := fun σ => Of_ok x.op σ
        simp only [infV] at hof
        rw [hxo] at hof
        obtain ⟨_, g1⟩ := List.getElem?_eq_some_iff.1 g0
        obtain ⟨_, hJk1⟩ := List.getElem?_eq_some_iff.1 hJk
        obtain ⟨_, hLk1⟩ := List.getElem?_eq_some_iff.1 hLk
        have b1 : k * 6 < CL.length := by omega
        have b2 : k * 6 + 1 < CL.length := by omega
        have b3 : k * 6 + 1 + 1 ≤ CL.length := by omega
        by_cases h5 : oO x.op = 5
        · rw [h5] at hof
          obtain ⟨p, hp1, hp2⟩ := lb_ex L yt hLP
          have hbs := fun σ => bs_ok L yt (.tok ta) (decide (L = [])) p hp1 (by omega) hp2 σ
          have hfd := lb_find L yt hLP p hp2
          unfold fixD at hR
          rw [if_pos h5] at hR
          simp only at hR
          rw [hfd] at hR
          by_cases hfnd : L[p]? = some yt
          · rw [if_pos hfnd] at hR
            simp only at hR
            repeat (first
              | (with_reducible first | apply AWp.seq | apply AWp.block | refine And.intro (by first | omega | assumption | decide) ?_)
              | ((first | (with_reducible first | apply AWp.fork | apply AWp.region | show condK _ _ _ | show guardK _ _ _ _ _ _ _ _ _) | ((with_reducible apply AWp.drawS (id := 15) (t := sc_20_15_XCodeA)); (exact mixed); kernel_rfl; kernel_rfl; (repeat (with_reducible first | apply PanQ.then | apply PanQ.block | apply PanQ.body | apply PanQ.no))) | ((with_reducible apply AWp.drawS (id := 17) (t := sc_20_17_XCodeA)); (exact mixed); kernel_rfl; kernel_rfl; (repeat (with_reducible first | apply PanQ.then | apply PanQ.block | apply PanQ.body | apply PanQ.no))) | ((with_reducible apply aCall.id); first | apply aCall.gives (hof _) | apply aCall.gives (hbs _)) | ((with_reducible apply pureCall.id); first | apply pureCall.gives (fun _ => hof _) | apply pureCall.gives (fun _ => hbs _))); simp -implicitDefEqProofs [hkn, g0, g1, hJk, hJk1, hLk, hLk1, hkL, hkJ, i64v_def, b1, b2, b3, ci_lt, ci_le, n_idx_idr, n_idr_idx, n_idx_ta, n_ta_idx, n_ta_idr, n_idr_ta, n_tj_ta, n_tj_idx, n_tj_idr, n_ta_tj, n_idx_tj, n_idr_tj, hτx', ↓hgl, n_idx_id9, n_id9_idx, n_ta_id9, n_id9_ta, hSx, hSa, wi_k])
              | ((with_reducible first | apply AWp.ret | apply AWp.skip | apply AWp.exit); try simp -implicitDefEqProofs [hkn, g0, g1, hJk, hJk1, hLk, hLk1, hkL, hkJ, i64v_def, b1, b2, b3, ci_lt, ci_le, n_idx_idr, n_idr_idx, n_idx_ta, n_ta_idx, n_ta_idr, n_idr_ta, n_tj_ta, n_tj_idx, n_tj_idr, n_ta_tj, n_idx_tj, n_idr_tj, hτx', ↓hgl, n_idx_id9, n_id9_idx, n_ta_id9, n_id9_ta, hSx, hSa, wi_k]))
            intro id12 m12 h_id12
            have m12' : ¬ id9 = id12 := fun e => m12 e.symm
            have n_idx_id12 : ¬ idx = id12 := by rintro rfl; rw [hSx] at h_id12; cases h_id12
            have n_id12_idx : ¬ id12 = idx := fun e => n_idx_id12 e.symm
            have n_ta_id12 : ¬ ta = id12 := by rintro rfl; rw [hSa] at h_id12; cases h_id12
            have n_id12_ta : ¬ id12 = ta := fun e => n_ta_id12 e.symm
            repeat (first
              | (with_reducible first | apply AWp.seq | apply AWp.block | refine And.intro (by first | omega | assumption | decide) ?_)
              | ((first | (with_reducible first | apply AWp.fork | apply AWp.region | show condK _ _ _ | show guardK _ _ _ _ _ _ _ _ _) | ((with_reducible apply AWp.drawS (id := 15) (t := sc_20_15_XCodeA)); (exact mixed); kernel_rfl; kernel_rfl; (repeat (with_reducible first | apply PanQ.then | apply PanQ.block | apply PanQ.body | apply PanQ.no))) | ((with_reducible apply AWp.drawS (id := 17) (t := sc_20_17_XCodeA)); (exact mixed); kernel_rfl; kernel_rfl; (repeat (with_reducible first | apply PanQ.then | apply PanQ.block | apply PanQ.body | apply PanQ.no))) | ((with_reducible apply aCall.id); first | apply aCall.gives (hbs _)) | ((with_reducible apply pureCall.id); first | apply pureCall.gives (fun _ => hbs _))); simp -implicitDefEqProofs [hkn, g0, g1, hJk, hJk1, hLk, hLk1, hkL, hkJ, i64v_def, b1, b2, b3, m12, m12', hfnd, ci_lt, ci_le, n_idx_idr, n_idr_idx, n_idx_ta, n_ta_idx, n_ta_idr, n_idr_ta, n_tj_ta, n_tj_idx, n_tj_idr, n_ta_tj, n_idx_tj, n_idr_tj, hτx', ↓hgl, n_idx_id9, n_id9_idx, n_ta_id9, n_id9_ta, hSx, hSa, wi_k, n_id12_idx, n_idx_id12, hSx, n_id12_ta, n_ta_id12, hSa])
              | ((with_reducible first | apply AWp.ret | apply AWp.skip | apply AWp.exit); try simp -implicitDefEqProofs [hkn, g0, g1, hJk, hJk1, hLk, hLk1, hkL, hkJ, i64v_def, b1, b2, b3, m12, m12', hfnd, ci_lt, ci_le, n_idx_idr, n_idr_idx, n_idx_ta, n_ta_idx, n_ta_idr, n_idr_ta, n_tj_ta, n_tj_idx, n_tj_idr, n_ta_tj, n_idx_tj, n_idr_tj, hτx', ↓hgl, n_idx_id9, n_id9_idx, n_ta_id9, n_id9_ta, hSx, hSa, wi_k, n_id12_idx, n_idx_id12, hSx, n_id12_ta, n_ta_id12, hSa]))
            refine stepA.mk ((k + 1, d ++ [{ x with arg := p }])) (by (try dsimp only); omega) (by (try dsimp only); (simp only [List.cons_append, List.nil_append]; repeat (first | exact FrWk.nil | refine FrWk.cons (by first | (simp -implicitDefEqProofs [ci_lt, ci_le, n_idx_idr, n_idr_idx, n_idx_ta, n_ta_idx, n_ta_idr, n_idr_ta, n_tj_ta, n_tj_idx, n_tj_idr, n_ta_tj, n_idx_tj, n_idr_tj, hτx', ↓hgl, n_idx_id9, n_id9_idx, n_ta_id9, n_id9_ta, hSx, hSa, wi_k, n_id12_idx, n_idx_id12, hSx, n_id12_ta, n_ta_id12, hSa]; done) | exact Wk.of (by (try simp -implicitDefEqProofs [ci_lt, ci_le, n_idx_idr, n_idr_idx, n_idx_ta, n_ta_idx, n_ta_idr, n_idr_ta, n_tj_ta, n_tj_idx, n_tj_idr, n_ta_tj, n_idx_tj, n_idr_tj, hτx', ↓hgl, n_idx_id9, n_id9_idx, n_ta_id9, n_id9_ta, hSx, hSa, wi_k, n_id12_idx, n_idx_id12, hSx, n_id12_ta, n_ta_id12, hSa]) <;> rfl)) ?_))) (by (try dsimp only); (rw [hnz, ← hset]; exact AS.le_set (AS.le_refl _) (by simp [m12, h_id12]))) ?_
            try dsimp only
            exact ⟨hkn, by simp [hd], hR⟩
          · rw [if_neg hfnd] at hR
            simp only at hR
            rw [← hR] at hDS
            simp only at hDS
            rw [hDS]
            repeat (first
              | (with_reducible first | apply AWp.seq | apply AWp.block | refine And.intro (by first | omega | assumption | decide) ?_)
              | ((first | (with_reducible first | apply AWp.fork | apply AWp.region | show condK _ _ _ | show guardK _ _ _ _ _ _ _ _ _) | ((with_reducible apply AWp.drawS (id := 15) (t := sc_20_15_XCodeA)); (exact mixed); kernel_rfl; kernel_rfl; (repeat (with_reducible first | apply PanQ.then | apply PanQ.block | apply PanQ.body | apply PanQ.no))) | ((with_reducible apply AWp.drawS (id := 17) (t := sc_20_17_XCodeA)); (exact mixed); kernel_rfl; kernel_rfl; (repeat (with_reducible first | apply PanQ.then | apply PanQ.block | apply PanQ.body | apply PanQ.no))) | ((with_reducible apply aCall.id); first | apply aCall.gives (hof _) | apply aCall.gives (hbs _)) | ((with_reducible apply pureCall.id); first | apply pureCall.gives (fun _ => hof _) | apply pureCall.gives (fun _ => hbs _))); simp -implicitDefEqProofs [hkn, g0, g1, hJk, hJk1, hLk, hLk1, hkL, hkJ, i64v_def, b1, b2, b3, ci_lt, ci_le, n_idx_idr, n_idr_idx, n_idx_ta, n_ta_idx, n_ta_idr, n_idr_ta, n_tj_ta, n_tj_idx, n_tj_idr, n_ta_tj, n_idx_tj, n_idr_tj, hτx', ↓hgl, n_idx_id9, n_id9_idx, n_ta_id9, n_id9_ta, hSx, hSa, wi_k])
              | ((with_reducible first | apply AWp.ret | apply AWp.skip | apply AWp.exit); try simp -implicitDefEqProofs [hkn, g0, g1, hJk, hJk1, hLk, hLk1, hkL, hkJ, i64v_def, b1, b2, b3, ci_lt, ci_le, n_idx_idr, n_idr_idx, n_idx_ta, n_ta_idx, n_ta_idr, n_idr_ta, n_tj_ta, n_tj_idx, n_tj_idr, n_ta_tj, n_idx_tj, n_idr_tj, hτx', ↓hgl, n_idx_id9, n_id9_idx, n_ta_id9, n_id9_ta, hSx, hSa, wi_k]))
            intro id12 m12 h_id12
            have m12' : ¬ id9 = id12 := fun e => m12 e.symm
            have n_idx_id12 : ¬ idx = id12 := by rintro rfl; rw [hSx] at h_id12; cases h_id12
            have n_id12_idx : ¬ id12 = idx := fun e => n_idx_id12 e.symm
            have n_ta_id12 : ¬ ta = id12 := by rintro rfl; rw [hSa] at h_id12; cases h_id12
            have n_id12_ta : ¬ id12 = ta := fun e => n_ta_id12 e.symm
            repeat (first
              | (with_reducible first | apply AWp.seq | apply AWp.block | refine And.intro (by first | omega | assumption | decide) ?_)
              | ((first | (with_reducible first | apply AWp.fork | apply AWp.region | show condK _ _ _ | show guardK _ _ _ _ _ _ _ _ _) | ((with_reducible apply AWp.drawS (id := 15) (t := sc_20_15_XCodeA)); (exact mixed); kernel_rfl; kernel_rfl; (repeat (with_reducible first | apply PanQ.then | apply PanQ.block | apply PanQ.body | apply PanQ.no))) | ((with_reducible apply AWp.drawS (id := 17) (t := sc_20_17_XCodeA)); (exact mixed); kernel_rfl; kernel_rfl; (repeat (with_reducible first | apply PanQ.then | apply PanQ.block | apply PanQ.body | apply PanQ.no))) | ((with_reducible apply aCall.id); first | apply aCall.gives (hbs _)) | ((with_reducible apply pureCall.id); first | apply pureCall.gives (fun _ => hbs _))); simp -implicitDefEqProofs [hkn, g0, g1, hJk, hJk1, hLk, hLk1, hkL, hkJ, i64v_def, b1, b2, b3, m12, m12', hfnd, ci_lt, ci_le, n_idx_idr, n_idr_idx, n_idx_ta, n_ta_idx, n_ta_idr, n_idr_ta, n_tj_ta, n_tj_idx, n_tj_idr, n_ta_tj, n_idx_tj, n_idr_tj, hτx', ↓hgl, n_idx_id9, n_id9_idx, n_ta_id9, n_id9_ta, hSx, hSa, wi_k, n_id12_idx, n_idx_id12, hSx, n_id12_ta, n_ta_id12, hSa])
              | ((with_reducible first | apply AWp.ret | apply AWp.skip | apply AWp.exit); try simp -implicitDefEqProofs [hkn, g0, g1, hJk, hJk1, hLk, hLk1, hkL, hkJ, i64v_def, b1, b2, b3, m12, m12', hfnd, ci_lt, ci_le, n_idx_idr, n_idr_idx, n_idx_ta, n_ta_idx, n_ta_idr, n_idr_ta, n_tj_ta, n_tj_idx, n_tj_idr, n_ta_tj, n_idx_tj, n_idr_tj, hτx', ↓hgl, n_idx_id9, n_id9_idx, n_ta_id9, n_id9_ta, hSx, hSa, wi_k, n_id12_idx, n_idx_id12, hSx, n_id12_ta, n_ta_id12, hSa]))
            exact ⟨_, σ, Wk_tup4 (by simp [insL]) (by simp) (Wk.refl _) (Wk.refl _), AS.le_set (AS.le_set hσS (le_none hσS h0)) (le_none hσS h_id12), true, by simp, rfl, rfl⟩
        · have hfx : fixD L ⟨x, ya, yt⟩ = .ok x := by unfold fixD; rw [if_neg h5]
          rw [hfx] at hR
          simp only at hR
          repeat (first
            | (with_reducible first | apply AWp.seq | apply AWp.block | refine And.intro (by first | omega | assumption | decide) ?_)
            | ((first | (with_reducible first | apply AWp.fork | apply AWp.region | show condK _ _ _ | show guardK _ _ _ _ _ _ _ _ _) | ((with_reducible apply AWp.drawS (id := 15) (t := sc_20_15_XCodeA)); (exact mixed); kernel_rfl; kernel_rfl; (repeat (with_reducible first | apply PanQ.then | apply PanQ.block | apply PanQ.body | apply PanQ.no))) | ((with_reducible apply AWp.drawS (id := 17) (t := sc_20_17_XCodeA)); (exact mixed); kernel_rfl; kernel_rfl; (repeat (with_reducible first | apply PanQ.then | apply PanQ.block | apply PanQ.body | apply PanQ.no))) | ((with_reducible apply aCall.id); first | apply aCall.gives (hof _)) | ((with_reducible apply pureCall.id); first | apply pureCall.gives (fun _ => hof _))); simp -implicitDefEqProofs [hkn, g0, g1, hJk, hJk1, hLk, hLk1, hkL, hkJ, i64v_def, b1, b2, b3, h5, ci_lt, ci_le, n_idx_idr, n_idr_idx, n_idx_ta, n_ta_idx, n_ta_idr, n_idr_ta, n_tj_ta, n_tj_idx, n_tj_idr, n_ta_tj, n_idx_tj, n_idr_tj, hτx', ↓hgl, n_idx_id9, n_id9_idx, n_ta_id9, n_id9_ta, hSx, hSa, wi_k])
            | ((with_reducible first | apply AWp.ret | apply AWp.skip | apply AWp.exit); try simp -implicitDefEqProofs [hkn, g0, g1, hJk, hJk1, hLk, hLk1, hkL, hkJ, i64v_def, b1, b2, b3, h5, ci_lt, ci_le, n_idx_idr, n_idr_idx, n_idx_ta, n_ta_idx, n_ta_idr, n_idr_ta, n_tj_ta, n_tj_idx, n_tj_idr, n_ta_tj, n_idx_tj, n_idr_tj, hτx', ↓hgl, n_idx_id9, n_id9_idx, n_ta_id9, n_id9_ta, hSx, hSa, wi_k]))
          intro id12 m12 h_id12
          have m12' : ¬ id9 = id12 := fun e => m12 e.symm
          have n_idx_id12 : ¬ idx = id12 := by rintro rfl; rw [hSx] at h_id12; cases h_id12
          have n_id12_idx : ¬ id12 = idx := fun e => n_idx_id12 e.symm
          have n_ta_id12 : ¬ ta = id12 := by rintro rfl; rw [hSa] at h_id12; cases h_id12
          have n_id12_ta : ¬ id12 = ta := fun e => n_ta_id12 e.symm
          repeat (first
            | (with_reducible first | apply AWp.seq | apply AWp.block | refine And.intro (by first | omega | assumption | decide) ?_)
            | ((first | (with_reducible first | apply AWp.fork | apply AWp.region | show condK _ _ _ | show guardK _ _ _ _ _ _ _ _ _) | ((with_reducible apply AWp.drawS (id := 15) (t := sc_20_15_XCodeA)); (exact mixed); kernel_rfl; kernel_rfl; (repeat (with_reducible first | apply PanQ.then | apply PanQ.block | apply PanQ.body | apply PanQ.no))) | ((with_reducible apply AWp.drawS (id := 17) (t := sc_20_17_XCodeA)); (exact mixed); kernel_rfl; kernel_rfl; (repeat (with_reducible first | apply PanQ.then | apply PanQ.block | apply PanQ.body | apply PanQ.no))) | ((with_reducible apply aCall.id); first | apply aCall.gives (hof _)) | ((with_reducible apply pureCall.id); first | apply pureCall.gives (fun _ => hof _))); simp -implicitDefEqProofs [hkn, g0, g1, hJk, hJk1, hLk, hLk1, hkL, hkJ, i64v_def, b1, b2, b3, h5, m12, m12', ci_lt, ci_le, n_idx_idr, n_idr_idx, n_idx_ta, n_ta_idx, n_ta_idr, n_idr_ta, n_tj_ta, n_tj_idx, n_tj_idr, n_ta_tj, n_idx_tj, n_idr_tj, hτx', ↓hgl, n_idx_id9, n_id9_idx, n_ta_id9, n_id9_ta, hSx, hSa, wi_k, n_id12_idx, n_idx_id12, hSx, n_id12_ta, n_ta_id12, hSa])
            | ((with_reducible first | apply AWp.ret | apply AWp.skip | apply AWp.exit); try simp -implicitDefEqProofs [hkn, g0, g1, hJk, hJk1, hLk, hLk1, hkL, hkJ, i64v_def, b1, b2, b3, h5, m12, m12', ci_lt, ci_le, n_idx_idr, n_idr_idx, n_idx_ta, n_ta_idx, n_ta_idr, n_idr_ta, n_tj_ta, n_tj_idx, n_tj_idr, n_ta_tj, n_idx_tj, n_idr_tj, hτx', ↓hgl, n_idx_id9, n_id9_idx, n_ta_id9, n_id9_ta, hSx, hSa, wi_k, n_id12_idx, n_idx_id12, hSx, n_id12_ta, n_ta_id12, hSa]))
          refine stepA.mk ((k + 1, d ++ [x])) (by (try dsimp only); omega) (by (try dsimp only); (simp only [List.cons_append, List.nil_append]; repeat (first | exact FrWk.nil | refine FrWk.cons (by first | (simp -implicitDefEqProofs [ci_lt, ci_le, n_idx_idr, n_idr_idx, n_idx_ta, n_ta_idx, n_ta_idr, n_idr_ta, n_tj_ta, n_tj_idx, n_tj_idr, n_ta_tj, n_idx_tj, n_idr_tj, hτx', ↓hgl, n_idx_id9, n_id9_idx, n_ta_id9, n_id9_ta, hSx, hSa, wi_k, n_id12_idx, n_idx_id12, hSx, n_id12_ta, n_ta_id12, hSa]; done) | exact Wk.of (by (try simp -implicitDefEqProofs [ci_lt, ci_le, n_idx_idr, n_idr_idx, n_idx_ta, n_ta_idx, n_ta_idr, n_idr_ta, n_tj_ta, n_tj_idx, n_tj_idr, n_ta_tj, n_idx_tj, n_idr_tj, hτx', ↓hgl, n_idx_id9, n_id9_idx, n_ta_id9, n_id9_ta, hSx, hSa, wi_k, n_id12_idx, n_idx_id12, hSx, n_id12_ta, n_ta_id12, hSa]) <;> rfl)) ?_))) (by (try dsimp only); (rw [hnz, ← hsame, hCL]; exact AS.le_set (AS.le_refl _) (by simp [m12, h_id12]))) ?_
          try dsimp only
          exact ⟨hkn, by simp [hd], hR⟩
      · rw [List.drop_eq_nil_of_le (by omega)] at hR
        have hRd : resG L r = .ok d := by rw [← hR]; simp [resG, preD]
        rw [hRd] at hDS
        simp only at hDS
        have hdrop : (r.drop k).map (·.x) = [] := by rw [List.drop_eq_nil_of_le (by omega)]; rfl
        have hkr : k = r.length := by omega
        have hdr : d.length = r.length := by omega
        repeat (first
          | (with_reducible first | apply AWp.seq | apply AWp.block | refine And.intro (by first | omega | assumption | decide) ?_)
          | ((first | (with_reducible first | apply AWp.fork | ((fail_if_success (apply AWp.region (id := 20))); apply AWp.region) | show condK _ _ _ | show guardK _ _ _ _ _ _ _ _ _) | ((with_reducible apply AWp.drawS (id := 15) (t := sc_20_15_XCodeA)); (exact mixed); kernel_rfl; kernel_rfl; (repeat (with_reducible first | apply PanQ.then | apply PanQ.block | apply PanQ.body | apply PanQ.no))) | ((with_reducible apply AWp.drawS (id := 17) (t := sc_20_17_XCodeA)); (exact mixed); kernel_rfl; kernel_rfl; (repeat (with_reducible first | apply PanQ.then | apply PanQ.block | apply PanQ.body | apply PanQ.no)))); simp -implicitDefEqProofs [hkn, ci_lt, ci_le, n_idx_idr, n_idr_idx, n_idx_ta, n_ta_idx, n_ta_idr, n_idr_ta, n_tj_ta, n_tj_idx, n_tj_idr, n_ta_tj, n_idx_tj, n_idr_tj, hτx', ↓hgl, n_idx_id9, n_id9_idx, n_ta_id9, n_id9_ta, hSx, hSa])
          | ((with_reducible first | apply AWp.ret | apply AWp.skip | apply AWp.exit); try simp -implicitDefEqProofs [hkn, ci_lt, ci_le, n_idx_idr, n_idr_idx, n_idx_ta, n_ta_idx, n_ta_idr, n_idr_ta, n_tj_ta, n_tj_idx, n_tj_idr, n_ta_tj, n_idx_tj, n_idr_tj, hτx', ↓hgl, n_idx_id9, n_id9_idx, n_ta_id9, n_id9_ta, hSx, hSa]))
        have hdrop2 : List.drop k (List.map (insV ∘ fun x => x.x) r) = [] := List.drop_eq_nil_of_le (by simp; omega)
        rw [hdrop2, List.nil_append]
        refine AWp.freezeG 7 (e := 42) (es := d.map insV) (S := S) (.inr ⟨id9, cap, spl, h0, by simp [hdr], rfl, fun v hv => ?_, by simpa [hdr] using hcap⟩) ?_
        · rcases List.mem_append.1 hv with hv | hv
          · obtain ⟨z, _, rfl⟩ := List.mem_map.1 hv; simp [insV]
          · exact hall v (by simp [hv])
        intro nlr hnlr
        rw [hDS]
        have hL1 : L.length ≤ 160 := by omega
        repeat (first
          | (with_reducible first | apply AWp.seq | apply AWp.block | refine And.intro (by first | omega | assumption | decide) ?_)
          | ((first | (with_reducible first | apply AWp.fork | apply AWp.region | show condK _ _ _ | show guardK _ _ _ _ _ _ _ _ _) | ((with_reducible apply AWp.drawS (id := 15) (t := sc_20_15_XCodeA)); (exact mixed); kernel_rfl; kernel_rfl; (repeat (with_reducible first | apply PanQ.then | apply PanQ.block | apply PanQ.body | apply PanQ.no))) | ((with_reducible apply AWp.drawS (id := 17) (t := sc_20_17_XCodeA)); (exact mixed); kernel_rfl; kernel_rfl; (repeat (with_reducible first | apply PanQ.then | apply PanQ.block | apply PanQ.body | apply PanQ.no)))); simp -implicitDefEqProofs [hL1, ci_lt, ci_le, n_idx_idr, n_idr_idx, n_idx_ta, n_ta_idx, n_ta_idr, n_idr_ta, n_tj_ta, n_tj_idx, n_tj_idr, n_ta_tj, n_idx_tj, n_idr_tj, hτx', ↓hgl, n_idx_id9, n_id9_idx, n_ta_id9, n_id9_ta, hSx, hSa])
          | ((with_reducible first | apply AWp.ret | apply AWp.skip | apply AWp.exit); try simp -implicitDefEqProofs [hL1, ci_lt, ci_le, n_idx_idr, n_idr_idx, n_idx_ta, n_ta_idx, n_ta_idr, n_idr_ta, n_tj_ta, n_tj_idx, n_tj_idr, n_ta_tj, n_idx_tj, n_idr_tj, hτx', ↓hgl, n_idx_id9, n_id9_idx, n_ta_id9, n_id9_ta, hSx, hSa]))
        exact ⟨_, σ, Wk_tup4 (by simp [insL]) (by simp [i64v_def]) (Wk.refl _) (Wk.refl _), AS.le_set hσS h_ta, nlr, fun e => by simpa using hnlr e, rfl, rfl⟩

end Go.Proofs.Ytnkjbgcbchbonaa
