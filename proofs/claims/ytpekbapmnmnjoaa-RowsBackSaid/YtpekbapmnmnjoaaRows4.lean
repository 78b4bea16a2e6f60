/- Package rows: Write. -/
import Derived.Test.YtpekbapmnmnjoaaRows3
set_option linter.unusedSimpArgs false
set_option linter.unusedVariables false
set_option maxRecDepth 100000
set_option maxHeartbeats 3200000
namespace Go.Proofs.Ytpekbapmnmnjoaa
open Go Go.AW

theorem dec_ascii (l : List UInt8) (j : Nat) {c : UInt8} (h : l[j]? = some c) (hc : c.toNat < 128) : Utf8.decode ⟨l.toArray⟩ j = (c.toNat, 1) := by
  obtain ⟨hlt, rfl⟩ := List.getElem?_eq_some_iff.1 h
  have e : (ByteArray.get! ⟨l.toArray⟩ j) = l[j] := by simp [ByteArray.get!, hlt]
  simp only [Utf8.decode, Nat.add_zero, e]
  rw [if_pos (by omega)]
theorem kinds_ascii (t : Int) : ∀ c ∈ kindsL t, c.toNat < 128 := by
  unfold kindsL
  intro c hc
  split at hc
  · revert c; decide
  split at hc
  · revert c; decide
  split at hc
  · revert c; decide
  split at hc
  · revert c; decide
  split at hc
  · revert c; decide
  split at hc
  · revert c; decide
  · simp at hc

def rowFit : List UInt8 → List Int → Bool
  | k :: ks, x :: r => fitsB x (wK k 0) && rowFit ks r
  | _, _ => true
def rowB : List UInt8 → List Int → List UInt8
  | k :: ks, x :: r => putB x (wK k 0).toNat ++ rowB ks r
  | _, _ => []
def tabFit (t : Nat) (l : List (List Int)) : Bool := l.all (rowFit (kindsL t))
def tabB (t : Nat) (l : List (List Int)) : List UInt8 := l.flatMap (rowB (kindsL t))
def allFit : Nat → List (List (List Int)) → Bool
  | _, [] => true
  | t, l :: r => tabFit t l && allFit (t + 1) r
def bodyB : Nat → List (List (List Int)) → List UInt8
  | _, [] => []
  | t, l :: r => tabB t l ++ bodyB (t + 1) r
def cnt1 (l : List (List Int)) : List UInt8 := if l = [] then [] else putB l.length 2
def cntB (R : List (List (List Int))) : List UInt8 := R.flatMap cnt1
def thereN : Nat → List (List (List Int)) → Nat
  | _, [] => 0
  | t, l :: r => (if l = [] then 0 else 2 ^ t) + thereN (t + 1) r
def okW (R : List (List (List Int))) (en : Int) : Bool := allFit 0 R && fitsB en 2
def writeW (R : List (List (List Int))) (en : Int) : List UInt8 := [0, UInt8.ofNat (thereN 0 R)] ++ (cntB R ++ putB en 2) ++ bodyB 0 R

/-- What Write's variables hold: counts, body. -/
def WS (id5 id6 tc tb : Nat) (B : AS) (cnt : List UInt8) (n1 : Bool) (bod : List UInt8) (n2 : Bool) : AS := fun j =>
  if j = id5 then some (gC cnt tc n1) else if j = id6 then some (gC bod tb n2) else if j = tc then some (.tok cnt.length) else if j = tb then some (.tok bod.length) else B j
theorem WS.set5 {id5 id6 tc tb : Nat} {B : AS} {cnt bod cnt' : List UInt8} {n1 n2 n1' : Bool} {m : Nat} (hm : m = cnt'.length) (a1 : ¬ id5 = id6) (a2 : ¬ id5 = tc) (a3 : ¬ id5 = tb) (a4 : ¬ id6 = tc) (a5 : ¬ id6 = tb) (a6 : ¬ tc = tb) :
    ((WS id5 id6 tc tb B cnt n1 bod n2).set id5 (gC cnt' tc n1')).set tc (.tok m) = WS id5 id6 tc tb B cnt' n1' bod n2 := by
  subst hm
  funext j
  by_cases e1 : j = id5
  · subst e1; simp [AS.set, WS, a2]
  by_cases e2 : j = id6
  · subst e2; simp [AS.set, WS, e1, a4]
  by_cases e3 : j = tc
  · subst e3; simp [AS.set, WS, e1, e2]
  · simp [AS.set, WS, e1, e2, e3]
theorem WS.set6 {id5 id6 tc tb : Nat} {B : AS} {cnt bod bod' : List UInt8} {n1 n2 n2' : Bool} {m : Nat} (hm : m = bod'.length) (a1 : ¬ id5 = id6) (a2 : ¬ id5 = tc) (a3 : ¬ id5 = tb) (a4 : ¬ id6 = tc) (a5 : ¬ id6 = tb) (a6 : ¬ tc = tb) :
    ((WS id5 id6 tc tb B cnt n1 bod n2).set id6 (gC bod' tb n2')).set tb (.tok m) = WS id5 id6 tc tb B cnt n1 bod' n2' := by
  subst hm
  funext j
  by_cases e1 : j = id5
  · subst e1; simp [AS.set, WS, a1, a3]
  by_cases e2 : j = id6
  · subst e2; simp [AS.set, WS, e1, a5]
  by_cases e3 : j = tc
  · subst e3; simp [AS.set, WS, e1, e2, a6]
  by_cases e4 : j = tb
  · subst e4; simp [AS.set, WS, e1, e2, e3]
  · simp [AS.set, WS, e1, e2, e3, e4]
theorem WS.out {id5 id6 tc tb j : Nat} {B : AS} {cnt bod : List UInt8} {n1 n2 : Bool} {x : ABlk} (a1 : ¬ j = id5) (a2 : ¬ j = id6) (a3 : ¬ j = tc) (a4 : ¬ j = tb) :
    (WS id5 id6 tc tb B cnt n1 bod n2).set j x = WS id5 id6 tc tb (B.set j x) cnt n1 bod n2 := by
  funext i
  by_cases e : i = j
  · subst e; simp [AS.set, WS, a1, a2, a3, a4]
  · simp [AS.set, WS, e]
theorem WS.le {id5 id6 tc tb : Nat} {B B' : AS} {cnt bod : List UInt8} {n1 n2 : Bool} (h : AS.le B B') : AS.le (WS id5 id6 tc tb B cnt n1 bod n2) (WS id5 id6 tc tb B' cnt n1 bod n2) := by
  intro j y hj
  simp only [WS] at hj ⊢
  by_cases e1 : j = id5
  · simpa [e1] using hj
  by_cases e2 : j = id6
  · simpa [e1, e2] using hj
  by_cases e3 : j = tc
  · simpa [e1, e2, e3] using hj
  by_cases e4 : j = tb
  · simpa [e1, e2, e3, e4] using hj
  · simp [e1, e2, e3, e4] at hj ⊢; exact h j y hj

theorem formF_get : ∀ {L : List (List (List Int))} {t k : Nat} {l : List (List Int)}, formF t L = true → L[k]? = some l → ∀ row ∈ l, row.length = (kindsL ((t + k : Nat) : Int)).length := by
  intro L
  induction L with
  | nil => intro t k l _ h; simp at h
  | cons x r ih =>
    intro t k l hF h row hrow
    simp only [formF, Bool.and_eq_true] at hF
    cases k with
    | zero =>
      simp at h; subst h
      have := List.all_eq_true.1 hF.1 row hrow
      simpa using this
    | succ k =>
      simp at h
      have := ih hF.2 h row hrow
      rw [this, show t + 1 + k = t + (k + 1) by omega]
theorem kinds_len (t : Int) : (kindsL t).length ≤ 6 := by
  unfold kindsL
  split <;> (try split) <;> (try split) <;> (try split) <;> (try split) <;> (try split) <;> simp


def WPost (W : List UInt8) (ok : Bool) (σ : AS) (r : AV) (σ' : AS) : Prop :=
  (ok = true ∧ Owns (fun tk => .tup [.lst 5 (W.map u8) (.tok tk) false, .sc (.int .i64 0)]) W.length σ r σ') ∨ (ok = false ∧ Gives (.tup [.nilS, .sc (.int .i64 3)]) σ r σ')
theorem WPost.no {W : List UInt8} {ok : Bool} {σ σ1 : AS} (h : ok = false) (hle : AS.le σ σ1) : AW.Ends Try.prog (WPost W ok σ) σ1 (.tup [.nilS, .sc (.int .i64 3)]) :=
  ⟨_, σ, Wk.refl _, hle, .inr ⟨h, rfl, rfl⟩⟩

theorem or_bit (th i : Nat) (hi : i < 32) (h : th < 2 ^ i) : IntKind.i64.wrap (bOr 64 (th : Int) (IntKind.i64.wrap (2 ^ min i 64))) = (th : Int) + 2 ^ i := by
  have h1 : (2 : Nat) ^ i ≤ 2 ^ 31 := Nat.pow_le_pow_right (by omega) (by omega)
  have h2 : ((2 : Int) ^ i) = ((2 ^ i : Nat) : Int) := by push_cast; rfl
  have h3 := or_add (w := 64) (a := (2 : Int) ^ i) (b := th) i (by omega) (by rw [h2]; exact_mod_cast h) (c := 1) (by omega) (by omega)
  rw [show min i 64 = i by omega]
  generalize hP : (2 : Nat) ^ i = P at *
  rw [h2] at h3 ⊢
  rw [show IntKind.i64.wrap (P : Int) = P from in_i64 (by omega) (by omega), bOr_comm, h3 (by omega), in_i64 (by omega) (by omega)]
  omega

def wwO (R : Tab) (o : Own) (nl : Bool) (ok fe : Bool) (id1 id5 id6 tc tb : Nat) (B : AS) (m : Nat) (f : Fr) (σ' : AS) : Prop :=
  ∃ (i th : Nat) (cnt bod : List UInt8), m = R.length - i ∧ i ≤ R.length ∧ ok = (allFit i ((pl R).drop i) && fe) ∧ th + thereN i ((pl R).drop i) = thereN 0 (pl R) ∧ th < 2 ^ i ∧
    cnt ++ cntB ((pl R).drop i) = cntB (pl R) ∧ bod ++ bodyB i ((pl R).drop i) = bodyB 0 (pl R) ∧ cnt.length ≤ 2 * i ∧ bod.length ≤ 40000 * i ∧ σ' = WS id5 id6 tc tb B cnt (decide (cnt = [])) bod (decide (bod = [])) ∧
    f = mkF [(1, .ptr id1 0), (4, .sc (.int .i64 th)), (5, .ptr id5 0), (6, .ptr id6 0), (7, .sc (.func (.func 38) #[] #[])), (20, .lst 69 (R.map lV) o nl), (21, .sc (.int .i64 R.length)), (22, .sc (.int .i64 i))]
def wwI (R : Tab) (o : Own) (nl : Bool) (ok : Bool) (i th : Nat) (x : List (List Int × Bool) × Bool) (cnt TB BB : List UInt8) (AF : Bool) (id1 id5 id6 tc tb : Nat) (B : AS) (m : Nat) (f : Fr) (σ' : AS) : Prop :=
  ∃ (k : Nat) (bod : List UInt8), m = x.1.length - k ∧ k ≤ x.1.length ∧ ok = (tabFit i ((pl1 x).drop k) && AF) ∧ bod ++ (tabB i ((pl1 x).drop k) ++ TB) = BB ∧ bod.length ≤ 40000 * i + 24 * k ∧
    σ' = WS id5 id6 tc tb B cnt false bod (decide (bod = [])) ∧
    f = mkF [(1, .ptr id1 0), (4, .sc (.int .i64 th)), (5, .ptr id5 0), (6, .ptr id6 0), (7, .sc (.func (.func 38) #[] #[])), (8, .sc (.int .i64 i)), (20, .lst 69 (R.map lV) o nl), (21, .sc (.int .i64 R.length)), (22, .sc (.int .i64 i)),
      (39, lV x), (40, .sc (.int .i64 x.1.length)), (41, .sc (.int .i64 k))]
def wwJ (R : Tab) (o : Own) (nl : Bool) (ok : Bool) (i th k : Nat) (x : List (List Int × Bool) × Bool) (y : List Int × Bool) (ks cnt TB BB : List UInt8) (AF : Bool) (b0 : Nat) (it id1 id5 id6 tc tb : Nat) (B : AS) (m : Nat) (f : Fr) (σ' : AS) : Prop :=
  ∃ (j : Nat) (bod : List UInt8), m = ks.length - j ∧ j ≤ ks.length ∧ ok = (rowFit (ks.drop j) (y.1.drop j) && AF) ∧ bod ++ (rowB (ks.drop j) (y.1.drop j) ++ TB) = BB ∧ bod.length ≤ b0 + 4 * j ∧
    σ' = WS id5 id6 tc tb (B.set it (.siter ⟨ks.toArray⟩ j)) cnt false bod (decide (bod = [])) ∧
    f = mkF [(1, .ptr id1 0), (4, .sc (.int .i64 th)), (5, .ptr id5 0), (6, .ptr id6 0), (7, .sc (.func (.func 38) #[] #[])), (8, .sc (.int .i64 i)), (11, iV y), (12, .sc (.int .i64 j)), (20, .lst 69 (R.map lV) o nl), (21, .sc (.int .i64 R.length)), (22, .sc (.int .i64 i)),
      (39, lV x), (40, .sc (.int .i64 x.1.length)), (41, .sc (.int .i64 k)), (47, .ptr it 0)]

theorem write_any (en : Int) (R : Tab) (o : Own) (nl : Bool) (hr : ∀ x ∈ R, x.1.length ≤ 1500) (hc : ∀ x ∈ R, ∀ y ∈ x.1, y.1.length ≤ 1000) (hF : formedS (pl R) = true) (σ : AS) :
    ACalls Try.prog 17 [tbV en R o nl] σ (WPost (writeW (pl R) en) (okW (pl R) en) σ) No := by
  have h6 : R.length = 6 := by simp [formedS, pl] at hF; exact hF.1
  have hFF : formF 0 (pl R) = true := by simp [formedS] at hF; exact hF.2
  have hf := fun σ => formed_ok en R o nl (by omega) hr hc σ
  rw [hF] at hf
  have hkd := fun t σ => kinds_ok t σ
  simp only [tbV, strV] at hf hkd ⊢
  refine ACalls.of_body Try.func17 rfl rfl (by simp [Try.ntmps17]) ?_
  repeat (first
    | (with_reducible apply AWp.seq)
    | (with_reducible apply AWp.block)
    | ((with_reducible apply AWp.fork); simp -implicitDefEqProofs)
    | ((with_reducible apply AWp.region); simp -implicitDefEqProofs)
    | (with_reducible refine And.intro (by first | omega | assumption | decide) ?_)
    | (((with_reducible apply AWp.drawS (id := 20) (t := (Sch.step 0 (Sch.step 1 (Sch.step 2 (Sch.step 3 (Sch.step 5 (Sch.pure 6 (Sch.read 4 (Sch.alt 7 (Sch.step 8 Sch.done) Sch.none)))))))))); (exact mixed); kernel_rfl; kernel_rfl; (repeat (with_reducible first | apply PanQ.then | apply PanQ.block | apply PanQ.body | apply PanQ.no))); simp -implicitDefEqProofs)
    | ((with_reducible apply AWp.ret); try simp -implicitDefEqProofs)
    | ((with_reducible apply AWp.skip); try simp -implicitDefEqProofs)
    | ((with_reducible apply AWp.exit); try simp -implicitDefEqProofs))
  intro id1 h_id1
  repeat (first
    | (with_reducible apply AWp.seq)
    | (with_reducible apply AWp.block)
    | ((with_reducible apply AWp.fork); simp -implicitDefEqProofs)
    | ((with_reducible apply AWp.region); simp -implicitDefEqProofs)
    | (with_reducible refine And.intro (by first | omega | assumption | decide) ?_)
    | (((with_reducible apply AWp.drawS (id := 20) (t := (Sch.step 0 (Sch.step 1 (Sch.step 2 (Sch.step 3 (Sch.step 5 (Sch.pure 6 (Sch.read 4 (Sch.alt 7 (Sch.step 8 Sch.done) Sch.none)))))))))); (exact mixed); kernel_rfl; kernel_rfl; (repeat (with_reducible first | apply PanQ.then | apply PanQ.block | apply PanQ.body | apply PanQ.no))); simp -implicitDefEqProofs)
    | ((with_reducible apply aCall.id); first
        | ((apply aCall.gives (hf _)); simp -implicitDefEqProofs))
    | ((with_reducible apply pureCall.id); first
        | ((apply pureCall.gives (fun _ => hf _)); simp -implicitDefEqProofs))
    | ((with_reducible apply AWp.ret); try simp -implicitDefEqProofs)
    | ((with_reducible apply AWp.skip); try simp -implicitDefEqProofs)
    | ((with_reducible apply AWp.exit); try simp -implicitDefEqProofs))
  intro id5 n_id5_id1 h_id5
  have n_id1_id5 : ¬ id1 = id5 := fun e => n_id5_id1 e.symm
  repeat (first
    | (with_reducible apply AWp.seq)
    | (with_reducible apply AWp.block)
    | ((with_reducible apply AWp.fork); simp -implicitDefEqProofs [n_id5_id1, n_id1_id5])
    | ((with_reducible apply AWp.region); simp -implicitDefEqProofs [n_id5_id1, n_id1_id5])
    | (with_reducible refine And.intro (by first | omega | assumption | decide) ?_)
    | ((with_reducible show condK _ _ _); simp -implicitDefEqProofs [n_id5_id1, n_id1_id5])
    | ((with_reducible show guardK _ _ _ _ _ _ _ _ _); simp -implicitDefEqProofs [n_id5_id1, n_id1_id5])
    | (((with_reducible apply AWp.drawS (id := 20) (t := (Sch.step 0 (Sch.step 1 (Sch.step 2 (Sch.step 3 (Sch.step 5 (Sch.pure 6 (Sch.read 4 (Sch.alt 7 (Sch.step 8 Sch.done) Sch.none)))))))))); (exact mixed); kernel_rfl; kernel_rfl; (repeat (with_reducible first | apply PanQ.then | apply PanQ.block | apply PanQ.body | apply PanQ.no))); simp -implicitDefEqProofs [n_id5_id1, n_id1_id5])
    | ((with_reducible apply AWp.ret); try simp -implicitDefEqProofs [n_id5_id1, n_id1_id5])
    | ((with_reducible apply AWp.skip); try simp -implicitDefEqProofs [n_id5_id1, n_id1_id5])
    | ((with_reducible apply AWp.exit); try simp -implicitDefEqProofs [n_id5_id1, n_id1_id5]))
  intro id6 n_id6_id5 n_id6_id1 h_id6
  have n_id5_id6 : ¬ id5 = id6 := fun e => n_id6_id5 e.symm
  have n_id1_id6 : ¬ id1 = id6 := fun e => n_id6_id1 e.symm
  repeat (first
    | (with_reducible apply AWp.seq)
    | (with_reducible apply AWp.block)
    | ((with_reducible apply AWp.fork); simp -implicitDefEqProofs [n_id5_id1, n_id1_id5, n_id6_id5, n_id5_id6, n_id6_id1, n_id1_id6])
    | ((with_reducible apply AWp.region); simp -implicitDefEqProofs [n_id5_id1, n_id1_id5, n_id6_id5, n_id5_id6, n_id6_id1, n_id1_id6])
    | (with_reducible refine And.intro (by first | omega | assumption | decide) ?_)
    | ((with_reducible show condK _ _ _); simp -implicitDefEqProofs [n_id5_id1, n_id1_id5, n_id6_id5, n_id5_id6, n_id6_id1, n_id1_id6])
    | ((with_reducible show guardK _ _ _ _ _ _ _ _ _); simp -implicitDefEqProofs [n_id5_id1, n_id1_id5, n_id6_id5, n_id5_id6, n_id6_id1, n_id1_id6])
    | (((with_reducible apply AWp.drawS (id := 20) (t := (Sch.step 0 (Sch.step 1 (Sch.step 2 (Sch.step 3 (Sch.step 5 (Sch.pure 6 (Sch.read 4 (Sch.alt 7 (Sch.step 8 Sch.done) Sch.none)))))))))); (exact mixed); kernel_rfl; kernel_rfl; (repeat (with_reducible first | apply PanQ.then | apply PanQ.block | apply PanQ.body | apply PanQ.no))); simp -implicitDefEqProofs [n_id5_id1, n_id1_id5, n_id6_id5, n_id5_id6, n_id6_id1, n_id1_id6])
    | ((with_reducible apply AWp.ret); try simp -implicitDefEqProofs [n_id5_id1, n_id1_id5, n_id6_id5, n_id5_id6, n_id6_id1, n_id1_id6])
    | ((with_reducible apply AWp.skip); try simp -implicitDefEqProofs [n_id5_id1, n_id1_id5, n_id6_id5, n_id5_id6, n_id6_id1, n_id1_id6])
    | ((with_reducible apply AWp.exit); try simp -implicitDefEqProofs [n_id5_id1, n_id1_id5, n_id6_id5, n_id5_id6, n_id6_id1, n_id1_id6]))
  refine AWp.mintC id5 0 5 [] true (ty := 28) (cs := [.nilS]) (by simp [n_id5_id6, n_id5_id1]) (by simp) (.inr ⟨by simp, rfl, rfl⟩) ?_
  simp -implicitDefEqProofs [n_id5_id1, n_id1_id5, n_id6_id5, n_id5_id6, n_id6_id1, n_id1_id6]
  intro tc n_tc_id6 n_tc_id5 n_tc_id1 h_tc
  have n_id6_tc : ¬ id6 = tc := fun e => n_tc_id6 e.symm
  have n_id5_tc : ¬ id5 = tc := fun e => n_tc_id5 e.symm
  have n_id1_tc : ¬ id1 = tc := fun e => n_tc_id1 e.symm
  refine AWp.mintC id6 0 5 [] true (ty := 28) (cs := [.nilS]) (by simp [n_id5_id6, n_id6_id5, n_id6_tc]) (by simp) (.inr ⟨by simp, rfl, rfl⟩) ?_
  simp -implicitDefEqProofs [n_id5_id1, n_id1_id5, n_id6_id5, n_id5_id6, n_id6_id1, n_id1_id6, n_tc_id6, n_id6_tc, n_tc_id5, n_id5_tc, n_tc_id1, n_id1_tc]
  intro tb n_tb_tc n_tb_id6 n_tb_id5 n_tb_id1 h_tb
  have n_tc_tb : ¬ tc = tb := fun e => n_tb_tc e.symm
  have n_id6_tb : ¬ id6 = tb := fun e => n_tb_id6 e.symm
  have n_id5_tb : ¬ id5 = tb := fun e => n_tb_id5 e.symm
  have n_id1_tb : ¬ id1 = tb := fun e => n_tb_id1 e.symm
  obtain ⟨B, B_s, hB1, eq_B, le_B⟩ : ∃ B : AS, (σ.set id1 (.cells 24 [.sc (.int .i64 en), .lst 69 (R.map lV) o nl])) = B ∧ B id1 = some (.cells 24 [.sc (.int .i64 en), .lst 69 (R.map lV) o nl]) ∧ (∀ j, j ≠ id1 → B j = σ j) ∧ (∀ S' : AS, (∀ j, j ≠ id1 → ∀ y, B j = some y → S' j = some y) → AS.le σ S') := by
    refine ⟨_, rfl, by simp [], ?_, ?_⟩
    · intro j e_id1; simp [AS.set, e_id1]
    intro S' h j x hj
    have e_id1 : j ≠ id1 := by rintro rfl; rw [h_id1] at hj; cases hj
    exact h j e_id1 x (by simp [AS.set, e_id1, hj])
  simp only [B_s]
  clear B_s
  have hB5 : B id5 = none := by rw [eq_B id5 n_id5_id1]; exact h_id5
  have hB6 : B id6 = none := by rw [eq_B id6 n_id6_id1]; exact h_id6
  have hBc : B tc = none := by rw [eq_B tc n_tc_id1]; exact h_tc
  have hBb : B tb = none := by rw [eq_B tb n_tb_id1]; exact h_tb
  -- what stands where
  have q1 : ∀ C cnt n1 bod n2, (WS id5 id6 tc tb C cnt n1 bod n2) id1 = C id1 := fun C cnt n1 bod n2 => by simp [WS, n_id1_id5, n_id1_id6, n_id1_tc, n_id1_tb]
  have q5 : ∀ C cnt n1 bod n2, (WS id5 id6 tc tb C cnt n1 bod n2) id5 = some (gC cnt tc n1) := fun C cnt n1 bod n2 => by simp [WS]
  have q6 : ∀ C cnt n1 bod n2, (WS id5 id6 tc tb C cnt n1 bod n2) id6 = some (gC bod tb n2) := fun C cnt n1 bod n2 => by simp [WS, n_id6_id5]
  have qc : ∀ C cnt n1 bod n2, (WS id5 id6 tc tb C cnt n1 bod n2) tc = some (.tok cnt.length) := fun C cnt n1 bod n2 => by simp [WS, n_tc_id5, n_tc_id6]
  have qb : ∀ C cnt n1 bod n2, (WS id5 id6 tc tb C cnt n1 bod n2) tb = some (.tok bod.length) := fun C cnt n1 bod n2 => by simp [WS, n_tb_id5, n_tb_id6, n_tb_tc]
  have put5 : ∀ C cnt n1 bod n2 x, fitsB x 2 = true → cnt.length ≤ 1000 → ACalls Try.prog 38 [.ptr id5 0, .sc (.int .i64 x), .sc (.int .i64 2)] (WS id5 id6 tc tb C cnt n1 bod n2) (Gives (.sc (.bool true)) (WS id5 id6 tc tb C (cnt ++ putB x 2) false bod n2)) No := by
    intro C cnt n1 bod n2 x hx hl
    have h := wput_ok id5 tc cnt n1 x 2 (.inl rfl) hx (by omega) _ (q5 C cnt n1 bod n2) (qc C cnt n1 bod n2) n_id5_tc
    rwa [WS.set5 (by simp [putB_length]) n_id5_id6 n_id5_tc n_id5_tb n_id6_tc n_id6_tb n_tc_tb] at h
  have put6 : ∀ C cnt n1 bod n2 x w, (w = 2 ∨ w = 4) → fitsB x w = true → bod.length ≤ 500000 → ACalls Try.prog 38 [.ptr id6 0, .sc (.int .i64 x), .sc (.int .i64 w)] (WS id5 id6 tc tb C cnt n1 bod n2) (Gives (.sc (.bool true)) (WS id5 id6 tc tb C cnt n1 (bod ++ putB x w.toNat) false)) No := by
    intro C cnt n1 bod n2 x w hw hx hl
    have h := wput_ok id6 tb bod n2 x w hw hx (by omega) _ (q6 C cnt n1 bod n2) (qb C cnt n1 bod n2) n_id6_tb
    rwa [WS.set6 (by simp [putB_length]) n_id5_id6 n_id5_tc n_id5_tb n_id6_tc n_id6_tb n_tc_tb] at h
  have hle : ∀ C cnt n1 bod n2, AS.le B C → AS.le σ (WS id5 id6 tc tb C cnt n1 bod n2) := fun C cnt n1 bod n2 h => le_B _ fun j hj y hy => by
    have e5 : j ≠ id5 := by rintro rfl; rw [hB5] at hy; cases hy
    have e6 : j ≠ id6 := by rintro rfl; rw [hB6] at hy; cases hy
    have ec : j ≠ tc := by rintro rfl; rw [hBc] at hy; cases hy
    have eb : j ≠ tb := by rintro rfl; rw [hBb] at hy; cases hy
    simp only [WS, e5, e6, ec, eb, if_false]
    exact h j y hy
  have hlen : (pl R).length = 6 := by simp [pl, h6]
  refine AWp.loopI (wwO R o nl (okW (pl R) en) (fitsB en 2) id1 id5 id6 tc tb B) (k0 := R.length) ⟨0, 0, [], [], by omega, by omega, by simp [okW], by simp, by simp, by simp, by simp, by simp, by simp, rfl, rfl⟩ (FrWk.mk (by simp)) ?_ ?_
  · intro j y hy
    simp only [WS] at hy
    by_cases e1 : j = id5
    · subst e1; simp [AS.set, gC, n_id5_id6, n_id5_tc, n_id5_tb] at hy ⊢; exact hy
    by_cases e2 : j = id6
    · subst e2; simp [AS.set, gC, e1, n_id6_tc, n_id6_tb] at hy ⊢; exact hy
    by_cases e3 : j = tc
    · subst e3; simp [AS.set, e1, e2, n_tc_tb] at hy ⊢; exact hy
    by_cases e4 : j = tb
    · subst e4; simp [AS.set, e1, e2, e3] at hy ⊢; exact hy
    · simp [AS.set, e1, e2, e3, e4] at hy ⊢; exact hy
  rintro m f σ' ⟨i, th, cnt, bod, hm, hi, hok, hth, hth2, hcnt, hbod, lc, lb, hs, rfl⟩
  subst σ'
  by_cases hlt : i < R.length
  · obtain ⟨x, hg, hd, hmem, _⟩ := at_lt R hlt
    obtain ⟨_, hg'⟩ := List.getElem?_eq_some_iff.1 hg
    have hI : ((i : Int) < R.length) = True := by simp; omega
    have hxl := hr x hmem
    have hdp : (pl R).drop i = pl1 x :: (pl R).drop (i + 1) := by
      rw [pl, ← List.map_drop, hd, List.map_cons, List.map_drop]
    rw [hdp] at hok hth hcnt hbod
    simp only [allFit, thereN, bodyB, cntB, List.flatMap_cons] at hok hth hcnt hbod
    by_cases hz : x.1 = []
    · have hp1 : pl1 x = [] := by simp [pl1, hz]
      rw [hp1] at hok hth hcnt hbod
      simp [tabFit, cnt1, tabB] at hok hth hcnt hbod
      repeat (first
        | (with_reducible apply AWp.seq)
        | (with_reducible apply AWp.block)
        | ((with_reducible apply AWp.fork); simp -implicitDefEqProofs [hI, hlt, hg, hg', lV, hz, n_id5_id1, n_id1_id5, n_id6_id5, n_id5_id6, n_id6_id1, n_id1_id6, n_tc_id6, n_id6_tc, n_tc_id5, n_id5_tc, n_tc_id1, n_id1_tc, n_tb_tc, n_tc_tb, n_tb_id6, n_id6_tb, n_tb_id5, n_id5_tb, n_tb_id1, n_id1_tb, hB1])
        | ((with_reducible apply AWp.region); simp -implicitDefEqProofs [hI, hlt, hg, hg', lV, hz, n_id5_id1, n_id1_id5, n_id6_id5, n_id5_id6, n_id6_id1, n_id1_id6, n_tc_id6, n_id6_tc, n_tc_id5, n_id5_tc, n_tc_id1, n_id1_tc, n_tb_tc, n_tc_tb, n_tb_id6, n_id6_tb, n_tb_id5, n_id5_tb, n_tb_id1, n_id1_tb, hB1])
        | (with_reducible refine And.intro (by first | omega | assumption | decide) ?_)
        | ((with_reducible show condK _ _ _); simp -implicitDefEqProofs [hI, hlt, hg, hg', lV, hz, n_id5_id1, n_id1_id5, n_id6_id5, n_id5_id6, n_id6_id1, n_id1_id6, n_tc_id6, n_id6_tc, n_tc_id5, n_id5_tc, n_tc_id1, n_id1_tc, n_tb_tc, n_tc_tb, n_tb_id6, n_id6_tb, n_tb_id5, n_id5_tb, n_tb_id1, n_id1_tb, hB1])
        | ((with_reducible show guardK _ _ _ _ _ _ _ _ _); simp -implicitDefEqProofs [hI, hlt, hg, hg', lV, hz, n_id5_id1, n_id1_id5, n_id6_id5, n_id5_id6, n_id6_id1, n_id1_id6, n_tc_id6, n_id6_tc, n_tc_id5, n_id5_tc, n_tc_id1, n_id1_tc, n_tb_tc, n_tc_tb, n_tb_id6, n_id6_tb, n_tb_id5, n_id5_tb, n_tb_id1, n_id1_tb, hB1])
        | (((with_reducible apply AWp.drawS (id := 20) (t := (Sch.step 0 (Sch.step 1 (Sch.step 2 (Sch.step 3 (Sch.step 5 (Sch.pure 6 (Sch.read 4 (Sch.alt 7 (Sch.step 8 Sch.done) Sch.none)))))))))); (exact mixed); kernel_rfl; kernel_rfl; (repeat (with_reducible first | apply PanQ.then | apply PanQ.block | apply PanQ.body | apply PanQ.no))); simp -implicitDefEqProofs [hI, hlt, hg, hg', lV, hz, n_id5_id1, n_id1_id5, n_id6_id5, n_id5_id6, n_id6_id1, n_id1_id6, n_tc_id6, n_id6_tc, n_tc_id5, n_id5_tc, n_tc_id1, n_id1_tc, n_tb_tc, n_tc_tb, n_tb_id6, n_id6_tb, n_tb_id5, n_id5_tb, n_tb_id1, n_id1_tb, hB1])
        | ((with_reducible apply AWp.ret); try simp -implicitDefEqProofs [hI, hlt, hg, hg', lV, hz, n_id5_id1, n_id1_id5, n_id6_id5, n_id5_id6, n_id6_id1, n_id1_id6, n_tc_id6, n_id6_tc, n_tc_id5, n_id5_tc, n_tc_id1, n_id1_tc, n_tb_tc, n_tc_tb, n_tb_id6, n_id6_tb, n_tb_id5, n_id5_tb, n_tb_id1, n_id1_tb, hB1])
        | ((with_reducible apply AWp.skip); try simp -implicitDefEqProofs [hI, hlt, hg, hg', lV, hz, n_id5_id1, n_id1_id5, n_id6_id5, n_id5_id6, n_id6_id1, n_id1_id6, n_tc_id6, n_id6_tc, n_tc_id5, n_id5_tc, n_tc_id1, n_id1_tc, n_tb_tc, n_tc_tb, n_tb_id6, n_id6_tb, n_tb_id5, n_id5_tb, n_tb_id1, n_id1_tb, hB1])
        | ((with_reducible apply AWp.exit); try simp -implicitDefEqProofs [hI, hlt, hg, hg', lV, hz, n_id5_id1, n_id1_id5, n_id6_id5, n_id5_id6, n_id6_id1, n_id1_id6, n_tc_id6, n_id6_tc, n_tc_id5, n_id5_tc, n_tc_id1, n_id1_tc, n_tb_tc, n_tc_tb, n_tb_id6, n_id6_tb, n_tb_id5, n_id5_tb, n_tb_id1, n_id1_tb, hB1]))
      refine ⟨m - 1, _, _, by omega, FrWk.mk ?_, AS.le_refl _, i + 1, th, cnt, bod, by omega, by omega, by simpa using hok, hth, by rw [Nat.pow_succ]; omega, hcnt, hbod, by omega, by omega, rfl, rfl⟩
      simp [wInc (show i < 4000000000000000000 by omega)]
    · have hp1 : pl1 x ≠ [] := by simp [pl1, hz]
      have hp1l : (pl1 x).length = x.1.length := by simp [pl1]
      simp only [cnt1, hp1, if_false] at hth hcnt
      have hfl : fitsB (x.1.length : Int) 2 = true := by simp [fitsB]; omega
      have hp5 := put5 B cnt (decide (cnt = [])) bod (decide (bod = [])) x.1.length hfl (by omega)
      repeat (first
        | (with_reducible apply AWp.seq)
        | (with_reducible apply AWp.block)
        | ((with_reducible apply AWp.fork); simp -implicitDefEqProofs [hI, hlt, hg, hg', lV, hz, n_id5_id1, n_id1_id5, n_id6_id5, n_id5_id6, n_id6_id1, n_id1_id6, n_tc_id6, n_id6_tc, n_tc_id5, n_id5_tc, n_tc_id1, n_id1_tc, n_tb_tc, n_tc_tb, n_tb_id6, n_id6_tb, n_tb_id5, n_id5_tb, n_tb_id1, n_id1_tb, hB1])
        | ((with_reducible apply AWp.region); simp -implicitDefEqProofs [hI, hlt, hg, hg', lV, hz, n_id5_id1, n_id1_id5, n_id6_id5, n_id5_id6, n_id6_id1, n_id1_id6, n_tc_id6, n_id6_tc, n_tc_id5, n_id5_tc, n_tc_id1, n_id1_tc, n_tb_tc, n_tc_tb, n_tb_id6, n_id6_tb, n_tb_id5, n_id5_tb, n_tb_id1, n_id1_tb, hB1])
        | (with_reducible refine And.intro (by first | omega | assumption | decide) ?_)
        | ((with_reducible show condK _ _ _); simp -implicitDefEqProofs [hI, hlt, hg, hg', lV, hz, n_id5_id1, n_id1_id5, n_id6_id5, n_id5_id6, n_id6_id1, n_id1_id6, n_tc_id6, n_id6_tc, n_tc_id5, n_id5_tc, n_tc_id1, n_id1_tc, n_tb_tc, n_tc_tb, n_tb_id6, n_id6_tb, n_tb_id5, n_id5_tb, n_tb_id1, n_id1_tb, hB1])
        | ((with_reducible show guardK _ _ _ _ _ _ _ _ _); simp -implicitDefEqProofs [hI, hlt, hg, hg', lV, hz, n_id5_id1, n_id1_id5, n_id6_id5, n_id5_id6, n_id6_id1, n_id1_id6, n_tc_id6, n_id6_tc, n_tc_id5, n_id5_tc, n_tc_id1, n_id1_tc, n_tb_tc, n_tc_tb, n_tb_id6, n_id6_tb, n_tb_id5, n_id5_tb, n_tb_id1, n_id1_tb, hB1])
        | (((with_reducible apply AWp.drawS (id := 20) (t := (Sch.step 0 (Sch.step 1 (Sch.step 2 (Sch.step 3 (Sch.step 5 (Sch.pure 6 (Sch.read 4 (Sch.alt 7 (Sch.step 8 Sch.done) Sch.none)))))))))); (exact mixed); kernel_rfl; kernel_rfl; (repeat (with_reducible first | apply PanQ.then | apply PanQ.block | apply PanQ.body | apply PanQ.no))); simp -implicitDefEqProofs [hI, hlt, hg, hg', lV, hz, n_id5_id1, n_id1_id5, n_id6_id5, n_id5_id6, n_id6_id1, n_id1_id6, n_tc_id6, n_id6_tc, n_tc_id5, n_id5_tc, n_tc_id1, n_id1_tc, n_tb_tc, n_tc_tb, n_tb_id6, n_id6_tb, n_tb_id5, n_id5_tb, n_tb_id1, n_id1_tb, hB1])
        | ((with_reducible apply aCall.id); first
            | ((apply aCall.gives (hp5)); simp -implicitDefEqProofs [hI, hlt, hg, hg', lV, hz, n_id5_id1, n_id1_id5, n_id6_id5, n_id5_id6, n_id6_id1, n_id1_id6, n_tc_id6, n_id6_tc, n_tc_id5, n_id5_tc, n_tc_id1, n_id1_tc, n_tb_tc, n_tc_tb, n_tb_id6, n_id6_tb, n_tb_id5, n_id5_tb, n_tb_id1, n_id1_tb, hB1]))
        | ((with_reducible apply pureCall.id); first
            | ((apply pureCall.gives (fun _ => hp5)); simp -implicitDefEqProofs [hI, hlt, hg, hg', lV, hz, n_id5_id1, n_id1_id5, n_id6_id5, n_id5_id6, n_id6_id1, n_id1_id6, n_tc_id6, n_id6_tc, n_tc_id5, n_id5_tc, n_tc_id1, n_id1_tc, n_tb_tc, n_tc_tb, n_tb_id6, n_id6_tb, n_tb_id5, n_id5_tb, n_tb_id1, n_id1_tb, hB1]))
        | ((with_reducible apply AWp.ret); try simp -implicitDefEqProofs [hI, hlt, hg, hg', lV, hz, n_id5_id1, n_id1_id5, n_id6_id5, n_id5_id6, n_id6_id1, n_id1_id6, n_tc_id6, n_id6_tc, n_tc_id5, n_id5_tc, n_tc_id1, n_id1_tc, n_tb_tc, n_tc_tb, n_tb_id6, n_id6_tb, n_tb_id5, n_id5_tb, n_tb_id1, n_id1_tb, hB1])
        | ((with_reducible apply AWp.skip); try simp -implicitDefEqProofs [hI, hlt, hg, hg', lV, hz, n_id5_id1, n_id1_id5, n_id6_id5, n_id5_id6, n_id6_id1, n_id1_id6, n_tc_id6, n_id6_tc, n_tc_id5, n_id5_tc, n_tc_id1, n_id1_tc, n_tb_tc, n_tc_tb, n_tb_id6, n_id6_tb, n_tb_id5, n_id5_tb, n_tb_id1, n_id1_tb, hB1])
        | ((with_reducible apply AWp.exit); try simp -implicitDefEqProofs [hI, hlt, hg, hg', lV, hz, n_id5_id1, n_id1_id5, n_id6_id5, n_id5_id6, n_id6_id1, n_id1_id6, n_tc_id6, n_id6_tc, n_tc_id5, n_id5_tc, n_tc_id1, n_id1_tc, n_tb_tc, n_tc_tb, n_tb_id6, n_id6_tb, n_tb_id5, n_id5_tb, n_tb_id1, n_id1_tb, hB1]))
      refine AWp.loopI (wwI R o nl (okW (pl R) en) i (th + 2 ^ i) x (cnt ++ putB x.1.length 2) (bodyB (i + 1) ((pl R).drop (i + 1))) (bodyB 0 (pl R)) (allFit (i + 1) ((pl R).drop (i + 1)) && fitsB en 2) id1 id5 id6 tc tb B) (k0 := x.1.length) ⟨0, bod, by omega, by omega, by rw [hok, Bool.and_assoc]; rfl, by rw [← hbod]; simp, by omega, rfl, rfl⟩ (FrWk.mk ?_) (AS.le_refl _) ?_
      · simp [lV]
        exact wk_i (or_bit th i (by omega) hth2)
      rintro m2 f σ' ⟨k, bod2, hm2, hk, hok2, hbod2, lb2, hs, rfl⟩
      subst σ'
      by_cases hlt2 : k < x.1.length
      · obtain ⟨y, hg2, hd2, hmem2, _⟩ := at_lt x.1 hlt2
        obtain ⟨_, hg2'⟩ := List.getElem?_eq_some_iff.1 hg2
        have hK : ((k : Int) < x.1.length) = True := by simp; omega
        have hyl := hc x hmem y hmem2
        have hdp2 : (pl1 x).drop k = y.1 :: (pl1 x).drop (k + 1) := by
          rw [pl1, ← List.map_drop, hd2, List.map_cons, List.map_drop]
        rw [hdp2] at hok2 hbod2
        simp only [tabFit, tabB, List.all_cons, List.flatMap_cons] at hok2 hbod2
        have hlenY : y.1.length = (kindsL i).length := by
          have := formF_get (k := i) (l := pl1 x) hFF (by simp [pl, hg]) y.1 (List.mem_map.2 ⟨y, hmem2, rfl⟩)
          simpa using this
        have hkl := kinds_len (i : Int)
        have hka := kinds_ascii (i : Int)
        have hkd' := fun σ => hkd i σ
        generalize hks : kindsL (i : Int) = ks at *
        repeat (first
          | (with_reducible apply AWp.seq)
          | (with_reducible apply AWp.block)
          | ((with_reducible apply AWp.fork); simp -implicitDefEqProofs [hK, hlt2, hg2, hg2', lV, iV, n_id5_id1, n_id1_id5, n_id6_id5, n_id5_id6, n_id6_id1, n_id1_id6, n_tc_id6, n_id6_tc, n_tc_id5, n_id5_tc, n_tc_id1, n_id1_tc, n_tb_tc, n_tc_tb, n_tb_id6, n_id6_tb, n_tb_id5, n_id5_tb, n_tb_id1, n_id1_tb, hB1])
          | ((with_reducible apply AWp.region); simp -implicitDefEqProofs [hK, hlt2, hg2, hg2', lV, iV, n_id5_id1, n_id1_id5, n_id6_id5, n_id5_id6, n_id6_id1, n_id1_id6, n_tc_id6, n_id6_tc, n_tc_id5, n_id5_tc, n_tc_id1, n_id1_tc, n_tb_tc, n_tc_tb, n_tb_id6, n_id6_tb, n_tb_id5, n_id5_tb, n_tb_id1, n_id1_tb, hB1])
          | (with_reducible refine And.intro (by first | omega | assumption | decide) ?_)
          | ((with_reducible show condK _ _ _); simp -implicitDefEqProofs [hK, hlt2, hg2, hg2', lV, iV, n_id5_id1, n_id1_id5, n_id6_id5, n_id5_id6, n_id6_id1, n_id1_id6, n_tc_id6, n_id6_tc, n_tc_id5, n_id5_tc, n_tc_id1, n_id1_tc, n_tb_tc, n_tc_tb, n_tb_id6, n_id6_tb, n_tb_id5, n_id5_tb, n_tb_id1, n_id1_tb, hB1])
          | ((with_reducible show guardK _ _ _ _ _ _ _ _ _); simp -implicitDefEqProofs [hK, hlt2, hg2, hg2', lV, iV, n_id5_id1, n_id1_id5, n_id6_id5, n_id5_id6, n_id6_id1, n_id1_id6, n_tc_id6, n_id6_tc, n_tc_id5, n_id5_tc, n_tc_id1, n_id1_tc, n_tb_tc, n_tc_tb, n_tb_id6, n_id6_tb, n_tb_id5, n_id5_tb, n_tb_id1, n_id1_tb, hB1])
          | (((with_reducible apply AWp.drawS (id := 20) (t := (Sch.step 0 (Sch.step 1 (Sch.step 2 (Sch.step 3 (Sch.step 5 (Sch.pure 6 (Sch.read 4 (Sch.alt 7 (Sch.step 8 Sch.done) Sch.none)))))))))); (exact mixed); kernel_rfl; kernel_rfl; (repeat (with_reducible first | apply PanQ.then | apply PanQ.block | apply PanQ.body | apply PanQ.no))); simp -implicitDefEqProofs [hK, hlt2, hg2, hg2', lV, iV, n_id5_id1, n_id1_id5, n_id6_id5, n_id5_id6, n_id6_id1, n_id1_id6, n_tc_id6, n_id6_tc, n_tc_id5, n_id5_tc, n_tc_id1, n_id1_tc, n_tb_tc, n_tc_tb, n_tb_id6, n_id6_tb, n_tb_id5, n_id5_tb, n_tb_id1, n_id1_tb, hB1])
          | ((with_reducible apply aCall.id); first
              | ((apply aCall.gives (hkd' _)); simp -implicitDefEqProofs [hK, hlt2, hg2, hg2', lV, iV, n_id5_id1, n_id1_id5, n_id6_id5, n_id5_id6, n_id6_id1, n_id1_id6, n_tc_id6, n_id6_tc, n_tc_id5, n_id5_tc, n_tc_id1, n_id1_tc, n_tb_tc, n_tc_tb, n_tb_id6, n_id6_tb, n_tb_id5, n_id5_tb, n_tb_id1, n_id1_tb, hB1]))
          | ((with_reducible apply pureCall.id); first
              | ((apply pureCall.gives (fun _ => hkd' _)); simp -implicitDefEqProofs [hK, hlt2, hg2, hg2', lV, iV, n_id5_id1, n_id1_id5, n_id6_id5, n_id5_id6, n_id6_id1, n_id1_id6, n_tc_id6, n_id6_tc, n_tc_id5, n_id5_tc, n_tc_id1, n_id1_tc, n_tb_tc, n_tc_tb, n_tb_id6, n_id6_tb, n_tb_id5, n_id5_tb, n_tb_id1, n_id1_tb, hB1]))
          | ((with_reducible apply AWp.ret); try simp -implicitDefEqProofs [hK, hlt2, hg2, hg2', lV, iV, n_id5_id1, n_id1_id5, n_id6_id5, n_id5_id6, n_id6_id1, n_id1_id6, n_tc_id6, n_id6_tc, n_tc_id5, n_id5_tc, n_tc_id1, n_id1_tc, n_tb_tc, n_tc_tb, n_tb_id6, n_id6_tb, n_tb_id5, n_id5_tb, n_tb_id1, n_id1_tb, hB1])
          | ((with_reducible apply AWp.skip); try simp -implicitDefEqProofs [hK, hlt2, hg2, hg2', lV, iV, n_id5_id1, n_id1_id5, n_id6_id5, n_id5_id6, n_id6_id1, n_id1_id6, n_tc_id6, n_id6_tc, n_tc_id5, n_id5_tc, n_tc_id1, n_id1_tc, n_tb_tc, n_tc_tb, n_tb_id6, n_id6_tb, n_tb_id5, n_id5_tb, n_tb_id1, n_id1_tb, hB1])
          | ((with_reducible apply AWp.exit); try simp -implicitDefEqProofs [hK, hlt2, hg2, hg2', lV, iV, n_id5_id1, n_id1_id5, n_id6_id5, n_id5_id6, n_id6_id1, n_id1_id6, n_tc_id6, n_id6_tc, n_tc_id5, n_id5_tc, n_tc_id1, n_id1_tc, n_tb_tc, n_tc_tb, n_tb_id6, n_id6_tb, n_tb_id5, n_id5_tb, n_tb_id1, n_id1_tb, hB1]))
        intro it h_it
        have w5 : ¬ it = id5 := by rintro rfl; rw [q5] at h_it; cases h_it
        have w6 : ¬ it = id6 := by rintro rfl; rw [q6] at h_it; cases h_it
        have wc : ¬ it = tc := by rintro rfl; rw [qc] at h_it; cases h_it
        have wb : ¬ it = tb := by rintro rfl; rw [qb] at h_it; cases h_it
        have hBit : B it = none := by simpa [WS, w5, w6, wc, wb] using h_it
        have qt : ∀ C cnt n1 bod n2, (WS id5 id6 tc tb C cnt n1 bod n2) it = C it := fun C cnt n1 bod n2 => by simp [WS, w5, w6, wc, wb]
        rw [WS.out w5 w6 wc wb]
        repeat (first
          | (with_reducible apply AWp.seq)
          | (with_reducible apply AWp.block)
          | ((with_reducible apply AWp.fork); simp -implicitDefEqProofs [n_id5_id1, n_id1_id5, n_id6_id5, n_id5_id6, n_id6_id1, n_id1_id6, n_tc_id6, n_id6_tc, n_tc_id5, n_id5_tc, n_tc_id1, n_id1_tc, n_tb_tc, n_tc_tb, n_tb_id6, n_id6_tb, n_tb_id5, n_id5_tb, n_tb_id1, n_id1_tb, hB1])
          | ((with_reducible apply AWp.region); simp -implicitDefEqProofs [n_id5_id1, n_id1_id5, n_id6_id5, n_id5_id6, n_id6_id1, n_id1_id6, n_tc_id6, n_id6_tc, n_tc_id5, n_id5_tc, n_tc_id1, n_id1_tc, n_tb_tc, n_tc_tb, n_tb_id6, n_id6_tb, n_tb_id5, n_id5_tb, n_tb_id1, n_id1_tb, hB1])
          | (with_reducible refine And.intro (by first | omega | assumption | decide) ?_)
          | ((with_reducible show condK _ _ _); simp -implicitDefEqProofs [n_id5_id1, n_id1_id5, n_id6_id5, n_id5_id6, n_id6_id1, n_id1_id6, n_tc_id6, n_id6_tc, n_tc_id5, n_id5_tc, n_tc_id1, n_id1_tc, n_tb_tc, n_tc_tb, n_tb_id6, n_id6_tb, n_tb_id5, n_id5_tb, n_tb_id1, n_id1_tb, hB1])
          | ((with_reducible show guardK _ _ _ _ _ _ _ _ _); simp -implicitDefEqProofs [n_id5_id1, n_id1_id5, n_id6_id5, n_id5_id6, n_id6_id1, n_id1_id6, n_tc_id6, n_id6_tc, n_tc_id5, n_id5_tc, n_tc_id1, n_id1_tc, n_tb_tc, n_tc_tb, n_tb_id6, n_id6_tb, n_tb_id5, n_id5_tb, n_tb_id1, n_id1_tb, hB1])
          | (((with_reducible apply AWp.drawS (id := 20) (t := (Sch.step 0 (Sch.step 1 (Sch.step 2 (Sch.step 3 (Sch.step 5 (Sch.pure 6 (Sch.read 4 (Sch.alt 7 (Sch.step 8 Sch.done) Sch.none)))))))))); (exact mixed); kernel_rfl; kernel_rfl; (repeat (with_reducible first | apply PanQ.then | apply PanQ.block | apply PanQ.body | apply PanQ.no))); simp -implicitDefEqProofs [n_id5_id1, n_id1_id5, n_id6_id5, n_id5_id6, n_id6_id1, n_id1_id6, n_tc_id6, n_id6_tc, n_tc_id5, n_id5_tc, n_tc_id1, n_id1_tc, n_tb_tc, n_tc_tb, n_tb_id6, n_id6_tb, n_tb_id5, n_id5_tb, n_tb_id1, n_id1_tb, hB1])
          | ((with_reducible apply AWp.ret); try simp -implicitDefEqProofs [n_id5_id1, n_id1_id5, n_id6_id5, n_id5_id6, n_id6_id1, n_id1_id6, n_tc_id6, n_id6_tc, n_tc_id5, n_id5_tc, n_tc_id1, n_id1_tc, n_tb_tc, n_tc_tb, n_tb_id6, n_id6_tb, n_tb_id5, n_id5_tb, n_tb_id1, n_id1_tb, hB1])
          | ((with_reducible apply AWp.skip); try simp -implicitDefEqProofs [n_id5_id1, n_id1_id5, n_id6_id5, n_id5_id6, n_id6_id1, n_id1_id6, n_tc_id6, n_id6_tc, n_tc_id5, n_id5_tc, n_tc_id1, n_id1_tc, n_tb_tc, n_tc_tb, n_tb_id6, n_id6_tb, n_tb_id5, n_id5_tb, n_tb_id1, n_id1_tb, hB1])
          | ((with_reducible apply AWp.exit); try simp -implicitDefEqProofs [n_id5_id1, n_id1_id5, n_id6_id5, n_id5_id6, n_id6_id1, n_id1_id6, n_tc_id6, n_id6_tc, n_tc_id5, n_id5_tc, n_tc_id1, n_id1_tc, n_tb_tc, n_tc_tb, n_tb_id6, n_id6_tb, n_tb_id5, n_id5_tb, n_tb_id1, n_id1_tb, hB1]))
        refine AWp.loopI (wwJ R o nl (okW (pl R) en) i (th + 2 ^ i) k x y ks (cnt ++ putB x.1.length 2) ((tabB i ((pl1 x).drop (k + 1))) ++ bodyB (i + 1) ((pl R).drop (i + 1))) (bodyB 0 (pl R)) (tabFit i ((pl1 x).drop (k + 1)) && (allFit (i + 1) ((pl R).drop (i + 1)) && fitsB en 2)) (40000 * i + 24 * k) it id1 id5 id6 tc tb B) (k0 := ks.length) ⟨0, bod2, by omega, by omega, ?_, ?_, by omega, rfl, rfl⟩ (FrWk.mk ?_) (AS.le_refl _) ?_
        · rw [hok2, List.drop_zero, List.drop_zero, Bool.and_assoc, tabFit, hks]
        · rw [List.drop_zero, List.drop_zero, ← hbod2]; simp [tabB, hks]
        · simp [lV, iV]
        rintro m3 f σ' ⟨j, bod3, hm3, hj, hok3, hbod3, lb3, hs, rfl⟩
        subst σ'
        by_cases hlt3 : j < ks.length
        · obtain ⟨kd, hg3, hd3, hmem3, _⟩ := at_lt ks hlt3
          obtain ⟨v, hg4, hd4, hmem4, _⟩ := at_lt y.1 (show j < y.1.length by omega)
          obtain ⟨_, hg4'⟩ := List.getElem?_eq_some_iff.1 hg4
          rw [hd3, hd4] at hok3 hbod3
          simp only [rowFit, rowB] at hok3 hbod3
          have hdec := dec_ascii ks j hg3 (hka kd hmem3)
          have hwd := fun σ => width_ok kd 0 (by omega) σ
          have hw24 := wK_24 kd 0
          have hyj : j < y.1.length := by omega
          have hJ1 : ((j : Int) < y.1.length) = True := by simp; omega
          have hwo := fun C cnt n1 bod n2 x => WS.out (id5 := id5) (id6 := id6) (tc := tc) (tb := tb) (B := C) (cnt := cnt) (n1 := n1) (bod := bod) (n2 := n2) (x := x) w5 w6 wc wb
          have hpl := putB_length v (wK kd 0).toNat
          cases hfv : fitsB v (wK kd 0) with
          | false =>
            have hno := fun σ => wput_no id6 tb bod3 (decide (bod3 = [])) v (wK kd 0) hw24 hfv σ
            rw [hfv] at hok3
            repeat (first
              | (with_reducible apply AWp.seq)
              | (with_reducible apply AWp.block)
              | ((with_reducible apply AWp.fork); simp -implicitDefEqProofs [hlt3, hdec, qt, iV, hyj, hJ1, hg4, hg4', i64v_def, hwo, n_id5_id1, n_id1_id5, n_id6_id5, n_id5_id6, n_id6_id1, n_id1_id6, n_tc_id6, n_id6_tc, n_tc_id5, n_id5_tc, n_tc_id1, n_id1_tc, n_tb_tc, n_tc_tb, n_tb_id6, n_id6_tb, n_tb_id5, n_id5_tb, n_tb_id1, n_id1_tb, hB1])
              | ((with_reducible apply AWp.region); simp -implicitDefEqProofs [hlt3, hdec, qt, iV, hyj, hJ1, hg4, hg4', i64v_def, hwo, n_id5_id1, n_id1_id5, n_id6_id5, n_id5_id6, n_id6_id1, n_id1_id6, n_tc_id6, n_id6_tc, n_tc_id5, n_id5_tc, n_tc_id1, n_id1_tc, n_tb_tc, n_tc_tb, n_tb_id6, n_id6_tb, n_tb_id5, n_id5_tb, n_tb_id1, n_id1_tb, hB1])
              | (with_reducible refine And.intro (by first | omega | assumption | decide) ?_)
              | ((with_reducible show condK _ _ _); simp -implicitDefEqProofs [hlt3, hdec, qt, iV, hyj, hJ1, hg4, hg4', i64v_def, hwo, n_id5_id1, n_id1_id5, n_id6_id5, n_id5_id6, n_id6_id1, n_id1_id6, n_tc_id6, n_id6_tc, n_tc_id5, n_id5_tc, n_tc_id1, n_id1_tc, n_tb_tc, n_tc_tb, n_tb_id6, n_id6_tb, n_tb_id5, n_id5_tb, n_tb_id1, n_id1_tb, hB1])
              | ((with_reducible show guardK _ _ _ _ _ _ _ _ _); simp -implicitDefEqProofs [hlt3, hdec, qt, iV, hyj, hJ1, hg4, hg4', i64v_def, hwo, n_id5_id1, n_id1_id5, n_id6_id5, n_id5_id6, n_id6_id1, n_id1_id6, n_tc_id6, n_id6_tc, n_tc_id5, n_id5_tc, n_tc_id1, n_id1_tc, n_tb_tc, n_tc_tb, n_tb_id6, n_id6_tb, n_tb_id5, n_id5_tb, n_tb_id1, n_id1_tb, hB1])
              | (((with_reducible apply AWp.drawS (id := 20) (t := (Sch.step 0 (Sch.step 1 (Sch.step 2 (Sch.step 3 (Sch.step 5 (Sch.pure 6 (Sch.read 4 (Sch.alt 7 (Sch.step 8 Sch.done) Sch.none)))))))))); (exact mixed); kernel_rfl; kernel_rfl; (repeat (with_reducible first | apply PanQ.then | apply PanQ.block | apply PanQ.body | apply PanQ.no))); simp -implicitDefEqProofs [hlt3, hdec, qt, iV, hyj, hJ1, hg4, hg4', i64v_def, hwo, n_id5_id1, n_id1_id5, n_id6_id5, n_id5_id6, n_id6_id1, n_id1_id6, n_tc_id6, n_id6_tc, n_tc_id5, n_id5_tc, n_tc_id1, n_id1_tc, n_tb_tc, n_tc_tb, n_tb_id6, n_id6_tb, n_tb_id5, n_id5_tb, n_tb_id1, n_id1_tb, hB1])
              | ((with_reducible apply aCall.id); first
                  | ((apply aCall.gives (hwd _)); simp -implicitDefEqProofs [hlt3, hdec, qt, iV, hyj, hJ1, hg4, hg4', i64v_def, hwo, n_id5_id1, n_id1_id5, n_id6_id5, n_id5_id6, n_id6_id1, n_id1_id6, n_tc_id6, n_id6_tc, n_tc_id5, n_id5_tc, n_tc_id1, n_id1_tc, n_tb_tc, n_tc_tb, n_tb_id6, n_id6_tb, n_tb_id5, n_id5_tb, n_tb_id1, n_id1_tb, hB1])
                  | ((apply aCall.gives (hno _)); simp -implicitDefEqProofs [hlt3, hdec, qt, iV, hyj, hJ1, hg4, hg4', i64v_def, hwo, n_id5_id1, n_id1_id5, n_id6_id5, n_id5_id6, n_id6_id1, n_id1_id6, n_tc_id6, n_id6_tc, n_tc_id5, n_id5_tc, n_tc_id1, n_id1_tc, n_tb_tc, n_tc_tb, n_tb_id6, n_id6_tb, n_tb_id5, n_id5_tb, n_tb_id1, n_id1_tb, hB1]))
              | ((with_reducible apply pureCall.id); first
                  | ((apply pureCall.gives (fun _ => hwd _)); simp -implicitDefEqProofs [hlt3, hdec, qt, iV, hyj, hJ1, hg4, hg4', i64v_def, hwo, n_id5_id1, n_id1_id5, n_id6_id5, n_id5_id6, n_id6_id1, n_id1_id6, n_tc_id6, n_id6_tc, n_tc_id5, n_id5_tc, n_tc_id1, n_id1_tc, n_tb_tc, n_tc_tb, n_tb_id6, n_id6_tb, n_tb_id5, n_id5_tb, n_tb_id1, n_id1_tb, hB1])
                  | ((apply pureCall.gives (fun _ => hno _)); simp -implicitDefEqProofs [hlt3, hdec, qt, iV, hyj, hJ1, hg4, hg4', i64v_def, hwo, n_id5_id1, n_id1_id5, n_id6_id5, n_id5_id6, n_id6_id1, n_id1_id6, n_tc_id6, n_id6_tc, n_tc_id5, n_id5_tc, n_tc_id1, n_id1_tc, n_tb_tc, n_tc_tb, n_tb_id6, n_id6_tb, n_tb_id5, n_id5_tb, n_tb_id1, n_id1_tb, hB1]))
              | ((with_reducible apply AWp.ret); try simp -implicitDefEqProofs [hlt3, hdec, qt, iV, hyj, hJ1, hg4, hg4', i64v_def, hwo, n_id5_id1, n_id1_id5, n_id6_id5, n_id5_id6, n_id6_id1, n_id1_id6, n_tc_id6, n_id6_tc, n_tc_id5, n_id5_tc, n_tc_id1, n_id1_tc, n_tb_tc, n_tc_tb, n_tb_id6, n_id6_tb, n_tb_id5, n_id5_tb, n_tb_id1, n_id1_tb, hB1])
              | ((with_reducible apply AWp.skip); try simp -implicitDefEqProofs [hlt3, hdec, qt, iV, hyj, hJ1, hg4, hg4', i64v_def, hwo, n_id5_id1, n_id1_id5, n_id6_id5, n_id5_id6, n_id6_id1, n_id1_id6, n_tc_id6, n_id6_tc, n_tc_id5, n_id5_tc, n_tc_id1, n_id1_tc, n_tb_tc, n_tc_tb, n_tb_id6, n_id6_tb, n_tb_id5, n_id5_tb, n_tb_id1, n_id1_tb, hB1])
              | ((with_reducible apply AWp.exit); try simp -implicitDefEqProofs [hlt3, hdec, qt, iV, hyj, hJ1, hg4, hg4', i64v_def, hwo, n_id5_id1, n_id1_id5, n_id6_id5, n_id5_id6, n_id6_id1, n_id1_id6, n_tc_id6, n_id6_tc, n_tc_id5, n_id5_tc, n_tc_id1, n_id1_tc, n_tb_tc, n_tc_tb, n_tb_id6, n_id6_tb, n_tb_id5, n_id5_tb, n_tb_id1, n_id1_tb, hB1]))
            exact WPost.no (by rw [hok3]; rfl) (hle _ _ _ _ _ (le_new hBit (AS.le_refl _)))
          | true =>
            have hp6 := fun C => put6 C (cnt ++ putB x.1.length 2) false bod3 (decide (bod3 = [])) v (wK kd 0) hw24 hfv (by omega)
            rw [hfv] at hok3
            repeat (first
              | (with_reducible apply AWp.seq)
              | (with_reducible apply AWp.block)
              | ((with_reducible apply AWp.fork); simp -implicitDefEqProofs [hlt3, hdec, qt, iV, hyj, hJ1, hg4, hg4', i64v_def, hwo, n_id5_id1, n_id1_id5, n_id6_id5, n_id5_id6, n_id6_id1, n_id1_id6, n_tc_id6, n_id6_tc, n_tc_id5, n_id5_tc, n_tc_id1, n_id1_tc, n_tb_tc, n_tc_tb, n_tb_id6, n_id6_tb, n_tb_id5, n_id5_tb, n_tb_id1, n_id1_tb, hB1])
              | ((with_reducible apply AWp.region); simp -implicitDefEqProofs [hlt3, hdec, qt, iV, hyj, hJ1, hg4, hg4', i64v_def, hwo, n_id5_id1, n_id1_id5, n_id6_id5, n_id5_id6, n_id6_id1, n_id1_id6, n_tc_id6, n_id6_tc, n_tc_id5, n_id5_tc, n_tc_id1, n_id1_tc, n_tb_tc, n_tc_tb, n_tb_id6, n_id6_tb, n_tb_id5, n_id5_tb, n_tb_id1, n_id1_tb, hB1])
              | (with_reducible refine And.intro (by first | omega | assumption | decide) ?_)
              | ((with_reducible show condK _ _ _); simp -implicitDefEqProofs [hlt3, hdec, qt, iV, hyj, hJ1, hg4, hg4', i64v_def, hwo, n_id5_id1, n_id1_id5, n_id6_id5, n_id5_id6, n_id6_id1, n_id1_id6, n_tc_id6, n_id6_tc, n_tc_id5, n_id5_tc, n_tc_id1, n_id1_tc, n_tb_tc, n_tc_tb, n_tb_id6, n_id6_tb, n_tb_id5, n_id5_tb, n_tb_id1, n_id1_tb, hB1])
              | ((with_reducible show guardK _ _ _ _ _ _ _ _ _); simp -implicitDefEqProofs [hlt3, hdec, qt, iV, hyj, hJ1, hg4, hg4', i64v_def, hwo, n_id5_id1, n_id1_id5, n_id6_id5, n_id5_id6, n_id6_id1, n_id1_id6, n_tc_id6, n_id6_tc, n_tc_id5, n_id5_tc, n_tc_id1, n_id1_tc, n_tb_tc, n_tc_tb, n_tb_id6, n_id6_tb, n_tb_id5, n_id5_tb, n_tb_id1, n_id1_tb, hB1])
              | (((with_reducible apply AWp.drawS (id := 20) (t := (Sch.step 0 (Sch.step 1 (Sch.step 2 (Sch.step 3 (Sch.step 5 (Sch.pure 6 (Sch.read 4 (Sch.alt 7 (Sch.step 8 Sch.done) Sch.none)))))))))); (exact mixed); kernel_rfl; kernel_rfl; (repeat (with_reducible first | apply PanQ.then | apply PanQ.block | apply PanQ.body | apply PanQ.no))); simp -implicitDefEqProofs [hlt3, hdec, qt, iV, hyj, hJ1, hg4, hg4', i64v_def, hwo, n_id5_id1, n_id1_id5, n_id6_id5, n_id5_id6, n_id6_id1, n_id1_id6, n_tc_id6, n_id6_tc, n_tc_id5, n_id5_tc, n_tc_id1, n_id1_tc, n_tb_tc, n_tc_tb, n_tb_id6, n_id6_tb, n_tb_id5, n_id5_tb, n_tb_id1, n_id1_tb, hB1])
              | ((with_reducible apply aCall.id); first
                  | ((apply aCall.gives (hwd _)); simp -implicitDefEqProofs [hlt3, hdec, qt, iV, hyj, hJ1, hg4, hg4', i64v_def, hwo, n_id5_id1, n_id1_id5, n_id6_id5, n_id5_id6, n_id6_id1, n_id1_id6, n_tc_id6, n_id6_tc, n_tc_id5, n_id5_tc, n_tc_id1, n_id1_tc, n_tb_tc, n_tc_tb, n_tb_id6, n_id6_tb, n_tb_id5, n_id5_tb, n_tb_id1, n_id1_tb, hB1])
                  | ((apply aCall.gives (hp6 _)); simp -implicitDefEqProofs [hlt3, hdec, qt, iV, hyj, hJ1, hg4, hg4', i64v_def, hwo, n_id5_id1, n_id1_id5, n_id6_id5, n_id5_id6, n_id6_id1, n_id1_id6, n_tc_id6, n_id6_tc, n_tc_id5, n_id5_tc, n_tc_id1, n_id1_tc, n_tb_tc, n_tc_tb, n_tb_id6, n_id6_tb, n_tb_id5, n_id5_tb, n_tb_id1, n_id1_tb, hB1]))
              | ((with_reducible apply pureCall.id); first
                  | ((apply pureCall.gives (fun _ => hwd _)); simp -implicitDefEqProofs [hlt3, hdec, qt, iV, hyj, hJ1, hg4, hg4', i64v_def, hwo, n_id5_id1, n_id1_id5, n_id6_id5, n_id5_id6, n_id6_id1, n_id1_id6, n_tc_id6, n_id6_tc, n_tc_id5, n_id5_tc, n_tc_id1, n_id1_tc, n_tb_tc, n_tc_tb, n_tb_id6, n_id6_tb, n_tb_id5, n_id5_tb, n_tb_id1, n_id1_tb, hB1])
                  | ((apply pureCall.gives (fun _ => hp6 _)); simp -implicitDefEqProofs [hlt3, hdec, qt, iV, hyj, hJ1, hg4, hg4', i64v_def, hwo, n_id5_id1, n_id1_id5, n_id6_id5, n_id5_id6, n_id6_id1, n_id1_id6, n_tc_id6, n_id6_tc, n_tc_id5, n_id5_tc, n_tc_id1, n_id1_tc, n_tb_tc, n_tc_tb, n_tb_id6, n_id6_tb, n_tb_id5, n_id5_tb, n_tb_id1, n_id1_tb, hB1]))
              | ((with_reducible apply AWp.ret); try simp -implicitDefEqProofs [hlt3, hdec, qt, iV, hyj, hJ1, hg4, hg4', i64v_def, hwo, n_id5_id1, n_id1_id5, n_id6_id5, n_id5_id6, n_id6_id1, n_id1_id6, n_tc_id6, n_id6_tc, n_tc_id5, n_id5_tc, n_tc_id1, n_id1_tc, n_tb_tc, n_tc_tb, n_tb_id6, n_id6_tb, n_tb_id5, n_id5_tb, n_tb_id1, n_id1_tb, hB1])
              | ((with_reducible apply AWp.skip); try simp -implicitDefEqProofs [hlt3, hdec, qt, iV, hyj, hJ1, hg4, hg4', i64v_def, hwo, n_id5_id1, n_id1_id5, n_id6_id5, n_id5_id6, n_id6_id1, n_id1_id6, n_tc_id6, n_id6_tc, n_tc_id5, n_id5_tc, n_tc_id1, n_id1_tc, n_tb_tc, n_tc_tb, n_tb_id6, n_id6_tb, n_tb_id5, n_id5_tb, n_tb_id1, n_id1_tb, hB1])
              | ((with_reducible apply AWp.exit); try simp -implicitDefEqProofs [hlt3, hdec, qt, iV, hyj, hJ1, hg4, hg4', i64v_def, hwo, n_id5_id1, n_id1_id5, n_id6_id5, n_id5_id6, n_id6_id1, n_id1_id6, n_tc_id6, n_id6_tc, n_tc_id5, n_id5_tc, n_tc_id1, n_id1_tc, n_tb_tc, n_tc_tb, n_tb_id6, n_id6_tb, n_tb_id5, n_id5_tb, n_tb_id1, n_id1_tb, hB1]))
            have hne : ¬ (bod3 ++ putB v (wK kd 0).toNat = []) := by
              intro e
              have := congrArg List.length e
              simp [hpl] at this
              omega
            refine ⟨m3 - 1, _, _, by omega, FrWk.mk ?_, AS.le_refl _, j + 1, bod3 ++ putB v (wK kd 0).toNat, by omega, by omega, by rw [hok3]; simp, by rw [← hbod3]; simp, by rw [List.length_append, hpl]; omega, by simp only [hne, decide_false], rfl⟩
            simp [lV, iV, wInc (show j < 4000000000000000000 by omega)]
        · have hks' : ks.drop j = [] := List.drop_eq_nil_of_le (by omega)
          rw [hks'] at hok3 hbod3
          simp [rowFit, rowB] at hok3 hbod3
          have hlt3' : (j < ks.length) = False := by simp; omega
          repeat (first
            | (with_reducible apply AWp.seq)
            | (with_reducible apply AWp.block)
            | ((with_reducible apply AWp.fork); simp -implicitDefEqProofs [hlt3', qt, bsz, n_id5_id1, n_id1_id5, n_id6_id5, n_id5_id6, n_id6_id1, n_id1_id6, n_tc_id6, n_id6_tc, n_tc_id5, n_id5_tc, n_tc_id1, n_id1_tc, n_tb_tc, n_tc_tb, n_tb_id6, n_id6_tb, n_tb_id5, n_id5_tb, n_tb_id1, n_id1_tb, hB1])
            | ((with_reducible apply AWp.region); simp -implicitDefEqProofs [hlt3', qt, bsz, n_id5_id1, n_id1_id5, n_id6_id5, n_id5_id6, n_id6_id1, n_id1_id6, n_tc_id6, n_id6_tc, n_tc_id5, n_id5_tc, n_tc_id1, n_id1_tc, n_tb_tc, n_tc_tb, n_tb_id6, n_id6_tb, n_tb_id5, n_id5_tb, n_tb_id1, n_id1_tb, hB1])
            | (with_reducible refine And.intro (by first | omega | assumption | decide) ?_)
            | ((with_reducible show condK _ _ _); simp -implicitDefEqProofs [hlt3', qt, bsz, n_id5_id1, n_id1_id5, n_id6_id5, n_id5_id6, n_id6_id1, n_id1_id6, n_tc_id6, n_id6_tc, n_tc_id5, n_id5_tc, n_tc_id1, n_id1_tc, n_tb_tc, n_tc_tb, n_tb_id6, n_id6_tb, n_tb_id5, n_id5_tb, n_tb_id1, n_id1_tb, hB1])
            | ((with_reducible show guardK _ _ _ _ _ _ _ _ _); simp -implicitDefEqProofs [hlt3', qt, bsz, n_id5_id1, n_id1_id5, n_id6_id5, n_id5_id6, n_id6_id1, n_id1_id6, n_tc_id6, n_id6_tc, n_tc_id5, n_id5_tc, n_tc_id1, n_id1_tc, n_tb_tc, n_tc_tb, n_tb_id6, n_id6_tb, n_tb_id5, n_id5_tb, n_tb_id1, n_id1_tb, hB1])
            | (((with_reducible apply AWp.drawS (id := 20) (t := (Sch.step 0 (Sch.step 1 (Sch.step 2 (Sch.step 3 (Sch.step 5 (Sch.pure 6 (Sch.read 4 (Sch.alt 7 (Sch.step 8 Sch.done) Sch.none)))))))))); (exact mixed); kernel_rfl; kernel_rfl; (repeat (with_reducible first | apply PanQ.then | apply PanQ.block | apply PanQ.body | apply PanQ.no))); simp -implicitDefEqProofs [hlt3', qt, bsz, n_id5_id1, n_id1_id5, n_id6_id5, n_id5_id6, n_id6_id1, n_id1_id6, n_tc_id6, n_id6_tc, n_tc_id5, n_id5_tc, n_tc_id1, n_id1_tc, n_tb_tc, n_tc_tb, n_tb_id6, n_id6_tb, n_tb_id5, n_id5_tb, n_tb_id1, n_id1_tb, hB1])
            | ((with_reducible apply AWp.ret); try simp -implicitDefEqProofs [hlt3', qt, bsz, n_id5_id1, n_id1_id5, n_id6_id5, n_id5_id6, n_id6_id1, n_id1_id6, n_tc_id6, n_id6_tc, n_tc_id5, n_id5_tc, n_tc_id1, n_id1_tc, n_tb_tc, n_tc_tb, n_tb_id6, n_id6_tb, n_tb_id5, n_id5_tb, n_tb_id1, n_id1_tb, hB1])
            | ((with_reducible apply AWp.skip); try simp -implicitDefEqProofs [hlt3', qt, bsz, n_id5_id1, n_id1_id5, n_id6_id5, n_id5_id6, n_id6_id1, n_id1_id6, n_tc_id6, n_id6_tc, n_tc_id5, n_id5_tc, n_tc_id1, n_id1_tc, n_tb_tc, n_tc_tb, n_tb_id6, n_id6_tb, n_tb_id5, n_id5_tb, n_tb_id1, n_id1_tb, hB1])
            | ((with_reducible apply AWp.exit); try simp -implicitDefEqProofs [hlt3', qt, bsz, n_id5_id1, n_id1_id5, n_id6_id5, n_id5_id6, n_id6_id1, n_id1_id6, n_tc_id6, n_id6_tc, n_tc_id5, n_id5_tc, n_tc_id1, n_id1_tc, n_tb_tc, n_tc_tb, n_tb_id6, n_id6_tb, n_tb_id5, n_id5_tb, n_tb_id1, n_id1_tb, hB1]))
          refine ⟨m2 - 1, _, _, by omega, FrWk.mk ?_, WS.le (le_new hBit (AS.le_refl _)), k + 1, bod3, by omega, by omega, hok3, hbod3, by omega, rfl, rfl⟩
          simp [lV, wInc (show k < 4000000000000000000 by omega)]
      · have hK : ((k : Int) < x.1.length) = False := by simp; omega
        have hdn : (pl1 x).drop k = [] := List.drop_eq_nil_of_le (by omega)
        rw [hdn] at hok2 hbod2
        simp [tabFit, tabB] at hok2 hbod2
        have hpl := putB_length x.1.length 2
        have hne : ¬ (cnt ++ putB x.1.length 2 = []) := by
          intro e
          have := congrArg List.length e
          simp [hpl] at this
        repeat (first
          | (with_reducible apply AWp.seq)
          | (with_reducible apply AWp.block)
          | ((with_reducible apply AWp.fork); simp -implicitDefEqProofs [hK, n_id5_id1, n_id1_id5, n_id6_id5, n_id5_id6, n_id6_id1, n_id1_id6, n_tc_id6, n_id6_tc, n_tc_id5, n_id5_tc, n_tc_id1, n_id1_tc, n_tb_tc, n_tc_tb, n_tb_id6, n_id6_tb, n_tb_id5, n_id5_tb, n_tb_id1, n_id1_tb, hB1])
          | ((with_reducible apply AWp.region); simp -implicitDefEqProofs [hK, n_id5_id1, n_id1_id5, n_id6_id5, n_id5_id6, n_id6_id1, n_id1_id6, n_tc_id6, n_id6_tc, n_tc_id5, n_id5_tc, n_tc_id1, n_id1_tc, n_tb_tc, n_tc_tb, n_tb_id6, n_id6_tb, n_tb_id5, n_id5_tb, n_tb_id1, n_id1_tb, hB1])
          | (with_reducible refine And.intro (by first | omega | assumption | decide) ?_)
          | ((with_reducible show condK _ _ _); simp -implicitDefEqProofs [hK, n_id5_id1, n_id1_id5, n_id6_id5, n_id5_id6, n_id6_id1, n_id1_id6, n_tc_id6, n_id6_tc, n_tc_id5, n_id5_tc, n_tc_id1, n_id1_tc, n_tb_tc, n_tc_tb, n_tb_id6, n_id6_tb, n_tb_id5, n_id5_tb, n_tb_id1, n_id1_tb, hB1])
          | ((with_reducible show guardK _ _ _ _ _ _ _ _ _); simp -implicitDefEqProofs [hK, n_id5_id1, n_id1_id5, n_id6_id5, n_id5_id6, n_id6_id1, n_id1_id6, n_tc_id6, n_id6_tc, n_tc_id5, n_id5_tc, n_tc_id1, n_id1_tc, n_tb_tc, n_tc_tb, n_tb_id6, n_id6_tb, n_tb_id5, n_id5_tb, n_tb_id1, n_id1_tb, hB1])
          | (((with_reducible apply AWp.drawS (id := 20) (t := (Sch.step 0 (Sch.step 1 (Sch.step 2 (Sch.step 3 (Sch.step 5 (Sch.pure 6 (Sch.read 4 (Sch.alt 7 (Sch.step 8 Sch.done) Sch.none)))))))))); (exact mixed); kernel_rfl; kernel_rfl; (repeat (with_reducible first | apply PanQ.then | apply PanQ.block | apply PanQ.body | apply PanQ.no))); simp -implicitDefEqProofs [hK, n_id5_id1, n_id1_id5, n_id6_id5, n_id5_id6, n_id6_id1, n_id1_id6, n_tc_id6, n_id6_tc, n_tc_id5, n_id5_tc, n_tc_id1, n_id1_tc, n_tb_tc, n_tc_tb, n_tb_id6, n_id6_tb, n_tb_id5, n_id5_tb, n_tb_id1, n_id1_tb, hB1])
          | ((with_reducible apply AWp.ret); try simp -implicitDefEqProofs [hK, n_id5_id1, n_id1_id5, n_id6_id5, n_id5_id6, n_id6_id1, n_id1_id6, n_tc_id6, n_id6_tc, n_tc_id5, n_id5_tc, n_tc_id1, n_id1_tc, n_tb_tc, n_tc_tb, n_tb_id6, n_id6_tb, n_tb_id5, n_id5_tb, n_tb_id1, n_id1_tb, hB1])
          | ((with_reducible apply AWp.skip); try simp -implicitDefEqProofs [hK, n_id5_id1, n_id1_id5, n_id6_id5, n_id5_id6, n_id6_id1, n_id1_id6, n_tc_id6, n_id6_tc, n_tc_id5, n_id5_tc, n_tc_id1, n_id1_tc, n_tb_tc, n_tc_tb, n_tb_id6, n_id6_tb, n_tb_id5, n_id5_tb, n_tb_id1, n_id1_tb, hB1])
          | ((with_reducible apply AWp.exit); try simp -implicitDefEqProofs [hK, n_id5_id1, n_id1_id5, n_id6_id5, n_id5_id6, n_id6_id1, n_id1_id6, n_tc_id6, n_id6_tc, n_tc_id5, n_id5_tc, n_tc_id1, n_id1_tc, n_tb_tc, n_tc_tb, n_tb_id6, n_id6_tb, n_tb_id5, n_id5_tb, n_tb_id1, n_id1_tb, hB1]))
        refine ⟨m - 1, _, _, by omega, FrWk.mk ?_, AS.le_refl _, i + 1, th + 2 ^ i, cnt ++ putB x.1.length 2, bod2, by omega, by omega, hok2, by omega, by rw [Nat.pow_succ]; omega, by rw [hp1l] at hcnt; simp only [cntB, List.append_assoc]; exact hcnt, hbod2, by rw [List.length_append, hpl]; omega, by omega, by simp only [hne, decide_false], rfl⟩
        simp [wInc (show i < 4000000000000000000 by omega)]
  · obtain rfl : i = 6 := by omega
    have hI : ((6 : Int) < R.length) = False := by simp [h6]
    have hdn : (pl R).drop 6 = [] := List.drop_eq_nil_of_le (by omega)
    rw [hdn] at hok hth hcnt hbod
    simp [allFit, thereN, cntB, bodyB] at hok hth hcnt hbod
    cases hfe : fitsB en 2 with
    | false =>
      rw [hfe] at hok
      have hno := fun σ => wput_no id5 tc cnt (decide (cnt = [])) en 2 (.inl rfl) hfe σ
      repeat (first
        | (with_reducible apply AWp.seq)
        | (with_reducible apply AWp.block)
        | ((with_reducible apply AWp.fork); simp -implicitDefEqProofs [hI, q1, hB1, n_id5_id1, n_id1_id5, n_id6_id5, n_id5_id6, n_id6_id1, n_id1_id6, n_tc_id6, n_id6_tc, n_tc_id5, n_id5_tc, n_tc_id1, n_id1_tc, n_tb_tc, n_tc_tb, n_tb_id6, n_id6_tb, n_tb_id5, n_id5_tb, n_tb_id1, n_id1_tb, hB1])
        | ((with_reducible apply AWp.region); simp -implicitDefEqProofs [hI, q1, hB1, n_id5_id1, n_id1_id5, n_id6_id5, n_id5_id6, n_id6_id1, n_id1_id6, n_tc_id6, n_id6_tc, n_tc_id5, n_id5_tc, n_tc_id1, n_id1_tc, n_tb_tc, n_tc_tb, n_tb_id6, n_id6_tb, n_tb_id5, n_id5_tb, n_tb_id1, n_id1_tb, hB1])
        | (with_reducible refine And.intro (by first | omega | assumption | decide) ?_)
        | ((with_reducible show condK _ _ _); simp -implicitDefEqProofs [hI, q1, hB1, n_id5_id1, n_id1_id5, n_id6_id5, n_id5_id6, n_id6_id1, n_id1_id6, n_tc_id6, n_id6_tc, n_tc_id5, n_id5_tc, n_tc_id1, n_id1_tc, n_tb_tc, n_tc_tb, n_tb_id6, n_id6_tb, n_tb_id5, n_id5_tb, n_tb_id1, n_id1_tb, hB1])
        | ((with_reducible show guardK _ _ _ _ _ _ _ _ _); simp -implicitDefEqProofs [hI, q1, hB1, n_id5_id1, n_id1_id5, n_id6_id5, n_id5_id6, n_id6_id1, n_id1_id6, n_tc_id6, n_id6_tc, n_tc_id5, n_id5_tc, n_tc_id1, n_id1_tc, n_tb_tc, n_tc_tb, n_tb_id6, n_id6_tb, n_tb_id5, n_id5_tb, n_tb_id1, n_id1_tb, hB1])
        | (((with_reducible apply AWp.drawS (id := 20) (t := (Sch.step 0 (Sch.step 1 (Sch.step 2 (Sch.step 3 (Sch.step 5 (Sch.pure 6 (Sch.read 4 (Sch.alt 7 (Sch.step 8 Sch.done) Sch.none)))))))))); (exact mixed); kernel_rfl; kernel_rfl; (repeat (with_reducible first | apply PanQ.then | apply PanQ.block | apply PanQ.body | apply PanQ.no))); simp -implicitDefEqProofs [hI, q1, hB1, n_id5_id1, n_id1_id5, n_id6_id5, n_id5_id6, n_id6_id1, n_id1_id6, n_tc_id6, n_id6_tc, n_tc_id5, n_id5_tc, n_tc_id1, n_id1_tc, n_tb_tc, n_tc_tb, n_tb_id6, n_id6_tb, n_tb_id5, n_id5_tb, n_tb_id1, n_id1_tb, hB1])
        | ((with_reducible apply aCall.id); first
            | ((apply aCall.gives (hno _)); simp -implicitDefEqProofs [hI, q1, hB1, n_id5_id1, n_id1_id5, n_id6_id5, n_id5_id6, n_id6_id1, n_id1_id6, n_tc_id6, n_id6_tc, n_tc_id5, n_id5_tc, n_tc_id1, n_id1_tc, n_tb_tc, n_tc_tb, n_tb_id6, n_id6_tb, n_tb_id5, n_id5_tb, n_tb_id1, n_id1_tb, hB1]))
        | ((with_reducible apply pureCall.id); first
            | ((apply pureCall.gives (fun _ => hno _)); simp -implicitDefEqProofs [hI, q1, hB1, n_id5_id1, n_id1_id5, n_id6_id5, n_id5_id6, n_id6_id1, n_id1_id6, n_tc_id6, n_id6_tc, n_tc_id5, n_id5_tc, n_tc_id1, n_id1_tc, n_tb_tc, n_tc_tb, n_tb_id6, n_id6_tb, n_tb_id5, n_id5_tb, n_tb_id1, n_id1_tb, hB1]))
        | ((with_reducible apply AWp.ret); try simp -implicitDefEqProofs [hI, q1, hB1, n_id5_id1, n_id1_id5, n_id6_id5, n_id5_id6, n_id6_id1, n_id1_id6, n_tc_id6, n_id6_tc, n_tc_id5, n_id5_tc, n_tc_id1, n_id1_tc, n_tb_tc, n_tc_tb, n_tb_id6, n_id6_tb, n_tb_id5, n_id5_tb, n_tb_id1, n_id1_tb, hB1])
        | ((with_reducible apply AWp.skip); try simp -implicitDefEqProofs [hI, q1, hB1, n_id5_id1, n_id1_id5, n_id6_id5, n_id5_id6, n_id6_id1, n_id1_id6, n_tc_id6, n_id6_tc, n_tc_id5, n_id5_tc, n_tc_id1, n_id1_tc, n_tb_tc, n_tc_tb, n_tb_id6, n_id6_tb, n_tb_id5, n_id5_tb, n_tb_id1, n_id1_tb, hB1])
        | ((with_reducible apply AWp.exit); try simp -implicitDefEqProofs [hI, q1, hB1, n_id5_id1, n_id1_id5, n_id6_id5, n_id5_id6, n_id6_id1, n_id1_id6, n_tc_id6, n_id6_tc, n_tc_id5, n_id5_tc, n_tc_id1, n_id1_tc, n_tb_tc, n_tc_tb, n_tb_id6, n_id6_tb, n_tb_id5, n_id5_tb, n_tb_id1, n_id1_tb, hB1]))
      exact WPost.no hok (hle _ _ _ _ _ (AS.le_refl _))
    | true =>
      rw [hfe] at hok
      have hp5 := put5 B cnt (decide (cnt = [])) bod (decide (bod = [])) en hfe (by omega)
      have hpl := putB_length en 2
      have hth8 : IntKind.u8.wrap (th : Int) = ((UInt8.ofNat th).toNat : Int) := by rw [w_u8]; simp
      repeat (first
        | (with_reducible apply AWp.seq)
        | (with_reducible apply AWp.block)
        | ((with_reducible apply AWp.fork); simp -implicitDefEqProofs [hI, q1, hB1, q5, q6, gC, hth8, n_id5_id1, n_id1_id5, n_id6_id5, n_id5_id6, n_id6_id1, n_id1_id6, n_tc_id6, n_id6_tc, n_tc_id5, n_id5_tc, n_tc_id1, n_id1_tc, n_tb_tc, n_tc_tb, n_tb_id6, n_id6_tb, n_tb_id5, n_id5_tb, n_tb_id1, n_id1_tb, hB1])
        | ((with_reducible apply AWp.region); simp -implicitDefEqProofs [hI, q1, hB1, q5, q6, gC, hth8, n_id5_id1, n_id1_id5, n_id6_id5, n_id5_id6, n_id6_id1, n_id1_id6, n_tc_id6, n_id6_tc, n_tc_id5, n_id5_tc, n_tc_id1, n_id1_tc, n_tb_tc, n_tc_tb, n_tb_id6, n_id6_tb, n_tb_id5, n_id5_tb, n_tb_id1, n_id1_tb, hB1])
        | (with_reducible refine And.intro (by first | omega | assumption | decide) ?_)
        | ((with_reducible show condK _ _ _); simp -implicitDefEqProofs [hI, q1, hB1, q5, q6, gC, hth8, n_id5_id1, n_id1_id5, n_id6_id5, n_id5_id6, n_id6_id1, n_id1_id6, n_tc_id6, n_id6_tc, n_tc_id5, n_id5_tc, n_tc_id1, n_id1_tc, n_tb_tc, n_tc_tb, n_tb_id6, n_id6_tb, n_tb_id5, n_id5_tb, n_tb_id1, n_id1_tb, hB1])
        | ((with_reducible show guardK _ _ _ _ _ _ _ _ _); simp -implicitDefEqProofs [hI, q1, hB1, q5, q6, gC, hth8, n_id5_id1, n_id1_id5, n_id6_id5, n_id5_id6, n_id6_id1, n_id1_id6, n_tc_id6, n_id6_tc, n_tc_id5, n_id5_tc, n_tc_id1, n_id1_tc, n_tb_tc, n_tc_tb, n_tb_id6, n_id6_tb, n_tb_id5, n_id5_tb, n_tb_id1, n_id1_tb, hB1])
        | (((with_reducible apply AWp.drawS (id := 20) (t := (Sch.step 0 (Sch.step 1 (Sch.step 2 (Sch.step 3 (Sch.step 5 (Sch.pure 6 (Sch.read 4 (Sch.alt 7 (Sch.step 8 Sch.done) Sch.none)))))))))); (exact mixed); kernel_rfl; kernel_rfl; (repeat (with_reducible first | apply PanQ.then | apply PanQ.block | apply PanQ.body | apply PanQ.no))); simp -implicitDefEqProofs [hI, q1, hB1, q5, q6, gC, hth8, n_id5_id1, n_id1_id5, n_id6_id5, n_id5_id6, n_id6_id1, n_id1_id6, n_tc_id6, n_id6_tc, n_tc_id5, n_id5_tc, n_tc_id1, n_id1_tc, n_tb_tc, n_tc_tb, n_tb_id6, n_id6_tb, n_tb_id5, n_id5_tb, n_tb_id1, n_id1_tb, hB1])
        | ((with_reducible apply aCall.id); first
            | ((apply aCall.gives (hp5)); simp -implicitDefEqProofs [hI, q1, hB1, q5, q6, gC, hth8, n_id5_id1, n_id1_id5, n_id6_id5, n_id5_id6, n_id6_id1, n_id1_id6, n_tc_id6, n_id6_tc, n_tc_id5, n_id5_tc, n_tc_id1, n_id1_tc, n_tb_tc, n_tc_tb, n_tb_id6, n_id6_tb, n_tb_id5, n_id5_tb, n_tb_id1, n_id1_tb, hB1]))
        | ((with_reducible apply pureCall.id); first
            | ((apply pureCall.gives (fun _ => hp5)); simp -implicitDefEqProofs [hI, q1, hB1, q5, q6, gC, hth8, n_id5_id1, n_id1_id5, n_id6_id5, n_id5_id6, n_id6_id1, n_id1_id6, n_tc_id6, n_id6_tc, n_tc_id5, n_id5_tc, n_tc_id1, n_id1_tc, n_tb_tc, n_tc_tb, n_tb_id6, n_id6_tb, n_tb_id5, n_id5_tb, n_tb_id1, n_id1_tb, hB1]))
        | ((with_reducible apply AWp.ret); try simp -implicitDefEqProofs [hI, q1, hB1, q5, q6, gC, hth8, n_id5_id1, n_id1_id5, n_id6_id5, n_id5_id6, n_id6_id1, n_id1_id6, n_tc_id6, n_id6_tc, n_tc_id5, n_id5_tc, n_tc_id1, n_id1_tc, n_tb_tc, n_tc_tb, n_tb_id6, n_id6_tb, n_tb_id5, n_id5_tb, n_tb_id1, n_id1_tb, hB1])
        | ((with_reducible apply AWp.skip); try simp -implicitDefEqProofs [hI, q1, hB1, q5, q6, gC, hth8, n_id5_id1, n_id1_id5, n_id6_id5, n_id5_id6, n_id6_id1, n_id1_id6, n_tc_id6, n_id6_tc, n_tc_id5, n_id5_tc, n_tc_id1, n_id1_tc, n_tb_tc, n_tc_tb, n_tb_id6, n_id6_tb, n_tb_id5, n_id5_tb, n_tb_id1, n_id1_tb, hB1])
        | ((with_reducible apply AWp.exit); try simp -implicitDefEqProofs [hI, q1, hB1, q5, q6, gC, hth8, n_id5_id1, n_id1_id5, n_id6_id5, n_id5_id6, n_id6_id1, n_id1_id6, n_tc_id6, n_id6_tc, n_tc_id5, n_id5_tc, n_tc_id1, n_id1_tc, n_tb_tc, n_tc_tb, n_tb_id6, n_id6_tb, n_tb_id5, n_id5_tb, n_tb_id1, n_id1_tb, hB1]))
      intro tk h_tk
      have w1 : ¬ tk = id1 := by rintro rfl; rw [q1, hB1] at h_tk; cases h_tk
      have w5 : ¬ tk = id5 := by rintro rfl; rw [q5] at h_tk; cases h_tk
      have w6 : ¬ tk = id6 := by rintro rfl; rw [q6] at h_tk; cases h_tk
      have wc : ¬ tk = tc := by rintro rfl; rw [qc] at h_tk; cases h_tk
      have wb : ¬ tk = tb := by rintro rfl; rw [qb] at h_tk; cases h_tk
      have w6' : ¬ id6 = tk := fun e => w6 e.symm
      have hBt : B tk = none := by simpa [WS, w5, w6, wc, wb] using h_tk
      have hσt : σ tk = none := by rw [← eq_B tk w1]; exact hBt
      repeat (first
        | (with_reducible apply AWp.seq)
        | (with_reducible apply AWp.block)
        | ((with_reducible apply AWp.fork); simp -implicitDefEqProofs [w6', q6, gC, n_id5_id1, n_id1_id5, n_id6_id5, n_id5_id6, n_id6_id1, n_id1_id6, n_tc_id6, n_id6_tc, n_tc_id5, n_id5_tc, n_tc_id1, n_id1_tc, n_tb_tc, n_tc_tb, n_tb_id6, n_id6_tb, n_tb_id5, n_id5_tb, n_tb_id1, n_id1_tb, hB1])
        | ((with_reducible apply AWp.region); simp -implicitDefEqProofs [w6', q6, gC, n_id5_id1, n_id1_id5, n_id6_id5, n_id5_id6, n_id6_id1, n_id1_id6, n_tc_id6, n_id6_tc, n_tc_id5, n_id5_tc, n_tc_id1, n_id1_tc, n_tb_tc, n_tc_tb, n_tb_id6, n_id6_tb, n_tb_id5, n_id5_tb, n_tb_id1, n_id1_tb, hB1])
        | (with_reducible refine And.intro (by first | omega | assumption | decide) ?_)
        | ((with_reducible show condK _ _ _); simp -implicitDefEqProofs [w6', q6, gC, n_id5_id1, n_id1_id5, n_id6_id5, n_id5_id6, n_id6_id1, n_id1_id6, n_tc_id6, n_id6_tc, n_tc_id5, n_id5_tc, n_tc_id1, n_id1_tc, n_tb_tc, n_tc_tb, n_tb_id6, n_id6_tb, n_tb_id5, n_id5_tb, n_tb_id1, n_id1_tb, hB1])
        | ((with_reducible show guardK _ _ _ _ _ _ _ _ _); simp -implicitDefEqProofs [w6', q6, gC, n_id5_id1, n_id1_id5, n_id6_id5, n_id5_id6, n_id6_id1, n_id1_id6, n_tc_id6, n_id6_tc, n_tc_id5, n_id5_tc, n_tc_id1, n_id1_tc, n_tb_tc, n_tc_tb, n_tb_id6, n_id6_tb, n_tb_id5, n_id5_tb, n_tb_id1, n_id1_tb, hB1])
        | (((with_reducible apply AWp.drawS (id := 20) (t := (Sch.step 0 (Sch.step 1 (Sch.step 2 (Sch.step 3 (Sch.step 5 (Sch.pure 6 (Sch.read 4 (Sch.alt 7 (Sch.step 8 Sch.done) Sch.none)))))))))); (exact mixed); kernel_rfl; kernel_rfl; (repeat (with_reducible first | apply PanQ.then | apply PanQ.block | apply PanQ.body | apply PanQ.no))); simp -implicitDefEqProofs [w6', q6, gC, n_id5_id1, n_id1_id5, n_id6_id5, n_id5_id6, n_id6_id1, n_id1_id6, n_tc_id6, n_id6_tc, n_tc_id5, n_id5_tc, n_tc_id1, n_id1_tc, n_tb_tc, n_tc_tb, n_tb_id6, n_id6_tb, n_tb_id5, n_id5_tb, n_tb_id1, n_id1_tb, hB1])
        | ((with_reducible apply AWp.ret); try simp -implicitDefEqProofs [w6', q6, gC, n_id5_id1, n_id1_id5, n_id6_id5, n_id5_id6, n_id6_id1, n_id1_id6, n_tc_id6, n_id6_tc, n_tc_id5, n_id5_tc, n_tc_id1, n_id1_tc, n_tb_tc, n_tc_tb, n_tb_id6, n_id6_tb, n_tb_id5, n_id5_tb, n_tb_id1, n_id1_tb, hB1])
        | ((with_reducible apply AWp.skip); try simp -implicitDefEqProofs [w6', q6, gC, n_id5_id1, n_id1_id5, n_id6_id5, n_id5_id6, n_id6_id1, n_id1_id6, n_tc_id6, n_id6_tc, n_tc_id5, n_id5_tc, n_tc_id1, n_id1_tc, n_tb_tc, n_tc_tb, n_tb_id6, n_id6_tb, n_tb_id5, n_id5_tb, n_tb_id1, n_id1_tb, hB1])
        | ((with_reducible apply AWp.exit); try simp -implicitDefEqProofs [w6', q6, gC, n_id5_id1, n_id1_id5, n_id6_id5, n_id5_id6, n_id6_id1, n_id1_id6, n_tc_id6, n_id6_tc, n_tc_id5, n_id5_tc, n_tc_id1, n_id1_tc, n_tb_tc, n_tc_tb, n_tb_id6, n_id6_tb, n_tb_id5, n_id5_tb, n_tb_id1, n_id1_tb, hB1]))
      have hWeq : writeW (pl R) en = [0, UInt8.ofNat th] ++ (cnt ++ putB en 2) ++ bod := by rw [writeW, hth, hcnt, hbod]; rfl
      refine ⟨_, _, ?_, ?_, .inl ⟨hok, tk, hσt, rfl, rfl⟩⟩
      · rw [hWeq]
        exact wk_eq (by simp)
      · have hl : (writeW (pl R) en).length = cnt.length + (putB en 2).length + 1 + 1 + bod.length := by rw [hWeq]; simp; omega
        rw [hl]
        intro j y hy
        by_cases e : j = tk
        · subst e; simpa [AS.set] using hy
        · simp [AS.set, e] at hy ⊢
          exact hle B _ _ _ _ (AS.le_refl _) j y hy

end Go.Proofs.Ytpekbapmnmnjoaa
