/- PoolBack: what is put into a pool is found at its place. No condition. -/
import Derived.Test.YtiojkpebjdifoaaPoolB
import Derived.Test.YtiojkpebjdifoaaPoolD
set_option linter.unusedSimpArgs false
set_option linter.unusedVariables false
set_option maxRecDepth 100000
set_option maxHeartbeats 3200000
namespace Go.Proofs.Ytiojkpebjdifoaa
open Go Go.AW Go.ChangeShapes Go.WideShapes Go.ChangeAt Go.RowKit

theorem packL_1 (n : Int) (h0 : 0 ≤ n) (h2 : n < 128) : packL n = [UInt8.ofNat (n % 256).toNat] := by
  have hs : sizeI n = 1 := by rcases sizeI_cases n h0 (by omega) with ⟨_, hs⟩ | ⟨h, _⟩ | ⟨h, _⟩ <;> first | exact hs | omega
  simp [packL, hs, beL, packX, h2]
theorem packL_2 (n : Int) (h2 : ¬ n < 128) (h3 : n < 16384) : packL n = [UInt8.ofNat ((128 + n / 256) % 256).toNat, UInt8.ofNat (n % 256).toNat] := by
  have hs : sizeI n = 2 := by rcases sizeI_cases n (by omega) (by omega) with ⟨h, _⟩ | ⟨_, _, hs⟩ | ⟨_, h, _⟩ <;> first | exact hs | omega
  have : (n + 32768) / 256 % 256 = (128 + n / 256) % 256 := by omega
  have : (n + 32768) % 256 = n % 256 := by omega
  simp [packL, hs, beL, packX, h2, h3, *]
theorem packL_4 (n : Int) (h1 : n ≤ 536870911) (h3 : ¬ n < 16384) : packL n = [UInt8.ofNat ((192 + n / 16777216) % 256).toNat, UInt8.ofNat (n / 65536 % 256).toNat, UInt8.ofNat (n / 256 % 256).toNat, UInt8.ofNat (n % 256).toNat] := by
  have h2 : ¬ n < 128 := by omega
  have hs : sizeI n = 4 := by rcases sizeI_cases n (by omega) (by omega) with ⟨h, _⟩ | ⟨_, h, _⟩ | ⟨_, _, hs⟩ <;> first | exact hs | omega
  have a1 : (n + 3221225472) / 16777216 % 256 = (192 + n / 16777216) % 256 := by omega
  have a2 : (n + 3221225472) / 65536 % 256 = n / 65536 % 256 := by omega
  have a3 : (n + 3221225472) / 256 % 256 = n / 256 % 256 := by omega
  have a4 : (n + 3221225472) % 256 = n % 256 := by omega
  simp [packL, hs, beL, packX, h2, h3, a1, a2, a3, a4]

theorem upk_pack (n : Int) (h0 : 0 ≤ n) (h1 : n ≤ 536870911) : upk (packL n) = (n, sizeI n, 0) := by
  rcases sizeI_cases n h0 h1 with ⟨h2, hs⟩ | ⟨h2, h3, hs⟩ | ⟨h2, h3, hs⟩
  · rw [packL_1 n h0 h2]
    have e0 := ofN n
    generalize UInt8.ofNat (n % 256).toNat = c at *
    have hw : wantsI c.toNat = 1 := by unfold wantsI; rw [if_pos (by omega)]
    have hb : (c.toNat : Int) = n := by omega
    have h7 : n % 128 = n := by omega
    rw [hb] at hw
    simp [upk, hw, beN, maskI, hs, hb, h7]
  · rw [packL_2 n h2 h3]
    have e0 := ofN n
    have e1 := ofN (128 + n / 256)
    generalize UInt8.ofNat (n % 256).toNat = d at *
    generalize UInt8.ofNat ((128 + n / 256) % 256).toNat = c at *
    have hw : wantsI c.toNat = 2 := by unfold wantsI; rw [if_neg (by omega), if_pos (by omega)]
    have hb : 256 * (c.toNat : Int) + d.toNat = n + 32768 := by omega
    have h7 : (n + 32768) % 16384 = n := by omega
    simp [upk, hw, beN, maskI, hs, hb, h7]
  · rw [packL_4 n h1 h3]
    have e0 := ofN n
    have e1 := ofN (n / 256)
    have e2 := ofN (n / 65536)
    have e3 := ofN (192 + n / 16777216)
    generalize UInt8.ofNat (n % 256).toNat = d at *
    generalize UInt8.ofNat (n / 256 % 256).toNat = d1 at *
    generalize UInt8.ofNat (n / 65536 % 256).toNat = d2 at *
    generalize UInt8.ofNat ((192 + n / 16777216) % 256).toNat = c at *
    have hw : wantsI c.toNat = 4 := by unfold wantsI; rw [if_neg (by omega), if_neg (by omega), if_pos (by omega)]
    have hb : 256 * (256 * (256 * (c.toNat : Int) + d2.toNat) + d1.toNat) + d.toNat = n + 3221225472 := by omega
    have h7 : (n + 3221225472) % 536870912 = n := by omega
    simp [upk, hw, beN, maskI, hs, hb, h7]

theorem upk_app (b r : List UInt8) (x k : Int) (h : upk b = (x, k, 0)) : upk (b ++ r) = (x, k, 0) := by
  match b, h with
  | [], h => simp [upk] at h
  | c :: t, h =>
    simp only [upk] at h
    by_cases h0 : wantsI c.toNat = 0
    · simp [h0] at h
    · by_cases hl : ((c :: t).length : Int) < wantsI c.toNat
      · rw [if_neg h0, if_pos hl] at h; simp at h
      · rw [if_neg h0, if_neg hl] at h
        have hl' : ¬ (((c :: t ++ r).length : Int) < wantsI c.toNat) := by simp at hl ⊢; omega
        have ht : (c :: t ++ r).take (wantsI c.toNat).toNat = (c :: t).take (wantsI c.toNat).toNat := by
          apply List.take_append_of_le_length
          simp at hl ⊢; omega
        show (let k := wantsI c.toNat; if k = 0 then _ else _) = _
        simp only [List.cons_append] at ht hl' ⊢
        rw [if_neg h0, if_neg hl', ht]
        exact h

/-- A blob that stands somewhere is read there. -/
theorem blobS_at (pre post s : List UInt8) (hs : s.length ≤ 536870911) : blobS (pre ++ (encB s ++ post)) pre.length = (s, 0) := by
  have hp := upk_app (packL s.length) (s ++ post) _ _ (upk_pack s.length (by omega) (by omega))
  have hz := packL_len s.length (by omega) (by omega)
  have hk : (packL s.length).length = (sizeI s.length).toNat := by rw [packL, beL_length]
  have hd : (pre ++ (encB s ++ post)).drop ((pre.length : Nat) : Int).toNat = packL s.length ++ (s ++ post) := by
    simp [encB]
  have hs0 : 0 ≤ sizeI s.length := by
    rcases sizeI_cases s.length (by omega) (by omega) with ⟨_, h⟩ | ⟨_, _, h⟩ | ⟨_, _, h⟩ <;> rw [h] <;> decide
  have hlen : (pre ++ (encB s ++ post)).length = pre.length + ((packL s.length).length + s.length + post.length) := by simp [encB]; omega
  unfold blobS
  rw [hd, hp, hlen]
  rw [if_neg (by omega), if_neg (by simp), if_neg (by simp only; omega)]
  generalize packL s.length = p at hk
  have e1 : (sizeI s.length + s.length).toNat = (p ++ s).length := by simp; omega
  simp only
  rw [e1, ← List.append_assoc, List.take_left, ← hk]
  simp

theorem nameS_at (pre post s : List UInt8) (h1 : 1 ≤ pre.length) (hf : fineB s = true) : nameS (pre ++ (s ++ 0 :: post)) pre.length = (s, 0) := by
  have hi : ∀ t : List UInt8, t.all chrB = true → idxB 0 (t ++ 0 :: post) = some t.length := by
    intro t
    induction t with
    | nil => intro _; simp [idxB]
    | cons c r ih =>
      intro h
      simp only [List.all_cons, Bool.and_eq_true] at h
      have hc : ¬ c = 0 := by rintro rfl; simp [chrB] at h
      simp [idxB, hc, ih h.2]
  have hs := hi s (by simp [fineB] at hf; simp; exact hf.2.2)
  have hd : (pre ++ (s ++ 0 :: post)).drop ((pre.length : Nat) : Int).toNat = s ++ 0 :: post := by simp
  unfold nameS
  rw [hd, hs, if_neg (by simp; omega)]
  simp [hf]

def inB (p : List UInt8) (q : List UInt8 × Nat) : Prop := ∃ pre post, p = pre ++ (encB q.1 ++ post) ∧ pre.length = q.2
def inN (p : List UInt8) (q : List UInt8 × Nat) : Prop := ∃ pre post, p = pre ++ (q.1 ++ 0 :: post) ∧ pre.length = q.2 ∧ 1 ≤ q.2
theorem inB.app {p : List UInt8} {q : List UInt8 × Nat} (r : List UInt8) (h : inB p q) : inB (p ++ r) q := by
  obtain ⟨a, b, rfl, h⟩ := h
  exact ⟨a, b ++ r, by simp, h⟩
theorem inN.app {p : List UInt8} {q : List UInt8 × Nat} (r : List UInt8) (h : inN p q) : inN (p ++ r) q := by
  obtain ⟨a, b, rfl, h⟩ := h
  exact ⟨a, b ++ r, by simp, h⟩
theorem lookD_mem {s : List UInt8} {a : Nat} : ∀ {d : List (List UInt8 × Nat)}, lookD s d = some a → (s, a) ∈ d := by
  intro d
  induction d with
  | nil => intro h; simp [lookD] at h
  | cons q r ih =>
    obtain ⟨k, x⟩ := q
    intro h
    simp only [lookD] at h
    split at h
    · rename_i e; cases h; subst e; simp
    · exact List.mem_cons_of_mem _ (ih h)
theorem bmF_at : ∀ (l : List (List UInt8)) (p : List UInt8) (d : List (List UInt8 × Nat)), inB p ([], 0) → (∀ q ∈ d, inB p q) →
    (∀ q ∈ (bmF l p d).2, inB (bmF l p d).1 q) ∧ (bmF l p d).2.map (·.1) = d.map (·.1) ++ l := by
  intro l
  induction l with
  | nil => intro p d _ h; simpa [bmF] using h
  | cons s r ih =>
    intro p d h0 h
    simp only [bmF]
    split
    · rename_i a ha
      have := ih p (d ++ [(s, a)]) h0 (by
        intro q hq
        rcases List.mem_append.1 hq with hq | hq
        · exact h q hq
        · obtain rfl : q = (s, a) := by simpa using hq
          rcases List.mem_cons.1 (lookD_mem ha) with e | e
          · rw [e]; exact h0
          · exact h _ e)
      simpa using this
    · have := ih (p ++ encB s) (d ++ [(s, p.length)]) (h0.app _) (by
        intro q hq
        rcases List.mem_append.1 hq with hq | hq
        · exact (h q hq).app _
        · obtain rfl : q = (s, p.length) := by simpa using hq
          exact ⟨p, [], by simp, rfl⟩)
      simpa using this
theorem nmF_at : ∀ (l : List (List UInt8)) (p : List UInt8) (d : List (List UInt8 × Nat)), 1 ≤ p.length → (∀ q ∈ d, inN p q) →
    (∀ q ∈ (nmF l p d).2, inN (nmF l p d).1 q) ∧ (nmF l p d).2.map (·.1) = d.map (·.1) ++ l := by
  intro l
  induction l with
  | nil => intro p d _ h; simpa [nmF] using h
  | cons s r ih =>
    intro p d h0 h
    simp only [nmF]
    split
    · rename_i a ha
      have := ih p (d ++ [(s, a)]) h0 (by
        intro q hq
        rcases List.mem_append.1 hq with hq | hq
        · exact h q hq
        · obtain rfl : q = (s, a) := by simpa using hq
          exact h _ (lookD_mem ha))
      simpa using this
    · have := ih (p ++ s ++ [0]) (d ++ [(s, p.length)]) (by simp; omega) (by
        intro q hq
        rcases List.mem_append.1 hq with hq | hq
        · exact ((h q hq).app _).app _
        · obtain rfl : q = (s, p.length) := by simpa using hq
          exact ⟨p, [], by simp, rfl, h0⟩)
      simpa using this
/-- What stands at a place of a list of pairs whose first parts are known. -/
theorem at_map {l : List (List UInt8)} {D : List (List UInt8 × Nat)} (h : D.map (·.1) = l) {i : Nat} {s : List UInt8} (hi : l[i]? = some s) : ∃ a, D[i]? = some (s, a) ∧ (s, a) ∈ D := by
  subst h
  rw [List.getElem?_map] at hi
  cases hd : D[i]? with
  | none => rw [hd] at hi; simp at hi
  | some q =>
    rw [hd] at hi
    obtain ⟨k, a⟩ := q
    simp at hi
    subst hi
    exact ⟨a, rfl, List.mem_of_getElem? hd⟩

def bk1 (l : List (List UInt8)) (m : List (List UInt8 × Bool)) (P : List UInt8) (R : List Int) (A : List UInt8) (B : List Int) (nl nm fa : Bool) (σ : AS) (k : Nat) (fr : Fr) (σ' : AS) : Prop :=
  ∃ i : Nat, k = l.length - i ∧ i ≤ l.length ∧ σ' = σ ∧ fr = mkF [(0, .lst 9 (l.map sV) .unk nl), (1, .lst 22 (m.map bV) .unk nm), (5, .lst 5 (P.map u8) .unk false), (6, .lst 3 (R.map i64v) .unk (decide (l = []))), (8, .lst 5 (A.map u8) .unk false), (9, .lst 3 (B.map i64v) .unk fa), (10, .sc (.int .i64 0)), (41, .sc (.int .i64 l.length)), (42, .sc (.int .i64 i))]
def bk2 (m : List (List UInt8 × Bool)) (A : List UInt8) (B : List Int) (nm fa : Bool) (σ : AS) (k : Nat) (fr : Fr) (σ' : AS) : Prop :=
  ∃ i : Nat, k = m.length - i ∧ i ≤ m.length ∧ σ' = σ ∧ fr = mkF [(1, .lst 22 (m.map bV) .unk nm), (8, .lst 5 (A.map u8) .unk false), (9, .lst 3 (B.map i64v) .unk fa), (10, .sc (.int .i64 0)), (70, .sc (.int .i64 m.length)), (71, .sc (.int .i64 i))]

theorem poolBack_ok (l : List (List UInt8)) (nl : Bool) (hn : nl = true → l = []) (hl : l.length ≤ 8796093022208) (hs : ∀ s ∈ l, s.length ≤ 140737488355328)
    (m : List (List UInt8 × Bool)) (nm : Bool) (hm : m.length ≤ 140737488355328) (hmb : ∀ s ∈ m, s.1.length ≤ 140737488355328) :
    ACalls Try.prog 12 [.lst 9 (l.map sV) .unk nl, .lst 22 (m.map bV) .unk nm] noAS IsTrue No := by
  have h1 := fun σ => bytes_ok l .unk nl hl hs σ
  have h2 := fun o σ => long_ok (l.map fun s => (s, false)) o (decide (l = [])) (by simp; omega) (by intro s h; simp at h; obtain ⟨a, h, rfl⟩ := h; exact hs a h) σ
  have h2' := fun σ => long_ok m .unk nm hm hmb σ
  have hLl : (l.map fun s => (s, false)).length = l.length := by simp
  generalize (l.map fun s => (s, false)) = L at h1 h2 hLl
  refine ACalls.of_body Try.func12 rfl rfl (by simp [Try.ntmps12]) ?_
  cases hL : longB L with
  | true =>
    rw [hL] at h2
    repeat (first
      | (with_reducible apply AWp.seq)
      | (with_reducible apply AWp.block)
      | ((with_reducible apply AWp.fork); simp -implicitDefEqProofs)
      | ((with_reducible apply AWp.region); simp -implicitDefEqProofs)
      | (with_reducible refine And.intro (by first | omega | assumption | decide) ?_)
      | ((with_reducible apply aCall.id); first
          | ((apply aCall.gives (pwakes_ok _)); simp -implicitDefEqProofs)
          | ((apply aCall.gives (h1 _)); simp -implicitDefEqProofs)
          | ((apply aCall.gives (h2 _ _)); simp -implicitDefEqProofs))
      | ((with_reducible apply AWp.ret); try simp -implicitDefEqProofs)
      | ((with_reducible apply AWp.skip); try simp -implicitDefEqProofs)
      | ((with_reducible apply AWp.exit); try simp -implicitDefEqProofs))
  | false =>
  rw [hL] at h2
  cases hM : longB m with
  | true =>
    rw [hM] at h2'
    repeat (first
      | (with_reducible apply AWp.seq)
      | (with_reducible apply AWp.block)
      | ((with_reducible apply AWp.fork); simp -implicitDefEqProofs)
      | ((with_reducible apply AWp.region); simp -implicitDefEqProofs)
      | (with_reducible refine And.intro (by first | omega | assumption | decide) ?_)
      | ((with_reducible apply aCall.id); first
          | ((apply aCall.gives (pwakes_ok _)); simp -implicitDefEqProofs)
          | ((apply aCall.gives (h1 _)); simp -implicitDefEqProofs)
          | ((apply aCall.gives (h2 _ _)); simp -implicitDefEqProofs)
          | ((apply aCall.gives (h2' _)); simp -implicitDefEqProofs))
      | ((with_reducible apply AWp.ret); try simp -implicitDefEqProofs)
      | ((with_reducible apply AWp.skip); try simp -implicitDefEqProofs)
      | ((with_reducible apply AWp.exit); try simp -implicitDefEqProofs))
  | false =>
  rw [hM] at h2'
  have hl60 : l.length ≤ 60 := by simp [longB] at hL; omega
  have hm60 : m.length ≤ 60 ∧ ∀ s ∈ m, s.1.length ≤ 300 := by simpa [longB] using hM
  have hms : ∀ s ∈ m, s.1.length ≤ 140737488355328 := hmb
  have h3 := fun σ => names_all l nl .unk (by omega) hs σ
  have h4 := fun σ => blobs_ok m nm .unk hm60.1 hm60.2 σ
  have e : (bmF (m.map (·.1)) [0] []).2.map (fun p => (AV.sc (.int .i64 (p.2 : Int)))) = ((bmF (m.map (·.1)) [0] []).2.map (fun p => (p.2 : Int))).map i64v := by simp [i64v_def]
  rw [e] at h4
  have hAl : (bmF (m.map (·.1)) [0] []).1.length ≤ 140737488355328 := by
    have a1 := bmF_len (m.map (·.1)) [0] [] (by intro s h; obtain ⟨a, ha, rfl⟩ := List.mem_map.1 h; exact hm60.2 a ha)
    simp at a1 ⊢
    omega
  have hB : ∀ (i : Nat) (x : List UInt8 × Bool), m[i]? = some x → ∃ b : Int, ((bmF (m.map (·.1)) [0] []).2.map (fun p => (p.2 : Int)))[i]? = some b ∧ blobS (bmF (m.map (·.1)) [0] []).1 b = (x.1, 0) := by
    intro i x hx
    have a1 := bmF_at (m.map (·.1)) [0] [] ⟨[], [], by decide, rfl⟩ (by simp)
    obtain ⟨a, ha, hmem⟩ := at_map (l := m.map (·.1)) (by simpa using a1.2) (i := i) (s := x.1) (by rw [List.getElem?_map, hx]; rfl)
    refine ⟨a, by rw [List.getElem?_map, ha]; rfl, ?_⟩
    obtain ⟨pre, post, e, h⟩ := a1.1 _ hmem
    simp only at e h
    rw [e, ← h]
    have := hm60.2 _ (List.mem_of_getElem? hx)
    exact blobS_at _ _ _ (by omega)
  generalize ((bmF (m.map (·.1)) [0] []).2.map (fun p => (p.2 : Int))) = B at h4 hB
  generalize ((bmF (m.map (·.1)) [0] []).1) = A at h4 hAl hB
  cases hf : l.all fineB with
  | false =>
    rw [hf, namesR_bad l hf] at h3
    simp only [Bool.not_false, Bool.true_or] at h3
    clear hn hLl
    repeat (first
      | (with_reducible apply AWp.seq)
      | (with_reducible apply AWp.block)
      | ((with_reducible apply AWp.fork); simp -implicitDefEqProofs)
      | ((with_reducible apply AWp.region); simp -implicitDefEqProofs)
      | (with_reducible refine And.intro (by first | omega | assumption | decide) ?_)
      | ((with_reducible apply aCall.id); first
          | ((apply aCall.gives (pwakes_ok _)); simp -implicitDefEqProofs)
          | ((apply aCall.gives (h1 _)); simp -implicitDefEqProofs)
          | ((apply aCall.gives (h2 _ _)); simp -implicitDefEqProofs)
          | ((apply aCall.gives (h2' _)); simp -implicitDefEqProofs)
          | ((apply aCall.gives (h3 _)); simp -implicitDefEqProofs)
          | ((apply aCall.gives (h4 _)); simp -implicitDefEqProofs))
      | ((with_reducible apply AWp.ret); try simp -implicitDefEqProofs)
      | ((with_reducible apply AWp.skip); try simp -implicitDefEqProofs)
      | ((with_reducible apply AWp.exit); try simp -implicitDefEqProofs))
    repeat (first
      | (with_reducible apply AWp.seq)
      | (with_reducible apply AWp.block)
      | ((with_reducible apply AWp.fork); simp -implicitDefEqProofs)
      | ((with_reducible apply AWp.region); simp -implicitDefEqProofs)
      | (with_reducible refine And.intro (by first | omega | assumption | decide) ?_)
      | ((with_reducible apply AWp.ret); try simp -implicitDefEqProofs)
      | ((with_reducible apply AWp.skip); try simp -implicitDefEqProofs)
      | ((with_reducible apply AWp.exit); try simp -implicitDefEqProofs))
    refine AWp.loopI (bk2 m A B nm (decide (m = [])) _) (k0 := m.length) ⟨0, by omega, by omega, rfl, rfl⟩ (FrWk.mk (by simp)) (AS.le_refl _) ?_
    rintro k fr σ' ⟨i, hk, hi, rfl, rfl⟩
    by_cases hlt : i < m.length
    · obtain ⟨x, hg, _, hmem, _⟩ := at_lt m hlt
      obtain ⟨_, hg'⟩ := List.getElem?_eq_some_iff.1 hg
      obtain ⟨x, xn⟩ := x
      obtain ⟨b, hb, hbs⟩ := hB i (x, xn) hg
      simp only at hb hbs
      have hbm := fun σ => blob_ok A false .unk b (by simp) hAl σ
      rw [hbs] at hbm
      have hbs' : (B.map i64v)[i]? = some (.sc (.int .i64 b)) := by rw [List.getElem?_map, hb]; simp [i64v_def]
      obtain ⟨hlt2, hb'⟩ := List.getElem?_eq_some_iff.1 hb
      have hI : ((i : Int) < m.length) = True := by simp; omega
      have hI2 : ((B.length : Int) ≤ i) = False := by simp; omega
      have hsame := fun σ => same_ok x x .unk .unk false xn (hms _ hmem) σ
      rw [decide_eq_true rfl] at hsame
      repeat (first
        | (with_reducible apply AWp.seq)
        | (with_reducible apply AWp.block)
        | ((with_reducible apply AWp.fork); simp -implicitDefEqProofs [hI, hI2, hlt, hlt2, hg, hg', hb, hb', bV, i64v_def])
        | ((with_reducible apply AWp.region); simp -implicitDefEqProofs [hI, hI2, hlt, hlt2, hg, hg', hb, hb', bV, i64v_def])
        | (with_reducible refine And.intro (by first | omega | assumption | decide) ?_)
        | ((with_reducible show condK _ _ _); simp -implicitDefEqProofs [hI, hI2, hlt, hlt2, hg, hg', hb, hb', bV, i64v_def])
        | ((with_reducible show guardK _ _ _ _ _ _ _ _ _); simp -implicitDefEqProofs [hI, hI2, hlt, hlt2, hg, hg', hb, hb', bV, i64v_def])
        | ((with_reducible apply aCall.id); first
            | ((apply aCall.gives (hbm _)); simp -implicitDefEqProofs [hI, hI2, hlt, hlt2, hg, hg', hb, hb', bV, i64v_def])
            | ((apply aCall.gives (hsame _)); simp -implicitDefEqProofs [hI, hI2, hlt, hlt2, hg, hg', hb, hb', bV, i64v_def]))
        | ((with_reducible apply AWp.ret); try simp -implicitDefEqProofs [hI, hI2, hlt, hlt2, hg, hg', hb, hb', bV, i64v_def])
        | ((with_reducible apply AWp.skip); try simp -implicitDefEqProofs [hI, hI2, hlt, hlt2, hg, hg', hb, hb', bV, i64v_def])
        | ((with_reducible apply AWp.exit); try simp -implicitDefEqProofs [hI, hI2, hlt, hlt2, hg, hg', hb, hb', bV, i64v_def]))
      clear hB hl60 hm60 hms
      refine ⟨k - 1, _, _, by omega, FrWk.mk ?_, AS.le_refl _, i + 1, by omega, by omega, rfl, rfl⟩
      simp [wInc (show i < 4000000000000000000 by omega), bV]
    · have hI : ((i : Int) < m.length) = False := by simp; omega
      repeat (first
        | (with_reducible apply AWp.seq)
        | (with_reducible apply AWp.block)
        | ((with_reducible apply AWp.fork); simp -implicitDefEqProofs [hI])
        | ((with_reducible apply AWp.region); simp -implicitDefEqProofs [hI])
        | (with_reducible refine And.intro (by first | omega | assumption | decide) ?_)
        | ((with_reducible show condK _ _ _); simp -implicitDefEqProofs [hI])
        | ((with_reducible show guardK _ _ _ _ _ _ _ _ _); simp -implicitDefEqProofs [hI])
        | ((with_reducible apply AWp.ret); try simp -implicitDefEqProofs [hI])
        | ((with_reducible apply AWp.skip); try simp -implicitDefEqProofs [hI])
        | ((with_reducible apply AWp.exit); try simp -implicitDefEqProofs [hI]))
  | true =>
    have hall := hf
    rw [hf, namesR_ok l (by omega) hf] at h3
    simp only [Bool.not_true, Bool.false_or] at h3
    have hPl : (nmF l [0] []).1.length ≤ 140737488355328 := by
      have a1 := nmF_len l [0] [] hf
      simp at a1 ⊢
      omega
    have hR : ∀ (i : Nat) (x : List UInt8), l[i]? = some x → ∃ b : Int, ((nmF l [0] []).2.map (fun p => (p.2 : Int)))[i]? = some b ∧ nameS (nmF l [0] []).1 b = (x, 0) ∧ 0 ≤ b ∧ b ≤ (nmF l [0] []).1.length := by
      intro i x hx
      have a1 := nmF_at l [0] [] (by simp) (by simp)
      obtain ⟨a, ha, hmem⟩ := at_map (by simpa using a1.2) hx
      obtain ⟨pre, post, e, h, h1⟩ := a1.1 _ hmem
      simp only at e h h1
      refine ⟨a, by rw [List.getElem?_map, ha]; rfl, ?_, by omega, ?_⟩
      · rw [e, ← h]
        exact nameS_at _ _ _ (by omega) (List.all_eq_true.1 hall _ (List.mem_of_getElem? hx))
      · rw [e]; simp; omega
    generalize ((nmF l [0] []).2.map (fun p => (p.2 : Int))) = R at h3 hR
    generalize (nmF l [0] []).1 = P at h3 hPl hR
    clear hf hall hLl
    repeat (first
      | (with_reducible apply AWp.seq)
      | (with_reducible apply AWp.block)
      | ((with_reducible apply AWp.fork); simp -implicitDefEqProofs)
      | ((with_reducible apply AWp.region); simp -implicitDefEqProofs)
      | (with_reducible refine And.intro (by first | omega | assumption | decide) ?_)
      | ((with_reducible apply aCall.id); first
          | ((apply aCall.gives (pwakes_ok _)); simp -implicitDefEqProofs)
          | ((apply aCall.gives (h1 _)); simp -implicitDefEqProofs)
          | ((apply aCall.gives (h2 _ _)); simp -implicitDefEqProofs)
          | ((apply aCall.gives (h2' _)); simp -implicitDefEqProofs)
          | ((apply aCall.gives (h3 _)); simp -implicitDefEqProofs)
          | ((apply aCall.gives (h4 _)); simp -implicitDefEqProofs))
      | ((with_reducible apply AWp.ret); try simp -implicitDefEqProofs)
      | ((with_reducible apply AWp.skip); try simp -implicitDefEqProofs)
      | ((with_reducible apply AWp.exit); try simp -implicitDefEqProofs))
    refine AWp.loopI (bk1 l m P R A B nl nm (decide (m = [])) _) (k0 := l.length) ⟨0, by omega, by omega, rfl, rfl⟩ (FrWk.mk (by simp)) (AS.le_refl _) ?_
    rintro k fr σ' ⟨i, hk, hi, rfl, rfl⟩
    by_cases hlt : i < l.length
    · obtain ⟨x, hg, _, hmem, _⟩ := at_lt l hlt
      obtain ⟨_, hg'⟩ := List.getElem?_eq_some_iff.1 hg
      obtain ⟨b, hb, hbs, hb0, hb1⟩ := hR i x hg
      have hnm := fun σ => name_ok P false .unk b hPl (by omega) (by omega) σ
      rw [hbs] at hnm
      obtain ⟨hlt2, hb'⟩ := List.getElem?_eq_some_iff.1 hb
      have hI : ((i : Int) < l.length) = True := by simp; omega
      have hI2 : ((R.length : Int) ≤ i) = False := by simp; omega
      repeat (first
        | (with_reducible apply AWp.seq)
        | (with_reducible apply AWp.block)
        | ((with_reducible apply AWp.fork); simp -implicitDefEqProofs [hI, hI2, hlt, hlt2, hg, hg', hb, hb', sV, i64v_def])
        | ((with_reducible apply AWp.region); simp -implicitDefEqProofs [hI, hI2, hlt, hlt2, hg, hg', hb, hb', sV, i64v_def])
        | (with_reducible refine And.intro (by first | omega | assumption | decide) ?_)
        | ((with_reducible show condK _ _ _); simp -implicitDefEqProofs [hI, hI2, hlt, hlt2, hg, hg', hb, hb', sV, i64v_def])
        | ((with_reducible show guardK _ _ _ _ _ _ _ _ _); simp -implicitDefEqProofs [hI, hI2, hlt, hlt2, hg, hg', hb, hb', sV, i64v_def])
        | ((with_reducible apply aCall.id); first
            | ((apply aCall.gives (hnm _)); simp -implicitDefEqProofs [hI, hI2, hlt, hlt2, hg, hg', hb, hb', sV, i64v_def]))
        | ((with_reducible apply AWp.ret); try simp -implicitDefEqProofs [hI, hI2, hlt, hlt2, hg, hg', hb, hb', sV, i64v_def])
        | ((with_reducible apply AWp.skip); try simp -implicitDefEqProofs [hI, hI2, hlt, hlt2, hg, hg', hb, hb', sV, i64v_def])
        | ((with_reducible apply AWp.exit); try simp -implicitDefEqProofs [hI, hI2, hlt, hlt2, hg, hg', hb, hb', sV, i64v_def]))
      clear hB hR hl60 hm60 hms
      refine ⟨k - 1, _, _, by omega, FrWk.mk ?_, AS.le_refl _, i + 1, by omega, by omega, rfl, rfl⟩
      simp [wInc (show i < 4000000000000000000 by omega), sV]
    · have hI : ((i : Int) < l.length) = False := by simp; omega
      repeat (first
        | (with_reducible apply AWp.seq)
        | (with_reducible apply AWp.block)
        | ((with_reducible apply AWp.fork); simp -implicitDefEqProofs [hI])
        | ((with_reducible apply AWp.region); simp -implicitDefEqProofs [hI])
        | (with_reducible refine And.intro (by first | omega | assumption | decide) ?_)
        | ((with_reducible show condK _ _ _); simp -implicitDefEqProofs [hI])
        | ((with_reducible show guardK _ _ _ _ _ _ _ _ _); simp -implicitDefEqProofs [hI])
        | ((with_reducible apply AWp.ret); try simp -implicitDefEqProofs [hI])
        | ((with_reducible apply AWp.skip); try simp -implicitDefEqProofs [hI])
        | ((with_reducible apply AWp.exit); try simp -implicitDefEqProofs [hI]))
      clear hR hI hlt hi hk
      repeat (first
        | (with_reducible apply AWp.seq)
        | (with_reducible apply AWp.block)
        | ((with_reducible apply AWp.fork); simp -implicitDefEqProofs)
        | ((with_reducible apply AWp.region); simp -implicitDefEqProofs)
        | (with_reducible refine And.intro (by first | omega | assumption | decide) ?_)
        | ((with_reducible apply AWp.ret); try simp -implicitDefEqProofs)
        | ((with_reducible apply AWp.skip); try simp -implicitDefEqProofs)
        | ((with_reducible apply AWp.exit); try simp -implicitDefEqProofs))
      refine AWp.loopI (bk2 m A B nm (decide (m = [])) _) (k0 := m.length) ⟨0, by omega, by omega, rfl, rfl⟩ (FrWk.mk (by simp)) (AS.le_refl _) ?_
      rintro k fr σ' ⟨i, hk, hi, rfl, rfl⟩
      by_cases hlt : i < m.length
      · obtain ⟨x, hg, _, hmem, _⟩ := at_lt m hlt
        obtain ⟨_, hg'⟩ := List.getElem?_eq_some_iff.1 hg
        obtain ⟨x, xn⟩ := x
        obtain ⟨b, hb, hbs⟩ := hB i (x, xn) hg
        simp only at hb hbs
        have hbm := fun σ => blob_ok A false .unk b (by simp) hAl σ
        rw [hbs] at hbm
        have hbs' : (B.map i64v)[i]? = some (.sc (.int .i64 b)) := by rw [List.getElem?_map, hb]; simp [i64v_def]
        obtain ⟨hlt2, hb'⟩ := List.getElem?_eq_some_iff.1 hb
        have hI : ((i : Int) < m.length) = True := by simp; omega
        have hI2 : ((B.length : Int) ≤ i) = False := by simp; omega
        have hsame := fun σ => same_ok x x .unk .unk false xn (hms _ hmem) σ
        rw [decide_eq_true rfl] at hsame
        repeat (first
          | (with_reducible apply AWp.seq)
          | (with_reducible apply AWp.block)
          | ((with_reducible apply AWp.fork); simp -implicitDefEqProofs [hI, hI2, hlt, hlt2, hg, hg', hb, hb', bV, i64v_def])
          | ((with_reducible apply AWp.region); simp -implicitDefEqProofs [hI, hI2, hlt, hlt2, hg, hg', hb, hb', bV, i64v_def])
          | (with_reducible refine And.intro (by first | omega | assumption | decide) ?_)
          | ((with_reducible show condK _ _ _); simp -implicitDefEqProofs [hI, hI2, hlt, hlt2, hg, hg', hb, hb', bV, i64v_def])
          | ((with_reducible show guardK _ _ _ _ _ _ _ _ _); simp -implicitDefEqProofs [hI, hI2, hlt, hlt2, hg, hg', hb, hb', bV, i64v_def])
          | ((with_reducible apply aCall.id); first
              | ((apply aCall.gives (hbm _)); simp -implicitDefEqProofs [hI, hI2, hlt, hlt2, hg, hg', hb, hb', bV, i64v_def])
              | ((apply aCall.gives (hsame _)); simp -implicitDefEqProofs [hI, hI2, hlt, hlt2, hg, hg', hb, hb', bV, i64v_def]))
          | ((with_reducible apply AWp.ret); try simp -implicitDefEqProofs [hI, hI2, hlt, hlt2, hg, hg', hb, hb', bV, i64v_def])
          | ((with_reducible apply AWp.skip); try simp -implicitDefEqProofs [hI, hI2, hlt, hlt2, hg, hg', hb, hb', bV, i64v_def])
          | ((with_reducible apply AWp.exit); try simp -implicitDefEqProofs [hI, hI2, hlt, hlt2, hg, hg', hb, hb', bV, i64v_def]))
        clear hB hl60 hm60 hms
        refine ⟨k - 1, _, _, by omega, FrWk.mk ?_, AS.le_refl _, i + 1, by omega, by omega, rfl, rfl⟩
        simp [wInc (show i < 4000000000000000000 by omega), bV]
      · have hI : ((i : Int) < m.length) = False := by simp; omega
        repeat (first
          | (with_reducible apply AWp.seq)
          | (with_reducible apply AWp.block)
          | ((with_reducible apply AWp.fork); simp -implicitDefEqProofs [hI])
          | ((with_reducible apply AWp.region); simp -implicitDefEqProofs [hI])
          | (with_reducible refine And.intro (by first | omega | assumption | decide) ?_)
          | ((with_reducible show condK _ _ _); simp -implicitDefEqProofs [hI])
          | ((with_reducible show guardK _ _ _ _ _ _ _ _ _); simp -implicitDefEqProofs [hI])
          | ((with_reducible apply AWp.ret); try simp -implicitDefEqProofs [hI])
          | ((with_reducible apply AWp.skip); try simp -implicitDefEqProofs [hI])
          | ((with_reducible apply AWp.exit); try simp -implicitDefEqProofs [hI]))

theorem poolBack_reads (os : Os) {H : Type} (enc : TypeId × Value → H) : ∃ places, DataW.whole enc Try.prog ((World.holding Try.prog os ⟨#[], #[Value.slice none 0 0, Value.slice none 0 0], []⟩).forCall (fun _ _ => 0) ⟨#[], #[Value.slice none 0 0, Value.slice none 0 0], []⟩).memory Try.f12.params.toList Rows.poolBackSpec.vars false #[Value.slice none 0 0, Value.slice none 0 0].toList 8 = some ([.nil, .nil], [], places) :=
  ⟨[], by kernel_rfl⟩

theorem poolBack_contract (H : Type) (enc : TypeId × Value → H) (W : World) (base : Nat) (args : Array Value) (ds gs : List (DataW H)) (before : List MemPlace)
    (hval : ∀ (j : Nat) t v, Try.f12.params[j]? = some t → args[j]? = some v → Value.okWide Try.prog W .any base t v)
    (hW : DataW.Whole enc Try.prog Try.f12.params.toList Rows.poolBackSpec.vars false W args.toList ds gs before)
    (hwt : (DataW.weightsEach Try.prog (Try.f12.params.toList ++ Rows.poolBackSpec.plain.varTypes Try.prog) (ds ++ gs)).all (· ≤ reachBytes) = true) :
    Calls Try.prog 12 args W fun e W' => ∃ v, e = .returned v ∧ Rows.poolBackSpec.post enc Try.prog Try.f12 false true false false W args v W' := by
  refine law_contract (P := Try.prog) (fn := Try.f12) (k := 4) (ts := [54, 56]) (tb := 4) (s := Rows.poolBackSpec) laidOut (by kernel_rfl) (by kernel_rfl) (by kernel_rfl) rfl Try.underlying4 rfl (fun ds h => ?_) (fun vs h => ?_) hval hW hwt
  · match ds, h with
    | [d1, d2], _ => rfl
  · obtain ⟨c1, r, rfl, h1, h⟩ := h.inv
    obtain ⟨c2, r, rfl, h2, h⟩ := h.inv
    obtain rfl := h.inv0
    obtain ⟨l, nl, e1, hn, hl, hs⟩ := arg_texts h1
    obtain ⟨m, nm, e2, hnm, hm, hms⟩ := arg_blobs h2
    rw [e1, e2]
    exact poolBack_ok l nl hn (by omega) hs m nm (by omega) (fun s h => (hms s h).1)

theorem poolBack_lifted (os : Os) (started : os.Started) (H : Type) (enc : TypeId × Value → H) (F : Stop.Interp) :
    ReturnsInHanded {} Try.checked os 12 .any ((OpenSpec.ofChange Rows.poolBackSpec).preRow enc Try.prog Try.f12 Rows.poolBackRow.domain false Rows.poolBackRow.laid)
      (((OpenSpec.ofChange Rows.poolBackSpec).at F).post enc Try.prog Try.f12 false true false false) := by
  obtain ⟨places, hx⟩ := poolBack_reads os enc
  refine returnsInHanded_of_row (C := Try.checked) (s := OpenSpec.ofChange Rows.poolBackSpec) own started (by kernel_rfl) Try.func12
    (witness_row_at (enc := enc) (C := Try.checked) false (World.holding Try.prog os ⟨#[], #[Value.slice none 0 0, Value.slice none 0 0], []⟩) #[Value.slice none 0 0, Value.slice none 0 0] rfl (by kernel_rfl) (by kernel_rfl) (by kernel_rfl)
      (OpenSpec.preRow_of_cond 8 hx (by kernel_rfl) (fun k hk => by cases hk) (by kernel_rfl) (show laidMetH Try.prog [] _ from ⟨[], rfl, List.nodup_nil, fun _ _ h => by cases h⟩))) ?_
  intro W base args ds gs before hval hW _ _ hwt _ _ _
  exact poolBack_contract H enc W base args ds gs before hval hW hwt

theorem poolBack_holds : Rows.PoolBackSaid :=
  OpenClaim.holds_of_cond 12 Try.f12 rfl rfl rfl rfl rfl rfl rfl ⟨rfl, rfl, rfl, rfl, rfl⟩ rfl rfl rfl rfl rfl (by kernel_rfl) Try.func12 (by kernel_rfl)
    (of_decide_eq_true (by kernel_rfl)) (by unfold Func.isWrapper; first | (rw [if_pos (by decide +kernel)]; kernel_rfl) | (rw [if_neg (by decide +kernel)]; exact ⟨rfl, rfl⟩))
    (fun os started H enc _ F => by rw [OpenClaim.pre_eq_preRow]; exact poolBack_lifted os started H enc F)


end Go.Proofs.Ytiojkpebjdifoaa
