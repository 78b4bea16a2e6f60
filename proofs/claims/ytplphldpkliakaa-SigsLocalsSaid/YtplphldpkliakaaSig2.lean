/- Package sigs: what reads, and gives up. -/
import Derived.Test.YtplphldpkliakaaSig1
import Derived.Test.YtplphldpkliakaaRef1
import Derived.Test.YtplphldpkliakaaAwMut
set_option linter.unusedSimpArgs false
set_option linter.unusedVariables false
set_option maxRecDepth 100000
set_option maxHeartbeats 3200000
namespace Go.Proofs.Ytplphldpkliakaa
namespace Sg
open Go Go.AW

/-- What a reader gives up with. -/
def flt (e : Int) : AV := .ifc 79 (.sc (.int .i64 e))
def rdV (id : Nat) : AV := .agg [.ptr id 0]
def Thr (b : List UInt8) (nl : Bool) (id : Nat) (e : Int) (σ : AS) (p : AV) (σ' : AS) : Prop := p = flt e ∧ ∃ a : Int, σ' = σ.set id (rdC b a nl)
theorem gp_ {f : FuncId} {args : List AV} {σ σ1 : AS} {v : AV} {K Kp : AV → AS → Prop} (h : ACalls Try.prog f args σ No (Gives v σ1)) (hk : Kp v σ1) : aCall Try.prog (.sc (.func (.func f) #[] #[])) args σ K Kp :=
  .of h (fun _ _ h => h.elim) (fun r σ' h => by obtain ⟨rfl, rfl⟩ := h; exact hk)
theorem thr_ {f : FuncId} {args : List AV} {b : List UInt8} {nl : Bool} {id : Nat} {e : Int} {σ0 σ : AS} {K Kp : AV → AS → Prop} (h : ACalls Try.prog f args σ0 No (Thr b nl id e σ)) (hk : ∀ a : Int, Kp (flt e) (σ.set id (rdC b a nl))) : aCall Try.prog (.sc (.func (.func f) #[] #[])) args σ0 K Kp :=
  .of h (fun _ _ h => h.elim) (fun r σ' h => by obtain ⟨rfl, a, rfl⟩ := h; exact hk a)
theorem le_set {σ σ' : AS} {i : Nat} {x : ABlk} (h : AS.le σ σ') : AS.le (σ.set i x) (σ'.set i x) := by
  intro j y hy
  by_cases e : j = i
  · subst e; simpa [AS.set] using hy
  · simp [AS.set, e] at hy ⊢; exact h j y hy
theorem set_self {σ : AS} {i : Nat} {x : ABlk} (h : σ i = some x) : σ.set i x = σ := by
  funext j
  by_cases e : j = i
  · subst e; simp [AS.set, h]
  · simp [AS.set, e]
/-- What a reader comes to, or what it gives up with. -/
def RD {α : Type} (x : Except Int (α × Nat)) (f : α → AV) (b : List UInt8) (nl : Bool) (id : Nat) (σ : AS) (r : AV) (σ' : AS) : Prop := ∃ v a, x = .ok (v, a) ∧ r = f v ∧ σ' = σ.set id (rdC b (a : Nat) nl)
def TD {α : Type} (x : Except Int α) (b : List UInt8) (nl : Bool) (id : Nat) (σ : AS) (p : AV) (σ' : AS) : Prop := ∃ e, x = .error e ∧ Thr b nl id e σ p σ'
theorem RD.ok {α : Type} {f : FuncId} {args : List AV} {x : Except Int (α × Nat)} {g : α → AV} {b : List UInt8} {nl : Bool} {id : Nat} {σ0 σ : AS} {v : α} {a : Nat} (h : ACalls Try.prog f args σ0 (RD x g b nl id σ) (TD x b nl id σ)) (hx : x = .ok (v, a)) :
    ACalls Try.prog f args σ0 (Gives (g v) (σ.set id (rdC b a nl))) No :=
  h.mono (fun r σ' hr => by obtain ⟨v', a', h1, rfl, rfl⟩ := hr; rw [hx] at h1; cases h1; exact ⟨rfl, rfl⟩) (fun p σ' hp => by obtain ⟨e, h1, _⟩ := hp; rw [hx] at h1; cases h1)
theorem RD.bad {α : Type} {f : FuncId} {args : List AV} {x : Except Int (α × Nat)} {g : α → AV} {b : List UInt8} {nl : Bool} {id : Nat} {σ0 σ : AS} {e : Int} (h : ACalls Try.prog f args σ0 (RD x g b nl id σ) (TD x b nl id σ)) (hx : x = .error e) :
    ACalls Try.prog f args σ0 No (Thr b nl id e σ) :=
  h.mono (fun r σ' hr => by obtain ⟨v', a', h1, _, _⟩ := hr; rw [hx] at h1; cases h1) (fun p σ' hp => by obtain ⟨e, h1, h2⟩ := hp; rw [hx] at h1; cases h1; exact h2)
theorem RD.of {α : Type} {f : FuncId} {args : List AV} {x : Except Int (α × Nat)} {g : α → AV} {b : List UInt8} {nl : Bool} {id : Nat} {σ0 σ : AS}
    (h1 : ∀ v a, x = .ok (v, a) → ACalls Try.prog f args σ0 (Gives (g v) (σ.set id (rdC b (a : Nat) nl))) No) (h2 : ∀ e, x = .error e → ACalls Try.prog f args σ0 No (Thr b nl id e σ)) : ACalls Try.prog f args σ0 (RD x g b nl id σ) (TD x b nl id σ) := by
  cases hx : x with
  | error e => exact (h2 e hx).mono (fun _ _ h => h.elim) (fun p σ' h => ⟨e, rfl, h⟩)
  | ok y => obtain ⟨v, a⟩ := y; exact (h1 v a hx).mono (fun r σ' h => by obtain ⟨rfl, rfl⟩ := h; exact ⟨v, a, rfl, rfl, rfl⟩) (fun _ _ h => h.elim)
theorem Thr_set (b : List UInt8) (nl : Bool) (id : Nat) (e : Int) (B : AS) (x : ABlk) : Thr b nl id e (B.set id x) = Thr b nl id e B := by
  funext p σ'
  simp [Thr]

theorem need_ok (e : Int) (σ : AS) : ACalls Try.prog 49 [.sc (.bool true), .sc (.int .i64 e)] σ (Gives (.tup []) σ) No := by
  refine ACalls.of_body Try.func49 rfl rfl (by simp [Try.ntmps49]) ?_
  repeat (first
    | (with_reducible first | apply AWp.seq | apply AWp.block | refine And.intro (by first | omega | assumption | decide) ?_)
    | ((first | (with_reducible first | apply AWp.fork | apply AWp.region)); simp -implicitDefEqProofs)
    | ((with_reducible first | apply AWp.ret | apply AWp.skip | apply AWp.exit); try simp -implicitDefEqProofs))

theorem need_bad (e : Int) (σ : AS) : ACalls Try.prog 49 [.sc (.bool false), .sc (.int .i64 e)] σ No (Gives (flt e) σ) := by
  refine ACalls.of_body Try.func49 rfl rfl (by simp [Try.ntmps49]) ?_
  repeat (first
    | (with_reducible first | apply AWp.seq | apply AWp.block | refine And.intro (by first | omega | assumption | decide) ?_)
    | ((first | (with_reducible first | apply AWp.fork | apply AWp.region)); simp -implicitDefEqProofs)
    | ((with_reducible first | apply AWp.ret | apply AWp.skip | apply AWp.exit); try simp -implicitDefEqProofs))
  exact ⟨σ, AS.le_refl _, rfl, rfl⟩

def byV (c : UInt8) : AV := .sc (.int .u8 c.toNat)
def ivV (n : Int) : AV := .sc (.int .i64 n)
theorem eB_len {b : List UInt8} {a : Nat} {c : UInt8} {a' : Nat} (h : eB b a = .ok (c, a')) : a < b.length ∧ a' = a + 1 ∧ c = b.getD a 0 := by
  unfold eB at h
  split at h
  · cases h; exact ⟨by assumption, rfl, rfl⟩
  · cases h
theorem seg1 {b : List UInt8} {a : Nat} (h : a < b.length) : numL (seg b a 1) = ((b.getD a 0).toNat : Int) := by
  have e : seg b a ((1 : Nat) : Int) = [b.getD a 0] := by
    rw [seg_sg]
    show (b.drop a).take 1 = [b.getD a 0]
    rw [List.drop_eq_getElem_cons h, List.getD_eq_getElem?_getD, List.getElem?_eq_getElem h]
    rfl
  have e : seg b a 1 = [b.getD a 0] := e
  rw [e]
  simp only [numL]; omega

section
variable (id : Nat) (b : List UInt8) (a : Nat) (nl : Bool) (σ : AS) (h : σ id = some (rdC b a nl)) (ha : a ≤ b.length) (hnl : nl = true → b = []) (hb : b.length ≤ 100000)
include h ha hb

theorem one_ok : ACalls Try.prog 48 [rdV id] σ (RD (eB b a) byV b nl id σ) (TD (eB b a) b nl id σ) := by
  refine RD.of (fun c a' he => ?_) (fun e he => ?_)
  · obtain ⟨hlt, rfl, hc⟩ := eB_len he
    have hn := fun σ h => num_ok id b a 1 nl σ h (by omega) (by omega) (by omega) (by decide) (by omega)
    rw [seg1 hlt, ← hc] at hn
    have hcb := c.toNat_lt
    have hw : IntKind.u8.wrap (c.toNat : Int) = c.toNat := by rw [w_u8]; omega
    have hneed := fun σ => need_ok 0 σ
    refine ACalls.of_body Try.func48 rfl rfl (by simp [Try.ntmps48]) ?_
    simp only [rdV, byV]
    repeat (first
      | (with_reducible first | apply AWp.seq | apply AWp.block | refine And.intro (by first | omega | assumption | decide) ?_)
      | ((first | (with_reducible first | apply AWp.fork | apply AWp.region)); simp -implicitDefEqProofs)
      | ((with_reducible first | apply AWp.ret | apply AWp.skip | apply AWp.exit); try simp -implicitDefEqProofs))
    intro id2 h_id2
    have n_id_id2 : ¬ id = id2 := by rintro rfl; rw [h] at h_id2; cases h_id2
    have n_id2_id : ¬ id2 = id := fun e => n_id_id2 e.symm
    repeat (first
      | (with_reducible first | apply AWp.seq | apply AWp.block | refine And.intro (by first | omega | assumption | decide) ?_)
      | ((first | (with_reducible first | apply AWp.fork | apply AWp.region | show condK _ _ _ | show guardK _ _ _ _ _ _ _ _ _) | ((with_reducible apply aCall.id); first | apply aCall.gives (hn _ (by simp [n_id2_id, n_id_id2, h])) | apply aCall.gives (hneed _))); simp -implicitDefEqProofs [hw, Try.underlying116, Try.underlying5, n_id2_id, n_id_id2, h])
      | ((with_reducible first | apply AWp.ret | apply AWp.skip | apply AWp.exit); try simp -implicitDefEqProofs [hw, Try.underlying116, Try.underlying5, n_id2_id, n_id_id2, h]))
    exact le_set (le_new h_id2 (AS.le_refl _))
  · have hge : ¬ a < b.length ∧ e = 1 := by
      unfold eB at he
      split at he
      · cases he
      · cases he; exact ⟨by assumption, rfl⟩
    obtain ⟨hge, rfl⟩ := hge
    have hE : numE b a 1 = 1 := by simp [numE, wide]; omega
    have hn := fun σ h => num_bad id b a 1 nl σ h (by omega) (by omega) (by omega) (by omega)
    rw [hE] at hn
    have hneed := fun σ => need_bad 1 σ
    refine ACalls.of_body Try.func48 rfl rfl (by simp [Try.ntmps48]) ?_
    simp only [rdV]
    repeat (first
      | (with_reducible first | apply AWp.seq | apply AWp.block | refine And.intro (by first | omega | assumption | decide) ?_)
      | ((first | (with_reducible first | apply AWp.fork | apply AWp.region)); simp -implicitDefEqProofs)
      | ((with_reducible first | apply AWp.ret | apply AWp.skip | apply AWp.exit); try simp -implicitDefEqProofs))
    intro id2 h_id2
    have n_id_id2 : ¬ id = id2 := by rintro rfl; rw [h] at h_id2; cases h_id2
    have n_id2_id : ¬ id2 = id := fun e => n_id_id2 e.symm
    repeat (first
      | (with_reducible first | apply AWp.seq | apply AWp.block | refine And.intro (by first | omega | assumption | decide) ?_)
      | ((first | (with_reducible first | apply AWp.fork | apply AWp.region | show condK _ _ _ | show guardK _ _ _ _ _ _ _ _ _) | ((with_reducible apply aCall.id); first | apply aCall.gives (hn _ (by simp [n_id2_id, n_id_id2, h])) | apply (gp_ (hneed _)))); simp -implicitDefEqProofs [n_id2_id, n_id_id2, h])
      | ((with_reducible first | apply AWp.ret | apply AWp.skip | apply AWp.exit); try simp -implicitDefEqProofs [n_id2_id, n_id_id2, h]))
    exact ⟨σ, le_new h_id2 (AS.le_refl _), rfl, a, (set_self h).symm⟩

include hnl
theorem packed_ok' : ACalls Try.prog 50 [rdV id] σ (RD (ePk b a) ivV b nl id σ) (TD (ePk b a) b nl id σ) := by
  obtain ⟨⟨x, k, e⟩, hu⟩ : ∃ t, upk (b.drop a) = t := ⟨_, rfl⟩
  have hf := upk_facts _ _ _ _ hu
  have hn := fun σ h => packed_ok id b a nl σ hnl h (by omega) (by omega) (by omega) x k e (by simpa using hu)
  unfold ePk
  rw [hu]
  simp only
  by_cases he : e = 0
  · subst he
    obtain ⟨k1, k4, _⟩ := hf.2.2 rfl
    rw [if_pos rfl]
    refine RD.of (fun v a' h2 => ?_) (fun e h2 => by cases h2)
    cases h2
    simp only [if_true] at hn
    have hneed := fun σ => need_ok 0 σ
    refine ACalls.of_body Try.func50 rfl rfl (by simp [Try.ntmps50]) ?_
    simp only [rdV, ivV]
    repeat (first
      | (with_reducible first | apply AWp.seq | apply AWp.block | refine And.intro (by first | omega | assumption | decide) ?_)
      | ((first | (with_reducible first | apply AWp.fork | apply AWp.region)); simp -implicitDefEqProofs)
      | ((with_reducible first | apply AWp.ret | apply AWp.skip | apply AWp.exit); try simp -implicitDefEqProofs))
    intro id2 h_id2
    have n_id_id2 : ¬ id = id2 := by rintro rfl; rw [h] at h_id2; cases h_id2
    have n_id2_id : ¬ id2 = id := fun e => n_id_id2 e.symm
    repeat (first
      | (with_reducible first | apply AWp.seq | apply AWp.block | refine And.intro (by first | omega | assumption | decide) ?_)
      | ((first | (with_reducible first | apply AWp.fork | apply AWp.region | show condK _ _ _ | show guardK _ _ _ _ _ _ _ _ _) | ((with_reducible apply aCall.id); first | apply aCall.gives (hn _ (by simp [n_id2_id, n_id_id2, h])) | apply aCall.gives (hneed _))); simp -implicitDefEqProofs [n_id2_id, n_id_id2, h])
      | ((with_reducible first | apply AWp.ret | apply AWp.skip | apply AWp.exit); try simp -implicitDefEqProofs [n_id2_id, n_id_id2, h]))
    rw [show max k 0 = k by omega]
    exact le_set (le_new h_id2 (AS.le_refl _))
  · rw [if_neg he]
    refine RD.of (fun v a' h2 => by cases h2) (fun e' h2 => ?_)
    cases h2
    simp only [he, if_false] at hn
    have hneed := fun σ => need_bad e σ
    refine ACalls.of_body Try.func50 rfl rfl (by simp [Try.ntmps50]) ?_
    simp only [rdV]
    repeat (first
      | (with_reducible first | apply AWp.seq | apply AWp.block | refine And.intro (by first | omega | assumption | decide) ?_)
      | ((first | (with_reducible first | apply AWp.fork | apply AWp.region)); simp -implicitDefEqProofs)
      | ((with_reducible first | apply AWp.ret | apply AWp.skip | apply AWp.exit); try simp -implicitDefEqProofs))
    intro id2 h_id2
    have n_id_id2 : ¬ id = id2 := by rintro rfl; rw [h] at h_id2; cases h_id2
    have n_id2_id : ¬ id2 = id := fun e => n_id_id2 e.symm
    repeat (first
      | (with_reducible first | apply AWp.seq | apply AWp.block | refine And.intro (by first | omega | assumption | decide) ?_)
      | ((first | (with_reducible first | apply AWp.fork | apply AWp.region | show condK _ _ _ | show guardK _ _ _ _ _ _ _ _ _) | ((with_reducible apply aCall.id); first | apply aCall.gives (hn _ (by simp [n_id2_id, n_id_id2, h])) | apply (gp_ (hneed _)))); simp -implicitDefEqProofs [he, n_id2_id, n_id_id2, h])
      | ((with_reducible first | apply AWp.ret | apply AWp.skip | apply AWp.exit); try simp -implicitDefEqProofs [he, n_id2_id, n_id_id2, h]))
    exact ⟨σ, le_new h_id2 (AS.le_refl _), rfl, a, (set_self h).symm⟩

theorem index_ok : ACalls Try.prog 79 [rdV id] σ (RD (eIx b a) ivV b nl id σ) (TD (eIx b a) b nl id σ) := by
  have hp := fun σ h => packed_ok' id b a nl σ h ha hnl hb
  unfold eIx
  cases hpk : ePk b a with
  | error e =>
    refine RD.of (fun v a' h2 => by cases h2) (fun e' h2 => ?_)
    cases h2
    have hp2 := fun σ h => RD.bad (hp σ h) hpk
    simp only [rdV] at hp2 ⊢
    refine ACalls.of_body Try.func79 rfl rfl (by simp [Try.ntmps79]) ?_
    repeat (first
      | (with_reducible first | apply AWp.seq | apply AWp.block | refine And.intro (by first | omega | assumption | decide) ?_)
      | ((first | (with_reducible first | apply AWp.fork | apply AWp.region)); simp -implicitDefEqProofs)
      | ((with_reducible first | apply AWp.ret | apply AWp.skip | apply AWp.exit); try simp -implicitDefEqProofs))
    intro id2 h_id2
    have n_id_id2 : ¬ id = id2 := by rintro rfl; rw [h] at h_id2; cases h_id2
    have n_id2_id : ¬ id2 = id := fun e => n_id_id2 e.symm
    repeat (first
      | (with_reducible first | apply AWp.seq | apply AWp.block | refine And.intro (by first | omega | assumption | decide) ?_)
      | ((first | (with_reducible first | apply AWp.fork | apply AWp.region | show condK _ _ _ | show guardK _ _ _ _ _ _ _ _ _) | ((with_reducible apply aCall.id); first | apply (thr_ (hp2 _ (by simp [n_id2_id, n_id_id2, h]))))); simp -implicitDefEqProofs [n_id2_id, n_id_id2, h])
      | ((with_reducible first | apply AWp.ret | apply AWp.skip | apply AWp.exit); try simp -implicitDefEqProofs [n_id2_id, n_id_id2, h]))
    intro x
    exact ⟨_, le_set (le_new h_id2 (AS.le_refl _)), rfl, x, rfl⟩
  | ok y =>
    obtain ⟨n, a1⟩ := y
    obtain ⟨n0, n1, _, _⟩ := at_ePk hpk
    have hp2 := fun σ h => RD.ok (hp σ h) hpk
    have hco := fun σ => coded_ok (if 1048576 < n then 1048576 else n) σ
    rw [coded_min] at hco
    have hix : ixOk n = (decide ((codedS n).2.2 = 0) && (decide ((codedS n).1 = 0) && decide ((codedS n).2.1 ≤ 32))) := rfl
    have hcr := @coded_row n
    simp only
    generalize codedS n = C at *
    obtain ⟨c1, c2, c3⟩ := C
    simp only at hco hix hcr ⊢
    cases hix2 : ixOk n with
    | true =>
      rw [if_pos rfl]
      refine RD.of (fun v a' h2 => ?_) (fun e h2 => by cases h2)
      cases h2
      obtain ⟨_, q1, q2⟩ := hcr hix2
      rw [hix2] at hix
      have hx : c3 = 0 ∧ c1 = 0 ∧ c2 ≤ 32 := by simpa using hix.symm
      obtain ⟨rfl, rfl, hx⟩ := hx
      have hw : IntKind.i64.wrap (c2 - 1) = c2 - 1 := in_i64 (by omega) (by omega)
      have hneed := fun σ => need_ok 5 σ
      simp only [rdV, ivV] at hp2 ⊢
      refine ACalls.of_body Try.func79 rfl rfl (by simp [Try.ntmps79]) ?_
      repeat (first
        | (with_reducible first | apply AWp.seq | apply AWp.block | refine And.intro (by first | omega | assumption | decide) ?_)
        | ((first | (with_reducible first | apply AWp.fork | apply AWp.region)); simp -implicitDefEqProofs)
        | ((with_reducible first | apply AWp.ret | apply AWp.skip | apply AWp.exit); try simp -implicitDefEqProofs))
      intro id2 h_id2
      have n_id_id2 : ¬ id = id2 := by rintro rfl; rw [h] at h_id2; cases h_id2
      have n_id2_id : ¬ id2 = id := fun e => n_id_id2 e.symm
      repeat (first
        | (with_reducible first | apply AWp.seq | apply AWp.block | refine And.intro (by first | omega | assumption | decide) ?_)
        | ((first | (with_reducible first | apply AWp.fork | apply AWp.region | show condK _ _ _ | show guardK _ _ _ _ _ _ _ _ _) | ((with_reducible apply aCall.id); first | apply aCall.gives (hp2 _ (by simp [n_id2_id, n_id_id2, h])) | apply aCall.gives (hco _) | apply aCall.gives (hneed _))); simp -implicitDefEqProofs [hx, hw, n_id2_id, n_id_id2, h])
        | ((with_reducible first | apply AWp.ret | apply AWp.skip | apply AWp.exit); try simp -implicitDefEqProofs [hx, hw, n_id2_id, n_id_id2, h]))
      exact le_set (le_new h_id2 (AS.le_refl _))
    | false =>
      rw [if_neg (by simp)]
      refine RD.of (fun v a' h2 => by cases h2) (fun e h2 => ?_)
      cases h2
      rw [hix2] at hix
      have hneed := fun σ => need_bad 5 σ
      simp only [rdV, ivV] at hp2 ⊢
      refine ACalls.of_body Try.func79 rfl rfl (by simp [Try.ntmps79]) ?_
      repeat (first
        | (with_reducible first | apply AWp.seq | apply AWp.block | refine And.intro (by first | omega | assumption | decide) ?_)
        | ((first | (with_reducible first | apply AWp.fork | apply AWp.region)); simp -implicitDefEqProofs)
        | ((with_reducible first | apply AWp.ret | apply AWp.skip | apply AWp.exit); try simp -implicitDefEqProofs))
      intro id2 h_id2
      have n_id_id2 : ¬ id = id2 := by rintro rfl; rw [h] at h_id2; cases h_id2
      have n_id2_id : ¬ id2 = id := fun e => n_id_id2 e.symm
      by_cases z3 : c3 = 0 <;> by_cases z1 : c1 = 0 <;> by_cases z2 : c2 ≤ 32
      all_goals first
        | (exfalso; simp [z1, z2, z3] at hix; done)
        | skip
      all_goals
        repeat (first
          | (with_reducible first | apply AWp.seq | apply AWp.block | refine And.intro (by first | omega | assumption | decide) ?_)
          | ((first | (with_reducible first | apply AWp.fork | apply AWp.region | show condK _ _ _ | show guardK _ _ _ _ _ _ _ _ _) | ((with_reducible apply aCall.id); first | apply aCall.gives (hp2 _ (by simp [n_id2_id, n_id_id2, h])) | apply aCall.gives (hco _) | apply (gp_ (hneed _)))); simp -implicitDefEqProofs [z1, z2, z3, n_id2_id, n_id_id2, h])
          | ((with_reducible first | apply AWp.ret | apply AWp.skip | apply AWp.exit); try simp -implicitDefEqProofs [z1, z2, z3, n_id2_id, n_id_id2, h]))
        exact ⟨_, le_set (le_new h_id2 (AS.le_refl _)), rfl, _, rfl⟩
omit hnl
theorem end_ok (hend : b.length ≤ a) : ACalls Try.prog 53 [rdV id] σ (Gives (.tup []) σ) No := by
  have hle := fun σ h => left_ok id b a nl σ h (by omega) (by omega) (by omega)
  have e0 : ((b.length : Int) - a = 0) = True := eq_true (by omega)
  have hneed := fun σ => need_ok 2 σ
  refine ACalls.of_body Try.func53 rfl rfl (by simp [Try.ntmps53]) ?_
  simp only [rdV]
  repeat (first
    | (with_reducible first | apply AWp.seq | apply AWp.block | refine And.intro (by first | omega | assumption | decide) ?_)
    | ((first | (with_reducible first | apply AWp.fork | apply AWp.region)); simp -implicitDefEqProofs)
    | ((with_reducible first | apply AWp.ret | apply AWp.skip | apply AWp.exit); try simp -implicitDefEqProofs))
  intro id2 h_id2
  have n_id_id2 : ¬ id = id2 := by rintro rfl; rw [h] at h_id2; cases h_id2
  have n_id2_id : ¬ id2 = id := fun e => n_id_id2 e.symm
  repeat (first
    | (with_reducible first | apply AWp.seq | apply AWp.block | refine And.intro (by first | omega | assumption | decide) ?_)
    | ((first | (with_reducible first | apply AWp.fork | apply AWp.region | show condK _ _ _ | show guardK _ _ _ _ _ _ _ _ _) | ((with_reducible apply aCall.id); first | apply aCall.gives (hle _ (by simp [n_id2_id, n_id_id2, h])) | apply aCall.gives (hneed _))); simp -implicitDefEqProofs [e0, n_id2_id, n_id_id2, h])
    | ((with_reducible first | apply AWp.ret | apply AWp.skip | apply AWp.exit); try simp -implicitDefEqProofs [e0, n_id2_id, n_id_id2, h]))
  exact le_new h_id2 (AS.le_refl _)
omit ha in
theorem end_bad (hend : a < b.length) : ACalls Try.prog 53 [rdV id] σ No (Thr b nl id 2 σ) := by
  have hle := fun σ h => left_ok id b a nl σ h (by omega) (by omega) (by omega)
  have e0 : ((b.length : Int) - a = 0) = False := eq_false (by omega)
  have hneed := fun σ => need_bad 2 σ
  refine ACalls.of_body Try.func53 rfl rfl (by simp [Try.ntmps53]) ?_
  simp only [rdV]
  repeat (first
    | (with_reducible first | apply AWp.seq | apply AWp.block | refine And.intro (by first | omega | assumption | decide) ?_)
    | ((first | (with_reducible first | apply AWp.fork | apply AWp.region)); simp -implicitDefEqProofs)
    | ((with_reducible first | apply AWp.ret | apply AWp.skip | apply AWp.exit); try simp -implicitDefEqProofs))
  intro id2 h_id2
  have n_id_id2 : ¬ id = id2 := by rintro rfl; rw [h] at h_id2; cases h_id2
  have n_id2_id : ¬ id2 = id := fun e => n_id_id2 e.symm
  repeat (first
    | (with_reducible first | apply AWp.seq | apply AWp.block | refine And.intro (by first | omega | assumption | decide) ?_)
    | ((first | (with_reducible first | apply AWp.fork | apply AWp.region | show condK _ _ _ | show guardK _ _ _ _ _ _ _ _ _) | ((with_reducible apply aCall.id); first | apply aCall.gives (hle _ (by simp [n_id2_id, n_id_id2, h])) | apply (gp_ (hneed _)))); simp -implicitDefEqProofs [e0, n_id2_id, n_id_id2, h])
    | ((with_reducible first | apply AWp.ret | apply AWp.skip | apply AWp.exit); try simp -implicitDefEqProofs [e0, n_id2_id, n_id_id2, h]))
  exact ⟨σ, le_new h_id2 (AS.le_refl _), rfl, a, (set_self h).symm⟩
end

end Sg
end Go.Proofs.Ytplphldpkliakaa
