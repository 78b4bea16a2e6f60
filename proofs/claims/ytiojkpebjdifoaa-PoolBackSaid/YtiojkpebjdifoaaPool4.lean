/- Package pool: done, Names. -/
import Derived.Test.YtiojkpebjdifoaaPool3
set_option linter.unusedSimpArgs false
set_option linter.unusedVariables false
set_option maxRecDepth 100000
set_option maxHeartbeats 3200000
namespace Go.Proofs.Ytiojkpebjdifoaa
open Go Go.AW

theorem done_bad (bid mid : Nat) (pool : List UInt8) (o : Own) (pl : AV) (σ : AS) (h1 : σ bid = some (bldC pool o mid)) (hl : pool.length ≤ 140737488355328) (hb : 65536 < pool.length) :
    ACalls Try.prog 56 [.ptr bid 0, pl] σ (Gives (.tup [.nilS, .nilS, .sc (.int .i64 4)]) σ) No := by
  have hb' : (65536 < (pool.length : Int)) = True := by simp; omega
  refine ACalls.of_body Try.func56 rfl rfl (by simp [Try.ntmps56]) ?_
  simp only [bldC] at h1
  repeat (first
    | (with_reducible apply AWp.seq)
    | (with_reducible apply AWp.block)
    | ((with_reducible apply AWp.fork); simp -implicitDefEqProofs [h1, hb'])
    | ((with_reducible apply AWp.region); simp -implicitDefEqProofs [h1, hb'])
    | (with_reducible refine And.intro (by first | omega | assumption | decide) ?_)
    | ((with_reducible show condK _ _ _); simp -implicitDefEqProofs [h1, hb'])
    | ((with_reducible show guardK _ _ _ _ _ _ _ _ _); simp -implicitDefEqProofs [h1, hb'])
    | ((with_reducible apply AWp.ret); try simp -implicitDefEqProofs [h1, hb'])
    | ((with_reducible apply AWp.skip); try simp -implicitDefEqProofs [h1, hb'])
    | ((with_reducible apply AWp.exit); try simp -implicitDefEqProofs [h1, hb']))

theorem done_ok' (bid mid : Nat) (pool : List UInt8) (o : Own) (pl : AV) (σ : AS) (h1 : σ bid = some (bldC pool o mid)) (hl : pool.length ≤ 140737488355328) (hb : ¬ 65536 < pool.length) :
    ACalls Try.prog 56 [.ptr bid 0, pl] σ (Gives (.tup [.lst 5 (pool.map u8) o false, pl, .sc (.int .i64 0)]) σ) No := by
  have hb' : (65536 < (pool.length : Int)) = False := by simp; omega
  refine ACalls.of_body Try.func56 rfl rfl (by simp [Try.ntmps56]) ?_
  simp only [bldC] at h1
  repeat (first
    | (with_reducible apply AWp.seq)
    | (with_reducible apply AWp.block)
    | ((with_reducible apply AWp.fork); simp -implicitDefEqProofs [h1, hb'])
    | ((with_reducible apply AWp.region); simp -implicitDefEqProofs [h1, hb'])
    | (with_reducible refine And.intro (by first | omega | assumption | decide) ?_)
    | ((with_reducible show condK _ _ _); simp -implicitDefEqProofs [h1, hb'])
    | ((with_reducible show guardK _ _ _ _ _ _ _ _ _); simp -implicitDefEqProofs [h1, hb'])
    | ((with_reducible apply AWp.ret); try simp -implicitDefEqProofs [h1, hb'])
    | ((with_reducible apply AWp.skip); try simp -implicitDefEqProofs [h1, hb'])
    | ((with_reducible apply AWp.exit); try simp -implicitDefEqProofs [h1, hb']))

def lookD (s : List UInt8) : List (List UInt8 × Nat) → Option Nat
  | [] => none
  | (k, a) :: r => if s = k then some a else lookD s r
theorem lookD_app (s : List UInt8) (d : List (List UInt8 × Nat)) (k : List UInt8) (a : Nat) : lookD s (d ++ [(k, a)]) = match lookD s d with | some x => some x | none => if s = k then some a else none := by
  induction d with
  | nil => rfl
  | cons p r ih =>
    obtain ⟨q, x⟩ := p
    by_cases h : s = q <;> simp [lookD, h, ih]
def nmF : List (List UInt8) → List UInt8 → List (List UInt8 × Nat) → List UInt8 × List (List UInt8 × Nat)
  | [], p, d => (p, d)
  | s :: r, p, d => match lookD s d with
    | some a => nmF r p (d ++ [(s, a)])
    | none => nmF r (p ++ s ++ [0]) (d ++ [(s, p.length)])
def namesR (l : List (List UInt8)) : List UInt8 × List Int × Int :=
  if l.all fineB = false then ([], [], 18) else
  if 65536 < (nmF l [0] []).1.length then ([], [], 4) else ((nmF l [0] []).1, (nmF l [0] []).2.map (fun p => (p.2 : Int)), 0)

theorem ba_eq (a b : List UInt8) : ((⟨a.toArray⟩ : ByteArray) = ⟨b.toArray⟩) ↔ a = b := by simp
theorem findS_upd (k : ByteArray) (v : AV) (s : ByteArray) : ∀ kvs, findS s (updS k v kvs) = if s = k then some v else findS s kvs := by
  intro kvs
  induction kvs with
  | nil => by_cases h : s = k <;> simp [updS, findS, h]
  | cons p r ih =>
    obtain ⟨k', v'⟩ := p
    by_cases h1 : k = k'
    · subst h1
      by_cases h : s = k <;> simp [updS, findS, h]
    · by_cases h : s = k
      · subst h
        simp [updS, findS, h1, ih]
      · by_cases h2 : s = k'
        · subst h2
          simp [updS, findS, h1, h]
        · simp [updS, findS, h1, h, h2, ih]

theorem PS.put {o : Own} {n : Nat} {σ0 σ : AS} {i : Nat} {b : ABlk} (h : PS o n σ0 σ) (hi : σ i = none ∨ ∃ x, σ0 i = some x) : PS o n (σ0.set i b) (σ.set i b) := by
  rcases h with ⟨rfl, rfl⟩ | ⟨tk, rfl, htk, rfl⟩
  · exact .inl ⟨rfl, rfl⟩
  · have hne : i ≠ tk := by
      rintro rfl
      rcases hi with hi | ⟨x, hi⟩
      · simp [AS.set] at hi
      · rw [htk] at hi; cases hi
    refine .inr ⟨tk, rfl, by simp [AS.set, Ne.symm hne, htk], ?_⟩
    exact AS.set_comm (Ne.symm hne)

theorem le_pt0 {B : AS} {tk tp bid mid sid : Nat} {a b c d c0 d0 e : ABlk} (h1 : tk ≠ tp) (h2 : tk ≠ bid) (h3 : tk ≠ mid) (h4 : tp ≠ bid) (h5 : tp ≠ mid) (h6 : bid ≠ mid) (hs : B sid = none) (hs1 : sid ≠ bid) (hs2 : sid ≠ mid) :
    AS.le ((((B.set mid d).set bid c).set tp b).set tk a) (((((((B.set mid d0).set bid c0).set sid e).set tk a).set bid c).set mid d).set tp b) := by
  intro j x hx
  simp only [AS.set] at hx ⊢
  by_cases a1 : j = tk
  · subst a1; simp [*] at hx ⊢; exact hx
  by_cases a2 : j = tp
  · subst a2; simp [*] at hx ⊢; exact hx
  by_cases a3 : j = bid
  · subst a3; simp [*] at hx ⊢; exact hx
  by_cases a4 : j = mid
  · subst a4; simp [*, Ne.symm h6] at hx ⊢; exact hx
  by_cases a5 : j = sid
  · subst a5; simp [*] at hx
  simp [*] at hx ⊢; exact hx
theorem le_pt1 {B : AS} {tk tp bid mid sid : Nat} {a b b0 c d c0 d0 e : ABlk} (h1 : tk ≠ tp) (h2 : tk ≠ bid) (h3 : tk ≠ mid) (h4 : tp ≠ bid) (h5 : tp ≠ mid) (h6 : bid ≠ mid) (hs : B sid = none) (hs1 : sid ≠ bid) (hs2 : sid ≠ mid) :
    AS.le ((((B.set mid d).set bid c).set tp b).set tk a) ((((((((B.set mid d0).set bid c0).set tp b0).set sid e).set tk a).set bid c).set mid d).set tp b) := by
  intro j x hx
  simp only [AS.set] at hx ⊢
  by_cases a1 : j = tk
  · subst a1; simp [*] at hx ⊢; exact hx
  by_cases a2 : j = tp
  · subst a2; simp [*] at hx ⊢; exact hx
  by_cases a3 : j = bid
  · subst a3; simp [*] at hx ⊢; exact hx
  by_cases a4 : j = mid
  · subst a4; simp [*, Ne.symm h6] at hx ⊢; exact hx
  by_cases a5 : j = sid
  · subst a5; simp [*] at hx
  simp [*] at hx ⊢; exact hx

def plV (d : List (List UInt8 × Nat)) (o : Own) : AV := .lst 3 (d.map fun p => .sc (.int .i64 p.2)) o false
def nmI (l : List (List UInt8)) (nl : Bool) (o0 : Own) (B : AS) (bid mid : Nat) (m : Nat) (fr : Fr) (σ' : AS) : Prop :=
  ∃ (i : Nat) (p : List UInt8) (d : List (List UInt8 × Nat)) (o : Own) (kvs : List (ByteArray × AV)) (C0 : AS) (pl : AV), m = l.length - i ∧ i ≤ l.length ∧ nmF (l.drop i) p d = nmF l [0] [] ∧ d.length = i ∧ p.length ≤ 1 + 25 * i ∧
    (∀ s : List UInt8, findS ⟨s.toArray⟩ kvs = (lookD s d).map (fun a => .sc (.int .i64 (a : Int)))) ∧
    ((i = 0 ∧ pl = .nilS ∧ C0 = (B.set mid (.map (skvs kvs))).set bid (bldC p o mid)) ∨ (∃ tp, 0 < i ∧ B tp = none ∧ tp ≠ bid ∧ tp ≠ mid ∧ pl = plV d (.tok tp) ∧ C0 = ((B.set mid (.map (skvs kvs))).set bid (bldC p o mid)).set tp (.tok i))) ∧
    PS o p.length C0 σ' ∧ fr = mkF [(5, .ptr bid 0), (6, pl), (12, .lst 9 (l.map sV) o0 nl), (13, .sc (.int .i64 l.length)), (14, .sc (.int .i64 i))]

theorem names_ok (l : List (List UInt8)) (nl : Bool) (o0 : Own) (hl : l.length ≤ 1000) (hs : ∀ s ∈ l, s.length ≤ 140737488355328) (hf : l.all fineB = true) (hn : ¬ 65536 < (nmF l [0] []).1.length) (σ : AS) :
    ACalls Try.prog 34 [.lst 9 (l.map sV) o0 nl] σ (Gives (.tup [.lst 5 ((nmF l [0] []).1.map u8) .unk false, .lst 3 ((nmF l [0] []).2.map fun p => .sc (.int .i64 p.2)) .unk (decide (l = [])), .sc (.int .i64 0)]) σ) No := by
  have hc := fun σ => contf_ok l nl o0 (by omega) hs σ
  rw [hf] at hc
  refine ACalls.of_body Try.func34 rfl rfl (by simp [Try.ntmps34]) ?_
  repeat (first
    | (with_reducible apply AWp.seq)
    | (with_reducible apply AWp.block)
    | ((with_reducible apply AWp.fork); simp -implicitDefEqProofs)
    | ((with_reducible apply AWp.region); simp -implicitDefEqProofs)
    | (with_reducible refine And.intro (by first | omega | assumption | decide) ?_)
    | ((with_reducible apply aCall.id); first
        | ((apply aCall.gives (hc _)); simp -implicitDefEqProofs))
    | ((with_reducible apply AWp.ret); try simp -implicitDefEqProofs)
    | ((with_reducible apply AWp.skip); try simp -implicitDefEqProofs)
    | ((with_reducible apply AWp.exit); try simp -implicitDefEqProofs))
  refine aCall.of (fresh_ok _) ?_ (fun _ _ h => h.elim)
  rintro r σ1 ⟨bid, mid, hbid, hmid, hbm, rfl, rfl⟩
  simp -implicitDefEqProofs
  repeat (first
    | (with_reducible apply AWp.seq)
    | (with_reducible apply AWp.block)
    | ((with_reducible apply AWp.fork); simp -implicitDefEqProofs)
    | ((with_reducible apply AWp.region); simp -implicitDefEqProofs)
    | (with_reducible refine And.intro (by first | omega | assumption | decide) ?_)
    | ((with_reducible apply AWp.ret); try simp -implicitDefEqProofs)
    | ((with_reducible apply AWp.skip); try simp -implicitDefEqProofs)
    | ((with_reducible apply AWp.exit); try simp -implicitDefEqProofs))
  refine AWp.loopI (nmI l nl o0 σ bid mid) (k0 := l.length) ⟨0, [0], [], .full, [], _, _, by omega, by omega, rfl, rfl, by simp, fun s => rfl, .inl ⟨rfl, rfl, rfl⟩, .inl ⟨rfl, rfl⟩, rfl⟩ (FrWk.mk (by simp)) (AS.le_refl _) ?_
  rintro m fr σ' ⟨i, p, d, o, kvs, C0, pl, hm, hi, hN, hd, hp, hk, hC, hPS, rfl⟩
  have hbm' : mid ≠ bid := fun e => hbm e.symm
  have hCb : C0 bid = some (bldC p o mid) ∧ C0 mid = some (.map (skvs kvs)) := by
    rcases hC with ⟨_, _, rfl⟩ | ⟨tp, _, ht, q1, q2, _, rfl⟩
    · simp [hbm, hbm']
    · simp [hbm, hbm', q1.symm, q2.symm]
  have hle := hPS.le
  have hσb := hle _ _ hCb.1
  have hσm := hle _ _ hCb.2
  by_cases hlt : i < l.length
  · obtain ⟨s, hg, hdr, hmem, _⟩ := at_lt l hlt
    obtain ⟨_, hg'⟩ := List.getElem?_eq_some_iff.1 hg
    have hI : ((i : Int) < l.length) = True := by simp; omega
    have hs24 : s.length ≤ 24 := by
      have := List.all_eq_true.1 hf s hmem
      simp [fineB] at this; exact this.2.1
    rw [hdr] at hN
    simp only [nmF] at hN
    repeat (first
      | (with_reducible apply AWp.seq)
      | (with_reducible apply AWp.block)
      | ((with_reducible apply AWp.fork); simp -implicitDefEqProofs [hI, hlt, hg, hg', sV])
      | ((with_reducible apply AWp.region); simp -implicitDefEqProofs [hI, hlt, hg, hg', sV])
      | (with_reducible refine And.intro (by first | omega | assumption | decide) ?_)
      | ((with_reducible show condK _ _ _); simp -implicitDefEqProofs [hI, hlt, hg, hg', sV])
      | ((with_reducible show guardK _ _ _ _ _ _ _ _ _); simp -implicitDefEqProofs [hI, hlt, hg, hg', sV])
      | ((with_reducible apply AWp.ret); try simp -implicitDefEqProofs [hI, hlt, hg, hg', sV])
      | ((with_reducible apply AWp.skip); try simp -implicitDefEqProofs [hI, hlt, hg, hg', sV])
      | ((with_reducible apply AWp.exit); try simp -implicitDefEqProofs [hI, hlt, hg, hg', sV]))
    intro sid hsid
    have s1 : sid ≠ bid := by rintro rfl; rw [hσb] at hsid; cases hsid
    have s2 : sid ≠ mid := by rintro rfl; rw [hσm] at hsid; cases hsid
    have s1' : bid ≠ sid := fun e => s1 e.symm
    have s2' : mid ≠ sid := fun e => s2 e.symm
    repeat (first
      | (with_reducible apply AWp.seq)
      | (with_reducible apply AWp.block)
      | ((with_reducible apply AWp.fork); simp -implicitDefEqProofs [hI, s1, s2, s1', s2'])
      | ((with_reducible apply AWp.region); simp -implicitDefEqProofs [hI, s1, s2, s1', s2'])
      | (with_reducible refine And.intro (by first | omega | assumption | decide) ?_)
      | ((with_reducible show condK _ _ _); simp -implicitDefEqProofs [hI, s1, s2, s1', s2'])
      | ((with_reducible show guardK _ _ _ _ _ _ _ _ _); simp -implicitDefEqProofs [hI, s1, s2, s1', s2'])
      | ((with_reducible apply AWp.ret); try simp -implicitDefEqProofs [hI, s1, s2, s1', s2'])
      | ((with_reducible apply AWp.skip); try simp -implicitDefEqProofs [hI, s1, s2, s1', s2'])
      | ((with_reducible apply AWp.exit); try simp -implicitDefEqProofs [hI, s1, s2, s1', s2']))
    have hPS2 := hPS.put (b := .cells 9 [sV s]) (.inl hsid)
    cases hlook : lookD s d with
    | some a =>
      rw [hlook] at hN
      rcases hC with ⟨h0, _, _⟩ | ⟨tp, hi0, htp, q1, q2, rfl, rfl⟩
      · exfalso
        have : d = [] := List.length_eq_zero_iff.1 (by omega)
        subst this
        simp [lookD] at hlook
      · have ht : σ' tp = some (.tok i) := hle tp _ (by simp [AS.set])
        have s3 : sid ≠ tp := by rintro rfl; rw [ht] at hsid; cases hsid
        have s3' : tp ≠ sid := fun e => s3 e.symm
        refine aCall.gives (put_hit bid mid p s o kvs a _ _ (by simp [s1', hσb]) (by simp [s2', hσm]) (by rw [hk, hlook]; rfl)) ?_
        simp -implicitDefEqProofs [plV, ht, hd, s3, s3']
        refine ⟨by omega, ?_⟩
        repeat (first
          | (with_reducible apply AWp.seq)
          | (with_reducible apply AWp.block)
          | ((with_reducible apply AWp.fork); simp -implicitDefEqProofs)
          | ((with_reducible apply AWp.region); simp -implicitDefEqProofs)
          | (with_reducible refine And.intro (by first | omega | assumption | decide) ?_)
          | ((with_reducible apply AWp.ret); try simp -implicitDefEqProofs)
          | ((with_reducible apply AWp.skip); try simp -implicitDefEqProofs)
          | ((with_reducible apply AWp.exit); try simp -implicitDefEqProofs))
        refine ⟨m - 1, _, σ'.set tp (.tok (i + 1)), by omega, FrWk.mk (l := [(5, .ptr bid 0), (6, plV (d ++ [(s, a)]) (.tok tp)), (12, .lst 9 (l.map sV) o0 nl), (13, .sc (.int .i64 l.length)), (14, .sc (.int .i64 (i + 1 : Nat)))]) ?_, ?_, i + 1, p, d ++ [(s, a)], o, kvs, _, _, by omega, by omega, hN, by simp [hd], by omega, ?_, .inr ⟨tp, by omega, htp, q1, q2, rfl, rfl⟩, ?_, rfl⟩
        · simp [wInc (show i < 4000000000000000000 by omega), plV]
        · exact le_tok (le_new hsid (AS.le_refl _)) (by simp [hd])
        · intro s'
          rw [hk, lookD_app]
          by_cases e : s' = s
          · subst e; rw [hlook]
          · cases h : lookD s' d <;> simp [e]
        · have := hPS.put (i := tp) (b := .tok (i + 1)) (.inr ⟨_, by simp [AS.set]; rfl⟩)
          rwa [AS.set_set] at this
    | none =>
      rw [hlook] at hN
      have hpn := put_new bid mid p (p ++ s ++ [0]) s o kvs 55 [.ptr sid 0] (C0.set sid (.cells 9 [sV s])) _ hbm (by simp [s1', hCb.1]) (by simp [s2', hCb.2]) hPS2 (by rw [hk, hlook]; rfl) (by omega)
        (names2_ok p s o sid _ _ hPS2 (by simp) (by omega) (by omega))
      have hk' : ∀ s' : List UInt8, findS ⟨s'.toArray⟩ (updS ⟨s.toArray⟩ (.sc (.int .i64 p.length)) kvs) = (lookD s' (d ++ [(s, p.length)])).map (fun a => .sc (.int .i64 (a : Int))) := by
        intro s'
        rw [findS_upd, lookD_app]
        by_cases e : s' = s
        · subst e; rw [hlook]; simp
        · have : ¬ ((⟨s'.toArray⟩ : ByteArray) = ⟨s.toArray⟩) := by simpa using e
          rw [if_neg this, hk]
          cases h : lookD s' d <;> simp [e]
      refine aCall.of hpn ?_ (fun _ _ h => h.elim)
      rintro r σ2 ⟨tk, htk, rfl, rfl⟩
      have t1 : tk ≠ sid := by rintro rfl; simp [AS.set] at htk
      have t1' : sid ≠ tk := fun e => t1 e.symm
      have htk0 : C0 tk = none := by simpa [AS.set, t1] using htk
      have t2 : tk ≠ bid := by rintro rfl; rw [hCb.1] at htk0; cases htk0
      have t3 : tk ≠ mid := by rintro rfl; rw [hCb.2] at htk0; cases htk0
      have t2' : bid ≠ tk := fun e => t2 e.symm
      have t3' : mid ≠ tk := fun e => t3 e.symm
      have hC0sid : C0 sid = none := by
        cases hh : C0 sid with
        | none => rfl
        | some x => rw [hle _ _ hh] at hsid; cases hsid
      rcases hC with ⟨h0, rfl, rfl⟩ | ⟨tp, hi0, htp, q1, q2, rfl, rfl⟩
      · have hBsid : σ sid = none := by simpa [AS.set, s1, s2] using hC0sid
        have hBtk : σ tk = none := by simpa [AS.set, t2, t3] using htk0
        have hd0 : d = [] := List.length_eq_zero_iff.1 (by omega)
        subst hd0
        simp -implicitDefEqProofs
        intro tp
        intros
        have u1 : tp ≠ mid := by assumption
        have u2 : tp ≠ bid := by assumption
        have u3 : tp ≠ tk := by assumption
        have u5 : σ tp = none := by assumption
        have u3' : tk ≠ tp := fun e => u3 e.symm
        repeat (first
          | (with_reducible apply AWp.seq)
          | (with_reducible apply AWp.block)
          | ((with_reducible apply AWp.fork); simp -implicitDefEqProofs)
          | ((with_reducible apply AWp.region); simp -implicitDefEqProofs)
          | (with_reducible refine And.intro (by first | omega | assumption | decide) ?_)
          | ((with_reducible apply AWp.ret); try simp -implicitDefEqProofs)
          | ((with_reducible apply AWp.skip); try simp -implicitDefEqProofs)
          | ((with_reducible apply AWp.exit); try simp -implicitDefEqProofs))
        refine ⟨m - 1, _, ((((σ.set mid (.map (skvs (updS ⟨s.toArray⟩ (.sc (.int .i64 p.length)) kvs)))).set bid (bldC (p ++ s ++ [0]) (.tok tk) mid)).set tp (.tok (i + 1))).set tk (.tok (p ++ s ++ [0]).length)), by omega, FrWk.mk (l := [(5, .ptr bid 0), (6, plV ([] ++ [(s, p.length)]) (.tok tp)), (12, .lst 9 (l.map sV) o0 nl), (13, .sc (.int .i64 l.length)), (14, .sc (.int .i64 (i + 1 : Nat)))]) ?_, ?_, i + 1, p ++ s ++ [0], [] ++ [(s, p.length)], .tok tk, _, _, _, by omega, by omega, hN, by simp [hd, h0], by simp; omega, hk', .inr ⟨tp, by omega, u5, u2, u1, rfl, rfl⟩, .inr ⟨tk, rfl, by simp [AS.set, *], rfl⟩, rfl⟩
        · simp [wInc (show i < 4000000000000000000 by omega), plV]
        · have := le_pt0 (B := σ) (a := .tok (p ++ s ++ [0]).length) (b := .tok (i + 1)) (c := bldC (p ++ s ++ [0]) (.tok tk) mid) (d := .map (skvs (updS ⟨s.toArray⟩ (.sc (.int .i64 p.length)) kvs))) (c0 := bldC p o mid) (d0 := .map (skvs kvs)) (e := .cells 9 [sV s]) u3' t2 t3 u2 u1 hbm hBsid s1 s2
          simpa [h0] using this
      · have hBsid : σ sid = none := by
          have hstp : sid ≠ tp := by rintro rfl; simp [AS.set] at hC0sid
          simpa [AS.set, s1, s2, hstp] using hC0sid
        have t4 : tk ≠ tp := by rintro rfl; simp [AS.set] at htk0
        have t4' : tp ≠ tk := fun e => t4 e.symm
        have hBtk : σ tk = none := by simpa [AS.set, t2, t3, t4] using htk0
        have s3 : tp ≠ sid := by rintro rfl; simp [AS.set] at hC0sid
        simp -implicitDefEqProofs [plV, q1, q2, t4', s3, hd]
        refine ⟨by omega, ?_⟩
        repeat (first
          | (with_reducible apply AWp.seq)
          | (with_reducible apply AWp.block)
          | ((with_reducible apply AWp.fork); simp -implicitDefEqProofs)
          | ((with_reducible apply AWp.region); simp -implicitDefEqProofs)
          | (with_reducible refine And.intro (by first | omega | assumption | decide) ?_)
          | ((with_reducible apply AWp.ret); try simp -implicitDefEqProofs)
          | ((with_reducible apply AWp.skip); try simp -implicitDefEqProofs)
          | ((with_reducible apply AWp.exit); try simp -implicitDefEqProofs))
        refine ⟨m - 1, _, ((((σ.set mid (.map (skvs (updS ⟨s.toArray⟩ (.sc (.int .i64 p.length)) kvs)))).set bid (bldC (p ++ s ++ [0]) (.tok tk) mid)).set tp (.tok (i + 1))).set tk (.tok (p ++ s ++ [0]).length)), by omega, FrWk.mk (l := [(5, .ptr bid 0), (6, plV (d ++ [(s, p.length)]) (.tok tp)), (12, .lst 9 (l.map sV) o0 nl), (13, .sc (.int .i64 l.length)), (14, .sc (.int .i64 (i + 1 : Nat)))]) ?_, ?_, i + 1, p ++ s ++ [0], d ++ [(s, p.length)], .tok tk, _, _, _, by omega, by omega, hN, by simp [hd], by simp; omega, hk', .inr ⟨tp, by omega, htp, q1, q2, rfl, rfl⟩, .inr ⟨tk, rfl, by simp [AS.set, *], rfl⟩, rfl⟩
        · simp [wInc (show i < 4000000000000000000 by omega), plV]
        · have := le_pt1 (B := σ) (a := .tok (p ++ s ++ [0]).length) (b := .tok (i + 1)) (b0 := .tok i) (c := bldC (p ++ s ++ [0]) (.tok tk) mid) (d := .map (skvs (updS ⟨s.toArray⟩ (.sc (.int .i64 p.length)) kvs))) (c0 := bldC p o mid) (d0 := .map (skvs kvs)) (e := .cells 9 [sV s]) t4 t2 t3 q1 q2 hbm hBsid s1 s2
          simpa [hd] using this
  · have hI : ((i : Int) < l.length) = False := by simp; omega
    have hdr : l.drop i = [] := List.drop_eq_nil_of_le (by omega)
    rw [hdr] at hN
    simp only [nmF] at hN
    rw [← hN] at hn ⊢
    simp only at hn ⊢
    repeat (first
      | (with_reducible apply AWp.seq)
      | (with_reducible apply AWp.block)
      | ((with_reducible apply AWp.fork); simp -implicitDefEqProofs [hI])
      | ((with_reducible apply AWp.region); simp -implicitDefEqProofs [hI])
      | (with_reducible refine And.intro (by first | omega | assumption | decide) ?_)
      | ((with_reducible show condK _ _ _); simp -implicitDefEqProofs [hI])
      | ((with_reducible show guardK _ _ _ _ _ _ _ _ _); simp -implicitDefEqProofs [hI])
      | ((with_reducible apply aCall.id); first
          | ((apply aCall.gives (done_ok' bid mid p o _ _ hσb (by omega) hn)); simp -implicitDefEqProofs [hI]))
      | ((with_reducible apply AWp.ret); try simp -implicitDefEqProofs [hI])
      | ((with_reducible apply AWp.skip); try simp -implicitDefEqProofs [hI])
      | ((with_reducible apply AWp.exit); try simp -implicitDefEqProofs [hI]))
    refine ⟨Wk_tup3 (by simp) ?_ (by simp), AS.le_trans ?_ hle⟩
    · rcases hC with ⟨h0, rfl, _⟩ | ⟨tp, hi0, _, _, _, rfl, _⟩
      · have h1 : d = [] := List.length_eq_zero_iff.1 (by omega)
        have h2 : l = [] := List.length_eq_zero_iff.1 (by omega)
        subst h1 h2
        simp
      · have h2 : decide (l = []) = false := by
          have : l ≠ [] := by rintro rfl; simp at hi; omega
          simp [this]
        rw [h2]
        simp [plV]
    · rcases hC with ⟨_, _, rfl⟩ | ⟨tp, _, ht, q1, q2, _, rfl⟩
      · exact le_new (by simp [*]) (le_new hmid (AS.le_refl _))
      · exact le_new (by simp [*]) (le_new (by simp [*]) (le_new hmid (AS.le_refl _)))

theorem names_full (l : List (List UInt8)) (nl : Bool) (o0 : Own) (hl : l.length ≤ 1000) (hs : ∀ s ∈ l, s.length ≤ 140737488355328) (hf : l.all fineB = false) (σ : AS) :
    ACalls Try.prog 34 [.lst 9 (l.map sV) o0 nl] σ (Gives (.tup [.nilS, .nilS, .sc (.int .i64 18)]) σ) No := by
  have hc := fun σ => contf_ok l nl o0 (by omega) hs σ
  rw [hf] at hc
  refine ACalls.of_body Try.func34 rfl rfl (by simp [Try.ntmps34]) ?_
  repeat (first
    | (with_reducible apply AWp.seq)
    | (with_reducible apply AWp.block)
    | ((with_reducible apply AWp.fork); simp -implicitDefEqProofs)
    | ((with_reducible apply AWp.region); simp -implicitDefEqProofs)
    | (with_reducible refine And.intro (by first | omega | assumption | decide) ?_)
    | ((with_reducible apply aCall.id); first
        | ((apply aCall.gives (hc _)); simp -implicitDefEqProofs))
    | ((with_reducible apply AWp.ret); try simp -implicitDefEqProofs)
    | ((with_reducible apply AWp.skip); try simp -implicitDefEqProofs)
    | ((with_reducible apply AWp.exit); try simp -implicitDefEqProofs))

end Go.Proofs.Ytiojkpebjdifoaa
