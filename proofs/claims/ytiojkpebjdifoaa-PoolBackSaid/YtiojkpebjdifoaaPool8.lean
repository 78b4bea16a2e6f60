/- Package pool: Blobs. -/
import Derived.Test.YtiojkpebjdifoaaPool7
import Derived.Test.YtiojkpebjdifoaaPool6
set_option linter.unusedSimpArgs false
set_option linter.unusedVariables false
set_option maxRecDepth 100000
set_option maxHeartbeats 3200000
namespace Go.Proofs.Ytiojkpebjdifoaa
open Go Go.AW

/-- A blob, as a pool tells it. -/
def encB (s : List UInt8) : List UInt8 := packL s.length ++ s
theorem packL_len (n : Int) (h0 : 0 ≤ n) (h1 : n ≤ 536870911) : 1 ≤ (packL n).length ∧ (packL n).length ≤ 4 := by
  unfold packL
  rw [beL_length]
  rcases sizeI_cases n h0 h1 with ⟨_, h⟩ | ⟨_, _, h⟩ | ⟨_, _, h⟩ <;> rw [h] <;> decide

theorem blobs1_ok (pool : List UInt8) (x : List UInt8 × Bool) (o : Own) (sid : Nat) (σ0 σ : AS) (hp : PS o pool.length σ0 σ) (hsid : σ0 sid = some (.cells 22 [bV x])) (h1 : pool.length ≤ 1000000) (h2 : x.1.length ≤ 1000) :
    ACalls Try.prog 58 [.lst 5 (pool.map u8) o false, .ptr sid 0] σ (Owns (fun tk => .lst 5 ((pool ++ encB x.1).map u8) (.tok tk) false) (pool ++ encB x.1).length σ0) No := by
  have hs := hp.le sid _ hsid
  have hpk := fun σ => pack_ok pool o false (by simp) h1 x.1.length (by omega) (by omega) σ
  have hpl := packL_len x.1.length (by omega) (by omega)
  generalize hP : packL x.1.length = P at hpk hpl
  have hE : encB x.1 = P ++ x.1 := by rw [encB, hP]
  rw [hE]
  refine ACalls.of_body Try.func58 rfl rfl (by simp [Try.ntmps58]) ?_
  repeat (first
    | (with_reducible apply AWp.seq)
    | (with_reducible apply AWp.block)
    | ((with_reducible apply AWp.fork); simp -implicitDefEqProofs [hs, bV])
    | ((with_reducible apply AWp.region); simp -implicitDefEqProofs [hs, bV])
    | (with_reducible refine And.intro (by first | omega | assumption | decide) ?_)
    | ((with_reducible show condK _ _ _); simp -implicitDefEqProofs [hs, bV])
    | ((with_reducible show guardK _ _ _ _ _ _ _ _ _); simp -implicitDefEqProofs [hs, bV])
    | ((with_reducible apply aCall.id); first
        | ((apply aCall.owns (hpk _)); simp -implicitDefEqProofs [hs, bV]))
    | ((with_reducible apply AWp.ret); try simp -implicitDefEqProofs [hs, bV])
    | ((with_reducible apply AWp.skip); try simp -implicitDefEqProofs [hs, bV])
    | ((with_reducible apply AWp.exit); try simp -implicitDefEqProofs [hs, bV]))
  intro tk htk
  have n1 : ¬ sid = tk := by rintro rfl; rw [hs] at htk; cases htk
  have n2 : ¬ tk = sid := fun e => n1 e.symm
  repeat (first
    | (with_reducible apply AWp.seq)
    | (with_reducible apply AWp.block)
    | ((with_reducible apply AWp.fork); simp -implicitDefEqProofs [hs, bV, n1, n2])
    | ((with_reducible apply AWp.region); simp -implicitDefEqProofs [hs, bV, n1, n2])
    | (with_reducible refine And.intro (by first | omega | assumption | decide) ?_)
    | ((with_reducible show condK _ _ _); simp -implicitDefEqProofs [hs, bV, n1, n2])
    | ((with_reducible show guardK _ _ _ _ _ _ _ _ _); simp -implicitDefEqProofs [hs, bV, n1, n2])
    | ((with_reducible apply AWp.ret); try simp -implicitDefEqProofs [hs, bV, n1, n2])
    | ((with_reducible apply AWp.skip); try simp -implicitDefEqProofs [hs, bV, n1, n2])
    | ((with_reducible apply AWp.exit); try simp -implicitDefEqProofs [hs, bV, n1, n2]))
  have h0 : σ0 tk = none := by
    cases hh : σ0 tk with
    | none => rfl
    | some y => rw [hp.le _ _ hh] at htk; cases htk
  refine owns_end tk h0 (wk_eq (by first | rfl | simp)) ?_
  exact le_tok hp.le (by first | omega | (simp; omega))

def bmF : List (List UInt8) → List UInt8 → List (List UInt8 × Nat) → List UInt8 × List (List UInt8 × Nat)
  | [], p, d => (p, d)
  | s :: r, p, d => match lookD s (([], 0) :: d) with
    | some a => bmF r p (d ++ [(s, a)])
    | none => bmF r (p ++ encB s) (d ++ [(s, p.length)])

def bmI (l : List (List UInt8 × Bool)) (nl : Bool) (o0 : Own) (B : AS) (bid mid : Nat) (m : Nat) (fr : Fr) (σ' : AS) : Prop :=
  ∃ (i : Nat) (p : List UInt8) (d : List (List UInt8 × Nat)) (o : Own) (kvs : List (ByteArray × AV)) (C0 : AS) (pl : AV), m = l.length - i ∧ i ≤ l.length ∧ bmF ((l.drop i).map (·.1)) p d = bmF (l.map (·.1)) [0] [] ∧ d.length = i ∧ p.length ≤ 1 + 304 * i ∧
    (∀ s : List UInt8, findS ⟨s.toArray⟩ kvs = (lookD s (([], 0) :: d)).map (fun a => .sc (.int .i64 (a : Int)))) ∧
    ((i = 0 ∧ pl = .nilS ∧ C0 = (B.set mid (.map (skvs kvs))).set bid (bldC p o mid)) ∨ (∃ tp, 0 < i ∧ B tp = none ∧ tp ≠ bid ∧ tp ≠ mid ∧ pl = plV d (.tok tp) ∧ C0 = ((B.set mid (.map (skvs kvs))).set bid (bldC p o mid)).set tp (.tok i))) ∧
    PS o p.length C0 σ' ∧ fr = mkF [(5, .ptr bid 0), (6, pl), (14, .lst 22 (l.map bV) o0 nl), (15, .sc (.int .i64 l.length)), (16, .sc (.int .i64 i))]

theorem blobs_ok (l : List (List UInt8 × Bool)) (nl : Bool) (o0 : Own) (hl : l.length ≤ 60) (hs : ∀ s ∈ l, s.1.length ≤ 300) (σ : AS) :
    ACalls Try.prog 41 [.lst 22 (l.map bV) o0 nl] σ (Gives (.tup [.lst 5 ((bmF (l.map (·.1)) [0] []).1.map u8) .unk false, .lst 3 ((bmF (l.map (·.1)) [0] []).2.map fun p => .sc (.int .i64 p.2)) .unk (decide (l = [])), .sc (.int .i64 0)]) σ) No := by
  refine ACalls.of_body Try.func41 rfl rfl (by simp [Try.ntmps41]) ?_
  repeat (first
    | (with_reducible apply AWp.seq)
    | (with_reducible apply AWp.block)
    | ((with_reducible apply AWp.fork); simp -implicitDefEqProofs)
    | ((fail_if_success (with_reducible apply AWp.region (id := 2))); (with_reducible apply AWp.region); simp -implicitDefEqProofs)
    | (with_reducible refine And.intro (by first | omega | assumption | decide) ?_)
    | ((with_reducible apply AWp.ret); try simp -implicitDefEqProofs)
    | ((with_reducible apply AWp.skip); try simp -implicitDefEqProofs)
    | ((with_reducible apply AWp.exit); try simp -implicitDefEqProofs))
  refine aCall.of (fresh_ok _) ?_ (fun _ _ h => h.elim)
  rintro r σ1 ⟨bid, mid, hbid, hmid, hbm, rfl, rfl⟩
  simp -implicitDefEqProofs
  have hbm0 : mid ≠ bid := fun e => hbm e.symm
  repeat (first
    | (with_reducible apply AWp.seq)
    | (with_reducible apply AWp.block)
    | ((with_reducible apply AWp.fork); simp -implicitDefEqProofs)
    | ((fail_if_success (with_reducible apply AWp.region (id := 2))); (with_reducible apply AWp.region); simp -implicitDefEqProofs)
    | (with_reducible refine And.intro (by first | omega | assumption | decide) ?_)
    | ((with_reducible apply AWp.ret); try simp -implicitDefEqProofs)
    | ((with_reducible apply AWp.skip); try simp -implicitDefEqProofs)
    | ((with_reducible apply AWp.exit); try simp -implicitDefEqProofs))
  with_reducible apply AWp.regionS
  refine sOps.first 4 ?_
  simp -implicitDefEqProofs [bldC, hbm, hbm0]
  refine sOps.sp rfl (SOp.mapUpdate mid ⟨[].toArray⟩ [] Try.underlying95 Try.underlying9 (by simp) (by simp) (by simp [AS.set, hbm, hbm0]) ?_)
  refine sOps.rest ?_
  simp -implicitDefEqProofs
  repeat (first
    | (with_reducible apply AWp.seq)
    | (with_reducible apply AWp.block)
    | ((with_reducible apply AWp.fork); simp -implicitDefEqProofs)
    | ((with_reducible apply AWp.region); simp -implicitDefEqProofs)
    | (with_reducible refine And.intro (by first | omega | assumption | decide) ?_)
    | ((with_reducible apply AWp.ret); try simp -implicitDefEqProofs)
    | ((with_reducible apply AWp.skip); try simp -implicitDefEqProofs)
    | ((with_reducible apply AWp.exit); try simp -implicitDefEqProofs))
  refine AWp.loopI (bmI l nl o0 σ bid mid) (k0 := l.length) ⟨0, [0], [], .full, updS ⟨[].toArray⟩ (.sc (.int .i64 0)) [], _, _, by omega, by omega, rfl, rfl, by simp, ?_, .inl ⟨rfl, rfl, rfl⟩, .inl ⟨rfl, rfl⟩, rfl⟩ (FrWk.mk (by simp)) ?_ ?_
  · intro s
    by_cases h : s = [] <;> simp [updS, findS, lookD, h]
  · intro j x hx
    by_cases a1 : j = mid
    · subst a1; simp [AS.set, bldC, hbm0] at hx ⊢; exact hx
    · by_cases a2 : j = bid
      · subst a2; simp [AS.set, bldC, hbm] at hx ⊢; exact hx
      · simp [AS.set, a1, a2] at hx ⊢; exact hx
  rintro m fr σ' ⟨i, p, d, o, kvs, C0, pl, hm, hi, hN, hd, hp, hk, hC, hPS, rfl⟩
  have hbm' : mid ≠ bid := fun e => hbm e.symm
  have hCb : C0 bid = some (bldC p o mid) ∧ C0 mid = some (.map (skvs kvs)) := by
    rcases hC with ⟨_, _, rfl⟩ | ⟨tp, _, ht, q1, q2, _, rfl⟩
    · simp [hbm, hbm']
    · simp [hbm, hbm', q1.symm, q2.symm]
  have hle := hPS.le
  have hσb := hle _ _ hCb.1
  have hσm := hle _ _ hCb.2
  have hb2 : ∀ q : List UInt8, q.length ≤ 1 + 304 * (i + 1) → i < l.length → (65536 < (q.length : Int)) = False := by intro q h1 h2; simp; omega
  by_cases hlt : i < l.length
  · obtain ⟨x, hg, hdr, hmem, _⟩ := at_lt l hlt
    obtain ⟨s, sn⟩ := x
    obtain ⟨_, hg'⟩ := List.getElem?_eq_some_iff.1 hg
    have hI : ((i : Int) < l.length) = True := by simp; omega
    have hs3 : s.length ≤ 300 := hs _ hmem
    have hsb : (65536 < (s.length : Int)) = False := by simp; omega
    have hsl : s.length ≤ 140737488355328 := by omega
    rw [hdr, List.map_cons] at hN
    simp only [bmF] at hN
    repeat (first
      | (with_reducible apply AWp.seq)
      | (with_reducible apply AWp.block)
      | ((with_reducible apply AWp.fork); simp -implicitDefEqProofs [hI, hlt, hg, hg', bV])
      | ((with_reducible apply AWp.region); simp -implicitDefEqProofs [hI, hlt, hg, hg', bV])
      | (with_reducible refine And.intro (by first | omega | assumption | decide) ?_)
      | ((with_reducible show condK _ _ _); simp -implicitDefEqProofs [hI, hlt, hg, hg', bV])
      | ((with_reducible show guardK _ _ _ _ _ _ _ _ _); simp -implicitDefEqProofs [hI, hlt, hg, hg', bV])
      | ((with_reducible apply AWp.ret); try simp -implicitDefEqProofs [hI, hlt, hg, hg', bV])
      | ((with_reducible apply AWp.skip); try simp -implicitDefEqProofs [hI, hlt, hg, hg', bV])
      | ((with_reducible apply AWp.exit); try simp -implicitDefEqProofs [hI, hlt, hg, hg', bV]))
    intro sid hsid
    have s1 : sid ≠ bid := by rintro rfl; rw [hσb] at hsid; cases hsid
    have s2 : sid ≠ mid := by rintro rfl; rw [hσm] at hsid; cases hsid
    have s1' : bid ≠ sid := fun e => s1 e.symm
    have s2' : mid ≠ sid := fun e => s2 e.symm
    repeat (first
      | (with_reducible apply AWp.seq)
      | (with_reducible apply AWp.block)
      | ((with_reducible apply AWp.fork); simp -implicitDefEqProofs [hI, s1, s2, s1', s2', hsb, allU8_map])
      | ((with_reducible apply AWp.region); simp -implicitDefEqProofs [hI, s1, s2, s1', s2', hsb, allU8_map])
      | (with_reducible refine And.intro (by first | omega | assumption | decide) ?_)
      | ((with_reducible show condK _ _ _); simp -implicitDefEqProofs [hI, s1, s2, s1', s2', hsb, allU8_map])
      | ((with_reducible show guardK _ _ _ _ _ _ _ _ _); simp -implicitDefEqProofs [hI, s1, s2, s1', s2', hsb, allU8_map])
      | ((with_reducible apply AWp.ret); try simp -implicitDefEqProofs [hI, s1, s2, s1', s2', hsb, allU8_map])
      | ((with_reducible apply AWp.skip); try simp -implicitDefEqProofs [hI, s1, s2, s1', s2', hsb, allU8_map])
      | ((with_reducible apply AWp.exit); try simp -implicitDefEqProofs [hI, s1, s2, s1', s2', hsb, allU8_map]))
    have hPS2 := hPS.put (b := .cells 22 [bV (s, sn)]) (.inl hsid)
    have endHit : ∀ (a tp : Nat), lookD s (([], 0) :: d) = some a → bmF ((l.drop (i + 1)).map (·.1)) p (d ++ [(s, a)]) = bmF (l.map (·.1)) [0] [] → σ tp = none → tp ≠ bid → tp ≠ mid → PS o p.length (((σ.set mid (.map (skvs kvs))).set bid (bldC p o mid)).set tp (.tok (i + 1))) (σ'.set tp (.tok (i + 1))) →
        ∀ (fr : Fr) (σf : AS), FrWk Try.prog fr (mkF [(5, .ptr bid 0), (6, plV (d ++ [(s, a)]) (.tok tp)), (14, .lst 22 (l.map bV) o0 nl), (15, .sc (.int .i64 l.length)), (16, .sc (.int .i64 (i + 1 : Nat)))]) → AS.le (σ'.set tp (.tok (i + 1))) σf → loopQ Try.prog (bmI l nl o0 σ bid mid) m fr σf := by
      intro a tp hlook hN' h1 h2 h3 h4 fr σf h5 h6
      refine ⟨m - 1, _, _, by clear hC; omega, h5, h6, i + 1, p, d ++ [(s, a)], o, kvs, _, _, by clear hC; omega, by clear hC; omega, hN', by simp [hd], by clear hC; omega, ?_, .inr ⟨tp, by omega, h1, h2, h3, rfl, rfl⟩, h4, rfl⟩
      intro s'
      rw [hk, ← List.cons_append, lookD_app]
      by_cases e : s' = s
      · subst e; rw [hlook]
      · cases h : lookD s' (([], 0) :: d) <;> simp [e]
    have endNew : ∀ (tk tp : Nat), lookD s (([], 0) :: d) = none → bmF ((l.drop (i + 1)).map (·.1)) (p ++ encB s) (d ++ [(s, p.length)]) = bmF (l.map (·.1)) [0] [] → σ tp = none → tp ≠ bid → tp ≠ mid → σ tk = none → tk ≠ tp → tk ≠ bid → tk ≠ mid → (p ++ encB s).length ≤ 1 + 304 * (i + 1) →
        ∀ (fr : Fr) (σf : AS), FrWk Try.prog fr (mkF [(5, .ptr bid 0), (6, plV (d ++ [(s, p.length)]) (.tok tp)), (14, .lst 22 (l.map bV) o0 nl), (15, .sc (.int .i64 l.length)), (16, .sc (.int .i64 (i + 1 : Nat)))]) →
          AS.le ((((σ.set mid (.map (skvs (updS ⟨s.toArray⟩ (.sc (.int .i64 p.length)) kvs)))).set bid (bldC (p ++ encB s) (.tok tk) mid)).set tp (.tok (i + 1))).set tk (.tok (p ++ encB s).length)) σf → loopQ Try.prog (bmI l nl o0 σ bid mid) m fr σf := by
      intro tk tp hlook hN' h1 h2 h3 k1 k2 k3 k4 hlen fr σf h5 h6
      refine ⟨m - 1, _, _, by clear hC; omega, h5, h6, i + 1, p ++ encB s, d ++ [(s, p.length)], .tok tk, _, _, _, by clear hC; omega, by clear hC; omega, hN', by simp [hd], hlen, ?_, .inr ⟨tp, by omega, h1, h2, h3, rfl, rfl⟩, .inr ⟨tk, rfl, by simp [AS.set, *], rfl⟩, rfl⟩
      intro s'
      rw [findS_upd, ← List.cons_append, lookD_app]
      by_cases e : s' = s
      · subst e; rw [hlook]; simp
      · have : ¬ ((⟨s'.toArray⟩ : ByteArray) = ⟨s.toArray⟩) := by simpa using e
        rw [if_neg this, hk]
        cases h : lookD s' (([], 0) :: d) <;> simp [e]
    cases hlook : lookD s (([], 0) :: d) with
    | some a =>
      rw [hlook] at hN
      refine aCall.gives (put_hit bid mid p s o kvs a _ _ (by simp [s1', hσb]) (by simp [s2', hσm]) (by rw [hk, hlook]; rfl)) ?_
      have hbp := hb2 p (by omega) hlt
      have hpl1 : p.length ≤ 140737488355328 := by omega
      simp only [bldC] at hσb
      rcases hC with ⟨h0, rfl, rfl⟩ | ⟨tp, hi0, htp, q1, q2, rfl, rfl⟩
      · have hd0 : d = [] := List.length_eq_zero_iff.1 (by omega)
        subst hd0
        simp -implicitDefEqProofs
        intro tp
        intros
        have u4 : σ' tp = none := by assumption
        have u5 : tp ≠ sid := by assumption
        have u5' : sid ≠ tp := fun e => u5 e.symm
        have u6 : ((σ.set mid (.map (skvs kvs))).set bid (bldC p o mid)) tp = none := by
          cases hh : ((σ.set mid (.map (skvs kvs))).set bid (bldC p o mid)) tp with
          | none => rfl
          | some y => rw [hle _ _ hh] at u4; cases u4
        have u7 : tp ≠ bid := by rintro rfl; simp at u6
        have u8 : tp ≠ mid := by rintro rfl; simp [hbm'] at u6
        have u9 : σ tp = none := by simpa [AS.set, u7, u8] using u6
        have u7' : bid ≠ tp := fun e => u7 e.symm
        repeat (first
          | (with_reducible apply AWp.seq)
          | (with_reducible apply AWp.block)
          | ((with_reducible apply AWp.fork); simp -implicitDefEqProofs [hσb, u7, u7', s1, s1', u5, u5', hbp])
          | ((with_reducible apply AWp.region); simp -implicitDefEqProofs [hσb, u7, u7', s1, s1', u5, u5', hbp])
          | (with_reducible refine And.intro (by first | omega | assumption | decide) ?_)
          | ((with_reducible show condK _ _ _); simp -implicitDefEqProofs [hσb, u7, u7', s1, s1', u5, u5', hbp])
          | ((with_reducible show guardK _ _ _ _ _ _ _ _ _); simp -implicitDefEqProofs [hσb, u7, u7', s1, s1', u5, u5', hbp])
          | ((with_reducible apply AWp.ret); try simp -implicitDefEqProofs [hσb, u7, u7', s1, s1', u5, u5', hbp])
          | ((with_reducible apply AWp.skip); try simp -implicitDefEqProofs [hσb, u7, u7', s1, s1', u5, u5', hbp])
          | ((with_reducible apply AWp.exit); try simp -implicitDefEqProofs [hσb, u7, u7', s1, s1', u5, u5', hbp]))
        have hps := hPS.put (i := tp) (b := .tok (i + 1)) (.inl u4)
        refine endHit a tp hlook hN u9 u7 u8 hps _ _ (FrWk.mk ?_) ?_
        · simp [wInc (show i < 4000000000000000000 by omega), plV, bV]
        · exact le_tok (le_new hsid (AS.le_refl _)) (by simp [h0])
      · have ht : σ' tp = some (.tok i) := hle tp _ (by simp [AS.set])
        have s3 : sid ≠ tp := by rintro rfl; rw [ht] at hsid; cases hsid
        have s3' : tp ≠ sid := fun e => s3 e.symm
        have q1' : bid ≠ tp := fun e => q1 e.symm
        simp -implicitDefEqProofs [plV, ht, hd, s3, s3']
        refine ⟨by omega, ?_⟩
        repeat (first
          | (with_reducible apply AWp.seq)
          | (with_reducible apply AWp.block)
          | ((with_reducible apply AWp.fork); simp -implicitDefEqProofs [hσb, q1, q1', s1, s1', s3, s3', hbp])
          | ((with_reducible apply AWp.region); simp -implicitDefEqProofs [hσb, q1, q1', s1, s1', s3, s3', hbp])
          | (with_reducible refine And.intro (by first | omega | assumption | decide) ?_)
          | ((with_reducible show condK _ _ _); simp -implicitDefEqProofs [hσb, q1, q1', s1, s1', s3, s3', hbp])
          | ((with_reducible show guardK _ _ _ _ _ _ _ _ _); simp -implicitDefEqProofs [hσb, q1, q1', s1, s1', s3, s3', hbp])
          | ((with_reducible apply AWp.ret); try simp -implicitDefEqProofs [hσb, q1, q1', s1, s1', s3, s3', hbp])
          | ((with_reducible apply AWp.skip); try simp -implicitDefEqProofs [hσb, q1, q1', s1, s1', s3, s3', hbp])
          | ((with_reducible apply AWp.exit); try simp -implicitDefEqProofs [hσb, q1, q1', s1, s1', s3, s3', hbp]))
        have hps := hPS.put (i := tp) (b := .tok (i + 1)) (.inr ⟨_, by simp [AS.set]; rfl⟩)
        rw [AS.set_set] at hps
        refine endHit a tp hlook hN htp q1 q2 hps _ _ (FrWk.mk ?_) ?_
        · simp [wInc (show i < 4000000000000000000 by omega), plV, bV]
        · exact le_tok (le_new hsid (AS.le_refl _)) (by simp [hd])
    | none =>
      rw [hlook] at hN
      have hpl := packL_len s.length (by omega) (by omega)
      have hel : (p ++ encB s).length ≤ 1 + 304 * (i + 1) := by simp [encB]; omega
      have hbp := hb2 (p ++ encB s) hel hlt
      have hpl1 : (p ++ encB s).length ≤ 140737488355328 := by omega
      have hpn := put_new bid mid p (p ++ encB s) s o kvs 58 [.ptr sid 0] (C0.set sid (.cells 22 [bV (s, sn)])) _ hbm (by simp [s1', hCb.1]) (by simp [s2', hCb.2]) hPS2 (by rw [hk, hlook]; rfl) (by omega)
        (blobs1_ok p (s, sn) o sid _ _ hPS2 (by simp) (by omega) (by simp; omega))
      refine aCall.of hpn ?_ (fun _ _ h => h.elim)
      generalize hPE : p ++ encB s = pe at hpl1 hbp hel endNew hN
      rintro r σ2 ⟨tk, htk, rfl, rfl⟩
      have t1 : tk ≠ sid := by rintro rfl; simp [AS.set] at htk
      have t1' : sid ≠ tk := fun e => t1 e.symm
      have htk0 : C0 tk = none := by simpa [AS.set, t1] using htk
      have t2 : tk ≠ bid := by rintro rfl; rw [hCb.1] at htk0; cases htk0
      have t3 : tk ≠ mid := by rintro rfl; rw [hCb.2] at htk0; cases htk0
      have t2' : bid ≠ tk := fun e => t2 e.symm
      have t3' : mid ≠ tk := fun e => t3 e.symm
      have hC0sid : C0 sid = none := by
        cases hh : C0 sid with
        | none => rfl
        | some x => rw [hle _ _ hh] at hsid; cases hsid
      rcases hC with ⟨h0, rfl, rfl⟩ | ⟨tp, hi0, htp, q1, q2, rfl, rfl⟩
      · have hBsid : σ sid = none := by simpa [AS.set, s1, s2] using hC0sid
        have hBtk : σ tk = none := by simpa [AS.set, t2, t3] using htk0
        have hd0 : d = [] := List.length_eq_zero_iff.1 (by omega)
        subst hd0
        simp -implicitDefEqProofs
        intro tp
        intros
        have u1 : tp ≠ mid := by assumption
        have u2 : tp ≠ bid := by assumption
        have u3 : tp ≠ tk := by assumption
        have u5 : σ tp = none := by assumption
        have u3' : tk ≠ tp := fun e => u3 e.symm
        have u2' : bid ≠ tp := fun e => u2 e.symm
        have u1' : mid ≠ tp := fun e => u1 e.symm
        repeat (first
          | (with_reducible apply AWp.seq)
          | (with_reducible apply AWp.block)
          | ((with_reducible apply AWp.fork); simp -implicitDefEqProofs [bldC, u1, u2, u3, u1', u2', u3', t2, t2', t3, t3', hbm, hbm', hPE, hbp])
          | ((with_reducible apply AWp.region); simp -implicitDefEqProofs [bldC, u1, u2, u3, u1', u2', u3', t2, t2', t3, t3', hbm, hbm', hPE, hbp])
          | (with_reducible refine And.intro (by first | omega | assumption | decide) ?_)
          | ((with_reducible show condK _ _ _); simp -implicitDefEqProofs [bldC, u1, u2, u3, u1', u2', u3', t2, t2', t3, t3', hbm, hbm', hPE, hbp])
          | ((with_reducible show guardK _ _ _ _ _ _ _ _ _); simp -implicitDefEqProofs [bldC, u1, u2, u3, u1', u2', u3', t2, t2', t3, t3', hbm, hbm', hPE, hbp])
          | ((with_reducible apply AWp.ret); try simp -implicitDefEqProofs [bldC, u1, u2, u3, u1', u2', u3', t2, t2', t3, t3', hbm, hbm', hPE, hbp])
          | ((with_reducible apply AWp.skip); try simp -implicitDefEqProofs [bldC, u1, u2, u3, u1', u2', u3', t2, t2', t3, t3', hbm, hbm', hPE, hbp])
          | ((with_reducible apply AWp.exit); try simp -implicitDefEqProofs [bldC, u1, u2, u3, u1', u2', u3', t2, t2', t3, t3', hbm, hbm', hPE, hbp]))
        refine endNew tk tp hlook hN u5 u2 u1 hBtk u3' t2 t3 hel _ _ (FrWk.mk ?_) ?_
        · simp [wInc (show i < 4000000000000000000 by omega), plV, bV]
        · have := le_pt0 (B := σ) (a := .tok pe.length) (b := .tok (i + 1)) (c := bldC pe (.tok tk) mid) (d := .map (skvs (updS ⟨s.toArray⟩ (.sc (.int .i64 p.length)) kvs))) (c0 := bldC p o mid) (d0 := .map (skvs kvs)) (e := .cells 22 [bV (s, sn)]) u3' t2 t3 u2 u1 hbm hBsid s1 s2
          simpa [h0, bldC, bV] using this
      · have hBsid : σ sid = none := by
          have hstp : sid ≠ tp := by rintro rfl; simp [AS.set] at hC0sid
          simpa [AS.set, s1, s2, hstp] using hC0sid
        have t4 : tk ≠ tp := by rintro rfl; simp [AS.set] at htk0
        have t4' : tp ≠ tk := fun e => t4 e.symm
        have hBtk : σ tk = none := by simpa [AS.set, t2, t3, t4] using htk0
        have s3 : tp ≠ sid := by rintro rfl; simp [AS.set] at hC0sid
        have q1' : bid ≠ tp := fun e => q1 e.symm
        have q2' : mid ≠ tp := fun e => q2 e.symm
        simp -implicitDefEqProofs [plV, q1, q2, t4', s3, hd]
        refine ⟨by omega, ?_⟩
        repeat (first
          | (with_reducible apply AWp.seq)
          | (with_reducible apply AWp.block)
          | ((with_reducible apply AWp.fork); simp -implicitDefEqProofs [bldC, q1, q2, q1', q2', t4, t4', t2, t2', t3, t3', hbm, hbm', hPE, hbp])
          | ((with_reducible apply AWp.region); simp -implicitDefEqProofs [bldC, q1, q2, q1', q2', t4, t4', t2, t2', t3, t3', hbm, hbm', hPE, hbp])
          | (with_reducible refine And.intro (by first | omega | assumption | decide) ?_)
          | ((with_reducible show condK _ _ _); simp -implicitDefEqProofs [bldC, q1, q2, q1', q2', t4, t4', t2, t2', t3, t3', hbm, hbm', hPE, hbp])
          | ((with_reducible show guardK _ _ _ _ _ _ _ _ _); simp -implicitDefEqProofs [bldC, q1, q2, q1', q2', t4, t4', t2, t2', t3, t3', hbm, hbm', hPE, hbp])
          | ((with_reducible apply AWp.ret); try simp -implicitDefEqProofs [bldC, q1, q2, q1', q2', t4, t4', t2, t2', t3, t3', hbm, hbm', hPE, hbp])
          | ((with_reducible apply AWp.skip); try simp -implicitDefEqProofs [bldC, q1, q2, q1', q2', t4, t4', t2, t2', t3, t3', hbm, hbm', hPE, hbp])
          | ((with_reducible apply AWp.exit); try simp -implicitDefEqProofs [bldC, q1, q2, q1', q2', t4, t4', t2, t2', t3, t3', hbm, hbm', hPE, hbp]))
        refine endNew tk tp hlook hN htp q1 q2 hBtk t4 t2 t3 hel _ _ (FrWk.mk ?_) ?_
        · simp [wInc (show i < 4000000000000000000 by omega), plV, bV]
        · have := le_pt1 (B := σ) (a := .tok pe.length) (b := .tok (i + 1)) (b0 := .tok i) (c := bldC pe (.tok tk) mid) (d := .map (skvs (updS ⟨s.toArray⟩ (.sc (.int .i64 p.length)) kvs))) (c0 := bldC p o mid) (d0 := .map (skvs kvs)) (e := .cells 22 [bV (s, sn)]) t4 t2 t3 q1 q2 hbm hBsid s1 s2
          simpa [hd, bldC, bV] using this
  · have hI : ((i : Int) < l.length) = False := by simp; omega
    have hdr : l.drop i = [] := List.drop_eq_nil_of_le (by omega)
    rw [hdr] at hN
    simp only [List.map_nil, bmF] at hN
    rw [← hN]
    simp only
    repeat (first
      | (with_reducible apply AWp.seq)
      | (with_reducible apply AWp.block)
      | ((with_reducible apply AWp.fork); simp -implicitDefEqProofs [hI])
      | ((with_reducible apply AWp.region); simp -implicitDefEqProofs [hI])
      | (with_reducible refine And.intro (by first | omega | assumption | decide) ?_)
      | ((with_reducible show condK _ _ _); simp -implicitDefEqProofs [hI])
      | ((with_reducible show guardK _ _ _ _ _ _ _ _ _); simp -implicitDefEqProofs [hI])
      | ((with_reducible apply aCall.id); first
          | ((apply aCall.gives (done_ok' bid mid p o _ _ hσb (by omega) (by omega))); simp -implicitDefEqProofs [hI]))
      | ((with_reducible apply AWp.ret); try simp -implicitDefEqProofs [hI])
      | ((with_reducible apply AWp.skip); try simp -implicitDefEqProofs [hI])
      | ((with_reducible apply AWp.exit); try simp -implicitDefEqProofs [hI]))
    refine ⟨Wk_tup3 (by simp) ?_ (by simp), AS.le_trans ?_ hle⟩
    · rcases hC with ⟨h0, rfl, _⟩ | ⟨tp, hi0, _, _, _, rfl, _⟩
      · have h1 : d = [] := List.length_eq_zero_iff.1 (by omega)
        have h2 : l = [] := List.length_eq_zero_iff.1 (by omega)
        subst h1 h2
        simp
      · have h2 : decide (l = []) = false := by
          have : l ≠ [] := by rintro rfl; simp at hi; omega
          simp [this]
        rw [h2]
        simp [plV]
    · rcases hC with ⟨_, _, rfl⟩ | ⟨tp, _, ht, q1, q2, _, rfl⟩
      · exact le_new (by simp [*]) (le_new hmid (AS.le_refl _))
      · exact le_new (by simp [*]) (le_new (by simp [*]) (le_new hmid (AS.le_refl _)))

end Go.Proofs.Ytiojkpebjdifoaa
