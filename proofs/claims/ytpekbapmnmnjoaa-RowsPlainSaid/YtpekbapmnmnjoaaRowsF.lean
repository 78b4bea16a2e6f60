/- Chapter 04: the laws RowsReads, RowsBack, RowsPlain. -/
import Derived.Test.YtpekbapmnmnjoaaRowsE
set_option linter.unusedSimpArgs false
set_option linter.unusedVariables false
set_option maxRecDepth 100000
set_option maxHeartbeats 3200000
namespace Go.Proofs.Ytpekbapmnmnjoaa
open Go Go.AW

def toR (l : List (List Int)) : List (List Int × Bool) × Bool := (l.map fun r => (r, decide (r = [])), decide (l = []))
theorem pl_toR (T : List (List (List Int))) : pl (T.map toR) = T := by
  simp [pl, pl1, toR, List.map_map, Function.comp_def]
theorem tvR_tb (en : Int) (T : List (List (List Int))) : tvR (en, T) = tbV en (T.map toR) .unk false := by
  simp [tvR, tbV, toR, List.map_map, Function.comp_def]
theorem tabR_none : tabR none = tbV 0 [] .unk true := rfl
theorem gotV_none (a e : Int) : gotV (none, a, e) = .agg [.sc (.int .i64 0), .lst 69 (([] : Tab).map lV) .unk true, .sc (.int .i64 a), .sc (.int .i64 e)] := rfl
theorem gotV_some (en : Int) (T : List (List (List Int))) (a e : Int) : gotV (some (en, T), a, e) = .agg [.sc (.int .i64 en), .lst 69 ((T.map toR).map lV) .unk false, .sc (.int .i64 a), .sc (.int .i64 e)] := by
  simp [gotV, toR, List.map_map, Function.comp_def]

theorem er_num {b : List UInt8} {a n : Nat} {e : Int × Int} (h : rNum b a n = .error e) : e.2 ≠ 0 := by
  rw [(rNum_bad h).2]; simp
theorem er_row {b : List UInt8} {mk : Nat} : ∀ {ks : List UInt8} {a : Nat} {e : Int × Int}, rRow b mk ks a = .error e → e.2 ≠ 0 := by
  intro ks
  induction ks with
  | nil => intro a e h; cases h
  | cons k ks ih =>
    intro a e h
    rw [rRow] at h
    cases hN : rNum b a (wK k mk).toNat with
    | error e' => rw [hN] at h; cases h; exact er_num hN
    | ok z =>
      obtain ⟨v, a2⟩ := z
      rw [hN] at h
      simp only at h
      cases hR : rRow b mk ks a2 with
      | error e' => rw [hR] at h; cases h; exact ih hR
      | ok z => rw [hR] at h; cases h
theorem er_rows {b : List UInt8} {mk : Nat} {ks : List UInt8} : ∀ {n a : Nat} {e : Int × Int}, rRws b mk ks n a = .error e → e.2 ≠ 0 := by
  intro n
  induction n with
  | zero => intro a e h; cases h
  | succ n ih =>
    intro a e h
    rw [rRws] at h
    cases hN : rRow b mk ks a with
    | error e' => rw [hN] at h; cases h; exact er_row hN
    | ok z =>
      obtain ⟨v, a2⟩ := z
      rw [hN] at h
      simp only at h
      cases hR : rRws b mk ks n a2 with
      | error e' => rw [hR] at h; cases h; exact ih hR
      | ok z => rw [hR] at h; cases h
theorem er_tabs {b : List UInt8} {mk : Nat} : ∀ {cs : List Int} {t a : Nat} {e : Int × Int}, rTbs b mk cs t a = .error e → e.2 ≠ 0 := by
  intro cs
  induction cs with
  | nil => intro t a e h; cases h
  | cons c cs ih =>
    intro t a e h
    rw [rTbs] at h
    cases hN : rRws b mk (kindsL (t : Int)) c.toNat a with
    | error e' => rw [hN] at h; cases h; exact er_rows hN
    | ok z =>
      obtain ⟨v, a2⟩ := z
      rw [hN] at h
      simp only at h
      cases hR : rTbs b mk cs (t + 1) a2 with
      | error e' => rw [hR] at h; cases h; exact ih hR
      | ok z => rw [hR] at h; cases h
theorem er_cnt {b : List UInt8} {th : Nat} : ∀ {m t a : Nat} {e : Int × Int}, rCnt b th m t a = .error e → e.2 ≠ 0 := by
  intro m
  induction m with
  | zero => intro t a e h; cases h
  | succ m ih =>
    intro t a e h
    rw [rCnt] at h
    split at h
    · cases hN : rNum b a 2 with
      | error e' => rw [hN] at h; cases h; exact er_num hN
      | ok z =>
        obtain ⟨v, a2⟩ := z
        rw [hN] at h
        simp only at h
        cases hR : rCnt b th m (t + 1) a2 with
        | error e' => rw [hR] at h; cases h; exact ih hR
        | ok z => rw [hR] at h; cases h
    · cases hR : rCnt b th m (t + 1) a with
      | error e' => rw [hR] at h; cases h; exact ih hR
      | ok z => rw [hR] at h; cases h
theorem er_least {b : List UInt8} {a : Nat} {most : Int} {e : Int × Int} (h : rLeast b a most = .error e) : e.2 ≠ 0 := by
  rcases rLeast_bad h with h | ⟨h, _⟩
  · exact er_num h
  · rw [h]; simp
theorem er_all {b : List UInt8} {e : Int × Int} (hE : rAll b = .error e) : e.2 ≠ 0 := by
  unfold rAll at hE
  cases h1 : rLeast b 0 3 with
  | error e' => rw [h1] at hE; cases hE; exact er_least h1
  | ok z =>
    obtain ⟨mk, a1⟩ := z
    rw [h1] at hE
    simp only at hE
    cases h2 : rLeast b a1 63 with
    | error e' => rw [h2] at hE; cases hE; exact er_least h2
    | ok z =>
      obtain ⟨th, a2⟩ := z
      rw [h2] at hE
      simp only at hE
      cases h3 : rCnt b th.toNat 6 0 a2 with
      | error e' => rw [h3] at hE; cases hE; exact er_cnt h3
      | ok z =>
        obtain ⟨cs, a3⟩ := z
        rw [h3] at hE
        simp only at hE
        cases h4 : rNum b a3 2 with
        | error e' => rw [h4] at hE; cases hE; exact er_num h4
        | ok z =>
          obtain ⟨en', a4⟩ := z
          rw [h4] at hE
          simp only at hE
          cases h5 : rTbs b mk.toNat cs 0 a4 with
          | error e' => rw [h5] at hE; cases hE; exact er_tabs h5
          | ok z => rw [h5] at hE; cases hE
/-- What Read comes to: an error and no tables, or tables and no error. -/
theorem readR_two (b : List UInt8) : (∃ a e, readR b = (none, a, e) ∧ e ≠ 0) ∨ ∃ en T, readR b = (some (en, T), 0, 0) := by
  rcases readR_cases b with ⟨e, hE, hS⟩ | ⟨v, a, hE, ⟨_, hS⟩ | ⟨ha, hS⟩⟩
  · exact .inl ⟨_, _, hS, er_all hE⟩
  · exact .inl ⟨_, _, hS, by decide⟩
  · exact .inr ⟨v.1, v.2, hS⟩

theorem kinds_two {t : Nat} (h : t < 6) : 0 < (kindsL (t : Int)).length := by
  have : t = 0 ∨ t = 1 ∨ t = 2 ∨ t = 3 ∨ t = 4 ∨ t = 5 := by omega
  rcases this with rfl | rfl | rfl | rfl | rfl | rfl <;> decide
theorem rowB_two {ks : List UInt8} {r : List Int} (h : r.length = ks.length) (h0 : 0 < ks.length) : 2 ≤ (rowB ks r).length := by
  match ks, r, h with
  | k :: ks, x :: r, _ =>
    simp only [rowB, List.length_append, putB_length]
    rcases wK_24 k 0 with e | e <;> rw [e] <;> simp <;> omega
theorem tabB_two {t : Nat} (ht : t < 6) : ∀ {l : List (List Int)}, (∀ r ∈ l, r.length = (kindsL (t : Int)).length) → 2 * l.length ≤ (tabB t l).length := by
  intro l
  induction l with
  | nil => intro _; simp
  | cons r l ih =>
    intro h
    have h1 := rowB_two (h r (by simp)) (kinds_two ht)
    have h2 := ih fun r hr => h r (by simp [hr])
    simp only [tabB, List.flatMap_cons, List.length_append, List.length_cons] at h2 ⊢
    omega
theorem bodyB_two : ∀ {L : List (List (List Int))} {t : Nat}, t + L.length ≤ 6 → formF t L = true → ∀ l ∈ L, 2 * l.length ≤ (bodyB t L).length := by
  intro L
  induction L with
  | nil => intro t _ _ l hl; cases hl
  | cons x L ih =>
    intro t ht hF l hl
    simp only [formF, Bool.and_eq_true] at hF
    simp only [bodyB, List.length_append]
    simp only [List.length_cons] at ht
    rcases List.mem_cons.1 hl with rfl | hl
    · have := tabB_two (t := t) (by omega) (l := l) fun r hr => by simpa using List.all_eq_true.1 hF.1 r hr
      omega
    · have := ih (by omega) hF.2 l hl
      omega
theorem formF_row : ∀ {L : List (List (List Int))} {t : Nat}, formF t L = true → ∀ l ∈ L, ∀ r ∈ l, r.length ≤ 6 := by
  intro L
  induction L with
  | nil => intro t _ l hl; cases hl
  | cons x L ih =>
    intro t hF l hl r hr
    simp only [formF, Bool.and_eq_true] at hF
    rcases List.mem_cons.1 hl with rfl | hl
    · have h1 : r.length = (kindsL (t : Int)).length := by simpa using List.all_eq_true.1 hF.1 r hr
      have := kinds_len (t : Int)
      omega
    · exact ih hF.2 l hl r hr
theorem toR_bounds {T : List (List (List Int))} (hF : formedS T = true) {m : Nat} (hl : ∀ l ∈ T, l.length ≤ m) :
    (T.map toR).length = 6 ∧ (∀ x ∈ T.map toR, x.1.length ≤ m) ∧ ∀ x ∈ T.map toR, ∀ y ∈ x.1, y.1.length ≤ 6 := by
  simp only [formedS, Bool.and_eq_true, decide_eq_true_eq] at hF
  refine ⟨by simp [hF.1], fun x hx => ?_, fun x hx y hy => ?_⟩
  · obtain ⟨l, h1, rfl⟩ := List.mem_map.1 hx
    simpa [toR] using hl l h1
  · obtain ⟨l, h1, rfl⟩ := List.mem_map.1 hx
    simp only [toR] at hy
    obtain ⟨r, h2, rfl⟩ := List.mem_map.1 hy
    exact formF_row hF.2 l h1 r h2

theorem rowsReads_ok (b : List UInt8) (own : Own) (nl : Bool) (hn : nl = true → b = []) (hlen : b.length ≤ 140737488355328) :
    ACalls Try.prog 11 [.lst 5 (b.map u8) own nl] noAS IsTrue No := by
  have hw := fun σ => rwakes_ok σ
  by_cases h3 : 3000 < b.length
  · have h3' : (3000 < (b.length : Int)) = True := by simp; omega
    refine ACalls.of_body Try.func11 rfl rfl (by simp [Try.ntmps11]) ?_
    repeat (first
      | (with_reducible apply AWp.seq)
      | (with_reducible apply AWp.block)
      | ((with_reducible apply AWp.fork); simp -implicitDefEqProofs [h3'])
      | ((with_reducible apply AWp.region); simp -implicitDefEqProofs [h3'])
      | (with_reducible refine And.intro (by first | omega | assumption | decide) ?_)
      | ((with_reducible show condK _ _ _); simp -implicitDefEqProofs [h3'])
      | ((with_reducible show guardK _ _ _ _ _ _ _ _ _); simp -implicitDefEqProofs [h3'])
      | ((with_reducible apply aCall.id); first
          | ((apply aCall.gives (hw _)); simp -implicitDefEqProofs [h3']))
      | ((with_reducible apply AWp.ret); try simp -implicitDefEqProofs [h3'])
      | ((with_reducible apply AWp.skip); try simp -implicitDefEqProofs [h3'])
      | ((with_reducible apply AWp.exit); try simp -implicitDefEqProofs [h3']))
  have h3' : (3000 < (b.length : Int)) = False := by simp; omega
  have hr := fun tk σ => wread_ok b (.tok tk) false (by simp) (by omega) σ
  have hd := fun σ => rread_any b own nl (by omega) σ
  rcases readR_two b with ⟨a, e, hE, he⟩ | ⟨en, T, hE⟩
  · rw [hE] at hr hd
    have hs := fun σ => rsame_ok 0 0 [] [] .unk .unk true true (by simp) (by simp) (by simp) (by simp) (by simp) (by simp) σ
    rw [tabR_none] at hr
    rw [gotV_none] at hd
    simp only [tbV, List.map_nil] at hr hd hs
    simp at hs
    refine ACalls.of_body Try.func11 rfl rfl (by simp [Try.ntmps11]) ?_
    repeat (first
      | (with_reducible apply AWp.seq)
      | (with_reducible apply AWp.block)
      | ((with_reducible apply AWp.fork); simp -implicitDefEqProofs [h3'])
      | ((with_reducible apply AWp.region); simp -implicitDefEqProofs [h3'])
      | (with_reducible refine And.intro (by first | omega | assumption | decide) ?_)
      | ((with_reducible show condK _ _ _); simp -implicitDefEqProofs [h3'])
      | ((with_reducible show guardK _ _ _ _ _ _ _ _ _); simp -implicitDefEqProofs [h3'])
      | ((with_reducible apply aCall.id); first
          | ((apply aCall.gives (hw _)); simp -implicitDefEqProofs [h3']))
      | ((with_reducible apply AWp.ret); try simp -implicitDefEqProofs [h3'])
      | ((with_reducible apply AWp.skip); try simp -implicitDefEqProofs [h3'])
      | ((with_reducible apply AWp.exit); try simp -implicitDefEqProofs [h3']))
    intro tk htk
    repeat (first
      | (with_reducible apply AWp.seq)
      | (with_reducible apply AWp.block)
      | ((with_reducible apply AWp.fork); simp -implicitDefEqProofs)
      | ((with_reducible apply AWp.region); simp -implicitDefEqProofs)
      | (with_reducible refine And.intro (by first | omega | assumption | decide) ?_)
      | ((with_reducible apply aCall.id); first
          | ((apply aCall.gives (hr _ _)); simp -implicitDefEqProofs)
          | ((apply aCall.gives (hd _)); simp -implicitDefEqProofs))
      | ((with_reducible apply AWp.ret); try simp -implicitDefEqProofs)
      | ((with_reducible apply AWp.skip); try simp -implicitDefEqProofs)
      | ((with_reducible apply AWp.exit); try simp -implicitDefEqProofs))
    intro id4 n_id4_tk h_id4
    have n_tk_id4 : ¬ tk = id4 := fun e => n_id4_tk e.symm
    repeat (first
      | (with_reducible apply AWp.seq)
      | (with_reducible apply AWp.block)
      | ((with_reducible apply AWp.fork); simp -implicitDefEqProofs [n_id4_tk, n_tk_id4])
      | ((with_reducible apply AWp.region); simp -implicitDefEqProofs [n_id4_tk, n_tk_id4])
      | (with_reducible refine And.intro (by first | omega | assumption | decide) ?_)
      | ((with_reducible show condK _ _ _); simp -implicitDefEqProofs [n_id4_tk, n_tk_id4])
      | ((with_reducible show guardK _ _ _ _ _ _ _ _ _); simp -implicitDefEqProofs [n_id4_tk, n_tk_id4])
      | ((with_reducible apply aCall.id); first
          | ((apply aCall.gives (hd _)); simp -implicitDefEqProofs [n_id4_tk, n_tk_id4]))
      | ((with_reducible apply AWp.ret); try simp -implicitDefEqProofs [n_id4_tk, n_tk_id4])
      | ((with_reducible apply AWp.skip); try simp -implicitDefEqProofs [n_id4_tk, n_tk_id4])
      | ((with_reducible apply AWp.exit); try simp -implicitDefEqProofs [n_id4_tk, n_tk_id4]))
    intro id6 n_id6_id4 n_id6_tk h_id6
    have n_id4_id6 : ¬ id4 = id6 := fun e => n_id6_id4 e.symm
    have n_tk_id6 : ¬ tk = id6 := fun e => n_id6_tk e.symm
    repeat (first
      | (with_reducible apply AWp.seq)
      | (with_reducible apply AWp.block)
      | ((with_reducible apply AWp.fork); simp -implicitDefEqProofs [n_id4_tk, n_tk_id4, n_id6_id4, n_id4_id6, n_id6_tk, n_tk_id6])
      | ((with_reducible apply AWp.region); simp -implicitDefEqProofs [n_id4_tk, n_tk_id4, n_id6_id4, n_id4_id6, n_id6_tk, n_tk_id6])
      | (with_reducible refine And.intro (by first | omega | assumption | decide) ?_)
      | ((with_reducible show condK _ _ _); simp -implicitDefEqProofs [n_id4_tk, n_tk_id4, n_id6_id4, n_id4_id6, n_id6_tk, n_tk_id6])
      | ((with_reducible show guardK _ _ _ _ _ _ _ _ _); simp -implicitDefEqProofs [n_id4_tk, n_tk_id4, n_id6_id4, n_id4_id6, n_id6_tk, n_tk_id6])
      | ((with_reducible apply aCall.id); first
          | ((apply aCall.gives (hs _)); simp -implicitDefEqProofs [n_id4_tk, n_tk_id4, n_id6_id4, n_id4_id6, n_id6_tk, n_tk_id6]))
      | ((with_reducible apply AWp.ret); try simp -implicitDefEqProofs [n_id4_tk, n_tk_id4, n_id6_id4, n_id4_id6, n_id6_tk, n_tk_id6])
      | ((with_reducible apply AWp.skip); try simp -implicitDefEqProofs [n_id4_tk, n_tk_id4, n_id6_id4, n_id4_id6, n_id6_tk, n_tk_id6])
      | ((with_reducible apply AWp.exit); try simp -implicitDefEqProofs [n_id4_tk, n_tk_id4, n_id6_id4, n_id4_id6, n_id6_tk, n_tk_id6]))
  · obtain ⟨p1, p2, p3, p4, p5, p6⟩ := read_plain hE
    obtain ⟨t1, t2, t3⟩ := toR_bounds p1 p4
    rw [hE] at hr hd
    have hs := fun σ => rsame_ok en en (T.map toR) (T.map toR) .unk .unk false false (by omega) (fun x hx => by have := t2 x hx; omega) (fun x hx y hy => by have := t3 x hx y hy; omega) (by omega) (fun x hx => by have := t2 x hx; omega) (fun x hx y hy => by have := t3 x hx y hy; omega) σ
    simp only [tabR, tvR_tb] at hr
    rw [gotV_some] at hd
    generalize T.map toR = R at *
    simp only [tbV] at hr hd hs
    simp at hs
    refine ACalls.of_body Try.func11 rfl rfl (by simp [Try.ntmps11]) ?_
    repeat (first
      | (with_reducible apply AWp.seq)
      | (with_reducible apply AWp.block)
      | ((with_reducible apply AWp.fork); simp -implicitDefEqProofs [h3'])
      | ((with_reducible apply AWp.region); simp -implicitDefEqProofs [h3'])
      | (with_reducible refine And.intro (by first | omega | assumption | decide) ?_)
      | ((with_reducible show condK _ _ _); simp -implicitDefEqProofs [h3'])
      | ((with_reducible show guardK _ _ _ _ _ _ _ _ _); simp -implicitDefEqProofs [h3'])
      | ((with_reducible apply aCall.id); first
          | ((apply aCall.gives (hw _)); simp -implicitDefEqProofs [h3']))
      | ((with_reducible apply AWp.ret); try simp -implicitDefEqProofs [h3'])
      | ((with_reducible apply AWp.skip); try simp -implicitDefEqProofs [h3'])
      | ((with_reducible apply AWp.exit); try simp -implicitDefEqProofs [h3']))
    intro tk htk
    repeat (first
      | (with_reducible apply AWp.seq)
      | (with_reducible apply AWp.block)
      | ((with_reducible apply AWp.fork); simp -implicitDefEqProofs)
      | ((with_reducible apply AWp.region); simp -implicitDefEqProofs)
      | (with_reducible refine And.intro (by first | omega | assumption | decide) ?_)
      | ((with_reducible apply aCall.id); first
          | ((apply aCall.gives (hr _ _)); simp -implicitDefEqProofs)
          | ((apply aCall.gives (hd _)); simp -implicitDefEqProofs))
      | ((with_reducible apply AWp.ret); try simp -implicitDefEqProofs)
      | ((with_reducible apply AWp.skip); try simp -implicitDefEqProofs)
      | ((with_reducible apply AWp.exit); try simp -implicitDefEqProofs))
    intro id4 n_id4_tk h_id4
    have n_tk_id4 : ¬ tk = id4 := fun e => n_id4_tk e.symm
    repeat (first
      | (with_reducible apply AWp.seq)
      | (with_reducible apply AWp.block)
      | ((with_reducible apply AWp.fork); simp -implicitDefEqProofs [n_id4_tk, n_tk_id4])
      | ((with_reducible apply AWp.region); simp -implicitDefEqProofs [n_id4_tk, n_tk_id4])
      | (with_reducible refine And.intro (by first | omega | assumption | decide) ?_)
      | ((with_reducible show condK _ _ _); simp -implicitDefEqProofs [n_id4_tk, n_tk_id4])
      | ((with_reducible show guardK _ _ _ _ _ _ _ _ _); simp -implicitDefEqProofs [n_id4_tk, n_tk_id4])
      | ((with_reducible apply aCall.id); first
          | ((apply aCall.gives (hd _)); simp -implicitDefEqProofs [n_id4_tk, n_tk_id4]))
      | ((with_reducible apply AWp.ret); try simp -implicitDefEqProofs [n_id4_tk, n_tk_id4])
      | ((with_reducible apply AWp.skip); try simp -implicitDefEqProofs [n_id4_tk, n_tk_id4])
      | ((with_reducible apply AWp.exit); try simp -implicitDefEqProofs [n_id4_tk, n_tk_id4]))
    intro id6 n_id6_id4 n_id6_tk h_id6
    have n_id4_id6 : ¬ id4 = id6 := fun e => n_id6_id4 e.symm
    have n_tk_id6 : ¬ tk = id6 := fun e => n_id6_tk e.symm
    repeat (first
      | (with_reducible apply AWp.seq)
      | (with_reducible apply AWp.block)
      | ((with_reducible apply AWp.fork); simp -implicitDefEqProofs [n_id4_tk, n_tk_id4, n_id6_id4, n_id4_id6, n_id6_tk, n_tk_id6])
      | ((with_reducible apply AWp.region); simp -implicitDefEqProofs [n_id4_tk, n_tk_id4, n_id6_id4, n_id4_id6, n_id6_tk, n_tk_id6])
      | (with_reducible refine And.intro (by first | omega | assumption | decide) ?_)
      | ((with_reducible show condK _ _ _); simp -implicitDefEqProofs [n_id4_tk, n_tk_id4, n_id6_id4, n_id4_id6, n_id6_tk, n_tk_id6])
      | ((with_reducible show guardK _ _ _ _ _ _ _ _ _); simp -implicitDefEqProofs [n_id4_tk, n_tk_id4, n_id6_id4, n_id4_id6, n_id6_tk, n_tk_id6])
      | ((with_reducible apply aCall.id); first
          | ((apply aCall.gives (hs _)); simp -implicitDefEqProofs [n_id4_tk, n_tk_id4, n_id6_id4, n_id4_id6, n_id6_tk, n_tk_id6]))
      | ((with_reducible apply AWp.ret); try simp -implicitDefEqProofs [n_id4_tk, n_tk_id4, n_id6_id4, n_id4_id6, n_id6_tk, n_tk_id6])
      | ((with_reducible apply AWp.skip); try simp -implicitDefEqProofs [n_id4_tk, n_tk_id4, n_id6_id4, n_id4_id6, n_id6_tk, n_tk_id6])
      | ((with_reducible apply AWp.exit); try simp -implicitDefEqProofs [n_id4_tk, n_tk_id4, n_id6_id4, n_id4_id6, n_id6_tk, n_tk_id6]))

theorem rowsBack_ok (en : Int) (R : Tab) (nl : Bool) (hR : R.length ≤ 140737488355328) (hr : ∀ x ∈ R, x.1.length ≤ 140737488355328) (hc : ∀ x ∈ R, ∀ y ∈ x.1, y.1.length ≤ 140737488355328) :
    ACalls Try.prog 12 [tbV en R .unk nl] noAS IsTrue No := by
  have hl := fun σ => rlong_ok en R .unk nl hR hr hc σ
  cases hL : longT R with
  | true =>
    rw [hL] at hl
    simp only [tbV] at hl ⊢
    refine ACalls.of_body Try.func12 rfl rfl (by simp [Try.ntmps12]) ?_
    repeat (first
      | (with_reducible apply AWp.seq)
      | (with_reducible apply AWp.block)
      | ((with_reducible apply AWp.fork); simp -implicitDefEqProofs)
      | ((with_reducible apply AWp.region); simp -implicitDefEqProofs)
      | (with_reducible refine And.intro (by first | omega | assumption | decide) ?_)
      | ((with_reducible apply AWp.ret); try simp -implicitDefEqProofs)
      | ((with_reducible apply AWp.skip); try simp -implicitDefEqProofs)
      | ((with_reducible apply AWp.exit); try simp -implicitDefEqProofs))
    intro id1 h_id1
    repeat (first
      | (with_reducible apply AWp.seq)
      | (with_reducible apply AWp.block)
      | ((with_reducible apply AWp.fork); simp -implicitDefEqProofs)
      | ((with_reducible apply AWp.region); simp -implicitDefEqProofs)
      | (with_reducible refine And.intro (by first | omega | assumption | decide) ?_)
      | ((with_reducible apply aCall.id); first
          | ((apply aCall.gives (rwakes_ok _)); simp -implicitDefEqProofs)
          | ((apply aCall.gives (hl _)); simp -implicitDefEqProofs))
      | ((with_reducible apply AWp.ret); try simp -implicitDefEqProofs)
      | ((with_reducible apply AWp.skip); try simp -implicitDefEqProofs)
      | ((with_reducible apply AWp.exit); try simp -implicitDefEqProofs))
  | false =>
    obtain ⟨b1, b2, b3⟩ := longT_no hL
    have hco := fun σ => copied_ok en R .unk nl b1 b2 b3 σ
    have hpc := pl_cpT R
    have c1 : (R.map cpT).length ≤ 20 := by simpa using b1
    have c2 : ∀ x ∈ R.map cpT, x.1.length ≤ 100 := by
      intro x hx
      obtain ⟨y, hy, rfl⟩ := List.mem_map.1 hx
      simpa [cpT] using b2 y hy
    have c3 : ∀ x ∈ R.map cpT, ∀ y ∈ x.1, y.1.length ≤ 20 := by
      intro x hx y hy
      obtain ⟨z, hz, rfl⟩ := List.mem_map.1 hx
      simp only [cpT] at hy
      obtain ⟨u, hu, rfl⟩ := List.mem_map.1 hy
      exact b3 z hz u hu
    generalize R.map cpT = S at *
    rw [hL] at hl
    cases hF : formedS (pl R) with
    | false =>
      have hw := fun σ => write_arg en S .unk (decide (R = [])) (by omega) (fun x hx => by have := c2 x hx; omega) (fun x hx y hy => by have := c3 x hx y hy; omega) (by rw [hpc]; exact hF) σ
      simp only [tbV] at hl hco hw ⊢
      refine ACalls.of_body Try.func12 rfl rfl (by simp [Try.ntmps12]) ?_
      repeat (first
        | (with_reducible apply AWp.seq)
        | (with_reducible apply AWp.block)
        | ((with_reducible apply AWp.fork); simp -implicitDefEqProofs)
        | ((with_reducible apply AWp.region); simp -implicitDefEqProofs)
        | (with_reducible refine And.intro (by first | omega | assumption | decide) ?_)
        | ((with_reducible apply AWp.ret); try simp -implicitDefEqProofs)
        | ((with_reducible apply AWp.skip); try simp -implicitDefEqProofs)
        | ((with_reducible apply AWp.exit); try simp -implicitDefEqProofs))
      intro id1 h_id1
      repeat (first
        | (with_reducible apply AWp.seq)
        | (with_reducible apply AWp.block)
        | ((with_reducible apply AWp.fork); simp -implicitDefEqProofs)
        | ((with_reducible apply AWp.region); simp -implicitDefEqProofs)
        | (with_reducible refine And.intro (by first | omega | assumption | decide) ?_)
        | ((with_reducible apply aCall.id); first
            | ((apply aCall.gives (rwakes_ok _)); simp -implicitDefEqProofs)
            | ((apply aCall.gives (hl _)); simp -implicitDefEqProofs)
            | ((apply aCall.gives (hco _)); simp -implicitDefEqProofs)
            | ((apply aCall.gives (hw _)); simp -implicitDefEqProofs))
        | ((with_reducible apply AWp.ret); try simp -implicitDefEqProofs)
        | ((with_reducible apply AWp.skip); try simp -implicitDefEqProofs)
        | ((with_reducible apply AWp.exit); try simp -implicitDefEqProofs))
    | true =>
      cases hW : okW (pl R) en with
      | false =>
        have hw := fun σ => write_badE en S .unk (decide (R = [])) (fun x hx => by have := c2 x hx; omega) (fun x hx y hy => by have := c3 x hx y hy; omega) (by rw [hpc]; exact hF) (by rw [hpc]; exact hW) σ
        simp only [tbV] at hl hco hw ⊢
        refine ACalls.of_body Try.func12 rfl rfl (by simp [Try.ntmps12]) ?_
        repeat (first
          | (with_reducible apply AWp.seq)
          | (with_reducible apply AWp.block)
          | ((with_reducible apply AWp.fork); simp -implicitDefEqProofs)
          | ((with_reducible apply AWp.region); simp -implicitDefEqProofs)
          | (with_reducible refine And.intro (by first | omega | assumption | decide) ?_)
          | ((with_reducible apply AWp.ret); try simp -implicitDefEqProofs)
          | ((with_reducible apply AWp.skip); try simp -implicitDefEqProofs)
          | ((with_reducible apply AWp.exit); try simp -implicitDefEqProofs))
        intro id1 h_id1
        repeat (first
          | (with_reducible apply AWp.seq)
          | (with_reducible apply AWp.block)
          | ((with_reducible apply AWp.fork); simp -implicitDefEqProofs)
          | ((with_reducible apply AWp.region); simp -implicitDefEqProofs)
          | (with_reducible refine And.intro (by first | omega | assumption | decide) ?_)
          | ((with_reducible apply aCall.id); first
              | ((apply aCall.gives (rwakes_ok _)); simp -implicitDefEqProofs)
              | ((apply aCall.gives (hl _)); simp -implicitDefEqProofs)
              | ((apply aCall.gives (hco _)); simp -implicitDefEqProofs)
              | ((apply aCall.gives (hw _)); simp -implicitDefEqProofs))
          | ((with_reducible apply AWp.ret); try simp -implicitDefEqProofs)
          | ((with_reducible apply AWp.skip); try simp -implicitDefEqProofs)
          | ((with_reducible apply AWp.exit); try simp -implicitDefEqProofs))
      | true =>
        have hw := fun σ => write_okE en S .unk (decide (R = [])) (fun x hx => by have := c2 x hx; omega) (fun x hx y hy => by have := c3 x hx y hy; omega) (by rw [hpc]; exact hF) (by rw [hpc]; exact hW) σ
        rw [hpc] at hw
        have hlen : (writeW (pl R) en).length ≤ 100000 := writeW_len (R := R) (en := en) b1 b2
        have hpb : ∀ l ∈ pl R, l.length ≤ 100 := fun l hl => by
          obtain ⟨x, hx, rfl⟩ := List.mem_map.1 hl
          simpa [pl1] using b2 x hx
        have hE := read_write hF hW (fun l hl => by have := hpb l hl; omega)
        obtain ⟨t1, t2, t3⟩ := toR_bounds hF hpb
        have hrd := fun tk σ => wread_ok (writeW (pl R) en) (.tok tk) false (by simp) hlen σ
        rw [hE] at hrd
        have hs := fun σ => rsame_ok en en ((pl R).map toR) R .unk .unk false nl (by omega) (fun x hx => by have := t2 x hx; omega) (fun x hx y hy => by have := t3 x hx y hy; omega) hR hr hc σ
        rw [pl_toR] at hs
        simp only [tabR, tvR_tb] at hrd
        generalize (pl R).map toR = R2 at *
        generalize writeW (pl R) en = W at *
        simp only [tbV] at hl hco hs hw hrd ⊢
        simp at hs
        refine ACalls.of_body Try.func12 rfl rfl (by simp [Try.ntmps12]) ?_
        repeat (first
          | (with_reducible apply AWp.seq)
          | (with_reducible apply AWp.block)
          | ((with_reducible apply AWp.fork); simp -implicitDefEqProofs)
          | ((with_reducible apply AWp.region); simp -implicitDefEqProofs)
          | (with_reducible refine And.intro (by first | omega | assumption | decide) ?_)
          | ((with_reducible apply AWp.ret); try simp -implicitDefEqProofs)
          | ((with_reducible apply AWp.skip); try simp -implicitDefEqProofs)
          | ((with_reducible apply AWp.exit); try simp -implicitDefEqProofs))
        intro id1 h_id1
        repeat (first
          | (with_reducible apply AWp.seq)
          | (with_reducible apply AWp.block)
          | ((with_reducible apply AWp.fork); simp -implicitDefEqProofs)
          | ((with_reducible apply AWp.region); simp -implicitDefEqProofs)
          | (with_reducible refine And.intro (by first | omega | assumption | decide) ?_)
          | ((with_reducible apply aCall.id); first
              | ((apply aCall.gives (rwakes_ok _)); simp -implicitDefEqProofs)
              | ((apply aCall.gives (hl _)); simp -implicitDefEqProofs)
              | ((apply aCall.gives (hco _)); simp -implicitDefEqProofs)
              | ((apply aCall.owns (hw _)); simp -implicitDefEqProofs))
          | ((with_reducible apply AWp.ret); try simp -implicitDefEqProofs)
          | ((with_reducible apply AWp.skip); try simp -implicitDefEqProofs)
          | ((with_reducible apply AWp.exit); try simp -implicitDefEqProofs))
        intro tk n_tk_id1 h_tk
        have n_id1_tk : ¬ id1 = tk := fun e => n_tk_id1 e.symm
        repeat (first
          | (with_reducible apply AWp.seq)
          | (with_reducible apply AWp.block)
          | ((with_reducible apply AWp.fork); simp -implicitDefEqProofs [n_tk_id1, n_id1_tk])
          | ((with_reducible apply AWp.region); simp -implicitDefEqProofs [n_tk_id1, n_id1_tk])
          | (with_reducible refine And.intro (by first | omega | assumption | decide) ?_)
          | ((with_reducible show condK _ _ _); simp -implicitDefEqProofs [n_tk_id1, n_id1_tk])
          | ((with_reducible show guardK _ _ _ _ _ _ _ _ _); simp -implicitDefEqProofs [n_tk_id1, n_id1_tk])
          | ((with_reducible apply aCall.id); first
              | ((apply aCall.gives (hrd _ _)); simp -implicitDefEqProofs [n_tk_id1, n_id1_tk])
              | ((apply aCall.gives (hs _)); simp -implicitDefEqProofs [n_tk_id1, n_id1_tk]))
          | ((with_reducible apply AWp.ret); try simp -implicitDefEqProofs [n_tk_id1, n_id1_tk])
          | ((with_reducible apply AWp.skip); try simp -implicitDefEqProofs [n_tk_id1, n_id1_tk])
          | ((with_reducible apply AWp.exit); try simp -implicitDefEqProofs [n_tk_id1, n_id1_tk]))
        intro id5 n_id5_tk n_id5_id1 h_id5
        have n_tk_id5 : ¬ tk = id5 := fun e => n_id5_tk e.symm
        have n_id1_id5 : ¬ id1 = id5 := fun e => n_id5_id1 e.symm
        repeat (first
          | (with_reducible apply AWp.seq)
          | (with_reducible apply AWp.block)
          | ((with_reducible apply AWp.fork); simp -implicitDefEqProofs [n_tk_id1, n_id1_tk, n_id5_tk, n_tk_id5, n_id5_id1, n_id1_id5])
          | ((with_reducible apply AWp.region); simp -implicitDefEqProofs [n_tk_id1, n_id1_tk, n_id5_tk, n_tk_id5, n_id5_id1, n_id1_id5])
          | (with_reducible refine And.intro (by first | omega | assumption | decide) ?_)
          | ((with_reducible show condK _ _ _); simp -implicitDefEqProofs [n_tk_id1, n_id1_tk, n_id5_tk, n_tk_id5, n_id5_id1, n_id1_id5])
          | ((with_reducible show guardK _ _ _ _ _ _ _ _ _); simp -implicitDefEqProofs [n_tk_id1, n_id1_tk, n_id5_tk, n_tk_id5, n_id5_id1, n_id1_id5])
          | ((with_reducible apply aCall.id); first
              | ((apply aCall.gives (hs _)); simp -implicitDefEqProofs [n_tk_id1, n_id1_tk, n_id5_tk, n_tk_id5, n_id5_id1, n_id1_id5]))
          | ((with_reducible apply AWp.ret); try simp -implicitDefEqProofs [n_tk_id1, n_id1_tk, n_id5_tk, n_tk_id5, n_id5_id1, n_id1_id5])
          | ((with_reducible apply AWp.skip); try simp -implicitDefEqProofs [n_tk_id1, n_id1_tk, n_id5_tk, n_tk_id5, n_id5_id1, n_id1_id5])
          | ((with_reducible apply AWp.exit); try simp -implicitDefEqProofs [n_tk_id1, n_id1_tk, n_id5_tk, n_tk_id5, n_id5_id1, n_id1_id5]))

theorem rowsPlain_ok (b : List UInt8) (own : Own) (nl : Bool) (hn : nl = true → b = []) (hlen : b.length ≤ 140737488355328) :
    ACalls Try.prog 13 [.lst 5 (b.map u8) own nl] noAS IsTrue No := by
  have hw := fun σ => rwakes_ok σ
  by_cases h3 : 3000 < b.length
  · have h3' : (3000 < (b.length : Int)) = True := by simp; omega
    refine ACalls.of_body Try.func13 rfl rfl (by simp [Try.ntmps13]) ?_
    repeat (first
      | (with_reducible apply AWp.seq)
      | (with_reducible apply AWp.block)
      | ((with_reducible apply AWp.fork); simp -implicitDefEqProofs [h3'])
      | ((with_reducible apply AWp.region); simp -implicitDefEqProofs [h3'])
      | (with_reducible refine And.intro (by first | omega | assumption | decide) ?_)
      | ((with_reducible show condK _ _ _); simp -implicitDefEqProofs [h3'])
      | ((with_reducible show guardK _ _ _ _ _ _ _ _ _); simp -implicitDefEqProofs [h3'])
      | ((with_reducible apply aCall.id); first
          | ((apply aCall.gives (hw _)); simp -implicitDefEqProofs [h3']))
      | ((with_reducible apply AWp.ret); try simp -implicitDefEqProofs [h3'])
      | ((with_reducible apply AWp.skip); try simp -implicitDefEqProofs [h3'])
      | ((with_reducible apply AWp.exit); try simp -implicitDefEqProofs [h3']))
  have h3' : (3000 < (b.length : Int)) = False := by simp; omega
  have hr := fun σ => wread_ok b own nl hn (by omega) σ
  rcases readR_two b with ⟨a, e, hE, he⟩ | ⟨en, T, hE⟩
  · rw [hE] at hr
    simp only [tabR_none, tbV, List.map_nil] at hr
    refine ACalls.of_body Try.func13 rfl rfl (by simp [Try.ntmps13]) ?_
    repeat (first
      | (with_reducible apply AWp.seq)
      | (with_reducible apply AWp.block)
      | ((with_reducible apply AWp.fork); simp -implicitDefEqProofs [h3', he])
      | ((with_reducible apply AWp.region); simp -implicitDefEqProofs [h3', he])
      | (with_reducible refine And.intro (by first | omega | assumption | decide) ?_)
      | ((with_reducible show condK _ _ _); simp -implicitDefEqProofs [h3', he])
      | ((with_reducible show guardK _ _ _ _ _ _ _ _ _); simp -implicitDefEqProofs [h3', he])
      | ((with_reducible apply aCall.id); first
          | ((apply aCall.gives (hw _)); simp -implicitDefEqProofs [h3', he])
          | ((apply aCall.gives (hr _)); simp -implicitDefEqProofs [h3', he]))
      | ((with_reducible apply AWp.ret); try simp -implicitDefEqProofs [h3', he])
      | ((with_reducible apply AWp.skip); try simp -implicitDefEqProofs [h3', he])
      | ((with_reducible apply AWp.exit); try simp -implicitDefEqProofs [h3', he]))
    intro id2 h_id2
    repeat (first
      | (with_reducible apply AWp.seq)
      | (with_reducible apply AWp.block)
      | ((with_reducible apply AWp.fork); simp -implicitDefEqProofs [h3', he])
      | ((with_reducible apply AWp.region); simp -implicitDefEqProofs [h3', he])
      | (with_reducible refine And.intro (by first | omega | assumption | decide) ?_)
      | ((with_reducible show condK _ _ _); simp -implicitDefEqProofs [h3', he])
      | ((with_reducible show guardK _ _ _ _ _ _ _ _ _); simp -implicitDefEqProofs [h3', he])
      | ((with_reducible apply aCall.id); first
          | ((apply aCall.gives (hw _)); simp -implicitDefEqProofs [h3', he])
          | ((apply aCall.gives (hr _)); simp -implicitDefEqProofs [h3', he]))
      | ((with_reducible apply AWp.ret); try simp -implicitDefEqProofs [h3', he])
      | ((with_reducible apply AWp.skip); try simp -implicitDefEqProofs [h3', he])
      | ((with_reducible apply AWp.exit); try simp -implicitDefEqProofs [h3', he]))
  · obtain ⟨p1, p2, p3, p4, p5, p6⟩ := read_plain hE
    have p7 : ∀ l ∈ T, l.length ≤ 1500 := fun l hl => by
      have q := p1
      simp only [formedS, Bool.and_eq_true, decide_eq_true_eq] at q
      have h1 := bodyB_two (L := T) (t := 0) (by omega) q.2 l hl
      simp only [writeW, List.length_append] at p2
      omega
    obtain ⟨t1, t2, t3⟩ := toR_bounds p1 p7
    rw [hE] at hr
    simp only [tabR, tvR_tb] at hr
    cases hW : okW T en with
    | false =>
      have hwr := fun σ => write_badE en (T.map toR) .unk false t2 (fun x hx y hy => by have := t3 x hx y hy; omega) (by rw [pl_toR]; exact p1) (by rw [pl_toR]; exact hW) σ
      have hb0 : 0 < b[0].toNat := by
        rcases Nat.eq_zero_or_pos b[0].toNat with h | h
        · have : b.getD 0 0 = 0 := by
            rw [List.getD_eq_getElem?_getD, List.getElem?_eq_getElem p6]
            exact UInt8.toNat_inj.1 h
          rw [p3 this] at hW; cases hW
        · exact h
      have hb0' : (0 < (b[0].toNat : Int)) = True := by simp; omega
      generalize T.map toR = R at *
      simp only [tbV] at hr hwr
      refine ACalls.of_body Try.func13 rfl rfl (by simp [Try.ntmps13]) ?_
      repeat (first
        | (with_reducible apply AWp.seq)
        | (with_reducible apply AWp.block)
        | ((with_reducible apply AWp.fork); simp -implicitDefEqProofs [h3'])
        | ((with_reducible apply AWp.region); simp -implicitDefEqProofs [h3'])
        | (with_reducible refine And.intro (by first | omega | assumption | decide) ?_)
        | ((with_reducible show condK _ _ _); simp -implicitDefEqProofs [h3'])
        | ((with_reducible show guardK _ _ _ _ _ _ _ _ _); simp -implicitDefEqProofs [h3'])
        | ((with_reducible apply aCall.id); first
            | ((apply aCall.gives (hw _)); simp -implicitDefEqProofs [h3'])
            | ((apply aCall.gives (hr _)); simp -implicitDefEqProofs [h3']))
        | ((with_reducible apply AWp.ret); try simp -implicitDefEqProofs [h3'])
        | ((with_reducible apply AWp.skip); try simp -implicitDefEqProofs [h3'])
        | ((with_reducible apply AWp.exit); try simp -implicitDefEqProofs [h3']))
      intro id2 h_id2
      repeat (first
        | (with_reducible apply AWp.seq)
        | (with_reducible apply AWp.block)
        | ((with_reducible apply AWp.fork); simp -implicitDefEqProofs [h3', hb0', p6])
        | ((with_reducible apply AWp.region); simp -implicitDefEqProofs [h3', hb0', p6])
        | (with_reducible refine And.intro (by first | omega | assumption | decide) ?_)
        | ((with_reducible show condK _ _ _); simp -implicitDefEqProofs [h3', hb0', p6])
        | ((with_reducible show guardK _ _ _ _ _ _ _ _ _); simp -implicitDefEqProofs [h3', hb0', p6])
        | ((with_reducible apply aCall.id); first
            | ((apply aCall.gives (hw _)); simp -implicitDefEqProofs [h3', hb0', p6])
            | ((apply aCall.gives (hr _)); simp -implicitDefEqProofs [h3', hb0', p6])
            | ((apply aCall.gives (hwr _)); simp -implicitDefEqProofs [h3', hb0', p6]))
        | ((with_reducible apply AWp.ret); try simp -implicitDefEqProofs [h3', hb0', p6])
        | ((with_reducible apply AWp.skip); try simp -implicitDefEqProofs [h3', hb0', p6])
        | ((with_reducible apply AWp.exit); try simp -implicitDefEqProofs [h3', hb0', p6]))
      exact hb0
    | true =>
      have hwr := fun σ => write_okE en (T.map toR) .unk false t2 (fun x hx y hy => by have := t3 x hx y hy; omega) (by rw [pl_toR]; exact p1) (by rw [pl_toR]; exact hW) σ
      rw [pl_toR] at hwr
      have hE2 := read_write p1 hW p4
      have hrd := fun tk σ => wread_ok (writeW T en) (.tok tk) false (by simp) (by omega) σ
      rw [hE2] at hrd
      simp only [tabR, tvR_tb] at hrd
      have hs := fun σ => rsame_ok en en (T.map toR) (T.map toR) .unk .unk false false (by omega) (fun x hx => by have := t2 x hx; omega) (fun x hx y hy => by have := t3 x hx y hy; omega) (by omega) (fun x hx => by have := t2 x hx; omega) (fun x hx y hy => by have := t3 x hx y hy; omega) σ
      generalize T.map toR = R at *
      generalize writeW T en = W at *
      have hWl : ((W.length : Int) ≤ b.length) = True := by simp; omega
      simp only [tbV] at hr hwr hrd hs
      simp at hs
      refine ACalls.of_body Try.func13 rfl rfl (by simp [Try.ntmps13]) ?_
      repeat (first
        | (with_reducible apply AWp.seq)
        | (with_reducible apply AWp.block)
        | ((with_reducible apply AWp.fork); simp -implicitDefEqProofs [h3'])
        | ((with_reducible apply AWp.region); simp -implicitDefEqProofs [h3'])
        | (with_reducible refine And.intro (by first | omega | assumption | decide) ?_)
        | ((with_reducible show condK _ _ _); simp -implicitDefEqProofs [h3'])
        | ((with_reducible show guardK _ _ _ _ _ _ _ _ _); simp -implicitDefEqProofs [h3'])
        | ((with_reducible apply aCall.id); first
            | ((apply aCall.gives (hw _)); simp -implicitDefEqProofs [h3'])
            | ((apply aCall.gives (hr _)); simp -implicitDefEqProofs [h3']))
        | ((with_reducible apply AWp.ret); try simp -implicitDefEqProofs [h3'])
        | ((with_reducible apply AWp.skip); try simp -implicitDefEqProofs [h3'])
        | ((with_reducible apply AWp.exit); try simp -implicitDefEqProofs [h3']))
      intro id2 h_id2
      repeat (first
        | (with_reducible apply AWp.seq)
        | (with_reducible apply AWp.block)
        | ((with_reducible apply AWp.fork); simp -implicitDefEqProofs [h3'])
        | ((with_reducible apply AWp.region); simp -implicitDefEqProofs [h3'])
        | (with_reducible refine And.intro (by first | omega | assumption | decide) ?_)
        | ((with_reducible show condK _ _ _); simp -implicitDefEqProofs [h3'])
        | ((with_reducible show guardK _ _ _ _ _ _ _ _ _); simp -implicitDefEqProofs [h3'])
        | ((with_reducible apply aCall.id); first
            | ((apply aCall.gives (hw _)); simp -implicitDefEqProofs [h3'])
            | ((apply aCall.gives (hr _)); simp -implicitDefEqProofs [h3'])
            | ((apply aCall.owns (hwr _)); simp -implicitDefEqProofs [h3']))
        | ((with_reducible apply AWp.ret); try simp -implicitDefEqProofs [h3'])
        | ((with_reducible apply AWp.skip); try simp -implicitDefEqProofs [h3'])
        | ((with_reducible apply AWp.exit); try simp -implicitDefEqProofs [h3']))
      intro tk n_tk_id2 h_tk
      have n_id2_tk : ¬ id2 = tk := fun e => n_tk_id2 e.symm
      repeat (first
        | (with_reducible apply AWp.seq)
        | (with_reducible apply AWp.block)
        | ((with_reducible apply AWp.fork); simp -implicitDefEqProofs [hWl, n_tk_id2, n_id2_tk])
        | ((with_reducible apply AWp.region); simp -implicitDefEqProofs [hWl, n_tk_id2, n_id2_tk])
        | (with_reducible refine And.intro (by first | omega | assumption | decide) ?_)
        | ((with_reducible show condK _ _ _); simp -implicitDefEqProofs [hWl, n_tk_id2, n_id2_tk])
        | ((with_reducible show guardK _ _ _ _ _ _ _ _ _); simp -implicitDefEqProofs [hWl, n_tk_id2, n_id2_tk])
        | ((with_reducible apply aCall.id); first
            | ((apply aCall.gives (hrd _ _)); simp -implicitDefEqProofs [hWl, n_tk_id2, n_id2_tk]))
        | ((with_reducible apply AWp.ret); try simp -implicitDefEqProofs [hWl, n_tk_id2, n_id2_tk])
        | ((with_reducible apply AWp.skip); try simp -implicitDefEqProofs [hWl, n_tk_id2, n_id2_tk])
        | ((with_reducible apply AWp.exit); try simp -implicitDefEqProofs [hWl, n_tk_id2, n_id2_tk]))
      intro id3 n_id3_tk n_id3_id2 h_id3
      have n_tk_id3 : ¬ tk = id3 := fun e => n_id3_tk e.symm
      have n_id2_id3 : ¬ id2 = id3 := fun e => n_id3_id2 e.symm
      repeat (first
        | (with_reducible apply AWp.seq)
        | (with_reducible apply AWp.block)
        | ((with_reducible apply AWp.fork); simp -implicitDefEqProofs [hWl, n_tk_id2, n_id2_tk, n_id3_tk, n_tk_id3, n_id3_id2, n_id2_id3])
        | ((with_reducible apply AWp.region); simp -implicitDefEqProofs [hWl, n_tk_id2, n_id2_tk, n_id3_tk, n_tk_id3, n_id3_id2, n_id2_id3])
        | (with_reducible refine And.intro (by first | omega | assumption | decide) ?_)
        | ((with_reducible show condK _ _ _); simp -implicitDefEqProofs [hWl, n_tk_id2, n_id2_tk, n_id3_tk, n_tk_id3, n_id3_id2, n_id2_id3])
        | ((with_reducible show guardK _ _ _ _ _ _ _ _ _); simp -implicitDefEqProofs [hWl, n_tk_id2, n_id2_tk, n_id3_tk, n_tk_id3, n_id3_id2, n_id2_id3])
        | ((with_reducible apply aCall.id); first
            | ((apply aCall.gives (hs _)); simp -implicitDefEqProofs [hWl, n_tk_id2, n_id2_tk, n_id3_tk, n_tk_id3, n_id3_id2, n_id2_id3]))
        | ((with_reducible apply AWp.ret); try simp -implicitDefEqProofs [hWl, n_tk_id2, n_id2_tk, n_id3_tk, n_tk_id3, n_id3_id2, n_id2_id3])
        | ((with_reducible apply AWp.skip); try simp -implicitDefEqProofs [hWl, n_tk_id2, n_id2_tk, n_id3_tk, n_tk_id3, n_id3_id2, n_id2_id3])
        | ((with_reducible apply AWp.exit); try simp -implicitDefEqProofs [hWl, n_tk_id2, n_id2_tk, n_id3_tk, n_tk_id3, n_id3_id2, n_id2_id3]))

end Go.Proofs.Ytpekbapmnmnjoaa
