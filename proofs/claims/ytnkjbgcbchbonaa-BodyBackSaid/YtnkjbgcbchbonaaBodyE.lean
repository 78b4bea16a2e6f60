/- Chapter 08: BodyReads, BodyOne, BodyBack. -/
import Derived.Test.YtnkjbgcbchbonaaBodyD
set_option linter.unusedSimpArgs false
set_option linter.unusedVariables false
set_option maxRecDepth 100000
set_option maxHeartbeats 3200000
namespace Go.Proofs.Ytnkjbgcbchbonaa
open Go Go.AW

theorem readS_len (b : List UInt8) (at' : Int) : (readS b at').1.1.length ≤ 65535 ∧ (readS b at').1.2.length ≤ 6 := by
  unfold readS
  split
  · simp
  · split
    · simp
    · rename_i x a h
      obtain ⟨code, cls⟩ := x
      have := (at_eBody h).1
      simp only [rightB, Bool.and_eq_true, decide_eq_true_eq] at this
      exact ⟨this.2.1, this.2.2.1⟩

theorem bodyReads_ok (b : List UInt8) (nb : Bool) (at' : Int) (hnb : nb = true → b = []) (hl : b.length ≤ 140737488355328) :
    ACalls Try.prog 9 [.lst 5 (b.map u8) .unk nb, .sc (.int .i64 at')] noAS IsTrue No := by
  refine ACalls.of_body Try.func9 rfl rfl (by simp [Try.ntmps9]) ?_
  by_cases hL : 2000 < b.length
  · have hL' : (2000 < (b.length : Int)) = True := by simp; omega
    repeat (first
      | (with_reducible apply AWp.seq)
      | (with_reducible apply AWp.block)
      | ((with_reducible apply AWp.fork); simp -implicitDefEqProofs [hL'])
      | ((with_reducible apply AWp.region); simp -implicitDefEqProofs [hL'])
      | (with_reducible refine And.intro (by first | omega | assumption | decide) ?_)
      | ((with_reducible show condK _ _ _); simp -implicitDefEqProofs [hL'])
      | ((with_reducible show guardK _ _ _ _ _ _ _ _ _); simp -implicitDefEqProofs [hL'])
      | ((with_reducible apply aCall.id); first
          | ((apply aCall.gives (bwakes_ok _)); simp -implicitDefEqProofs [hL']))
      | ((with_reducible apply AWp.ret); try simp -implicitDefEqProofs [hL'])
      | ((with_reducible apply AWp.skip); try simp -implicitDefEqProofs [hL'])
      | ((with_reducible apply AWp.exit); try simp -implicitDefEqProofs [hL']))
  · have hL' : (2000 < (b.length : Int)) = False := by simp; omega
    have hr := fun o σ => bread_ok b o false at' (by simp) hl σ
    have hr2 := fun σ => rread_ok b .unk nb at' hl σ
    have hlen := readS_len b at'
    generalize readS b at' = Y at hr hr2 hlen
    obtain ⟨⟨l, rs⟩, a, e⟩ := Y
    have hs := fun o1 o2 o3 o4 n1 n2 n3 n4 σ => bsame_ok l l rs rs o1 o2 o3 o4 n1 n2 n3 n4 (by simp at hlen; omega) (by simp at hlen; omega) (by simp at hlen; omega) (by simp at hlen; omega) σ
    simp only [bodyV, bdV, gotS, gotV] at hr hr2 hs
    repeat (first
      | (with_reducible apply AWp.seq)
      | (with_reducible apply AWp.block)
      | ((with_reducible apply AWp.fork); simp -implicitDefEqProofs [hL'])
      | ((with_reducible apply AWp.region); simp -implicitDefEqProofs [hL'])
      | (with_reducible refine And.intro (by first | omega | assumption | decide) ?_)
      | ((with_reducible show condK _ _ _); simp -implicitDefEqProofs [hL'])
      | ((with_reducible show guardK _ _ _ _ _ _ _ _ _); simp -implicitDefEqProofs [hL'])
      | ((with_reducible apply aCall.id); first
          | ((apply aCall.gives (bwakes_ok _)); simp -implicitDefEqProofs [hL']))
      | ((with_reducible apply AWp.ret); try simp -implicitDefEqProofs [hL'])
      | ((with_reducible apply AWp.skip); try simp -implicitDefEqProofs [hL'])
      | ((with_reducible apply AWp.exit); try simp -implicitDefEqProofs [hL']))
    intro tk h_tk
    repeat (first
      | (with_reducible apply AWp.seq)
      | (with_reducible apply AWp.block)
      | ((with_reducible apply AWp.fork); simp -implicitDefEqProofs)
      | ((with_reducible apply AWp.region); simp -implicitDefEqProofs)
      | (with_reducible refine And.intro (by first | omega | assumption | decide) ?_)
      | ((with_reducible apply aCall.id); first
          | ((apply aCall.gives (hr _ _)); simp -implicitDefEqProofs))
      | ((with_reducible apply AWp.ret); try simp -implicitDefEqProofs)
      | ((with_reducible apply AWp.skip); try simp -implicitDefEqProofs)
      | ((with_reducible apply AWp.exit); try simp -implicitDefEqProofs))
    intro id5 n_id5_tk h_id5
    have n_tk_id5 : ¬ tk = id5 := fun e => n_id5_tk e.symm
    repeat (first
      | (with_reducible apply AWp.seq)
      | (with_reducible apply AWp.block)
      | ((with_reducible apply AWp.fork); simp -implicitDefEqProofs [n_id5_tk, n_tk_id5])
      | ((with_reducible apply AWp.region); simp -implicitDefEqProofs [n_id5_tk, n_tk_id5])
      | (with_reducible refine And.intro (by first | omega | assumption | decide) ?_)
      | ((with_reducible show condK _ _ _); simp -implicitDefEqProofs [n_id5_tk, n_tk_id5])
      | ((with_reducible show guardK _ _ _ _ _ _ _ _ _); simp -implicitDefEqProofs [n_id5_tk, n_tk_id5])
      | ((with_reducible apply aCall.id); first
          | ((apply aCall.gives (hr2 _)); simp -implicitDefEqProofs [n_id5_tk, n_tk_id5]))
      | ((with_reducible apply AWp.ret); try simp -implicitDefEqProofs [n_id5_tk, n_tk_id5])
      | ((with_reducible apply AWp.skip); try simp -implicitDefEqProofs [n_id5_tk, n_tk_id5])
      | ((with_reducible apply AWp.exit); try simp -implicitDefEqProofs [n_id5_tk, n_tk_id5]))
    intro id8 n_id8_id5 n_id8_tk h_id8
    have n_id5_id8 : ¬ id5 = id8 := fun e => n_id8_id5 e.symm
    have n_tk_id8 : ¬ tk = id8 := fun e => n_id8_tk e.symm
    repeat (first
      | (with_reducible apply AWp.seq)
      | (with_reducible apply AWp.block)
      | ((with_reducible apply AWp.fork); simp -implicitDefEqProofs [n_id5_tk, n_tk_id5, n_id8_id5, n_id5_id8, n_id8_tk, n_tk_id8])
      | ((with_reducible apply AWp.region); simp -implicitDefEqProofs [n_id5_tk, n_tk_id5, n_id8_id5, n_id5_id8, n_id8_tk, n_tk_id8])
      | (with_reducible refine And.intro (by first | omega | assumption | decide) ?_)
      | ((with_reducible show condK _ _ _); simp -implicitDefEqProofs [n_id5_tk, n_tk_id5, n_id8_id5, n_id5_id8, n_id8_tk, n_tk_id8])
      | ((with_reducible show guardK _ _ _ _ _ _ _ _ _); simp -implicitDefEqProofs [n_id5_tk, n_tk_id5, n_id8_id5, n_id5_id8, n_id8_tk, n_tk_id8])
      | ((with_reducible apply aCall.id); first
          | ((apply aCall.gives (hs _ _ _ _ _ _ _ _ _)); simp -implicitDefEqProofs [n_id5_tk, n_tk_id5, n_id8_id5, n_id5_id8, n_id8_tk, n_tk_id8]))
      | ((with_reducible apply AWp.ret); try simp -implicitDefEqProofs [n_id5_tk, n_tk_id5, n_id8_id5, n_id5_id8, n_id8_tk, n_tk_id8])
      | ((with_reducible apply AWp.skip); try simp -implicitDefEqProofs [n_id5_tk, n_tk_id5, n_id8_id5, n_id5_id8, n_id8_tk, n_tk_id8])
      | ((with_reducible apply AWp.exit); try simp -implicitDefEqProofs [n_id5_tk, n_tk_id5, n_id8_id5, n_id5_id8, n_id8_tk, n_tk_id8]))

/-! an error is one -/
theorem eNum_err {b : List UInt8} {a n : Nat} {e : Int} (h : eNum b a n = .error e) : e ≠ 0 := by have := (eNum_bad h).2; omega
theorem eMust_err {b : List UInt8} {a : Nat} {c e : Int} (h : eMust b a c = .error e) : e ≠ 0 := by
  rcases eMust_bad h with h | ⟨rfl, _⟩
  · exact eNum_err h
  · omega
theorem eCode_err {b : List UInt8} {a : Nat} {n e : Int} (h : eCode b a n = .error e) : e ≠ 0 := by
  unfold eCode at h
  split at h
  · cases h; omega
  · split at h <;> cases h; omega
theorem ePad_err {b : List UInt8} {e : Int} : ∀ {k a : Nat}, ePad b k a = .error e → e ≠ 0 := by
  intro k
  induction k with
  | zero => intro a h; cases h
  | succ k ih =>
    intro a h
    simp only [ePad] at h
    cases h1 : eMust b a 0 with
    | error e' => rw [h1] at h; cases h; exact eMust_err h1
    | ok x => rw [h1] at h; exact ih h
theorem eNums_err {b : List UInt8} {e : Int} : ∀ {k a : Nat}, eNums b k a = .error e → e ≠ 0 := by
  intro k
  induction k with
  | zero => intro a h; cases h
  | succ k ih =>
    intro a h
    simp only [eNums] at h
    cases h1 : eNum b a 2 with
    | error e' => rw [h1] at h; cases h; exact eNum_err h1
    | ok x =>
      rw [h1] at h
      simp only at h
      cases h2 : eNums b k x.2 with
      | error e' => rw [h2] at h; cases h; exact ih h2
      | ok y => rw [h2] at h; cases h
theorem eRaws_err {b : List UInt8} {e : Int} : ∀ {k a : Nat}, eRaws b k a = .error e → e ≠ 0 := by
  intro k
  induction k with
  | zero => intro a h; cases h
  | succ k ih =>
    intro a h
    simp only [eRaws] at h
    cases h1 : eNums b 6 a with
    | error e' => rw [h1] at h; cases h; exact eNums_err h1
    | ok x =>
      rw [h1] at h
      simp only at h
      cases h2 : eRaws b k x.2 with
      | error e' => rw [h2] at h; cases h; exact ih h2
      | ok y => rw [h2] at h; cases h
theorem eClauses_err {b : List UInt8} {fr a : Nat} {e : Int} (h : eClauses b fr a = .error e) : e ≠ 0 := by
  unfold eClauses at h
  split at h
  · cases h; exact ePad_err (by assumption)
  split at h
  · cases h; exact eMust_err (by assumption)
  split at h
  · cases h; exact eNum_err (by assumption)
  split at h
  · cases h; omega
  split at h
  · cases h; exact eMust_err (by assumption)
  split at h
  · cases h; exact eMust_err (by assumption)
  exact eRaws_err h
theorem eBody_err {b : List UInt8} {fr : Nat} {e : Int} (h : eBody b fr = .error e) : e ≠ 0 := by
  unfold eBody at h
  split at h
  · cases h; exact eNum_err (by assumption)
  split at h
  · split at h
    · cases h; exact eCode_err (by assumption)
    · cases h
  split at h
  · cases h; omega
  split at h
  · cases h; exact ePad_err (by assumption)
  split at h
  · cases h; exact eNum_err (by assumption)
  split at h
  · cases h; exact eCode_err (by assumption)
  split at h
  · split at h
    · cases h; exact eClauses_err (by assumption)
    · cases h
  split at h
  · cases h; omega
  · cases h

theorem bodyOne_ok (b : List UInt8) (nb : Bool) (hnb : nb = true → b = []) (hl : b.length ≤ 140737488355328) :
    ACalls Try.prog 11 [.lst 5 (b.map u8) .unk nb] noAS IsTrue No := by
  refine ACalls.of_body Try.func11 rfl rfl (by simp [Try.ntmps11]) ?_
  by_cases hL : 2000 < b.length
  · have hL' : (2000 < (b.length : Int)) = True := by simp; omega
    repeat (first
      | (with_reducible apply AWp.seq)
      | (with_reducible apply AWp.block)
      | ((with_reducible apply AWp.fork); simp -implicitDefEqProofs [hL'])
      | ((with_reducible apply AWp.region); simp -implicitDefEqProofs [hL'])
      | (with_reducible refine And.intro (by first | omega | assumption | decide) ?_)
      | ((with_reducible show condK _ _ _); simp -implicitDefEqProofs [hL'])
      | ((with_reducible show guardK _ _ _ _ _ _ _ _ _); simp -implicitDefEqProofs [hL'])
      | ((with_reducible apply aCall.id); first
          | ((apply aCall.gives (bwakes_ok _)); simp -implicitDefEqProofs [hL']))
      | ((with_reducible apply AWp.ret); try simp -implicitDefEqProofs [hL'])
      | ((with_reducible apply AWp.skip); try simp -implicitDefEqProofs [hL'])
      | ((with_reducible apply AWp.exit); try simp -implicitDefEqProofs [hL']))
  · have hL' : (2000 < (b.length : Int)) = False := by simp; omega
    have hr := fun σ => bread_ok b .unk nb 0 hnb hl σ
    have hS : readS b 0 = match eBody b 0 with
      | .error e => (([], []), 0, e)
      | .ok (x, a) => (x, (a : Int), 0) := by unfold readS; rw [if_neg (by omega)]; rfl
    cases hE : eBody b 0 with
    | error e =>
      have he := eBody_err hE
      rw [hE] at hS
      rw [hS] at hr
      simp only [bodyV, bdV] at hr
      repeat (first
        | (with_reducible apply AWp.seq)
        | (with_reducible apply AWp.block)
        | ((with_reducible apply AWp.fork); simp -implicitDefEqProofs [hL'])
        | ((with_reducible apply AWp.region); simp -implicitDefEqProofs [hL'])
        | (with_reducible refine And.intro (by first | omega | assumption | decide) ?_)
        | ((with_reducible show condK _ _ _); simp -implicitDefEqProofs [hL'])
        | ((with_reducible show guardK _ _ _ _ _ _ _ _ _); simp -implicitDefEqProofs [hL'])
        | ((with_reducible apply aCall.id); first
            | ((apply aCall.gives (bwakes_ok _)); simp -implicitDefEqProofs [hL'])
            | ((apply aCall.gives (hr _)); simp -implicitDefEqProofs [hL']))
        | ((with_reducible apply AWp.ret); try simp -implicitDefEqProofs [hL'])
        | ((with_reducible apply AWp.skip); try simp -implicitDefEqProofs [hL'])
        | ((with_reducible apply AWp.exit); try simp -implicitDefEqProofs [hL']))
      intro id3 h_id3
      repeat (first
        | (with_reducible apply AWp.seq)
        | (with_reducible apply AWp.block)
        | ((with_reducible apply AWp.fork); simp -implicitDefEqProofs [he])
        | ((with_reducible apply AWp.region); simp -implicitDefEqProofs [he])
        | (with_reducible refine And.intro (by first | omega | assumption | decide) ?_)
        | ((with_reducible show condK _ _ _); simp -implicitDefEqProofs [he])
        | ((with_reducible show guardK _ _ _ _ _ _ _ _ _); simp -implicitDefEqProofs [he])
        | ((with_reducible apply AWp.ret); try simp -implicitDefEqProofs [he])
        | ((with_reducible apply AWp.skip); try simp -implicitDefEqProofs [he])
        | ((with_reducible apply AWp.exit); try simp -implicitDefEqProofs [he]))
    | ok y =>
      obtain ⟨⟨l, rs⟩, A⟩ := y
      rw [hE] at hS
      rw [hS] at hr
      obtain ⟨h1, h2, h3⟩ := at_eBody hE
      have h4 := h2.take
      have h5 := h2.len
      have hA : (writeB l rs).length = A := by omega
      rw [hA] at h4
      have hw := fun o1 o2 n1 n2 σ => write_ok l rs o1 o2 n1 n2 h1 σ
      have hs := fun o o' n1 n2 σ => same_ok (writeB l rs) (writeB l rs) o o' n1 n2 (by omega) σ
      have hAl : A ≤ b.length := by omega
      have h6 : List.take A (List.map u8 b) = List.map u8 (writeB l rs) := by rw [h4, List.map_take]
      generalize writeB l rs = W at *
      simp only [bodyV, bdV] at hr hw
      repeat (first
        | (with_reducible apply AWp.seq)
        | (with_reducible apply AWp.block)
        | ((with_reducible apply AWp.fork); simp -implicitDefEqProofs [hL'])
        | ((with_reducible apply AWp.region); simp -implicitDefEqProofs [hL'])
        | (with_reducible refine And.intro (by first | omega | assumption | decide) ?_)
        | ((with_reducible show condK _ _ _); simp -implicitDefEqProofs [hL'])
        | ((with_reducible show guardK _ _ _ _ _ _ _ _ _); simp -implicitDefEqProofs [hL'])
        | ((with_reducible apply aCall.id); first
            | ((apply aCall.gives (bwakes_ok _)); simp -implicitDefEqProofs [hL'])
            | ((apply aCall.gives (hr _)); simp -implicitDefEqProofs [hL']))
        | ((with_reducible apply AWp.ret); try simp -implicitDefEqProofs [hL'])
        | ((with_reducible apply AWp.skip); try simp -implicitDefEqProofs [hL'])
        | ((with_reducible apply AWp.exit); try simp -implicitDefEqProofs [hL']))
      intro id3 h_id3
      repeat (first
        | (with_reducible apply AWp.seq)
        | (with_reducible apply AWp.block)
        | ((with_reducible apply AWp.fork); simp -implicitDefEqProofs)
        | ((with_reducible apply AWp.region); simp -implicitDefEqProofs)
        | (with_reducible refine And.intro (by first | omega | assumption | decide) ?_)
        | ((with_reducible apply aCall.id); first
            | ((apply aCall.owns (hw _ _ _ _ _)); simp -implicitDefEqProofs))
        | ((with_reducible apply AWp.ret); try simp -implicitDefEqProofs)
        | ((with_reducible apply AWp.skip); try simp -implicitDefEqProofs)
        | ((with_reducible apply AWp.exit); try simp -implicitDefEqProofs))
      intro tk n_tk_id3 h_tk
      have n_id3_tk : ¬ id3 = tk := fun e => n_tk_id3 e.symm
      repeat (first
        | (with_reducible apply AWp.seq)
        | (with_reducible apply AWp.block)
        | ((with_reducible apply AWp.fork); simp -implicitDefEqProofs [hAl, h6, n_tk_id3, n_id3_tk])
        | ((with_reducible apply AWp.region); simp -implicitDefEqProofs [hAl, h6, n_tk_id3, n_id3_tk])
        | (with_reducible refine And.intro (by first | omega | assumption | decide) ?_)
        | ((with_reducible show condK _ _ _); simp -implicitDefEqProofs [hAl, h6, n_tk_id3, n_id3_tk])
        | ((with_reducible show guardK _ _ _ _ _ _ _ _ _); simp -implicitDefEqProofs [hAl, h6, n_tk_id3, n_id3_tk])
        | ((with_reducible apply aCall.id); first
            | ((apply aCall.gives (hs _ _ _ _ _)); simp -implicitDefEqProofs [hAl, h6, n_tk_id3, n_id3_tk]))
        | ((with_reducible apply AWp.ret); try simp -implicitDefEqProofs [hAl, h6, n_tk_id3, n_id3_tk])
        | ((with_reducible apply AWp.skip); try simp -implicitDefEqProofs [hAl, h6, n_tk_id3, n_id3_tk])
        | ((with_reducible apply AWp.exit); try simp -implicitDefEqProofs [hAl, h6, n_tk_id3, n_id3_tk]))

def bkI (B : AS) (id2 tkb : Nat) (W : List UInt8) (m : Nat) (f : Fr) (σ' : AS) : Prop :=
  ∃ (l : List UInt8) (tk : Nat), m = (4 - l.length % 4) % 4 ∧ l.length ≤ 2000 - m ∧ B tk = none ∧ σ' = B.set tk (.tok l.length) ∧
    f = mkF [(2, .ptr id2 0), (5, .lst 5 (W.map u8) (.tok tkb) false), (7, .lst 5 (l.map u8) (.tok tk) false)]

theorem bodyBack_ok (code : List UInt8) (cls : List R6) (n1 n2 : Bool) (m : List UInt8) (nm : Bool) (hn1 : n1 = true → code = []) (hn2 : n2 = true → cls = []) (hc : code.length ≤ 140737488355328) (hk : cls.length ≤ 140737488355328) (hnm : nm = true → m = []) (hm : m.length ≤ 140737488355328) :
    ACalls Try.prog 10 [bodyV code cls .unk .unk n1 n2, .lst 5 (m.map u8) .unk nm] noAS IsTrue No := by
  have hl := fun σ => long_ok code cls .unk .unk n1 n2 hc hk σ
  refine ACalls.of_body Try.func10 rfl rfl (by simp [Try.ntmps10]) ?_
  simp only [bodyV] at hl ⊢
  by_cases hL : (decide (1000 < code.length) || decide (100 < cls.length)) = true
  · rw [hL] at hl
    repeat (first
      | (with_reducible apply AWp.seq)
      | (with_reducible apply AWp.block)
      | ((with_reducible apply AWp.fork); simp -implicitDefEqProofs)
      | ((with_reducible apply AWp.region); simp -implicitDefEqProofs)
      | (with_reducible refine And.intro (by first | omega | assumption | decide) ?_)
      | ((with_reducible apply AWp.ret); try simp -implicitDefEqProofs)
      | ((with_reducible apply AWp.skip); try simp -implicitDefEqProofs)
      | ((with_reducible apply AWp.exit); try simp -implicitDefEqProofs))
    intro id h_id
    repeat (first
      | (with_reducible apply AWp.seq)
      | (with_reducible apply AWp.block)
      | ((with_reducible apply AWp.fork); simp -implicitDefEqProofs)
      | ((with_reducible apply AWp.region); simp -implicitDefEqProofs)
      | (with_reducible refine And.intro (by first | omega | assumption | decide) ?_)
      | ((with_reducible apply aCall.id); first
          | ((apply aCall.gives (bwakes_ok _)); simp -implicitDefEqProofs)
          | ((apply aCall.gives (hl _)); simp -implicitDefEqProofs))
      | ((with_reducible apply AWp.ret); try simp -implicitDefEqProofs)
      | ((with_reducible apply AWp.skip); try simp -implicitDefEqProofs)
      | ((with_reducible apply AWp.exit); try simp -implicitDefEqProofs))
  have hL2 : (decide (1000 < code.length) || decide (100 < cls.length)) = false := by simpa using hL
  rw [hL2] at hl
  have hb : code.length ≤ 1000 ∧ cls.length ≤ 100 := by simpa using hL
  by_cases hM : 400 < m.length
  · have hM' : (400 < (m.length : Int)) = True := by simp; omega
    repeat (first
      | (with_reducible apply AWp.seq)
      | (with_reducible apply AWp.block)
      | ((with_reducible apply AWp.fork); simp -implicitDefEqProofs)
      | ((with_reducible apply AWp.region); simp -implicitDefEqProofs)
      | (with_reducible refine And.intro (by first | omega | assumption | decide) ?_)
      | ((with_reducible apply AWp.ret); try simp -implicitDefEqProofs)
      | ((with_reducible apply AWp.skip); try simp -implicitDefEqProofs)
      | ((with_reducible apply AWp.exit); try simp -implicitDefEqProofs))
    intro id h_id
    repeat (first
      | (with_reducible apply AWp.seq)
      | (with_reducible apply AWp.block)
      | ((with_reducible apply AWp.fork); simp -implicitDefEqProofs [hM'])
      | ((with_reducible apply AWp.region); simp -implicitDefEqProofs [hM'])
      | (with_reducible refine And.intro (by first | omega | assumption | decide) ?_)
      | ((with_reducible show condK _ _ _); simp -implicitDefEqProofs [hM'])
      | ((with_reducible show guardK _ _ _ _ _ _ _ _ _); simp -implicitDefEqProofs [hM'])
      | ((with_reducible apply aCall.id); first
          | ((apply aCall.gives (bwakes_ok _)); simp -implicitDefEqProofs [hM'])
          | ((apply aCall.gives (hl _)); simp -implicitDefEqProofs [hM']))
      | ((with_reducible apply AWp.ret); try simp -implicitDefEqProofs [hM'])
      | ((with_reducible apply AWp.skip); try simp -implicitDefEqProofs [hM'])
      | ((with_reducible apply AWp.exit); try simp -implicitDefEqProofs [hM']))
  have hM' : (400 < (m.length : Int)) = False := by simp; omega
  have hco := fun σ => copied_ok code cls n1 n2 hn1 hn2 hb.1 hb.2 σ
  simp only [bodyV] at hco
  cases hR : rightB code cls
  · have hw := fun σ => write_bad code cls .unk .unk false false (by omega) (by omega) hR σ
    repeat (first
      | (with_reducible apply AWp.seq)
      | (with_reducible apply AWp.block)
      | ((with_reducible apply AWp.fork); simp -implicitDefEqProofs)
      | ((with_reducible apply AWp.region); simp -implicitDefEqProofs)
      | (with_reducible refine And.intro (by first | omega | assumption | decide) ?_)
      | ((with_reducible apply AWp.ret); try simp -implicitDefEqProofs)
      | ((with_reducible apply AWp.skip); try simp -implicitDefEqProofs)
      | ((with_reducible apply AWp.exit); try simp -implicitDefEqProofs))
    intro id h_id
    repeat (first
      | (with_reducible apply AWp.seq)
      | (with_reducible apply AWp.block)
      | ((with_reducible apply AWp.fork); simp -implicitDefEqProofs [hM'])
      | ((with_reducible apply AWp.region); simp -implicitDefEqProofs [hM'])
      | (with_reducible refine And.intro (by first | omega | assumption | decide) ?_)
      | ((with_reducible show condK _ _ _); simp -implicitDefEqProofs [hM'])
      | ((with_reducible show guardK _ _ _ _ _ _ _ _ _); simp -implicitDefEqProofs [hM'])
      | ((with_reducible apply aCall.id); first
          | ((apply aCall.gives (bwakes_ok _)); simp -implicitDefEqProofs [hM'])
          | ((apply aCall.gives (hl _)); simp -implicitDefEqProofs [hM'])
          | ((apply aCall.gives (hco _)); simp -implicitDefEqProofs [hM'])
          | ((apply aCall.gives (hw _)); simp -implicitDefEqProofs [hM']))
      | ((with_reducible apply AWp.ret); try simp -implicitDefEqProofs [hM'])
      | ((with_reducible apply AWp.skip); try simp -implicitDefEqProofs [hM'])
      | ((with_reducible apply AWp.exit); try simp -implicitDefEqProofs [hM']))
  · have hw := fun σ => write_ok code cls .unk .unk false false hR σ
    have hbs := fun o1 o2 o3 o4 n1 n2 n3 n4 σ => bsame_ok code code cls cls o1 o2 o3 o4 n1 n2 n3 n4 (by omega) (by omega) (by omega) (by omega) σ
    have hlen : (writeB code cls).length ≤ 3000 := by
      rw [writeB_len]; split <;> (try split) <;> omega
    have hat : ∀ p : List UInt8, p.length % 4 = 0 → readS (p ++ writeB code cls ++ [7]) p.length = ((code, cls), ((p.length + (writeB code cls).length : Nat) : Int), 0) := by
      intro p hp
      unfold readS
      rw [if_neg (by simp; omega), Int.toNat_natCast, eBody_at (At.mid p (writeB code cls) [7]) hp hR]
    generalize writeB code cls = W at *
    simp only [bodyV] at hw hbs
    repeat (first
      | (with_reducible apply AWp.seq)
      | (with_reducible apply AWp.block)
      | ((with_reducible apply AWp.fork); simp -implicitDefEqProofs)
      | ((with_reducible apply AWp.region); simp -implicitDefEqProofs)
      | (with_reducible refine And.intro (by first | omega | assumption | decide) ?_)
      | ((with_reducible apply AWp.ret); try simp -implicitDefEqProofs)
      | ((with_reducible apply AWp.skip); try simp -implicitDefEqProofs)
      | ((with_reducible apply AWp.exit); try simp -implicitDefEqProofs))
    intro id h_id
    repeat (first
      | (with_reducible apply AWp.seq)
      | (with_reducible apply AWp.block)
      | ((with_reducible apply AWp.fork); simp -implicitDefEqProofs [hM'])
      | ((with_reducible apply AWp.region); simp -implicitDefEqProofs [hM'])
      | (with_reducible refine And.intro (by first | omega | assumption | decide) ?_)
      | ((with_reducible show condK _ _ _); simp -implicitDefEqProofs [hM'])
      | ((with_reducible show guardK _ _ _ _ _ _ _ _ _); simp -implicitDefEqProofs [hM'])
      | ((with_reducible apply aCall.id); first
          | ((apply aCall.gives (bwakes_ok _)); simp -implicitDefEqProofs [hM'])
          | ((apply aCall.gives (hl _)); simp -implicitDefEqProofs [hM'])
          | ((apply aCall.gives (hco _)); simp -implicitDefEqProofs [hM'])
          | ((apply aCall.owns (hw _)); simp -implicitDefEqProofs [hM']))
      | ((with_reducible apply AWp.ret); try simp -implicitDefEqProofs [hM'])
      | ((with_reducible apply AWp.skip); try simp -implicitDefEqProofs [hM'])
      | ((with_reducible apply AWp.exit); try simp -implicitDefEqProofs [hM']))
    intro tkb n_tkb_id h_tkb
    have n_id_tkb : ¬ id = tkb := fun e => n_tkb_id e.symm
    repeat (first
      | (with_reducible apply AWp.seq)
      | (with_reducible apply AWp.block)
      | ((with_reducible apply AWp.fork); simp -implicitDefEqProofs [n_tkb_id, n_id_tkb])
      | ((with_reducible apply AWp.region); simp -implicitDefEqProofs [n_tkb_id, n_id_tkb])
      | (with_reducible refine And.intro (by first | omega | assumption | decide) ?_)
      | ((with_reducible show condK _ _ _); simp -implicitDefEqProofs [n_tkb_id, n_id_tkb])
      | ((with_reducible show guardK _ _ _ _ _ _ _ _ _); simp -implicitDefEqProofs [n_tkb_id, n_id_tkb])
      | ((with_reducible apply AWp.ret); try simp -implicitDefEqProofs [n_tkb_id, n_id_tkb])
      | ((with_reducible apply AWp.skip); try simp -implicitDefEqProofs [n_tkb_id, n_id_tkb])
      | ((with_reducible apply AWp.exit); try simp -implicitDefEqProofs [n_tkb_id, n_id_tkb]))
    intro tk n_tk_tkb n_tk_id h_tk
    have n_tkb_tk : ¬ tkb = tk := fun e => n_tk_tkb e.symm
    have n_id_tk : ¬ id = tk := fun e => n_tk_id e.symm
    repeat (first
      | (with_reducible apply AWp.seq)
      | (with_reducible apply AWp.block)
      | ((with_reducible apply AWp.fork); simp -implicitDefEqProofs [n_tkb_id, n_id_tkb, n_tk_tkb, n_tkb_tk, n_tk_id, n_id_tk])
      | ((with_reducible apply AWp.region); simp -implicitDefEqProofs [n_tkb_id, n_id_tkb, n_tk_tkb, n_tkb_tk, n_tk_id, n_id_tk])
      | (with_reducible refine And.intro (by first | omega | assumption | decide) ?_)
      | ((with_reducible show condK _ _ _); simp -implicitDefEqProofs [n_tkb_id, n_id_tkb, n_tk_tkb, n_tkb_tk, n_tk_id, n_id_tk])
      | ((with_reducible show guardK _ _ _ _ _ _ _ _ _); simp -implicitDefEqProofs [n_tkb_id, n_id_tkb, n_tk_tkb, n_tkb_tk, n_tk_id, n_id_tk])
      | ((with_reducible apply AWp.ret); try simp -implicitDefEqProofs [n_tkb_id, n_id_tkb, n_tk_tkb, n_tkb_tk, n_tk_id, n_id_tk])
      | ((with_reducible apply AWp.skip); try simp -implicitDefEqProofs [n_tkb_id, n_id_tkb, n_tk_tkb, n_tkb_tk, n_tk_id, n_id_tk])
      | ((with_reducible apply AWp.exit); try simp -implicitDefEqProofs [n_tkb_id, n_id_tkb, n_tk_tkb, n_tkb_tk, n_tk_id, n_id_tk]))
    obtain ⟨B, B_s, hBi, hBt, eq_B, le_B⟩ : ∃ B : AS, ((noAS.set id (.cells 48 [.lst 5 (code.map u8) .unk n1, .lst 91 (cls.map rawV) .unk n2])).set tkb (.tok W.length)) = B ∧ B id = some (.cells 48 [.lst 5 (code.map u8) .unk n1, .lst 91 (cls.map rawV) .unk n2]) ∧ B tkb = some (.tok W.length) ∧ (∀ j, j ≠ id → j ≠ tkb → B j = noAS j) ∧ (∀ S' : AS, (∀ j, j ≠ id → j ≠ tkb → ∀ y, B j = some y → S' j = some y) → AS.le noAS S') := by
      refine ⟨_, rfl, by simp [n_id_tkb, n_tkb_id], by simp [n_id_tkb, n_tkb_id], ?_, ?_⟩
      · intro j e_id e_tkb; simp [AS.set, e_id, e_tkb]
      intro S' h j x hj
      have e_id : j ≠ id := by rintro rfl; rw [h_id] at hj; cases hj
      have e_tkb : j ≠ tkb := by rintro rfl; rw [h_tkb] at hj; cases hj
      exact h j e_id e_tkb x (by simp [AS.set, e_id, e_tkb, hj])
    simp only [B_s]
    clear B_s
    refine AWp.loopI (bkI B id tkb W) (k0 := (4 - m.length % 4) % 4) ⟨m, tk, rfl, by omega, ?_, rfl, rfl⟩ (FrWk.mk (by simp)) (AS.le_refl _) ?_
    · rw [eq_B tk n_tk_id n_tk_tkb]; exact h_tk
    clear h_tk n_tk_tkb n_tk_id n_tkb_tk n_id_tk le_B eq_B
    clear tk
    rintro mm f σ' ⟨l, tk, hmm, hll, h_tk, rfl, rfl⟩
    have n_id_tk : ¬ id = tk := by rintro rfl; rw [hBi] at h_tk; cases h_tk
    have n_tk_id : ¬ tk = id := fun e => n_id_tk e.symm
    have n_tkb_tk : ¬ tkb = tk := by rintro rfl; rw [hBt] at h_tk; cases h_tk
    have n_tk_tkb : ¬ tk = tkb := fun e => n_tkb_tk e.symm
    have hmod : ((l.length : Nat) : Int).tmod 4 = ((l.length % 4 : Nat) : Int) := by rw [Int.tmod_eq_emod_of_nonneg (by omega)]; omega
    by_cases h4 : l.length % 4 = 0
    · have h4' : ((l.length : Int) % 4 = 0) = True := by simp; omega
      have hrd := fun o σ => bread_ok (l ++ W ++ [7]) o false l.length (by simp) (by simp; omega) σ
      rw [hat l h4] at hrd
      have e7 : List.map u8 (l ++ W ++ [7]) = List.map u8 l ++ (List.map u8 W ++ [.sc (.int .u8 7)]) := by simp
      rw [e7] at hrd
      simp only [bodyV, bdV] at hrd
      have hw1 : IntKind.i64.wrap ((l.length : Int) + W.length) = (l.length : Int) + W.length := in_i64 (by omega) (by omega)
      repeat (first
        | (with_reducible apply AWp.seq)
        | (with_reducible apply AWp.block)
        | ((with_reducible apply AWp.fork); simp -implicitDefEqProofs [hmod, h4', n_tkb_id, n_id_tkb, n_tk_tkb, n_tkb_tk, n_tk_id, n_id_tk, hBi, hBt, n_tk_id, n_id_tk, n_tk_tkb, n_tkb_tk])
        | ((with_reducible apply AWp.region); simp -implicitDefEqProofs [hmod, h4', n_tkb_id, n_id_tkb, n_tk_tkb, n_tkb_tk, n_tk_id, n_id_tk, hBi, hBt, n_tk_id, n_id_tk, n_tk_tkb, n_tkb_tk])
        | (with_reducible refine And.intro (by first | omega | assumption | decide) ?_)
        | ((with_reducible show condK _ _ _); simp -implicitDefEqProofs [hmod, h4', n_tkb_id, n_id_tkb, n_tk_tkb, n_tkb_tk, n_tk_id, n_id_tk, hBi, hBt, n_tk_id, n_id_tk, n_tk_tkb, n_tkb_tk])
        | ((with_reducible show guardK _ _ _ _ _ _ _ _ _); simp -implicitDefEqProofs [hmod, h4', n_tkb_id, n_id_tkb, n_tk_tkb, n_tkb_tk, n_tk_id, n_id_tk, hBi, hBt, n_tk_id, n_id_tk, n_tk_tkb, n_tkb_tk])
        | ((with_reducible apply aCall.id); first
            | ((apply aCall.gives (hrd _ _)); simp -implicitDefEqProofs [hmod, h4', n_tkb_id, n_id_tkb, n_tk_tkb, n_tkb_tk, n_tk_id, n_id_tk, hBi, hBt, n_tk_id, n_id_tk, n_tk_tkb, n_tkb_tk]))
        | ((with_reducible apply AWp.ret); try simp -implicitDefEqProofs [hmod, h4', n_tkb_id, n_id_tkb, n_tk_tkb, n_tkb_tk, n_tk_id, n_id_tk, hBi, hBt, n_tk_id, n_id_tk, n_tk_tkb, n_tkb_tk])
        | ((with_reducible apply AWp.skip); try simp -implicitDefEqProofs [hmod, h4', n_tkb_id, n_id_tkb, n_tk_tkb, n_tkb_tk, n_tk_id, n_id_tk, hBi, hBt, n_tk_id, n_id_tk, n_tk_tkb, n_tkb_tk])
        | ((with_reducible apply AWp.exit); try simp -implicitDefEqProofs [hmod, h4', n_tkb_id, n_id_tkb, n_tk_tkb, n_tkb_tk, n_tk_id, n_id_tk, hBi, hBt, n_tk_id, n_id_tk, n_tk_tkb, n_tkb_tk]))
      intro id9 n_id9_tk h_id9
      have n_tk_id9 : ¬ tk = id9 := fun e => n_id9_tk e.symm
      have n_id_id9 : ¬ id = id9 := by rintro rfl; rw [hBi] at h_id9; cases h_id9
      have n_id9_id : ¬ id9 = id := fun e => n_id_id9 e.symm
      have n_tkb_id9 : ¬ tkb = id9 := by rintro rfl; rw [hBt] at h_id9; cases h_id9
      have n_id9_tkb : ¬ id9 = tkb := fun e => n_tkb_id9 e.symm
      repeat (first
        | (with_reducible apply AWp.seq)
        | (with_reducible apply AWp.block)
        | ((with_reducible apply AWp.fork); simp -implicitDefEqProofs [hw1, n_tkb_id, n_id_tkb, n_tk_tkb, n_tkb_tk, n_tk_id, n_id_tk, hBi, hBt, n_tk_id, n_id_tk, n_tk_tkb, n_tkb_tk, n_id9_tk, n_tk_id9, n_id9_id, n_id_id9, n_id9_tkb, n_tkb_id9])
        | ((with_reducible apply AWp.region); simp -implicitDefEqProofs [hw1, n_tkb_id, n_id_tkb, n_tk_tkb, n_tkb_tk, n_tk_id, n_id_tk, hBi, hBt, n_tk_id, n_id_tk, n_tk_tkb, n_tkb_tk, n_id9_tk, n_tk_id9, n_id9_id, n_id_id9, n_id9_tkb, n_tkb_id9])
        | (with_reducible refine And.intro (by first | omega | assumption | decide) ?_)
        | ((with_reducible show condK _ _ _); simp -implicitDefEqProofs [hw1, n_tkb_id, n_id_tkb, n_tk_tkb, n_tkb_tk, n_tk_id, n_id_tk, hBi, hBt, n_tk_id, n_id_tk, n_tk_tkb, n_tkb_tk, n_id9_tk, n_tk_id9, n_id9_id, n_id_id9, n_id9_tkb, n_tkb_id9])
        | ((with_reducible show guardK _ _ _ _ _ _ _ _ _); simp -implicitDefEqProofs [hw1, n_tkb_id, n_id_tkb, n_tk_tkb, n_tkb_tk, n_tk_id, n_id_tk, hBi, hBt, n_tk_id, n_id_tk, n_tk_tkb, n_tkb_tk, n_id9_tk, n_tk_id9, n_id9_id, n_id_id9, n_id9_tkb, n_tkb_id9])
        | ((with_reducible apply aCall.id); first
            | ((apply aCall.gives (hbs _ _ _ _ _ _ _ _ _)); simp -implicitDefEqProofs [hw1, n_tkb_id, n_id_tkb, n_tk_tkb, n_tkb_tk, n_tk_id, n_id_tk, hBi, hBt, n_tk_id, n_id_tk, n_tk_tkb, n_tkb_tk, n_id9_tk, n_tk_id9, n_id9_id, n_id_id9, n_id9_tkb, n_tkb_id9]))
        | ((with_reducible apply AWp.ret); try simp -implicitDefEqProofs [hw1, n_tkb_id, n_id_tkb, n_tk_tkb, n_tkb_tk, n_tk_id, n_id_tk, hBi, hBt, n_tk_id, n_id_tk, n_tk_tkb, n_tkb_tk, n_id9_tk, n_tk_id9, n_id9_id, n_id_id9, n_id9_tkb, n_tkb_id9])
        | ((with_reducible apply AWp.skip); try simp -implicitDefEqProofs [hw1, n_tkb_id, n_id_tkb, n_tk_tkb, n_tkb_tk, n_tk_id, n_id_tk, hBi, hBt, n_tk_id, n_id_tk, n_tk_tkb, n_tkb_tk, n_id9_tk, n_tk_id9, n_id9_id, n_id_id9, n_id9_tkb, n_tkb_id9])
        | ((with_reducible apply AWp.exit); try simp -implicitDefEqProofs [hw1, n_tkb_id, n_id_tkb, n_tk_tkb, n_tkb_tk, n_tk_id, n_id_tk, hBi, hBt, n_tk_id, n_id_tk, n_tk_tkb, n_tkb_tk, n_id9_tk, n_tk_id9, n_id9_id, n_id_id9, n_id9_tkb, n_tkb_id9]))
    · have h4' : ((l.length : Int) % 4 = 0) = False := by simp; omega
      repeat (first
        | (with_reducible apply AWp.seq)
        | (with_reducible apply AWp.block)
        | ((with_reducible apply AWp.fork); simp -implicitDefEqProofs [hmod, h4', n_tkb_id, n_id_tkb, n_tk_tkb, n_tkb_tk, n_tk_id, n_id_tk, hBi, hBt, n_tk_id, n_id_tk, n_tk_tkb, n_tkb_tk])
        | ((with_reducible apply AWp.region); simp -implicitDefEqProofs [hmod, h4', n_tkb_id, n_id_tkb, n_tk_tkb, n_tkb_tk, n_tk_id, n_id_tk, hBi, hBt, n_tk_id, n_id_tk, n_tk_tkb, n_tkb_tk])
        | (with_reducible refine And.intro (by first | omega | assumption | decide) ?_)
        | ((with_reducible show condK _ _ _); simp -implicitDefEqProofs [hmod, h4', n_tkb_id, n_id_tkb, n_tk_tkb, n_tkb_tk, n_tk_id, n_id_tk, hBi, hBt, n_tk_id, n_id_tk, n_tk_tkb, n_tkb_tk])
        | ((with_reducible show guardK _ _ _ _ _ _ _ _ _); simp -implicitDefEqProofs [hmod, h4', n_tkb_id, n_id_tkb, n_tk_tkb, n_tkb_tk, n_tk_id, n_id_tk, hBi, hBt, n_tk_id, n_id_tk, n_tk_tkb, n_tkb_tk])
        | ((with_reducible apply AWp.ret); try simp -implicitDefEqProofs [hmod, h4', n_tkb_id, n_id_tkb, n_tk_tkb, n_tkb_tk, n_tk_id, n_id_tk, hBi, hBt, n_tk_id, n_id_tk, n_tk_tkb, n_tkb_tk])
        | ((with_reducible apply AWp.skip); try simp -implicitDefEqProofs [hmod, h4', n_tkb_id, n_id_tkb, n_tk_tkb, n_tkb_tk, n_tk_id, n_id_tk, hBi, hBt, n_tk_id, n_id_tk, n_tk_tkb, n_tkb_tk])
        | ((with_reducible apply AWp.exit); try simp -implicitDefEqProofs [hmod, h4', n_tkb_id, n_id_tkb, n_tk_tkb, n_tkb_tk, n_tk_id, n_id_tk, hBi, hBt, n_tk_id, n_id_tk, n_tk_tkb, n_tkb_tk]))
      refine ⟨mm - 1, _, _, by omega, FrWk.mk ?_, AS.le_refl _, l ++ [9], tk, by simp; omega, by simp; omega, h_tk, by simp, rfl⟩
      simp

end Go.Proofs.Ytnkjbgcbchbonaa
