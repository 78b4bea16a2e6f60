/- Chapter 05: what the program's own functions give, told without owners; the examples hold. -/
import Derived.Test.YtplphldpkliakaaSigK
set_option linter.unusedSimpArgs false
set_option linter.unusedVariables false
set_option maxRecDepth 100000
set_option maxHeartbeats 3200000
namespace Go.Proofs.Ytplphldpkliakaa
namespace Sg
open Go Go.AW

theorem unown {P : Program} {f : FuncId} {args : List AV} {σ : AS} {g : Nat → AV} {n : Nat} {v : AV} (h : ACalls P f args σ (Owns g n σ) No) (hw : ∀ tk, AV.Wk P (g tk) v) : ACalls P f args σ (Gives v σ) No :=
  ⟨h.body, fun G w vals hi hr => (h.run G w vals hi hr).mono fun e w' he => by
    unfold EndOk at he ⊢
    split at he
    · obtain ⟨G', σ', r, a, b, c, tk, h0, rfl, rfl⟩ := he
      exact ⟨G', σ, v, a, b.weaken (AS.le_set (AS.le_refl _) h0), hw tk _ _ c, rfl, rfl⟩
    · obtain ⟨x, y, G', σ', r, a, b, c, d⟩ := he; exact d.elim
    · exact he.elim⟩
theorem Wk_bok (b : List UInt8) (hb : b ≠ []) (tk : Nat) : AV.Wk Try.prog (.tup [.lst 5 (b.map u8) (.tok tk) false, .sc (.int .i64 0)]) (.tup [bL b, .sc (.int .i64 0)]) := Wk_tup2 (Wk_tokB _ _ _ (by simp [hb])) (Wk.refl _)

def putT (t : Ty) : Except Int (List UInt8) := if plainT t = true then .ok (tyB t) else .error 17
def putF (t : Ty) : Except Int (List UInt8) := if fieldT' t = true then .ok (6 :: tyB t) else .error 17
theorem tyB_ne (t : Ty) : tyB t ≠ [] := by
  unfold tyB kdB
  intro h
  have h2 := (List.append_eq_nil_iff.1 (List.append_eq_nil_iff.1 h).2).2
  revert h2
  repeat' split
  all_goals simp

theorem Put_g (t : Ty) (σ : AS) : ACalls Try.prog 21 [tyV t] σ (Gives (.tup [bL (resB (putT t)), .sc (.int .i64 (resE (putT t)))]) σ) No := by
  unfold putT
  by_cases h : plainT t = true
  · rw [if_pos h]; exact unown (Put_ok t h σ) fun tk => Wk_bok _ (tyB_ne t) tk
  · rw [if_neg h]; exact (Put_bad t (by simpa using h) σ).told (Wk_tup2 Wk_nilB (Wk.refl _))
theorem PutField_g (t : Ty) (σ : AS) : ACalls Try.prog 22 [tyV t] σ (Gives (.tup [bL (resB (putF t)), .sc (.int .i64 (resE (putF t)))]) σ) No := by
  unfold putF
  by_cases h : fieldT' t = true
  · rw [if_pos h]; exact unown (PutField_ok t h σ) fun tk => Wk_bok _ (by simp) tk
  · rw [if_neg h]; exact (PutField_bad t (by simpa using h) σ).told (Wk_tup2 Wk_nilB (Wk.refl _))
theorem PutLocals_g (l : List Ty) (o : Own) (nl : Bool) (hl : l.length ≤ 100000) (σ : AS) : ACalls Try.prog 27 [.lst 24 (l.map tyV) o nl] σ
    (Gives (.tup [bL (resB (putLoc l)), .sc (.int .i64 (resE (putLoc l)))]) σ) No := by
  unfold putLoc
  by_cases h : 12 < l.length
  · rw [if_pos h]; exact (PutLocals_long l o nl h (by omega) σ).told (Wk_tup2 Wk_nilB (Wk.refl _))
  · rw [if_neg h]
    by_cases h2 : l.all localT = true
    · rw [if_pos h2]; exact unown (PutLocals_ok l o nl (by omega) h2 σ) fun tk => Wk_bok _ (by simp [lcB]) tk
    · rw [if_neg h2]; exact (PutLocals_bad l o nl (by omega) (by simpa using h2) σ).told (Wk_tup2 Wk_nilB (Wk.refl _))
theorem PutSig_g (th : Bool) (l : List Ty) (r : Ty) (o : Own) (nl : Bool) (hl : l.length ≤ 100000) (σ : AS) :
    ACalls Try.prog 14 [.agg [.sc (.bool th), .lst 24 (l.map tyV) o nl, .sc (.int .i64 r.kind), .sc (.int .i64 r.index), .sc (.int .i64 r.dims), .sc (.bool r.ref)]] σ
    (Gives (.tup [bL (resB (putSig ⟨th, l, r⟩)), .sc (.int .i64 (resE (putSig ⟨th, l, r⟩)))]) σ) No := by
  unfold putSig
  by_cases h : 6 < l.length
  · rw [if_pos h]; exact (PutSig_long th l r o nl h (by omega) σ).told (Wk_tup2 Wk_nilB (Wk.refl _))
  · rw [if_neg h]
    by_cases h2 : (l.all localT && answerT r) = true
    · rw [if_pos h2]; exact unown (PutSig_ok th l r o nl (by omega) h2 σ) fun tk => Wk_bok _ (by simp [sgB]) tk
    · rw [if_neg h2]; exact (PutSig_bad th l r o nl (by omega) (by simpa using h2) σ).told (Wk_tup2 Wk_nilB (Wk.refl _))
theorem rput_g (t : Ty) (h : plainT t = true) (σ : AS) : ACalls Try.prog 23 [tyV t] σ (Gives (bL (tyB t)) σ) No :=
  unown (rput_ok t h σ) fun tk => Wk_tokB _ _ _ (by simp [tyB_ne])

theorem wakes_ok (σ : AS) : ACalls Try.prog 13 [] σ (Gives (.sc (.bool true)) σ) No := by
  have h1 := fun σ => Put_g ⟨2, 0, 1, false⟩ σ
  have h2 := fun σ => PutSig_g false [⟨2, 0, 0, false⟩] ⟨1, 0, 0, false⟩ .full false (by simp) σ
  have e1 : putT ⟨2, 0, 1, false⟩ = .ok [29, 8] := by rfl
  have e2 : putSig ⟨false, [⟨2, 0, 0, false⟩], ⟨1, 0, 0, false⟩⟩ = .ok [0, 1, 1, 8] := by rfl
  rw [e1] at h1
  rw [e2] at h2
  simp only [resB, resE, tyV_def, List.map_cons, List.map_nil, bL_def, u8] at h1 h2
  simp at h1 h2
  refine ACalls.of_body Try.func13 rfl rfl (by simp [Try.ntmps13]) ?_
  have a1 : allU8 [.sc (.int .u8 29), .sc (.int .u8 8)] = some [29, 8] := rfl
  have a2 : allU8 [.sc (.int .u8 0), .sc (.int .u8 1), .sc (.int .u8 1), .sc (.int .u8 8)] = some [0, 1, 1, 8] := rfl
  repeat (first
    | (with_reducible first | apply AWp.seq | apply AWp.block | refine And.intro (by first | omega | assumption | decide) ?_)
    | ((first | (with_reducible first | apply AWp.fork | apply AWp.region | show condK _ _ _ | show guardK _ _ _ _ _ _ _ _ _) | ((with_reducible apply aCall.id); first | apply aCall.gives (h1 _) | apply aCall.gives (h2 _))); simp -implicitDefEqProofs [a1, a2])
    | ((with_reducible first | apply AWp.ret | apply AWp.skip | apply AWp.exit); try simp -implicitDefEqProofs [a1, a2]))

end Sg
end Go.Proofs.Ytplphldpkliakaa
