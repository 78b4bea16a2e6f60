/- Package sigs: all, Put, PutField. -/
import Derived.Test.YtknalmoackcpbaaGreatAwGo
import Derived.Test.YtknalmoackcpbaaGreatSig9
import Derived.Test.YtknalmoackcpbaaGreatSig7
set_option linter.unusedSimpArgs false
set_option linter.unusedVariables false
set_option maxRecDepth 100000
set_option maxHeartbeats 3200000
namespace Go.Proofs.YtknalmoackcpbaaGreat
namespace Sg
open Go Go.AW
theorem D0_XSigA (S : List Nat) : Plans Tryz.prog [] S := mixed
theorem callMint {P : Program} {f : FuncId} {e : TypeId} {es : List AV} {nil : Bool} {ar : List AV} {σ : AS} {R Rp : AV → AS → Prop} (hb : hasBody P f = true)
    (h : ∀ tk, σ tk = none → ACalls P f (.lst e es (.tok tk) nil :: ar) (σ.set tk (.tok es.length)) R Rp) : ACalls P f (.lst e es .full nil :: ar) σ R Rp := by
  refine ⟨hb, fun G w vals hi hr => ?_⟩
  have h0 := hr.2 0 (by simp)
  simp only [List.getD_cons_zero] at h0
  obtain ⟨r, m1, m2, m3⟩ := h0.mint hi
  refine ((h G.top hi.fresh).run _ w vals m2 ⟨by simpa using hr.1, fun i hi' => ?_⟩).mono fun x w' he => ?_
  · cases i with
    | zero => simpa using m3
    | succ k => simpa using (hr.2 (k + 1) (by simpa using hi')).mono m1
  · unfold EndOk at he ⊢
    split at he
    · obtain ⟨G2, σ', r, g1, g2, g3, g4⟩ := he
      exact ⟨G2, σ', r, m1.trans g1, g2, g3, g4⟩
    · obtain ⟨x, y, G2, σ', r, g1, g2, g3, g4⟩ := he
      exact ⟨x, y, G2, σ', r, m1.trans g1, g2, g3, g4⟩
    · exact he.elim
theorem put_full (l : List UInt8) (nl : Bool) (hnl : nl = true → l = []) (hl : l.length ≤ 1000) (t : Ty) (ht : plainT t = true) (σ : AS) :
    ACalls Tryz.prog 135 [.lst 5 (l.map u8) .full nl, tyV t] σ
      (Owns (fun tk => .lst 5 ((l ++ tyB t).map u8) (.tok tk) false) (l ++ tyB t).length σ) No :=
  callMint (by kernel_rfl) fun tk h0 => by simpa using put_tok l tk nl hnl hl t ht σ h0
def idxS {α : Type} (g : α → Bool) (l : List α) : Int := match l.findIdx? g with | some i => (i : Int) | none => -1
theorem idxS_at {α : Type} {g : α → Bool} {l : List α} {i : Nat} (h : i < l.length) (h1 : ∀ x ∈ l.take i, g x = false) (h2 : g l[i] = true) : idxS g l = i := by
  have : l.findIdx? g = some i := by
    rw [List.findIdx?_eq_some_iff_getElem]
    refine ⟨h, h2, fun j hj => ?_⟩
    rw [h1 _ (by rw [List.mem_take_iff_getElem]; exact ⟨j, by omega, rfl⟩)]; simp
  simp [idxS, this]
theorem idxS_no {α : Type} {g : α → Bool} {l : List α} (h1 : ∀ x ∈ l, g x = false) : idxS g l = -1 := by
  have : l.findIdx? g = none := by rw [List.findIdx?_eq_none_iff]; exact h1
  simp [idxS, this]
theorem idxS_any {α : Type} (g : α → Bool) (l : List α) : decide (0 ≤ idxS g l) = l.any g := by
  unfold idxS
  cases h : l.findIdx? g with
  | none =>
    rw [List.findIdx?_eq_none_iff] at h
    simp
    exact h
  | some i =>
    rw [List.findIdx?_eq_some_iff_getElem] at h
    obtain ⟨h1, h2, _⟩ := h
    simp
    exact ⟨_, List.getElem_mem h1, h2⟩
theorem take_all {α : Type} {g : α → Bool} {l : List α} {i : Nat} (h : i < l.length) (h1 : ∀ x ∈ l.take i, g x = false) (h2 : g l[i] = false) : ∀ x ∈ l.take (i + 1), g x = false := by
  intro x hx
  rw [List.take_succ_eq_append_getElem h] at hx
  rcases List.mem_append.1 hx with hx | hx
  · exact h1 x hx
  · simp at hx; rw [hx]; exact h2
theorem indexF_ok (l : List Ty) (o : Own) (nl : Bool) (fv : AV) (g : Ty → Bool) (σ : AS) (hl : l.length ≤ 140737488355328) (hf : ∀ x ∈ l, FnG Tryz.prog σ fv [tyV x] (.sc (.bool (g x)))) :
    ACalls Tryz.prog 173 [.lst 49 (l.map tyV) o nl, fv] σ (Gives (.sc (.int .i64 (idxS g l))) σ) No := by
  refine ACalls.of_body Tryz.func173 rfl rfl (by simp [Tryz.ntmps173]) ?_
  refine gO (D0_XSigA []) (j2 @ci_lt @ci_le) True.intro (k := ?_)
  refine AWp.loopA (α := (Nat)) (0) (fun i => l.length - i) (fun i => i ≤ l.length ∧ ∀ x ∈ l.take i, g x = false) [(0, ?_), (1, ?_), (7, ?_)] (fun i => [(8, .sc (.int .i64 i))]) (fun i => σ) ?_ ?_ ?_ ?_
  rotate_left 3
  · (try dsimp only); (simp only [List.cons_append, List.nil_append]; repeat (first | exact FrWk.nil | refine FrWk.cons (by first | (simp -implicitDefEqProofs [ci_lt, ci_le]; done) | exact Wk.of (by (try simp -implicitDefEqProofs [ci_lt, ci_le]) <;> rfl)) ?_))
  · (try dsimp only); (first | exact AS.le_refl _ | assumption | (repeat (first | exact AS.le_refl _ | assumption | refine le_new (by simp [*]) ?_)))
  · (try dsimp only) <;> first | exact trivial | exact ⟨by omega, rfl⟩ | omega | (simp; done) | exact ⟨by omega, by simp⟩ | exact ⟨by omega, by simp, rfl⟩
  intro i hx_
  try dsimp only at hx_ ⊢
  obtain ⟨hi, hX⟩ := hx_
  simp only [List.cons_append, List.nil_append]
  by_cases hlt : i < l.length
  · have wi_i : IntKind.i64.wrap ((i : Int) + 1) = ((i + 1 : Nat) : Int) := ci_wi (by omega)
    have hu := (hf l[i] (List.getElem_mem hlt))
    simp only [tyV_def] at hu
    cases hg : g l[i] with
    | true =>
      rw [hg] at hu
      rw [idxS_at hlt hX hg]
      repeat (first
        | (with_reducible first | apply AWp.seq | apply AWp.block | refine And.intro (by first | omega | assumption | decide) ?_)
        | ((first | (with_reducible first | apply AWp.fork | apply AWp.region | show condK _ _ _ | show guardK _ _ _ _ _ _ _ _ _) | ((with_reducible apply aCall.id); first | apply (hu.use))); simp -implicitDefEqProofs [hlt, tyV_def, ci_lt, ci_le, wi_i])
        | ((with_reducible first | apply AWp.ret | apply AWp.skip | apply AWp.exit); try simp -implicitDefEqProofs [hlt, tyV_def, ci_lt, ci_le, wi_i]))
    | false =>
      rw [hg] at hu
      repeat (first
        | (with_reducible first | apply AWp.seq | apply AWp.block | refine And.intro (by first | omega | assumption | decide) ?_)
        | ((first | (with_reducible first | apply AWp.fork | apply AWp.region | show condK _ _ _ | show guardK _ _ _ _ _ _ _ _ _) | ((with_reducible apply aCall.id); first | apply (hu.use))); simp -implicitDefEqProofs [hlt, tyV_def, ci_lt, ci_le, wi_i])
        | ((with_reducible first | apply AWp.ret | apply AWp.skip | apply AWp.exit); try simp -implicitDefEqProofs [hlt, tyV_def, ci_lt, ci_le, wi_i]))
      refine stepA.mk (i + 1) (by (try dsimp only); omega) (by (try dsimp only); (simp only [List.cons_append, List.nil_append]; repeat (first | exact FrWk.nil | refine FrWk.cons (by first | (simp -implicitDefEqProofs [ci_lt, ci_le, wi_i]; done) | exact Wk.of (by (try simp -implicitDefEqProofs [ci_lt, ci_le, wi_i]) <;> rfl)) ?_))) (by (try dsimp only); (first | exact AS.le_refl _ | assumption | (repeat (first | exact AS.le_refl _ | assumption | refine le_new (by simp [*]) ?_)))) ?_
      try dsimp only
      exact ⟨hlt, take_all hlt hX hg⟩
  · rw [idxS_no (by rwa [List.take_of_length_le (by omega)] at hX)]
    exact gE (D0_XSigA []) (j3 @hlt @ci_lt @ci_le) True.intro
theorem contains_ok (l : List Ty) (o : Own) (nl : Bool) (fv : AV) (g : Ty → Bool) (σ : AS) (hl : l.length ≤ 140737488355328) (hf : ∀ x ∈ l, FnG Tryz.prog σ fv [tyV x] (.sc (.bool (g x)))) :
    ACalls Tryz.prog 118 [.lst 49 (l.map tyV) o nl, fv] σ (Gives (.sc (.bool (l.any g))) σ) No := by
  have hi := indexF_ok l o nl fv g σ hl hf
  rw [← idxS_any]
  refine ACalls.of_body Tryz.func118 rfl rfl (by simp [Tryz.ntmps118]) ?_
  exact gE (D0_XSigA []) True.intro @hi
theorem PutField_ok (t : Ty) (ht : fieldT' t = true) (σ : AS) : ACalls Tryz.prog 62 [tyV t] σ
    (Owns (fun tk => .tup [.lst 5 ((6 :: tyB t).map u8) (.tok tk) false, .sc (.int .i64 0)]) (6 :: tyB t).length σ) No := by
  have h := fun σ => kfield_ok t σ
  have hpl : plainT t = true := by unfold fieldT' localT at ht; simp at ht; exact ht.1.1
  have hp := fun σ => put_full [6] false (by simp) (by simp) t hpl σ
  rw [ht] at h
  simp at hp
  refine ACalls.of_body Tryz.func62 rfl rfl (by simp [Tryz.ntmps62]) ?_
  simp only [tyV_def] at h hp ⊢
  refine gO (D0_XSigA []) True.intro True.intro (k := ?_)
  intro id h_id
  refine gO (D0_XSigA []) True.intro (j2 @h @hp) (k := ?_)
  intro tk n_tk_id h_tk
  refine gO (D0_XSigA []) True.intro True.intro (k := ?_)
  exact owns_end tk h_tk (by simp) (le_set (AS.le_set (AS.le_refl _) h_id))
theorem PutField_bad (t : Ty) (ht : fieldT' t = false) (σ : AS) : ACalls Tryz.prog 62 [tyV t] σ
    (Gives (.tup [.nilS, .sc (.int .i64 17)]) σ) No := by
  have h := fun σ => kfield_ok t σ
  rw [ht] at h
  refine ACalls.of_body Tryz.func62 rfl rfl (by simp [Tryz.ntmps62]) ?_
  simp only [tyV_def] at h ⊢
  refine gO (D0_XSigA []) True.intro True.intro (k := ?_)
  intro id h_id
  refine gO (D0_XSigA []) True.intro @h (k := ?_)
  exact AS.le_set (AS.le_refl _) h_id
end Sg
end Go.Proofs.YtknalmoackcpbaaGreat
