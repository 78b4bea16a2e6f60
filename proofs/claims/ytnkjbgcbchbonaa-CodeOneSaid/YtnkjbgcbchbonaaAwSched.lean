/- A layer of abstract values over the model's machine: own work for this claim, part AwSched. -/
import Derived.Test.YtnkjbgcbchbonaaAwPure
set_option linter.unusedSimpArgs false
set_option linter.unusedVariables false
namespace Go.AW
open Go Go.RowKit

variable {P : Program} {σ : AS}

theorem det_mono {X : (AV → Prop) → Prop} (hd : Det X) {K K' : AV → Prop} (h : X K) (hk : ∀ v, K v → K' v) : X K' := by
  obtain ⟨v, h1, h2⟩ := hd K h
  exact h2 K' (hk v h1)

theorem aAppend_mono {t tx : TypeId} {s x : AV} {K K' : AV → AS → Prop} (hk : ∀ v σ, K v σ → K' v σ) (h : aAppend P σ t tx s x K) : aAppend P σ t tx s x K' := by
  unfold aAppend at h ⊢
  split
  · rename_i e he
    simp only [he] at h
    obtain ⟨h1, h2, h3, h4⟩ := h
    refine ⟨h1, h2, h3, ?_⟩
    split
    · rename_i xs hx
      simp only [hx] at h4
      split
      · simp only at h4; exact ⟨h4.1, h4.2.1, fun tk htk => hk _ _ (h4.2.2 tk htk)⟩
      · simp only at h4; exact ⟨h4.1, h4.2.1, h4.2.2.1, fun tk htk => hk _ _ (h4.2.2.2 tk htk)⟩
      · simp only at h4; exact ⟨h4.1, h4.2.1, h4.2.2.1, h4.2.2.2.1, hk _ _ h4.2.2.2.2⟩
      · rename_i a b c
        split at h4
        · exact (a rfl).elim
        · exact (b _ _ _ rfl).elim
        · exact (c _ _ _ _ rfl).elim
        · exact h4.elim
    · rename_i hx
      simp only [hx] at h4
  · rename_i he
    simp only [he] at h

theorem aBuiltin_mono {b : Builtin} {ts : List TypeId} {args : List AV} {K K' : AV → AS → Prop} (hk : ∀ v σ, K v σ → K' v σ) (h : aBuiltin P σ b ts args K) : aBuiltin P σ b ts args K' := by
  unfold aBuiltin at h
  split at h
  · exact det_mono (det_len _ _) h (fun v hv => hk _ _ hv)
  · exact aAppend_mono hk h
  · exact hk _ _ h
  · exact hk _ _ h
  · exact h.elim

theorem aop_mono {s : Fr} {K K' Pn Pn' : AV → AS → Prop} (hk : ∀ v σ, K v σ → K' v σ) (hp : ∀ v σ, Pn v σ → Pn' v σ) (op : Op) (h : aop P s σ K Pn op) : aop P s σ K' Pn' op := by
  cases op <;> simp only [aop] at h ⊢
  case move x => exact hk _ _ h
  case assign x => exact hk _ _ h
  case pick c a b =>
    split at h
    · exact hk _ _ h
    · exact h.elim
  case alloc e => exact ⟨h.1, fun id hid => hk _ _ (h.2 id hid)⟩
  case box e x => exact ⟨h.1, fun id hid => hk _ _ (h.2 id hid)⟩
  case build t parts => exact det_mono (det_build _ _) h (fun v => hk v σ)
  case buildSlice t n parts =>
    obtain ⟨v, h1, h2⟩ := det_buildSlice _ _ _ _ h
    exact h2 _ _ (hk _ _ h1)
  case load t a => exact det_mono (det_load _ _) h (fun v => hk v σ)
  case store t a x =>
    unfold aStore at h ⊢
    split at h
    · split at h
      · exact ⟨h.1, h.2.1, h.2.2.1, h.2.2.2.1, h.2.2.2.2.1, hk _ _ h.2.2.2.2.2⟩
      · exact h.elim
    · exact h.elim
  case nilCheck x => exact det_mono (det_nilCheck _) h (fun v => hk v σ)
  case binOp op t x y yt => exact det_mono (det_bin _ _ _ _) h (fun v => hk v σ)
  case unOp op t x => exact det_mono (det_un _ _) h (fun v => hk v σ)
  case convert a b x => exact det_mono (det_convert _ _ _) h (fun v => hk v σ)
  case makeInterface t x => exact ⟨h.1, hk _ _ h.2⟩
  case makeFunc f first cap => exact hk _ _ h
  case makeMap t r => exact ⟨h.1, fun id hid => hk _ _ (h.2 id hid)⟩
  case range t x =>
    unfold aRange at h ⊢
    split at h
    · exact ⟨h.1, fun id hid => hk _ _ (h.2 id hid)⟩
    · split at h
      · exact fun id hid => hk _ _ (h id hid)
      · exact h.elim
    · exact h.elim
  case next it str =>
    unfold aNext at h ⊢
    split at h
    · refine ⟨h.1, ?_⟩
      have h2 := h.2
      split at h2
      · unfold nextM at h2 ⊢
        split at h2
        · exact ⟨h2.1, fun h3 => hk _ _ (h2.2.1 h3), fun k h3 h4 => hk _ _ (h2.2.2 k h3 h4)⟩
        · exact h2.elim
      · exact h2.elim
    · refine ⟨h.1, ?_⟩
      have h2 := h.2
      split at h2
      · rename_i b pos _
        unfold nextS at h2 ⊢
        by_cases hp : pos < b.size
        · rw [if_pos hp] at h2 ⊢
          exact hk _ _ h2
        · rw [if_neg hp] at h2 ⊢
          exact hk _ _ h2
      · exact h2.elim
    · exact h.elim
  case entry it =>
    unfold aEntry at h ⊢
    split at h
    · refine ⟨h.1, ?_⟩
      have h2 := h.2
      split at h2
      · split at h2
        · exact ⟨h2.1, hk _ _ h2.2⟩
        · exact h2.elim
      · exact h2.elim
    · exact h.elim
  case makeSlice t l c =>
    unfold aMakeSlice at h ⊢
    split at h
    · obtain ⟨h1, h2, h3, h4, h5, h6, h7, h8⟩ := h
      exact ⟨h1, h2, h3, h4, h5, h6, h7, fun id hid => hk _ _ (h8 id hid)⟩
    · exact h.elim
  case slice t x lo hi mx => exact det_mono (det_slice _ _ _ _ _) h (fun v => hk v σ)
  case fieldAddr t x f => exact det_mono (det_fieldAddr _ _ _) h (fun v => hk v σ)
  case field t x f => exact det_mono (det_field _ _ _) h (fun v => hk v σ)
  case indexAddr t x i => exact det_mono (det_indexAddr _ _ _) h (fun v => hk v σ)
  case index t x i => exact det_mono (det_index _ _ _) h (fun v => hk v σ)
  case extract x i => exact det_mono (det_extract _ _) h (fun v => hk v σ)
  case panic x =>
    split at h
    · exact hp _ _ h
    · exact h.elim
  case call c =>
    obtain ⟨callee, args, ats⟩ := c
    cases callee
    case builtin b => exact aBuiltin_mono hk h
    all_goals exact h.elim

theorem aCall_mono {fv : AV} {args : List AV} {K Kp K' Kp' : AV → AS → Prop} (hk : ∀ v σ, K v σ → K' v σ) (hp : ∀ v σ, Kp v σ → Kp' v σ) (h : aCall P fv args σ K Kp) : aCall P fv args σ K' Kp' := by
  unfold aCall at h ⊢
  split at h
  · obtain ⟨h1, h2, R, Rp, h3, h4, h5⟩ := h
    exact ⟨h1, h2, R, Rp, h3, fun r σ' hr => hk _ _ (h4 r σ' hr), fun r σ' hr => hp _ _ (h5 r σ' hr)⟩
  · obtain ⟨R, Rp, h3, h4, h5⟩ := h
    exact ⟨R, Rp, h3, fun r σ' hr => hk _ _ (h4 r σ' hr), fun r σ' hr => hp _ _ (h5 r σ' hr)⟩
  · exact h.elim

theorem runOp_mono {op : Op} {s : Fr} {K Kp K' Kp' : AV → AS → Prop} (hk : ∀ v σ, K v σ → K' v σ) (hp : ∀ v σ, Kp v σ → Kp' v σ) (h : runOp P op s σ K Kp) : runOp P op s σ K' Kp' := by
  unfold runOp at h ⊢
  cases op
  case call c =>
    obtain ⟨callee, args, ats⟩ := c
    cases callee
    case value f => exact aCall_mono hk hp h
    all_goals exact aop_mono hk hp _ h
  all_goals exact aop_mono hk hp _ h

theorem gop_mono {ops : Array Oper} {n : Nat} {o : Oper} {s : Fr} {K Kp K' Kp' : AV → AS → Prop} (hk : ∀ v σ, K v σ → K' v σ) (hp : ∀ v σ, Kp v σ → Kp' v σ) (h : gop P ops n o s σ K Kp) : gop P ops n o s σ K' Kp' := by
  unfold gop at h ⊢
  refine ⟨h.1, ?_⟩
  have h2 := h.2
  split
  · rename_i hg; simp only [hg] at h2; exact runOp_mono hk hp h2
  · rename_i j want hg; simp only [hg] at h2; exact onGuard_map h2 (runOp_mono hk hp) (hk _ _)

/-! ## operations that hang on their operands alone; operations that read -/

def lenPure : List AV → Bool
  | [.lst ..] | [.nilS] | [.msl ..] | [.sc _] => true
  | _ => false

def pureAt (s : Fr) (op : Op) : Bool :=
  match op with
  | .move _ | .assign _ | .pick .. | .build .. | .buildSlice .. | .nilCheck _ | .binOp .. | .unOp .. | .convert .. | .makeInterface .. | .makeFunc .. | .slice ..
  | .fieldAddr .. | .field .. | .indexAddr .. | .index .. | .extract .. => true
  | .load _ a => match ev s a with | .cptr _ => true | _ => false
  | .call c => match c.callee with
    | .builtin .len => lenPure (c.args.toList.map (ev s))
    | .builtin .min => true
    | .builtin .max => true
    | _ => false
  | _ => false

def readB (op : Op) : Bool :=
  match op with
  | .move _ | .assign _ | .pick .. | .build .. | .buildSlice .. | .nilCheck _ | .binOp .. | .unOp .. | .convert .. | .makeInterface .. | .makeFunc .. | .slice ..
  | .fieldAddr .. | .field .. | .indexAddr .. | .index .. | .extract .. | .load .. => true
  | .call c => match c.callee with
    | .builtin .len => true
    | .builtin .min => true
    | .builtin .max => true
    | _ => false
  | _ => false

theorem read_det {op : Op} {s : Fr} {Kv Kp : AV → AS → Prop} (hr : readB op = true) (h : runOp P op s σ Kv Kp) : ∃ v, Kv v σ ∧ ∀ Kv' Kp' : AV → AS → Prop, Kv' v σ → runOp P op s σ Kv' Kp' := by
  have lift : ∀ {X : (AV → Prop) → Prop}, Det X → X (fun v => Kv v σ) → (∀ (Kv' Kp' : AV → AS → Prop), X (fun v => Kv' v σ) → runOp P op s σ Kv' Kp') → ∃ v, Kv v σ ∧ ∀ Kv' Kp' : AV → AS → Prop, Kv' v σ → runOp P op s σ Kv' Kp' := by
    intro X hd hx hb
    obtain ⟨v, h1, h2⟩ := hd _ hx
    exact ⟨v, h1, fun Kv' Kp' hk => hb Kv' Kp' (h2 (fun v => Kv' v σ) hk)⟩
  cases op <;> (try simp only [readB] at hr) <;> first | (cases hr; done) | skip
  case move x => exact ⟨_, h, fun _ _ hk => hk⟩
  case assign x => exact ⟨_, h, fun _ _ hk => hk⟩
  case pick c a b =>
    have h' : aop P s σ Kv Kp (.pick c a b) := h
    simp only [aop] at h'
    split at h'
    · rename_i t hc; exact ⟨_, h', fun Kv' Kp' hk => by show aop P s σ Kv' Kp' (.pick c a b); simp only [aop, hc]; exact hk⟩
    · exact h'.elim
  case build t parts => exact lift (det_build _ _) h (fun _ _ hx => hx)
  case buildSlice t n parts =>
    obtain ⟨v, h1, h2⟩ := det_buildSlice _ _ _ _ h
    exact ⟨v, h1, fun Kv' Kp' hk => h2 σ Kv' hk⟩
  case load t a => exact lift (det_load _ _) h (fun _ _ hx => hx)
  case nilCheck x => exact lift (det_nilCheck _) h (fun _ _ hx => hx)
  case binOp op t x y yt => exact lift (det_bin _ _ _ _) h (fun _ _ hx => hx)
  case unOp op t x => exact lift (det_un _ _) h (fun _ _ hx => hx)
  case convert a b x => exact lift (det_convert _ _ _) h (fun _ _ hx => hx)
  case makeInterface t x => exact ⟨_, h.2, fun _ _ hk => ⟨h.1, hk⟩⟩
  case makeFunc f first cap => exact ⟨_, h, fun _ _ hk => hk⟩
  case slice t x lo hi mx => exact lift (det_slice _ _ _ _ _) h (fun _ _ hx => hx)
  case fieldAddr t x f => exact lift (det_fieldAddr _ _ _) h (fun _ _ hx => hx)
  case field t x f => exact lift (det_field _ _ _) h (fun _ _ hx => hx)
  case indexAddr t x i => exact lift (det_indexAddr _ _ _) h (fun _ _ hx => hx)
  case index t x i => exact lift (det_index _ _ _) h (fun _ _ hx => hx)
  case extract x i => exact lift (det_extract _ _) h (fun _ _ hx => hx)
  case call c =>
    obtain ⟨callee, args, ats⟩ := c
    cases callee
    case builtin b =>
      have h' : aBuiltin P σ b ats.toList (args.toList.map (ev s)) Kv := h
      unfold aBuiltin at h'
      split at h'
      · rename_i t x e1 e2
        obtain ⟨v, h1, h2⟩ := det_len _ _ _ h'
        refine ⟨v, h1, fun Kv' Kp' hk => ?_⟩
        show aBuiltin P σ .len ats.toList (args.toList.map (ev s)) Kv'
        rw [e1, e2]
        exact h2 (fun v => Kv' v σ) hk
      · simp [readB] at hr
      · rename_i k a k' b' e2
        refine ⟨_, h', fun Kv' Kp' hk => ?_⟩
        show aBuiltin P σ .min ats.toList (args.toList.map (ev s)) Kv'
        rw [e2]
        exact hk
      · rename_i k a k' b' e2
        refine ⟨_, h', fun Kv' Kp' hk => ?_⟩
        show aBuiltin P σ .max ats.toList (args.toList.map (ev s)) Kv'
        rw [e2]
        exact hk
      · exact h'.elim
    all_goals simp [readB] at hr

theorem pure_det {op : Op} {s : Fr} {Kv Kp : AV → AS → Prop} (hr : pureAt s op = true) (h : runOp P op s σ Kv Kp) : ∃ v, Kv v σ ∧ ∀ (σ' : AS) (Kv' Kp' : AV → AS → Prop), Kv' v σ' → runOp P op s σ' Kv' Kp' := by
  have lift : ∀ {X : (AV → Prop) → Prop}, Det X → X (fun v => Kv v σ) → (∀ (σ' : AS) (Kv' Kp' : AV → AS → Prop), X (fun v => Kv' v σ') → runOp P op s σ' Kv' Kp') → ∃ v, Kv v σ ∧ ∀ (σ' : AS) (Kv' Kp' : AV → AS → Prop), Kv' v σ' → runOp P op s σ' Kv' Kp' := by
    intro X hd hx hb
    obtain ⟨v, h1, h2⟩ := hd _ hx
    exact ⟨v, h1, fun σ' Kv' Kp' hk => hb σ' Kv' Kp' (h2 (fun v => Kv' v σ') hk)⟩
  cases op <;> (try simp only [pureAt] at hr) <;> first | (cases hr; done) | skip
  case move x => exact ⟨_, h, fun _ _ _ hk => hk⟩
  case assign x => exact ⟨_, h, fun _ _ _ hk => hk⟩
  case pick c a b =>
    have h' : aop P s σ Kv Kp (.pick c a b) := h
    simp only [aop] at h'
    split at h'
    · rename_i t hc; exact ⟨_, h', fun σ' Kv' Kp' hk => by show aop P s σ' Kv' Kp' (.pick c a b); simp only [aop, hc]; exact hk⟩
    · exact h'.elim
  case build t parts => exact lift (det_build _ _) h (fun _ _ _ hx => hx)
  case buildSlice t n parts =>
    obtain ⟨v, h1, h2⟩ := det_buildSlice _ _ _ _ h
    exact ⟨v, h1, fun σ' Kv' Kp' hk => h2 σ' Kv' hk⟩
  case load t a =>
    have h' : aLoad P σ t (ev s a) (fun v => Kv v σ) := h
    cases hx : ev s a <;> (try simp only [hx] at hr) <;> first | (cases hr; done) | skip
    rename_i cells
    have ind : ∀ (σ' : AS) (K : AV → Prop), aLoad P σ t (.cptr cells) K → aLoad P σ' t (.cptr cells) K := by
      intro σ' K hh
      unfold aLoad at hh ⊢
      cases hl : lkT P t <;> simp only [hl] at hh ⊢ <;> exact hh
    rw [hx] at h'
    obtain ⟨v, h1, h2⟩ := det_load _ _ _ h'
    exact ⟨v, h1, fun σ' Kv' Kp' hk => by
      show aLoad P σ' t (ev s a) (fun v => Kv' v σ')
      rw [hx]
      exact ind σ' _ (h2 (fun v => Kv' v σ') hk)⟩
  case nilCheck x => exact lift (det_nilCheck _) h (fun _ _ _ hx => hx)
  case binOp op t x y yt => exact lift (det_bin _ _ _ _) h (fun _ _ _ hx => hx)
  case unOp op t x => exact lift (det_un _ _) h (fun _ _ _ hx => hx)
  case convert a b x => exact lift (det_convert _ _ _) h (fun _ _ _ hx => hx)
  case makeInterface t x => exact ⟨_, h.2, fun _ _ _ hk => ⟨h.1, hk⟩⟩
  case makeFunc f first cap => exact ⟨_, h, fun _ _ _ hk => hk⟩
  case slice t x lo hi mx => exact lift (det_slice _ _ _ _ _) h (fun _ _ _ hx => hx)
  case fieldAddr t x f => exact lift (det_fieldAddr _ _ _) h (fun _ _ _ hx => hx)
  case field t x f => exact lift (det_field _ _ _) h (fun _ _ _ hx => hx)
  case indexAddr t x i => exact lift (det_indexAddr _ _ _) h (fun _ _ _ hx => hx)
  case index t x i => exact lift (det_index _ _ _) h (fun _ _ _ hx => hx)
  case extract x i => exact lift (det_extract _ _) h (fun _ _ _ hx => hx)
  case call c =>
    obtain ⟨callee, args, ats⟩ := c
    cases callee
    case builtin b =>
      have h' : aBuiltin P σ b ats.toList (args.toList.map (ev s)) Kv := h
      unfold aBuiltin at h'
      split at h'
      · rename_i t x e1 e2
        obtain ⟨o, rfl⟩ : ∃ o, args = #[o] := by
          cases hl : args.toList with
          | nil => rw [hl] at e2; simp at e2
          | cons o r =>
            rw [hl] at e2
            simp at e2
            obtain ⟨_, rfl⟩ := e2
            exact ⟨o, one_of hl⟩
        have e3 : ev s o = x := by simpa using e2
        have hlp : lenPure [x] = true := by
          have : lenPure ((#[o] : Array Operand).toList.map (ev s)) = true := hr
          simpa [e3] using this
        have ind : ∀ (σ' : AS) (K : AV → Prop), aLen P σ t x K → aLen P σ' t x K := by
          intro σ' K hh
          unfold aLen at hh ⊢
          split at hh <;> simp_all [lenPure]
        obtain ⟨v, h1, h2⟩ := det_len _ _ _ h'
        refine ⟨v, h1, fun σ' Kv' Kp' hk => ?_⟩
        show aBuiltin P σ' .len ats.toList ((#[o] : Array Operand).toList.map (ev s)) Kv'
        rw [e1, e2]
        exact ind σ' _ (h2 (fun v => Kv' v σ') hk)
      · simp [pureAt] at hr
      · rename_i k a k' b' e2
        refine ⟨_, h', fun σ' Kv' Kp' hk => ?_⟩
        show aBuiltin P σ' .min ats.toList (args.toList.map (ev s)) Kv'
        rw [e2]
        exact hk
      · rename_i k a k' b' e2
        refine ⟨_, h', fun σ' Kv' Kp' hk => ?_⟩
        show aBuiltin P σ' .max ats.toList (args.toList.map (ev s)) Kv'
        rw [e2]
        exact hk
      · exact h'.elim
    all_goals simp [pureAt] at hr

theorem pureAt_congr {op : Op} {s s' : Fr} (h : ∀ x ∈ op.operands, ev s x = ev s' x) : pureAt s op = pureAt s' op := by
  cases op <;> try rfl
  case load t a => simp only [pureAt, h a (by simp [Op.operands])]
  case call c =>
    obtain ⟨callee, args, ats⟩ := c
    cases callee <;> try rfl
    case builtin b =>
      cases b <;> try rfl
      case len =>
        show lenPure (args.toList.map (ev s)) = lenPure (args.toList.map (ev s'))
        rw [List.map_congr_left fun x hm => h x (by simp [Op.operands, Call.operands]; simpa using hm)]

end Go.AW
