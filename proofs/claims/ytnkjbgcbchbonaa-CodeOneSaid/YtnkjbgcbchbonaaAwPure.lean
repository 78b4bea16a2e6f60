/- A layer of abstract values over the model's machine: own work for this claim, part AwPure. -/
import Derived.Test.YtnkjbgcbchbonaaAwDraw
set_option linter.unusedSimpArgs false
set_option linter.unusedVariables false
namespace Go.AW
open Go Go.RowKit

variable {P : Program} {σ : AS}

/-- It hands on one value, whatever waits for it. -/
def Det (X : (AV → Prop) → Prop) : Prop := ∀ K, X K → ∃ v, K v ∧ ∀ K', K' v → X K'

theorem det_load (t : TypeId) (x : AV) : Det (aLoad P σ t x) := by
  intro K h
  unfold aLoad at h
  split at h
  · rename_i hl
    split at h
    · rename_i hs; exact ⟨_, h.2, fun K' hk => by simp only [aLoad, hl, hs]; exact ⟨h.1, hk⟩⟩
    · exact h.elim
  · rename_i hl
    split at h
    · rename_i hs; exact ⟨_, h.2.2, fun K' hk => by simp only [aLoad, hl, hs]; exact ⟨h.1, h.2.1, hk⟩⟩
    · exact h.elim
  · rename_i hl; exact ⟨_, h.2, fun K' hk => by simp only [aLoad, hl]; exact ⟨h.1, hk⟩⟩
  · rename_i hl; exact ⟨_, h.2.2, fun K' hk => by simp only [aLoad, hl]; exact ⟨h.1, h.2.1, hk⟩⟩
  · exact h.elim

/-- A load that no block of the heap is asked for. -/
theorem det_parts {t : TypeId} : ∀ (parts : List (Nat × AV)) (cs : List AV) (K : List AV → Prop), aParts P t cs parts K → ∃ v, K v ∧ ∀ K', K' v → aParts P t cs parts K' := by
  intro parts
  induction parts with
  | nil => intro cs K h; exact ⟨cs, h, fun K' hk => hk⟩
  | cons p r ih =>
    intro cs K h
    obtain ⟨i, v⟩ := p
    simp only [aParts] at h
    split at h
    · rename_i off n hp
      obtain ⟨v', h1, h2⟩ := ih _ _ h.2.2.2.2
      exact ⟨v', h1, fun K' hk => by simp only [aParts, hp]; exact ⟨h.1, h.2.1, h.2.2.1, h.2.2.2.1, h2 K' hk⟩⟩
    · exact h.elim

theorem det_build (t : TypeId) (parts : List (Nat × AV)) : Det (aBuild P t parts) := by
  intro K h
  obtain ⟨h1, h2, h3⟩ := h
  obtain ⟨v, k1, k2⟩ := det_parts _ _ _ h3
  exact ⟨_, k1, fun K' hk => ⟨h1, h2, k2 (fun cs => K' (.agg cs)) hk⟩⟩

theorem det_buildSlice (t : TypeId) (n : Nat) (parts : List (Nat × AV)) (K : AV → AS → Prop) (h : aBuildSlice P σ t n parts K) : ∃ v, K v σ ∧ ∀ (σ' : AS) (K' : AV → AS → Prop), K' v σ' → aBuildSlice P σ' t n parts K' := by
  unfold aBuildSlice at h
  split at h
  · rename_i e he
    obtain ⟨h1, h2, h3, h4, h5, h6, h7⟩ := h
    exact ⟨_, h7, fun σ' K' hk => by simp only [aBuildSlice, he]; exact ⟨h1, h2, h3, h4, h5, h6, hk⟩⟩
  · exact h.elim

theorem det_nilCheck (x : AV) : Det (aNilCheck x) := by
  intro K h
  unfold aNilCheck at h
  split at h <;> first | exact h.elim | exact ⟨_, h, fun K' hk => hk⟩

theorem det_intOp {op : BinOp} {k : IntKind} {a b : Int} {Q : Value → Prop} (h : intOp op k a b Q) : ∃ v, Q v ∧ ∀ Q', Q' v → intOp op k a b Q' := by
  cases op <;> simp only [intOp] at h ⊢ <;> first | exact h.elim | exact ⟨_, h, fun _ hk => hk⟩ | exact ⟨_, h.2, fun _ hk => ⟨h.1, hk⟩⟩
theorem det_shOp {op : BinOp} {k : IntKind} {a b : Int} {Q : Value → Prop} (h : shOp op k a b Q) : ∃ v, Q v ∧ ∀ Q', Q' v → shOp op k a b Q' := by
  cases op <;> simp only [shOp] at h ⊢ <;> first | exact h.elim | exact ⟨_, h.2, fun _ hk => ⟨h.1, hk⟩⟩
theorem det_strOp {op : BinOp} {a b : ByteArray} {Q : Value → Prop} (h : strOp op a b Q) : ∃ v, Q v ∧ ∀ Q', Q' v → strOp op a b Q' := by
  cases op <;> simp only [strOp] at h ⊢ <;> first | exact h.elim | exact ⟨_, h, fun _ hk => hk⟩ | exact ⟨_, h.2, fun _ hk => ⟨h.1, hk⟩⟩

theorem det_bin (op : BinOp) (t : TypeId) (x y : AV) : Det (aBin P op t x y) := by
  intro K h
  unfold aBin at h
  split at h
  · rename_i k a k' b
    split at h
    · rename_i hs
      obtain ⟨v, h1, h2⟩ := det_shOp h
      exact ⟨_, h1, fun K' hk => by simp only [aBin, hs, if_true]; exact h2 (fun v => K' (.sc v)) hk⟩
    · rename_i hs
      obtain ⟨v, h1, h2⟩ := det_intOp h.2
      exact ⟨_, h1, fun K' hk => by simp only [aBin, hs]; exact ⟨h.1, h2 (fun v => K' (.sc v)) hk⟩⟩
  · obtain ⟨v, h1, h2⟩ := det_strOp h
    exact ⟨_, h1, fun K' hk => by simp only [aBin]; exact h2 (fun v => K' (.sc v)) hk⟩
  · split at h
    · rename_i r he; exact ⟨_, h.2, fun K' hk => by simp only [aBin, he]; exact ⟨h.1, hk⟩⟩
    · rename_i r he; exact ⟨_, h.2, fun K' hk => by simp only [aBin, he]; exact ⟨h.1, hk⟩⟩
    · exact h.elim
  · split at h
    · rename_i hu; exact ⟨_, h, fun K' hk => by simp only [aBin, hu]; exact hk⟩
    · rename_i hu; exact ⟨_, h, fun K' hk => by simp only [aBin, hu]; exact hk⟩
    · exact h.elim
  · rename_i h1 h2 h3 h4
    have rw' : ∀ K', aNilCmp P op t x y K' → aBin P op t x y K' := by
      intro K' hk
      unfold aBin
      split
      · exact (h1 _ _ _ _ rfl rfl).elim
      · exact (h2 _ _ rfl rfl).elim
      · exact (h3 _ _ rfl rfl).elim
      · exact (h4 _ _ rfl rfl).elim
      · exact hk
    unfold aNilCmp at h
    split at h
    · rename_i hy
      split at h
      · rename_i r he; exact ⟨_, h, fun K' hk => rw' K' (by simp only [aNilCmp, hy, if_true, he]; exact hk)⟩
      · rename_i r he; exact ⟨_, h, fun K' hk => rw' K' (by simp only [aNilCmp, hy, if_true, he]; exact hk)⟩
      · exact h.elim
    · exact h.elim

theorem det_un (op : UnOp) (x : AV) : Det (aUn op x) := by
  intro K h
  unfold aUn at h
  split at h <;> first | exact h.elim | exact ⟨_, h, fun K' hk => hk⟩

theorem det_convert (a b : TypeId) (x : AV) : Det (aConvert P a b x) := by
  intro K h
  unfold aConvert at h
  split at h
  · rename_i hs hd; exact ⟨_, h, fun K' hk => by simp only [aConvert, hs, hd]; exact hk⟩
  · rename_i d s hs hd; exact ⟨_, h, fun K' hk => by cases d <;> simp only [aConvert, hs, hd] <;> exact hk⟩
  · rename_i hs hd; exact ⟨_, h.2, fun K' hk => by simp only [aConvert, hs, hd]; exact ⟨h.1, hk⟩⟩
  · rename_i hs hd
    obtain ⟨h1, h2, h3⟩ := h
    split at h3
    · rename_i bs hb; exact ⟨_, h3, fun K' hk => by simp only [aConvert, hs, hd, hb]; exact ⟨h1, h2, hk⟩⟩
    · exact h3.elim
  · rename_i hs hd; exact ⟨_, h.2.2.2, fun K' hk => by simp only [aConvert, hs, hd]; exact ⟨h.1, h.2.1, h.2.2.1, hk⟩⟩
  · exact h.elim

theorem det_bound {x : Option AV} {d : Nat} {K : Nat → Prop} (h : aBound x d K) : ∃ k, K k ∧ ∀ K', K' k → aBound x d K' := by
  unfold aBound at h
  split at h
  · exact ⟨_, h, fun K' hk => hk⟩
  · exact ⟨_, h.2, fun K' hk => ⟨h.1, hk⟩⟩
  · exact h.elim

theorem det_slice (t : TypeId) (x : AV) (lo hi mx : Option AV) : Det (aSlice P t x lo hi mx) := by
  intro K h
  unfold aSlice at h
  split at h
  · exact h.elim
  · split at h
    · rename_i s
      obtain ⟨h1, h2⟩ := h
      obtain ⟨k, ⟨q1, q2⟩, q3⟩ := det_bound h2
      obtain ⟨l, ⟨r1, r2⟩, r3⟩ := det_bound q2
      exact ⟨_, r2, fun K' hk => by simp only [aSlice]; exact ⟨h1, q3 _ ⟨q1, r3 _ ⟨r1, hk⟩⟩⟩⟩
    · rename_i e elems own nil
      obtain ⟨h1, h0, h2⟩ := h
      obtain ⟨k, ⟨q1, q2⟩, q3⟩ := det_bound h2
      obtain ⟨l, ⟨r1, r2⟩, r3⟩ := det_bound q2
      exact ⟨_, r2, fun K' hk => by simp only [aSlice]; exact ⟨h1, h0, q3 _ ⟨q1, r3 _ ⟨r1, hk⟩⟩⟩⟩
    · exact h.elim

theorem det_fieldAddr (t : TypeId) (x : AV) (f : Nat) : Det (aFieldAddr P t x f) := by
  intro K h
  unfold aFieldAddr at h
  split at h
  · rename_i hp hu
    obtain ⟨hn, h⟩ := h
    split at h
    · exact ⟨_, h, fun K' hk => by simp only [aFieldAddr, hp, hu]; exact ⟨hn, hk⟩⟩
    · exact ⟨_, h, fun K' hk => by simp only [aFieldAddr, hp, hu]; exact ⟨hn, hk⟩⟩
    · exact h.elim
  · exact h.elim

theorem det_field (t : TypeId) (x : AV) (f : Nat) : Det (aField P t x f) := by
  intro K h
  unfold aField at h
  split at h
  · rename_i hf; exact ⟨_, h.2, fun K' hk => by simp only [aField, hf]; exact ⟨h.1, hk⟩⟩
  · rename_i hf; exact ⟨_, h.2.2, fun K' hk => by simp only [aField, hf]; exact ⟨h.1, h.2.1, hk⟩⟩
  · exact h.elim

theorem det_indexAddr (t : TypeId) (x i : AV) : Det (aIndexAddr P t x i) := by
  intro K h
  unfold aIndexAddr at h
  split at h
  · split at h
    · obtain ⟨h1, h2, h3, h4, h5⟩ := h
      exact ⟨_, h5, fun K' hk => ⟨h1, h2, h3, h4, hk⟩⟩
    · split at h
      · rename_i he; obtain ⟨h2, h3, h4, h5⟩ := h; exact ⟨_, h5, fun K' hk => by simp only [aIndexAddr, he]; exact ⟨h2, h3, h4, hk⟩⟩
      · exact h.elim
    · split at h
      · rename_i he; obtain ⟨h2, h3, h4, h5⟩ := h; exact ⟨_, h5, fun K' hk => by simp only [aIndexAddr, he]; exact ⟨h2, h3, h4, hk⟩⟩
      · exact h.elim
    · split at h
      · rename_i he; obtain ⟨h2, h3, h4, h5⟩ := h; exact ⟨_, h5, fun K' hk => by simp only [aIndexAddr, he]; exact ⟨h2, h3, h4, hk⟩⟩
      · exact h.elim
    · exact h.elim
  · exact h.elim

theorem det_index (t : TypeId) (x i : AV) : Det (aIndex P t x i) := by
  intro K h
  unfold aIndex at h
  split at h
  · obtain ⟨h1, h2, h3, h4⟩ := h; exact ⟨_, h4, fun K' hk => ⟨h1, h2, h3, hk⟩⟩
  · split at h
    · rename_i he
      split at h
      · rename_i hl; obtain ⟨h2, h3, h4, h5⟩ := h; exact ⟨_, h5, fun K' hk => by simp only [aIndex, he, hl]; exact ⟨h2, h3, h4, hk⟩⟩
      · rename_i hl; obtain ⟨h1, h2, h3, h4, h5⟩ := h; exact ⟨_, h5, fun K' hk => by simp only [aIndex, he, hl]; exact ⟨h1, h2, h3, h4, hk⟩⟩
      · exact h.elim
    · exact h.elim
  · exact h.elim

theorem det_extract (x : AV) (i : Nat) : Det (aExtract x i) := by
  intro K h
  unfold aExtract at h
  split at h
  · exact ⟨_, h.2, fun K' hk => ⟨h.1, hk⟩⟩
  · exact h.elim

theorem det_len (t : TypeId) (x : AV) : Det (aLen P σ t x) := by
  intro K h
  unfold aLen at h
  split at h
  · rename_i hu; exact ⟨_, h, fun K' hk => by simp only [aLen, hu]; exact hk⟩
  · rename_i hu; exact ⟨_, h, fun K' hk => by simp only [aLen, hu]; exact hk⟩
  · rename_i hu; exact ⟨_, h, fun K' hk => by simp only [aLen, hu]; exact hk⟩
  · rename_i hu; exact ⟨_, h, fun K' hk => by simp only [aLen, hu]; exact hk⟩
  · rename_i hu; exact ⟨_, h, fun K' hk => by simp only [aLen, hu]; exact hk⟩
  · rename_i hu
    split at h
    · rename_i hs; exact ⟨_, h, fun K' hk => by simp only [aLen, hu, hs]; exact hk⟩
    · exact h.elim
  · rename_i hu; exact ⟨_, h, fun K' hk => by simp only [aLen, hu]; exact hk⟩
  · exact h.elim

end Go.AW
