/- Chapter 10: ImageFormed as a walk. -/
import Derived.Test.YtknalmoackcpbaaGreatIm6
import Derived.Test.YtknalmoackcpbaaGreatIm7
import Derived.Test.YtknalmoackcpbaaGreatIm8
import Derived.Test.YtknalmoackcpbaaGreatWakes10
set_option linter.unusedSimpArgs false
set_option linter.unusedVariables false
set_option maxRecDepth 100000
set_option maxHeartbeats 3200000
namespace Go.Proofs.YtknalmoackcpbaaGreat
namespace Im
open Go Go.AW
abbrev sc_3_3_XIm9 : Sch := (Sch.read 0 (Sch.pure 1 (Sch.step 2 (Sch.read 3 (Sch.pure 4 (Sch.pure 5 (Sch.read 6 (Sch.pure 7 (Sch.step 8 (Sch.step 9 (Sch.step 10 Sch.done)))))))))))
theorem wakes_g (σ : AS) : ACalls Tryz.prog 7 [] σ (Gives (.sc (.bool true)) σ) No :=
  have h := wakes_ok σ
  ⟨h.body, fun G w vals hi hr => (h.run G w vals hi hr).mono fun e w' he => by
    unfold EndOk at he ⊢
    split at he
    · obtain ⟨G', σ', r, a, b, c, rfl, hle⟩ := he
      exact ⟨G', σ, _, a, b.weaken hle, c, rfl, rfl⟩
    · obtain ⟨x, y, G', σ', r, a, b, c, d⟩ := he; exact d.elim
    · exact he.elim⟩
theorem mts_cp (nt nf nm : Int) : ∀ (l : List Mt) (last : Int), mtsF nt nf nm last (l.map cpM) = mtsF nt nf nm last l
  | [], _ => rfl
  | m :: r, last => by
    simp only [List.map_cons, mtsF, mts_cp nt nf nm r]
    rfl
theorem imB_cp (g : Img) : imB (cpI g) = imB g := by
  unfold imB tdsB cpI
  simp only [List.length_map, mts_cp, List.all_map]
  rfl
theorem sh_of {g : Img} (h : longB g = false) : Sh g := by
  unfold longB at h
  simp only [Bool.or_eq_false_iff, decide_eq_false_iff_not] at h
  obtain ⟨h1, h2, h3⟩ := h
  rw [List.any_eq_false] at h2 h3
  refine ⟨by omega, by omega, by omega, fun t ht => ?_, fun m hm => ?_⟩
  · have := h2 t ht
    simp [tLong] at this
    omega
  · have := h3 m hm
    simp [mLong] at this
    omega
theorem iml_cp {g : Img} (h : ImL g) : ImL (cpI g) := by
  refine ⟨by simpa [cpI] using h.ts, h.fs, by simpa [cpI] using h.ms, fun t ht => ?_, h.f, fun m hm => ?_⟩
  · obtain ⟨a, ha, rfl⟩ := List.mem_map.1 ht
    exact h.t a ha
  · obtain ⟨a, ha, rfl⟩ := List.mem_map.1 hm
    have := h.m a ha
    exact ⟨this.name, this.ps, this.ls, this.code, this.cls⟩
theorem imageFormed_ok (g : Img) (hL : ImL g) (hI : ∀ m ∈ g.ms, ∀ x ∈ m.code, InI x) :
    ACalls Tryz.prog 3 [imV g] noAS IsTrue No := by
  have hw := fun σ => wakes_g σ
  have hl := fun σ => long_ok g hL.ts hL.ms σ
  have hr := fun σ => rformed_ok g hL hI σ
  have hf := fun σ => formed_ok (cpI g) (iml_cp hL) σ
  rw [imB_cp] at hf
  generalize imB g = b at hr hf
  cases hb : longB g with
  | true =>
    rw [hb] at hl
    simp only [imV_def] at hl ⊢
    refine ACalls.of_body Tryz.func3 rfl rfl (by simp [Tryz.ntmps3]) ?_
    repeat (first
      | (with_reducible first | apply AWp.seq | apply AWp.block | refine And.intro (by first | omega | assumption | decide) ?_)
      | ((first | (with_reducible first | apply AWp.fork | apply AWp.region) | ((with_reducible apply AWp.drawS (id := 3) (t := sc_3_3_XIm9)); (exact mixed); kernel_rfl; kernel_rfl; (repeat (with_reducible first | apply PanQ.then | apply PanQ.block | apply PanQ.body | apply PanQ.no)))); simp -implicitDefEqProofs)
      | ((with_reducible first | apply AWp.ret | apply AWp.skip | apply AWp.exit); try simp -implicitDefEqProofs))
    intro id h_id
    repeat (first
      | (with_reducible first | apply AWp.seq | apply AWp.block | refine And.intro (by first | omega | assumption | decide) ?_)
      | ((first | (with_reducible first | apply AWp.fork | apply AWp.region) | ((with_reducible apply AWp.drawS (id := 3) (t := sc_3_3_XIm9)); (exact mixed); kernel_rfl; kernel_rfl; (repeat (with_reducible first | apply PanQ.then | apply PanQ.block | apply PanQ.body | apply PanQ.no))) | ((with_reducible apply aCall.id); first | apply aCall.gives (hw _) | apply aCall.gives (hl _)) | ((with_reducible apply pureCall.id); first | apply pureCall.gives (fun _ => hw _) | apply pureCall.gives (fun _ => hl _))); simp -implicitDefEqProofs)
      | ((with_reducible first | apply AWp.ret | apply AWp.skip | apply AWp.exit); try simp -implicitDefEqProofs))
  | false =>
    rw [hb] at hl
    have hc := fun σ => copied_ok g (sh_of hb) σ
    generalize cpI g = g2 at hc hf
    simp only [imV_def] at hl hr hf hc ⊢
    refine ACalls.of_body Tryz.func3 rfl rfl (by simp [Tryz.ntmps3]) ?_
    repeat (first
      | (with_reducible first | apply AWp.seq | apply AWp.block | refine And.intro (by first | omega | assumption | decide) ?_)
      | ((first | (with_reducible first | apply AWp.fork | apply AWp.region) | ((with_reducible apply AWp.drawS (id := 3) (t := sc_3_3_XIm9)); (exact mixed); kernel_rfl; kernel_rfl; (repeat (with_reducible first | apply PanQ.then | apply PanQ.block | apply PanQ.body | apply PanQ.no)))); simp -implicitDefEqProofs)
      | ((with_reducible first | apply AWp.ret | apply AWp.skip | apply AWp.exit); try simp -implicitDefEqProofs))
    intro id h_id
    repeat (first
      | (with_reducible first | apply AWp.seq | apply AWp.block | refine And.intro (by first | omega | assumption | decide) ?_)
      | ((first | (with_reducible first | apply AWp.fork | apply AWp.region) | ((with_reducible apply AWp.drawS (id := 3) (t := sc_3_3_XIm9)); (exact mixed); kernel_rfl; kernel_rfl; (repeat (with_reducible first | apply PanQ.then | apply PanQ.block | apply PanQ.body | apply PanQ.no))) | ((with_reducible apply aCall.id); first | apply aCall.gives (hw _) | apply aCall.gives (hl _) | apply aCall.gives (hr _) | apply aCall.gives (hf _) | apply aCall.gives (hc _)) | ((with_reducible apply pureCall.id); first | apply pureCall.gives (fun _ => hw _) | apply pureCall.gives (fun _ => hl _) | apply pureCall.gives (fun _ => hr _) | apply pureCall.gives (fun _ => hf _) | apply pureCall.gives (fun _ => hc _))); simp -implicitDefEqProofs)
      | ((with_reducible first | apply AWp.ret | apply AWp.skip | apply AWp.exit); try simp -implicitDefEqProofs))
end Im
end Go.Proofs.YtknalmoackcpbaaGreat
