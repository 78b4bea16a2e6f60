/- PoolBlobs: any blobs make the pool and the places that the document says; the blobs stay as they were. No condition. -/
import Derived.Test.YtiojkpebjdifoaaPool9
import Derived.Test.YtiojkpebjdifoaaRows
set_option linter.unusedSimpArgs false
set_option linter.unusedVariables false
set_option maxRecDepth 100000
set_option maxHeartbeats 3200000
namespace Go.Proofs.Ytiojkpebjdifoaa
open Go Go.AW Go.ChangeShapes Go.WideShapes Go.ChangeAt Go.RowKit

theorem bmF_snd : ∀ (l : List (List UInt8)) (p : List UInt8) (d : List (List UInt8 × Nat)), (bmF l p d).2.length = d.length + l.length := by
  intro l
  induction l with
  | nil => intro p d; simp [bmF]
  | cons s r ih =>
    intro p d
    simp only [bmF]
    split
    · rw [ih]; simp; omega
    · rw [ih]; simp; omega
theorem bmF_len : ∀ (l : List (List UInt8)) (p : List UInt8) (d : List (List UInt8 × Nat)), (∀ s ∈ l, s.length ≤ 300) → (bmF l p d).1.length ≤ p.length + 304 * l.length := by
  intro l
  induction l with
  | nil => intro p d _; simp [bmF]
  | cons s r ih =>
    intro p d h
    have hr : ∀ s ∈ r, s.length ≤ 300 := fun x hx => h x (List.mem_cons_of_mem _ hx)
    have hs := h s (by simp)
    simp only [bmF]
    split
    · have := ih p (d ++ [(s, ‹Nat›)]) hr
      simp; omega
    · have := ih (p ++ encB s) (d ++ [(s, p.length)]) hr
      have hp := packL_len s.length (by omega) (by omega)
      simp [encB] at this ⊢; omega

theorem poolBlobs_ok (l : List (List UInt8 × Bool)) (nl : Bool) (hl : l.length ≤ 140737488355328) (hs : ∀ s ∈ l, s.1.length ≤ 140737488355328) :
    ACalls Try.prog 10 [.lst 22 (l.map bV) .unk nl] noAS IsTrue No := by
  have h2 := fun σ => long_ok l .unk nl hl hs σ
  refine ACalls.of_body Try.func10 rfl rfl (by simp [Try.ntmps10]) ?_
  cases hL : longB l with
  | true =>
    rw [hL] at h2
    repeat (first
      | (with_reducible apply AWp.seq)
      | (with_reducible apply AWp.block)
      | ((with_reducible apply AWp.fork); simp -implicitDefEqProofs)
      | ((with_reducible apply AWp.region); simp -implicitDefEqProofs)
      | (with_reducible refine And.intro (by first | omega | assumption | decide) ?_)
      | ((with_reducible apply aCall.id); first
          | ((apply aCall.gives (pwakes_ok _)); simp -implicitDefEqProofs)
          | ((apply aCall.gives (h2 _)); simp -implicitDefEqProofs))
      | ((with_reducible apply AWp.ret); try simp -implicitDefEqProofs)
      | ((with_reducible apply AWp.skip); try simp -implicitDefEqProofs)
      | ((with_reducible apply AWp.exit); try simp -implicitDefEqProofs))
  | false =>
    rw [hL] at h2
    have hl60 : l.length ≤ 60 ∧ ∀ s ∈ l, s.1.length ≤ 300 := by simpa [longB] using hL
    have h3 := fun σ => blobs_ok l nl .unk hl60.1 hl60.2 σ
    have h4 := fun σ => rblobs_ok l .unk nl hl60.1 hl60.2 σ
    have e : (bmF (l.map (·.1)) [0] []).2.map (fun p => (AV.sc (.int .i64 (p.2 : Int)))) = ((bmF (l.map (·.1)) [0] []).2.map (fun p => (p.2 : Int))).map i64v := by simp [i64v_def]
    rw [e] at h3 h4
    have hb1 : (bmF (l.map (·.1)) [0] []).1.length ≤ 140737488355328 ∧ ((bmF (l.map (·.1)) [0] []).2.map (fun p => (p.2 : Int))).length ≤ 140737488355328 := by
      have a1 := bmF_len (l.map (·.1)) [0] [] (by intro s h; obtain ⟨a, ha, rfl⟩ := List.mem_map.1 h; exact hl60.2 a ha)
      have a2 := bmF_snd (l.map (·.1)) [0] []
      simp at a1 a2 ⊢
      omega
    generalize ((bmF (l.map (·.1)) [0] []).2.map (fun p => (p.2 : Int))) = r2 at h3 h4 hb1
    generalize ((bmF (l.map (·.1)) [0] []).1) = r1 at h3 h4 hb1
    have h5 := fun o1 o2 n1 n2 σ => same_ok r1 r1 o1 o2 n1 n2 hb1.1 σ
    have h6 := fun o1 o2 n1 n2 σ => sints_ok r2 r2 o1 o2 n1 n2 hb1.2 hb1.2 σ
    repeat (first
      | (with_reducible apply AWp.seq)
      | (with_reducible apply AWp.block)
      | ((with_reducible apply AWp.fork); simp -implicitDefEqProofs)
      | ((with_reducible apply AWp.region); simp -implicitDefEqProofs)
      | (with_reducible refine And.intro (by first | omega | assumption | decide) ?_)
      | ((with_reducible apply aCall.id); first
          | ((apply aCall.gives (pwakes_ok _)); simp -implicitDefEqProofs)
          | ((apply aCall.gives (h2 _)); simp -implicitDefEqProofs)
          | ((apply aCall.gives (h3 _)); simp -implicitDefEqProofs)
          | ((apply aCall.gives (h4 _)); simp -implicitDefEqProofs))
      | ((with_reducible apply AWp.ret); try simp -implicitDefEqProofs)
      | ((with_reducible apply AWp.skip); try simp -implicitDefEqProofs)
      | ((with_reducible apply AWp.exit); try simp -implicitDefEqProofs))
    intro id h_id
    repeat (first
      | (with_reducible apply AWp.seq)
      | (with_reducible apply AWp.block)
      | ((with_reducible apply AWp.fork); simp -implicitDefEqProofs)
      | ((with_reducible apply AWp.region); simp -implicitDefEqProofs)
      | (with_reducible refine And.intro (by first | omega | assumption | decide) ?_)
      | ((with_reducible apply aCall.id); first
          | ((apply aCall.gives (h5 _ _ _ _ _)); simp -implicitDefEqProofs)
          | ((apply aCall.gives (h6 _ _ _ _ _)); simp -implicitDefEqProofs))
      | ((with_reducible apply AWp.ret); try simp -implicitDefEqProofs)
      | ((with_reducible apply AWp.skip); try simp -implicitDefEqProofs)
      | ((with_reducible apply AWp.exit); try simp -implicitDefEqProofs))

/-- A list of lists of bytes. -/
theorem arg_blobs {k : Nat} {cs : List AV} (h : ArgC Try.prog (k + 3) 56 cs) :
    ∃ (l : List (List UInt8 × Bool)) (nl : Bool), pkV Try.prog 56 cs = .lst 22 (l.map bV) .unk nl ∧ (nl = true → l = []) ∧ l.length ≤ 140737488355328 / 16 ∧ ∀ s ∈ l, s.1.length ≤ 140737488355328 ∧ (s.2 = true → s.1 = []) := by
  obtain ⟨l, nl, e, hn, hl⟩ := arg_list (α := { s : List UInt8 × Bool // s.1.length ≤ 140737488355328 ∧ (s.2 = true → s.1 = []) }) (fun s => bV s.1) Try.underlying56 (fun c hc => by
    obtain ⟨x, nx, e, hn, hs⟩ := arg_bytes Try.underlying22 Try.underlying5 hc
    refine ⟨⟨(x, nx), ?_, hn⟩, by rw [e]; rfl⟩
    simp [reachBytes] at hs
    simp
    omega) h
  refine ⟨l.map (·.1), nl, by rw [e]; simp [List.map_map, Function.comp_def], fun h => by rw [hn h]; rfl, ?_, ?_⟩
  · simp [reachBytes] at hl
    simp
    omega
  · intro s hs
    obtain ⟨a, _, rfl⟩ := List.mem_map.1 hs
    exact a.2

theorem poolBlobs_reads (os : Os) {H : Type} (enc : TypeId × Value → H) : ∃ places, DataW.whole enc Try.prog ((World.holding Try.prog os ⟨#[], #[Value.slice none 0 0], []⟩).forCall (fun _ _ => 0) ⟨#[], #[Value.slice none 0 0], []⟩).memory Try.f10.params.toList Rows.poolBlobsSpec.vars false #[Value.slice none 0 0].toList 8 = some ([.nil], [], places) :=
  ⟨[], by kernel_rfl⟩

theorem poolBlobs_contract (H : Type) (enc : TypeId × Value → H) (W : World) (base : Nat) (args : Array Value) (ds gs : List (DataW H)) (before : List MemPlace)
    (hval : ∀ (j : Nat) t v, Try.f10.params[j]? = some t → args[j]? = some v → Value.okWide Try.prog W .any base t v)
    (hW : DataW.Whole enc Try.prog Try.f10.params.toList Rows.poolBlobsSpec.vars false W args.toList ds gs before)
    (hwt : (DataW.weightsEach Try.prog (Try.f10.params.toList ++ Rows.poolBlobsSpec.plain.varTypes Try.prog) (ds ++ gs)).all (· ≤ reachBytes) = true) :
    Calls Try.prog 10 args W fun e W' => ∃ v, e = .returned v ∧ Rows.poolBlobsSpec.post enc Try.prog Try.f10 false true false false W args v W' := by
  refine law_contract (P := Try.prog) (fn := Try.f10) (k := 4) (ts := [56]) (tb := 4) (s := Rows.poolBlobsSpec) laidOut (by kernel_rfl) (by kernel_rfl) (by kernel_rfl) rfl Try.underlying4 rfl (fun ds h => ?_) (fun vs h => ?_) hval hW hwt
  · match ds, h with
    | [d1], _ => rfl
  · obtain ⟨c1, r, rfl, h1, h⟩ := h.inv
    obtain rfl := h.inv0
    obtain ⟨l, nl, e1, hn, hl, hs⟩ := arg_blobs h1
    rw [e1]
    exact poolBlobs_ok l nl (by omega) (fun s h => (hs s h).1)

theorem poolBlobs_lifted (os : Os) (started : os.Started) (H : Type) (enc : TypeId × Value → H) (F : Stop.Interp) :
    ReturnsInHanded {} Try.checked os 10 .any ((OpenSpec.ofChange Rows.poolBlobsSpec).preRow enc Try.prog Try.f10 Rows.poolBlobsRow.domain false Rows.poolBlobsRow.laid)
      (((OpenSpec.ofChange Rows.poolBlobsSpec).at F).post enc Try.prog Try.f10 false true false false) := by
  obtain ⟨places, hx⟩ := poolBlobs_reads os enc
  refine returnsInHanded_of_row (C := Try.checked) (s := OpenSpec.ofChange Rows.poolBlobsSpec) own started (by kernel_rfl) Try.func10
    (witness_row_at (enc := enc) (C := Try.checked) false (World.holding Try.prog os ⟨#[], #[Value.slice none 0 0], []⟩) #[Value.slice none 0 0] rfl (by kernel_rfl) (by kernel_rfl) (by kernel_rfl)
      (OpenSpec.preRow_of_cond 8 hx (by kernel_rfl) (fun k hk => by cases hk) (by kernel_rfl) (show laidMetH Try.prog [] _ from ⟨[], rfl, List.nodup_nil, fun _ _ h => by cases h⟩))) ?_
  intro W base args ds gs before hval hW _ _ hwt _ _ _
  exact poolBlobs_contract H enc W base args ds gs before hval hW hwt

theorem poolBlobs_holds : Rows.PoolBlobsSaid :=
  OpenClaim.holds_of_cond 10 Try.f10 rfl rfl rfl rfl rfl rfl rfl ⟨rfl, rfl, rfl, rfl, rfl⟩ rfl rfl rfl rfl rfl (by kernel_rfl) Try.func10 (by kernel_rfl)
    (of_decide_eq_true (by kernel_rfl)) (by unfold Func.isWrapper; first | (rw [if_pos (by decide +kernel)]; kernel_rfl) | (rw [if_neg (by decide +kernel)]; exact ⟨rfl, rfl⟩))
    (fun os started H enc _ F => by rw [OpenClaim.pre_eq_preRow]; exact poolBlobs_lifted os started H enc F)


end Go.Proofs.Ytiojkpebjdifoaa
