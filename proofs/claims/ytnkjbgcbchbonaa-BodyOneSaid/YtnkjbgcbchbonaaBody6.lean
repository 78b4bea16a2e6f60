/- BodyWrites: any body has the bytes that the document says, or is refused; it stays as it was. BodyLength: its bytes are as many as its code and clauses ask for. No condition. -/
import Derived.Test.YtnkjbgcbchbonaaBody5
import Derived.Test.YtnkjbgcbchbonaaRows
set_option linter.unusedSimpArgs false
set_option linter.unusedVariables false
set_option maxRecDepth 100000
set_option maxHeartbeats 3200000
namespace Go.Proofs.Ytnkjbgcbchbonaa
open Go Go.AW Go.ChangeShapes Go.WideShapes Go.ChangeAt Go.RowKit

theorem arg_raw {k : Nat} {cs : List AV} (h : ArgC Try.prog (k + 2) 91 cs) : ∃ r : R6, pkV Try.prog 91 cs = rawV r := by
  have hlen : cs.length = 6 := by
    simp only [ArgC, Try.underlying91] at h
    exact h.1
  match cs, hlen with
  | [x, y, z, w, u, v], _ =>
    simp [-Bool.exists_bool, ArgC, Try.underlying91, Try.underlying3] at h
    obtain ⟨⟨a, q1, _⟩, ⟨b, q2, _⟩, ⟨c, q3, _⟩, ⟨d, q4, _⟩, ⟨e, q5, _⟩, ⟨f, q6, _⟩⟩ := h
    subst q1 q2 q3 q4 q5 q6
    exact ⟨⟨a, b, c, d, e, f⟩, by simp [pkV, AW.isAgg, rawV, Try.underlying91]⟩

theorem arg_body {k : Nat} {cs : List AV} (h : ArgC Try.prog (k + 4) 48 cs) :
    ∃ (code : List UInt8) (cls : List R6) (n1 n2 : Bool), pkV Try.prog 48 cs = bodyV code cls .unk .unk n1 n2 ∧ (n1 = true → code = []) ∧ (n2 = true → cls = []) ∧ code.length ≤ 140737488355328 ∧ cls.length ≤ 140737488355328 := by
  have hlen : cs.length = 2 := by
    simp only [ArgC, Try.underlying48] at h
    exact h.1
  match cs, hlen with
  | [x, y], _ =>
    rw [ArgC] at h
    simp only [Try.underlying48] at h
    have h1 := h.2
    simp at h1
    obtain ⟨h1, h2⟩ := h1
    obtain ⟨l, nl, e1, q1, q2⟩ := arg_bytes Try.underlying30 Try.underlying5 h1
    obtain ⟨m, nm, e2, p1, p2⟩ := arg_list rawV Try.underlying46 (fun c hc => arg_raw hc) h2
    simp [pkV, AW.isAgg, Try.underlying30, Try.underlying46] at e1 e2
    simp [reachBytes] at q2 p2
    refine ⟨l, m, nl, nm, by simp [pkV, AW.isAgg, bodyV, Try.underlying48, e1, e2], q1, p1, by omega, by omega⟩

theorem bodyWrites_reads (os : Os) {H : Type} (enc : TypeId × Value → H) : ∃ places, DataW.whole enc Try.prog ((World.holding Try.prog os ⟨#[], #[Value.agg #[.slice none 0 0, .slice none 0 0]], []⟩).forCall (fun _ _ => 0) ⟨#[], #[Value.agg #[.slice none 0 0, .slice none 0 0]], []⟩).memory Try.f7.params.toList Rows.bodyWritesSpec.vars false #[Value.agg #[.slice none 0 0, .slice none 0 0]].toList 8 = some ([.agg [.nil, .nil]], [], places) :=
  ⟨[], by kernel_rfl⟩

theorem bodyWrites_contract (H : Type) (enc : TypeId × Value → H) (W : World) (base : Nat) (args : Array Value) (ds gs : List (DataW H)) (before : List MemPlace)
    (hval : ∀ (j : Nat) t v, Try.f7.params[j]? = some t → args[j]? = some v → Value.okWide Try.prog W .any base t v)
    (hW : DataW.Whole enc Try.prog Try.f7.params.toList Rows.bodyWritesSpec.vars false W args.toList ds gs before)
    (hwt : (DataW.weightsEach Try.prog (Try.f7.params.toList ++ Rows.bodyWritesSpec.plain.varTypes Try.prog) (ds ++ gs)).all (· ≤ reachBytes) = true) :
    Calls Try.prog 7 args W fun e W' => ∃ v, e = .returned v ∧ Rows.bodyWritesSpec.post enc Try.prog Try.f7 false true false false W args v W' := by
  refine law_contract (P := Try.prog) (fn := Try.f7) (k := 5) (ts := [48]) (tb := 4) (s := Rows.bodyWritesSpec) laidOut (by kernel_rfl) (by kernel_rfl) (by kernel_rfl) rfl Try.underlying4 rfl (fun ds h => ?_) (fun vs h => ?_) hval hW hwt
  · match ds, h with
    | [d1], _ => rfl
  · obtain ⟨c1, r, rfl, h1, h⟩ := h.inv
    obtain rfl := h.inv0
    obtain ⟨code, cls, n1, n2, e1, q1, q2, l1, l2⟩ := arg_body h1
    rw [e1]
    exact bodyWrites_ok code cls n1 n2 q1 q2 l1 l2

theorem bodyWrites_lifted (os : Os) (started : os.Started) (H : Type) (enc : TypeId × Value → H) (F : Stop.Interp) :
    ReturnsInHanded {} Try.checked os 7 .any ((OpenSpec.ofChange Rows.bodyWritesSpec).preRow enc Try.prog Try.f7 Rows.bodyWritesRow.domain false Rows.bodyWritesRow.laid)
      (((OpenSpec.ofChange Rows.bodyWritesSpec).at F).post enc Try.prog Try.f7 false true false false) := by
  obtain ⟨places, hx⟩ := bodyWrites_reads os enc
  refine returnsInHanded_of_row (C := Try.checked) (s := OpenSpec.ofChange Rows.bodyWritesSpec) own started (by kernel_rfl) Try.func7
    (witness_row_at (enc := enc) (C := Try.checked) false (World.holding Try.prog os ⟨#[], #[Value.agg #[.slice none 0 0, .slice none 0 0]], []⟩) #[Value.agg #[.slice none 0 0, .slice none 0 0]] rfl (by kernel_rfl) (by kernel_rfl) (by kernel_rfl)
      (OpenSpec.preRow_of_cond 8 hx (by kernel_rfl) (fun k hk => by cases hk) (by kernel_rfl) (show laidMetH Try.prog [] _ from ⟨[], rfl, List.nodup_nil, fun _ _ h => by cases h⟩))) ?_
  intro W base args ds gs before hval hW _ _ hwt _ _ _
  exact bodyWrites_contract H enc W base args ds gs before hval hW hwt

theorem bodyWrites_holds : Rows.BodyWritesSaid :=
  OpenClaim.holds_of_cond 7 Try.f7 rfl rfl rfl rfl rfl rfl rfl ⟨rfl, rfl, rfl, rfl, rfl⟩ rfl rfl rfl rfl rfl (by kernel_rfl) Try.func7 (by kernel_rfl)
    (of_decide_eq_true (by kernel_rfl)) (by unfold Func.isWrapper; first | (rw [if_pos (by decide +kernel)]; kernel_rfl) | (rw [if_neg (by decide +kernel)]; exact ⟨rfl, rfl⟩))
    (fun os started H enc _ F => by rw [OpenClaim.pre_eq_preRow]; exact bodyWrites_lifted os started H enc F)


theorem bodyLength_reads (os : Os) {H : Type} (enc : TypeId × Value → H) : ∃ places, DataW.whole enc Try.prog ((World.holding Try.prog os ⟨#[], #[Value.agg #[.slice none 0 0, .slice none 0 0]], []⟩).forCall (fun _ _ => 0) ⟨#[], #[Value.agg #[.slice none 0 0, .slice none 0 0]], []⟩).memory Try.f8.params.toList Rows.bodyLengthSpec.vars false #[Value.agg #[.slice none 0 0, .slice none 0 0]].toList 8 = some ([.agg [.nil, .nil]], [], places) :=
  ⟨[], by kernel_rfl⟩

theorem bodyLength_contract (H : Type) (enc : TypeId × Value → H) (W : World) (base : Nat) (args : Array Value) (ds gs : List (DataW H)) (before : List MemPlace)
    (hval : ∀ (j : Nat) t v, Try.f8.params[j]? = some t → args[j]? = some v → Value.okWide Try.prog W .any base t v)
    (hW : DataW.Whole enc Try.prog Try.f8.params.toList Rows.bodyLengthSpec.vars false W args.toList ds gs before)
    (hwt : (DataW.weightsEach Try.prog (Try.f8.params.toList ++ Rows.bodyLengthSpec.plain.varTypes Try.prog) (ds ++ gs)).all (· ≤ reachBytes) = true) :
    Calls Try.prog 8 args W fun e W' => ∃ v, e = .returned v ∧ Rows.bodyLengthSpec.post enc Try.prog Try.f8 false true false false W args v W' := by
  refine law_contract (P := Try.prog) (fn := Try.f8) (k := 5) (ts := [48]) (tb := 4) (s := Rows.bodyLengthSpec) laidOut (by kernel_rfl) (by kernel_rfl) (by kernel_rfl) rfl Try.underlying4 rfl (fun ds h => ?_) (fun vs h => ?_) hval hW hwt
  · match ds, h with
    | [d1], _ => rfl
  · obtain ⟨c1, r, rfl, h1, h⟩ := h.inv
    obtain rfl := h.inv0
    obtain ⟨code, cls, n1, n2, e1, q1, q2, l1, l2⟩ := arg_body h1
    rw [e1]
    exact bodyLength_ok code cls n1 n2 l1 l2

theorem bodyLength_lifted (os : Os) (started : os.Started) (H : Type) (enc : TypeId × Value → H) (F : Stop.Interp) :
    ReturnsInHanded {} Try.checked os 8 .any ((OpenSpec.ofChange Rows.bodyLengthSpec).preRow enc Try.prog Try.f8 Rows.bodyLengthRow.domain false Rows.bodyLengthRow.laid)
      (((OpenSpec.ofChange Rows.bodyLengthSpec).at F).post enc Try.prog Try.f8 false true false false) := by
  obtain ⟨places, hx⟩ := bodyLength_reads os enc
  refine returnsInHanded_of_row (C := Try.checked) (s := OpenSpec.ofChange Rows.bodyLengthSpec) own started (by kernel_rfl) Try.func8
    (witness_row_at (enc := enc) (C := Try.checked) false (World.holding Try.prog os ⟨#[], #[Value.agg #[.slice none 0 0, .slice none 0 0]], []⟩) #[Value.agg #[.slice none 0 0, .slice none 0 0]] rfl (by kernel_rfl) (by kernel_rfl) (by kernel_rfl)
      (OpenSpec.preRow_of_cond 8 hx (by kernel_rfl) (fun k hk => by cases hk) (by kernel_rfl) (show laidMetH Try.prog [] _ from ⟨[], rfl, List.nodup_nil, fun _ _ h => by cases h⟩))) ?_
  intro W base args ds gs before hval hW _ _ hwt _ _ _
  exact bodyLength_contract H enc W base args ds gs before hval hW hwt

theorem bodyLength_holds : Rows.BodyLengthSaid :=
  OpenClaim.holds_of_cond 8 Try.f8 rfl rfl rfl rfl rfl rfl rfl ⟨rfl, rfl, rfl, rfl, rfl⟩ rfl rfl rfl rfl rfl (by kernel_rfl) Try.func8 (by kernel_rfl)
    (of_decide_eq_true (by kernel_rfl)) (by unfold Func.isWrapper; first | (rw [if_pos (by decide +kernel)]; kernel_rfl) | (rw [if_neg (by decide +kernel)]; exact ⟨rfl, rfl⟩))
    (fun os started H enc _ F => by rw [OpenClaim.pre_eq_preRow]; exact bodyLength_lifted os started H enc F)


end Go.Proofs.Ytnkjbgcbchbonaa
