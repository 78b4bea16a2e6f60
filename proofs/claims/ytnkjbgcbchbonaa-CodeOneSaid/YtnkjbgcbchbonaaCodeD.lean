/- CodeEncodes: any instructions have the places and the bytes that the document says, or are refused; they stay as they were. CodeBack: what is encoded is decoded to what it was. CodeOne: what is decoded, encoded again, is the very bytes. CodeJoins: of two codes without places, one behind the other, the bytes stand one behind the other. No condition. -/
import Derived.Test.YtnkjbgcbchbonaaCodeC
import Derived.Test.YtnkjbgcbchbonaaRows
set_option linter.unusedSimpArgs false
set_option linter.unusedVariables false
set_option maxRecDepth 100000
set_option maxHeartbeats 3200000
namespace Go.Proofs.Ytnkjbgcbchbonaa
open Go Go.AW Go.ChangeShapes Go.WideShapes Go.ChangeAt Go.RowKit

theorem own : ownKnob Try.prog.godebug = none := by kernel_rfl

theorem laidOut : laidOutB Try.prog = true := by kernel_rfl

theorem arg_ins {k : Nat} {cs : List AV} (h : ArgC Try.prog (k + 3) 42 cs) : ∃ x : { x : Ins // Fit64 x }, pkV Try.prog 42 cs = insV x.val := by
  have hlen : cs.length = 6 := by
    simp only [ArgC, Try.underlying42] at h
    exact h.1
  match cs, hlen with
  | [x, y, z, w, u, v], _ =>
    simp [-Bool.exists_bool, ArgC, Try.underlying42, Try.underlying40, Try.underlying4, Try.underlying3, Try.underlying2] at h
    obtain ⟨⟨a, q1, _⟩, ⟨b, q2, w2⟩, ⟨c, q3, _⟩, ⟨d, q4, _⟩, ⟨e, q5, _⟩, ⟨f, q6⟩⟩ := h
    simp [Lit.wf, IntKind.min, IntKind.max, IntKind.signed, IntKind.bits] at w2
    subst q1 q2 q3 q4 q5 q6
    exact ⟨⟨⟨a, b, ⟨c, d, e, f⟩⟩, by unfold Fit64; simp; omega⟩, by simp [pkV, AW.isAgg, insV, Try.underlying42]⟩
theorem arg_code {k : Nat} {cs : List AV} (h : ArgC Try.prog (k + 4) 22 cs) : ∃ (l : List Ins) (nl : Bool), pkV Try.prog 22 cs = insL l .unk nl ∧ (∀ x ∈ l, Fit64 x) ∧ l.length ≤ 140737488355328 := by
  obtain ⟨m, nm, e2, p1, p2⟩ := arg_list (fun x : { x : Ins // Fit64 x } => insV x.val) Try.underlying22 (fun c hc => arg_ins hc) h
  simp [reachBytes] at p2
  refine ⟨m.map (·.val), nm, by rw [e2, insL, List.map_map]; rfl, fun x hx => ?_, by simp; omega⟩
  obtain ⟨y, _, rfl⟩ := List.mem_map.1 hx
  exact y.property

theorem codeEncodes_reads (os : Os) {H : Type} (enc : TypeId × Value → H) : ∃ places, DataW.whole enc Try.prog ((World.holding Try.prog os ⟨#[], #[Value.slice none 0 0], []⟩).forCall (fun _ _ => 0) ⟨#[], #[Value.slice none 0 0], []⟩).memory Try.f3.params.toList Rows.codeEncodesSpec.vars false #[Value.slice none 0 0].toList 8 = some ([.nil], [], places) :=
  ⟨[], by kernel_rfl⟩

theorem codeEncodes_contract (H : Type) (enc : TypeId × Value → H) (W : World) (base : Nat) (args : Array Value) (ds gs : List (DataW H)) (before : List MemPlace)
    (hval : ∀ (j : Nat) t v, Try.f3.params[j]? = some t → args[j]? = some v → Value.okWide Try.prog W .any base t v)
    (hW : DataW.Whole enc Try.prog Try.f3.params.toList Rows.codeEncodesSpec.vars false W args.toList ds gs before)
    (hwt : (DataW.weightsEach Try.prog (Try.f3.params.toList ++ Rows.codeEncodesSpec.plain.varTypes Try.prog) (ds ++ gs)).all (· ≤ reachBytes) = true) :
    Calls Try.prog 3 args W fun e W' => ∃ v, e = .returned v ∧ Rows.codeEncodesSpec.post enc Try.prog Try.f3 false true false false W args v W' := by
  refine law_contract (P := Try.prog) (fn := Try.f3) (k := 5) (ts := [22]) (tb := 4) (s := Rows.codeEncodesSpec) laidOut (by kernel_rfl) (by kernel_rfl) (by kernel_rfl) rfl Try.underlying4 rfl (fun ds h => ?_) (fun vs h => ?_) hval hW hwt
  · match ds, h with
    | [d1], _ => rfl
  · obtain ⟨c1, r, rfl, h1, h⟩ := h.inv
    obtain rfl := h.inv0
    obtain ⟨l, nl, e1, h64, hl⟩ := arg_code h1
    rw [e1]
    exact codeEncodes_ok l nl h64 hl

theorem codeEncodes_lifted (os : Os) (started : os.Started) (H : Type) (enc : TypeId × Value → H) (F : Stop.Interp) :
    ReturnsInHanded {} Try.checked os 3 .any ((OpenSpec.ofChange Rows.codeEncodesSpec).preRow enc Try.prog Try.f3 Rows.codeEncodesRow.domain false Rows.codeEncodesRow.laid)
      (((OpenSpec.ofChange Rows.codeEncodesSpec).at F).post enc Try.prog Try.f3 false true false false) := by
  obtain ⟨places, hx⟩ := codeEncodes_reads os enc
  refine returnsInHanded_of_row (C := Try.checked) (s := OpenSpec.ofChange Rows.codeEncodesSpec) own started (by kernel_rfl) Try.func3
    (witness_row_at (enc := enc) (C := Try.checked) false (World.holding Try.prog os ⟨#[], #[Value.slice none 0 0], []⟩) #[Value.slice none 0 0] rfl (by kernel_rfl) (by kernel_rfl) (by kernel_rfl)
      (OpenSpec.preRow_of_cond 8 hx (by kernel_rfl) (fun k hk => by cases hk) (by kernel_rfl) (show laidMetH Try.prog [] _ from ⟨[], rfl, List.nodup_nil, fun _ _ h => by cases h⟩))) ?_
  intro W base args ds gs before hval hW _ _ hwt _ _ _
  exact codeEncodes_contract H enc W base args ds gs before hval hW hwt

theorem codeEncodes_holds : Rows.CodeEncodesSaid :=
  OpenClaim.holds_of_cond 3 Try.f3 rfl rfl rfl rfl rfl rfl rfl ⟨rfl, rfl, rfl, rfl, rfl⟩ rfl rfl rfl rfl rfl (by kernel_rfl) Try.func3 (by kernel_rfl)
    (of_decide_eq_true (by kernel_rfl)) (by unfold Func.isWrapper; first | (rw [if_pos (by decide +kernel)]; kernel_rfl) | (rw [if_neg (by decide +kernel)]; exact ⟨rfl, rfl⟩))
    (fun os started H enc _ F => by rw [OpenClaim.pre_eq_preRow]; exact codeEncodes_lifted os started H enc F)


theorem codeBack_reads (os : Os) {H : Type} (enc : TypeId × Value → H) : ∃ places, DataW.whole enc Try.prog ((World.holding Try.prog os ⟨#[], #[Value.slice none 0 0], []⟩).forCall (fun _ _ => 0) ⟨#[], #[Value.slice none 0 0], []⟩).memory Try.f5.params.toList Rows.codeBackSpec.vars false #[Value.slice none 0 0].toList 8 = some ([.nil], [], places) :=
  ⟨[], by kernel_rfl⟩

theorem codeBack_contract (H : Type) (enc : TypeId × Value → H) (W : World) (base : Nat) (args : Array Value) (ds gs : List (DataW H)) (before : List MemPlace)
    (hval : ∀ (j : Nat) t v, Try.f5.params[j]? = some t → args[j]? = some v → Value.okWide Try.prog W .any base t v)
    (hW : DataW.Whole enc Try.prog Try.f5.params.toList Rows.codeBackSpec.vars false W args.toList ds gs before)
    (hwt : (DataW.weightsEach Try.prog (Try.f5.params.toList ++ Rows.codeBackSpec.plain.varTypes Try.prog) (ds ++ gs)).all (· ≤ reachBytes) = true) :
    Calls Try.prog 5 args W fun e W' => ∃ v, e = .returned v ∧ Rows.codeBackSpec.post enc Try.prog Try.f5 false true false false W args v W' := by
  refine law_contract (P := Try.prog) (fn := Try.f5) (k := 5) (ts := [22]) (tb := 4) (s := Rows.codeBackSpec) laidOut (by kernel_rfl) (by kernel_rfl) (by kernel_rfl) rfl Try.underlying4 rfl (fun ds h => ?_) (fun vs h => ?_) hval hW hwt
  · match ds, h with
    | [d1], _ => rfl
  · obtain ⟨c1, r, rfl, h1, h⟩ := h.inv
    obtain rfl := h.inv0
    obtain ⟨l, nl, e1, h64, hl⟩ := arg_code h1
    rw [e1]
    exact codeBack_ok l nl h64 hl

theorem codeBack_lifted (os : Os) (started : os.Started) (H : Type) (enc : TypeId × Value → H) (F : Stop.Interp) :
    ReturnsInHanded {} Try.checked os 5 .any ((OpenSpec.ofChange Rows.codeBackSpec).preRow enc Try.prog Try.f5 Rows.codeBackRow.domain false Rows.codeBackRow.laid)
      (((OpenSpec.ofChange Rows.codeBackSpec).at F).post enc Try.prog Try.f5 false true false false) := by
  obtain ⟨places, hx⟩ := codeBack_reads os enc
  refine returnsInHanded_of_row (C := Try.checked) (s := OpenSpec.ofChange Rows.codeBackSpec) own started (by kernel_rfl) Try.func5
    (witness_row_at (enc := enc) (C := Try.checked) false (World.holding Try.prog os ⟨#[], #[Value.slice none 0 0], []⟩) #[Value.slice none 0 0] rfl (by kernel_rfl) (by kernel_rfl) (by kernel_rfl)
      (OpenSpec.preRow_of_cond 8 hx (by kernel_rfl) (fun k hk => by cases hk) (by kernel_rfl) (show laidMetH Try.prog [] _ from ⟨[], rfl, List.nodup_nil, fun _ _ h => by cases h⟩))) ?_
  intro W base args ds gs before hval hW _ _ hwt _ _ _
  exact codeBack_contract H enc W base args ds gs before hval hW hwt

theorem codeBack_holds : Rows.CodeBackSaid :=
  OpenClaim.holds_of_cond 5 Try.f5 rfl rfl rfl rfl rfl rfl rfl ⟨rfl, rfl, rfl, rfl, rfl⟩ rfl rfl rfl rfl rfl (by kernel_rfl) Try.func5 (by kernel_rfl)
    (of_decide_eq_true (by kernel_rfl)) (by unfold Func.isWrapper; first | (rw [if_pos (by decide +kernel)]; kernel_rfl) | (rw [if_neg (by decide +kernel)]; exact ⟨rfl, rfl⟩))
    (fun os started H enc _ F => by rw [OpenClaim.pre_eq_preRow]; exact codeBack_lifted os started H enc F)


theorem codeOne_reads (os : Os) {H : Type} (enc : TypeId × Value → H) : ∃ places, DataW.whole enc Try.prog ((World.holding Try.prog os ⟨#[], #[Value.slice none 0 0], []⟩).forCall (fun _ _ => 0) ⟨#[], #[Value.slice none 0 0], []⟩).memory Try.f6.params.toList Rows.codeOneSpec.vars false #[Value.slice none 0 0].toList 8 = some ([.nil], [], places) :=
  ⟨[], by kernel_rfl⟩

theorem codeOne_contract (H : Type) (enc : TypeId × Value → H) (W : World) (base : Nat) (args : Array Value) (ds gs : List (DataW H)) (before : List MemPlace)
    (hval : ∀ (j : Nat) t v, Try.f6.params[j]? = some t → args[j]? = some v → Value.okWide Try.prog W .any base t v)
    (hW : DataW.Whole enc Try.prog Try.f6.params.toList Rows.codeOneSpec.vars false W args.toList ds gs before)
    (hwt : (DataW.weightsEach Try.prog (Try.f6.params.toList ++ Rows.codeOneSpec.plain.varTypes Try.prog) (ds ++ gs)).all (· ≤ reachBytes) = true) :
    Calls Try.prog 6 args W fun e W' => ∃ v, e = .returned v ∧ Rows.codeOneSpec.post enc Try.prog Try.f6 false true false false W args v W' := by
  refine law_contract (P := Try.prog) (fn := Try.f6) (k := 4) (ts := [30]) (tb := 4) (s := Rows.codeOneSpec) laidOut (by kernel_rfl) (by kernel_rfl) (by kernel_rfl) rfl Try.underlying4 rfl (fun ds h => ?_) (fun vs h => ?_) hval hW hwt
  · match ds, h with
    | [d1], _ => rfl
  · obtain ⟨c1, r, rfl, h1, h⟩ := h.inv
    obtain rfl := h.inv0
    obtain ⟨l, nl, e1, hn, hl⟩ := arg_bytes Try.underlying30 Try.underlying5 h1
    rw [e1]
    simp [reachBytes] at hl
    exact codeOne_ok l nl hn (by omega)

theorem codeOne_lifted (os : Os) (started : os.Started) (H : Type) (enc : TypeId × Value → H) (F : Stop.Interp) :
    ReturnsInHanded {} Try.checked os 6 .any ((OpenSpec.ofChange Rows.codeOneSpec).preRow enc Try.prog Try.f6 Rows.codeOneRow.domain false Rows.codeOneRow.laid)
      (((OpenSpec.ofChange Rows.codeOneSpec).at F).post enc Try.prog Try.f6 false true false false) := by
  obtain ⟨places, hx⟩ := codeOne_reads os enc
  refine returnsInHanded_of_row (C := Try.checked) (s := OpenSpec.ofChange Rows.codeOneSpec) own started (by kernel_rfl) Try.func6
    (witness_row_at (enc := enc) (C := Try.checked) false (World.holding Try.prog os ⟨#[], #[Value.slice none 0 0], []⟩) #[Value.slice none 0 0] rfl (by kernel_rfl) (by kernel_rfl) (by kernel_rfl)
      (OpenSpec.preRow_of_cond 8 hx (by kernel_rfl) (fun k hk => by cases hk) (by kernel_rfl) (show laidMetH Try.prog [] _ from ⟨[], rfl, List.nodup_nil, fun _ _ h => by cases h⟩))) ?_
  intro W base args ds gs before hval hW _ _ hwt _ _ _
  exact codeOne_contract H enc W base args ds gs before hval hW hwt

theorem codeOne_holds : Rows.CodeOneSaid :=
  OpenClaim.holds_of_cond 6 Try.f6 rfl rfl rfl rfl rfl rfl rfl ⟨rfl, rfl, rfl, rfl, rfl⟩ rfl rfl rfl rfl rfl (by kernel_rfl) Try.func6 (by kernel_rfl)
    (of_decide_eq_true (by kernel_rfl)) (by unfold Func.isWrapper; first | (rw [if_pos (by decide +kernel)]; kernel_rfl) | (rw [if_neg (by decide +kernel)]; exact ⟨rfl, rfl⟩))
    (fun os started H enc _ F => by rw [OpenClaim.pre_eq_preRow]; exact codeOne_lifted os started H enc F)


theorem codeJoins_reads (os : Os) {H : Type} (enc : TypeId × Value → H) : ∃ places, DataW.whole enc Try.prog ((World.holding Try.prog os ⟨#[], #[Value.slice none 0 0, Value.slice none 0 0], []⟩).forCall (fun _ _ => 0) ⟨#[], #[Value.slice none 0 0, Value.slice none 0 0], []⟩).memory Try.f4.params.toList Rows.codeJoinsSpec.vars false #[Value.slice none 0 0, Value.slice none 0 0].toList 8 = some ([.nil, .nil], [], places) :=
  ⟨[], by kernel_rfl⟩

theorem codeJoins_contract (H : Type) (enc : TypeId × Value → H) (W : World) (base : Nat) (args : Array Value) (ds gs : List (DataW H)) (before : List MemPlace)
    (hval : ∀ (j : Nat) t v, Try.f4.params[j]? = some t → args[j]? = some v → Value.okWide Try.prog W .any base t v)
    (hW : DataW.Whole enc Try.prog Try.f4.params.toList Rows.codeJoinsSpec.vars false W args.toList ds gs before)
    (hwt : (DataW.weightsEach Try.prog (Try.f4.params.toList ++ Rows.codeJoinsSpec.plain.varTypes Try.prog) (ds ++ gs)).all (· ≤ reachBytes) = true) :
    Calls Try.prog 4 args W fun e W' => ∃ v, e = .returned v ∧ Rows.codeJoinsSpec.post enc Try.prog Try.f4 false true false false W args v W' := by
  refine law_contract (P := Try.prog) (fn := Try.f4) (k := 5) (ts := [22, 22]) (tb := 4) (s := Rows.codeJoinsSpec) laidOut (by kernel_rfl) (by kernel_rfl) (by kernel_rfl) rfl Try.underlying4 rfl (fun ds h => ?_) (fun vs h => ?_) hval hW hwt
  · match ds, h with
    | [d1, d2], _ => rfl
  · obtain ⟨c1, r, rfl, h1, h⟩ := h.inv
    obtain ⟨c2, r, rfl, h2, h⟩ := h.inv
    obtain rfl := h.inv0
    obtain ⟨l, nl, e1, _, hl⟩ := arg_code h1
    obtain ⟨m, nm, e2, _, hm⟩ := arg_code h2
    rw [e1, e2]
    exact codeJoins_ok l m nl nm hl hm

theorem codeJoins_lifted (os : Os) (started : os.Started) (H : Type) (enc : TypeId × Value → H) (F : Stop.Interp) :
    ReturnsInHanded {} Try.checked os 4 .any ((OpenSpec.ofChange Rows.codeJoinsSpec).preRow enc Try.prog Try.f4 Rows.codeJoinsRow.domain false Rows.codeJoinsRow.laid)
      (((OpenSpec.ofChange Rows.codeJoinsSpec).at F).post enc Try.prog Try.f4 false true false false) := by
  obtain ⟨places, hx⟩ := codeJoins_reads os enc
  refine returnsInHanded_of_row (C := Try.checked) (s := OpenSpec.ofChange Rows.codeJoinsSpec) own started (by kernel_rfl) Try.func4
    (witness_row_at (enc := enc) (C := Try.checked) false (World.holding Try.prog os ⟨#[], #[Value.slice none 0 0, Value.slice none 0 0], []⟩) #[Value.slice none 0 0, Value.slice none 0 0] rfl (by kernel_rfl) (by kernel_rfl) (by kernel_rfl)
      (OpenSpec.preRow_of_cond 8 hx (by kernel_rfl) (fun k hk => by cases hk) (by kernel_rfl) (show laidMetH Try.prog [] _ from ⟨[], rfl, List.nodup_nil, fun _ _ h => by cases h⟩))) ?_
  intro W base args ds gs before hval hW _ _ hwt _ _ _
  exact codeJoins_contract H enc W base args ds gs before hval hW hwt

theorem codeJoins_holds : Rows.CodeJoinsSaid :=
  OpenClaim.holds_of_cond 4 Try.f4 rfl rfl rfl rfl rfl rfl rfl ⟨rfl, rfl, rfl, rfl, rfl⟩ rfl rfl rfl rfl rfl (by kernel_rfl) Try.func4 (by kernel_rfl)
    (of_decide_eq_true (by kernel_rfl)) (by unfold Func.isWrapper; first | (rw [if_pos (by decide +kernel)]; kernel_rfl) | (rw [if_neg (by decide +kernel)]; exact ⟨rfl, rfl⟩))
    (fun os started H enc _ F => by rw [OpenClaim.pre_eq_preRow]; exact codeJoins_lifted os started H enc F)


end Go.Proofs.Ytnkjbgcbchbonaa
