/- PoolNames: any names make the pool and the places that the document says, or are refused. No condition. -/
import Derived.Test.YtiojkpebjdifoaaPool6
import Derived.Test.YtiojkpebjdifoaaRows
set_option linter.unusedSimpArgs false
set_option linter.unusedVariables false
set_option maxRecDepth 100000
set_option maxHeartbeats 3200000
namespace Go.Proofs.Ytiojkpebjdifoaa
open Go Go.AW Go.ChangeShapes Go.WideShapes Go.ChangeAt Go.RowKit

/-- A list of texts. -/
theorem arg_texts {k : Nat} {cs : List AV} (h : ArgC Try.prog (k + 2) 54 cs) :
    ∃ (l : List (List UInt8)) (nl : Bool), pkV Try.prog 54 cs = .lst 9 (l.map sV) .unk nl ∧ (nl = true → l = []) ∧ l.length ≤ 140737488355328 / 16 ∧ ∀ s ∈ l, s.length ≤ 140737488355328 := by
  obtain ⟨l, nl, e, hn, hl⟩ := arg_list (α := { s : List UInt8 // s.length ≤ 140737488355328 }) (fun s => sV s.1) Try.underlying54 (fun c hc => by
    obtain ⟨s, e, hs⟩ := arg_str Try.underlying9 hc
    have hs' : s.data.toList.length ≤ 140737488355328 := by
      have : s.data.toList.length = s.size := by simp
      simp [reachBytes] at hs
      omega
    exact ⟨⟨s.data.toList, hs'⟩, by rw [e]; simp [sV]⟩) h
  refine ⟨l.map (·.1), nl, by rw [e]; simp [List.map_map, Function.comp_def], fun h => by rw [hn h]; rfl, ?_, ?_⟩
  · simp [reachBytes] at hl
    simp
    omega
  · intro s hs
    obtain ⟨a, _, rfl⟩ := List.mem_map.1 hs
    exact a.2

theorem poolNames_reads (os : Os) {H : Type} (enc : TypeId × Value → H) : ∃ places, DataW.whole enc Try.prog ((World.holding Try.prog os ⟨#[], #[Value.slice none 0 0], []⟩).forCall (fun _ _ => 0) ⟨#[], #[Value.slice none 0 0], []⟩).memory Try.f8.params.toList Rows.poolNamesSpec.vars false #[Value.slice none 0 0].toList 8 = some ([.nil], [], places) :=
  ⟨[], by kernel_rfl⟩

theorem poolNames_contract (H : Type) (enc : TypeId × Value → H) (W : World) (base : Nat) (args : Array Value) (ds gs : List (DataW H)) (before : List MemPlace)
    (hval : ∀ (j : Nat) t v, Try.f8.params[j]? = some t → args[j]? = some v → Value.okWide Try.prog W .any base t v)
    (hW : DataW.Whole enc Try.prog Try.f8.params.toList Rows.poolNamesSpec.vars false W args.toList ds gs before)
    (hwt : (DataW.weightsEach Try.prog (Try.f8.params.toList ++ Rows.poolNamesSpec.plain.varTypes Try.prog) (ds ++ gs)).all (· ≤ reachBytes) = true) :
    Calls Try.prog 8 args W fun e W' => ∃ v, e = .returned v ∧ Rows.poolNamesSpec.post enc Try.prog Try.f8 false true false false W args v W' := by
  refine law_contract (P := Try.prog) (fn := Try.f8) (k := 4) (ts := [54]) (tb := 4) (s := Rows.poolNamesSpec) laidOut (by kernel_rfl) (by kernel_rfl) (by kernel_rfl) rfl Try.underlying4 rfl (fun ds h => ?_) (fun vs h => ?_) hval hW hwt
  · match ds, h with
    | [d1], _ => rfl
  · obtain ⟨c1, r, rfl, h1, h⟩ := h.inv
    obtain rfl := h.inv0
    obtain ⟨l, nl, e1, hn, hl, hs⟩ := arg_texts h1
    rw [e1]
    exact poolNames_ok l nl hn (by omega) hs

theorem poolNames_lifted (os : Os) (started : os.Started) (H : Type) (enc : TypeId × Value → H) (F : Stop.Interp) :
    ReturnsInHanded {} Try.checked os 8 .any ((OpenSpec.ofChange Rows.poolNamesSpec).preRow enc Try.prog Try.f8 Rows.poolNamesRow.domain false Rows.poolNamesRow.laid)
      (((OpenSpec.ofChange Rows.poolNamesSpec).at F).post enc Try.prog Try.f8 false true false false) := by
  obtain ⟨places, hx⟩ := poolNames_reads os enc
  refine returnsInHanded_of_row (C := Try.checked) (s := OpenSpec.ofChange Rows.poolNamesSpec) own started (by kernel_rfl) Try.func8
    (witness_row_at (enc := enc) (C := Try.checked) false (World.holding Try.prog os ⟨#[], #[Value.slice none 0 0], []⟩) #[Value.slice none 0 0] rfl (by kernel_rfl) (by kernel_rfl) (by kernel_rfl)
      (OpenSpec.preRow_of_cond 8 hx (by kernel_rfl) (fun k hk => by cases hk) (by kernel_rfl) (show laidMetH Try.prog [] _ from ⟨[], rfl, List.nodup_nil, fun _ _ h => by cases h⟩))) ?_
  intro W base args ds gs before hval hW _ _ hwt _ _ _
  exact poolNames_contract H enc W base args ds gs before hval hW hwt

theorem poolNames_holds : Rows.PoolNamesSaid :=
  OpenClaim.holds_of_cond 8 Try.f8 rfl rfl rfl rfl rfl rfl rfl ⟨rfl, rfl, rfl, rfl, rfl⟩ rfl rfl rfl rfl rfl (by kernel_rfl) Try.func8 (by kernel_rfl)
    (of_decide_eq_true (by kernel_rfl)) (by unfold Func.isWrapper; first | (rw [if_pos (by decide +kernel)]; kernel_rfl) | (rw [if_neg (by decide +kernel)]; exact ⟨rfl, rfl⟩))
    (fun os started H enc _ F => by rw [OpenClaim.pre_eq_preRow]; exact poolNames_lifted os started H enc F)


end Go.Proofs.Ytiojkpebjdifoaa
