/- PoolName: at any place of any bytes stands the name that the document says, or none; any text is a name just where it says so. No condition. -/
import Derived.Test.YtiojkpebjdifoaaPool5
import Derived.Test.YtiojkpebjdifoaaRows
set_option linter.unusedSimpArgs false
set_option linter.unusedVariables false
set_option maxRecDepth 100000
set_option maxHeartbeats 3200000
namespace Go.Proofs.Ytiojkpebjdifoaa
open Go Go.AW Go.ChangeShapes Go.WideShapes Go.ChangeAt Go.RowKit

theorem poolName_reads (os : Os) {H : Type} (enc : TypeId × Value → H) : ∃ places, DataW.whole enc Try.prog ((World.holding Try.prog os ⟨#[], #[Value.slice none 0 0, Value.int .i64 0, Value.string ByteArray.empty], []⟩).forCall (fun _ _ => 0) ⟨#[], #[Value.slice none 0 0, Value.int .i64 0, Value.string ByteArray.empty], []⟩).memory Try.f9.params.toList Rows.poolNameSpec.vars false #[Value.slice none 0 0, Value.int .i64 0, Value.string ByteArray.empty].toList 8 = some ([.nil, .lit (.int .i64 0), .lit (.string [])], [], places) :=
  ⟨[], by kernel_rfl⟩

theorem poolName_contract (H : Type) (enc : TypeId × Value → H) (W : World) (base : Nat) (args : Array Value) (ds gs : List (DataW H)) (before : List MemPlace)
    (hval : ∀ (j : Nat) t v, Try.f9.params[j]? = some t → args[j]? = some v → Value.okWide Try.prog W .any base t v)
    (hW : DataW.Whole enc Try.prog Try.f9.params.toList Rows.poolNameSpec.vars false W args.toList ds gs before)
    (hwt : (DataW.weightsEach Try.prog (Try.f9.params.toList ++ Rows.poolNameSpec.plain.varTypes Try.prog) (ds ++ gs)).all (· ≤ reachBytes) = true) :
    Calls Try.prog 9 args W fun e W' => ∃ v, e = .returned v ∧ Rows.poolNameSpec.post enc Try.prog Try.f9 false true false false W args v W' := by
  refine law_contract (P := Try.prog) (fn := Try.f9) (k := 4) (ts := [22, 3, 9]) (tb := 4) (s := Rows.poolNameSpec) laidOut (by kernel_rfl) (by kernel_rfl) (by kernel_rfl) rfl Try.underlying4 rfl (fun ds h => ?_) (fun vs h => ?_) hval hW hwt
  · match ds, h with
    | [d1, d2, d3], _ => rfl
  · obtain ⟨c1, r, rfl, h1, h⟩ := h.inv
    obtain ⟨c2, r, rfl, h2, h⟩ := h.inv
    obtain ⟨c3, r, rfl, h3, h⟩ := h.inv
    obtain rfl := h.inv0
    obtain ⟨l, nl, e1, hn, hl⟩ := arg_bytes Try.underlying22 Try.underlying5 h1
    obtain ⟨k, e2, w2⟩ := arg_int Try.underlying3 h2
    obtain ⟨s, e3, hs⟩ := arg_str Try.underlying9 h3
    rw [e1, e2, e3]
    simp [Lit.wf, IntKind.min, IntKind.max, IntKind.signed, IntKind.bits] at w2
    simp [reachBytes] at hl hs
    have e : s = ⟨s.data.toList.toArray⟩ := by simp
    have hs' : s.data.toList.length ≤ 140737488355328 := by
      have : s.data.toList.length = s.size := by simp
      omega
    generalize s.data.toList = t at e hs'
    subst e
    exact poolName_ok l t nl k hn (by omega) hs' (by omega) (by omega)

theorem poolName_lifted (os : Os) (started : os.Started) (H : Type) (enc : TypeId × Value → H) (F : Stop.Interp) :
    ReturnsInHanded {} Try.checked os 9 .any ((OpenSpec.ofChange Rows.poolNameSpec).preRow enc Try.prog Try.f9 Rows.poolNameRow.domain false Rows.poolNameRow.laid)
      (((OpenSpec.ofChange Rows.poolNameSpec).at F).post enc Try.prog Try.f9 false true false false) := by
  obtain ⟨places, hx⟩ := poolName_reads os enc
  refine returnsInHanded_of_row (C := Try.checked) (s := OpenSpec.ofChange Rows.poolNameSpec) own started (by kernel_rfl) Try.func9
    (witness_row_at (enc := enc) (C := Try.checked) false (World.holding Try.prog os ⟨#[], #[Value.slice none 0 0, Value.int .i64 0, Value.string ByteArray.empty], []⟩) #[Value.slice none 0 0, Value.int .i64 0, Value.string ByteArray.empty] rfl (by kernel_rfl) (by kernel_rfl) (by kernel_rfl)
      (OpenSpec.preRow_of_cond 8 hx (by kernel_rfl) (fun k hk => by cases hk) (by kernel_rfl) (show laidMetH Try.prog [] _ from ⟨[], rfl, List.nodup_nil, fun _ _ h => by cases h⟩))) ?_
  intro W base args ds gs before hval hW _ _ hwt _ _ _
  exact poolName_contract H enc W base args ds gs before hval hW hwt

theorem poolName_holds : Rows.PoolNameSaid :=
  OpenClaim.holds_of_cond 9 Try.f9 rfl rfl rfl rfl rfl rfl rfl ⟨rfl, rfl, rfl, rfl, rfl⟩ rfl rfl rfl rfl rfl (by kernel_rfl) Try.func9 (by kernel_rfl)
    (of_decide_eq_true (by kernel_rfl)) (by unfold Func.isWrapper; first | (rw [if_pos (by decide +kernel)]; kernel_rfl) | (rw [if_neg (by decide +kernel)]; exact ⟨rfl, rfl⟩))
    (fun os started H enc _ F => by rw [OpenClaim.pre_eq_preRow]; exact poolName_lifted os started H enc F)


end Go.Proofs.Ytiojkpebjdifoaa
