/- OctetOne: a packed number has one way to be told: what is read, packed again, is the bytes that were read. No condition. -/
import Derived.Test.YtiojkpebjdifoaaPacks
set_option linter.unusedSimpArgs false
set_option linter.unusedVariables false
set_option maxRecDepth 100000
set_option maxHeartbeats 800000
namespace Go.Proofs.Ytiojkpebjdifoaa
open Go Go.AW Go.ChangeShapes Go.WideShapes Go.ChangeAt Go.RowKit

theorem upk_err (b : List UInt8) (x k e : Int) (h : upk b = (x, k, e)) (he : e ≠ 0) : x = 0 := by
  unfold upk at h
  split at h
  · simp only [Prod.mk.injEq] at h; exact h.1.symm
  · simp only at h
    split at h
    · simp only [Prod.mk.injEq] at h; exact h.1.symm
    · split at h
      · simp only [Prod.mk.injEq] at h; exact h.1.symm
      · split at h
        · simp only [Prod.mk.injEq] at h; exact absurd h.2.2.symm he
        · simp only [Prod.mk.injEq] at h; exact h.1.symm

theorem one_ok (l : List UInt8) (nl : Bool) (hn : nl = true → l = []) (hl : l.length ≤ 140737488355328) :
    ACalls Try.prog 3 [.lst 5 (l.map u8) .unk nl] noAS IsTrue No := by
  refine ACalls.of_body Try.func3 rfl rfl (by simp [Try.ntmps3]) ?_
  repeat (first
    | (with_reducible refine AWp.seq ?_)
    | (with_reducible refine AWp.block ?_)
    | (with_reducible refine And.intro (by first | omega | assumption | decide) ?_)
    | ((with_reducible refine AWp.region ?_); simp)
    | ((with_reducible refine AWp.ret ?_); try simp)
    | ((with_reducible refine AWp.skip ?_); try simp)
    | ((with_reducible refine AWp.exit ?_); try simp)
    | ((refine AWp.cond rfl (fun _ => ?_) (fun hcf => absurd hcf ?hcd)); (case hcd => (simp; done)))
    | ((refine AWp.cond rfl (fun hcf => absurd hcf ?hcd) (fun _ => ?_)); (case hcd => (simp; done))))
  refine aCall.of (wakes_ok _) ?_ (fun _ _ h => h.elim)
  rintro r σ rfl
  simp
  repeat (first
    | (with_reducible refine AWp.seq ?_)
    | (with_reducible refine AWp.block ?_)
    | (with_reducible refine And.intro (by first | omega | assumption | decide) ?_)
    | ((with_reducible refine AWp.region ?_); simp [hl])
    | ((with_reducible refine AWp.ret ?_); try simp [hl])
    | ((with_reducible refine AWp.skip ?_); try simp [hl])
    | ((with_reducible refine AWp.exit ?_); try simp [hl])
    | ((refine AWp.cond rfl (fun _ => ?_) (fun hcf => absurd hcf ?hcd)); (case hcd => (simp [hl]; done)))
    | ((refine AWp.cond rfl (fun hcf => absurd hcf ?hcd) (fun _ => ?_)); (case hcd => (simp [hl]; done))))
  intro tk htk
  refine aCall.of (new_ok l (.tok tk) false (by simp) hl _) ?_ (fun _ _ h => h.elim)
  rintro r σ2 ⟨id, hid, rfl, rfl⟩
  simp
  repeat (first
    | (with_reducible refine AWp.seq ?_)
    | (with_reducible refine AWp.block ?_)
    | (with_reducible refine And.intro (by first | omega | assumption | decide) ?_)
    | ((with_reducible refine AWp.region ?_); simp)
    | ((with_reducible refine AWp.ret ?_); try simp)
    | ((with_reducible refine AWp.skip ?_); try simp)
    | ((with_reducible refine AWp.exit ?_); try simp)
    | ((refine AWp.cond rfl (fun _ => ?_) (fun hcf => absurd hcf ?hcd)); (case hcd => (simp; done)))
    | ((refine AWp.cond rfl (fun hcf => absurd hcf ?hcd) (fun _ => ?_)); (case hcd => (simp; done))))
  obtain ⟨x, k, e, hu⟩ : ∃ x k e, upk (l.drop (0 : Int).toNat) = (x, k, e) := ⟨_, _, _, rfl⟩
  refine aCall.gives (packed_ok id l 0 false _ (by simp) (by simp) (by omega) (by omega) hl x k e hu) ?_
  simp
  by_cases he : e = 0
  · subst he
    simp at hu
    obtain ⟨h0, h1, h2, h3, h4, h5⟩ := upk_one l x k hu
    have hlen := packL_length x
    have e1 : (packL x).length = k.toNat := by omega
    have e2 : ((packL x).length : Int) = k := by omega
    have e4 : ¬ l.length < k.toNat := by omega
    repeat (first
      | (with_reducible refine AWp.seq ?_)
      | (with_reducible refine AWp.block ?_)
      | (with_reducible refine And.intro (by first | omega | assumption | decide) ?_)
      | ((with_reducible refine AWp.region ?_); simp)
      | ((with_reducible refine AWp.ret ?_); try simp)
      | ((with_reducible refine AWp.skip ?_); try simp)
      | ((with_reducible refine AWp.exit ?_); try simp)
      | ((refine AWp.cond rfl (fun _ => ?_) (fun hcf => absurd hcf ?hcd)); (case hcd => (simp; done)))
      | ((refine AWp.cond rfl (fun hcf => absurd hcf ?hcd) (fun _ => ?_)); (case hcd => (simp; done))))
    refine aCall.owns ((pack_ok [] .unk true (fun _ => rfl) (by simp) x h0 h1 _).wk _ rfl (fun i hi => by
      match i, hi with
      | 0, _ => simp
      | 1, _ => simp)) (fun tk2 htk2 => ?_)
    have ne2 : id ≠ tk2 := by intro h; subst h; simp at htk2
    simp
    repeat (first
      | (with_reducible refine AWp.seq ?_)
      | (with_reducible refine AWp.block ?_)
      | (with_reducible refine And.intro (by first | omega | assumption | decide) ?_)
      | ((with_reducible refine AWp.region ?_); simp [e2, e4, ne2, ne2.symm])
      | ((refine aCall.gives (at_ok id l k false _ (by simp [ne2])) ?_); simp [e2, e4, ne2, ne2.symm])
      | ((with_reducible refine AWp.ret ?_); try simp [e2, e4, ne2, ne2.symm])
      | ((with_reducible refine AWp.skip ?_); try simp [e2, e4, ne2, ne2.symm])
      | ((with_reducible refine AWp.exit ?_); try simp [e2, e4, ne2, ne2.symm])
      | ((refine AWp.cond rfl (fun _ => ?_) (fun hcf => absurd hcf ?hcd)); (case hcd => (simp [e2, e4, ne2, ne2.symm]; done)))
      | ((refine AWp.cond rfl (fun hcf => absurd hcf ?hcd) (fun _ => ?_)); (case hcd => (simp [e2, e4, ne2, ne2.symm]; done))))
    have e3 : min k.toNat l.length = k.toNat := by omega
    have e5 : List.take k.toNat (l.map u8) = (l.take k.toNat).map u8 := by simp [List.map_take]
    rw [e5]
    refine aCall.gives (same_ok (packL x) (l.take k.toNat) (.tok tk2) .unk false nl (by omega) _) ?_
    rw [h5]
    simp
    repeat (first
      | (with_reducible refine AWp.seq ?_)
      | (with_reducible refine AWp.block ?_)
      | (with_reducible refine And.intro (by first | omega | assumption | decide) ?_)
      | ((with_reducible refine AWp.region ?_); simp)
      | ((with_reducible refine AWp.ret ?_); try simp)
      | ((with_reducible refine AWp.skip ?_); try simp)
      | ((with_reducible refine AWp.exit ?_); try simp)
      | ((refine AWp.cond rfl (fun _ => ?_) (fun hcf => absurd hcf ?hcd)); (case hcd => (simp; done)))
      | ((refine AWp.cond rfl (fun hcf => absurd hcf ?hcd) (fun _ => ?_)); (case hcd => (simp; done))))
    exact ⟨_, _, Wk.refl _, AS.le_refl _, rfl⟩
  · have := upk_err _ _ _ _ hu he
    subst this
    repeat (first
      | (with_reducible refine AWp.seq ?_)
      | (with_reducible refine AWp.block ?_)
      | (with_reducible refine And.intro (by first | omega | assumption | decide) ?_)
      | ((with_reducible refine AWp.region ?_); simp [he])
      | ((refine aCall.gives (at_ok id l 0 false _ (by simp)) ?_); simp [he])
      | ((with_reducible refine AWp.ret ?_); try simp [he])
      | ((with_reducible refine AWp.skip ?_); try simp [he])
      | ((with_reducible refine AWp.exit ?_); try simp [he])
      | ((refine AWp.cond rfl (fun _ => ?_) (fun hcf => absurd hcf ?hcd)); (case hcd => (simp [he]; done)))
      | ((refine AWp.cond rfl (fun hcf => absurd hcf ?hcd) (fun _ => ?_)); (case hcd => (simp [he]; done))))
    exact ⟨_, _, Wk.refl _, AS.le_refl _, rfl⟩

theorem octetOne_reads (os : Os) {H : Type} (enc : TypeId × Value → H) : ∃ places, DataW.whole enc Try.prog ((World.holding Try.prog os ⟨#[], #[Value.slice none 0 0], []⟩).forCall (fun _ _ => 0) ⟨#[], #[Value.slice none 0 0], []⟩).memory Try.f3.params.toList Rows.octetOneSpec.vars false #[Value.slice none 0 0].toList 8 = some ([.nil], [], places) :=
  ⟨[], by kernel_rfl⟩

theorem octetOne_contract (H : Type) (enc : TypeId × Value → H) (W : World) (base : Nat) (args : Array Value) (ds gs : List (DataW H)) (before : List MemPlace)
    (hval : ∀ (j : Nat) t v, Try.f3.params[j]? = some t → args[j]? = some v → Value.okWide Try.prog W .any base t v)
    (hW : DataW.Whole enc Try.prog Try.f3.params.toList Rows.octetOneSpec.vars false W args.toList ds gs before)
    (hwt : (DataW.weightsEach Try.prog (Try.f3.params.toList ++ Rows.octetOneSpec.plain.varTypes Try.prog) (ds ++ gs)).all (· ≤ reachBytes) = true) :
    Calls Try.prog 3 args W fun e W' => ∃ v, e = .returned v ∧ Rows.octetOneSpec.post enc Try.prog Try.f3 false true false false W args v W' := by
  refine law_contract (P := Try.prog) (fn := Try.f3) (k := 4) (ts := [22]) (tb := 4) (s := Rows.octetOneSpec) laidOut (by kernel_rfl) (by kernel_rfl) (by kernel_rfl) rfl Try.underlying4 rfl (fun ds h => ?_) (fun vs h => ?_) hval hW hwt
  · match ds, h with
    | [d1], _ => rfl
  · obtain ⟨c1, r, rfl, h1, h⟩ := h.inv
    obtain rfl := h.inv0
    obtain ⟨l, nl, e1, hn, hl⟩ := arg_bytes Try.underlying22 Try.underlying5 h1
    rw [e1]
    simp [reachBytes] at hl
    exact one_ok l nl hn (by omega)

theorem octetOne_lifted (os : Os) (started : os.Started) (H : Type) (enc : TypeId × Value → H) (F : Stop.Interp) :
    ReturnsInHanded {} Try.checked os 3 .any ((OpenSpec.ofChange Rows.octetOneSpec).preRow enc Try.prog Try.f3 Rows.octetOneRow.domain false Rows.octetOneRow.laid)
      (((OpenSpec.ofChange Rows.octetOneSpec).at F).post enc Try.prog Try.f3 false true false false) := by
  obtain ⟨places, hx⟩ := octetOne_reads os enc
  refine returnsInHanded_of_row (C := Try.checked) (s := OpenSpec.ofChange Rows.octetOneSpec) own started (by kernel_rfl) Try.func3
    (witness_row_at (enc := enc) (C := Try.checked) false (World.holding Try.prog os ⟨#[], #[Value.slice none 0 0], []⟩) #[Value.slice none 0 0] rfl (by kernel_rfl) (by kernel_rfl) (by kernel_rfl)
      (OpenSpec.preRow_of_cond 8 hx (by kernel_rfl) (fun k hk => by cases hk) (by kernel_rfl) (show laidMetH Try.prog [] _ from ⟨[], rfl, List.nodup_nil, fun _ _ h => by cases h⟩))) ?_
  intro W base args ds gs before hval hW _ _ hwt _ _ _
  exact octetOne_contract H enc W base args ds gs before hval hW hwt

theorem octetOne_holds : Rows.OctetOneSaid :=
  OpenClaim.holds_of_cond 3 Try.f3 rfl rfl rfl rfl rfl rfl rfl ⟨rfl, rfl, rfl, rfl, rfl⟩ rfl rfl rfl rfl rfl (by kernel_rfl) Try.func3 (by kernel_rfl)
    (of_decide_eq_true (by kernel_rfl)) (by unfold Func.isWrapper; first | (rw [if_pos (by decide +kernel)]; kernel_rfl) | (rw [if_neg (by decide +kernel)]; exact ⟨rfl, rfl⟩))
    (fun os started H enc _ F => by rw [OpenClaim.pre_eq_preRow]; exact octetOne_lifted os started H enc F)


end Go.Proofs.Ytiojkpebjdifoaa
