/- OctetPuts: any number is put behind any bytes as the document says, or refused, and read back; the bytes stay as they were. No condition. -/
import Derived.Test.YtiojkpebjdifoaaWakes
import Derived.Test.YtiojkpebjdifoaaRef1
import Derived.Test.YtiojkpebjdifoaaRows
set_option linter.unusedSimpArgs false
set_option linter.unusedVariables false
set_option maxRecDepth 100000
namespace Go.Proofs.Ytiojkpebjdifoaa
open Go Go.AW Go.ChangeShapes Go.WideShapes Go.ChangeAt Go.RowKit

theorem numL_putB (x : Int) (hx : 0 ≤ x) (k : Nat) : numL (putB x k) = x % 256 ^ k := by
  induction k generalizing x with
  | zero => simp [putB, numL, Int.emod_one]
  | succ k ih =>
    have h1 := ih (x / 256) (by omega)
    have h2 : ((UInt8.ofNat (x % 256).toNat).toNat : Int) = x % 256 := by simp; omega
    simp only [putB, numL, h1, h2]
    rw [Int.pow_succ, Int.mul_comm (256 ^ k) 256]
    have hp : (0 : Int) < 256 ^ k := Int.pow_pos (by omega)
    have e1 := Int.emod_add_mul_ediv x (256 * 256 ^ k)
    have e2 := Int.emod_add_mul_ediv (x / 256) (256 ^ k)
    have e3 : x / 256 / 256 ^ k = x / (256 * 256 ^ k) := Int.ediv_ediv_of_nonneg (by omega)
    rw [e3] at e2
    rw [Int.mul_assoc] at e1
    generalize x / (256 * 256 ^ k) = q at *
    generalize 256 ^ k * q = r at *
    omega

theorem seg_append (l p : List UInt8) : seg (l ++ p) l.length p.length = p := by
  simp only [seg]
  rw [show ((l.length : Int) + p.length).toNat = (l ++ p).length by simp; omega, List.take_length]
  simp

theorem puts_ok (l : List UInt8) (nl : Bool) (hn : nl = true → l = []) (x n : Int) (hx : 0 ≤ x) (hx2 : x < 18446744073709551616) :
    ACalls Try.prog 5 [.lst 5 (l.map u8) .unk nl, .sc (.int .u64 x), .sc (.int .i64 n)] noAS IsTrue No := by
  refine ACalls.of_body Try.func5 rfl rfl (by simp [Try.ntmps5]) ?_
  repeat (first
    | (with_reducible refine AWp.seq ?_)
    | (with_reducible refine AWp.block ?_)
    | (with_reducible refine And.intro (by first | omega | assumption | decide) ?_)
    | ((with_reducible refine AWp.region ?_); simp)
    | ((with_reducible refine AWp.ret ?_); try simp)
    | ((with_reducible refine AWp.skip ?_); try simp)
    | ((with_reducible refine AWp.exit ?_); try simp)
    | ((refine AWp.cond rfl (fun _ => ?_) (fun hcf => absurd hcf ?hcd)); (case hcd => (simp; done)))
    | ((refine AWp.cond rfl (fun hcf => absurd hcf ?hcd) (fun _ => ?_)); (case hcd => (simp; done))))
  refine aCall.of (wakes_ok _) ?_ (fun _ _ h => h.elim)
  rintro r σ rfl
  simp
  by_cases hl : 4096 < (l.length : Int)
  · repeat (first
      | (with_reducible refine AWp.seq ?_)
      | (with_reducible refine AWp.block ?_)
      | (with_reducible refine And.intro (by first | omega | assumption | decide) ?_)
      | ((with_reducible refine AWp.region ?_); simp [hl])
      | ((with_reducible refine AWp.ret ?_); try simp [hl])
      | ((with_reducible refine AWp.skip ?_); try simp [hl])
      | ((with_reducible refine AWp.exit ?_); try simp [hl])
      | ((refine AWp.cond rfl (fun _ => ?_) (fun hcf => absurd hcf ?hcd)); (case hcd => (simp [hl]; done)))
      | ((refine AWp.cond rfl (fun hcf => absurd hcf ?hcd) (fun _ => ?_)); (case hcd => (simp [hl]; done))))
    exact ⟨_, _, Wk.refl _, AS.le_refl _, rfl⟩
  · have hl1 : l.length ≤ 140737488355328 := by omega
    repeat (first
      | (with_reducible refine AWp.seq ?_)
      | (with_reducible refine AWp.block ?_)
      | (with_reducible refine And.intro (by first | omega | assumption | decide) ?_)
      | ((with_reducible refine AWp.region ?_); simp [hl, hl1])
      | ((with_reducible refine AWp.ret ?_); try simp [hl, hl1])
      | ((with_reducible refine AWp.skip ?_); try simp [hl, hl1])
      | ((with_reducible refine AWp.exit ?_); try simp [hl, hl1])
      | ((refine AWp.cond rfl (fun _ => ?_) (fun hcf => absurd hcf ?hcd)); (case hcd => (simp [hl, hl1]; done)))
      | ((refine AWp.cond rfl (fun hcf => absurd hcf ?hcd) (fun _ => ?_)); (case hcd => (simp [hl, hl1]; done))))
    intro tk htk
    repeat (first
      | (with_reducible refine AWp.seq ?_)
      | (with_reducible refine AWp.block ?_)
      | (with_reducible refine And.intro (by first | omega | assumption | decide) ?_)
      | ((with_reducible refine AWp.region ?_); simp)
      | ((with_reducible refine AWp.ret ?_); try simp)
      | ((with_reducible refine AWp.skip ?_); try simp)
      | ((with_reducible refine AWp.exit ?_); try simp)
      | ((refine AWp.cond rfl (fun _ => ?_) (fun hcf => absurd hcf ?hcd)); (case hcd => (simp; done)))
      | ((refine AWp.cond rfl (fun hcf => absurd hcf ?hcd) (fun _ => ?_)); (case hcd => (simp; done))))
    by_cases hw : wide n = true
    · have hn1 : 1 ≤ n ∧ n ≤ 8 := by simp [wide] at hw; omega
      have hlen : (putB x n.toNat).length = n.toNat := putB_length _ _
      refine aCall.owns (put_ok l (.tok tk) false (by simp) (by omega) x n hx hx2 hw _) (fun tk2 htk2 => ?_)
      simp
      repeat (first
        | (with_reducible refine AWp.seq ?_)
        | (with_reducible refine AWp.block ?_)
        | (with_reducible refine And.intro (by first | omega | assumption | decide) ?_)
        | ((with_reducible refine AWp.region ?_); simp)
        | ((with_reducible refine AWp.ret ?_); try simp)
        | ((with_reducible refine AWp.skip ?_); try simp)
        | ((with_reducible refine AWp.exit ?_); try simp)
        | ((refine AWp.cond rfl (fun _ => ?_) (fun hcf => absurd hcf ?hcd)); (case hcd => (simp; done)))
        | ((refine AWp.cond rfl (fun hcf => absurd hcf ?hcd) (fun _ => ?_)); (case hcd => (simp; done))))
      refine aCall.gives (rwide_ok n _) ?_
      simp [hw]
      repeat (first
        | (with_reducible refine AWp.seq ?_)
        | (with_reducible refine AWp.block ?_)
        | (with_reducible refine And.intro (by first | omega | assumption | decide) ?_)
        | ((with_reducible refine AWp.region ?_); simp [hl1])
        | ((with_reducible refine AWp.ret ?_); try simp [hl1])
        | ((with_reducible refine AWp.skip ?_); try simp [hl1])
        | ((with_reducible refine AWp.exit ?_); try simp [hl1])
        | ((refine AWp.cond rfl (fun _ => ?_) (fun hcf => absurd hcf ?hcd)); (case hcd => (simp [hl1]; done)))
        | ((refine AWp.cond rfl (fun hcf => absurd hcf ?hcd) (fun _ => ?_)); (case hcd => (simp [hl1]; done))))
      intro tk3 hne3 hne3' htk3
      refine aCall.owns (rput_ok x n hx hx2 (by omega) (by omega) _) (fun tk4 htk4 => ?_)
      have ne34 : tk3 ≠ tk4 := by intro h; subst h; simp [AS.set] at htk4
      have n8 : n.toNat ≤ 8 := by omega
      simp [AS.set, ne34, hlen]
      refine ⟨by omega, ?_⟩
      simp only [← List.map_append]
      have hpl : (l ++ putB x n.toNat).length ≤ 140737488355328 := by simp; omega
      have hpi : ((l ++ putB x n.toNat).length : Int) = l.length + n := by simp [hlen]; omega
      refine aCall.gives (same_ok (l ++ putB x n.toNat) (l ++ putB x n.toNat) (.tok tk2) (.tok tk3) false false hpl _) ?_
      simp
      refine aCall.gives (same_ok l l (.tok tk) .unk false nl hl1 _) ?_
      simp
      repeat (first
        | (with_reducible refine AWp.seq ?_)
        | (with_reducible refine AWp.block ?_)
        | (with_reducible refine And.intro (by first | omega | assumption | decide) ?_)
        | ((with_reducible refine AWp.region ?_); simp)
        | ((with_reducible refine AWp.ret ?_); try simp)
        | ((with_reducible refine AWp.skip ?_); try simp)
        | ((with_reducible refine AWp.exit ?_); try simp)
        | ((refine AWp.cond rfl (fun _ => ?_) (fun hcf => absurd hcf ?hcd)); (case hcd => (simp; done)))
        | ((refine AWp.cond rfl (fun hcf => absurd hcf ?hcd) (fun _ => ?_)); (case hcd => (simp; done))))
      simp only [← List.map_append]
      refine aCall.of (new_ok (l ++ putB x n.toNat) (.tok tk2) false (by simp) hpl _) ?_ (fun _ _ h => h.elim)
      rintro r σ2 ⟨id, hid, rfl, rfl⟩
      simp
      repeat (first
        | (with_reducible refine AWp.seq ?_)
        | (with_reducible refine AWp.block ?_)
        | (with_reducible refine And.intro (by first | omega | assumption | decide) ?_)
        | ((with_reducible refine AWp.region ?_); simp)
        | ((with_reducible refine AWp.ret ?_); try simp)
        | ((with_reducible refine AWp.skip ?_); try simp)
        | ((with_reducible refine AWp.exit ?_); try simp)
        | ((refine AWp.cond rfl (fun _ => ?_) (fun hcf => absurd hcf ?hcd)); (case hcd => (simp; done)))
        | ((refine AWp.cond rfl (fun hcf => absurd hcf ?hcd) (fun _ => ?_)); (case hcd => (simp; done))))
      refine aCall.gives (skip_ok id (l ++ putB x n.toNat) 0 l.length false _ (by simp [AS.set]) (by omega) (by omega) hpl (by omega) (by omega)) ?_
      simp
      repeat (first
        | (with_reducible refine AWp.seq ?_)
        | (with_reducible refine AWp.block ?_)
        | (with_reducible refine And.intro (by first | omega | assumption | decide) ?_)
        | ((with_reducible refine AWp.region ?_); simp)
        | ((with_reducible refine AWp.ret ?_); try simp)
        | ((with_reducible refine AWp.skip ?_); try simp)
        | ((with_reducible refine AWp.exit ?_); try simp)
        | ((refine AWp.cond rfl (fun _ => ?_) (fun hcf => absurd hcf ?hcd)); (case hcd => (simp; done)))
        | ((refine AWp.cond rfl (fun hcf => absurd hcf ?hcd) (fun _ => ?_)); (case hcd => (simp; done))))
      refine aCall.gives (num_ok id (l ++ putB x n.toNat) l.length n false _ (by simp [AS.set]) (by omega) (by omega) hpl hw (by omega)) ?_
      have hseg : seg (l ++ putB x n.toNat) l.length n = putB x n.toNat := by
        have := seg_append l (putB x n.toNat)
        rw [hlen] at this
        rwa [show ((n.toNat : Nat) : Int) = n by omega] at this
      rw [hseg, numL_putB x hx]
      generalize hy : x % 256 ^ n.toNat = y
      simp
      by_cases h8 : n = 8
      · subst h8
        have hyx : y = x := by
          have e9 : (256 : Int) ^ (8 : Nat) = 18446744073709551616 := by decide
          have : x % 256 ^ (8 : Nat) = y := hy
          omega
        subst hyx
        repeat (first
          | (with_reducible refine AWp.seq ?_)
          | (with_reducible refine AWp.block ?_)
          | (with_reducible refine And.intro (by first | omega | assumption | decide) ?_)
          | ((with_reducible refine AWp.region ?_); simp)
          | ((with_reducible refine AWp.ret ?_); try simp)
          | ((with_reducible refine AWp.skip ?_); try simp)
          | ((with_reducible refine AWp.exit ?_); try simp)
          | ((refine AWp.cond rfl (fun _ => ?_) (fun hcf => absurd hcf ?hcd)); (case hcd => (simp; done)))
          | ((refine AWp.cond rfl (fun hcf => absurd hcf ?hcd) (fun _ => ?_)); (case hcd => (simp; done))))
        exact ⟨_, _, Wk.refl _, AS.le_refl _, rfl⟩
      · have hc : n = 1 ∨ n = 2 ∨ n = 4 := by simp [wide] at hw; omega
        rcases hc with rfl | rfl | rfl
        all_goals
          have q1 : x.tmod 256 = x % 256 := Int.tmod_eq_emod_of_nonneg hx
          have q2 : x.tmod 65536 = x % 65536 := Int.tmod_eq_emod_of_nonneg hx
          have q4 : x.tmod 4294967296 = x % 4294967296 := Int.tmod_eq_emod_of_nonneg hx
          simp at hy
          subst hy
          repeat (first
            | (with_reducible refine AWp.seq ?_)
            | (with_reducible refine AWp.block ?_)
            | (with_reducible refine And.intro (by first | omega | assumption | decide) ?_)
            | ((with_reducible refine AWp.region ?_); simp [w_u64, q1, q2, q4, Try.underlying3, Try.underlying45])
            | ((with_reducible refine AWp.ret ?_); try simp [w_u64, q1, q2, q4, Try.underlying3, Try.underlying45])
            | ((with_reducible refine AWp.skip ?_); try simp [w_u64, q1, q2, q4, Try.underlying3, Try.underlying45])
            | ((with_reducible refine AWp.exit ?_); try simp [w_u64, q1, q2, q4, Try.underlying3, Try.underlying45])
            | ((refine AWp.cond rfl (fun _ => ?_) (fun hcf => absurd hcf ?hcd)); (case hcd => (simp [w_u64, q1, q2, q4, Try.underlying3, Try.underlying45]; done)))
            | ((refine AWp.cond rfl (fun hcf => absurd hcf ?hcd) (fun _ => ?_)); (case hcd => (simp [w_u64, q1, q2, q4, Try.underlying3, Try.underlying45]; done))))
          exact ⟨_, _, Wk.refl _, AS.le_refl _, rfl⟩
    · refine aCall.gives (put_bad _ x n (by simpa using hw) _) ?_
      simp
      repeat (first
        | (with_reducible refine AWp.seq ?_)
        | (with_reducible refine AWp.block ?_)
        | (with_reducible refine And.intro (by first | omega | assumption | decide) ?_)
        | ((with_reducible refine AWp.region ?_); simp)
        | ((with_reducible refine AWp.ret ?_); try simp)
        | ((with_reducible refine AWp.skip ?_); try simp)
        | ((with_reducible refine AWp.exit ?_); try simp)
        | ((refine AWp.cond rfl (fun _ => ?_) (fun hcf => absurd hcf ?hcd)); (case hcd => (simp; done)))
        | ((refine AWp.cond rfl (fun hcf => absurd hcf ?hcd) (fun _ => ?_)); (case hcd => (simp; done))))
      refine aCall.gives (rwide_ok n _) ?_
      simp [hw]
      repeat (first
        | (with_reducible refine AWp.seq ?_)
        | (with_reducible refine AWp.block ?_)
        | (with_reducible refine And.intro (by first | omega | assumption | decide) ?_)
        | ((with_reducible refine AWp.region ?_); simp [hw])
        | ((with_reducible refine AWp.ret ?_); try simp [hw])
        | ((with_reducible refine AWp.skip ?_); try simp [hw])
        | ((with_reducible refine AWp.exit ?_); try simp [hw])
        | ((refine AWp.cond rfl (fun _ => ?_) (fun hcf => absurd hcf ?hcd)); (case hcd => (simp [hw]; done)))
        | ((refine AWp.cond rfl (fun hcf => absurd hcf ?hcd) (fun _ => ?_)); (case hcd => (simp [hw]; done))))
      exact ⟨_, _, Wk.refl _, AS.le_refl _, rfl⟩

theorem octetPuts_reads (os : Os) {H : Type} (enc : TypeId × Value → H) : ∃ places, DataW.whole enc Try.prog ((World.holding Try.prog os ⟨#[], #[Value.slice none 0 0, Value.int .u64 0, Value.int .i64 0], []⟩).forCall (fun _ _ => 0) ⟨#[], #[Value.slice none 0 0, Value.int .u64 0, Value.int .i64 0], []⟩).memory Try.f5.params.toList Rows.octetPutsSpec.vars false #[Value.slice none 0 0, Value.int .u64 0, Value.int .i64 0].toList 8 = some ([.nil, .lit (.int .u64 0), .lit (.int .i64 0)], [], places) :=
  ⟨[], by kernel_rfl⟩

theorem octetPuts_contract (H : Type) (enc : TypeId × Value → H) (W : World) (base : Nat) (args : Array Value) (ds gs : List (DataW H)) (before : List MemPlace)
    (hval : ∀ (j : Nat) t v, Try.f5.params[j]? = some t → args[j]? = some v → Value.okWide Try.prog W .any base t v)
    (hW : DataW.Whole enc Try.prog Try.f5.params.toList Rows.octetPutsSpec.vars false W args.toList ds gs before)
    (hwt : (DataW.weightsEach Try.prog (Try.f5.params.toList ++ Rows.octetPutsSpec.plain.varTypes Try.prog) (ds ++ gs)).all (· ≤ reachBytes) = true) :
    Calls Try.prog 5 args W fun e W' => ∃ v, e = .returned v ∧ Rows.octetPutsSpec.post enc Try.prog Try.f5 false true false false W args v W' := by
  refine law_contract (P := Try.prog) (fn := Try.f5) (k := 4) (ts := [22, 39, 3]) (tb := 4) (s := Rows.octetPutsSpec) laidOut (by kernel_rfl) (by kernel_rfl) (by kernel_rfl) rfl Try.underlying4 rfl (fun ds h => ?_) (fun vs h => ?_) hval hW hwt
  · match ds, h with
    | [d1, d2, d3], _ => rfl
  · obtain ⟨c1, r, rfl, h1, h⟩ := h.inv
    obtain ⟨c2, r, rfl, h2, h⟩ := h.inv
    obtain ⟨c3, r, rfl, h3, h⟩ := h.inv
    obtain rfl := h.inv0
    obtain ⟨l, nl, e1, hn, _⟩ := arg_bytes Try.underlying22 Try.underlying5 h1
    obtain ⟨x, e2, hx⟩ := arg_int Try.underlying39 h2
    obtain ⟨n, e3, _⟩ := arg_int Try.underlying3 h3
    rw [e1, e2, e3]
    simp [Lit.wf, IntKind.min, IntKind.max, IntKind.signed, IntKind.bits] at hx
    exact puts_ok l nl hn x n (by omega) (by omega)

theorem octetPuts_lifted (os : Os) (started : os.Started) (H : Type) (enc : TypeId × Value → H) (F : Stop.Interp) :
    ReturnsInHanded {} Try.checked os 5 .any ((OpenSpec.ofChange Rows.octetPutsSpec).preRow enc Try.prog Try.f5 Rows.octetPutsRow.domain false Rows.octetPutsRow.laid)
      (((OpenSpec.ofChange Rows.octetPutsSpec).at F).post enc Try.prog Try.f5 false true false false) := by
  obtain ⟨places, hx⟩ := octetPuts_reads os enc
  refine returnsInHanded_of_row (C := Try.checked) (s := OpenSpec.ofChange Rows.octetPutsSpec) own started (by kernel_rfl) Try.func5
    (witness_row_at (enc := enc) (C := Try.checked) false (World.holding Try.prog os ⟨#[], #[Value.slice none 0 0, Value.int .u64 0, Value.int .i64 0], []⟩) #[Value.slice none 0 0, Value.int .u64 0, Value.int .i64 0] rfl (by kernel_rfl) (by kernel_rfl) (by kernel_rfl)
      (OpenSpec.preRow_of_cond 8 hx (by kernel_rfl) (fun k hk => by cases hk) (by kernel_rfl) (show laidMetH Try.prog [] _ from ⟨[], rfl, List.nodup_nil, fun _ _ h => by cases h⟩))) ?_
  intro W base args ds gs before hval hW _ _ hwt _ _ _
  exact octetPuts_contract H enc W base args ds gs before hval hW hwt

theorem octetPuts_holds : Rows.OctetPutsSaid :=
  OpenClaim.holds_of_cond 5 Try.f5 rfl rfl rfl rfl rfl rfl rfl ⟨rfl, rfl, rfl, rfl, rfl⟩ rfl rfl rfl rfl rfl (by kernel_rfl) Try.func5 (by kernel_rfl)
    (of_decide_eq_true (by kernel_rfl)) (by unfold Func.isWrapper; first | (rw [if_pos (by decide +kernel)]; kernel_rfl) | (rw [if_neg (by decide +kernel)]; exact ⟨rfl, rfl⟩))
    (fun os started H enc _ F => by rw [OpenClaim.pre_eq_preRow]; exact octetPuts_lifted os started H enc F)


end Go.Proofs.Ytiojkpebjdifoaa
