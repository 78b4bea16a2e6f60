/- Package code: the writer; Encode. -/
import Derived.Test.YtnkjbgcbchbonaaCode2
import Derived.Test.YtnkjbgcbchbonaaRef1
set_option linter.unusedSimpArgs false
set_option linter.unusedVariables false
set_option maxRecDepth 100000
set_option maxHeartbeats 3200000
namespace Go.Proofs.Ytnkjbgcbchbonaa
open Go Go.AW
abbrev sc_34_0_XCode4 : Sch := (Sch.step 0 (Sch.step 1 (Sch.step 2 (Sch.step 3 (Sch.step 5 (Sch.step 6 (Sch.step 7 (Sch.step 9 (Sch.step 15 (Sch.step 16 (Sch.step 17 (Sch.step 19 (Sch.step 20 (Sch.step 24 (Sch.read 4 (Sch.read 8 (Sch.step 10 (Sch.step 11 (Sch.read 12 (Sch.step 13 (Sch.read 14 (Sch.read 18 (Sch.step 21 (Sch.read 22 (Sch.step 23 (Sch.alt 25 Sch.done Sch.none))))))))))))))))))))))))))

/-- A writer's cells. -/
def wrC (l : List Ins) (o : Own) (nl : Bool) (P : List Int) (np : Bool) (bs : List UInt8) (tk : Nat) (nb : Bool) : ABlk :=
  .cells 67 [.lst 42 (l.map insV) o nl, .lst 3 (P.map i64v) .unk np, .lst 5 (bs.map u8) (.tok tk) nb]
theorem wrC_def (l : List Ins) (o : Own) (nl : Bool) (P : List Int) (np : Bool) (bs : List UInt8) (tk : Nat) (nb : Bool) :
  wrC l o nl P np bs tk nb = .cells 67 [.lst 42 (l.map insV) o nl, .lst 3 (P.map i64v) .unk np, .lst 5 (bs.map u8) (.tok tk) nb] := rfl
/-- What a writing comes to. -/
def WrQ (id : Nat) (l : List Ins) (o : Own) (nl : Bool) (P : List Int) (np : Bool) (bs add : List UInt8) (σ : AS) (r : AV) (σ' : AS) : Prop :=
  ∃ tk, σ tk = none ∧ r = .tup [] ∧ σ' = (σ.set tk (.tok (bs.length + add.length))).set id (wrC l o nl P np (bs ++ add) tk false)
theorem aCall.fnOf {f : FuncId} {first cap args : List AV} {σ : AS} {R Rp K Kp : AV → AS → Prop} (h : ACalls Try.prog f (first ++ args ++ cap) σ R Rp) (hk : ∀ r σ', R r σ' → K r σ') (hp : ∀ r σ', Rp r σ' → Kp r σ') : aCall Try.prog (.fn (.func f) first cap) args σ K Kp := ⟨R, Rp, h, hk, hp⟩

section
variable (id : Nat) (l : List Ins) (o : Own) (nl : Bool) (P : List Int) (np : Bool) (bs : List UInt8) (tk : Nat) (nb : Bool) (hn : nb = true → bs = []) (hb : bs.length ≤ 1000000) (σ : AS) (h : σ id = some (wrC l o nl P np bs tk nb))
include hn hb h

theorem wnum_ok (x n : Int) (hw : wide n = true) :
    ACalls Try.prog 58 [.ptr id 0, .sc (.int .i64 x), .sc (.int .i64 n)] σ (WrQ id l o nl P np bs (putB (m64 x) n.toNat) σ) No := by
  have hp := fun σ => put_ok bs (.tok tk) nb hn hb (m64 x) n (m64_nonneg x) (by unfold m64; omega) hw σ
  have hc : IntKind.u64.wrap x = m64 x := by rw [w_u64]; rfl
  rw [wrC_def] at h
  refine ACalls.of_body Try.func58 rfl rfl (by simp [Try.ntmps58]) ?_
  repeat (first
    | (with_reducible first | apply AWp.seq | apply AWp.block | refine And.intro (by first | omega | assumption | decide) ?_)
    | ((first | (with_reducible first | apply AWp.fork | apply AWp.region | show condK _ _ _ | show guardK _ _ _ _ _ _ _ _ _) | ((with_reducible apply aCall.id); first | apply aCall.owns (hp _))); simp -implicitDefEqProofs [h, hc, Try.underlying2, Try.underlying89])
    | ((with_reducible first | apply AWp.ret | apply AWp.skip | apply AWp.exit); try simp -implicitDefEqProofs [h, hc, Try.underlying2, Try.underlying89]))
  intro tk2 htk2
  have n1 : ¬ id = tk2 := by rintro rfl; rw [h] at htk2; cases htk2
  have n2 : ¬ tk2 = id := fun e => n1 e.symm
  simp -implicitDefEqProofs [h, n1, n2]
  exact ⟨_, _, Wk.refl _, AS.le_refl _, tk2, htk2, rfl, by rw [wrC_def]; simp [putB_length]⟩

variable (i : Nat) (x : Ins) (hlt : i < l.length) (hx : l[i] = x)
include hlt hx

theorem wplain_ok (n : Int) (hw : wide n = true) :
    ACalls Try.prog 33 [.ptr id 0, .sc (.int .i64 i), .sc (.int .i64 n)] σ (WrQ id l o nl P np bs (putB (m64 x.arg) n.toNat) σ) No := by
  have hp := wnum_ok id l o nl P np bs tk nb hn hb σ h x.arg n hw
  rw [wrC_def] at h
  obtain ⟨op, arg, k, ix, d, r⟩ := x
  refine ACalls.of_body Try.func33 rfl rfl (by simp [Try.ntmps33]) ?_
  repeat (first
    | (with_reducible first | apply AWp.seq | apply AWp.block | refine And.intro (by first | omega | assumption | decide) ?_)
    | ((first | (with_reducible first | apply AWp.fork | apply AWp.region | show condK _ _ _ | show guardK _ _ _ _ _ _ _ _ _)); simp -implicitDefEqProofs [h, hlt, hx, insV])
    | ((with_reducible first | apply AWp.ret | apply AWp.skip | apply AWp.exit); try simp -implicitDefEqProofs [h, hlt, hx, insV]))
  refine aCall.of hp ?_ (fun _ _ h => h.elim)
  rintro r2 σ2 hq
  have hq2 := hq
  obtain ⟨tk2, q1, rfl, rfl⟩ := hq2
  repeat (first
    | (with_reducible first | apply AWp.seq | apply AWp.block | refine And.intro (by first | omega | assumption | decide) ?_)
    | ((first | (with_reducible first | apply AWp.fork | apply AWp.region)); simp -implicitDefEqProofs)
    | ((with_reducible first | apply AWp.ret | apply AWp.skip | apply AWp.exit); try simp -implicitDefEqProofs))
  exact ⟨_, _, Wk.refl _, AS.le_refl _, hq⟩

theorem wrow_ok (hx2 : -9223372036854775808 ≤ x.arg ∧ x.arg < 9223372036854775807) (n : Int) (hw : wide n = true) :
    ACalls Try.prog 35 [.ptr id 0, .sc (.int .i64 i), .sc (.int .i64 n)] σ (WrQ id l o nl P np bs (putB (m64 (x.arg + 1)) n.toNat) σ) No := by
  have hp := wnum_ok id l o nl P np bs tk nb hn hb σ h (x.arg + 1) n hw
  have hw1 : IntKind.i64.wrap (x.arg + 1) = x.arg + 1 := in_i64 (by omega) (by omega)
  rw [wrC_def] at h
  obtain ⟨op, arg, k, ix, d, r⟩ := x
  refine ACalls.of_body Try.func35 rfl rfl (by simp [Try.ntmps35]) ?_
  repeat (first
    | (with_reducible first | apply AWp.seq | apply AWp.block | refine And.intro (by first | omega | assumption | decide) ?_)
    | ((first | (with_reducible first | apply AWp.fork | apply AWp.region | show condK _ _ _ | show guardK _ _ _ _ _ _ _ _ _)); simp -implicitDefEqProofs [h, hlt, hx, insV, hw1])
    | ((with_reducible first | apply AWp.ret | apply AWp.skip | apply AWp.exit); try simp -implicitDefEqProofs [h, hlt, hx, insV, hw1]))
  refine aCall.of hp ?_ (fun _ _ h => h.elim)
  rintro r2 σ2 hq
  have hq2 := hq
  obtain ⟨tk2, q1, rfl, rfl⟩ := hq2
  repeat (first
    | (with_reducible first | apply AWp.seq | apply AWp.block | refine And.intro (by first | omega | assumption | decide) ?_)
    | ((first | (with_reducible first | apply AWp.fork | apply AWp.region)); simp -implicitDefEqProofs)
    | ((with_reducible first | apply AWp.ret | apply AWp.skip | apply AWp.exit); try simp -implicitDefEqProofs))
  exact ⟨_, _, Wk.refl _, AS.le_refl _, hq⟩

theorem wplace_ok (hP : ∀ y ∈ P, 0 ≤ y ∧ y ≤ 10000) (ha : 0 ≤ x.arg) (ha2 : x.arg < P.length) (hi : i + 1 < P.length) (hP2 : P.length ≤ 1000) (n : Int) (hw : wide n = true) :
    ACalls Try.prog 34 [.ptr id 0, .sc (.int .i64 i), .sc (.int .i64 n)] σ (WrQ id l o nl P np bs (putB (m64 (P.getD x.arg.toNat 0 - P.getD (i + 1) 0)) n.toNat) σ) No := by
  have hp := wnum_ok id l o nl P np bs tk nb hn hb σ h (P.getD x.arg.toNat 0 - P.getD (i + 1) 0) n hw
  rw [wrC_def] at h
  obtain ⟨op, arg, k, ix, d, r⟩ := x
  simp only at ha ha2 hp ⊢
  obtain ⟨a, rfl⟩ : ∃ a : Nat, arg = a := ⟨arg.toNat, by omega⟩
  have ha3 : a < P.length := by omega
  have e1 : P.getD (a : Int).toNat 0 = P[a] := by simp [List.getD_eq_getElem?_getD, ha3]
  have e2 : P.getD (i + 1) 0 = P[i + 1] := by simp [List.getD_eq_getElem?_getD, hi]
  have b1 := hP _ (List.getElem_mem ha3)
  have b2 := hP _ (List.getElem_mem hi)
  rw [e1, e2] at hp ⊢
  generalize hq1 : P[a] = p1 at *
  generalize hq2 : P[i + 1] = p2 at *
  have hw1 : IntKind.i64.wrap (p1 - p2) = p1 - p2 := in_i64 (by omega) (by omega)
  refine ACalls.of_body Try.func34 rfl rfl (by simp [Try.ntmps34]) ?_
  have wi_i : IntKind.i64.wrap ((i : Int) + 1) = ((i + 1 : Nat) : Int) := ci_wi (by omega)
  repeat (first
    | (with_reducible first | apply AWp.seq | apply AWp.block | refine And.intro (by first | omega | assumption | decide) ?_)
    | ((first | (with_reducible first | apply AWp.fork | apply AWp.region | show condK _ _ _ | show guardK _ _ _ _ _ _ _ _ _) | ((with_reducible apply AWp.drawS (id := 0) (t := sc_34_0_XCode4)); (exact mixed); kernel_rfl; kernel_rfl; (repeat (with_reducible first | apply PanQ.then | apply PanQ.block | apply PanQ.body | apply PanQ.no)))); simp -implicitDefEqProofs [h, hlt, hx, insV, hw1, ha3, hi, hq1, hq2, i64v_def, wi_i])
    | ((with_reducible first | apply AWp.ret | apply AWp.skip | apply AWp.exit); try simp -implicitDefEqProofs [h, hlt, hx, insV, hw1, ha3, hi, hq1, hq2, i64v_def, wi_i]))
  refine aCall.of hp ?_ (fun _ _ h => h.elim)
  rintro r2 σ2 hq
  have hq2 := hq
  obtain ⟨tk2, q1, rfl, rfl⟩ := hq2
  repeat (first
    | (with_reducible first | apply AWp.seq | apply AWp.block | refine And.intro (by first | omega | assumption | decide) ?_)
    | ((first | (with_reducible first | apply AWp.fork | apply AWp.region | show condK _ _ _ | show guardK _ _ _ _ _ _ _ _ _) | ((with_reducible apply AWp.drawS (id := 0) (t := sc_34_0_XCode4)); (exact mixed); kernel_rfl; kernel_rfl; (repeat (with_reducible first | apply PanQ.then | apply PanQ.block | apply PanQ.body | apply PanQ.no)))); simp -implicitDefEqProofs [wi_i])
    | ((with_reducible first | apply AWp.ret | apply AWp.skip | apply AWp.exit); try simp -implicitDefEqProofs [wi_i]))
  exact ⟨_, _, Wk.refl _, AS.le_refl _, hq⟩
end

end Go.Proofs.Ytnkjbgcbchbonaa
