/- Package body: Write. -/
import Derived.Test.YtnkjbgcbchbonaaBody1
set_option linter.unusedSimpArgs false
set_option linter.unusedVariables false
set_option maxRecDepth 100000
set_option maxHeartbeats 3200000
namespace Go.Proofs.Ytnkjbgcbchbonaa
open Go Go.AW

def encR (r : R6) : List UInt8 := (nums r).flatMap fun n => putB n 2
def padL (l : List UInt8) : List UInt8 := l ++ List.replicate ((4 - l.length % 4) % 4) 0
def headB (c : Nat) (code : List UInt8) : List UInt8 := [UInt8.ofNat c, 0, 0, 0] ++ putB code.length 4 ++ code
def writeB (code : List UInt8) (cls : List R6) : List UInt8 :=
  if cls = [] then (if code.length < 64 then UInt8.ofNat (4 * code.length + 2) :: code else headB 3 code)
  else padL (headB 11 code) ++ [1, UInt8.ofNat cls.length, 0, 0] ++ cls.flatMap encR

theorem write_bad (code : List UInt8) (cls : List R6) (o1 o2 : Own) (n1 n2 : Bool) (hc : code.length ≤ 140737488355328) (hk : cls.length ≤ 140737488355328) (hr : rightB code cls = false) (σ : AS) :
    ACalls Try.prog 24 [.agg [.lst 5 (code.map u8) o1 n1, .lst 91 (cls.map rawV) o2 n2]] σ (Gives (.tup [.nilS, .sc (.int .i64 17)]) σ) No := by
  have h1 := fun σ => right_ok code cls o1 o2 n1 n2 hc hk σ
  rw [hr] at h1
  refine ACalls.of_body Try.func24 rfl rfl (by simp [Try.ntmps24]) ?_
  repeat (first
    | (with_reducible apply AWp.seq)
    | (with_reducible apply AWp.block)
    | ((with_reducible apply AWp.fork); simp -implicitDefEqProofs)
    | ((with_reducible apply AWp.region); simp -implicitDefEqProofs)
    | (with_reducible refine And.intro (by first | omega | assumption | decide) ?_)
    | ((with_reducible apply AWp.ret); try simp -implicitDefEqProofs)
    | ((with_reducible apply AWp.skip); try simp -implicitDefEqProofs)
    | ((with_reducible apply AWp.exit); try simp -implicitDefEqProofs))
  intro id h_id
  repeat (first
    | (with_reducible apply AWp.seq)
    | (with_reducible apply AWp.block)
    | ((with_reducible apply AWp.fork); simp -implicitDefEqProofs)
    | ((with_reducible apply AWp.region); simp -implicitDefEqProofs)
    | (with_reducible refine And.intro (by first | omega | assumption | decide) ?_)
    | ((with_reducible apply aCall.id); first
        | ((apply aCall.gives (h1 _)); simp -implicitDefEqProofs))
    | ((with_reducible apply AWp.ret); try simp -implicitDefEqProofs)
    | ((with_reducible apply AWp.skip); try simp -implicitDefEqProofs)
    | ((with_reducible apply AWp.exit); try simp -implicitDefEqProofs))
  all_goals (repeat (first | exact AS.le_refl _ | refine le_new (by simp [*]) ?_))

theorem write_small (code : List UInt8) (o1 o2 : Own) (n1 n2 : Bool) (hr : rightB code [] = true) (hs : code.length < 64) (σ : AS) :
    ACalls Try.prog 24 [.agg [.lst 5 (code.map u8) o1 n1, .lst 91 [] o2 n2]] σ
      (Owns (fun tk => .tup [.lst 5 ((writeB code []).map u8) (.tok tk) false, .sc (.int .i64 0)]) (writeB code []).length σ) No := by
  have h1 := fun σ => right_ok code [] o1 o2 n1 n2 (by omega) (by simp) σ
  simp only [List.map_nil] at h1
  rw [hr] at h1
  have hS : ((code.length : Int) < 64) = True := by simp; omega
  have w1 : IntKind.i64.wrap ((code.length : Int) * 4) = code.length * 4 := in_i64 (by omega) (by omega)
  have w2 : bOr 64 ((code.length : Int) * 4) 2 = code.length * 4 + 2 := or_add 2 (by omega) (by omega) (c := code.length) (by omega) (by omega) (by omega)
  have w3 : IntKind.i64.wrap ((code.length : Int) * 4 + 2) = code.length * 4 + 2 := in_i64 (by omega) (by omega)
  have w4 : IntKind.u8.wrap ((code.length : Int) * 4 + 2) = ((UInt8.ofNat (4 * code.length + 2)).toNat : Int) := by rw [w_u8]; simp; omega
  refine ACalls.of_body Try.func24 rfl rfl (by simp [Try.ntmps24]) ?_
  repeat (first
    | (with_reducible apply AWp.seq)
    | (with_reducible apply AWp.block)
    | ((with_reducible apply AWp.fork); simp -implicitDefEqProofs)
    | ((with_reducible apply AWp.region); simp -implicitDefEqProofs)
    | (with_reducible refine And.intro (by first | omega | assumption | decide) ?_)
    | ((with_reducible apply AWp.ret); try simp -implicitDefEqProofs)
    | ((with_reducible apply AWp.skip); try simp -implicitDefEqProofs)
    | ((with_reducible apply AWp.exit); try simp -implicitDefEqProofs))
  intro id h_id
  repeat (first
    | (with_reducible apply AWp.seq)
    | (with_reducible apply AWp.block)
    | ((with_reducible apply AWp.fork); simp -implicitDefEqProofs [hS, w1, w2, w3, w4, Try.underlying3, Try.underlying5])
    | ((with_reducible apply AWp.region); simp -implicitDefEqProofs [hS, w1, w2, w3, w4, Try.underlying3, Try.underlying5])
    | (with_reducible refine And.intro (by first | omega | assumption | decide) ?_)
    | ((with_reducible show condK _ _ _); simp -implicitDefEqProofs [hS, w1, w2, w3, w4, Try.underlying3, Try.underlying5])
    | ((with_reducible show guardK _ _ _ _ _ _ _ _ _); simp -implicitDefEqProofs [hS, w1, w2, w3, w4, Try.underlying3, Try.underlying5])
    | ((with_reducible apply aCall.id); first
        | ((apply aCall.gives (h1 _)); simp -implicitDefEqProofs [hS, w1, w2, w3, w4, Try.underlying3, Try.underlying5])
        | ((apply aCall.gives (small_ok _ _ _)); simp -implicitDefEqProofs [hS, w1, w2, w3, w4, Try.underlying3, Try.underlying5]))
    | ((with_reducible apply AWp.ret); try simp -implicitDefEqProofs [hS, w1, w2, w3, w4, Try.underlying3, Try.underlying5])
    | ((with_reducible apply AWp.skip); try simp -implicitDefEqProofs [hS, w1, w2, w3, w4, Try.underlying3, Try.underlying5])
    | ((with_reducible apply AWp.exit); try simp -implicitDefEqProofs [hS, w1, w2, w3, w4, Try.underlying3, Try.underlying5]))
  intro tk n_tk_id h_tk
  have n_id_tk : ¬ id = tk := fun e => n_tk_id e.symm
  repeat (first
    | (with_reducible apply AWp.seq)
    | (with_reducible apply AWp.block)
    | ((with_reducible apply AWp.fork); simp -implicitDefEqProofs [n_tk_id, n_id_tk])
    | ((with_reducible apply AWp.region); simp -implicitDefEqProofs [n_tk_id, n_id_tk])
    | (with_reducible refine And.intro (by first | omega | assumption | decide) ?_)
    | ((with_reducible show condK _ _ _); simp -implicitDefEqProofs [n_tk_id, n_id_tk])
    | ((with_reducible show guardK _ _ _ _ _ _ _ _ _); simp -implicitDefEqProofs [n_tk_id, n_id_tk])
    | ((with_reducible apply AWp.ret); try simp -implicitDefEqProofs [n_tk_id, n_id_tk])
    | ((with_reducible apply AWp.skip); try simp -implicitDefEqProofs [n_tk_id, n_id_tk])
    | ((with_reducible apply AWp.exit); try simp -implicitDefEqProofs [n_tk_id, n_id_tk]))
  refine owns_end tk h_tk (wk_eq (by simp [writeB, hs])) ?_
  simp [writeB, hs]
  exact le_tok (le_new h_id (AS.le_refl _)) (by omega)

theorem write_big (code : List UInt8) (o1 o2 : Own) (n1 n2 : Bool) (hr : rightB code [] = true) (hs : ¬ code.length < 64) (hc : code.length ≤ 65535) (σ : AS) :
    ACalls Try.prog 24 [.agg [.lst 5 (code.map u8) o1 n1, .lst 91 [] o2 n2]] σ
      (Owns (fun tk => .tup [.lst 5 ((writeB code []).map u8) (.tok tk) false, .sc (.int .i64 0)]) (writeB code []).length σ) No := by
  have h1 := fun σ => right_ok code [] o1 o2 n1 n2 (by omega) (by simp) σ
  simp only [List.map_nil] at h1
  rw [hr] at h1
  have hS : ((code.length : Int) < 64) = False := by simp; omega
  have w1 : IntKind.u64.wrap (code.length : Int) = code.length := in_u64 (by omega) (by omega)
  have hp := fun σ => put_ok [3, 0, 0, 0] .full false (by simp) (by simp) code.length 4 (by omega) (by omega) (by decide) σ
  simp only [List.map_cons, List.map_nil, u8_app] at hp
  have hb := putB_length code.length 4
  have hW : writeB code [] = [3, 0, 0, 0] ++ putB code.length 4 ++ code := by simp [writeB, hs, headB]
  rw [hW]
  refine ACalls.of_body Try.func24 rfl rfl (by simp [Try.ntmps24]) ?_
  repeat (first
    | (with_reducible apply AWp.seq)
    | (with_reducible apply AWp.block)
    | ((with_reducible apply AWp.fork); simp -implicitDefEqProofs)
    | ((with_reducible apply AWp.region); simp -implicitDefEqProofs)
    | (with_reducible refine And.intro (by first | omega | assumption | decide) ?_)
    | ((with_reducible apply AWp.ret); try simp -implicitDefEqProofs)
    | ((with_reducible apply AWp.skip); try simp -implicitDefEqProofs)
    | ((with_reducible apply AWp.exit); try simp -implicitDefEqProofs))
  intro id h_id
  repeat (first
    | (with_reducible apply AWp.seq)
    | (with_reducible apply AWp.block)
    | ((with_reducible apply AWp.fork); simp -implicitDefEqProofs [hS, w1, Try.underlying3, Try.underlying89])
    | ((with_reducible apply AWp.region); simp -implicitDefEqProofs [hS, w1, Try.underlying3, Try.underlying89])
    | (with_reducible refine And.intro (by first | omega | assumption | decide) ?_)
    | ((with_reducible show condK _ _ _); simp -implicitDefEqProofs [hS, w1, Try.underlying3, Try.underlying89])
    | ((with_reducible show guardK _ _ _ _ _ _ _ _ _); simp -implicitDefEqProofs [hS, w1, Try.underlying3, Try.underlying89])
    | ((with_reducible apply aCall.id); first
        | ((apply aCall.gives (h1 _)); simp -implicitDefEqProofs [hS, w1, Try.underlying3, Try.underlying89])
        | ((apply aCall.gives (small_ok _ _ _)); simp -implicitDefEqProofs [hS, w1, Try.underlying3, Try.underlying89])
        | ((apply aCall.owns (hp _)); simp -implicitDefEqProofs [hS, w1, Try.underlying3, Try.underlying89]))
    | ((with_reducible apply AWp.ret); try simp -implicitDefEqProofs [hS, w1, Try.underlying3, Try.underlying89])
    | ((with_reducible apply AWp.skip); try simp -implicitDefEqProofs [hS, w1, Try.underlying3, Try.underlying89])
    | ((with_reducible apply AWp.exit); try simp -implicitDefEqProofs [hS, w1, Try.underlying3, Try.underlying89]))
  intro tk n_tk_id h_tk
  have n_id_tk : ¬ id = tk := fun e => n_tk_id e.symm
  generalize putB code.length 4 = pb at hb ⊢
  repeat (first
    | (with_reducible apply AWp.seq)
    | (with_reducible apply AWp.block)
    | ((with_reducible apply AWp.fork); simp -implicitDefEqProofs [n_tk_id, n_id_tk])
    | ((with_reducible apply AWp.region); simp -implicitDefEqProofs [n_tk_id, n_id_tk])
    | (with_reducible refine And.intro (by first | omega | assumption | decide) ?_)
    | ((with_reducible show condK _ _ _); simp -implicitDefEqProofs [n_tk_id, n_id_tk])
    | ((with_reducible show guardK _ _ _ _ _ _ _ _ _); simp -implicitDefEqProofs [n_tk_id, n_id_tk])
    | ((with_reducible apply AWp.ret); try simp -implicitDefEqProofs [n_tk_id, n_id_tk])
    | ((with_reducible apply AWp.skip); try simp -implicitDefEqProofs [n_tk_id, n_id_tk])
    | ((with_reducible apply AWp.exit); try simp -implicitDefEqProofs [n_tk_id, n_id_tk]))
  refine owns_end tk h_tk (wk_eq (by simp)) ?_
  simp [hb]
  exact le_tok (le_new h_id (AS.le_refl _)) (by omega)

theorem padL_step (l : List UInt8) (h : ¬ l.length % 4 = 0) : padL (l ++ [0]) = padL l := by
  unfold padL
  have e : (4 - l.length % 4) % 4 = (4 - (l ++ [(0 : UInt8)]).length % 4) % 4 + 1 := by simp; omega
  rw [e, List.replicate_succ, List.append_assoc]
  rfl
theorem padL_done (l : List UInt8) (h : l.length % 4 = 0) : padL l = l := by
  unfold padL; simp [h]
theorem padL_len (l : List UInt8) : (padL l).length = (l.length + 3) / 4 * 4 := by
  unfold padL; simp; omega
theorem encR_len (r : R6) : (encR r).length = 12 := by simp [encR, nums, putB_length]
theorem encs_len (l : List R6) : (l.flatMap encR).length = 12 * l.length := by
  induction l with
  | nil => rfl
  | cons r t ih => simp [encR_len, ih]; omega
theorem okR_nums {r : R6} (h : okR r = true) : ∀ x ∈ nums r, 0 ≤ x ∧ x ≤ 65535 := by
  intro x hx
  have := List.all_eq_true.1 h x hx
  simpa [okN] using this

def wrP (cls : List R6) (o : Own) (nl : Bool) (id : Nat) (L : List UInt8) (B : AS) (m : Nat) (fr : Fr) (σ' : AS) : Prop :=
  ∃ (l : List UInt8) (tk : Nat), padL l = L ∧ m = (4 - l.length % 4) % 4 ∧ l.length ≤ L.length ∧ B tk = none ∧ σ' = B.set tk (.tok l.length) ∧
    fr = mkF [(1, .ptr id 0), (4, .lst 5 (l.map u8) (.tok tk) false)]
def wrO (cls : List R6) (o : Own) (nl : Bool) (L : List UInt8) (B : AS) (m : Nat) (fr : Fr) (σ' : AS) : Prop :=
  ∃ (i : Nat) (tk : Nat), m = cls.length - i ∧ i ≤ cls.length ∧ B tk = none ∧ σ' = B.set tk (.tok (L ++ (cls.take i).flatMap encR).length) ∧
    fr = mkF [(4, .lst 5 ((L ++ (cls.take i).flatMap encR).map u8) (.tok tk) false), (69, .lst 91 (cls.map rawV) o nl), (70, .sc (.int .i64 cls.length)), (71, .sc (.int .i64 i))]
def wrI (cls : List R6) (o : Own) (nl : Bool) (L : List UInt8) (B : AS) (i : Nat) (l : List Int) (m : Nat) (fr : Fr) (σ' : AS) : Prop :=
  ∃ (k : Nat) (tk : Nat), m = 6 - k ∧ k ≤ 6 ∧ B tk = none ∧ σ' = B.set tk (.tok (L ++ (l.take k).flatMap (putB · 2)).length) ∧
    fr = mkF [(4, .lst 5 ((L ++ (l.take k).flatMap (putB · 2)).map u8) (.tok tk) false), (69, .lst 91 (cls.map rawV) o nl), (70, .sc (.int .i64 cls.length)), (71, .sc (.int .i64 i)),
      (76, .agg (l.map i64v)), (77, .sc (.int .i64 k))]

theorem write_cls (code : List UInt8) (cls : List R6) (o1 o2 : Own) (n1 n2 : Bool) (hr : rightB code cls = true) (hne : cls ≠ []) (σ : AS) :
    ACalls Try.prog 24 [.agg [.lst 5 (code.map u8) o1 n1, .lst 91 (cls.map rawV) o2 n2]] σ
      (Owns (fun tk => .tup [.lst 5 ((writeB code cls).map u8) (.tok tk) false, .sc (.int .i64 0)]) (writeB code cls).length σ) No := by
  obtain ⟨g1, g2, g3, g4⟩ : 1 ≤ code.length ∧ code.length ≤ 65535 ∧ cls.length ≤ 6 ∧ ∀ r ∈ cls, okR r = true := by simpa [rightB] using hr
  have h1 := fun σ => right_ok code cls o1 o2 n1 n2 (by omega) (by omega) σ
  rw [hr] at h1
  have hS : ((cls.length : Int) = 0) = False := by simp [hne]
  have hS' : (cls = []) = False := by simp [hne]
  have hS2 : (0 < (cls.length : Int)) = True := by
    have := List.length_pos_iff.2 hne
    simp; omega
  have hS3 : (0 < cls.length) = True := by
    have := List.length_pos_iff.2 hne
    simp; omega
  have w1 : IntKind.u64.wrap (code.length : Int) = code.length := in_u64 (by omega) (by omega)
  have hp := fun σ => put_ok [11, 0, 0, 0] .full false (by simp) (by simp) code.length 4 (by omega) (by omega) (by decide) σ
  simp only [List.map_cons, List.map_nil, u8_app] at hp
  have hb := putB_length code.length 4
  have hW : writeB code cls = padL ([11, 0, 0, 0] ++ putB code.length 4 ++ code) ++ [1, UInt8.ofNat cls.length, 0, 0] ++ cls.flatMap encR := by simp [writeB, hne, headB]
  rw [hW]
  generalize hL0' : padL ([11, 0, 0, 0] ++ putB code.length 4 ++ code) = L
  refine ACalls.of_body Try.func24 rfl rfl (by simp [Try.ntmps24]) ?_
  repeat (first
    | (with_reducible apply AWp.seq)
    | (with_reducible apply AWp.block)
    | ((with_reducible apply AWp.fork); simp -implicitDefEqProofs)
    | ((with_reducible apply AWp.region); simp -implicitDefEqProofs)
    | (with_reducible refine And.intro (by first | omega | assumption | decide) ?_)
    | ((with_reducible apply AWp.ret); try simp -implicitDefEqProofs)
    | ((with_reducible apply AWp.skip); try simp -implicitDefEqProofs)
    | ((with_reducible apply AWp.exit); try simp -implicitDefEqProofs))
  intro id h_id
  repeat (first
    | (with_reducible apply AWp.seq)
    | (with_reducible apply AWp.block)
    | ((with_reducible apply AWp.fork); simp -implicitDefEqProofs [hS, hS', hS2, hS3, w1, Try.underlying3, Try.underlying89])
    | ((fail_if_success (with_reducible apply AWp.region (id := 5))); (fail_if_success (with_reducible apply AWp.region (id := 8))); (with_reducible apply AWp.region); simp -implicitDefEqProofs [hS, hS', hS2, hS3, w1, Try.underlying3, Try.underlying89])
    | (with_reducible refine And.intro (by first | omega | assumption | decide) ?_)
    | ((with_reducible show condK _ _ _); simp -implicitDefEqProofs [hS, hS', hS2, hS3, w1, Try.underlying3, Try.underlying89])
    | ((with_reducible show guardK _ _ _ _ _ _ _ _ _); simp -implicitDefEqProofs [hS, hS', hS2, hS3, w1, Try.underlying3, Try.underlying89])
    | ((with_reducible apply aCall.id); first
        | ((apply aCall.gives (h1 _)); simp -implicitDefEqProofs [hS, hS', hS2, hS3, w1, Try.underlying3, Try.underlying89])
        | ((apply aCall.gives (small_ok _ _ _)); simp -implicitDefEqProofs [hS, hS', hS2, hS3, w1, Try.underlying3, Try.underlying89])
        | ((apply aCall.owns (hp _)); simp -implicitDefEqProofs [hS, hS', hS2, hS3, w1, Try.underlying3, Try.underlying89]))
    | ((with_reducible apply AWp.ret); try simp -implicitDefEqProofs [hS, hS', hS2, hS3, w1, Try.underlying3, Try.underlying89])
    | ((with_reducible apply AWp.skip); try simp -implicitDefEqProofs [hS, hS', hS2, hS3, w1, Try.underlying3, Try.underlying89])
    | ((with_reducible apply AWp.exit); try simp -implicitDefEqProofs [hS, hS', hS2, hS3, w1, Try.underlying3, Try.underlying89]))
  with_reducible apply AWp.regionS
  refine sOps.sp rfl (SOp.buildM (by decide) ?_)
  simp -implicitDefEqProofs [aBuildSliceM]
  intro id2 n_id2_id h_id2
  have n_id_id2 : ¬ id = id2 := fun e => n_id2_id e.symm
  refine sOps.rest ?_
  simp -implicitDefEqProofs
  repeat (first
    | (with_reducible apply AWp.seq)
    | (with_reducible apply AWp.block)
    | ((with_reducible apply AWp.fork); simp -implicitDefEqProofs [hS, hS', hS2, hS3, n_id2_id, n_id_id2])
    | ((fail_if_success (with_reducible apply AWp.region (id := 5))); (fail_if_success (with_reducible apply AWp.region (id := 8))); (with_reducible apply AWp.region); simp -implicitDefEqProofs [hS, hS', hS2, hS3, n_id2_id, n_id_id2])
    | (with_reducible refine And.intro (by first | omega | assumption | decide) ?_)
    | ((with_reducible show condK _ _ _); simp -implicitDefEqProofs [hS, hS', hS2, hS3, n_id2_id, n_id_id2])
    | ((with_reducible show guardK _ _ _ _ _ _ _ _ _); simp -implicitDefEqProofs [hS, hS', hS2, hS3, n_id2_id, n_id_id2])
    | ((with_reducible apply AWp.ret); try simp -implicitDefEqProofs [hS, hS', hS2, hS3, n_id2_id, n_id_id2])
    | ((with_reducible apply AWp.skip); try simp -implicitDefEqProofs [hS, hS', hS2, hS3, n_id2_id, n_id_id2])
    | ((with_reducible apply AWp.exit); try simp -implicitDefEqProofs [hS, hS', hS2, hS3, n_id2_id, n_id_id2]))
  refine AWp.freeze 4 id2 (([11, 0, 0, 0] : List UInt8).map u8) (m := 4) (by simp) (by simp [*]) (by simp) (by simp) (by simp) ?_
  simp -implicitDefEqProofs
  repeat (first
    | (with_reducible apply AWp.seq)
    | (with_reducible apply AWp.block)
    | ((with_reducible apply AWp.fork); simp -implicitDefEqProofs [hS, hS', hS2, hS3, w1, Try.underlying3, Try.underlying89, n_id2_id, n_id_id2])
    | ((with_reducible apply AWp.region); simp -implicitDefEqProofs [hS, hS', hS2, hS3, w1, Try.underlying3, Try.underlying89, n_id2_id, n_id_id2])
    | (with_reducible refine And.intro (by first | omega | assumption | decide) ?_)
    | ((with_reducible show condK _ _ _); simp -implicitDefEqProofs [hS, hS', hS2, hS3, w1, Try.underlying3, Try.underlying89, n_id2_id, n_id_id2])
    | ((with_reducible show guardK _ _ _ _ _ _ _ _ _); simp -implicitDefEqProofs [hS, hS', hS2, hS3, w1, Try.underlying3, Try.underlying89, n_id2_id, n_id_id2])
    | ((with_reducible apply aCall.id); first
        | ((apply aCall.owns (hp _)); simp -implicitDefEqProofs [hS, hS', hS2, hS3, w1, Try.underlying3, Try.underlying89, n_id2_id, n_id_id2]))
    | ((with_reducible apply AWp.ret); try simp -implicitDefEqProofs [hS, hS', hS2, hS3, w1, Try.underlying3, Try.underlying89, n_id2_id, n_id_id2])
    | ((with_reducible apply AWp.skip); try simp -implicitDefEqProofs [hS, hS', hS2, hS3, w1, Try.underlying3, Try.underlying89, n_id2_id, n_id_id2])
    | ((with_reducible apply AWp.exit); try simp -implicitDefEqProofs [hS, hS', hS2, hS3, w1, Try.underlying3, Try.underlying89, n_id2_id, n_id_id2]))
  intro tk n_tk_id h_tk
  have n_id_tk : ¬ id = tk := fun e => n_tk_id e.symm
  clear hp
  generalize putB code.length 4 = pb at hb hL0' ⊢
  repeat (first
    | (with_reducible apply AWp.seq)
    | (with_reducible apply AWp.block)
    | ((with_reducible apply AWp.fork); simp -implicitDefEqProofs [hS, hS', hS2, hS3, hb, n_id2_id, n_id_id2, n_tk_id, n_id_tk])
    | ((with_reducible apply AWp.region); simp -implicitDefEqProofs [hS, hS', hS2, hS3, hb, n_id2_id, n_id_id2, n_tk_id, n_id_tk])
    | (with_reducible refine And.intro (by first | omega | assumption | decide) ?_)
    | ((with_reducible show condK _ _ _); simp -implicitDefEqProofs [hS, hS', hS2, hS3, hb, n_id2_id, n_id_id2, n_tk_id, n_id_tk])
    | ((with_reducible show guardK _ _ _ _ _ _ _ _ _); simp -implicitDefEqProofs [hS, hS', hS2, hS3, hb, n_id2_id, n_id_id2, n_tk_id, n_id_tk])
    | ((with_reducible apply AWp.ret); try simp -implicitDefEqProofs [hS, hS', hS2, hS3, hb, n_id2_id, n_id_id2, n_tk_id, n_id_tk])
    | ((with_reducible apply AWp.skip); try simp -implicitDefEqProofs [hS, hS', hS2, hS3, hb, n_id2_id, n_id_id2, n_tk_id, n_id_tk])
    | ((with_reducible apply AWp.exit); try simp -implicitDefEqProofs [hS, hS', hS2, hS3, hb, n_id2_id, n_id_id2, n_tk_id, n_id_tk]))
  have hB : ∀ tk, ¬ tk = id → σ tk = none → (σ.set id (.cells 48 [.lst 5 (code.map u8) o1 n1, .lst 91 (cls.map rawV) o2 n2])) tk = none := by intro tk h1 h2; simp [h1, h2]
  have hBid : (σ.set id (.cells 48 [.lst 5 (code.map u8) o1 n1, .lst 91 (cls.map rawV) o2 n2])) id = some (.cells 48 [.lst 5 (code.map u8) o1 n1, .lst 91 (cls.map rawV) o2 n2]) := by simp
  have hBle : AS.le σ (σ.set id (.cells 48 [.lst 5 (code.map u8) o1 n1, .lst 91 (cls.map rawV) o2 n2])) := le_new h_id (AS.le_refl _)
  have hBn : ∀ tk, (σ.set id (.cells 48 [.lst 5 (code.map u8) o1 n1, .lst 91 (cls.map rawV) o2 n2])) tk = none → ¬ tk = id ∧ ¬ id = tk ∧ σ tk = none := by intro tk h; simp at h; exact ⟨h.1, fun e => h.1 e.symm, h.2⟩
  have htk := hB tk n_tk_id h_tk
  generalize (σ.set id (.cells 48 [.lst 5 (code.map u8) o1 n1, .lst 91 (cls.map rawV) o2 n2])) = B at *
  have hL0 : (([11, 0, 0, 0] ++ pb ++ code : List UInt8)).length = 8 + code.length := by simp [hb]; omega
  refine AWp.loopI (wrP cls o2 n2 id L B) ⟨[11, 0, 0, 0] ++ pb ++ code, tk, hL0', rfl, by rw [← hL0', padL_len]; omega, htk, rfl, rfl⟩ (FrWk.mk (by simp)) (le_tok (AS.le_refl _) (by simp [hb]; try omega)) ?_
  have hLL : L.length ≤ 65600 := by rw [← hL0', padL_len]; omega
  clear hL0 hb hL0' hW
  rintro m fr σ' ⟨l, tk, hpad, hm, hlen, htk, rfl, rfl⟩
  obtain ⟨hne1, hne2, _⟩ := hBn tk htk
  have e4 : ((l.length : Int)).tmod 4 = ((l.length % 4 : Nat) : Int) := by rw [Int.tmod_eq_emod_of_nonneg (by omega)]; rfl
  by_cases hz : l.length % 4 = 0
  · rw [padL_done l hz] at hpad
    subst hpad
    have w5 : IntKind.u8.wrap (cls.length : Int) = ((UInt8.ofNat cls.length).toNat : Int) := by rw [w_u8]; simp
    repeat (first
      | (with_reducible apply AWp.seq)
      | (with_reducible apply AWp.block)
      | ((with_reducible apply AWp.fork); simp -implicitDefEqProofs [e4, hz, hBid, hne1, hne2, w5, Try.underlying3, Try.underlying5, n_id2_id, n_id_id2, n_tk_id, n_id_tk])
      | ((with_reducible apply AWp.region); simp -implicitDefEqProofs [e4, hz, hBid, hne1, hne2, w5, Try.underlying3, Try.underlying5, n_id2_id, n_id_id2, n_tk_id, n_id_tk])
      | (with_reducible refine And.intro (by first | omega | assumption | decide) ?_)
      | ((with_reducible show condK _ _ _); simp -implicitDefEqProofs [e4, hz, hBid, hne1, hne2, w5, Try.underlying3, Try.underlying5, n_id2_id, n_id_id2, n_tk_id, n_id_tk])
      | ((with_reducible show guardK _ _ _ _ _ _ _ _ _); simp -implicitDefEqProofs [e4, hz, hBid, hne1, hne2, w5, Try.underlying3, Try.underlying5, n_id2_id, n_id_id2, n_tk_id, n_id_tk])
      | ((with_reducible apply AWp.ret); try simp -implicitDefEqProofs [e4, hz, hBid, hne1, hne2, w5, Try.underlying3, Try.underlying5, n_id2_id, n_id_id2, n_tk_id, n_id_tk])
      | ((with_reducible apply AWp.skip); try simp -implicitDefEqProofs [e4, hz, hBid, hne1, hne2, w5, Try.underlying3, Try.underlying5, n_id2_id, n_id_id2, n_tk_id, n_id_tk])
      | ((with_reducible apply AWp.exit); try simp -implicitDefEqProofs [e4, hz, hBid, hne1, hne2, w5, Try.underlying3, Try.underlying5, n_id2_id, n_id_id2, n_tk_id, n_id_tk]))
    have hLL4 : (l ++ [1, UInt8.ofNat cls.length, 0, 0]).length ≤ 65604 := by simp; omega
    refine AWp.loopI (wrO cls o2 n2 (l ++ [1, UInt8.ofNat cls.length, 0, 0]) B) (k0 := cls.length) ⟨0, tk, by omega, by omega, htk, rfl, rfl⟩ (FrWk.mk (by simp)) (le_tok (AS.le_refl _) (by simp)) ?_
    generalize hLd : l ++ [1, UInt8.ofNat cls.length, 0, 0] = L at hLL4 ⊢
    clear hm hz e4 hne1 hne2 hlen w5
    rintro m fr σ' ⟨i, tk, hm, hi, htk, rfl, rfl⟩
    obtain ⟨hne1, hne2, _⟩ := hBn tk htk
    by_cases hlt : i < cls.length
    · obtain ⟨r, hg, hd, hmem, htake⟩ := at_lt cls hlt
      have hI : ((i : Int) < cls.length) = True := by simp; omega
      have hrv : rawV r = .agg [.sc (.int .i64 r.kd), .sc (.int .i64 r.ta), .sc (.int .i64 r.tl), .sc (.int .i64 r.ha), .sc (.int .i64 r.hl), .sc (.int .i64 r.ex)] := rfl
      have hn := fun σ => numbers_ok r σ
      have hl6 := nums_len r
      have hok := okR_nums (g4 r hmem)
      have hE : encR r = (nums r).flatMap fun n => putB n 2 := rfl
      have hX : (L ++ (cls.take i).flatMap encR).length ≤ 65676 := by
        rw [List.length_append, encs_len, List.length_take]; omega
      have hX2 : L ++ (cls.take (i + 1)).flatMap encR = L ++ (cls.take i).flatMap encR ++ (nums r).flatMap fun n => putB n 2 := by
        rw [htake, List.flatMap_append, ← List.append_assoc]; simp [hE]
      simp only [hrv] at hn
      generalize nums r = ll at hn hl6 hok hX2
      generalize L ++ (cls.take i).flatMap encR = X at hX hX2 ⊢
      repeat (first
        | (with_reducible apply AWp.seq)
        | (with_reducible apply AWp.block)
        | ((with_reducible apply AWp.fork); simp -implicitDefEqProofs [hI, hg, hrv, hne1, hne2, n_id2_id, n_id_id2, n_tk_id, n_id_tk])
        | ((with_reducible apply AWp.region); simp -implicitDefEqProofs [hI, hg, hrv, hne1, hne2, n_id2_id, n_id_id2, n_tk_id, n_id_tk])
        | (with_reducible refine And.intro (by first | omega | assumption | decide) ?_)
        | ((with_reducible show condK _ _ _); simp -implicitDefEqProofs [hI, hg, hrv, hne1, hne2, n_id2_id, n_id_id2, n_tk_id, n_id_tk])
        | ((with_reducible show guardK _ _ _ _ _ _ _ _ _); simp -implicitDefEqProofs [hI, hg, hrv, hne1, hne2, n_id2_id, n_id_id2, n_tk_id, n_id_tk])
        | ((with_reducible apply AWp.ret); try simp -implicitDefEqProofs [hI, hg, hrv, hne1, hne2, n_id2_id, n_id_id2, n_tk_id, n_id_tk])
        | ((with_reducible apply AWp.skip); try simp -implicitDefEqProofs [hI, hg, hrv, hne1, hne2, n_id2_id, n_id_id2, n_tk_id, n_id_tk])
        | ((with_reducible apply AWp.exit); try simp -implicitDefEqProofs [hI, hg, hrv, hne1, hne2, n_id2_id, n_id_id2, n_tk_id, n_id_tk]))
      intro id3 n_id3_tk h_id3
      have n_tk_id3 : ¬ tk = id3 := fun e => n_id3_tk e.symm
      repeat (first
        | (with_reducible apply AWp.seq)
        | (with_reducible apply AWp.block)
        | ((with_reducible apply AWp.fork); simp -implicitDefEqProofs [hI, hg, hrv, n_id2_id, n_id_id2, n_tk_id, n_id_tk, n_id3_tk, n_tk_id3])
        | ((with_reducible apply AWp.region); simp -implicitDefEqProofs [hI, hg, hrv, n_id2_id, n_id_id2, n_tk_id, n_id_tk, n_id3_tk, n_tk_id3])
        | (with_reducible refine And.intro (by first | omega | assumption | decide) ?_)
        | ((with_reducible show condK _ _ _); simp -implicitDefEqProofs [hI, hg, hrv, n_id2_id, n_id_id2, n_tk_id, n_id_tk, n_id3_tk, n_tk_id3])
        | ((with_reducible show guardK _ _ _ _ _ _ _ _ _); simp -implicitDefEqProofs [hI, hg, hrv, n_id2_id, n_id_id2, n_tk_id, n_id_tk, n_id3_tk, n_tk_id3])
        | ((with_reducible apply aCall.id); first
            | ((apply aCall.gives (hn _)); simp -implicitDefEqProofs [hI, hg, hrv, n_id2_id, n_id_id2, n_tk_id, n_id_tk, n_id3_tk, n_tk_id3]))
        | ((with_reducible apply AWp.ret); try simp -implicitDefEqProofs [hI, hg, hrv, n_id2_id, n_id_id2, n_tk_id, n_id_tk, n_id3_tk, n_tk_id3])
        | ((with_reducible apply AWp.skip); try simp -implicitDefEqProofs [hI, hg, hrv, n_id2_id, n_id_id2, n_tk_id, n_id_tk, n_id3_tk, n_tk_id3])
        | ((with_reducible apply AWp.exit); try simp -implicitDefEqProofs [hI, hg, hrv, n_id2_id, n_id_id2, n_tk_id, n_id_tk, n_id3_tk, n_tk_id3]))
      refine AWp.loopI (wrI cls o2 n2 X B i ll) (k0 := 6) ⟨0, tk, rfl, by omega, htk, rfl, rfl⟩ (FrWk.mk (by simp)) (le_new (by simp [*]) (le_tok (AS.le_refl _) (by simp))) ?_
      clear hne1 hne2
      rintro m2 fr σ'' ⟨k, tk, hm2, hk6, htk, rfl, rfl⟩
      have hXk : (X ++ (ll.take k).flatMap (putB · 2)).length ≤ 65700 := by
        have : ∀ l : List Int, (l.flatMap (putB · 2)).length = 2 * l.length := by
          intro l
          induction l with
          | nil => rfl
          | cons a t ih => simp [putB_length] at ih ⊢; omega
        rw [List.length_append, this, List.length_take]; omega
      by_cases hk2 : k < 6
      · obtain ⟨x, hgx, hdx, hmx, htx⟩ := at_lt ll (i := k) (by omega)
        have hK : ((k : Int) < 6) = True := by simp; omega
        obtain ⟨x1, x2⟩ := hok x hmx
        have wx : IntKind.u64.wrap x = x := in_u64 (by omega) (by omega)
        have hX3 : X ++ (ll.take (k + 1)).flatMap (putB · 2) = X ++ (ll.take k).flatMap (putB · 2) ++ putB x 2 := by
          rw [htx, List.flatMap_append, ← List.append_assoc]; simp
        have hp := fun σ => put_ok (X ++ (ll.take k).flatMap (putB · 2)) (.tok tk) false (by simp) (by omega) x 2 (by omega) (by omega) (by decide) σ
        generalize X ++ (ll.take k).flatMap (putB · 2) = Y at *
        have hb2 := putB_length x 2
        repeat (first
          | (with_reducible apply AWp.seq)
          | (with_reducible apply AWp.block)
          | ((with_reducible apply AWp.fork); simp -implicitDefEqProofs [hK, hgx, i64v_def, wx, Try.underlying3, Try.underlying89, n_id2_id, n_id_id2, n_tk_id, n_id_tk, n_id3_tk, n_tk_id3])
          | ((with_reducible apply AWp.region); simp -implicitDefEqProofs [hK, hgx, i64v_def, wx, Try.underlying3, Try.underlying89, n_id2_id, n_id_id2, n_tk_id, n_id_tk, n_id3_tk, n_tk_id3])
          | (with_reducible refine And.intro (by first | omega | assumption | decide) ?_)
          | ((with_reducible show condK _ _ _); simp -implicitDefEqProofs [hK, hgx, i64v_def, wx, Try.underlying3, Try.underlying89, n_id2_id, n_id_id2, n_tk_id, n_id_tk, n_id3_tk, n_tk_id3])
          | ((with_reducible show guardK _ _ _ _ _ _ _ _ _); simp -implicitDefEqProofs [hK, hgx, i64v_def, wx, Try.underlying3, Try.underlying89, n_id2_id, n_id_id2, n_tk_id, n_id_tk, n_id3_tk, n_tk_id3])
          | ((with_reducible apply aCall.id); first
              | ((apply aCall.owns (hp _)); simp -implicitDefEqProofs [hK, hgx, i64v_def, wx, Try.underlying3, Try.underlying89, n_id2_id, n_id_id2, n_tk_id, n_id_tk, n_id3_tk, n_tk_id3]))
          | ((with_reducible apply AWp.ret); try simp -implicitDefEqProofs [hK, hgx, i64v_def, wx, Try.underlying3, Try.underlying89, n_id2_id, n_id_id2, n_tk_id, n_id_tk, n_id3_tk, n_tk_id3])
          | ((with_reducible apply AWp.skip); try simp -implicitDefEqProofs [hK, hgx, i64v_def, wx, Try.underlying3, Try.underlying89, n_id2_id, n_id_id2, n_tk_id, n_id_tk, n_id3_tk, n_tk_id3])
          | ((with_reducible apply AWp.exit); try simp -implicitDefEqProofs [hK, hgx, i64v_def, wx, Try.underlying3, Try.underlying89, n_id2_id, n_id_id2, n_tk_id, n_id_tk, n_id3_tk, n_tk_id3]))
        intro tk3 n_tk3_tk h_tk3
        have n_tk_tk3 : ¬ tk = tk3 := fun e => n_tk3_tk e.symm
        repeat (first
          | (with_reducible apply AWp.seq)
          | (with_reducible apply AWp.block)
          | ((with_reducible apply AWp.fork); simp -implicitDefEqProofs [n_id2_id, n_id_id2, n_tk_id, n_id_tk, n_id3_tk, n_tk_id3, n_tk3_tk, n_tk_tk3])
          | ((with_reducible apply AWp.region); simp -implicitDefEqProofs [n_id2_id, n_id_id2, n_tk_id, n_id_tk, n_id3_tk, n_tk_id3, n_tk3_tk, n_tk_tk3])
          | (with_reducible refine And.intro (by first | omega | assumption | decide) ?_)
          | ((with_reducible show condK _ _ _); simp -implicitDefEqProofs [n_id2_id, n_id_id2, n_tk_id, n_id_tk, n_id3_tk, n_tk_id3, n_tk3_tk, n_tk_tk3])
          | ((with_reducible show guardK _ _ _ _ _ _ _ _ _); simp -implicitDefEqProofs [n_id2_id, n_id_id2, n_tk_id, n_id_tk, n_id3_tk, n_tk_id3, n_tk3_tk, n_tk_tk3])
          | ((with_reducible apply AWp.ret); try simp -implicitDefEqProofs [n_id2_id, n_id_id2, n_tk_id, n_id_tk, n_id3_tk, n_tk_id3, n_tk3_tk, n_tk_tk3])
          | ((with_reducible apply AWp.skip); try simp -implicitDefEqProofs [n_id2_id, n_id_id2, n_tk_id, n_id_tk, n_id3_tk, n_tk_id3, n_tk3_tk, n_tk_tk3])
          | ((with_reducible apply AWp.exit); try simp -implicitDefEqProofs [n_id2_id, n_id_id2, n_tk_id, n_id_tk, n_id3_tk, n_tk_id3, n_tk3_tk, n_tk_tk3]))
        refine ⟨m2 - 1, _, _, by omega, FrWk.mk ?_, ?_, k + 1, tk3, by omega, by omega, h_tk3, rfl, rfl⟩
        · rw [hX3]; simp [wInc (show k < 4000000000000000000 by omega)]
        · rw [hX3]; exact le_tok (le_new htk (AS.le_refl _)) (by simp [hb2])
      · have hK : ((k : Int) < 6) = False := by simp; omega
        have htk6 : ll.take k = ll := List.take_of_length_le (by omega)
        rw [htk6]
        rw [← hX2]
        repeat (first
          | (with_reducible apply AWp.seq)
          | (with_reducible apply AWp.block)
          | ((with_reducible apply AWp.fork); simp -implicitDefEqProofs [hK, n_id2_id, n_id_id2, n_tk_id, n_id_tk, n_id3_tk, n_tk_id3])
          | ((with_reducible apply AWp.region); simp -implicitDefEqProofs [hK, n_id2_id, n_id_id2, n_tk_id, n_id_tk, n_id3_tk, n_tk_id3])
          | (with_reducible refine And.intro (by first | omega | assumption | decide) ?_)
          | ((with_reducible show condK _ _ _); simp -implicitDefEqProofs [hK, n_id2_id, n_id_id2, n_tk_id, n_id_tk, n_id3_tk, n_tk_id3])
          | ((with_reducible show guardK _ _ _ _ _ _ _ _ _); simp -implicitDefEqProofs [hK, n_id2_id, n_id_id2, n_tk_id, n_id_tk, n_id3_tk, n_tk_id3])
          | ((with_reducible apply AWp.ret); try simp -implicitDefEqProofs [hK, n_id2_id, n_id_id2, n_tk_id, n_id_tk, n_id3_tk, n_tk_id3])
          | ((with_reducible apply AWp.skip); try simp -implicitDefEqProofs [hK, n_id2_id, n_id_id2, n_tk_id, n_id_tk, n_id3_tk, n_tk_id3])
          | ((with_reducible apply AWp.exit); try simp -implicitDefEqProofs [hK, n_id2_id, n_id_id2, n_tk_id, n_id_tk, n_id3_tk, n_tk_id3]))
        refine ⟨m - 1, _, _, by omega, FrWk.mk ?_, le_tok (AS.le_refl _) (by simp), i + 1, tk, by omega, by omega, htk, rfl, rfl⟩
        simp [wInc (show i < 4000000000000000000 by omega)]
    · have hI : ((i : Int) < cls.length) = False := by simp; omega
      have : cls.take i = cls := List.take_of_length_le (by omega)
      rw [this]
      obtain ⟨_, _, h_tk⟩ := hBn tk htk
      repeat (first
        | (with_reducible apply AWp.seq)
        | (with_reducible apply AWp.block)
        | ((with_reducible apply AWp.fork); simp -implicitDefEqProofs [hI, n_id2_id, n_id_id2, n_tk_id, n_id_tk])
        | ((with_reducible apply AWp.region); simp -implicitDefEqProofs [hI, n_id2_id, n_id_id2, n_tk_id, n_id_tk])
        | (with_reducible refine And.intro (by first | omega | assumption | decide) ?_)
        | ((with_reducible show condK _ _ _); simp -implicitDefEqProofs [hI, n_id2_id, n_id_id2, n_tk_id, n_id_tk])
        | ((with_reducible show guardK _ _ _ _ _ _ _ _ _); simp -implicitDefEqProofs [hI, n_id2_id, n_id_id2, n_tk_id, n_id_tk])
        | ((with_reducible apply AWp.ret); try simp -implicitDefEqProofs [hI, n_id2_id, n_id_id2, n_tk_id, n_id_tk])
        | ((with_reducible apply AWp.skip); try simp -implicitDefEqProofs [hI, n_id2_id, n_id_id2, n_tk_id, n_id_tk])
        | ((with_reducible apply AWp.exit); try simp -implicitDefEqProofs [hI, n_id2_id, n_id_id2, n_tk_id, n_id_tk]))
      refine owns_end tk h_tk (wk_eq (by simp [← hLd])) ?_
      exact le_tok hBle (by simp [← hLd]; omega)
  · have hz' : ((l.length : Int) % 4 = 0) = False := by simp; omega
    repeat (first
      | (with_reducible apply AWp.seq)
      | (with_reducible apply AWp.block)
      | ((with_reducible apply AWp.fork); simp -implicitDefEqProofs [e4, hz, hz', n_id2_id, n_id_id2, n_tk_id, n_id_tk])
      | ((with_reducible apply AWp.region); simp -implicitDefEqProofs [e4, hz, hz', n_id2_id, n_id_id2, n_tk_id, n_id_tk])
      | (with_reducible refine And.intro (by first | omega | assumption | decide) ?_)
      | ((with_reducible show condK _ _ _); simp -implicitDefEqProofs [e4, hz, hz', n_id2_id, n_id_id2, n_tk_id, n_id_tk])
      | ((with_reducible show guardK _ _ _ _ _ _ _ _ _); simp -implicitDefEqProofs [e4, hz, hz', n_id2_id, n_id_id2, n_tk_id, n_id_tk])
      | ((with_reducible apply AWp.ret); try simp -implicitDefEqProofs [e4, hz, hz', n_id2_id, n_id_id2, n_tk_id, n_id_tk])
      | ((with_reducible apply AWp.skip); try simp -implicitDefEqProofs [e4, hz, hz', n_id2_id, n_id_id2, n_tk_id, n_id_tk])
      | ((with_reducible apply AWp.exit); try simp -implicitDefEqProofs [e4, hz, hz', n_id2_id, n_id_id2, n_tk_id, n_id_tk]))
    refine ⟨m - 1, _, _, by omega, FrWk.mk ?_, AS.le_refl _, l ++ [0], tk, by rw [padL_step l hz]; exact hpad, by simp; omega, by rw [← hpad, padL_len]; simp; omega, htk, by simp, rfl⟩
    simp

end Go.Proofs.Ytnkjbgcbchbonaa
