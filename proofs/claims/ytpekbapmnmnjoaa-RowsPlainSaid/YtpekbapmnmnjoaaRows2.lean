/- Package rows: fits, what Write puts by, formed; the document's fits, Width. -/
import Derived.Test.YtpekbapmnmnjoaaRows1
set_option linter.unusedSimpArgs false
set_option linter.unusedVariables false
set_option maxRecDepth 100000
set_option maxHeartbeats 3200000
namespace Go.Proofs.Ytpekbapmnmnjoaa
open Go Go.AW

/-! tables as they are told of: rows, with whether each slice is nil -/
def iV (x : List Int × Bool) : AV := .lst 3 (x.1.map i64v) .unk x.2
def lV (x : List (List Int × Bool) × Bool) : AV := .lst 70 (x.1.map iV) .unk x.2
abbrev Tab := List (List (List Int × Bool) × Bool)
def tbV (en : Int) (R : Tab) (o : Own) (nl : Bool) : AV := .agg [.sc (.int .i64 en), .lst 69 (R.map lV) o nl]
def pl1 (x : List (List Int × Bool) × Bool) : List (List Int) := x.1.map (·.1)
def pl (R : Tab) : List (List (List Int)) := R.map pl1

def fitsB (x w : Int) : Bool := decide (0 ≤ x) && (decide (w = 2) && decide (x < 65536) || decide (w = 4) && decide (x < 4294967296))
theorem wK_24 (k : UInt8) (m : Nat) : wK k m = 2 ∨ wK k m = 4 := by unfold wK; split <;> simp

theorem fits_ok (x w : Int) (hw : w = 2 ∨ w = 4) (σ : AS) : ACalls Try.prog 39 [.sc (.int .i64 x), .sc (.int .i64 w)] σ (Gives (.sc (.bool (fitsB x w))) σ) No := by
  refine ACalls.of_body Try.func39 rfl rfl (by simp [Try.ntmps39]) ?_
  by_cases h0 : 0 ≤ x
  · rcases hw with rfl | rfl
    · by_cases h1 : x < 65536
      · repeat (first
          | (with_reducible apply AWp.seq)
          | (with_reducible apply AWp.block)
          | ((with_reducible apply AWp.fork); simp -implicitDefEqProofs [h0, h1])
          | ((with_reducible apply AWp.region); simp -implicitDefEqProofs [h0, h1])
          | (with_reducible refine And.intro (by first | omega | assumption | decide) ?_)
          | ((with_reducible show condK _ _ _); simp -implicitDefEqProofs [h0, h1])
          | ((with_reducible show guardK _ _ _ _ _ _ _ _ _); simp -implicitDefEqProofs [h0, h1])
          | ((with_reducible apply AWp.ret); try simp -implicitDefEqProofs [h0, h1])
          | ((with_reducible apply AWp.skip); try simp -implicitDefEqProofs [h0, h1])
          | ((with_reducible apply AWp.exit); try simp -implicitDefEqProofs [h0, h1]))
        simp [fitsB, h0, h1]
      · repeat (first
          | (with_reducible apply AWp.seq)
          | (with_reducible apply AWp.block)
          | ((with_reducible apply AWp.fork); simp -implicitDefEqProofs [h0, h1])
          | ((with_reducible apply AWp.region); simp -implicitDefEqProofs [h0, h1])
          | (with_reducible refine And.intro (by first | omega | assumption | decide) ?_)
          | ((with_reducible show condK _ _ _); simp -implicitDefEqProofs [h0, h1])
          | ((with_reducible show guardK _ _ _ _ _ _ _ _ _); simp -implicitDefEqProofs [h0, h1])
          | ((with_reducible apply AWp.ret); try simp -implicitDefEqProofs [h0, h1])
          | ((with_reducible apply AWp.skip); try simp -implicitDefEqProofs [h0, h1])
          | ((with_reducible apply AWp.exit); try simp -implicitDefEqProofs [h0, h1]))
        simp [fitsB, h0, h1]
    · by_cases h1 : x < 4294967296
      · repeat (first
          | (with_reducible apply AWp.seq)
          | (with_reducible apply AWp.block)
          | ((with_reducible apply AWp.fork); simp -implicitDefEqProofs [h0, h1])
          | ((with_reducible apply AWp.region); simp -implicitDefEqProofs [h0, h1])
          | (with_reducible refine And.intro (by first | omega | assumption | decide) ?_)
          | ((with_reducible show condK _ _ _); simp -implicitDefEqProofs [h0, h1])
          | ((with_reducible show guardK _ _ _ _ _ _ _ _ _); simp -implicitDefEqProofs [h0, h1])
          | ((with_reducible apply AWp.ret); try simp -implicitDefEqProofs [h0, h1])
          | ((with_reducible apply AWp.skip); try simp -implicitDefEqProofs [h0, h1])
          | ((with_reducible apply AWp.exit); try simp -implicitDefEqProofs [h0, h1]))
        simp [fitsB, h0, h1]
      · repeat (first
          | (with_reducible apply AWp.seq)
          | (with_reducible apply AWp.block)
          | ((with_reducible apply AWp.fork); simp -implicitDefEqProofs [h0, h1])
          | ((with_reducible apply AWp.region); simp -implicitDefEqProofs [h0, h1])
          | (with_reducible refine And.intro (by first | omega | assumption | decide) ?_)
          | ((with_reducible show condK _ _ _); simp -implicitDefEqProofs [h0, h1])
          | ((with_reducible show guardK _ _ _ _ _ _ _ _ _); simp -implicitDefEqProofs [h0, h1])
          | ((with_reducible apply AWp.ret); try simp -implicitDefEqProofs [h0, h1])
          | ((with_reducible apply AWp.skip); try simp -implicitDefEqProofs [h0, h1])
          | ((with_reducible apply AWp.exit); try simp -implicitDefEqProofs [h0, h1]))
        simp [fitsB, h0, h1]
  · repeat (first
      | (with_reducible apply AWp.seq)
      | (with_reducible apply AWp.block)
      | ((with_reducible apply AWp.fork); simp -implicitDefEqProofs [h0])
      | ((with_reducible apply AWp.region); simp -implicitDefEqProofs [h0])
      | (with_reducible refine And.intro (by first | omega | assumption | decide) ?_)
      | ((with_reducible show condK _ _ _); simp -implicitDefEqProofs [h0])
      | ((with_reducible show guardK _ _ _ _ _ _ _ _ _); simp -implicitDefEqProofs [h0])
      | ((with_reducible apply AWp.ret); try simp -implicitDefEqProofs [h0])
      | ((with_reducible apply AWp.skip); try simp -implicitDefEqProofs [h0])
      | ((with_reducible apply AWp.exit); try simp -implicitDefEqProofs [h0]))
    simp [fitsB, h0]

theorem rfits_ok (x w : Int) (hw : w = 2 ∨ w = 4) (σ : AS) : ACalls Try.prog 44 [.sc (.int .i64 x), .sc (.int .i64 w)] σ (Gives (.sc (.bool (fitsB x w))) σ) No := by
  refine ACalls.of_body Try.func44 rfl rfl (by simp [Try.ntmps44]) ?_
  by_cases h0 : 0 ≤ x
  · rcases hw with rfl | rfl
    · by_cases h1 : x ≤ 65535
      · have h1' : x < 65536 := by omega
        repeat (first
          | (with_reducible apply AWp.seq)
          | (with_reducible apply AWp.block)
          | ((with_reducible apply AWp.fork); simp -implicitDefEqProofs [h0, h1])
          | ((with_reducible apply AWp.region); simp -implicitDefEqProofs [h0, h1])
          | (with_reducible refine And.intro (by first | omega | assumption | decide) ?_)
          | ((with_reducible show condK _ _ _); simp -implicitDefEqProofs [h0, h1])
          | ((with_reducible show guardK _ _ _ _ _ _ _ _ _); simp -implicitDefEqProofs [h0, h1])
          | ((with_reducible apply AWp.ret); try simp -implicitDefEqProofs [h0, h1])
          | ((with_reducible apply AWp.skip); try simp -implicitDefEqProofs [h0, h1])
          | ((with_reducible apply AWp.exit); try simp -implicitDefEqProofs [h0, h1]))
        simp [fitsB, h0, h1']
      · have h1' : ¬ x < 65536 := by omega
        repeat (first
          | (with_reducible apply AWp.seq)
          | (with_reducible apply AWp.block)
          | ((with_reducible apply AWp.fork); simp -implicitDefEqProofs [h0, h1])
          | ((with_reducible apply AWp.region); simp -implicitDefEqProofs [h0, h1])
          | (with_reducible refine And.intro (by first | omega | assumption | decide) ?_)
          | ((with_reducible show condK _ _ _); simp -implicitDefEqProofs [h0, h1])
          | ((with_reducible show guardK _ _ _ _ _ _ _ _ _); simp -implicitDefEqProofs [h0, h1])
          | ((with_reducible apply AWp.ret); try simp -implicitDefEqProofs [h0, h1])
          | ((with_reducible apply AWp.skip); try simp -implicitDefEqProofs [h0, h1])
          | ((with_reducible apply AWp.exit); try simp -implicitDefEqProofs [h0, h1]))
        simp [fitsB, h0, h1']
    · by_cases h1 : x ≤ 4294967295
      · have h1' : x < 4294967296 := by omega
        repeat (first
          | (with_reducible apply AWp.seq)
          | (with_reducible apply AWp.block)
          | ((with_reducible apply AWp.fork); simp -implicitDefEqProofs [h0, h1])
          | ((with_reducible apply AWp.region); simp -implicitDefEqProofs [h0, h1])
          | (with_reducible refine And.intro (by first | omega | assumption | decide) ?_)
          | ((with_reducible show condK _ _ _); simp -implicitDefEqProofs [h0, h1])
          | ((with_reducible show guardK _ _ _ _ _ _ _ _ _); simp -implicitDefEqProofs [h0, h1])
          | ((with_reducible apply AWp.ret); try simp -implicitDefEqProofs [h0, h1])
          | ((with_reducible apply AWp.skip); try simp -implicitDefEqProofs [h0, h1])
          | ((with_reducible apply AWp.exit); try simp -implicitDefEqProofs [h0, h1]))
        simp [fitsB, h0, h1']
      · have h1' : ¬ x < 4294967296 := by omega
        repeat (first
          | (with_reducible apply AWp.seq)
          | (with_reducible apply AWp.block)
          | ((with_reducible apply AWp.fork); simp -implicitDefEqProofs [h0, h1])
          | ((with_reducible apply AWp.region); simp -implicitDefEqProofs [h0, h1])
          | (with_reducible refine And.intro (by first | omega | assumption | decide) ?_)
          | ((with_reducible show condK _ _ _); simp -implicitDefEqProofs [h0, h1])
          | ((with_reducible show guardK _ _ _ _ _ _ _ _ _); simp -implicitDefEqProofs [h0, h1])
          | ((with_reducible apply AWp.ret); try simp -implicitDefEqProofs [h0, h1])
          | ((with_reducible apply AWp.skip); try simp -implicitDefEqProofs [h0, h1])
          | ((with_reducible apply AWp.exit); try simp -implicitDefEqProofs [h0, h1]))
        simp [fitsB, h0, h1']
  · rcases hw with rfl | rfl
    · repeat (first
        | (with_reducible apply AWp.seq)
        | (with_reducible apply AWp.block)
        | ((with_reducible apply AWp.fork); simp -implicitDefEqProofs [h0])
        | ((with_reducible apply AWp.region); simp -implicitDefEqProofs [h0])
        | (with_reducible refine And.intro (by first | omega | assumption | decide) ?_)
        | ((with_reducible show condK _ _ _); simp -implicitDefEqProofs [h0])
        | ((with_reducible show guardK _ _ _ _ _ _ _ _ _); simp -implicitDefEqProofs [h0])
        | ((with_reducible apply AWp.ret); try simp -implicitDefEqProofs [h0])
        | ((with_reducible apply AWp.skip); try simp -implicitDefEqProofs [h0])
        | ((with_reducible apply AWp.exit); try simp -implicitDefEqProofs [h0]))
      simp [fitsB, h0]
    · repeat (first
        | (with_reducible apply AWp.seq)
        | (with_reducible apply AWp.block)
        | ((with_reducible apply AWp.fork); simp -implicitDefEqProofs [h0])
        | ((with_reducible apply AWp.region); simp -implicitDefEqProofs [h0])
        | (with_reducible refine And.intro (by first | omega | assumption | decide) ?_)
        | ((with_reducible show condK _ _ _); simp -implicitDefEqProofs [h0])
        | ((with_reducible show guardK _ _ _ _ _ _ _ _ _); simp -implicitDefEqProofs [h0])
        | ((with_reducible apply AWp.ret); try simp -implicitDefEqProofs [h0])
        | ((with_reducible apply AWp.skip); try simp -implicitDefEqProofs [h0])
        | ((with_reducible apply AWp.exit); try simp -implicitDefEqProofs [h0]))
      simp [fitsB, h0]

theorem fitsB_le {x w : Int} (h : fitsB x w = true) : 0 ≤ x ∧ x < 4294967296 ∧ x < 256 ^ w.toNat := by
  simp only [fitsB, Bool.and_eq_true, Bool.or_eq_true, decide_eq_true_eq] at h
  rcases h.2 with ⟨rfl, h2⟩ | ⟨rfl, h2⟩
  · exact ⟨h.1, by omega, by simpa using h2⟩
  · exact ⟨h.1, h2, by simpa using h2⟩

/-- A growing slice in a variable of its own. -/
def gC (l : List UInt8) (tk : Nat) (nl : Bool) : ABlk := .cells 28 [.lst 5 (l.map u8) (.tok tk) nl]

theorem wput_no (id tk : Nat) (l : List UInt8) (nl : Bool) (x w : Int) (hw : w = 2 ∨ w = 4) (hf : fitsB x w = false) (σ : AS) : ACalls Try.prog 38 [.ptr id 0, .sc (.int .i64 x), .sc (.int .i64 w)] σ (Gives (.sc (.bool false)) σ) No := by
  have h := fun σ => fits_ok x w hw σ
  rw [hf] at h
  refine ACalls.of_body Try.func38 rfl rfl (by simp [Try.ntmps38]) ?_
  repeat (first
    | (with_reducible apply AWp.seq)
    | (with_reducible apply AWp.block)
    | ((with_reducible apply AWp.fork); simp -implicitDefEqProofs)
    | ((with_reducible apply AWp.region); simp -implicitDefEqProofs)
    | (with_reducible refine And.intro (by first | omega | assumption | decide) ?_)
    | ((with_reducible apply aCall.id); first
        | ((apply aCall.gives (h _)); simp -implicitDefEqProofs))
    | ((with_reducible apply AWp.ret); try simp -implicitDefEqProofs)
    | ((with_reducible apply AWp.skip); try simp -implicitDefEqProofs)
    | ((with_reducible apply AWp.exit); try simp -implicitDefEqProofs))

theorem put0_ok (x n : Int) (hx : 0 ≤ x) (hx2 : x < 18446744073709551616) (hw : wide n = true) (σ : AS) :
    ACalls Try.prog 40 [.nilS, .sc (.int .u64 x), .sc (.int .i64 n)] σ (Owns (fun tk => .tup [.lst 5 ((putB x n.toNat).map u8) (.tok tk) false, .sc (.int .i64 0)]) n.toNat σ) No := by
  have h : ACalls Try.prog 40 [.nilS, .sc (.int .u64 x), .sc (.int .i64 n)] σ (Owns (fun tk => .tup [.lst 5 (([] ++ putB x n.toNat).map u8) (.tok tk) false, .sc (.int .i64 0)]) (([] : List UInt8).length + n.toNat) σ) No :=
    (put_ok [] .unk true (by simp) (by simp) x n hx hx2 hw σ).wk _ rfl (fun i hi => by
    match i, hi with
    | 0, _ => simp
    | 1, _ => simp
    | 2, _ => simp)
  simpa using h

theorem wput_ok (id tk : Nat) (l : List UInt8) (nl : Bool) (x w : Int) (hw : w = 2 ∨ w = 4) (hf : fitsB x w = true) (hl : l.length ≤ 1000000) (σ : AS) (hid : σ id = some (gC l tk nl)) (htk : σ tk = some (.tok l.length)) (hne : ¬ id = tk) :
    ACalls Try.prog 38 [.ptr id 0, .sc (.int .i64 x), .sc (.int .i64 w)] σ (Gives (.sc (.bool true)) ((σ.set id (gC (l ++ putB x w.toNat) tk false)).set tk (.tok (l.length + w.toNat)))) No := by
  have h := fun σ => fits_ok x w hw σ
  rw [hf] at h
  have hb := fitsB_le hf
  have hx : IntKind.u64.wrap x = x := in_u64 (by omega) (by omega)
  have hp := fun σ => put0_ok x w (by omega) (by omega) (by rcases hw with rfl | rfl <;> rfl) σ
  have hne' : ¬ tk = id := fun e => hne e.symm
  have hpl := putB_length x w.toNat
  have hpe : (putB x w.toNat).isEmpty = false := by
    rcases hw with rfl | rfl <;> rfl
  have hw4 : w.toNat ≤ 4 := by omega
  generalize putB x w.toNat = pb at *
  simp only [gC] at hid ⊢
  refine ACalls.of_body Try.func38 rfl rfl (by simp [Try.ntmps38]) ?_
  repeat (first
    | (with_reducible apply AWp.seq)
    | (with_reducible apply AWp.block)
    | ((with_reducible apply AWp.fork); simp -implicitDefEqProofs [hx])
    | ((with_reducible apply AWp.region); simp -implicitDefEqProofs [hx])
    | (with_reducible refine And.intro (by first | omega | assumption | decide) ?_)
    | ((with_reducible show condK _ _ _); simp -implicitDefEqProofs [hx])
    | ((with_reducible show guardK _ _ _ _ _ _ _ _ _); simp -implicitDefEqProofs [hx])
    | ((with_reducible apply aCall.id); first
        | ((apply aCall.gives (h _)); simp -implicitDefEqProofs [hx])
        | ((apply aCall.owns (hp _)); simp -implicitDefEqProofs [hx]))
    | ((with_reducible apply AWp.ret); try simp -implicitDefEqProofs [hx])
    | ((with_reducible apply AWp.skip); try simp -implicitDefEqProofs [hx])
    | ((with_reducible apply AWp.exit); try simp -implicitDefEqProofs [hx]))
  intro tk2 h_tk2
  have n_id_tk2 : ¬ id = tk2 := by rintro rfl; rw [hid] at h_tk2; cases h_tk2
  have n_tk2_id : ¬ tk2 = id := fun e => n_id_tk2 e.symm
  have n_tk_tk2 : ¬ tk = tk2 := by rintro rfl; rw [htk] at h_tk2; cases h_tk2
  have n_tk2_tk : ¬ tk2 = tk := fun e => n_tk_tk2 e.symm
  repeat (first
    | (with_reducible apply AWp.seq)
    | (with_reducible apply AWp.block)
    | ((with_reducible apply AWp.fork); simp -implicitDefEqProofs [hne, hne', hpe, hpl, n_tk2_id, n_id_tk2, hid, n_tk2_tk, n_tk_tk2, htk])
    | ((with_reducible apply AWp.region); simp -implicitDefEqProofs [hne, hne', hpe, hpl, n_tk2_id, n_id_tk2, hid, n_tk2_tk, n_tk_tk2, htk])
    | (with_reducible refine And.intro (by first | omega | assumption | decide) ?_)
    | ((with_reducible show condK _ _ _); simp -implicitDefEqProofs [hne, hne', hpe, hpl, n_tk2_id, n_id_tk2, hid, n_tk2_tk, n_tk_tk2, htk])
    | ((with_reducible show guardK _ _ _ _ _ _ _ _ _); simp -implicitDefEqProofs [hne, hne', hpe, hpl, n_tk2_id, n_id_tk2, hid, n_tk2_tk, n_tk_tk2, htk])
    | ((with_reducible apply AWp.ret); try simp -implicitDefEqProofs [hne, hne', hpe, hpl, n_tk2_id, n_id_tk2, hid, n_tk2_tk, n_tk_tk2, htk])
    | ((with_reducible apply AWp.skip); try simp -implicitDefEqProofs [hne, hne', hpe, hpl, n_tk2_id, n_id_tk2, hid, n_tk2_tk, n_tk_tk2, htk])
    | ((with_reducible apply AWp.exit); try simp -implicitDefEqProofs [hne, hne', hpe, hpl, n_tk2_id, n_id_tk2, hid, n_tk2_tk, n_tk_tk2, htk]))
  intro j_ y_ hy_
  by_cases e_id : j_ = id
  · subst e_id; simp [AS.set, h_tk2, hne, hne', n_tk2_id, n_id_tk2, hid, n_tk2_tk, n_tk_tk2, htk] at hy_ ⊢; try first | exact hy_ | (cases hy_; done)
  by_cases e_tk : j_ = tk
  · subst e_tk; simp [AS.set, h_tk2, hne, hne', n_tk2_id, n_id_tk2, hid, n_tk2_tk, n_tk_tk2, htk] at hy_ ⊢; try first | exact hy_ | (cases hy_; done)
  by_cases e_tk2 : j_ = tk2
  · subst e_tk2; simp [AS.set, h_tk2, hne, hne', n_tk2_id, n_id_tk2, hid, n_tk2_tk, n_tk_tk2, htk] at hy_ ⊢; try first | exact hy_ | (cases hy_; done)
  simp [AS.set, h_tk2, hne, hne', n_tk2_id, n_id_tk2, hid, n_tk2_tk, n_tk_tk2, htk, e_id, e_tk, e_tk2] at hy_ ⊢; try exact hy_

theorem rwidth_ok (t c m : Nat) (ht : t < 6) (hc : c < (kindsL t).length) (hm : m ≤ 3) (σ : AS) : ACalls Try.prog 45 [.sc (.int .i64 t), .sc (.int .i64 c), .sc (.int .i64 m)] σ (Gives (.sc (.int .i64 (wK ((kindsL t).getD c 0) m))) σ) No := by
  have hm4 : m = 0 ∨ m = 1 ∨ m = 2 ∨ m = 3 := by omega
  have ht6 : t = 0 ∨ t = 1 ∨ t = 2 ∨ t = 3 ∨ t = 4 ∨ t = 5 := by omega
  refine ACalls.of_body Try.func45 rfl rfl (by simp [Try.ntmps45]) ?_
  rcases ht6 with rfl | rfl | rfl | rfl | rfl | rfl
  all_goals simp [kindsL] at hc
  · have hc5 : c = 0 ∨ c = 1 ∨ c = 2 ∨ c = 3 ∨ c = 4 := by omega
    rcases hc5 with rfl | rfl | rfl | rfl | rfl
    all_goals
      rcases hm4 with rfl | rfl | rfl | rfl
      all_goals
        repeat (first
          | (with_reducible apply AWp.seq)
          | (with_reducible apply AWp.block)
          | ((with_reducible apply AWp.fork); simp -implicitDefEqProofs)
          | ((with_reducible apply AWp.region); simp -implicitDefEqProofs)
          | (with_reducible refine And.intro (by first | omega | assumption | decide) ?_)
          | ((with_reducible apply AWp.ret); try simp -implicitDefEqProofs)
          | ((with_reducible apply AWp.skip); try simp -implicitDefEqProofs)
          | ((with_reducible apply AWp.exit); try simp -implicitDefEqProofs))
        try simp [kindsL, wK]
  · have hc5 : c = 0 ∨ c = 1 ∨ c = 2 := by omega
    rcases hc5 with rfl | rfl | rfl
    all_goals
      rcases hm4 with rfl | rfl | rfl | rfl
      all_goals
        repeat (first
          | (with_reducible apply AWp.seq)
          | (with_reducible apply AWp.block)
          | ((with_reducible apply AWp.fork); simp -implicitDefEqProofs)
          | ((with_reducible apply AWp.region); simp -implicitDefEqProofs)
          | (with_reducible refine And.intro (by first | omega | assumption | decide) ?_)
          | ((with_reducible apply AWp.ret); try simp -implicitDefEqProofs)
          | ((with_reducible apply AWp.skip); try simp -implicitDefEqProofs)
          | ((with_reducible apply AWp.exit); try simp -implicitDefEqProofs))
        try simp [kindsL, wK]
  · have hc5 : c = 0 ∨ c = 1 ∨ c = 2 ∨ c = 3 ∨ c = 4 ∨ c = 5 := by omega
    rcases hc5 with rfl | rfl | rfl | rfl | rfl | rfl
    all_goals
      rcases hm4 with rfl | rfl | rfl | rfl
      all_goals
        repeat (first
          | (with_reducible apply AWp.seq)
          | (with_reducible apply AWp.block)
          | ((with_reducible apply AWp.fork); simp -implicitDefEqProofs)
          | ((with_reducible apply AWp.region); simp -implicitDefEqProofs)
          | (with_reducible refine And.intro (by first | omega | assumption | decide) ?_)
          | ((with_reducible apply AWp.ret); try simp -implicitDefEqProofs)
          | ((with_reducible apply AWp.skip); try simp -implicitDefEqProofs)
          | ((with_reducible apply AWp.exit); try simp -implicitDefEqProofs))
        try simp [kindsL, wK]
  · have hc5 : c = 0 ∨ c = 1 := by omega
    rcases hc5 with rfl | rfl
    all_goals
      rcases hm4 with rfl | rfl | rfl | rfl
      all_goals
        repeat (first
          | (with_reducible apply AWp.seq)
          | (with_reducible apply AWp.block)
          | ((with_reducible apply AWp.fork); simp -implicitDefEqProofs)
          | ((with_reducible apply AWp.region); simp -implicitDefEqProofs)
          | (with_reducible refine And.intro (by first | omega | assumption | decide) ?_)
          | ((with_reducible apply AWp.ret); try simp -implicitDefEqProofs)
          | ((with_reducible apply AWp.skip); try simp -implicitDefEqProofs)
          | ((with_reducible apply AWp.exit); try simp -implicitDefEqProofs))
        try simp [kindsL, wK]
  · obtain rfl : c = 0 := by omega
    rcases hm4 with rfl | rfl | rfl | rfl
    all_goals
      repeat (first
        | (with_reducible apply AWp.seq)
        | (with_reducible apply AWp.block)
        | ((with_reducible apply AWp.fork); simp -implicitDefEqProofs)
        | ((with_reducible apply AWp.region); simp -implicitDefEqProofs)
        | (with_reducible refine And.intro (by first | omega | assumption | decide) ?_)
        | ((with_reducible apply AWp.ret); try simp -implicitDefEqProofs)
        | ((with_reducible apply AWp.skip); try simp -implicitDefEqProofs)
        | ((with_reducible apply AWp.exit); try simp -implicitDefEqProofs))
      try simp [kindsL, wK]
  · obtain rfl : c = 0 := by omega
    rcases hm4 with rfl | rfl | rfl | rfl
    all_goals
      repeat (first
        | (with_reducible apply AWp.seq)
        | (with_reducible apply AWp.block)
        | ((with_reducible apply AWp.fork); simp -implicitDefEqProofs)
        | ((with_reducible apply AWp.region); simp -implicitDefEqProofs)
        | (with_reducible refine And.intro (by first | omega | assumption | decide) ?_)
        | ((with_reducible apply AWp.ret); try simp -implicitDefEqProofs)
        | ((with_reducible apply AWp.skip); try simp -implicitDefEqProofs)
        | ((with_reducible apply AWp.exit); try simp -implicitDefEqProofs))
      try simp [kindsL, wK]

end Go.Proofs.Ytpekbapmnmnjoaa
