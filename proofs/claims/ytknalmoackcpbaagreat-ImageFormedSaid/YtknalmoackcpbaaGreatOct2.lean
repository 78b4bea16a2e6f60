/- Package octet's Pack, and its reader's readings. -/
import Derived.Test.YtknalmoackcpbaaGreatAwGo
import Derived.Test.YtknalmoackcpbaaGreatOct1
set_option linter.unusedSimpArgs false
set_option linter.unusedVariables false
set_option maxRecDepth 100000
namespace Go.Proofs.YtknalmoackcpbaaGreat
open Go Go.AW
theorem D0_XOct2 (S : List Nat) : Plans Tryz.prog [] S := mixed
def skipE (b : List UInt8) (at' n : Int) : Int := if n < 0 then 3 else if b.length - at' < n then 1 else 0
theorem skip_ok (id : Nat) (b : List UInt8) (at' n : Int) (nl : Bool) (σ : AS) (h : σ id = some (rdC b at' nl)) (ha : 0 ≤ at') (hb : at' ≤ b.length) (hl : b.length ≤ 140737488355328) (h1 : 0 ≤ n) (h2 : n ≤ b.length - at') :
    ACalls Tryz.prog 98 [.ptr id 0, .sc (.int .i64 n)] σ (Gives (.sc (.int .i64 0)) (σ.set id (rdC b (at' + n) nl))) No := by
  refine ACalls.of_body Tryz.func98 rfl rfl (by simp [Tryz.ntmps98]) ?_
  have h1' : ¬ n < 0 := by omega
  have h2' : ¬ b.length - at' < n := by omega
  have e : IntKind.i64.wrap (at' + n) = at' + n := in_i64 (by omega) (by omega)
  refine gO (D0_XOct2 []) (j3 @Tryz.underlying160 @h1' @h2') True.intro (k := ?_)
  refine aCall.gives (left_ok id b at' nl _ h ha hb hl) ?_
  simp
  repeat (first
    | (with_reducible first | apply AWp.seq | apply AWp.block | refine And.intro (by first | omega | assumption | decide) ?_)
    | ((first | (with_reducible first | apply AWp.fork | apply AWp.region | show condK _ _ _ | show guardK _ _ _ _ _ _ _ _ _)); simp -implicitDefEqProofs [Tryz.underlying160, h1', h2', h, rdC, e])
    | ((with_reducible first | apply AWp.ret | apply AWp.skip | apply AWp.exit); try simp -implicitDefEqProofs [Tryz.underlying160, h1', h2', h, rdC, e]))
def seg (b : List UInt8) (at' n : Int) : List UInt8 := (b.take (at' + n).toNat).drop at'.toNat
/-! ## numbers, the lowest byte first -/
theorem seg_length (b : List UInt8) (at' n : Int) (ha : 0 ≤ at') (hn : 0 ≤ n) (h : n ≤ b.length - at') : ((seg b at' n).length : Int) = n := by
  simp [seg]; omega
theorem pow256 (i : Nat) : (256 : Int) ^ i = 2 ^ (8 * i) := by
  rw [Int.pow_mul]; rfl
/-! ## Num -/
end Go.Proofs.YtknalmoackcpbaaGreat
