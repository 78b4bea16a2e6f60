/- The contracts of package octet's functions and of the reference's (chapter 01), over abstract values. -/
import Derived.Test.YtknalmoackcpbaaGreatAwGo
import Derived.Test.YtknalmoackcpbaaGreatFacts
set_option linter.unusedSimpArgs false
set_option linter.unusedVariables false
set_option maxRecDepth 100000
namespace Go.Proofs.YtknalmoackcpbaaGreat
open Go Go.AW
theorem mixed : Tables.follows Tryz.prog.toTables .mixedOrders = true := by kernel_rfl
abbrev sc_106_3_XOct1 : Sch := (Sch.step 0 (Sch.step 1 (Sch.step 2 (Sch.step 5 (Sch.step 6 (Sch.step 7 (Sch.read 3 (Sch.read 4 (Sch.read 8 (Sch.step 9 (Sch.step 10 Sch.done)))))))))))
theorem D0_XOct1 (S : List Nat) : Plans Tryz.prog [] S := mixed
theorem clone_ok (l : List AV) (own : Own) (nil : Bool) (hn : nil = true → l = []) (hl : l.length ≤ 140737488355328) (σ : AS) :
    ACalls Tryz.prog 103 [.lst 5 l own nil] σ (Owns (fun tk => .lst 5 l (.tok tk) nil) l.length σ) No := by
  refine ACalls.of_body Tryz.func103 rfl rfl (by simp [Tryz.ntmps103]) ?_
  cases nil with
  | true =>
    obtain rfl := hn rfl
    refine AWp.seq (AWp.region ?_)
    simp
    refine AWp.seq (AWp.seq (AWp.region ?_))
    simp [Tryz.underlying30]
    refine AWp.cond rfl (fun h => ?_) (fun h => by simp at h)
    refine AWp.seq (AWp.region ?_)
    simp
    refine AWp.mint 2 5 [] true (by decide) (by simp) (fun tk htk => ?_)
    refine gO (D0_XOct1 []) True.intro True.intro (k := ?_)
    exact owns_end tk htk (by simp) (by simp)
  | false =>
    refine gO (D0_XOct1 []) (j2 @Tryz.underlying30 @hl) True.intro (k := ?_)
    intro tk htk
    refine gO (D0_XOct1 []) True.intro True.intro (k := ?_)
    exact owns_end tk htk (by simp) (by simp)
/-! ## packed numbers -/
def sizeI (n : Int) : Int := if n < 0 ∨ 536870911 < n then 0 else if n < 128 then 1 else if n < 16384 then 2 else 4
theorem size_ok (n : Int) (σ : AS) : ACalls Tryz.prog 142 [.sc (.int .i64 n)] σ (Gives (.sc (.int .i64 (sizeI n))) σ) No := by
  refine ACalls.of_body Tryz.func142 rfl rfl (by simp [Tryz.ntmps142]) ?_
  by_cases h1 : n < 0 <;> by_cases h2 : 536870911 < n <;> by_cases h3 : n < 128 <;> by_cases h4 : n < 16384
  all_goals try omega
  all_goals
    refine gO (D0_XOct1 []) (j4 @h1 @h2 @h3 @h4) True.intro (k := ?_)
    try simp [sizeI, h1, h2, h3, h4]
def rdC (b : List UInt8) (at' : Int) (nl : Bool) : ABlk := .cells 226 [.lst 5 (b.map u8) .unk nl, .sc (.int .i64 at')]
theorem left_ok (id : Nat) (b : List UInt8) (at' : Int) (nl : Bool) (σ : AS) (h : σ id = some (rdC b at' nl)) (ha : 0 ≤ at') (hb : at' ≤ b.length) (hl : b.length ≤ 140737488355328) :
    ACalls Tryz.prog 106 [.ptr id 0] σ (Gives (.sc (.int .i64 (b.length - at'))) σ) No := by
  refine ACalls.of_body Tryz.func106 rfl rfl (by simp [Tryz.ntmps106]) ?_
  have e : IntKind.i64.wrap (b.length - at') = b.length - at' := in_i64 (by omega) (by omega)
  repeat (first
    | (with_reducible first | apply AWp.seq | apply AWp.block | refine And.intro (by first | omega | assumption | decide) ?_)
    | ((first | (with_reducible first | apply AWp.fork | apply AWp.region | show condK _ _ _ | show guardK _ _ _ _ _ _ _ _ _) | ((with_reducible apply AWp.drawS (id := 3) (t := sc_106_3_XOct1)); (exact mixed); kernel_rfl; kernel_rfl; (repeat (with_reducible first | apply PanQ.then | apply PanQ.block | apply PanQ.body | apply PanQ.no)))); simp -implicitDefEqProofs [Tryz.underlying160, h, rdC, e])
    | ((with_reducible first | apply AWp.ret | apply AWp.skip | apply AWp.exit); try simp -implicitDefEqProofs [Tryz.underlying160, h, rdC, e]))
def wantsI (c : Int) : Int := if c < 128 then 1 else if c < 192 then 2 else if c < 224 then 4 else 0
theorem wants_ok (c : Int) (σ : AS) : ACalls Tryz.prog 267 [.sc (.int .u8 c)] σ (Gives (.sc (.int .i64 (wantsI c))) σ) No := by
  refine ACalls.of_body Tryz.func267 rfl rfl (by simp [Tryz.ntmps267]) ?_
  by_cases h1 : c < 128 <;> by_cases h2 : c < 192 <;> by_cases h3 : c < 224
  all_goals try omega
  all_goals
    refine gO (D0_XOct1 []) (j3 @h1 @h2 @h3) True.intro (k := ?_)
    try simp [wantsI, h1, h2, h3]
/-! ## Same -/
end Go.Proofs.YtknalmoackcpbaaGreat
