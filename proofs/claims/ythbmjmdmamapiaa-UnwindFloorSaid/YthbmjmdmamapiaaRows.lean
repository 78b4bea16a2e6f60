/-
  No cell of these rows narrows 'for every input' (looked for: loops, veiled, ifaces, maps, wideKeys, modest, calm, conditions, laid).
  DERIVED. THE GIVEN ROWS OF THIS SEAT. 9 by the template 'for every input the law returns true; each argument reads behind the call as it read before'; 0 by the template 'total and deterministic' (their statements: YthbmjmdmamapiaaTotals.lean).
  GIVEN WITH THE SEED: the statements are not yours to turn. If you find one false, say at which input.
  Laid BY PROGRAM, IN A SANDBOX (cutbox-rows.mjs): the forced cells as the released guide's own fill.sh prints them over the translation f73b63abc859f929… (all of the seat's roots in one cut). By AI agents, Wed Nov 11 2026. No macro, syntax, notation, axiom, sorry.
-/
import Derived.Test.YthbmjmdmamapiaaChecked
import GoSem.Claim
import GoSem.ClaimJoined
import GoSem.ClaimMapViews
import Derived.JoinedTies
import Derived.KernelRfl
namespace Go.Proofs.Ythbmjmdmamapiaa
/- THE CELL 'sum', in the pinned program and in every row, IS THE sha256 OF THE DUMP (.gsa) THAT YthbmjmdmamapiaaProg.lean LOADS. Nothing in Lean hashes anything: it is a label: what it is worth is what the hold of that sum in a sandbox is worth. -/
noncomputable def Try.pinned : Pinned := { name := "ythbmjmdmamapiaa", sum := "f73b63abc859f929101b89c6d0948a3b0bd178f4f6ef683e59a8ed403ec0c9db", checked := Try.checked }
namespace Rows
def none {H : Type} : Left H := { results := [], args := [] }

/-- 'cattlegridlaw09.RegionsCheck': WHATEVER THE INPUT: true; the input reads as it did. -/
def regionsCheckSpec : ChangeSpec := { name := "regionsCheck", fn := fun _ => fun
  | [d1, d2] => { results := [.lit (.bool true)], args := [d1, d2] }
  | _ => none }
def regionsCheckRow : OpenClaim := { program := "ythbmjmdmamapiaa", sum := "f73b63abc859f929101b89c6d0948a3b0bd178f4f6ef683e59a8ed403ec0c9db", func := "cattlegrid/cattlegridlaw09.RegionsCheck", spec := "regionsCheck", unfollowed := true, recurses := true, apart := false }
def RegionsCheckSaid : Prop := regionsCheckRow.holds Try.pinned (OpenSpec.ofChange regionsCheckSpec)

/-- ITS FALSE NEIGHBOUR: 'it returns false'. Refute it at one input. -/
def regionsCheckWrong : ChangeSpec := { name := "regionsCheck", fn := fun _ => fun
  | [d1, d2] => { results := [.lit (.bool false)], args := [d1, d2] }
  | _ => none }
def RegionsCheckWrongFalsely : Prop := regionsCheckRow.holds Try.pinned (OpenSpec.ofChange regionsCheckWrong)

/-- 'cattlegridlaw09.RegionsLess': WHATEVER THE INPUT: true; the input reads as it did. -/
def regionsLessSpec : ChangeSpec := { name := "regionsLess", fn := fun _ => fun
  | [d1, d2, d3] => { results := [.lit (.bool true)], args := [d1, d2, d3] }
  | _ => none }
def regionsLessRow : OpenClaim := { program := "ythbmjmdmamapiaa", sum := "f73b63abc859f929101b89c6d0948a3b0bd178f4f6ef683e59a8ed403ec0c9db", func := "cattlegrid/cattlegridlaw09.RegionsLess", spec := "regionsLess", unfollowed := true, recurses := true, apart := false }
def RegionsLessSaid : Prop := regionsLessRow.holds Try.pinned (OpenSpec.ofChange regionsLessSpec)

/-- ITS FALSE NEIGHBOUR: 'it returns false'. Refute it at one input. -/
def regionsLessWrong : ChangeSpec := { name := "regionsLess", fn := fun _ => fun
  | [d1, d2, d3] => { results := [.lit (.bool false)], args := [d1, d2, d3] }
  | _ => none }
def RegionsLessWrongFalsely : Prop := regionsLessRow.holds Try.pinned (OpenSpec.ofChange regionsLessWrong)

/-- 'cattlegridlaw09.RegionsChain': WHATEVER THE INPUT: true; the input reads as it did. -/
def regionsChainSpec : ChangeSpec := { name := "regionsChain", fn := fun _ => fun
  | [d1, d2] => { results := [.lit (.bool true)], args := [d1, d2] }
  | _ => none }
def regionsChainRow : OpenClaim := { program := "ythbmjmdmamapiaa", sum := "f73b63abc859f929101b89c6d0948a3b0bd178f4f6ef683e59a8ed403ec0c9db", func := "cattlegrid/cattlegridlaw09.RegionsChain", spec := "regionsChain", unfollowed := true, recurses := true, apart := false }
def RegionsChainSaid : Prop := regionsChainRow.holds Try.pinned (OpenSpec.ofChange regionsChainSpec)

/-- ITS FALSE NEIGHBOUR: 'it returns false'. Refute it at one input. -/
def regionsChainWrong : ChangeSpec := { name := "regionsChain", fn := fun _ => fun
  | [d1, d2] => { results := [.lit (.bool false)], args := [d1, d2] }
  | _ => none }
def RegionsChainWrongFalsely : Prop := regionsChainRow.holds Try.pinned (OpenSpec.ofChange regionsChainWrong)

/-- 'cattlegridlaw09.RegionsStay': WHATEVER THE INPUT: true; the input reads as it did. -/
def regionsStaySpec : ChangeSpec := { name := "regionsStay", fn := fun _ => fun
  | [d1, d2] => { results := [.lit (.bool true)], args := [d1, d2] }
  | _ => none }
def regionsStayRow : OpenClaim := { program := "ythbmjmdmamapiaa", sum := "f73b63abc859f929101b89c6d0948a3b0bd178f4f6ef683e59a8ed403ec0c9db", func := "cattlegrid/cattlegridlaw09.RegionsStay", spec := "regionsStay", unfollowed := true, recurses := true, apart := false }
def RegionsStaySaid : Prop := regionsStayRow.holds Try.pinned (OpenSpec.ofChange regionsStaySpec)

/-- ITS FALSE NEIGHBOUR: 'it returns false'. Refute it at one input. -/
def regionsStayWrong : ChangeSpec := { name := "regionsStay", fn := fun _ => fun
  | [d1, d2] => { results := [.lit (.bool false)], args := [d1, d2] }
  | _ => none }
def RegionsStayWrongFalsely : Prop := regionsStayRow.holds Try.pinned (OpenSpec.ofChange regionsStayWrong)

/-- 'cattlegridlaw09.RegionsWays': WHATEVER THE INPUT: true; the input reads as it did. -/
def regionsWaysSpec : ChangeSpec := { name := "regionsWays", fn := fun _ => fun
  | [d1, d2] => { results := [.lit (.bool true)], args := [d1, d2] }
  | _ => none }
def regionsWaysRow : OpenClaim := { program := "ythbmjmdmamapiaa", sum := "f73b63abc859f929101b89c6d0948a3b0bd178f4f6ef683e59a8ed403ec0c9db", func := "cattlegrid/cattlegridlaw09.RegionsWays", spec := "regionsWays", unfollowed := true, recurses := true, apart := false }
def RegionsWaysSaid : Prop := regionsWaysRow.holds Try.pinned (OpenSpec.ofChange regionsWaysSpec)

/-- ITS FALSE NEIGHBOUR: 'it returns false'. Refute it at one input. -/
def regionsWaysWrong : ChangeSpec := { name := "regionsWays", fn := fun _ => fun
  | [d1, d2] => { results := [.lit (.bool false)], args := [d1, d2] }
  | _ => none }
def RegionsWaysWrongFalsely : Prop := regionsWaysRow.holds Try.pinned (OpenSpec.ofChange regionsWaysWrong)

/-- 'cattlegridlaw22.UnwindInner': WHATEVER THE INPUT: true; the input reads as it did. -/
def unwindInnerSpec : ChangeSpec := { name := "unwindInner", fn := fun _ => fun
  | [d1, d2] => { results := [.lit (.bool true)], args := [d1, d2] }
  | _ => none }
def unwindInnerRow : OpenClaim := { program := "ythbmjmdmamapiaa", sum := "f73b63abc859f929101b89c6d0948a3b0bd178f4f6ef683e59a8ed403ec0c9db", func := "cattlegrid/cattlegridlaw22.UnwindInner", spec := "unwindInner", unfollowed := true, recurses := true, apart := false }
def UnwindInnerSaid : Prop := unwindInnerRow.holds Try.pinned (OpenSpec.ofChange unwindInnerSpec)

/-- ITS FALSE NEIGHBOUR: 'it returns false'. Refute it at one input. -/
def unwindInnerWrong : ChangeSpec := { name := "unwindInner", fn := fun _ => fun
  | [d1, d2] => { results := [.lit (.bool false)], args := [d1, d2] }
  | _ => none }
def UnwindInnerWrongFalsely : Prop := unwindInnerRow.holds Try.pinned (OpenSpec.ofChange unwindInnerWrong)

/-- 'cattlegridlaw22.UnwindFloor': WHATEVER THE INPUT: true; the input reads as it did. -/
def unwindFloorSpec : ChangeSpec := { name := "unwindFloor", fn := fun _ => fun
  | [d1, d2] => { results := [.lit (.bool true)], args := [d1, d2] }
  | _ => none }
def unwindFloorRow : OpenClaim := { program := "ythbmjmdmamapiaa", sum := "f73b63abc859f929101b89c6d0948a3b0bd178f4f6ef683e59a8ed403ec0c9db", func := "cattlegrid/cattlegridlaw22.UnwindFloor", spec := "unwindFloor", unfollowed := true, recurses := true, apart := false }
def UnwindFloorSaid : Prop := unwindFloorRow.holds Try.pinned (OpenSpec.ofChange unwindFloorSpec)

/-- ITS FALSE NEIGHBOUR: 'it returns false'. Refute it at one input. -/
def unwindFloorWrong : ChangeSpec := { name := "unwindFloor", fn := fun _ => fun
  | [d1, d2] => { results := [.lit (.bool false)], args := [d1, d2] }
  | _ => none }
def UnwindFloorWrongFalsely : Prop := unwindFloorRow.holds Try.pinned (OpenSpec.ofChange unwindFloorWrong)

/-- 'cattlegridlaw22.UnwindEach': WHATEVER THE INPUT: true; the input reads as it did. -/
def unwindEachSpec : ChangeSpec := { name := "unwindEach", fn := fun _ => fun
  | [d1, d2] => { results := [.lit (.bool true)], args := [d1, d2] }
  | _ => none }
def unwindEachRow : OpenClaim := { program := "ythbmjmdmamapiaa", sum := "f73b63abc859f929101b89c6d0948a3b0bd178f4f6ef683e59a8ed403ec0c9db", func := "cattlegrid/cattlegridlaw22.UnwindEach", spec := "unwindEach", unfollowed := true, recurses := true, apart := false }
def UnwindEachSaid : Prop := unwindEachRow.holds Try.pinned (OpenSpec.ofChange unwindEachSpec)

/-- ITS FALSE NEIGHBOUR: 'it returns false'. Refute it at one input. -/
def unwindEachWrong : ChangeSpec := { name := "unwindEach", fn := fun _ => fun
  | [d1, d2] => { results := [.lit (.bool false)], args := [d1, d2] }
  | _ => none }
def UnwindEachWrongFalsely : Prop := unwindEachRow.holds Try.pinned (OpenSpec.ofChange unwindEachWrong)

/-- 'cattlegridlaw22.UnwindAsks': WHATEVER THE INPUT: true; the input reads as it did. -/
def unwindAsksSpec : ChangeSpec := { name := "unwindAsks", fn := fun _ => fun
  | [d1, d2] => { results := [.lit (.bool true)], args := [d1, d2] }
  | _ => none }
def unwindAsksRow : OpenClaim := { program := "ythbmjmdmamapiaa", sum := "f73b63abc859f929101b89c6d0948a3b0bd178f4f6ef683e59a8ed403ec0c9db", func := "cattlegrid/cattlegridlaw22.UnwindAsks", spec := "unwindAsks", unfollowed := true, recurses := true, apart := false }
def UnwindAsksSaid : Prop := unwindAsksRow.holds Try.pinned (OpenSpec.ofChange unwindAsksSpec)

/-- ITS FALSE NEIGHBOUR: 'it returns false'. Refute it at one input. -/
def unwindAsksWrong : ChangeSpec := { name := "unwindAsks", fn := fun _ => fun
  | [d1, d2] => { results := [.lit (.bool false)], args := [d1, d2] }
  | _ => none }
def UnwindAsksWrongFalsely : Prop := unwindAsksRow.holds Try.pinned (OpenSpec.ofChange unwindAsksWrong)

/- THE SECOND FORM. 'bulk': how many values and letters a reading holds, each counted each time it is reached (what is shared counts as often as it is met; a slice's spare places count too). A statement '..UptoSaid' is the law's where the arguments, and the package variables that the reading takes, are together of bulk at most 1048576: NARROWER than '..Said'. Prove '..Said' where nothing that the law and all that it calls make is longer than what came in: it says more and counts as full. Else prove '..UptoSaid'. A law counts once. -/
mutual
def uptoBulk {H : Type} : DataW H → Nat
  | .lit (.string bytes) => bytes.length + 1
  | .lit _ => 1
  | .nil => 1
  | .ptr d => uptoBulk d + 1
  | .slice elems spare => uptoBulkAll elems + uptoBulkAll spare + 1
  | .agg parts => uptoBulkAll parts + 1
  | .iface _ d => uptoBulk d + 1
  | .map entries => uptoBulkEntries entries + 1
  | .held _ => 1
def uptoBulkAll {H : Type} : List (DataW H) → Nat
  | [] => 0
  | d :: r => uptoBulk d + uptoBulkAll r
def uptoBulkEntries {H : Type} : List (Lit × DataW H) → Nat
  | [] => 0
  | x :: r => uptoBulkEntry x + uptoBulkEntries r
def uptoBulkEntry {H : Type} : Lit × DataW H → Nat
  | (.string bytes, d) => bytes.length + uptoBulk d + 1
  | (_, d) => uptoBulk d + 1
 end
def uptoSmall : (H : Type) → List (DataW H) → Bool := fun _ ds => decide (uptoBulkAll ds ≤ 1048576)
def OpenSpec.upto (s : _root_.Go.ChangeSpec) : _root_.Go.OpenSpec := { _root_.Go.OpenSpec.ofChange s with cond := some uptoSmall }

/-- 'cattlegridlaw09.RegionsCheck', WHERE WHAT IT READS IS OF BULK AT MOST 1048576: true; the input reads as it did. -/
def regionsCheckUptoRow : OpenClaim := { program := "ythbmjmdmamapiaa", sum := "f73b63abc859f929101b89c6d0948a3b0bd178f4f6ef683e59a8ed403ec0c9db", func := "cattlegrid/cattlegridlaw09.RegionsCheck", spec := "regionsCheck", unfollowed := true, recurses := true, apart := false, narrowed := true }
def RegionsCheckUptoSaid : Prop := regionsCheckUptoRow.holds Try.pinned (OpenSpec.upto regionsCheckSpec)

/-- 'cattlegridlaw09.RegionsLess', WHERE WHAT IT READS IS OF BULK AT MOST 1048576: true; the input reads as it did. -/
def regionsLessUptoRow : OpenClaim := { program := "ythbmjmdmamapiaa", sum := "f73b63abc859f929101b89c6d0948a3b0bd178f4f6ef683e59a8ed403ec0c9db", func := "cattlegrid/cattlegridlaw09.RegionsLess", spec := "regionsLess", unfollowed := true, recurses := true, apart := false, narrowed := true }
def RegionsLessUptoSaid : Prop := regionsLessUptoRow.holds Try.pinned (OpenSpec.upto regionsLessSpec)

/-- 'cattlegridlaw09.RegionsChain', WHERE WHAT IT READS IS OF BULK AT MOST 1048576: true; the input reads as it did. -/
def regionsChainUptoRow : OpenClaim := { program := "ythbmjmdmamapiaa", sum := "f73b63abc859f929101b89c6d0948a3b0bd178f4f6ef683e59a8ed403ec0c9db", func := "cattlegrid/cattlegridlaw09.RegionsChain", spec := "regionsChain", unfollowed := true, recurses := true, apart := false, narrowed := true }
def RegionsChainUptoSaid : Prop := regionsChainUptoRow.holds Try.pinned (OpenSpec.upto regionsChainSpec)

/-- 'cattlegridlaw09.RegionsStay', WHERE WHAT IT READS IS OF BULK AT MOST 1048576: true; the input reads as it did. -/
def regionsStayUptoRow : OpenClaim := { program := "ythbmjmdmamapiaa", sum := "f73b63abc859f929101b89c6d0948a3b0bd178f4f6ef683e59a8ed403ec0c9db", func := "cattlegrid/cattlegridlaw09.RegionsStay", spec := "regionsStay", unfollowed := true, recurses := true, apart := false, narrowed := true }
def RegionsStayUptoSaid : Prop := regionsStayUptoRow.holds Try.pinned (OpenSpec.upto regionsStaySpec)

/-- 'cattlegridlaw09.RegionsWays', WHERE WHAT IT READS IS OF BULK AT MOST 1048576: true; the input reads as it did. -/
def regionsWaysUptoRow : OpenClaim := { program := "ythbmjmdmamapiaa", sum := "f73b63abc859f929101b89c6d0948a3b0bd178f4f6ef683e59a8ed403ec0c9db", func := "cattlegrid/cattlegridlaw09.RegionsWays", spec := "regionsWays", unfollowed := true, recurses := true, apart := false, narrowed := true }
def RegionsWaysUptoSaid : Prop := regionsWaysUptoRow.holds Try.pinned (OpenSpec.upto regionsWaysSpec)

/-- 'cattlegridlaw22.UnwindInner', WHERE WHAT IT READS IS OF BULK AT MOST 1048576: true; the input reads as it did. -/
def unwindInnerUptoRow : OpenClaim := { program := "ythbmjmdmamapiaa", sum := "f73b63abc859f929101b89c6d0948a3b0bd178f4f6ef683e59a8ed403ec0c9db", func := "cattlegrid/cattlegridlaw22.UnwindInner", spec := "unwindInner", unfollowed := true, recurses := true, apart := false, narrowed := true }
def UnwindInnerUptoSaid : Prop := unwindInnerUptoRow.holds Try.pinned (OpenSpec.upto unwindInnerSpec)

/-- 'cattlegridlaw22.UnwindFloor', WHERE WHAT IT READS IS OF BULK AT MOST 1048576: true; the input reads as it did. -/
def unwindFloorUptoRow : OpenClaim := { program := "ythbmjmdmamapiaa", sum := "f73b63abc859f929101b89c6d0948a3b0bd178f4f6ef683e59a8ed403ec0c9db", func := "cattlegrid/cattlegridlaw22.UnwindFloor", spec := "unwindFloor", unfollowed := true, recurses := true, apart := false, narrowed := true }
def UnwindFloorUptoSaid : Prop := unwindFloorUptoRow.holds Try.pinned (OpenSpec.upto unwindFloorSpec)

/-- 'cattlegridlaw22.UnwindEach', WHERE WHAT IT READS IS OF BULK AT MOST 1048576: true; the input reads as it did. -/
def unwindEachUptoRow : OpenClaim := { program := "ythbmjmdmamapiaa", sum := "f73b63abc859f929101b89c6d0948a3b0bd178f4f6ef683e59a8ed403ec0c9db", func := "cattlegrid/cattlegridlaw22.UnwindEach", spec := "unwindEach", unfollowed := true, recurses := true, apart := false, narrowed := true }
def UnwindEachUptoSaid : Prop := unwindEachUptoRow.holds Try.pinned (OpenSpec.upto unwindEachSpec)

/-- 'cattlegridlaw22.UnwindAsks', WHERE WHAT IT READS IS OF BULK AT MOST 1048576: true; the input reads as it did. -/
def unwindAsksUptoRow : OpenClaim := { program := "ythbmjmdmamapiaa", sum := "f73b63abc859f929101b89c6d0948a3b0bd178f4f6ef683e59a8ed403ec0c9db", func := "cattlegrid/cattlegridlaw22.UnwindAsks", spec := "unwindAsks", unfollowed := true, recurses := true, apart := false, narrowed := true }
def UnwindAsksUptoSaid : Prop := unwindAsksUptoRow.holds Try.pinned (OpenSpec.upto unwindAsksSpec)

end Rows
end Go.Proofs.Ythbmjmdmamapiaa
