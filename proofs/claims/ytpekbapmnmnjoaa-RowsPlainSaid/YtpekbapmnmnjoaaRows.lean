/-
  No cell of these rows narrows 'for every input' (looked for: loops, veiled, ifaces, maps, wideKeys, modest, calm, conditions, laid).
  DERIVED. THE GIVEN ROWS OF THIS SEAT. 11 by the template 'for every input the law returns true; each argument reads behind the call as it read before'; 0 by the template 'total and deterministic' (their statements: YtpekbapmnmnjoaaTotals.lean).
  GIVEN WITH THE SEED: the statements are not yours to turn. If you find one false, say at which input.
  Laid BY PROGRAM, IN A SANDBOX (cutbox-rows.mjs): the forced cells as the released guide's own fill.sh prints them over the translation d3820f5292feb382… (all of the seat's roots in one cut). By AI agents, Wed Nov 11 2026. No macro, syntax, notation, axiom, sorry.
-/
import Derived.Test.YtpekbapmnmnjoaaChecked
import GoSem.Claim
import GoSem.ClaimJoined
import GoSem.ClaimMapViews
import Derived.JoinedTies
import Derived.KernelRfl
namespace Go.Proofs.Ytpekbapmnmnjoaa
/- THE CELL 'sum', in the pinned program and in every row, IS THE sha256 OF THE DUMP (.gsa) THAT YtpekbapmnmnjoaaProg.lean LOADS. Nothing in Lean hashes anything: it is a label: what it is worth is what the hold of that sum in a sandbox is worth. -/
noncomputable def Try.pinned : Pinned := { name := "ytpekbapmnmnjoaa", sum := "d3820f5292feb3820b1053e515a8f76faad76cd1593bc05f3cb0f6db1517730a", checked := Try.checked }
namespace Rows
def none {H : Type} : Left H := { results := [], args := [] }

/-- 'cattlegridlaw04.RowsWrites': WHATEVER THE INPUT: true; the input reads as it did. -/
def rowsWritesSpec : ChangeSpec := { name := "rowsWrites", fn := fun _ => fun
  | [d] => { results := [.lit (.bool true)], args := [d] }
  | _ => none }
def rowsWritesRow : OpenClaim := { program := "ytpekbapmnmnjoaa", sum := "d3820f5292feb3820b1053e515a8f76faad76cd1593bc05f3cb0f6db1517730a", func := "cattlegrid/cattlegridlaw04.RowsWrites", spec := "rowsWrites", unfollowed := true, recurses := true, apart := false }
def RowsWritesSaid : Prop := rowsWritesRow.holds Try.pinned (OpenSpec.ofChange rowsWritesSpec)

/-- ITS FALSE NEIGHBOUR: 'it returns false'. Refute it at one input. -/
def rowsWritesWrong : ChangeSpec := { name := "rowsWrites", fn := fun _ => fun
  | [d] => { results := [.lit (.bool false)], args := [d] }
  | _ => none }
def RowsWritesWrongFalsely : Prop := rowsWritesRow.holds Try.pinned (OpenSpec.ofChange rowsWritesWrong)

/-- 'cattlegridlaw04.RowsCodes': WHATEVER THE INPUT: true; the input reads as it did. -/
def rowsCodesSpec : ChangeSpec := { name := "rowsCodes", fn := fun _ => fun
  | [d1, d2, d3] => { results := [.lit (.bool true)], args := [d1, d2, d3] }
  | _ => none }
def rowsCodesRow : OpenClaim := { program := "ytpekbapmnmnjoaa", sum := "d3820f5292feb3820b1053e515a8f76faad76cd1593bc05f3cb0f6db1517730a", func := "cattlegrid/cattlegridlaw04.RowsCodes", spec := "rowsCodes", unfollowed := true, recurses := true, apart := false }
def RowsCodesSaid : Prop := rowsCodesRow.holds Try.pinned (OpenSpec.ofChange rowsCodesSpec)

/-- ITS FALSE NEIGHBOUR: 'it returns false'. Refute it at one input. -/
def rowsCodesWrong : ChangeSpec := { name := "rowsCodes", fn := fun _ => fun
  | [d1, d2, d3] => { results := [.lit (.bool false)], args := [d1, d2, d3] }
  | _ => none }
def RowsCodesWrongFalsely : Prop := rowsCodesRow.holds Try.pinned (OpenSpec.ofChange rowsCodesWrong)

/-- 'cattlegridlaw03.StreamsSplits': WHATEVER THE INPUT: true; the input reads as it did. -/
def streamsSplitsSpec : ChangeSpec := { name := "streamsSplits", fn := fun _ => fun
  | [d] => { results := [.lit (.bool true)], args := [d] }
  | _ => none }
def streamsSplitsRow : OpenClaim := { program := "ytpekbapmnmnjoaa", sum := "d3820f5292feb3820b1053e515a8f76faad76cd1593bc05f3cb0f6db1517730a", func := "cattlegrid/cattlegridlaw03.StreamsSplits", spec := "streamsSplits", unfollowed := true, recurses := true, apart := false }
def StreamsSplitsSaid : Prop := streamsSplitsRow.holds Try.pinned (OpenSpec.ofChange streamsSplitsSpec)

/-- ITS FALSE NEIGHBOUR: 'it returns false'. Refute it at one input. -/
def streamsSplitsWrong : ChangeSpec := { name := "streamsSplits", fn := fun _ => fun
  | [d] => { results := [.lit (.bool false)], args := [d] }
  | _ => none }
def StreamsSplitsWrongFalsely : Prop := streamsSplitsRow.holds Try.pinned (OpenSpec.ofChange streamsSplitsWrong)

/-- 'cattlegridlaw03.StreamsJoins': WHATEVER THE INPUT: true; the input reads as it did. -/
def streamsJoinsSpec : ChangeSpec := { name := "streamsJoins", fn := fun _ => fun
  | [d] => { results := [.lit (.bool true)], args := [d] }
  | _ => none }
def streamsJoinsRow : OpenClaim := { program := "ytpekbapmnmnjoaa", sum := "d3820f5292feb3820b1053e515a8f76faad76cd1593bc05f3cb0f6db1517730a", func := "cattlegrid/cattlegridlaw03.StreamsJoins", spec := "streamsJoins", unfollowed := true, recurses := true, apart := false }
def StreamsJoinsSaid : Prop := streamsJoinsRow.holds Try.pinned (OpenSpec.ofChange streamsJoinsSpec)

/-- ITS FALSE NEIGHBOUR: 'it returns false'. Refute it at one input. -/
def streamsJoinsWrong : ChangeSpec := { name := "streamsJoins", fn := fun _ => fun
  | [d] => { results := [.lit (.bool false)], args := [d] }
  | _ => none }
def StreamsJoinsWrongFalsely : Prop := streamsJoinsRow.holds Try.pinned (OpenSpec.ofChange streamsJoinsWrong)

/-- 'cattlegridlaw03.StreamsBack': WHATEVER THE INPUT: true; the input reads as it did. -/
def streamsBackSpec : ChangeSpec := { name := "streamsBack", fn := fun _ => fun
  | [d] => { results := [.lit (.bool true)], args := [d] }
  | _ => none }
def streamsBackRow : OpenClaim := { program := "ytpekbapmnmnjoaa", sum := "d3820f5292feb3820b1053e515a8f76faad76cd1593bc05f3cb0f6db1517730a", func := "cattlegrid/cattlegridlaw03.StreamsBack", spec := "streamsBack", unfollowed := true, recurses := true, apart := false }
def StreamsBackSaid : Prop := streamsBackRow.holds Try.pinned (OpenSpec.ofChange streamsBackSpec)

/-- ITS FALSE NEIGHBOUR: 'it returns false'. Refute it at one input. -/
def streamsBackWrong : ChangeSpec := { name := "streamsBack", fn := fun _ => fun
  | [d] => { results := [.lit (.bool false)], args := [d] }
  | _ => none }
def StreamsBackWrongFalsely : Prop := streamsBackRow.holds Try.pinned (OpenSpec.ofChange streamsBackWrong)

/-- 'cattlegridlaw03.StreamsPlain': WHATEVER THE INPUT: true; the input reads as it did. -/
def streamsPlainSpec : ChangeSpec := { name := "streamsPlain", fn := fun _ => fun
  | [d] => { results := [.lit (.bool true)], args := [d] }
  | _ => none }
def streamsPlainRow : OpenClaim := { program := "ytpekbapmnmnjoaa", sum := "d3820f5292feb3820b1053e515a8f76faad76cd1593bc05f3cb0f6db1517730a", func := "cattlegrid/cattlegridlaw03.StreamsPlain", spec := "streamsPlain", unfollowed := true, recurses := true, apart := false }
def StreamsPlainSaid : Prop := streamsPlainRow.holds Try.pinned (OpenSpec.ofChange streamsPlainSpec)

/-- ITS FALSE NEIGHBOUR: 'it returns false'. Refute it at one input. -/
def streamsPlainWrong : ChangeSpec := { name := "streamsPlain", fn := fun _ => fun
  | [d] => { results := [.lit (.bool false)], args := [d] }
  | _ => none }
def StreamsPlainWrongFalsely : Prop := streamsPlainRow.holds Try.pinned (OpenSpec.ofChange streamsPlainWrong)

/-- 'cattlegridlaw03.StreamsCut': WHATEVER THE INPUT: true; the input reads as it did. -/
def streamsCutSpec : ChangeSpec := { name := "streamsCut", fn := fun _ => fun
  | [d1, d2] => { results := [.lit (.bool true)], args := [d1, d2] }
  | _ => none }
def streamsCutRow : OpenClaim := { program := "ytpekbapmnmnjoaa", sum := "d3820f5292feb3820b1053e515a8f76faad76cd1593bc05f3cb0f6db1517730a", func := "cattlegrid/cattlegridlaw03.StreamsCut", spec := "streamsCut", unfollowed := true, recurses := true, apart := false }
def StreamsCutSaid : Prop := streamsCutRow.holds Try.pinned (OpenSpec.ofChange streamsCutSpec)

/-- ITS FALSE NEIGHBOUR: 'it returns false'. Refute it at one input. -/
def streamsCutWrong : ChangeSpec := { name := "streamsCut", fn := fun _ => fun
  | [d1, d2] => { results := [.lit (.bool false)], args := [d1, d2] }
  | _ => none }
def StreamsCutWrongFalsely : Prop := streamsCutRow.holds Try.pinned (OpenSpec.ofChange streamsCutWrong)

/-- 'cattlegridlaw03.StreamsGaps': WHATEVER THE INPUT: true; the input reads as it did. -/
def streamsGapsSpec : ChangeSpec := { name := "streamsGaps", fn := fun _ => fun
  | [d1, d2, d3] => { results := [.lit (.bool true)], args := [d1, d2, d3] }
  | _ => none }
def streamsGapsRow : OpenClaim := { program := "ytpekbapmnmnjoaa", sum := "d3820f5292feb3820b1053e515a8f76faad76cd1593bc05f3cb0f6db1517730a", func := "cattlegrid/cattlegridlaw03.StreamsGaps", spec := "streamsGaps", unfollowed := true, recurses := true, apart := false }
def StreamsGapsSaid : Prop := streamsGapsRow.holds Try.pinned (OpenSpec.ofChange streamsGapsSpec)

/-- ITS FALSE NEIGHBOUR: 'it returns false'. Refute it at one input. -/
def streamsGapsWrong : ChangeSpec := { name := "streamsGaps", fn := fun _ => fun
  | [d1, d2, d3] => { results := [.lit (.bool false)], args := [d1, d2, d3] }
  | _ => none }
def StreamsGapsWrongFalsely : Prop := streamsGapsRow.holds Try.pinned (OpenSpec.ofChange streamsGapsWrong)

/-- 'cattlegridlaw04.RowsReads': WHATEVER THE INPUT: true; the input reads as it did. -/
def rowsReadsSpec : ChangeSpec := { name := "rowsReads", fn := fun _ => fun
  | [d] => { results := [.lit (.bool true)], args := [d] }
  | _ => none }
def rowsReadsRow : OpenClaim := { program := "ytpekbapmnmnjoaa", sum := "d3820f5292feb3820b1053e515a8f76faad76cd1593bc05f3cb0f6db1517730a", func := "cattlegrid/cattlegridlaw04.RowsReads", spec := "rowsReads", unfollowed := true, recurses := true, apart := false }
def RowsReadsSaid : Prop := rowsReadsRow.holds Try.pinned (OpenSpec.ofChange rowsReadsSpec)

/-- ITS FALSE NEIGHBOUR: 'it returns false'. Refute it at one input. -/
def rowsReadsWrong : ChangeSpec := { name := "rowsReads", fn := fun _ => fun
  | [d] => { results := [.lit (.bool false)], args := [d] }
  | _ => none }
def RowsReadsWrongFalsely : Prop := rowsReadsRow.holds Try.pinned (OpenSpec.ofChange rowsReadsWrong)

/-- 'cattlegridlaw04.RowsBack': WHATEVER THE INPUT: true; the input reads as it did. -/
def rowsBackSpec : ChangeSpec := { name := "rowsBack", fn := fun _ => fun
  | [d] => { results := [.lit (.bool true)], args := [d] }
  | _ => none }
def rowsBackRow : OpenClaim := { program := "ytpekbapmnmnjoaa", sum := "d3820f5292feb3820b1053e515a8f76faad76cd1593bc05f3cb0f6db1517730a", func := "cattlegrid/cattlegridlaw04.RowsBack", spec := "rowsBack", unfollowed := true, recurses := true, apart := false }
def RowsBackSaid : Prop := rowsBackRow.holds Try.pinned (OpenSpec.ofChange rowsBackSpec)

/-- ITS FALSE NEIGHBOUR: 'it returns false'. Refute it at one input. -/
def rowsBackWrong : ChangeSpec := { name := "rowsBack", fn := fun _ => fun
  | [d] => { results := [.lit (.bool false)], args := [d] }
  | _ => none }
def RowsBackWrongFalsely : Prop := rowsBackRow.holds Try.pinned (OpenSpec.ofChange rowsBackWrong)

/-- 'cattlegridlaw04.RowsPlain': WHATEVER THE INPUT: true; the input reads as it did. -/
def rowsPlainSpec : ChangeSpec := { name := "rowsPlain", fn := fun _ => fun
  | [d] => { results := [.lit (.bool true)], args := [d] }
  | _ => none }
def rowsPlainRow : OpenClaim := { program := "ytpekbapmnmnjoaa", sum := "d3820f5292feb3820b1053e515a8f76faad76cd1593bc05f3cb0f6db1517730a", func := "cattlegrid/cattlegridlaw04.RowsPlain", spec := "rowsPlain", unfollowed := true, recurses := true, apart := false }
def RowsPlainSaid : Prop := rowsPlainRow.holds Try.pinned (OpenSpec.ofChange rowsPlainSpec)

/-- ITS FALSE NEIGHBOUR: 'it returns false'. Refute it at one input. -/
def rowsPlainWrong : ChangeSpec := { name := "rowsPlain", fn := fun _ => fun
  | [d] => { results := [.lit (.bool false)], args := [d] }
  | _ => none }
def RowsPlainWrongFalsely : Prop := rowsPlainRow.holds Try.pinned (OpenSpec.ofChange rowsPlainWrong)

/- THE SECOND FORM. 'bulk': how many values and letters a reading holds, each counted each time it is reached (what is shared counts as often as it is met; a slice's spare places count too). A statement '..UptoSaid' is the law's where the arguments, and the package variables that the reading takes, are together of bulk at most 1048576: NARROWER than '..Said'. Prove '..Said' where nothing that the law and all that it calls make is longer than what came in: it says more and counts as full. Else prove '..UptoSaid'. A law counts once. -/
mutual
def uptoBulk {H : Type} : DataW H → Nat
  | .lit (.string bytes) => bytes.length + 1
  | .lit _ => 1
  | .nil => 1
  | .ptr d => uptoBulk d + 1
  | .slice elems spare => uptoBulkAll elems + uptoBulkAll spare + 1
  | .agg parts => uptoBulkAll parts + 1
  | .iface _ d => uptoBulk d + 1
  | .map entries => uptoBulkEntries entries + 1
  | .held _ => 1
def uptoBulkAll {H : Type} : List (DataW H) → Nat
  | [] => 0
  | d :: r => uptoBulk d + uptoBulkAll r
def uptoBulkEntries {H : Type} : List (Lit × DataW H) → Nat
  | [] => 0
  | x :: r => uptoBulkEntry x + uptoBulkEntries r
def uptoBulkEntry {H : Type} : Lit × DataW H → Nat
  | (.string bytes, d) => bytes.length + uptoBulk d + 1
  | (_, d) => uptoBulk d + 1
 end
def uptoSmall : (H : Type) → List (DataW H) → Bool := fun _ ds => decide (uptoBulkAll ds ≤ 1048576)
def OpenSpec.upto (s : _root_.Go.ChangeSpec) : _root_.Go.OpenSpec := { _root_.Go.OpenSpec.ofChange s with cond := some uptoSmall }

/-- 'cattlegridlaw04.RowsWrites', WHERE WHAT IT READS IS OF BULK AT MOST 1048576: true; the input reads as it did. -/
def rowsWritesUptoRow : OpenClaim := { program := "ytpekbapmnmnjoaa", sum := "d3820f5292feb3820b1053e515a8f76faad76cd1593bc05f3cb0f6db1517730a", func := "cattlegrid/cattlegridlaw04.RowsWrites", spec := "rowsWrites", unfollowed := true, recurses := true, apart := false, narrowed := true }
def RowsWritesUptoSaid : Prop := rowsWritesUptoRow.holds Try.pinned (OpenSpec.upto rowsWritesSpec)

/-- 'cattlegridlaw04.RowsCodes', WHERE WHAT IT READS IS OF BULK AT MOST 1048576: true; the input reads as it did. -/
def rowsCodesUptoRow : OpenClaim := { program := "ytpekbapmnmnjoaa", sum := "d3820f5292feb3820b1053e515a8f76faad76cd1593bc05f3cb0f6db1517730a", func := "cattlegrid/cattlegridlaw04.RowsCodes", spec := "rowsCodes", unfollowed := true, recurses := true, apart := false, narrowed := true }
def RowsCodesUptoSaid : Prop := rowsCodesUptoRow.holds Try.pinned (OpenSpec.upto rowsCodesSpec)

/-- 'cattlegridlaw03.StreamsSplits', WHERE WHAT IT READS IS OF BULK AT MOST 1048576: true; the input reads as it did. -/
def streamsSplitsUptoRow : OpenClaim := { program := "ytpekbapmnmnjoaa", sum := "d3820f5292feb3820b1053e515a8f76faad76cd1593bc05f3cb0f6db1517730a", func := "cattlegrid/cattlegridlaw03.StreamsSplits", spec := "streamsSplits", unfollowed := true, recurses := true, apart := false, narrowed := true }
def StreamsSplitsUptoSaid : Prop := streamsSplitsUptoRow.holds Try.pinned (OpenSpec.upto streamsSplitsSpec)

/-- 'cattlegridlaw03.StreamsJoins', WHERE WHAT IT READS IS OF BULK AT MOST 1048576: true; the input reads as it did. -/
def streamsJoinsUptoRow : OpenClaim := { program := "ytpekbapmnmnjoaa", sum := "d3820f5292feb3820b1053e515a8f76faad76cd1593bc05f3cb0f6db1517730a", func := "cattlegrid/cattlegridlaw03.StreamsJoins", spec := "streamsJoins", unfollowed := true, recurses := true, apart := false, narrowed := true }
def StreamsJoinsUptoSaid : Prop := streamsJoinsUptoRow.holds Try.pinned (OpenSpec.upto streamsJoinsSpec)

/-- 'cattlegridlaw03.StreamsBack', WHERE WHAT IT READS IS OF BULK AT MOST 1048576: true; the input reads as it did. -/
def streamsBackUptoRow : OpenClaim := { program := "ytpekbapmnmnjoaa", sum := "d3820f5292feb3820b1053e515a8f76faad76cd1593bc05f3cb0f6db1517730a", func := "cattlegrid/cattlegridlaw03.StreamsBack", spec := "streamsBack", unfollowed := true, recurses := true, apart := false, narrowed := true }
def StreamsBackUptoSaid : Prop := streamsBackUptoRow.holds Try.pinned (OpenSpec.upto streamsBackSpec)

/-- 'cattlegridlaw03.StreamsPlain', WHERE WHAT IT READS IS OF BULK AT MOST 1048576: true; the input reads as it did. -/
def streamsPlainUptoRow : OpenClaim := { program := "ytpekbapmnmnjoaa", sum := "d3820f5292feb3820b1053e515a8f76faad76cd1593bc05f3cb0f6db1517730a", func := "cattlegrid/cattlegridlaw03.StreamsPlain", spec := "streamsPlain", unfollowed := true, recurses := true, apart := false, narrowed := true }
def StreamsPlainUptoSaid : Prop := streamsPlainUptoRow.holds Try.pinned (OpenSpec.upto streamsPlainSpec)

/-- 'cattlegridlaw03.StreamsCut', WHERE WHAT IT READS IS OF BULK AT MOST 1048576: true; the input reads as it did. -/
def streamsCutUptoRow : OpenClaim := { program := "ytpekbapmnmnjoaa", sum := "d3820f5292feb3820b1053e515a8f76faad76cd1593bc05f3cb0f6db1517730a", func := "cattlegrid/cattlegridlaw03.StreamsCut", spec := "streamsCut", unfollowed := true, recurses := true, apart := false, narrowed := true }
def StreamsCutUptoSaid : Prop := streamsCutUptoRow.holds Try.pinned (OpenSpec.upto streamsCutSpec)

/-- 'cattlegridlaw03.StreamsGaps', WHERE WHAT IT READS IS OF BULK AT MOST 1048576: true; the input reads as it did. -/
def streamsGapsUptoRow : OpenClaim := { program := "ytpekbapmnmnjoaa", sum := "d3820f5292feb3820b1053e515a8f76faad76cd1593bc05f3cb0f6db1517730a", func := "cattlegrid/cattlegridlaw03.StreamsGaps", spec := "streamsGaps", unfollowed := true, recurses := true, apart := false, narrowed := true }
def StreamsGapsUptoSaid : Prop := streamsGapsUptoRow.holds Try.pinned (OpenSpec.upto streamsGapsSpec)

/-- 'cattlegridlaw04.RowsReads', WHERE WHAT IT READS IS OF BULK AT MOST 1048576: true; the input reads as it did. -/
def rowsReadsUptoRow : OpenClaim := { program := "ytpekbapmnmnjoaa", sum := "d3820f5292feb3820b1053e515a8f76faad76cd1593bc05f3cb0f6db1517730a", func := "cattlegrid/cattlegridlaw04.RowsReads", spec := "rowsReads", unfollowed := true, recurses := true, apart := false, narrowed := true }
def RowsReadsUptoSaid : Prop := rowsReadsUptoRow.holds Try.pinned (OpenSpec.upto rowsReadsSpec)

/-- 'cattlegridlaw04.RowsBack', WHERE WHAT IT READS IS OF BULK AT MOST 1048576: true; the input reads as it did. -/
def rowsBackUptoRow : OpenClaim := { program := "ytpekbapmnmnjoaa", sum := "d3820f5292feb3820b1053e515a8f76faad76cd1593bc05f3cb0f6db1517730a", func := "cattlegrid/cattlegridlaw04.RowsBack", spec := "rowsBack", unfollowed := true, recurses := true, apart := false, narrowed := true }
def RowsBackUptoSaid : Prop := rowsBackUptoRow.holds Try.pinned (OpenSpec.upto rowsBackSpec)

/-- 'cattlegridlaw04.RowsPlain', WHERE WHAT IT READS IS OF BULK AT MOST 1048576: true; the input reads as it did. -/
def rowsPlainUptoRow : OpenClaim := { program := "ytpekbapmnmnjoaa", sum := "d3820f5292feb3820b1053e515a8f76faad76cd1593bc05f3cb0f6db1517730a", func := "cattlegrid/cattlegridlaw04.RowsPlain", spec := "rowsPlain", unfollowed := true, recurses := true, apart := false, narrowed := true }
def RowsPlainUptoSaid : Prop := rowsPlainUptoRow.holds Try.pinned (OpenSpec.upto rowsPlainSpec)

end Rows
end Go.Proofs.Ytpekbapmnmnjoaa
