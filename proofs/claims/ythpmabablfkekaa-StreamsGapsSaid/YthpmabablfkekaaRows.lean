/-
  No cell of these rows narrows 'for every input' (looked for: loops, veiled, ifaces, maps, wideKeys, modest, calm, conditions, laid).
  DERIVED. THE GIVEN ROWS OF THIS SEAT. 6 by the template 'for every input the law returns true; each argument reads behind the call as it read before'; 0 by the template 'total and deterministic' (their statements: YthpmabablfkekaaTotals.lean).
  GIVEN WITH THE SEED: the statements are not yours to turn. If you find one false, say at which input.
  Laid BY PROGRAM, IN A SANDBOX (cutbox-rows.mjs): the forced cells as the released guide's own fill.sh prints them over the translation ee75f61d496e156f… (all of the seat's roots in one cut). By AI agents, Wed Nov 11 2026. No macro, syntax, notation, axiom, sorry.
-/
import Derived.Test.YthpmabablfkekaaChecked
import GoSem.Claim
import GoSem.ClaimJoined
import GoSem.ClaimMapViews
import Derived.JoinedTies
import Derived.KernelRfl
namespace Go.Proofs.Ythpmabablfkekaa
/- THE CELL 'sum', in the pinned program and in every row, IS THE sha256 OF THE DUMP (.gsa) THAT YthpmabablfkekaaProg.lean LOADS. Nothing in Lean hashes anything: it is a label: what it is worth is what the hold of that sum in a sandbox is worth. -/
noncomputable def Try.pinned : Pinned := { name := "ythpmabablfkekaa", sum := "ee75f61d496e156f4c09b14395ebde450e5dd703a86463ac8b5e644bf55e8a5c", checked := Try.checked }
namespace Rows
def none {H : Type} : Left H := { results := [], args := [] }

/-- 'cattlegridlaw03.StreamsSplits': WHATEVER THE INPUT: true; the input reads as it did. -/
def streamsSplitsSpec : ChangeSpec := { name := "streamsSplits", fn := fun _ => fun
  | [d] => { results := [.lit (.bool true)], args := [d] }
  | _ => none }
def streamsSplitsRow : OpenClaim := { program := "ythpmabablfkekaa", sum := "ee75f61d496e156f4c09b14395ebde450e5dd703a86463ac8b5e644bf55e8a5c", func := "cattlegrid/cattlegridlaw03.StreamsSplits", spec := "streamsSplits", unfollowed := true, recurses := true, apart := false }
def StreamsSplitsSaid : Prop := streamsSplitsRow.holds Try.pinned (OpenSpec.ofChange streamsSplitsSpec)

/-- ITS FALSE NEIGHBOUR: 'it returns false'. Refute it at one input. -/
def streamsSplitsWrong : ChangeSpec := { name := "streamsSplits", fn := fun _ => fun
  | [d] => { results := [.lit (.bool false)], args := [d] }
  | _ => none }
def StreamsSplitsWrongFalsely : Prop := streamsSplitsRow.holds Try.pinned (OpenSpec.ofChange streamsSplitsWrong)

/-- 'cattlegridlaw03.StreamsJoins': WHATEVER THE INPUT: true; the input reads as it did. -/
def streamsJoinsSpec : ChangeSpec := { name := "streamsJoins", fn := fun _ => fun
  | [d] => { results := [.lit (.bool true)], args := [d] }
  | _ => none }
def streamsJoinsRow : OpenClaim := { program := "ythpmabablfkekaa", sum := "ee75f61d496e156f4c09b14395ebde450e5dd703a86463ac8b5e644bf55e8a5c", func := "cattlegrid/cattlegridlaw03.StreamsJoins", spec := "streamsJoins", unfollowed := true, recurses := true, apart := false }
def StreamsJoinsSaid : Prop := streamsJoinsRow.holds Try.pinned (OpenSpec.ofChange streamsJoinsSpec)

/-- ITS FALSE NEIGHBOUR: 'it returns false'. Refute it at one input. -/
def streamsJoinsWrong : ChangeSpec := { name := "streamsJoins", fn := fun _ => fun
  | [d] => { results := [.lit (.bool false)], args := [d] }
  | _ => none }
def StreamsJoinsWrongFalsely : Prop := streamsJoinsRow.holds Try.pinned (OpenSpec.ofChange streamsJoinsWrong)

/-- 'cattlegridlaw03.StreamsBack': WHATEVER THE INPUT: true; the input reads as it did. -/
def streamsBackSpec : ChangeSpec := { name := "streamsBack", fn := fun _ => fun
  | [d] => { results := [.lit (.bool true)], args := [d] }
  | _ => none }
def streamsBackRow : OpenClaim := { program := "ythpmabablfkekaa", sum := "ee75f61d496e156f4c09b14395ebde450e5dd703a86463ac8b5e644bf55e8a5c", func := "cattlegrid/cattlegridlaw03.StreamsBack", spec := "streamsBack", unfollowed := true, recurses := true, apart := false }
def StreamsBackSaid : Prop := streamsBackRow.holds Try.pinned (OpenSpec.ofChange streamsBackSpec)

/-- ITS FALSE NEIGHBOUR: 'it returns false'. Refute it at one input. -/
def streamsBackWrong : ChangeSpec := { name := "streamsBack", fn := fun _ => fun
  | [d] => { results := [.lit (.bool false)], args := [d] }
  | _ => none }
def StreamsBackWrongFalsely : Prop := streamsBackRow.holds Try.pinned (OpenSpec.ofChange streamsBackWrong)

/-- 'cattlegridlaw03.StreamsPlain': WHATEVER THE INPUT: true; the input reads as it did. -/
def streamsPlainSpec : ChangeSpec := { name := "streamsPlain", fn := fun _ => fun
  | [d] => { results := [.lit (.bool true)], args := [d] }
  | _ => none }
def streamsPlainRow : OpenClaim := { program := "ythpmabablfkekaa", sum := "ee75f61d496e156f4c09b14395ebde450e5dd703a86463ac8b5e644bf55e8a5c", func := "cattlegrid/cattlegridlaw03.StreamsPlain", spec := "streamsPlain", unfollowed := true, recurses := true, apart := false }
def StreamsPlainSaid : Prop := streamsPlainRow.holds Try.pinned (OpenSpec.ofChange streamsPlainSpec)

/-- ITS FALSE NEIGHBOUR: 'it returns false'. Refute it at one input. -/
def streamsPlainWrong : ChangeSpec := { name := "streamsPlain", fn := fun _ => fun
  | [d] => { results := [.lit (.bool false)], args := [d] }
  | _ => none }
def StreamsPlainWrongFalsely : Prop := streamsPlainRow.holds Try.pinned (OpenSpec.ofChange streamsPlainWrong)

/-- 'cattlegridlaw03.StreamsCut': WHATEVER THE INPUT: true; the input reads as it did. -/
def streamsCutSpec : ChangeSpec := { name := "streamsCut", fn := fun _ => fun
  | [d1, d2] => { results := [.lit (.bool true)], args := [d1, d2] }
  | _ => none }
def streamsCutRow : OpenClaim := { program := "ythpmabablfkekaa", sum := "ee75f61d496e156f4c09b14395ebde450e5dd703a86463ac8b5e644bf55e8a5c", func := "cattlegrid/cattlegridlaw03.StreamsCut", spec := "streamsCut", unfollowed := true, recurses := true, apart := false }
def StreamsCutSaid : Prop := streamsCutRow.holds Try.pinned (OpenSpec.ofChange streamsCutSpec)

/-- ITS FALSE NEIGHBOUR: 'it returns false'. Refute it at one input. -/
def streamsCutWrong : ChangeSpec := { name := "streamsCut", fn := fun _ => fun
  | [d1, d2] => { results := [.lit (.bool false)], args := [d1, d2] }
  | _ => none }
def StreamsCutWrongFalsely : Prop := streamsCutRow.holds Try.pinned (OpenSpec.ofChange streamsCutWrong)

/-- 'cattlegridlaw03.StreamsGaps': WHATEVER THE INPUT: true; the input reads as it did. -/
def streamsGapsSpec : ChangeSpec := { name := "streamsGaps", fn := fun _ => fun
  | [d1, d2, d3] => { results := [.lit (.bool true)], args := [d1, d2, d3] }
  | _ => none }
def streamsGapsRow : OpenClaim := { program := "ythpmabablfkekaa", sum := "ee75f61d496e156f4c09b14395ebde450e5dd703a86463ac8b5e644bf55e8a5c", func := "cattlegrid/cattlegridlaw03.StreamsGaps", spec := "streamsGaps", unfollowed := true, recurses := true, apart := false }
def StreamsGapsSaid : Prop := streamsGapsRow.holds Try.pinned (OpenSpec.ofChange streamsGapsSpec)

/-- ITS FALSE NEIGHBOUR: 'it returns false'. Refute it at one input. -/
def streamsGapsWrong : ChangeSpec := { name := "streamsGaps", fn := fun _ => fun
  | [d1, d2, d3] => { results := [.lit (.bool false)], args := [d1, d2, d3] }
  | _ => none }
def StreamsGapsWrongFalsely : Prop := streamsGapsRow.holds Try.pinned (OpenSpec.ofChange streamsGapsWrong)

/- THE SECOND FORM. 'bulk': how many values and letters a reading holds, each counted each time it is reached (what is shared counts as often as it is met; a slice's spare places count too). A statement '..UptoSaid' is the law's where the arguments, and the package variables that the reading takes, are together of bulk at most 1048576: NARROWER than '..Said'. Prove '..Said' where nothing that the law and all that it calls make is longer than what came in: it says more and counts as full. Else prove '..UptoSaid'. A law counts once. -/
mutual
def uptoBulk {H : Type} : DataW H → Nat
  | .lit (.string bytes) => bytes.length + 1
  | .lit _ => 1
  | .nil => 1
  | .ptr d => uptoBulk d + 1
  | .slice elems spare => uptoBulkAll elems + uptoBulkAll spare + 1
  | .agg parts => uptoBulkAll parts + 1
  | .iface _ d => uptoBulk d + 1
  | .map entries => uptoBulkEntries entries + 1
  | .held _ => 1
def uptoBulkAll {H : Type} : List (DataW H) → Nat
  | [] => 0
  | d :: r => uptoBulk d + uptoBulkAll r
def uptoBulkEntries {H : Type} : List (Lit × DataW H) → Nat
  | [] => 0
  | x :: r => uptoBulkEntry x + uptoBulkEntries r
def uptoBulkEntry {H : Type} : Lit × DataW H → Nat
  | (.string bytes, d) => bytes.length + uptoBulk d + 1
  | (_, d) => uptoBulk d + 1
 end
def uptoSmall : (H : Type) → List (DataW H) → Bool := fun _ ds => decide (uptoBulkAll ds ≤ 1048576)
def OpenSpec.upto (s : _root_.Go.ChangeSpec) : _root_.Go.OpenSpec := { _root_.Go.OpenSpec.ofChange s with cond := some uptoSmall }

/-- 'cattlegridlaw03.StreamsSplits', WHERE WHAT IT READS IS OF BULK AT MOST 1048576: true; the input reads as it did. -/
def streamsSplitsUptoRow : OpenClaim := { program := "ythpmabablfkekaa", sum := "ee75f61d496e156f4c09b14395ebde450e5dd703a86463ac8b5e644bf55e8a5c", func := "cattlegrid/cattlegridlaw03.StreamsSplits", spec := "streamsSplits", unfollowed := true, recurses := true, apart := false, narrowed := true }
def StreamsSplitsUptoSaid : Prop := streamsSplitsUptoRow.holds Try.pinned (OpenSpec.upto streamsSplitsSpec)

/-- 'cattlegridlaw03.StreamsJoins', WHERE WHAT IT READS IS OF BULK AT MOST 1048576: true; the input reads as it did. -/
def streamsJoinsUptoRow : OpenClaim := { program := "ythpmabablfkekaa", sum := "ee75f61d496e156f4c09b14395ebde450e5dd703a86463ac8b5e644bf55e8a5c", func := "cattlegrid/cattlegridlaw03.StreamsJoins", spec := "streamsJoins", unfollowed := true, recurses := true, apart := false, narrowed := true }
def StreamsJoinsUptoSaid : Prop := streamsJoinsUptoRow.holds Try.pinned (OpenSpec.upto streamsJoinsSpec)

/-- 'cattlegridlaw03.StreamsBack', WHERE WHAT IT READS IS OF BULK AT MOST 1048576: true; the input reads as it did. -/
def streamsBackUptoRow : OpenClaim := { program := "ythpmabablfkekaa", sum := "ee75f61d496e156f4c09b14395ebde450e5dd703a86463ac8b5e644bf55e8a5c", func := "cattlegrid/cattlegridlaw03.StreamsBack", spec := "streamsBack", unfollowed := true, recurses := true, apart := false, narrowed := true }
def StreamsBackUptoSaid : Prop := streamsBackUptoRow.holds Try.pinned (OpenSpec.upto streamsBackSpec)

/-- 'cattlegridlaw03.StreamsPlain', WHERE WHAT IT READS IS OF BULK AT MOST 1048576: true; the input reads as it did. -/
def streamsPlainUptoRow : OpenClaim := { program := "ythpmabablfkekaa", sum := "ee75f61d496e156f4c09b14395ebde450e5dd703a86463ac8b5e644bf55e8a5c", func := "cattlegrid/cattlegridlaw03.StreamsPlain", spec := "streamsPlain", unfollowed := true, recurses := true, apart := false, narrowed := true }
def StreamsPlainUptoSaid : Prop := streamsPlainUptoRow.holds Try.pinned (OpenSpec.upto streamsPlainSpec)

/-- 'cattlegridlaw03.StreamsCut', WHERE WHAT IT READS IS OF BULK AT MOST 1048576: true; the input reads as it did. -/
def streamsCutUptoRow : OpenClaim := { program := "ythpmabablfkekaa", sum := "ee75f61d496e156f4c09b14395ebde450e5dd703a86463ac8b5e644bf55e8a5c", func := "cattlegrid/cattlegridlaw03.StreamsCut", spec := "streamsCut", unfollowed := true, recurses := true, apart := false, narrowed := true }
def StreamsCutUptoSaid : Prop := streamsCutUptoRow.holds Try.pinned (OpenSpec.upto streamsCutSpec)

/-- 'cattlegridlaw03.StreamsGaps', WHERE WHAT IT READS IS OF BULK AT MOST 1048576: true; the input reads as it did. -/
def streamsGapsUptoRow : OpenClaim := { program := "ythpmabablfkekaa", sum := "ee75f61d496e156f4c09b14395ebde450e5dd703a86463ac8b5e644bf55e8a5c", func := "cattlegrid/cattlegridlaw03.StreamsGaps", spec := "streamsGaps", unfollowed := true, recurses := true, apart := false, narrowed := true }
def StreamsGapsUptoSaid : Prop := streamsGapsUptoRow.holds Try.pinned (OpenSpec.upto streamsGapsSpec)

end Rows
end Go.Proofs.Ythpmabablfkekaa
