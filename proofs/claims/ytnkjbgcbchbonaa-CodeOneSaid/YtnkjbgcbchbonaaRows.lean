/-
  No cell of these rows narrows 'for every input' (looked for: loops, veiled, ifaces, maps, wideKeys, modest, calm, conditions, laid).
  DERIVED. THE GIVEN ROWS OF THIS SEAT. 9 by the template 'for every input the law returns true; each argument reads behind the call as it read before'; 0 by the template 'total and deterministic' (their statements: YtnkjbgcbchbonaaTotals.lean).
  GIVEN WITH THE SEED: the statements are not yours to turn. If you find one false, say at which input.
  Laid BY PROGRAM, IN A SANDBOX (cutbox-rows.mjs): the forced cells as the released guide's own fill.sh prints them over the translation 34c63f5bb4fb0274… (all of the seat's roots in one cut). By AI agents, Wed Nov 11 2026. No macro, syntax, notation, axiom, sorry.
-/
import Derived.Test.YtnkjbgcbchbonaaChecked
import GoSem.Claim
import GoSem.ClaimJoined
import GoSem.ClaimMapViews
import Derived.JoinedTies
import Derived.KernelRfl
namespace Go.Proofs.Ytnkjbgcbchbonaa
/- THE CELL 'sum', in the pinned program and in every row, IS THE sha256 OF THE DUMP (.gsa) THAT YtnkjbgcbchbonaaProg.lean LOADS. Nothing in Lean hashes anything: it is a label: what it is worth is what the hold of that sum in a sandbox is worth. -/
noncomputable def Try.pinned : Pinned := { name := "ytnkjbgcbchbonaa", sum := "34c63f5bb4fb0274abb9451154ef73eacb05513d336096dd764970b181073ce9", checked := Try.checked }
namespace Rows
def none {H : Type} : Left H := { results := [], args := [] }

/-- 'cattlegridlaw07.CodeEncodes': WHATEVER THE INPUT: true; the input reads as it did. -/
def codeEncodesSpec : ChangeSpec := { name := "codeEncodes", fn := fun _ => fun
  | [d] => { results := [.lit (.bool true)], args := [d] }
  | _ => none }
def codeEncodesRow : OpenClaim := { program := "ytnkjbgcbchbonaa", sum := "34c63f5bb4fb0274abb9451154ef73eacb05513d336096dd764970b181073ce9", func := "cattlegrid/cattlegridlaw07.CodeEncodes", spec := "codeEncodes", unfollowed := true, recurses := true, apart := false }
def CodeEncodesSaid : Prop := codeEncodesRow.holds Try.pinned (OpenSpec.ofChange codeEncodesSpec)

/-- ITS FALSE NEIGHBOUR: 'it returns false'. Refute it at one input. -/
def codeEncodesWrong : ChangeSpec := { name := "codeEncodes", fn := fun _ => fun
  | [d] => { results := [.lit (.bool false)], args := [d] }
  | _ => none }
def CodeEncodesWrongFalsely : Prop := codeEncodesRow.holds Try.pinned (OpenSpec.ofChange codeEncodesWrong)

/-- 'cattlegridlaw07.CodeJoins': WHATEVER THE INPUT: true; the input reads as it did. -/
def codeJoinsSpec : ChangeSpec := { name := "codeJoins", fn := fun _ => fun
  | [d1, d2] => { results := [.lit (.bool true)], args := [d1, d2] }
  | _ => none }
def codeJoinsRow : OpenClaim := { program := "ytnkjbgcbchbonaa", sum := "34c63f5bb4fb0274abb9451154ef73eacb05513d336096dd764970b181073ce9", func := "cattlegrid/cattlegridlaw07.CodeJoins", spec := "codeJoins", unfollowed := true, recurses := true, apart := false }
def CodeJoinsSaid : Prop := codeJoinsRow.holds Try.pinned (OpenSpec.ofChange codeJoinsSpec)

/-- ITS FALSE NEIGHBOUR: 'it returns false'. Refute it at one input. -/
def codeJoinsWrong : ChangeSpec := { name := "codeJoins", fn := fun _ => fun
  | [d1, d2] => { results := [.lit (.bool false)], args := [d1, d2] }
  | _ => none }
def CodeJoinsWrongFalsely : Prop := codeJoinsRow.holds Try.pinned (OpenSpec.ofChange codeJoinsWrong)

/-- 'cattlegridlaw07.CodeBack': WHATEVER THE INPUT: true; the input reads as it did. -/
def codeBackSpec : ChangeSpec := { name := "codeBack", fn := fun _ => fun
  | [d] => { results := [.lit (.bool true)], args := [d] }
  | _ => none }
def codeBackRow : OpenClaim := { program := "ytnkjbgcbchbonaa", sum := "34c63f5bb4fb0274abb9451154ef73eacb05513d336096dd764970b181073ce9", func := "cattlegrid/cattlegridlaw07.CodeBack", spec := "codeBack", unfollowed := true, recurses := true, apart := false }
def CodeBackSaid : Prop := codeBackRow.holds Try.pinned (OpenSpec.ofChange codeBackSpec)

/-- ITS FALSE NEIGHBOUR: 'it returns false'. Refute it at one input. -/
def codeBackWrong : ChangeSpec := { name := "codeBack", fn := fun _ => fun
  | [d] => { results := [.lit (.bool false)], args := [d] }
  | _ => none }
def CodeBackWrongFalsely : Prop := codeBackRow.holds Try.pinned (OpenSpec.ofChange codeBackWrong)

/-- 'cattlegridlaw07.CodeOne': WHATEVER THE INPUT: true; the input reads as it did. -/
def codeOneSpec : ChangeSpec := { name := "codeOne", fn := fun _ => fun
  | [d] => { results := [.lit (.bool true)], args := [d] }
  | _ => none }
def codeOneRow : OpenClaim := { program := "ytnkjbgcbchbonaa", sum := "34c63f5bb4fb0274abb9451154ef73eacb05513d336096dd764970b181073ce9", func := "cattlegrid/cattlegridlaw07.CodeOne", spec := "codeOne", unfollowed := true, recurses := true, apart := false }
def CodeOneSaid : Prop := codeOneRow.holds Try.pinned (OpenSpec.ofChange codeOneSpec)

/-- ITS FALSE NEIGHBOUR: 'it returns false'. Refute it at one input. -/
def codeOneWrong : ChangeSpec := { name := "codeOne", fn := fun _ => fun
  | [d] => { results := [.lit (.bool false)], args := [d] }
  | _ => none }
def CodeOneWrongFalsely : Prop := codeOneRow.holds Try.pinned (OpenSpec.ofChange codeOneWrong)

/-- 'cattlegridlaw08.BodyWrites': WHATEVER THE INPUT: true; the input reads as it did. -/
def bodyWritesSpec : ChangeSpec := { name := "bodyWrites", fn := fun _ => fun
  | [d] => { results := [.lit (.bool true)], args := [d] }
  | _ => none }
def bodyWritesRow : OpenClaim := { program := "ytnkjbgcbchbonaa", sum := "34c63f5bb4fb0274abb9451154ef73eacb05513d336096dd764970b181073ce9", func := "cattlegrid/cattlegridlaw08.BodyWrites", spec := "bodyWrites", apart := false }
def BodyWritesSaid : Prop := bodyWritesRow.holds Try.pinned (OpenSpec.ofChange bodyWritesSpec)

/-- ITS FALSE NEIGHBOUR: 'it returns false'. Refute it at one input. -/
def bodyWritesWrong : ChangeSpec := { name := "bodyWrites", fn := fun _ => fun
  | [d] => { results := [.lit (.bool false)], args := [d] }
  | _ => none }
def BodyWritesWrongFalsely : Prop := bodyWritesRow.holds Try.pinned (OpenSpec.ofChange bodyWritesWrong)

/-- 'cattlegridlaw08.BodyLength': WHATEVER THE INPUT: true; the input reads as it did. -/
def bodyLengthSpec : ChangeSpec := { name := "bodyLength", fn := fun _ => fun
  | [d] => { results := [.lit (.bool true)], args := [d] }
  | _ => none }
def bodyLengthRow : OpenClaim := { program := "ytnkjbgcbchbonaa", sum := "34c63f5bb4fb0274abb9451154ef73eacb05513d336096dd764970b181073ce9", func := "cattlegrid/cattlegridlaw08.BodyLength", spec := "bodyLength", apart := false }
def BodyLengthSaid : Prop := bodyLengthRow.holds Try.pinned (OpenSpec.ofChange bodyLengthSpec)

/-- ITS FALSE NEIGHBOUR: 'it returns false'. Refute it at one input. -/
def bodyLengthWrong : ChangeSpec := { name := "bodyLength", fn := fun _ => fun
  | [d] => { results := [.lit (.bool false)], args := [d] }
  | _ => none }
def BodyLengthWrongFalsely : Prop := bodyLengthRow.holds Try.pinned (OpenSpec.ofChange bodyLengthWrong)

/-- 'cattlegridlaw08.BodyReads': WHATEVER THE INPUT: true; the input reads as it did. -/
def bodyReadsSpec : ChangeSpec := { name := "bodyReads", fn := fun _ => fun
  | [d1, d2] => { results := [.lit (.bool true)], args := [d1, d2] }
  | _ => none }
def bodyReadsRow : OpenClaim := { program := "ytnkjbgcbchbonaa", sum := "34c63f5bb4fb0274abb9451154ef73eacb05513d336096dd764970b181073ce9", func := "cattlegrid/cattlegridlaw08.BodyReads", spec := "bodyReads", unfollowed := true, recurses := true, apart := false }
def BodyReadsSaid : Prop := bodyReadsRow.holds Try.pinned (OpenSpec.ofChange bodyReadsSpec)

/-- ITS FALSE NEIGHBOUR: 'it returns false'. Refute it at one input. -/
def bodyReadsWrong : ChangeSpec := { name := "bodyReads", fn := fun _ => fun
  | [d1, d2] => { results := [.lit (.bool false)], args := [d1, d2] }
  | _ => none }
def BodyReadsWrongFalsely : Prop := bodyReadsRow.holds Try.pinned (OpenSpec.ofChange bodyReadsWrong)

/-- 'cattlegridlaw08.BodyBack': WHATEVER THE INPUT: true; the input reads as it did. -/
def bodyBackSpec : ChangeSpec := { name := "bodyBack", fn := fun _ => fun
  | [d1, d2] => { results := [.lit (.bool true)], args := [d1, d2] }
  | _ => none }
def bodyBackRow : OpenClaim := { program := "ytnkjbgcbchbonaa", sum := "34c63f5bb4fb0274abb9451154ef73eacb05513d336096dd764970b181073ce9", func := "cattlegrid/cattlegridlaw08.BodyBack", spec := "bodyBack", unfollowed := true, recurses := true, apart := false }
def BodyBackSaid : Prop := bodyBackRow.holds Try.pinned (OpenSpec.ofChange bodyBackSpec)

/-- ITS FALSE NEIGHBOUR: 'it returns false'. Refute it at one input. -/
def bodyBackWrong : ChangeSpec := { name := "bodyBack", fn := fun _ => fun
  | [d1, d2] => { results := [.lit (.bool false)], args := [d1, d2] }
  | _ => none }
def BodyBackWrongFalsely : Prop := bodyBackRow.holds Try.pinned (OpenSpec.ofChange bodyBackWrong)

/-- 'cattlegridlaw08.BodyOne': WHATEVER THE INPUT: true; the input reads as it did. -/
def bodyOneSpec : ChangeSpec := { name := "bodyOne", fn := fun _ => fun
  | [d] => { results := [.lit (.bool true)], args := [d] }
  | _ => none }
def bodyOneRow : OpenClaim := { program := "ytnkjbgcbchbonaa", sum := "34c63f5bb4fb0274abb9451154ef73eacb05513d336096dd764970b181073ce9", func := "cattlegrid/cattlegridlaw08.BodyOne", spec := "bodyOne", unfollowed := true, recurses := true, apart := false }
def BodyOneSaid : Prop := bodyOneRow.holds Try.pinned (OpenSpec.ofChange bodyOneSpec)

/-- ITS FALSE NEIGHBOUR: 'it returns false'. Refute it at one input. -/
def bodyOneWrong : ChangeSpec := { name := "bodyOne", fn := fun _ => fun
  | [d] => { results := [.lit (.bool false)], args := [d] }
  | _ => none }
def BodyOneWrongFalsely : Prop := bodyOneRow.holds Try.pinned (OpenSpec.ofChange bodyOneWrong)

/- THE SECOND FORM. 'bulk': how many values and letters a reading holds, each counted each time it is reached (what is shared counts as often as it is met; a slice's spare places count too). A statement '..UptoSaid' is the law's where the arguments, and the package variables that the reading takes, are together of bulk at most 1048576: NARROWER than '..Said'. Prove '..Said' where nothing that the law and all that it calls make is longer than what came in: it says more and counts as full. Else prove '..UptoSaid'. A law counts once. -/
mutual
def uptoBulk {H : Type} : DataW H → Nat
  | .lit (.string bytes) => bytes.length + 1
  | .lit _ => 1
  | .nil => 1
  | .ptr d => uptoBulk d + 1
  | .slice elems spare => uptoBulkAll elems + uptoBulkAll spare + 1
  | .agg parts => uptoBulkAll parts + 1
  | .iface _ d => uptoBulk d + 1
  | .map entries => uptoBulkEntries entries + 1
  | .held _ => 1
def uptoBulkAll {H : Type} : List (DataW H) → Nat
  | [] => 0
  | d :: r => uptoBulk d + uptoBulkAll r
def uptoBulkEntries {H : Type} : List (Lit × DataW H) → Nat
  | [] => 0
  | x :: r => uptoBulkEntry x + uptoBulkEntries r
def uptoBulkEntry {H : Type} : Lit × DataW H → Nat
  | (.string bytes, d) => bytes.length + uptoBulk d + 1
  | (_, d) => uptoBulk d + 1
 end
def uptoSmall : (H : Type) → List (DataW H) → Bool := fun _ ds => decide (uptoBulkAll ds ≤ 1048576)
def OpenSpec.upto (s : _root_.Go.ChangeSpec) : _root_.Go.OpenSpec := { _root_.Go.OpenSpec.ofChange s with cond := some uptoSmall }

/-- 'cattlegridlaw07.CodeEncodes', WHERE WHAT IT READS IS OF BULK AT MOST 1048576: true; the input reads as it did. -/
def codeEncodesUptoRow : OpenClaim := { program := "ytnkjbgcbchbonaa", sum := "34c63f5bb4fb0274abb9451154ef73eacb05513d336096dd764970b181073ce9", func := "cattlegrid/cattlegridlaw07.CodeEncodes", spec := "codeEncodes", unfollowed := true, recurses := true, apart := false, narrowed := true }
def CodeEncodesUptoSaid : Prop := codeEncodesUptoRow.holds Try.pinned (OpenSpec.upto codeEncodesSpec)

/-- 'cattlegridlaw07.CodeJoins', WHERE WHAT IT READS IS OF BULK AT MOST 1048576: true; the input reads as it did. -/
def codeJoinsUptoRow : OpenClaim := { program := "ytnkjbgcbchbonaa", sum := "34c63f5bb4fb0274abb9451154ef73eacb05513d336096dd764970b181073ce9", func := "cattlegrid/cattlegridlaw07.CodeJoins", spec := "codeJoins", unfollowed := true, recurses := true, apart := false, narrowed := true }
def CodeJoinsUptoSaid : Prop := codeJoinsUptoRow.holds Try.pinned (OpenSpec.upto codeJoinsSpec)

/-- 'cattlegridlaw07.CodeBack', WHERE WHAT IT READS IS OF BULK AT MOST 1048576: true; the input reads as it did. -/
def codeBackUptoRow : OpenClaim := { program := "ytnkjbgcbchbonaa", sum := "34c63f5bb4fb0274abb9451154ef73eacb05513d336096dd764970b181073ce9", func := "cattlegrid/cattlegridlaw07.CodeBack", spec := "codeBack", unfollowed := true, recurses := true, apart := false, narrowed := true }
def CodeBackUptoSaid : Prop := codeBackUptoRow.holds Try.pinned (OpenSpec.upto codeBackSpec)

/-- 'cattlegridlaw07.CodeOne', WHERE WHAT IT READS IS OF BULK AT MOST 1048576: true; the input reads as it did. -/
def codeOneUptoRow : OpenClaim := { program := "ytnkjbgcbchbonaa", sum := "34c63f5bb4fb0274abb9451154ef73eacb05513d336096dd764970b181073ce9", func := "cattlegrid/cattlegridlaw07.CodeOne", spec := "codeOne", unfollowed := true, recurses := true, apart := false, narrowed := true }
def CodeOneUptoSaid : Prop := codeOneUptoRow.holds Try.pinned (OpenSpec.upto codeOneSpec)

/-- 'cattlegridlaw08.BodyWrites', WHERE WHAT IT READS IS OF BULK AT MOST 1048576: true; the input reads as it did. -/
def bodyWritesUptoRow : OpenClaim := { program := "ytnkjbgcbchbonaa", sum := "34c63f5bb4fb0274abb9451154ef73eacb05513d336096dd764970b181073ce9", func := "cattlegrid/cattlegridlaw08.BodyWrites", spec := "bodyWrites", apart := false, narrowed := true }
def BodyWritesUptoSaid : Prop := bodyWritesUptoRow.holds Try.pinned (OpenSpec.upto bodyWritesSpec)

/-- 'cattlegridlaw08.BodyLength', WHERE WHAT IT READS IS OF BULK AT MOST 1048576: true; the input reads as it did. -/
def bodyLengthUptoRow : OpenClaim := { program := "ytnkjbgcbchbonaa", sum := "34c63f5bb4fb0274abb9451154ef73eacb05513d336096dd764970b181073ce9", func := "cattlegrid/cattlegridlaw08.BodyLength", spec := "bodyLength", apart := false, narrowed := true }
def BodyLengthUptoSaid : Prop := bodyLengthUptoRow.holds Try.pinned (OpenSpec.upto bodyLengthSpec)

/-- 'cattlegridlaw08.BodyReads', WHERE WHAT IT READS IS OF BULK AT MOST 1048576: true; the input reads as it did. -/
def bodyReadsUptoRow : OpenClaim := { program := "ytnkjbgcbchbonaa", sum := "34c63f5bb4fb0274abb9451154ef73eacb05513d336096dd764970b181073ce9", func := "cattlegrid/cattlegridlaw08.BodyReads", spec := "bodyReads", unfollowed := true, recurses := true, apart := false, narrowed := true }
def BodyReadsUptoSaid : Prop := bodyReadsUptoRow.holds Try.pinned (OpenSpec.upto bodyReadsSpec)

/-- 'cattlegridlaw08.BodyBack', WHERE WHAT IT READS IS OF BULK AT MOST 1048576: true; the input reads as it did. -/
def bodyBackUptoRow : OpenClaim := { program := "ytnkjbgcbchbonaa", sum := "34c63f5bb4fb0274abb9451154ef73eacb05513d336096dd764970b181073ce9", func := "cattlegrid/cattlegridlaw08.BodyBack", spec := "bodyBack", unfollowed := true, recurses := true, apart := false, narrowed := true }
def BodyBackUptoSaid : Prop := bodyBackUptoRow.holds Try.pinned (OpenSpec.upto bodyBackSpec)

/-- 'cattlegridlaw08.BodyOne', WHERE WHAT IT READS IS OF BULK AT MOST 1048576: true; the input reads as it did. -/
def bodyOneUptoRow : OpenClaim := { program := "ytnkjbgcbchbonaa", sum := "34c63f5bb4fb0274abb9451154ef73eacb05513d336096dd764970b181073ce9", func := "cattlegrid/cattlegridlaw08.BodyOne", spec := "bodyOne", unfollowed := true, recurses := true, apart := false, narrowed := true }
def BodyOneUptoSaid : Prop := bodyOneUptoRow.holds Try.pinned (OpenSpec.upto bodyOneSpec)

end Rows
end Go.Proofs.Ytnkjbgcbchbonaa
