/-
  No cell of these rows narrows 'for every input' (looked for: loops, veiled, ifaces, maps, wideKeys, modest, calm, conditions, laid).
  DERIVED. THE GIVEN ROWS OF THIS SEAT. 10 by the template 'for every input the law returns true; each argument reads behind the call as it read before'; 0 by the template 'total and deterministic' (their statements: YtplphldpkliakaaTotals.lean).
  GIVEN WITH THE SEED: the statements are not yours to turn. If you find one false, say at which input.
  Laid BY PROGRAM, IN A SANDBOX (cutbox-rows.mjs): the forced cells as the released guide's own fill.sh prints them over the translation dc935484b23b5944… (all of the seat's roots in one cut). By AI agents, Wed Nov 11 2026. No macro, syntax, notation, axiom, sorry.
-/
import Derived.Test.YtplphldpkliakaaChecked
import GoSem.Claim
import GoSem.ClaimJoined
import GoSem.ClaimMapViews
import Derived.JoinedTies
import Derived.KernelRfl
namespace Go.Proofs.Ytplphldpkliakaa
/- THE CELL 'sum', in the pinned program and in every row, IS THE sha256 OF THE DUMP (.gsa) THAT YtplphldpkliakaaProg.lean LOADS. Nothing in Lean hashes anything: it is a label: what it is worth is what the hold of that sum in a sandbox is worth. -/
noncomputable def Try.pinned : Pinned := { name := "ytplphldpkliakaa", sum := "dc935484b23b5944cd9f54cee08b72ddfb19d884c50eea516e9669251e2cfbe9", checked := Try.checked }
namespace Rows
def none {H : Type} : Left H := { results := [], args := [] }

/-- 'cattlegridlaw05.SigsSigs': WHATEVER THE INPUT: true; the input reads as it did. -/
def sigsSigsSpec : ChangeSpec := { name := "sigsSigs", fn := fun _ => fun
  | [d] => { results := [.lit (.bool true)], args := [d] }
  | _ => none }
def sigsSigsRow : OpenClaim := { program := "ytplphldpkliakaa", sum := "dc935484b23b5944cd9f54cee08b72ddfb19d884c50eea516e9669251e2cfbe9", func := "cattlegrid/cattlegridlaw05.SigsSigs", spec := "sigsSigs", unfollowed := true, recurses := true, apart := false }
def SigsSigsSaid : Prop := sigsSigsRow.holds Try.pinned (OpenSpec.ofChange sigsSigsSpec)

/-- ITS FALSE NEIGHBOUR: 'it returns false'. Refute it at one input. -/
def sigsSigsWrong : ChangeSpec := { name := "sigsSigs", fn := fun _ => fun
  | [d] => { results := [.lit (.bool false)], args := [d] }
  | _ => none }
def SigsSigsWrongFalsely : Prop := sigsSigsRow.holds Try.pinned (OpenSpec.ofChange sigsSigsWrong)

/-- 'cattlegridlaw05.SigsTypes': WHATEVER THE INPUT: true; the input reads as it did. -/
def sigsTypesSpec : ChangeSpec := { name := "sigsTypes", fn := fun _ => fun
  | [d] => { results := [.lit (.bool true)], args := [d] }
  | _ => none }
def sigsTypesRow : OpenClaim := { program := "ytplphldpkliakaa", sum := "dc935484b23b5944cd9f54cee08b72ddfb19d884c50eea516e9669251e2cfbe9", func := "cattlegrid/cattlegridlaw05.SigsTypes", spec := "sigsTypes", unfollowed := true, recurses := true, apart := false }
def SigsTypesSaid : Prop := sigsTypesRow.holds Try.pinned (OpenSpec.ofChange sigsTypesSpec)

/-- ITS FALSE NEIGHBOUR: 'it returns false'. Refute it at one input. -/
def sigsTypesWrong : ChangeSpec := { name := "sigsTypes", fn := fun _ => fun
  | [d] => { results := [.lit (.bool false)], args := [d] }
  | _ => none }
def SigsTypesWrongFalsely : Prop := sigsTypesRow.holds Try.pinned (OpenSpec.ofChange sigsTypesWrong)

/-- 'cattlegridlaw05.SigsLocals': WHATEVER THE INPUT: true; the input reads as it did. -/
def sigsLocalsSpec : ChangeSpec := { name := "sigsLocals", fn := fun _ => fun
  | [d] => { results := [.lit (.bool true)], args := [d] }
  | _ => none }
def sigsLocalsRow : OpenClaim := { program := "ytplphldpkliakaa", sum := "dc935484b23b5944cd9f54cee08b72ddfb19d884c50eea516e9669251e2cfbe9", func := "cattlegrid/cattlegridlaw05.SigsLocals", spec := "sigsLocals", unfollowed := true, recurses := true, apart := false }
def SigsLocalsSaid : Prop := sigsLocalsRow.holds Try.pinned (OpenSpec.ofChange sigsLocalsSpec)

/-- ITS FALSE NEIGHBOUR: 'it returns false'. Refute it at one input. -/
def sigsLocalsWrong : ChangeSpec := { name := "sigsLocals", fn := fun _ => fun
  | [d] => { results := [.lit (.bool false)], args := [d] }
  | _ => none }
def SigsLocalsWrongFalsely : Prop := sigsLocalsRow.holds Try.pinned (OpenSpec.ofChange sigsLocalsWrong)

/-- 'cattlegridlaw05.SigsOne': WHATEVER THE INPUT: true; the input reads as it did. -/
def sigsOneSpec : ChangeSpec := { name := "sigsOne", fn := fun _ => fun
  | [d] => { results := [.lit (.bool true)], args := [d] }
  | _ => none }
def sigsOneRow : OpenClaim := { program := "ytplphldpkliakaa", sum := "dc935484b23b5944cd9f54cee08b72ddfb19d884c50eea516e9669251e2cfbe9", func := "cattlegrid/cattlegridlaw05.SigsOne", spec := "sigsOne", unfollowed := true, recurses := true, apart := false }
def SigsOneSaid : Prop := sigsOneRow.holds Try.pinned (OpenSpec.ofChange sigsOneSpec)

/-- ITS FALSE NEIGHBOUR: 'it returns false'. Refute it at one input. -/
def sigsOneWrong : ChangeSpec := { name := "sigsOne", fn := fun _ => fun
  | [d] => { results := [.lit (.bool false)], args := [d] }
  | _ => none }
def SigsOneWrongFalsely : Prop := sigsOneRow.holds Try.pinned (OpenSpec.ofChange sigsOneWrong)

/-- 'cattlegridlaw05.SigsReads': WHATEVER THE INPUT: true; the input reads as it did. -/
def sigsReadsSpec : ChangeSpec := { name := "sigsReads", fn := fun _ => fun
  | [d] => { results := [.lit (.bool true)], args := [d] }
  | _ => none }
def sigsReadsRow : OpenClaim := { program := "ytplphldpkliakaa", sum := "dc935484b23b5944cd9f54cee08b72ddfb19d884c50eea516e9669251e2cfbe9", func := "cattlegrid/cattlegridlaw05.SigsReads", spec := "sigsReads", unfollowed := true, recurses := true, apart := false }
def SigsReadsSaid : Prop := sigsReadsRow.holds Try.pinned (OpenSpec.ofChange sigsReadsSpec)

/-- ITS FALSE NEIGHBOUR: 'it returns false'. Refute it at one input. -/
def sigsReadsWrong : ChangeSpec := { name := "sigsReads", fn := fun _ => fun
  | [d] => { results := [.lit (.bool false)], args := [d] }
  | _ => none }
def SigsReadsWrongFalsely : Prop := sigsReadsRow.holds Try.pinned (OpenSpec.ofChange sigsReadsWrong)

/-- 'cattlegridlaw06.OpsFits': WHATEVER THE INPUT: true; the input reads as it did. -/
def opsFitsSpec : ChangeSpec := { name := "opsFits", fn := fun _ => fun
  | [d] => { results := [.lit (.bool true)], args := [d] }
  | _ => none }
def opsFitsRow : OpenClaim := { program := "ytplphldpkliakaa", sum := "dc935484b23b5944cd9f54cee08b72ddfb19d884c50eea516e9669251e2cfbe9", func := "cattlegrid/cattlegridlaw06.OpsFits", spec := "opsFits", apart := false }
def OpsFitsSaid : Prop := opsFitsRow.holds Try.pinned (OpenSpec.ofChange opsFitsSpec)

/-- ITS FALSE NEIGHBOUR: 'it returns false'. Refute it at one input. -/
def opsFitsWrong : ChangeSpec := { name := "opsFits", fn := fun _ => fun
  | [d] => { results := [.lit (.bool false)], args := [d] }
  | _ => none }
def OpsFitsWrongFalsely : Prop := opsFitsRow.holds Try.pinned (OpenSpec.ofChange opsFitsWrong)

/-- 'cattlegridlaw06.OpsZero': WHATEVER THE INPUT: true; the input reads as it did. -/
def opsZeroSpec : ChangeSpec := { name := "opsZero", fn := fun _ => fun
  | [d1, d2] => { results := [.lit (.bool true)], args := [d1, d2] }
  | _ => none }
def opsZeroRow : OpenClaim := { program := "ytplphldpkliakaa", sum := "dc935484b23b5944cd9f54cee08b72ddfb19d884c50eea516e9669251e2cfbe9", func := "cattlegrid/cattlegridlaw06.OpsZero", spec := "opsZero", apart := false }
def OpsZeroSaid : Prop := opsZeroRow.holds Try.pinned (OpenSpec.ofChange opsZeroSpec)

/-- ITS FALSE NEIGHBOUR: 'it returns false'. Refute it at one input. -/
def opsZeroWrong : ChangeSpec := { name := "opsZero", fn := fun _ => fun
  | [d1, d2] => { results := [.lit (.bool false)], args := [d1, d2] }
  | _ => none }
def OpsZeroWrongFalsely : Prop := opsZeroRow.holds Try.pinned (OpenSpec.ofChange opsZeroWrong)

/-- 'cattlegridlaw06.OpsPlaces': WHATEVER THE INPUT: true; the input reads as it did. -/
def opsPlacesSpec : ChangeSpec := { name := "opsPlaces", fn := fun _ => fun
  | [d] => { results := [.lit (.bool true)], args := [d] }
  | _ => none }
def opsPlacesRow : OpenClaim := { program := "ytplphldpkliakaa", sum := "dc935484b23b5944cd9f54cee08b72ddfb19d884c50eea516e9669251e2cfbe9", func := "cattlegrid/cattlegridlaw06.OpsPlaces", spec := "opsPlaces", apart := false }
def OpsPlacesSaid : Prop := opsPlacesRow.holds Try.pinned (OpenSpec.ofChange opsPlacesSpec)

/-- ITS FALSE NEIGHBOUR: 'it returns false'. Refute it at one input. -/
def opsPlacesWrong : ChangeSpec := { name := "opsPlaces", fn := fun _ => fun
  | [d] => { results := [.lit (.bool false)], args := [d] }
  | _ => none }
def OpsPlacesWrongFalsely : Prop := opsPlacesRow.holds Try.pinned (OpenSpec.ofChange opsPlacesWrong)

/-- 'cattlegridlaw06.OpsOf': WHATEVER THE INPUT: true; the input reads as it did. -/
def opsOfSpec : ChangeSpec := { name := "opsOf", fn := fun _ => fun
  | [d] => { results := [.lit (.bool true)], args := [d] }
  | _ => none }
def opsOfRow : OpenClaim := { program := "ytplphldpkliakaa", sum := "dc935484b23b5944cd9f54cee08b72ddfb19d884c50eea516e9669251e2cfbe9", func := "cattlegrid/cattlegridlaw06.OpsOf", spec := "opsOf", apart := false }
def OpsOfSaid : Prop := opsOfRow.holds Try.pinned (OpenSpec.ofChange opsOfSpec)

/-- ITS FALSE NEIGHBOUR: 'it returns false'. Refute it at one input. -/
def opsOfWrong : ChangeSpec := { name := "opsOf", fn := fun _ => fun
  | [d] => { results := [.lit (.bool false)], args := [d] }
  | _ => none }
def OpsOfWrongFalsely : Prop := opsOfRow.holds Try.pinned (OpenSpec.ofChange opsOfWrong)

/-- 'cattlegridlaw06.OpsNamed': WHATEVER THE INPUT: true; the input reads as it did. -/
def opsNamedSpec : ChangeSpec := { name := "opsNamed", fn := fun _ => fun
  | [d] => { results := [.lit (.bool true)], args := [d] }
  | _ => none }
def opsNamedRow : OpenClaim := { program := "ytplphldpkliakaa", sum := "dc935484b23b5944cd9f54cee08b72ddfb19d884c50eea516e9669251e2cfbe9", func := "cattlegrid/cattlegridlaw06.OpsNamed", spec := "opsNamed", apart := false }
def OpsNamedSaid : Prop := opsNamedRow.holds Try.pinned (OpenSpec.ofChange opsNamedSpec)

/-- ITS FALSE NEIGHBOUR: 'it returns false'. Refute it at one input. -/
def opsNamedWrong : ChangeSpec := { name := "opsNamed", fn := fun _ => fun
  | [d] => { results := [.lit (.bool false)], args := [d] }
  | _ => none }
def OpsNamedWrongFalsely : Prop := opsNamedRow.holds Try.pinned (OpenSpec.ofChange opsNamedWrong)

/- THE SECOND FORM. 'bulk': how many values and letters a reading holds, each counted each time it is reached (what is shared counts as often as it is met; a slice's spare places count too). A statement '..UptoSaid' is the law's where the arguments, and the package variables that the reading takes, are together of bulk at most 1048576: NARROWER than '..Said'. Prove '..Said' where nothing that the law and all that it calls make is longer than what came in: it says more and counts as full. Else prove '..UptoSaid'. A law counts once. -/
mutual
def uptoBulk {H : Type} : DataW H → Nat
  | .lit (.string bytes) => bytes.length + 1
  | .lit _ => 1
  | .nil => 1
  | .ptr d => uptoBulk d + 1
  | .slice elems spare => uptoBulkAll elems + uptoBulkAll spare + 1
  | .agg parts => uptoBulkAll parts + 1
  | .iface _ d => uptoBulk d + 1
  | .map entries => uptoBulkEntries entries + 1
  | .held _ => 1
def uptoBulkAll {H : Type} : List (DataW H) → Nat
  | [] => 0
  | d :: r => uptoBulk d + uptoBulkAll r
def uptoBulkEntries {H : Type} : List (Lit × DataW H) → Nat
  | [] => 0
  | x :: r => uptoBulkEntry x + uptoBulkEntries r
def uptoBulkEntry {H : Type} : Lit × DataW H → Nat
  | (.string bytes, d) => bytes.length + uptoBulk d + 1
  | (_, d) => uptoBulk d + 1
 end
def uptoSmall : (H : Type) → List (DataW H) → Bool := fun _ ds => decide (uptoBulkAll ds ≤ 1048576)
def OpenSpec.upto (s : _root_.Go.ChangeSpec) : _root_.Go.OpenSpec := { _root_.Go.OpenSpec.ofChange s with cond := some uptoSmall }

/-- 'cattlegridlaw05.SigsSigs', WHERE WHAT IT READS IS OF BULK AT MOST 1048576: true; the input reads as it did. -/
def sigsSigsUptoRow : OpenClaim := { program := "ytplphldpkliakaa", sum := "dc935484b23b5944cd9f54cee08b72ddfb19d884c50eea516e9669251e2cfbe9", func := "cattlegrid/cattlegridlaw05.SigsSigs", spec := "sigsSigs", unfollowed := true, recurses := true, apart := false, narrowed := true }
def SigsSigsUptoSaid : Prop := sigsSigsUptoRow.holds Try.pinned (OpenSpec.upto sigsSigsSpec)

/-- 'cattlegridlaw05.SigsTypes', WHERE WHAT IT READS IS OF BULK AT MOST 1048576: true; the input reads as it did. -/
def sigsTypesUptoRow : OpenClaim := { program := "ytplphldpkliakaa", sum := "dc935484b23b5944cd9f54cee08b72ddfb19d884c50eea516e9669251e2cfbe9", func := "cattlegrid/cattlegridlaw05.SigsTypes", spec := "sigsTypes", unfollowed := true, recurses := true, apart := false, narrowed := true }
def SigsTypesUptoSaid : Prop := sigsTypesUptoRow.holds Try.pinned (OpenSpec.upto sigsTypesSpec)

/-- 'cattlegridlaw05.SigsLocals', WHERE WHAT IT READS IS OF BULK AT MOST 1048576: true; the input reads as it did. -/
def sigsLocalsUptoRow : OpenClaim := { program := "ytplphldpkliakaa", sum := "dc935484b23b5944cd9f54cee08b72ddfb19d884c50eea516e9669251e2cfbe9", func := "cattlegrid/cattlegridlaw05.SigsLocals", spec := "sigsLocals", unfollowed := true, recurses := true, apart := false, narrowed := true }
def SigsLocalsUptoSaid : Prop := sigsLocalsUptoRow.holds Try.pinned (OpenSpec.upto sigsLocalsSpec)

/-- 'cattlegridlaw05.SigsOne', WHERE WHAT IT READS IS OF BULK AT MOST 1048576: true; the input reads as it did. -/
def sigsOneUptoRow : OpenClaim := { program := "ytplphldpkliakaa", sum := "dc935484b23b5944cd9f54cee08b72ddfb19d884c50eea516e9669251e2cfbe9", func := "cattlegrid/cattlegridlaw05.SigsOne", spec := "sigsOne", unfollowed := true, recurses := true, apart := false, narrowed := true }
def SigsOneUptoSaid : Prop := sigsOneUptoRow.holds Try.pinned (OpenSpec.upto sigsOneSpec)

/-- 'cattlegridlaw05.SigsReads', WHERE WHAT IT READS IS OF BULK AT MOST 1048576: true; the input reads as it did. -/
def sigsReadsUptoRow : OpenClaim := { program := "ytplphldpkliakaa", sum := "dc935484b23b5944cd9f54cee08b72ddfb19d884c50eea516e9669251e2cfbe9", func := "cattlegrid/cattlegridlaw05.SigsReads", spec := "sigsReads", unfollowed := true, recurses := true, apart := false, narrowed := true }
def SigsReadsUptoSaid : Prop := sigsReadsUptoRow.holds Try.pinned (OpenSpec.upto sigsReadsSpec)

/-- 'cattlegridlaw06.OpsFits', WHERE WHAT IT READS IS OF BULK AT MOST 1048576: true; the input reads as it did. -/
def opsFitsUptoRow : OpenClaim := { program := "ytplphldpkliakaa", sum := "dc935484b23b5944cd9f54cee08b72ddfb19d884c50eea516e9669251e2cfbe9", func := "cattlegrid/cattlegridlaw06.OpsFits", spec := "opsFits", apart := false, narrowed := true }
def OpsFitsUptoSaid : Prop := opsFitsUptoRow.holds Try.pinned (OpenSpec.upto opsFitsSpec)

/-- 'cattlegridlaw06.OpsZero', WHERE WHAT IT READS IS OF BULK AT MOST 1048576: true; the input reads as it did. -/
def opsZeroUptoRow : OpenClaim := { program := "ytplphldpkliakaa", sum := "dc935484b23b5944cd9f54cee08b72ddfb19d884c50eea516e9669251e2cfbe9", func := "cattlegrid/cattlegridlaw06.OpsZero", spec := "opsZero", apart := false, narrowed := true }
def OpsZeroUptoSaid : Prop := opsZeroUptoRow.holds Try.pinned (OpenSpec.upto opsZeroSpec)

/-- 'cattlegridlaw06.OpsPlaces', WHERE WHAT IT READS IS OF BULK AT MOST 1048576: true; the input reads as it did. -/
def opsPlacesUptoRow : OpenClaim := { program := "ytplphldpkliakaa", sum := "dc935484b23b5944cd9f54cee08b72ddfb19d884c50eea516e9669251e2cfbe9", func := "cattlegrid/cattlegridlaw06.OpsPlaces", spec := "opsPlaces", apart := false, narrowed := true }
def OpsPlacesUptoSaid : Prop := opsPlacesUptoRow.holds Try.pinned (OpenSpec.upto opsPlacesSpec)

/-- 'cattlegridlaw06.OpsOf', WHERE WHAT IT READS IS OF BULK AT MOST 1048576: true; the input reads as it did. -/
def opsOfUptoRow : OpenClaim := { program := "ytplphldpkliakaa", sum := "dc935484b23b5944cd9f54cee08b72ddfb19d884c50eea516e9669251e2cfbe9", func := "cattlegrid/cattlegridlaw06.OpsOf", spec := "opsOf", apart := false, narrowed := true }
def OpsOfUptoSaid : Prop := opsOfUptoRow.holds Try.pinned (OpenSpec.upto opsOfSpec)

/-- 'cattlegridlaw06.OpsNamed', WHERE WHAT IT READS IS OF BULK AT MOST 1048576: true; the input reads as it did. -/
def opsNamedUptoRow : OpenClaim := { program := "ytplphldpkliakaa", sum := "dc935484b23b5944cd9f54cee08b72ddfb19d884c50eea516e9669251e2cfbe9", func := "cattlegrid/cattlegridlaw06.OpsNamed", spec := "opsNamed", apart := false, narrowed := true }
def OpsNamedUptoSaid : Prop := opsNamedUptoRow.holds Try.pinned (OpenSpec.upto opsNamedSpec)

end Rows
end Go.Proofs.Ytplphldpkliakaa
