/-
  No cell of these rows narrows 'for every input' (looked for: loops, veiled, ifaces, maps, wideKeys, modest, calm, conditions, laid).
  DERIVED. THE GIVEN ROWS OF THIS SEAT. 10 by the template 'for every input the law returns true; each argument reads behind the call as it read before'; 0 by the template 'total and deterministic' (their statements: YtiojkpebjdifoaaTotals.lean).
  GIVEN WITH THE SEED: the statements are not yours to turn. If you find one false, say at which input.
  Laid BY PROGRAM, IN A SANDBOX (cutbox-rows.mjs): the forced cells as the released guide's own fill.sh prints them over the translation 219470b9ff58fc50… (all of the seat's roots in one cut). By AI agents, Wed Nov 11 2026. No macro, syntax, notation, axiom, sorry.
-/
import Derived.Test.YtiojkpebjdifoaaChecked
import GoSem.Claim
import GoSem.ClaimJoined
import GoSem.ClaimMapViews
import Derived.JoinedTies
import Derived.KernelRfl
namespace Go.Proofs.Ytiojkpebjdifoaa
/- THE CELL 'sum', in the pinned program and in every row, IS THE sha256 OF THE DUMP (.gsa) THAT YtiojkpebjdifoaaProg.lean LOADS. Nothing in Lean hashes anything: it is a label: what it is worth is what the hold of that sum in a sandbox is worth. -/
noncomputable def Try.pinned : Pinned := { name := "ytiojkpebjdifoaa", sum := "219470b9ff58fc503ba5fa68b4b1f32284789c575e46e8e65028d06c77378ce2", checked := Try.checked }
namespace Rows
def none {H : Type} : Left H := { results := [], args := [] }

/-- 'cattlegridlaw01.OctetOne': WHATEVER THE INPUT: true; the input reads as it did. -/
def octetOneSpec : ChangeSpec := { name := "octetOne", fn := fun _ => fun
  | [d] => { results := [.lit (.bool true)], args := [d] }
  | _ => none }
def octetOneRow : OpenClaim := { program := "ytiojkpebjdifoaa", sum := "219470b9ff58fc503ba5fa68b4b1f32284789c575e46e8e65028d06c77378ce2", func := "cattlegrid/cattlegridlaw01.OctetOne", spec := "octetOne", apart := false }
def OctetOneSaid : Prop := octetOneRow.holds Try.pinned (OpenSpec.ofChange octetOneSpec)

/-- ITS FALSE NEIGHBOUR: 'it returns false'. Refute it at one input. -/
def octetOneWrong : ChangeSpec := { name := "octetOne", fn := fun _ => fun
  | [d] => { results := [.lit (.bool false)], args := [d] }
  | _ => none }
def OctetOneWrongFalsely : Prop := octetOneRow.holds Try.pinned (OpenSpec.ofChange octetOneWrong)

/-- 'cattlegridlaw01.OctetPacks': WHATEVER THE INPUT: true; the input reads as it did. -/
def octetPacksSpec : ChangeSpec := { name := "octetPacks", fn := fun _ => fun
  | [d1, d2] => { results := [.lit (.bool true)], args := [d1, d2] }
  | _ => none }
def octetPacksRow : OpenClaim := { program := "ytiojkpebjdifoaa", sum := "219470b9ff58fc503ba5fa68b4b1f32284789c575e46e8e65028d06c77378ce2", func := "cattlegrid/cattlegridlaw01.OctetPacks", spec := "octetPacks", apart := false }
def OctetPacksSaid : Prop := octetPacksRow.holds Try.pinned (OpenSpec.ofChange octetPacksSpec)

/-- ITS FALSE NEIGHBOUR: 'it returns false'. Refute it at one input. -/
def octetPacksWrong : ChangeSpec := { name := "octetPacks", fn := fun _ => fun
  | [d1, d2] => { results := [.lit (.bool false)], args := [d1, d2] }
  | _ => none }
def OctetPacksWrongFalsely : Prop := octetPacksRow.holds Try.pinned (OpenSpec.ofChange octetPacksWrong)

/-- 'cattlegridlaw01.OctetPuts': WHATEVER THE INPUT: true; the input reads as it did. -/
def octetPutsSpec : ChangeSpec := { name := "octetPuts", fn := fun _ => fun
  | [d1, d2, d3] => { results := [.lit (.bool true)], args := [d1, d2, d3] }
  | _ => none }
def octetPutsRow : OpenClaim := { program := "ytiojkpebjdifoaa", sum := "219470b9ff58fc503ba5fa68b4b1f32284789c575e46e8e65028d06c77378ce2", func := "cattlegrid/cattlegridlaw01.OctetPuts", spec := "octetPuts", apart := false }
def OctetPutsSaid : Prop := octetPutsRow.holds Try.pinned (OpenSpec.ofChange octetPutsSpec)

/-- ITS FALSE NEIGHBOUR: 'it returns false'. Refute it at one input. -/
def octetPutsWrong : ChangeSpec := { name := "octetPuts", fn := fun _ => fun
  | [d1, d2, d3] => { results := [.lit (.bool false)], args := [d1, d2, d3] }
  | _ => none }
def OctetPutsWrongFalsely : Prop := octetPutsRow.holds Try.pinned (OpenSpec.ofChange octetPutsWrong)

/-- 'cattlegridlaw01.OctetReads': WHATEVER THE INPUT: true; the input reads as it did. -/
def octetReadsSpec : ChangeSpec := { name := "octetReads", fn := fun _ => fun
  | [d1, d2] => { results := [.lit (.bool true)], args := [d1, d2] }
  | _ => none }
def octetReadsRow : OpenClaim := { program := "ytiojkpebjdifoaa", sum := "219470b9ff58fc503ba5fa68b4b1f32284789c575e46e8e65028d06c77378ce2", func := "cattlegrid/cattlegridlaw01.OctetReads", spec := "octetReads", apart := false }
def OctetReadsSaid : Prop := octetReadsRow.holds Try.pinned (OpenSpec.ofChange octetReadsSpec)

/-- ITS FALSE NEIGHBOUR: 'it returns false'. Refute it at one input. -/
def octetReadsWrong : ChangeSpec := { name := "octetReads", fn := fun _ => fun
  | [d1, d2] => { results := [.lit (.bool false)], args := [d1, d2] }
  | _ => none }
def OctetReadsWrongFalsely : Prop := octetReadsRow.holds Try.pinned (OpenSpec.ofChange octetReadsWrong)

/-- 'cattlegridlaw01.OctetNil': WHATEVER THE INPUT: true; the input reads as it did. -/
def octetNilSpec : ChangeSpec := { name := "octetNil", fn := fun _ => fun
  | [d] => { results := [.lit (.bool true)], args := [d] }
  | _ => none }
def octetNilRow : OpenClaim := { program := "ytiojkpebjdifoaa", sum := "219470b9ff58fc503ba5fa68b4b1f32284789c575e46e8e65028d06c77378ce2", func := "cattlegrid/cattlegridlaw01.OctetNil", spec := "octetNil", apart := false }
def OctetNilSaid : Prop := octetNilRow.holds Try.pinned (OpenSpec.ofChange octetNilSpec)

/-- ITS FALSE NEIGHBOUR: 'it returns false'. Refute it at one input. -/
def octetNilWrong : ChangeSpec := { name := "octetNil", fn := fun _ => fun
  | [d] => { results := [.lit (.bool false)], args := [d] }
  | _ => none }
def OctetNilWrongFalsely : Prop := octetNilRow.holds Try.pinned (OpenSpec.ofChange octetNilWrong)

/-- 'cattlegridlaw02.PoolNames': WHATEVER THE INPUT: true; the input reads as it did. -/
def poolNamesSpec : ChangeSpec := { name := "poolNames", fn := fun _ => fun
  | [d] => { results := [.lit (.bool true)], args := [d] }
  | _ => none }
def poolNamesRow : OpenClaim := { program := "ytiojkpebjdifoaa", sum := "219470b9ff58fc503ba5fa68b4b1f32284789c575e46e8e65028d06c77378ce2", func := "cattlegrid/cattlegridlaw02.PoolNames", spec := "poolNames", unfollowed := true, recurses := true, apart := false }
def PoolNamesSaid : Prop := poolNamesRow.holds Try.pinned (OpenSpec.ofChange poolNamesSpec)

/-- ITS FALSE NEIGHBOUR: 'it returns false'. Refute it at one input. -/
def poolNamesWrong : ChangeSpec := { name := "poolNames", fn := fun _ => fun
  | [d] => { results := [.lit (.bool false)], args := [d] }
  | _ => none }
def PoolNamesWrongFalsely : Prop := poolNamesRow.holds Try.pinned (OpenSpec.ofChange poolNamesWrong)

/-- 'cattlegridlaw02.PoolName': WHATEVER THE INPUT: true; the input reads as it did. -/
def poolNameSpec : ChangeSpec := { name := "poolName", fn := fun _ => fun
  | [d1, d2, d3] => { results := [.lit (.bool true)], args := [d1, d2, d3] }
  | _ => none }
def poolNameRow : OpenClaim := { program := "ytiojkpebjdifoaa", sum := "219470b9ff58fc503ba5fa68b4b1f32284789c575e46e8e65028d06c77378ce2", func := "cattlegrid/cattlegridlaw02.PoolName", spec := "poolName", unfollowed := true, recurses := true, apart := false }
def PoolNameSaid : Prop := poolNameRow.holds Try.pinned (OpenSpec.ofChange poolNameSpec)

/-- ITS FALSE NEIGHBOUR: 'it returns false'. Refute it at one input. -/
def poolNameWrong : ChangeSpec := { name := "poolName", fn := fun _ => fun
  | [d1, d2, d3] => { results := [.lit (.bool false)], args := [d1, d2, d3] }
  | _ => none }
def PoolNameWrongFalsely : Prop := poolNameRow.holds Try.pinned (OpenSpec.ofChange poolNameWrong)

/-- 'cattlegridlaw02.PoolBlobs': WHATEVER THE INPUT: true; the input reads as it did. -/
def poolBlobsSpec : ChangeSpec := { name := "poolBlobs", fn := fun _ => fun
  | [d] => { results := [.lit (.bool true)], args := [d] }
  | _ => none }
def poolBlobsRow : OpenClaim := { program := "ytiojkpebjdifoaa", sum := "219470b9ff58fc503ba5fa68b4b1f32284789c575e46e8e65028d06c77378ce2", func := "cattlegrid/cattlegridlaw02.PoolBlobs", spec := "poolBlobs", unfollowed := true, recurses := true, apart := false }
def PoolBlobsSaid : Prop := poolBlobsRow.holds Try.pinned (OpenSpec.ofChange poolBlobsSpec)

/-- ITS FALSE NEIGHBOUR: 'it returns false'. Refute it at one input. -/
def poolBlobsWrong : ChangeSpec := { name := "poolBlobs", fn := fun _ => fun
  | [d] => { results := [.lit (.bool false)], args := [d] }
  | _ => none }
def PoolBlobsWrongFalsely : Prop := poolBlobsRow.holds Try.pinned (OpenSpec.ofChange poolBlobsWrong)

/-- 'cattlegridlaw02.PoolBlob': WHATEVER THE INPUT: true; the input reads as it did. -/
def poolBlobSpec : ChangeSpec := { name := "poolBlob", fn := fun _ => fun
  | [d1, d2] => { results := [.lit (.bool true)], args := [d1, d2] }
  | _ => none }
def poolBlobRow : OpenClaim := { program := "ytiojkpebjdifoaa", sum := "219470b9ff58fc503ba5fa68b4b1f32284789c575e46e8e65028d06c77378ce2", func := "cattlegrid/cattlegridlaw02.PoolBlob", spec := "poolBlob", unfollowed := true, recurses := true, apart := false }
def PoolBlobSaid : Prop := poolBlobRow.holds Try.pinned (OpenSpec.ofChange poolBlobSpec)

/-- ITS FALSE NEIGHBOUR: 'it returns false'. Refute it at one input. -/
def poolBlobWrong : ChangeSpec := { name := "poolBlob", fn := fun _ => fun
  | [d1, d2] => { results := [.lit (.bool false)], args := [d1, d2] }
  | _ => none }
def PoolBlobWrongFalsely : Prop := poolBlobRow.holds Try.pinned (OpenSpec.ofChange poolBlobWrong)

/-- 'cattlegridlaw02.PoolBack': WHATEVER THE INPUT: true; the input reads as it did. -/
def poolBackSpec : ChangeSpec := { name := "poolBack", fn := fun _ => fun
  | [d1, d2] => { results := [.lit (.bool true)], args := [d1, d2] }
  | _ => none }
def poolBackRow : OpenClaim := { program := "ytiojkpebjdifoaa", sum := "219470b9ff58fc503ba5fa68b4b1f32284789c575e46e8e65028d06c77378ce2", func := "cattlegrid/cattlegridlaw02.PoolBack", spec := "poolBack", unfollowed := true, recurses := true, apart := false }
def PoolBackSaid : Prop := poolBackRow.holds Try.pinned (OpenSpec.ofChange poolBackSpec)

/-- ITS FALSE NEIGHBOUR: 'it returns false'. Refute it at one input. -/
def poolBackWrong : ChangeSpec := { name := "poolBack", fn := fun _ => fun
  | [d1, d2] => { results := [.lit (.bool false)], args := [d1, d2] }
  | _ => none }
def PoolBackWrongFalsely : Prop := poolBackRow.holds Try.pinned (OpenSpec.ofChange poolBackWrong)

/- THE SECOND FORM. 'bulk': how many values and letters a reading holds, each counted each time it is reached (what is shared counts as often as it is met; a slice's spare places count too). A statement '..UptoSaid' is the law's where the arguments, and the package variables that the reading takes, are together of bulk at most 1048576: NARROWER than '..Said'. Prove '..Said' where nothing that the law and all that it calls make is longer than what came in: it says more and counts as full. Else prove '..UptoSaid'. A law counts once. -/
mutual
def uptoBulk {H : Type} : DataW H → Nat
  | .lit (.string bytes) => bytes.length + 1
  | .lit _ => 1
  | .nil => 1
  | .ptr d => uptoBulk d + 1
  | .slice elems spare => uptoBulkAll elems + uptoBulkAll spare + 1
  | .agg parts => uptoBulkAll parts + 1
  | .iface _ d => uptoBulk d + 1
  | .map entries => uptoBulkEntries entries + 1
  | .held _ => 1
def uptoBulkAll {H : Type} : List (DataW H) → Nat
  | [] => 0
  | d :: r => uptoBulk d + uptoBulkAll r
def uptoBulkEntries {H : Type} : List (Lit × DataW H) → Nat
  | [] => 0
  | x :: r => uptoBulkEntry x + uptoBulkEntries r
def uptoBulkEntry {H : Type} : Lit × DataW H → Nat
  | (.string bytes, d) => bytes.length + uptoBulk d + 1
  | (_, d) => uptoBulk d + 1
 end
def uptoSmall : (H : Type) → List (DataW H) → Bool := fun _ ds => decide (uptoBulkAll ds ≤ 1048576)
def OpenSpec.upto (s : _root_.Go.ChangeSpec) : _root_.Go.OpenSpec := { _root_.Go.OpenSpec.ofChange s with cond := some uptoSmall }

/-- 'cattlegridlaw01.OctetOne', WHERE WHAT IT READS IS OF BULK AT MOST 1048576: true; the input reads as it did. -/
def octetOneUptoRow : OpenClaim := { program := "ytiojkpebjdifoaa", sum := "219470b9ff58fc503ba5fa68b4b1f32284789c575e46e8e65028d06c77378ce2", func := "cattlegrid/cattlegridlaw01.OctetOne", spec := "octetOne", apart := false, narrowed := true }
def OctetOneUptoSaid : Prop := octetOneUptoRow.holds Try.pinned (OpenSpec.upto octetOneSpec)

/-- 'cattlegridlaw01.OctetPacks', WHERE WHAT IT READS IS OF BULK AT MOST 1048576: true; the input reads as it did. -/
def octetPacksUptoRow : OpenClaim := { program := "ytiojkpebjdifoaa", sum := "219470b9ff58fc503ba5fa68b4b1f32284789c575e46e8e65028d06c77378ce2", func := "cattlegrid/cattlegridlaw01.OctetPacks", spec := "octetPacks", apart := false, narrowed := true }
def OctetPacksUptoSaid : Prop := octetPacksUptoRow.holds Try.pinned (OpenSpec.upto octetPacksSpec)

/-- 'cattlegridlaw01.OctetPuts', WHERE WHAT IT READS IS OF BULK AT MOST 1048576: true; the input reads as it did. -/
def octetPutsUptoRow : OpenClaim := { program := "ytiojkpebjdifoaa", sum := "219470b9ff58fc503ba5fa68b4b1f32284789c575e46e8e65028d06c77378ce2", func := "cattlegrid/cattlegridlaw01.OctetPuts", spec := "octetPuts", apart := false, narrowed := true }
def OctetPutsUptoSaid : Prop := octetPutsUptoRow.holds Try.pinned (OpenSpec.upto octetPutsSpec)

/-- 'cattlegridlaw01.OctetReads', WHERE WHAT IT READS IS OF BULK AT MOST 1048576: true; the input reads as it did. -/
def octetReadsUptoRow : OpenClaim := { program := "ytiojkpebjdifoaa", sum := "219470b9ff58fc503ba5fa68b4b1f32284789c575e46e8e65028d06c77378ce2", func := "cattlegrid/cattlegridlaw01.OctetReads", spec := "octetReads", apart := false, narrowed := true }
def OctetReadsUptoSaid : Prop := octetReadsUptoRow.holds Try.pinned (OpenSpec.upto octetReadsSpec)

/-- 'cattlegridlaw01.OctetNil', WHERE WHAT IT READS IS OF BULK AT MOST 1048576: true; the input reads as it did. -/
def octetNilUptoRow : OpenClaim := { program := "ytiojkpebjdifoaa", sum := "219470b9ff58fc503ba5fa68b4b1f32284789c575e46e8e65028d06c77378ce2", func := "cattlegrid/cattlegridlaw01.OctetNil", spec := "octetNil", apart := false, narrowed := true }
def OctetNilUptoSaid : Prop := octetNilUptoRow.holds Try.pinned (OpenSpec.upto octetNilSpec)

/-- 'cattlegridlaw02.PoolNames', WHERE WHAT IT READS IS OF BULK AT MOST 1048576: true; the input reads as it did. -/
def poolNamesUptoRow : OpenClaim := { program := "ytiojkpebjdifoaa", sum := "219470b9ff58fc503ba5fa68b4b1f32284789c575e46e8e65028d06c77378ce2", func := "cattlegrid/cattlegridlaw02.PoolNames", spec := "poolNames", unfollowed := true, recurses := true, apart := false, narrowed := true }
def PoolNamesUptoSaid : Prop := poolNamesUptoRow.holds Try.pinned (OpenSpec.upto poolNamesSpec)

/-- 'cattlegridlaw02.PoolName', WHERE WHAT IT READS IS OF BULK AT MOST 1048576: true; the input reads as it did. -/
def poolNameUptoRow : OpenClaim := { program := "ytiojkpebjdifoaa", sum := "219470b9ff58fc503ba5fa68b4b1f32284789c575e46e8e65028d06c77378ce2", func := "cattlegrid/cattlegridlaw02.PoolName", spec := "poolName", unfollowed := true, recurses := true, apart := false, narrowed := true }
def PoolNameUptoSaid : Prop := poolNameUptoRow.holds Try.pinned (OpenSpec.upto poolNameSpec)

/-- 'cattlegridlaw02.PoolBlobs', WHERE WHAT IT READS IS OF BULK AT MOST 1048576: true; the input reads as it did. -/
def poolBlobsUptoRow : OpenClaim := { program := "ytiojkpebjdifoaa", sum := "219470b9ff58fc503ba5fa68b4b1f32284789c575e46e8e65028d06c77378ce2", func := "cattlegrid/cattlegridlaw02.PoolBlobs", spec := "poolBlobs", unfollowed := true, recurses := true, apart := false, narrowed := true }
def PoolBlobsUptoSaid : Prop := poolBlobsUptoRow.holds Try.pinned (OpenSpec.upto poolBlobsSpec)

/-- 'cattlegridlaw02.PoolBlob', WHERE WHAT IT READS IS OF BULK AT MOST 1048576: true; the input reads as it did. -/
def poolBlobUptoRow : OpenClaim := { program := "ytiojkpebjdifoaa", sum := "219470b9ff58fc503ba5fa68b4b1f32284789c575e46e8e65028d06c77378ce2", func := "cattlegrid/cattlegridlaw02.PoolBlob", spec := "poolBlob", unfollowed := true, recurses := true, apart := false, narrowed := true }
def PoolBlobUptoSaid : Prop := poolBlobUptoRow.holds Try.pinned (OpenSpec.upto poolBlobSpec)

/-- 'cattlegridlaw02.PoolBack', WHERE WHAT IT READS IS OF BULK AT MOST 1048576: true; the input reads as it did. -/
def poolBackUptoRow : OpenClaim := { program := "ytiojkpebjdifoaa", sum := "219470b9ff58fc503ba5fa68b4b1f32284789c575e46e8e65028d06c77378ce2", func := "cattlegrid/cattlegridlaw02.PoolBack", spec := "poolBack", unfollowed := true, recurses := true, apart := false, narrowed := true }
def PoolBackUptoSaid : Prop := poolBackUptoRow.holds Try.pinned (OpenSpec.upto poolBackSpec)

end Rows
end Go.Proofs.Ytiojkpebjdifoaa
