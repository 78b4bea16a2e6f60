/-
  No cell of these rows narrows 'for every input' (looked for: loops, veiled, ifaces, maps, wideKeys, modest, calm, conditions, laid).
  DERIVED. THE GIVEN ROWS OF THIS SEAT. 4 by the template 'for every input the law returns true; each argument reads behind the call as it read before'; 0 by the template 'total and deterministic' (their statements: YtknalmoackcpbaaGreatTotals.lean).
  GIVEN WITH THE SEED: the statements are not yours to turn. If you find one false, say at which input.
  Laid BY PROGRAM, IN A SANDBOX (cutbox-rows.mjs): the forced cells as the released guide's own fill.sh prints them over the translation c7a59ccc902a767c… (all of the seat's roots in one cut). By AI agents, Wed Nov 11 2026. No macro, syntax, notation, axiom, sorry.
-/
import Derived.Test.YtknalmoackcpbaaGreatChecked
import GoSem.Claim
import GoSem.ClaimJoined
import GoSem.ClaimMapViews
import Derived.JoinedTies
import Derived.KernelRfl
namespace Go.Proofs.YtknalmoackcpbaaGreat
/- THE CELL 'sum', in the pinned program and in every row, IS THE sha256 OF THE DUMP (.gsa) THAT YtknalmoackcpbaaGreatProg.lean LOADS. Nothing in Lean hashes anything: it is a label: what it is worth is what the hold of that sum in a sandbox is worth. -/
noncomputable def Tryz.pinned : Pinned := { name := "ytknalmoackcpbaagreat", sum := "c7a59ccc902a767c870b2befd654be8c0f349483ae8bcbd3d5b43c52928d2215", checked := Tryz.checked }
namespace Rows
def none {H : Type} : Left H := { results := [], args := [] }

/-- 'cattlegridlaw10.ImageFormed': WHATEVER THE INPUT: true; the input reads as it did. -/
def imageFormedSpec : ChangeSpec := { name := "imageFormed", fn := fun _ => fun
  | [d] => { results := [.lit (.bool true)], args := [d] }
  | _ => none }
def imageFormedRow : OpenClaim := { program := "ytknalmoackcpbaagreat", sum := "c7a59ccc902a767c870b2befd654be8c0f349483ae8bcbd3d5b43c52928d2215", func := "cattlegrid/cattlegridlaw10.ImageFormed", spec := "imageFormed", unfollowed := true, recurses := true, apart := false }
def ImageFormedSaid : Prop := imageFormedRow.holds Tryz.pinned (OpenSpec.ofChange imageFormedSpec)

/-- ITS FALSE NEIGHBOUR: 'it returns false'. Refute it at one input. -/
def imageFormedWrong : ChangeSpec := { name := "imageFormed", fn := fun _ => fun
  | [d] => { results := [.lit (.bool false)], args := [d] }
  | _ => none }
def ImageFormedWrongFalsely : Prop := imageFormedRow.holds Tryz.pinned (OpenSpec.ofChange imageFormedWrong)

/-- 'cattlegridlaw10.ImageSaves': WHATEVER THE INPUT: true; the input reads as it did. -/
def imageSavesSpec : ChangeSpec := { name := "imageSaves", fn := fun _ => fun
  | [d] => { results := [.lit (.bool true)], args := [d] }
  | _ => none }
def imageSavesRow : OpenClaim := { program := "ytknalmoackcpbaagreat", sum := "c7a59ccc902a767c870b2befd654be8c0f349483ae8bcbd3d5b43c52928d2215", func := "cattlegrid/cattlegridlaw10.ImageSaves", spec := "imageSaves", unfollowed := true, recurses := true, apart := false }
def ImageSavesSaid : Prop := imageSavesRow.holds Tryz.pinned (OpenSpec.ofChange imageSavesSpec)

/-- ITS FALSE NEIGHBOUR: 'it returns false'. Refute it at one input. -/
def imageSavesWrong : ChangeSpec := { name := "imageSaves", fn := fun _ => fun
  | [d] => { results := [.lit (.bool false)], args := [d] }
  | _ => none }
def ImageSavesWrongFalsely : Prop := imageSavesRow.holds Tryz.pinned (OpenSpec.ofChange imageSavesWrong)

/-- 'cattlegridlaw10.ImageBack': WHATEVER THE INPUT: true; the input reads as it did. -/
def imageBackSpec : ChangeSpec := { name := "imageBack", fn := fun _ => fun
  | [d] => { results := [.lit (.bool true)], args := [d] }
  | _ => none }
def imageBackRow : OpenClaim := { program := "ytknalmoackcpbaagreat", sum := "c7a59ccc902a767c870b2befd654be8c0f349483ae8bcbd3d5b43c52928d2215", func := "cattlegrid/cattlegridlaw10.ImageBack", spec := "imageBack", unfollowed := true, recurses := true, apart := false }
def ImageBackSaid : Prop := imageBackRow.holds Tryz.pinned (OpenSpec.ofChange imageBackSpec)

/-- ITS FALSE NEIGHBOUR: 'it returns false'. Refute it at one input. -/
def imageBackWrong : ChangeSpec := { name := "imageBack", fn := fun _ => fun
  | [d] => { results := [.lit (.bool false)], args := [d] }
  | _ => none }
def ImageBackWrongFalsely : Prop := imageBackRow.holds Tryz.pinned (OpenSpec.ofChange imageBackWrong)

/-- 'cattlegridlaw10.ImagePlain': WHATEVER THE INPUT: true; the input reads as it did. -/
def imagePlainSpec : ChangeSpec := { name := "imagePlain", fn := fun _ => fun
  | [d] => { results := [.lit (.bool true)], args := [d] }
  | _ => none }
def imagePlainRow : OpenClaim := { program := "ytknalmoackcpbaagreat", sum := "c7a59ccc902a767c870b2befd654be8c0f349483ae8bcbd3d5b43c52928d2215", func := "cattlegrid/cattlegridlaw10.ImagePlain", spec := "imagePlain", unfollowed := true, recurses := true, apart := false }
def ImagePlainSaid : Prop := imagePlainRow.holds Tryz.pinned (OpenSpec.ofChange imagePlainSpec)

/-- ITS FALSE NEIGHBOUR: 'it returns false'. Refute it at one input. -/
def imagePlainWrong : ChangeSpec := { name := "imagePlain", fn := fun _ => fun
  | [d] => { results := [.lit (.bool false)], args := [d] }
  | _ => none }
def ImagePlainWrongFalsely : Prop := imagePlainRow.holds Tryz.pinned (OpenSpec.ofChange imagePlainWrong)

/- THE SECOND FORM. 'bulk': how many values and letters a reading holds, each counted each time it is reached (what is shared counts as often as it is met; a slice's spare places count too). A statement '..UptoSaid' is the law's where the arguments, and the package variables that the reading takes, are together of bulk at most 1048576: NARROWER than '..Said'. Prove '..Said' where nothing that the law and all that it calls make is longer than what came in: it says more and counts as full. Else prove '..UptoSaid'. A law counts once. -/
mutual
def uptoBulk {H : Type} : DataW H → Nat
  | .lit (.string bytes) => bytes.length + 1
  | .lit _ => 1
  | .nil => 1
  | .ptr d => uptoBulk d + 1
  | .slice elems spare => uptoBulkAll elems + uptoBulkAll spare + 1
  | .agg parts => uptoBulkAll parts + 1
  | .iface _ d => uptoBulk d + 1
  | .map entries => uptoBulkEntries entries + 1
  | .held _ => 1
def uptoBulkAll {H : Type} : List (DataW H) → Nat
  | [] => 0
  | d :: r => uptoBulk d + uptoBulkAll r
def uptoBulkEntries {H : Type} : List (Lit × DataW H) → Nat
  | [] => 0
  | x :: r => uptoBulkEntry x + uptoBulkEntries r
def uptoBulkEntry {H : Type} : Lit × DataW H → Nat
  | (.string bytes, d) => bytes.length + uptoBulk d + 1
  | (_, d) => uptoBulk d + 1
 end
def uptoSmall : (H : Type) → List (DataW H) → Bool := fun _ ds => decide (uptoBulkAll ds ≤ 1048576)
def OpenSpec.upto (s : _root_.Go.ChangeSpec) : _root_.Go.OpenSpec := { _root_.Go.OpenSpec.ofChange s with cond := some uptoSmall }

/-- 'cattlegridlaw10.ImageFormed', WHERE WHAT IT READS IS OF BULK AT MOST 1048576: true; the input reads as it did. -/
def imageFormedUptoRow : OpenClaim := { program := "ytknalmoackcpbaagreat", sum := "c7a59ccc902a767c870b2befd654be8c0f349483ae8bcbd3d5b43c52928d2215", func := "cattlegrid/cattlegridlaw10.ImageFormed", spec := "imageFormed", unfollowed := true, recurses := true, apart := false, narrowed := true }
def ImageFormedUptoSaid : Prop := imageFormedUptoRow.holds Tryz.pinned (OpenSpec.upto imageFormedSpec)

/-- 'cattlegridlaw10.ImageSaves', WHERE WHAT IT READS IS OF BULK AT MOST 1048576: true; the input reads as it did. -/
def imageSavesUptoRow : OpenClaim := { program := "ytknalmoackcpbaagreat", sum := "c7a59ccc902a767c870b2befd654be8c0f349483ae8bcbd3d5b43c52928d2215", func := "cattlegrid/cattlegridlaw10.ImageSaves", spec := "imageSaves", unfollowed := true, recurses := true, apart := false, narrowed := true }
def ImageSavesUptoSaid : Prop := imageSavesUptoRow.holds Tryz.pinned (OpenSpec.upto imageSavesSpec)

/-- 'cattlegridlaw10.ImageBack', WHERE WHAT IT READS IS OF BULK AT MOST 1048576: true; the input reads as it did. -/
def imageBackUptoRow : OpenClaim := { program := "ytknalmoackcpbaagreat", sum := "c7a59ccc902a767c870b2befd654be8c0f349483ae8bcbd3d5b43c52928d2215", func := "cattlegrid/cattlegridlaw10.ImageBack", spec := "imageBack", unfollowed := true, recurses := true, apart := false, narrowed := true }
def ImageBackUptoSaid : Prop := imageBackUptoRow.holds Tryz.pinned (OpenSpec.upto imageBackSpec)

/-- 'cattlegridlaw10.ImagePlain', WHERE WHAT IT READS IS OF BULK AT MOST 1048576: true; the input reads as it did. -/
def imagePlainUptoRow : OpenClaim := { program := "ytknalmoackcpbaagreat", sum := "c7a59ccc902a767c870b2befd654be8c0f349483ae8bcbd3d5b43c52928d2215", func := "cattlegrid/cattlegridlaw10.ImagePlain", spec := "imagePlain", unfollowed := true, recurses := true, apart := false, narrowed := true }
def ImagePlainUptoSaid : Prop := imagePlainUptoRow.holds Tryz.pinned (OpenSpec.upto imagePlainSpec)

end Rows
end Go.Proofs.YtknalmoackcpbaaGreat
