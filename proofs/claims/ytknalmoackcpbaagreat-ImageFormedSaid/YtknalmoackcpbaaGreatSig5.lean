/- Package sigs: Get, GetField. -/
import Derived.Test.YtknalmoackcpbaaGreatAwGo
import Derived.Test.YtknalmoackcpbaaGreatSig4
set_option linter.unusedSimpArgs false
set_option linter.unusedVariables false
set_option maxRecDepth 100000
set_option maxHeartbeats 3200000
namespace Go.Proofs.YtknalmoackcpbaaGreat
namespace Sg
open Go Go.AW
/-! an error is one -/
def resE {α : Type} : Except Int α → Int
  | .ok _ => 0
  | .error e => e
end Sg
end Go.Proofs.YtknalmoackcpbaaGreat
