/- Package sigs: GetSig, GetLocals. -/
import Derived.Test.YtknalmoackcpbaaGreatAwGo
import Derived.Test.YtknalmoackcpbaaGreatSig5
set_option linter.unusedSimpArgs false
set_option linter.unusedVariables false
set_option maxRecDepth 100000
set_option maxHeartbeats 3200000
namespace Go.Proofs.YtknalmoackcpbaaGreat
namespace Sg
open Go Go.AW
end Sg
end Go.Proofs.YtknalmoackcpbaaGreat
