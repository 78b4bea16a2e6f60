/- The two examples of chapter 10 hold: the run is reckoned. -/
import Derived.Test.YtknalmoackcpbaaGreatWr
import Derived.KernelRfl
set_option linter.unusedVariables false
namespace Go.Proofs.YtknalmoackcpbaaGreat
open Go Go.AW
def isT : Ev.Res → Bool
  | .ok (.bool true) _ => true
  | _ => false
theorem wakes_run : isT (Ev.runF Tryz.prog Wr.orc 1000 7 [] Ev.hp0) = true := by kernel_rfl
theorem wakes_ok (σ : AS) : ACalls Tryz.prog 7 [] σ (fun r σ' => r = .sc (.bool true) ∧ AS.le σ σ') No := by
  have h := wakes_run
  unfold isT at h
  split at h
  · rename_i H hr
    exact Ev.closed Wr.mixed Wr.orc_ok hr σ
  · cases h
end Go.Proofs.YtknalmoackcpbaaGreat
