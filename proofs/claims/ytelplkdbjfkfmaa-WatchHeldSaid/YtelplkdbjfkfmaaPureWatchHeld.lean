/- WatchHeld: What is held is told as soon as it may be, and once. Conditions: none beyond the statement's own. -/
import Derived.Test.YtelplkdbjfkfmaaPWatchHeldx4
namespace Go.Proofs.Ytelplkdbjfkfmaa.Pure
open Go.RowKit Go.Proofs.Ytelplkdbjfkfmaa.PWatchHeld Go.Proofs.YtelplkdbjfkfmaaW.PrintWords Go.Proofs.YtelplkdbjfkfmaaW.PrintLast
set_option linter.unusedVariables false
set_option linter.unusedSimpArgs false

theorem WatchHeld : signalboxlaw23_WatchHeld.Pure := by
  intro a0 a1 h0 h1
  rfl

end Go.Proofs.Ytelplkdbjfkfmaa.Pure
