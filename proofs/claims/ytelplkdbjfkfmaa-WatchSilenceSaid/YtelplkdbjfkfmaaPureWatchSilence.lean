/- WatchSilence: Silence is told once in each time of silence. Conditions: none beyond the statement's own. -/
import Derived.Test.YtelplkdbjfkfmaaPWatchSilencex5
namespace Go.Proofs.Ytelplkdbjfkfmaa.Pure
open Go.RowKit Go.Proofs.Ytelplkdbjfkfmaa.PWatchSilence Go.Proofs.YtelplkdbjfkfmaaW.PrintWords Go.Proofs.YtelplkdbjfkfmaaW.PrintLast
set_option linter.unusedVariables false
set_option linter.unusedSimpArgs false

theorem WatchSilence : signalboxlaw23_WatchSilence.Pure := by
  intro a0 l1 h0 h1 h2 h3
  rfl

end Go.Proofs.Ytelplkdbjfkfmaa.Pure
