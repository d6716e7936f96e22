/- WatchNil: A job that is none hears nothing, and tells nothing. Conditions: none beyond the statement's own. -/
import Derived.Test.YtelplkdbjfkfmaaPWatchNilx4
namespace Go.Proofs.Ytelplkdbjfkfmaa.Pure
open Go.RowKit Go.Proofs.Ytelplkdbjfkfmaa.PWatchNil Go.Proofs.YtelplkdbjfkfmaaW.PrintWords Go.Proofs.YtelplkdbjfkfmaaW.PrintLast
set_option linter.unusedVariables false
set_option linter.unusedSimpArgs false

theorem WatchNil : signalboxlaw23_WatchNil.Pure := by
  intro a0 a1_0 a1_1 a1_2 a1_3 h0 h1 h2 h3 h4
  rfl

end Go.Proofs.Ytelplkdbjfkfmaa.Pure
