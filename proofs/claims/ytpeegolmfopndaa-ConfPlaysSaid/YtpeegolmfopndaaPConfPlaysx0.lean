-- Laid by a program of the session over the kit's print. Not trusted: Lean checks it.
import Derived.Test.YtpeegolmfopndaaProg
import Derived.Below
import Derived.Deep.Draws
import Derived.Deep.AppendLies
import Derived.Maps.AppendAt
import Derived.OwnWalk
import Derived.Laws.BytesArg
import Derived.Laws.MakeOwn
import Derived.Laws.OwnMore
import Derived.Deep.OwnRows
import Derived.Tactics
import Derived.Lib.ConvBytes
import Derived.Laws.Slices
import Derived.WalkKit
import Derived.KernelRfl
import Derived.RowKit3
import Derived.Deep.LoopGhost
import Derived.Deep.QuietTactic
import Derived.BigQuiet
import Derived.WideLaws
import Derived.Deep.DeepCutAuto
import Derived.Deep.CutBlock
import Derived.Deep.RegionHeld3
import Derived.Laws.Rows
import Derived.Lib.AppendStr
import Derived.ArgAppend
import Derived.Laws.IdiomCopy
import Derived.OrdersHeld
import Derived.Laws.BitsLemmas
import Derived.RowKit
import Derived.Test.YtpeegolmfopndaaWWords
import Derived.Test.YtpeegolmfopndaaWLast
import Derived.Test.YtpeegolmfopndaaWTab
import Derived.Test.YtpeegolmfopndaaWFour
import Derived.Test.YtpeegolmfopndaaWQPut
import Derived.Test.YtpeegolmfopndaaWApart
import Derived.Test.YtpeegolmfopndaaWArr
import Derived.Test.YtpeegolmfopndaaWZeros
import Derived.Test.YtpeegolmfopndaaWFoot
import Derived.Test.YtpeegolmfopndaaWKept
import Derived.Test.YtpeegolmfopndaaWShare
import Derived.Test.YtpeegolmfopndaaWN
import Derived.Test.YtpeegolmfopndaaWFootNe
import Derived.Test.YtpeegolmfopndaaWAt
import Derived.Test.YtpeegolmfopndaaWEqStruct
import Derived.Test.YtpeegolmfopndaaWRepsOne
import Derived.Test.YtpeegolmfopndaaWInv
import Derived.Test.YtpeegolmfopndaaWInvWords
import Derived.Test.YtpeegolmfopndaaWGuard
import Derived.Test.YtpeegolmfopndaaWNEv
import Derived.Test.YtpeegolmfopndaaWMore
namespace Go.Proofs.Ytpeegolmfopndaa.PConfPlays
open Go.RowKit Go.Proofs.YtpeegolmfopndaaW.PrintWords Go.Proofs.YtpeegolmfopndaaW.PrintLast Go.Proofs.YtpeegolmfopndaaW.PrintMore
attribute [local go_sem] max2_int min2_int max_two min_two max_three min_three max_four min_four   -- for this text's walks alone
set_option linter.unusedVariables false
set_option linter.unusedSimpArgs false



def errW : Option Int → Value
  | none => .nilIface
  | some c => .iface 0 (.int .i64 c)
theorem errW_none : errW none = .nilIface := rfl
theorem errW_some (c : Int) : errW (some c) = .iface 0 (.int .i64 c) := rfl

-- the values' own types

end Go.Proofs.Ytpeegolmfopndaa.PConfPlays
