-- Laid by a program of the session over the kit's print. Not trusted: Lean checks it.
import Derived.Test.YtbgfailobnbehaaProg
import Derived.Below
import Derived.Deep.Draws
import Derived.Deep.AppendLies
import Derived.Maps.AppendAt
import Derived.OwnWalk
import Derived.Laws.BytesArg
import Derived.Laws.MakeOwn
import Derived.Laws.OwnMore
import Derived.Deep.OwnRows
import Derived.Tactics
import Derived.Lib.ConvBytes
import Derived.Laws.Slices
import Derived.WalkKit
import Derived.KernelRfl
import Derived.RowKit3
import Derived.Deep.LoopGhost
import Derived.Deep.QuietTactic
import Derived.BigQuiet
import Derived.WideLaws
import Derived.Deep.DeepCutAuto
import Derived.Deep.CutBlock
import Derived.Deep.RegionHeld3
import Derived.Laws.Rows
import Derived.Lib.AppendStr
import Derived.ArgAppend
import Derived.Laws.IdiomCopy
import Derived.OrdersHeld
import Derived.Laws.BitsLemmas
import Derived.RowKit
import Derived.Deep.QuietTactic
import Derived.Laws.RangeString
import Derived.LoopN
import Derived.RegionTactic
import Derived.ScopeJumps
import Derived.WalkMore
import Derived.Test.YtbgfailobnbehaaWWords
import Derived.Test.YtbgfailobnbehaaWLast
import Derived.Test.YtbgfailobnbehaaWTab
import Derived.Test.YtbgfailobnbehaaWFour
import Derived.Test.YtbgfailobnbehaaWQPut
import Derived.Test.YtbgfailobnbehaaWApart
import Derived.Test.YtbgfailobnbehaaWArr
import Derived.Test.YtbgfailobnbehaaWZeros
import Derived.Test.YtbgfailobnbehaaWFoot
import Derived.Test.YtbgfailobnbehaaWKept
import Derived.Test.YtbgfailobnbehaaWShare
import Derived.Test.YtbgfailobnbehaaWN
import Derived.Test.YtbgfailobnbehaaWFootNe
import Derived.Test.YtbgfailobnbehaaWAt
import Derived.Test.YtbgfailobnbehaaWEqStruct
import Derived.Test.YtbgfailobnbehaaWRepsOne
import Derived.Test.YtbgfailobnbehaaWInv
import Derived.Test.YtbgfailobnbehaaWInvWords
import Derived.Test.YtbgfailobnbehaaWGuard
import Derived.Test.YtbgfailobnbehaaWNEv
import Derived.Test.YtbgfailobnbehaaWMore
namespace Go.Proofs.Ytbgfailobnbehaa.PGateBack
open Go.RowKit Go.Proofs.YtbgfailobnbehaaW.PrintWords Go.Proofs.YtbgfailobnbehaaW.PrintLast Go.Proofs.YtbgfailobnbehaaW.PrintMore
attribute [local go_sem] max2_int min2_int max_two min_two max_three min_three max_four min_four   -- for this text's walks alone
set_option linter.unusedVariables false
set_option linter.unusedSimpArgs false



def errW : Option Int → Value
  | none => .nilIface
  | some c => .iface 0 (.int .i64 c)
theorem errW_none : errW none = .nilIface := rfl
theorem errW_some (c : Int) : errW (some c) = .iface 0 (.int .i64 c) := rfl

-- the values' own types

-- words of the hand-written texts
theorem blk_reads {w : World} {g t : Nat} {k : IntKind} {xs : List Int} (h : w.heap[g]? = some (.cells (xs.map (Value.int k)).toArray t (0, 0))) (hl : xs.length ≤ 9223372036854775807) : (Kd.int k).C w (some ⟨g, 0, none⟩) xs.length xs := by
  refine ⟨rfl, hl, fun _ => ⟨_, rfl, ?_⟩⟩
  intro j p hj
  refine ⟨[.int k p], rfl, rfl, ?_⟩
  intro i u hi
  cases i with
  | zero =>
    have := blk_cell h j
    simp only [List.getElem?_toArray, List.getElem?_map, hj, Option.map_some] at this
    simp only [List.getElem?_cons_zero, Option.some.injEq] at hi
    subst hi
    have e : (⟨g, 0, none⟩ : Addr).add (j * (Kd.int k).sz + 0) = ⟨g, j, none⟩ := by
      have : (Kd.int k).sz = 1 := rfl
      rw [this, Nat.mul_one, Nat.add_zero]
      unfold Addr.add
      by_cases hj : j = 0
      · simp [hj]
      · simp [hj]
    rw [e]
    exact this
  | succ i => simp at hi

theorem bt_nat (s : ByteArray) (j : Nat) (h : j < s.size) : (s[j].toNat : Int) = bt s j := bt_at s j (by simpa using h)

end Go.Proofs.Ytbgfailobnbehaa.PGateBack
