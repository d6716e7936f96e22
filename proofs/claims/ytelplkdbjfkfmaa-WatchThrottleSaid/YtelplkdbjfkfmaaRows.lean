/-
  No cell of these rows narrows 'for every input' (looked for: loops, veiled, ifaces, maps, wideKeys, modest, calm, conditions, laid).
  DERIVED. THE GIVEN ROWS OF THIS SEAT. 5 by the template 'for every input the law returns true; each argument reads behind the call as it read before'; 0 by the template 'total and deterministic' (their statements: YtelplkdbjfkfmaaTotals.lean).
  GIVEN WITH THE SEED: the statements are not yours to turn. If you find one false, say at which input.
  Laid BY PROGRAM, IN A SANDBOX (cutbox-rows.mjs): the forced cells as the released guide's own fill.sh prints them over the translation 6a5e8d6cbde47844… (all of the seat's roots in one cut). By AI agents, Wed Nov 11 2026. No macro, syntax, notation, axiom, sorry.
-/
import Derived.Test.YtelplkdbjfkfmaaChecked
import GoSem.Claim
import GoSem.ClaimJoined
import GoSem.ClaimMapViews
import Derived.JoinedTies
import Derived.KernelRfl
namespace Go.Proofs.Ytelplkdbjfkfmaa
/- THE CELL 'sum', in the pinned program and in every row, IS THE sha256 OF THE DUMP (.gsa) THAT YtelplkdbjfkfmaaProg.lean LOADS. Nothing in Lean hashes anything: it is a label: what it is worth is what the hold of that sum in a sandbox is worth. -/
noncomputable def Try.pinned : Pinned := { name := "ytelplkdbjfkfmaa", sum := "6a5e8d6cbde47844278138867714688c7232317d554a4e62edbc20e9f28c1aa6", checked := Try.checked }
namespace Rows
def none {H : Type} : Left H := { results := [], args := [] }

/-- 'signalboxlaw23.WatchHeld': WHATEVER THE INPUT: true; the input reads as it did. -/
def watchHeldSpec : ChangeSpec := { name := "watchHeld", fn := fun _ => fun
  | [d1, d2] => { results := [.lit (.bool true)], args := [d1, d2] }
  | _ => none }
def watchHeldRow : OpenClaim := { program := "ytelplkdbjfkfmaa", sum := "6a5e8d6cbde47844278138867714688c7232317d554a4e62edbc20e9f28c1aa6", func := "signalbox/signalboxlaw23.WatchHeld", spec := "watchHeld", unfollowed := true, recurses := true, apart := false }
def WatchHeldSaid : Prop := watchHeldRow.holds Try.pinned (OpenSpec.ofChange watchHeldSpec)

/-- ITS FALSE NEIGHBOUR: 'it returns false'. Refute it at one input. -/
def watchHeldWrong : ChangeSpec := { name := "watchHeld", fn := fun _ => fun
  | [d1, d2] => { results := [.lit (.bool false)], args := [d1, d2] }
  | _ => none }
def WatchHeldWrongFalsely : Prop := watchHeldRow.holds Try.pinned (OpenSpec.ofChange watchHeldWrong)

/-- 'signalboxlaw23.WatchSilence': WHATEVER THE INPUT: true; the input reads as it did. -/
def watchSilenceSpec : ChangeSpec := { name := "watchSilence", fn := fun _ => fun
  | [d1, d2] => { results := [.lit (.bool true)], args := [d1, d2] }
  | _ => none }
def watchSilenceRow : OpenClaim := { program := "ytelplkdbjfkfmaa", sum := "6a5e8d6cbde47844278138867714688c7232317d554a4e62edbc20e9f28c1aa6", func := "signalbox/signalboxlaw23.WatchSilence", spec := "watchSilence", unfollowed := true, recurses := true, apart := false }
def WatchSilenceSaid : Prop := watchSilenceRow.holds Try.pinned (OpenSpec.ofChange watchSilenceSpec)

/-- ITS FALSE NEIGHBOUR: 'it returns false'. Refute it at one input. -/
def watchSilenceWrong : ChangeSpec := { name := "watchSilence", fn := fun _ => fun
  | [d1, d2] => { results := [.lit (.bool false)], args := [d1, d2] }
  | _ => none }
def WatchSilenceWrongFalsely : Prop := watchSilenceRow.holds Try.pinned (OpenSpec.ofChange watchSilenceWrong)

/-- 'signalboxlaw23.WatchThrottle': WHATEVER THE INPUT: true; the input reads as it did. -/
def watchThrottleSpec : ChangeSpec := { name := "watchThrottle", fn := fun _ => fun
  | [d1, d2, d3] => { results := [.lit (.bool true)], args := [d1, d2, d3] }
  | _ => none }
def watchThrottleRow : OpenClaim := { program := "ytelplkdbjfkfmaa", sum := "6a5e8d6cbde47844278138867714688c7232317d554a4e62edbc20e9f28c1aa6", func := "signalbox/signalboxlaw23.WatchThrottle", spec := "watchThrottle", unfollowed := true, recurses := true, apart := false }
def WatchThrottleSaid : Prop := watchThrottleRow.holds Try.pinned (OpenSpec.ofChange watchThrottleSpec)

/-- ITS FALSE NEIGHBOUR: 'it returns false'. Refute it at one input. -/
def watchThrottleWrong : ChangeSpec := { name := "watchThrottle", fn := fun _ => fun
  | [d1, d2, d3] => { results := [.lit (.bool false)], args := [d1, d2, d3] }
  | _ => none }
def WatchThrottleWrongFalsely : Prop := watchThrottleRow.holds Try.pinned (OpenSpec.ofChange watchThrottleWrong)

/-- 'signalboxlaw23.WatchPlays': WHATEVER THE INPUT: true; the input reads as it did. -/
def watchPlaysSpec : ChangeSpec := { name := "watchPlays", fn := fun _ => fun
  | [d1, d2, d3] => { results := [.lit (.bool true)], args := [d1, d2, d3] }
  | _ => none }
def watchPlaysRow : OpenClaim := { program := "ytelplkdbjfkfmaa", sum := "6a5e8d6cbde47844278138867714688c7232317d554a4e62edbc20e9f28c1aa6", func := "signalbox/signalboxlaw23.WatchPlays", spec := "watchPlays", unfollowed := true, recurses := true, apart := false }
def WatchPlaysSaid : Prop := watchPlaysRow.holds Try.pinned (OpenSpec.ofChange watchPlaysSpec)

/-- ITS FALSE NEIGHBOUR: 'it returns false'. Refute it at one input. -/
def watchPlaysWrong : ChangeSpec := { name := "watchPlays", fn := fun _ => fun
  | [d1, d2, d3] => { results := [.lit (.bool false)], args := [d1, d2, d3] }
  | _ => none }
def WatchPlaysWrongFalsely : Prop := watchPlaysRow.holds Try.pinned (OpenSpec.ofChange watchPlaysWrong)

/-- 'signalboxlaw23.WatchNil': WHATEVER THE INPUT: true; the input reads as it did. -/
def watchNilSpec : ChangeSpec := { name := "watchNil", fn := fun _ => fun
  | [d1, d2] => { results := [.lit (.bool true)], args := [d1, d2] }
  | _ => none }
def watchNilRow : OpenClaim := { program := "ytelplkdbjfkfmaa", sum := "6a5e8d6cbde47844278138867714688c7232317d554a4e62edbc20e9f28c1aa6", func := "signalbox/signalboxlaw23.WatchNil", spec := "watchNil", unfollowed := true, recurses := true, apart := false }
def WatchNilSaid : Prop := watchNilRow.holds Try.pinned (OpenSpec.ofChange watchNilSpec)

/-- ITS FALSE NEIGHBOUR: 'it returns false'. Refute it at one input. -/
def watchNilWrong : ChangeSpec := { name := "watchNil", fn := fun _ => fun
  | [d1, d2] => { results := [.lit (.bool false)], args := [d1, d2] }
  | _ => none }
def WatchNilWrongFalsely : Prop := watchNilRow.holds Try.pinned (OpenSpec.ofChange watchNilWrong)

/- THE SECOND FORM. 'bulk': how many values and letters a reading holds, each counted each time it is reached (what is shared counts as often as it is met; a slice's spare places count too). A statement '..UptoSaid' is the law's where the arguments, and the package variables that the reading takes, are together of bulk at most 1048576: NARROWER than '..Said'. Prove '..Said' where nothing that the law and all that it calls make is longer than what came in: it says more and counts as full. Else prove '..UptoSaid'. A law counts once. -/
mutual
def uptoBulk {H : Type} : DataW H → Nat
  | .lit (.string bytes) => bytes.length + 1
  | .lit _ => 1
  | .nil => 1
  | .ptr d => uptoBulk d + 1
  | .slice elems spare => uptoBulkAll elems + uptoBulkAll spare + 1
  | .agg parts => uptoBulkAll parts + 1
  | .iface _ d => uptoBulk d + 1
  | .map entries => uptoBulkEntries entries + 1
  | .held _ => 1
def uptoBulkAll {H : Type} : List (DataW H) → Nat
  | [] => 0
  | d :: r => uptoBulk d + uptoBulkAll r
def uptoBulkEntries {H : Type} : List (Lit × DataW H) → Nat
  | [] => 0
  | x :: r => uptoBulkEntry x + uptoBulkEntries r
def uptoBulkEntry {H : Type} : Lit × DataW H → Nat
  | (.string bytes, d) => bytes.length + uptoBulk d + 1
  | (_, d) => uptoBulk d + 1
 end
def uptoSmall : (H : Type) → List (DataW H) → Bool := fun _ ds => decide (uptoBulkAll ds ≤ 1048576)
def OpenSpec.upto (s : _root_.Go.ChangeSpec) : _root_.Go.OpenSpec := { _root_.Go.OpenSpec.ofChange s with cond := some uptoSmall }

/-- 'signalboxlaw23.WatchHeld', WHERE WHAT IT READS IS OF BULK AT MOST 1048576: true; the input reads as it did. -/
def watchHeldUptoRow : OpenClaim := { program := "ytelplkdbjfkfmaa", sum := "6a5e8d6cbde47844278138867714688c7232317d554a4e62edbc20e9f28c1aa6", func := "signalbox/signalboxlaw23.WatchHeld", spec := "watchHeld", unfollowed := true, recurses := true, apart := false, narrowed := true }
def WatchHeldUptoSaid : Prop := watchHeldUptoRow.holds Try.pinned (OpenSpec.upto watchHeldSpec)

/-- 'signalboxlaw23.WatchSilence', WHERE WHAT IT READS IS OF BULK AT MOST 1048576: true; the input reads as it did. -/
def watchSilenceUptoRow : OpenClaim := { program := "ytelplkdbjfkfmaa", sum := "6a5e8d6cbde47844278138867714688c7232317d554a4e62edbc20e9f28c1aa6", func := "signalbox/signalboxlaw23.WatchSilence", spec := "watchSilence", unfollowed := true, recurses := true, apart := false, narrowed := true }
def WatchSilenceUptoSaid : Prop := watchSilenceUptoRow.holds Try.pinned (OpenSpec.upto watchSilenceSpec)

/-- 'signalboxlaw23.WatchThrottle', WHERE WHAT IT READS IS OF BULK AT MOST 1048576: true; the input reads as it did. -/
def watchThrottleUptoRow : OpenClaim := { program := "ytelplkdbjfkfmaa", sum := "6a5e8d6cbde47844278138867714688c7232317d554a4e62edbc20e9f28c1aa6", func := "signalbox/signalboxlaw23.WatchThrottle", spec := "watchThrottle", unfollowed := true, recurses := true, apart := false, narrowed := true }
def WatchThrottleUptoSaid : Prop := watchThrottleUptoRow.holds Try.pinned (OpenSpec.upto watchThrottleSpec)

/-- 'signalboxlaw23.WatchPlays', WHERE WHAT IT READS IS OF BULK AT MOST 1048576: true; the input reads as it did. -/
def watchPlaysUptoRow : OpenClaim := { program := "ytelplkdbjfkfmaa", sum := "6a5e8d6cbde47844278138867714688c7232317d554a4e62edbc20e9f28c1aa6", func := "signalbox/signalboxlaw23.WatchPlays", spec := "watchPlays", unfollowed := true, recurses := true, apart := false, narrowed := true }
def WatchPlaysUptoSaid : Prop := watchPlaysUptoRow.holds Try.pinned (OpenSpec.upto watchPlaysSpec)

/-- 'signalboxlaw23.WatchNil', WHERE WHAT IT READS IS OF BULK AT MOST 1048576: true; the input reads as it did. -/
def watchNilUptoRow : OpenClaim := { program := "ytelplkdbjfkfmaa", sum := "6a5e8d6cbde47844278138867714688c7232317d554a4e62edbc20e9f28c1aa6", func := "signalbox/signalboxlaw23.WatchNil", spec := "watchNil", unfollowed := true, recurses := true, apart := false, narrowed := true }
def WatchNilUptoSaid : Prop := watchNilUptoRow.holds Try.pinned (OpenSpec.upto watchNilSpec)

end Rows
end Go.Proofs.Ytelplkdbjfkfmaa
