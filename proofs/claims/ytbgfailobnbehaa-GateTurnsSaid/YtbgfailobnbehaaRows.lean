/-
  No cell of these rows narrows 'for every input' (looked for: loops, veiled, ifaces, maps, wideKeys, modest, calm, conditions, laid).
  DERIVED. THE GIVEN ROWS OF THIS SEAT. 4 by the template 'for every input the law returns true; each argument reads behind the call as it read before'; 0 by the template 'total and deterministic' (their statements: YtbgfailobnbehaaTotals.lean).
  GIVEN WITH THE SEED: the statements are not yours to turn. If you find one false, say at which input.
  Laid BY PROGRAM, IN A SANDBOX (cutbox-rows.mjs): the forced cells as the released guide's own fill.sh prints them over the translation 8b9d870c83789b6d… (all of the seat's roots in one cut). By AI agents, Wed Nov 11 2026. No macro, syntax, notation, axiom, sorry.
-/
import Derived.Test.YtbgfailobnbehaaChecked
import GoSem.Claim
import GoSem.ClaimJoined
import GoSem.ClaimMapViews
import Derived.JoinedTies
import Derived.KernelRfl
namespace Go.Proofs.Ytbgfailobnbehaa
/- THE CELL 'sum', in the pinned program and in every row, IS THE sha256 OF THE DUMP (.gsa) THAT YtbgfailobnbehaaProg.lean LOADS. Nothing in Lean hashes anything: it is a label: what it is worth is what the hold of that sum in a sandbox is worth. -/
noncomputable def Try.pinned : Pinned := { name := "ytbgfailobnbehaa", sum := "8b9d870c83789b6d34c86f8b4e675eb8b4f4b9d80cc59b857380fa40d2bbf9c3", checked := Try.checked }
namespace Rows
def none {H : Type} : Left H := { results := [], args := [] }

/-- 'signalboxlaw34.GateBack': WHATEVER THE INPUT: true; the input reads as it did. -/
def gateBackSpec : ChangeSpec := { name := "gateBack", fn := fun _ => fun
  | [d1, d2] => { results := [.lit (.bool true)], args := [d1, d2] }
  | _ => none }
def gateBackRow : OpenClaim := { program := "ytbgfailobnbehaa", sum := "8b9d870c83789b6d34c86f8b4e675eb8b4f4b9d80cc59b857380fa40d2bbf9c3", func := "signalbox/signalboxlaw34.GateBack", spec := "gateBack", unfollowed := true, recurses := true, plainKeys := false, apart := false }
def GateBackSaid : Prop := gateBackRow.holds Try.pinned (OpenSpec.ofChange gateBackSpec)

/-- ITS FALSE NEIGHBOUR: 'it returns false'. Refute it at one input. -/
def gateBackWrong : ChangeSpec := { name := "gateBack", fn := fun _ => fun
  | [d1, d2] => { results := [.lit (.bool false)], args := [d1, d2] }
  | _ => none }
def GateBackWrongFalsely : Prop := gateBackRow.holds Try.pinned (OpenSpec.ofChange gateBackWrong)

/-- 'signalboxlaw34.GateTurns': WHATEVER THE INPUT: true; the input reads as it did. -/
def gateTurnsSpec : ChangeSpec := { name := "gateTurns", fn := fun _ => fun
  | [d1, d2, d3, d4] => { results := [.lit (.bool true)], args := [d1, d2, d3, d4] }
  | _ => none }
def gateTurnsRow : OpenClaim := { program := "ytbgfailobnbehaa", sum := "8b9d870c83789b6d34c86f8b4e675eb8b4f4b9d80cc59b857380fa40d2bbf9c3", func := "signalbox/signalboxlaw34.GateTurns", spec := "gateTurns", unfollowed := true, recurses := true, plainKeys := false, apart := false }
def GateTurnsSaid : Prop := gateTurnsRow.holds Try.pinned (OpenSpec.ofChange gateTurnsSpec)

/-- ITS FALSE NEIGHBOUR: 'it returns false'. Refute it at one input. -/
def gateTurnsWrong : ChangeSpec := { name := "gateTurns", fn := fun _ => fun
  | [d1, d2, d3, d4] => { results := [.lit (.bool false)], args := [d1, d2, d3, d4] }
  | _ => none }
def GateTurnsWrongFalsely : Prop := gateTurnsRow.holds Try.pinned (OpenSpec.ofChange gateTurnsWrong)

/-- 'signalboxlaw34.GateReaches': WHATEVER THE INPUT: true; the input reads as it did. -/
def gateReachesSpec : ChangeSpec := { name := "gateReaches", fn := fun _ => fun
  | [d1, d2, d3] => { results := [.lit (.bool true)], args := [d1, d2, d3] }
  | _ => none }
def gateReachesRow : OpenClaim := { program := "ytbgfailobnbehaa", sum := "8b9d870c83789b6d34c86f8b4e675eb8b4f4b9d80cc59b857380fa40d2bbf9c3", func := "signalbox/signalboxlaw34.GateReaches", spec := "gateReaches", unfollowed := true, recurses := true, plainKeys := false, apart := false }
def GateReachesSaid : Prop := gateReachesRow.holds Try.pinned (OpenSpec.ofChange gateReachesSpec)

/-- ITS FALSE NEIGHBOUR: 'it returns false'. Refute it at one input. -/
def gateReachesWrong : ChangeSpec := { name := "gateReaches", fn := fun _ => fun
  | [d1, d2, d3] => { results := [.lit (.bool false)], args := [d1, d2, d3] }
  | _ => none }
def GateReachesWrongFalsely : Prop := gateReachesRow.holds Try.pinned (OpenSpec.ofChange gateReachesWrong)

/-- 'signalboxlaw34.GateOnce': WHATEVER THE INPUT: true; the input reads as it did. -/
def gateOnceSpec : ChangeSpec := { name := "gateOnce", fn := fun _ => fun
  | [d1, d2, d3, d4] => { results := [.lit (.bool true)], args := [d1, d2, d3, d4] }
  | _ => none }
def gateOnceRow : OpenClaim := { program := "ytbgfailobnbehaa", sum := "8b9d870c83789b6d34c86f8b4e675eb8b4f4b9d80cc59b857380fa40d2bbf9c3", func := "signalbox/signalboxlaw34.GateOnce", spec := "gateOnce", unfollowed := true, recurses := true, plainKeys := false, apart := false }
def GateOnceSaid : Prop := gateOnceRow.holds Try.pinned (OpenSpec.ofChange gateOnceSpec)

/-- ITS FALSE NEIGHBOUR: 'it returns false'. Refute it at one input. -/
def gateOnceWrong : ChangeSpec := { name := "gateOnce", fn := fun _ => fun
  | [d1, d2, d3, d4] => { results := [.lit (.bool false)], args := [d1, d2, d3, d4] }
  | _ => none }
def GateOnceWrongFalsely : Prop := gateOnceRow.holds Try.pinned (OpenSpec.ofChange gateOnceWrong)

/- THE SECOND FORM. 'bulk': how many values and letters a reading holds, each counted each time it is reached (what is shared counts as often as it is met; a slice's spare places count too). A statement '..UptoSaid' is the law's where the arguments, and the package variables that the reading takes, are together of bulk at most 1048576: NARROWER than '..Said'. Prove '..Said' where nothing that the law and all that it calls make is longer than what came in: it says more and counts as full. Else prove '..UptoSaid'. A law counts once. -/
mutual
def uptoBulk {H : Type} : DataW H → Nat
  | .lit (.string bytes) => bytes.length + 1
  | .lit _ => 1
  | .nil => 1
  | .ptr d => uptoBulk d + 1
  | .slice elems spare => uptoBulkAll elems + uptoBulkAll spare + 1
  | .agg parts => uptoBulkAll parts + 1
  | .iface _ d => uptoBulk d + 1
  | .map entries => uptoBulkEntries entries + 1
  | .held _ => 1
def uptoBulkAll {H : Type} : List (DataW H) → Nat
  | [] => 0
  | d :: r => uptoBulk d + uptoBulkAll r
def uptoBulkEntries {H : Type} : List (Lit × DataW H) → Nat
  | [] => 0
  | x :: r => uptoBulkEntry x + uptoBulkEntries r
def uptoBulkEntry {H : Type} : Lit × DataW H → Nat
  | (.string bytes, d) => bytes.length + uptoBulk d + 1
  | (_, d) => uptoBulk d + 1
 end
def uptoSmall : (H : Type) → List (DataW H) → Bool := fun _ ds => decide (uptoBulkAll ds ≤ 1048576)
def OpenSpec.upto (s : _root_.Go.ChangeSpec) : _root_.Go.OpenSpec := { _root_.Go.OpenSpec.ofChange s with cond := some uptoSmall }

/-- 'signalboxlaw34.GateBack', WHERE WHAT IT READS IS OF BULK AT MOST 1048576: true; the input reads as it did. -/
def gateBackUptoRow : OpenClaim := { program := "ytbgfailobnbehaa", sum := "8b9d870c83789b6d34c86f8b4e675eb8b4f4b9d80cc59b857380fa40d2bbf9c3", func := "signalbox/signalboxlaw34.GateBack", spec := "gateBack", unfollowed := true, recurses := true, plainKeys := false, apart := false, narrowed := true }
def GateBackUptoSaid : Prop := gateBackUptoRow.holds Try.pinned (OpenSpec.upto gateBackSpec)

/-- 'signalboxlaw34.GateTurns', WHERE WHAT IT READS IS OF BULK AT MOST 1048576: true; the input reads as it did. -/
def gateTurnsUptoRow : OpenClaim := { program := "ytbgfailobnbehaa", sum := "8b9d870c83789b6d34c86f8b4e675eb8b4f4b9d80cc59b857380fa40d2bbf9c3", func := "signalbox/signalboxlaw34.GateTurns", spec := "gateTurns", unfollowed := true, recurses := true, plainKeys := false, apart := false, narrowed := true }
def GateTurnsUptoSaid : Prop := gateTurnsUptoRow.holds Try.pinned (OpenSpec.upto gateTurnsSpec)

/-- 'signalboxlaw34.GateReaches', WHERE WHAT IT READS IS OF BULK AT MOST 1048576: true; the input reads as it did. -/
def gateReachesUptoRow : OpenClaim := { program := "ytbgfailobnbehaa", sum := "8b9d870c83789b6d34c86f8b4e675eb8b4f4b9d80cc59b857380fa40d2bbf9c3", func := "signalbox/signalboxlaw34.GateReaches", spec := "gateReaches", unfollowed := true, recurses := true, plainKeys := false, apart := false, narrowed := true }
def GateReachesUptoSaid : Prop := gateReachesUptoRow.holds Try.pinned (OpenSpec.upto gateReachesSpec)

/-- 'signalboxlaw34.GateOnce', WHERE WHAT IT READS IS OF BULK AT MOST 1048576: true; the input reads as it did. -/
def gateOnceUptoRow : OpenClaim := { program := "ytbgfailobnbehaa", sum := "8b9d870c83789b6d34c86f8b4e675eb8b4f4b9d80cc59b857380fa40d2bbf9c3", func := "signalbox/signalboxlaw34.GateOnce", spec := "gateOnce", unfollowed := true, recurses := true, plainKeys := false, apart := false, narrowed := true }
def GateOnceUptoSaid : Prop := gateOnceUptoRow.holds Try.pinned (OpenSpec.upto gateOnceSpec)

end Rows
end Go.Proofs.Ytbgfailobnbehaa
