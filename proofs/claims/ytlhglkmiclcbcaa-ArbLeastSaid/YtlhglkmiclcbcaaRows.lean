/-
  No cell of these rows narrows 'for every input' (looked for: loops, veiled, ifaces, maps, wideKeys, modest, calm, conditions, laid).
  DERIVED. THE GIVEN ROWS OF THIS SEAT. 5 by the template 'for every input the law returns true; each argument reads behind the call as it read before'; 0 by the template 'total and deterministic' (their statements: YtlhglkmiclcbcaaTotals.lean).
  GIVEN WITH THE SEED: the statements are not yours to turn. If you find one false, say at which input.
  Laid BY PROGRAM, IN A SANDBOX (cutbox-rows.mjs): the forced cells as the released guide's own fill.sh prints them over the translation 874b0a040c3a0149… (all of the seat's roots in one cut). By AI agents, Wed Nov 11 2026. No macro, syntax, notation, axiom, sorry.
-/
import Derived.Test.YtlhglkmiclcbcaaChecked
import GoSem.Claim
import GoSem.ClaimJoined
import GoSem.ClaimMapViews
import Derived.JoinedTies
import Derived.KernelRfl
namespace Go.Proofs.Ytlhglkmiclcbcaa
/- THE CELL 'sum', in the pinned program and in every row, IS THE sha256 OF THE DUMP (.gsa) THAT YtlhglkmiclcbcaaProg.lean LOADS. Nothing in Lean hashes anything: it is a label: what it is worth is what the hold of that sum in a sandbox is worth. -/
noncomputable def Try.pinned : Pinned := { name := "ytlhglkmiclcbcaa", sum := "874b0a040c3a0149f4adf8ed08bc6de137799b0850ec2a70b199945b3cbae932", checked := Try.checked }
namespace Rows
def none {H : Type} : Left H := { results := [], args := [] }

/-- 'signalboxlaw09.ArbRaces': WHATEVER THE INPUT: true; the input reads as it did. -/
def arbRacesSpec : ChangeSpec := { name := "arbRaces", fn := fun _ => fun
  | [d] => { results := [.lit (.bool true)], args := [d] }
  | _ => none }
def arbRacesRow : OpenClaim := { program := "ytlhglkmiclcbcaa", sum := "874b0a040c3a0149f4adf8ed08bc6de137799b0850ec2a70b199945b3cbae932", func := "signalbox/signalboxlaw09.ArbRaces", spec := "arbRaces", unfollowed := true, recurses := true, apart := false }
def ArbRacesSaid : Prop := arbRacesRow.holds Try.pinned (OpenSpec.ofChange arbRacesSpec)

/-- ITS FALSE NEIGHBOUR: 'it returns false'. Refute it at one input. -/
def arbRacesWrong : ChangeSpec := { name := "arbRaces", fn := fun _ => fun
  | [d] => { results := [.lit (.bool false)], args := [d] }
  | _ => none }
def ArbRacesWrongFalsely : Prop := arbRacesRow.holds Try.pinned (OpenSpec.ofChange arbRacesWrong)

/-- 'signalboxlaw09.ArbLeast': WHATEVER THE INPUT: true; the input reads as it did. -/
def arbLeastSpec : ChangeSpec := { name := "arbLeast", fn := fun _ => fun
  | [d] => { results := [.lit (.bool true)], args := [d] }
  | _ => none }
def arbLeastRow : OpenClaim := { program := "ytlhglkmiclcbcaa", sum := "874b0a040c3a0149f4adf8ed08bc6de137799b0850ec2a70b199945b3cbae932", func := "signalbox/signalboxlaw09.ArbLeast", spec := "arbLeast", unfollowed := true, recurses := true, apart := false }
def ArbLeastSaid : Prop := arbLeastRow.holds Try.pinned (OpenSpec.ofChange arbLeastSpec)

/-- ITS FALSE NEIGHBOUR: 'it returns false'. Refute it at one input. -/
def arbLeastWrong : ChangeSpec := { name := "arbLeast", fn := fun _ => fun
  | [d] => { results := [.lit (.bool false)], args := [d] }
  | _ => none }
def ArbLeastWrongFalsely : Prop := arbLeastRow.holds Try.pinned (OpenSpec.ofChange arbLeastWrong)

/-- 'signalboxlaw09.ArbKeys': WHATEVER THE INPUT: true; the input reads as it did. -/
def arbKeysSpec : ChangeSpec := { name := "arbKeys", fn := fun _ => fun
  | [d] => { results := [.lit (.bool true)], args := [d] }
  | _ => none }
def arbKeysRow : OpenClaim := { program := "ytlhglkmiclcbcaa", sum := "874b0a040c3a0149f4adf8ed08bc6de137799b0850ec2a70b199945b3cbae932", func := "signalbox/signalboxlaw09.ArbKeys", spec := "arbKeys", unfollowed := true, recurses := true, apart := false }
def ArbKeysSaid : Prop := arbKeysRow.holds Try.pinned (OpenSpec.ofChange arbKeysSpec)

/-- ITS FALSE NEIGHBOUR: 'it returns false'. Refute it at one input. -/
def arbKeysWrong : ChangeSpec := { name := "arbKeys", fn := fun _ => fun
  | [d] => { results := [.lit (.bool false)], args := [d] }
  | _ => none }
def ArbKeysWrongFalsely : Prop := arbKeysRow.holds Try.pinned (OpenSpec.ofChange arbKeysWrong)

/-- 'signalboxlaw09.ArbShown': WHATEVER THE INPUT: true; the input reads as it did. -/
def arbShownSpec : ChangeSpec := { name := "arbShown", fn := fun _ => fun
  | [d] => { results := [.lit (.bool true)], args := [d] }
  | _ => none }
def arbShownRow : OpenClaim := { program := "ytlhglkmiclcbcaa", sum := "874b0a040c3a0149f4adf8ed08bc6de137799b0850ec2a70b199945b3cbae932", func := "signalbox/signalboxlaw09.ArbShown", spec := "arbShown", unfollowed := true, recurses := true, apart := false }
def ArbShownSaid : Prop := arbShownRow.holds Try.pinned (OpenSpec.ofChange arbShownSpec)

/-- ITS FALSE NEIGHBOUR: 'it returns false'. Refute it at one input. -/
def arbShownWrong : ChangeSpec := { name := "arbShown", fn := fun _ => fun
  | [d] => { results := [.lit (.bool false)], args := [d] }
  | _ => none }
def ArbShownWrongFalsely : Prop := arbShownRow.holds Try.pinned (OpenSpec.ofChange arbShownWrong)

/-- 'signalboxlaw09.ArbOut': WHATEVER THE INPUT: true; the input reads as it did. -/
def arbOutSpec : ChangeSpec := { name := "arbOut", fn := fun _ => fun
  | [d1, d2] => { results := [.lit (.bool true)], args := [d1, d2] }
  | _ => none }
def arbOutRow : OpenClaim := { program := "ytlhglkmiclcbcaa", sum := "874b0a040c3a0149f4adf8ed08bc6de137799b0850ec2a70b199945b3cbae932", func := "signalbox/signalboxlaw09.ArbOut", spec := "arbOut", unfollowed := true, recurses := true, apart := false }
def ArbOutSaid : Prop := arbOutRow.holds Try.pinned (OpenSpec.ofChange arbOutSpec)

/-- ITS FALSE NEIGHBOUR: 'it returns false'. Refute it at one input. -/
def arbOutWrong : ChangeSpec := { name := "arbOut", fn := fun _ => fun
  | [d1, d2] => { results := [.lit (.bool false)], args := [d1, d2] }
  | _ => none }
def ArbOutWrongFalsely : Prop := arbOutRow.holds Try.pinned (OpenSpec.ofChange arbOutWrong)

/- THE SECOND FORM. 'bulk': how many values and letters a reading holds, each counted each time it is reached (what is shared counts as often as it is met; a slice's spare places count too). A statement '..UptoSaid' is the law's where the arguments, and the package variables that the reading takes, are together of bulk at most 1048576: NARROWER than '..Said'. Prove '..Said' where nothing that the law and all that it calls make is longer than what came in: it says more and counts as full. Else prove '..UptoSaid'. A law counts once. -/
mutual
def uptoBulk {H : Type} : DataW H → Nat
  | .lit (.string bytes) => bytes.length + 1
  | .lit _ => 1
  | .nil => 1
  | .ptr d => uptoBulk d + 1
  | .slice elems spare => uptoBulkAll elems + uptoBulkAll spare + 1
  | .agg parts => uptoBulkAll parts + 1
  | .iface _ d => uptoBulk d + 1
  | .map entries => uptoBulkEntries entries + 1
  | .held _ => 1
def uptoBulkAll {H : Type} : List (DataW H) → Nat
  | [] => 0
  | d :: r => uptoBulk d + uptoBulkAll r
def uptoBulkEntries {H : Type} : List (Lit × DataW H) → Nat
  | [] => 0
  | x :: r => uptoBulkEntry x + uptoBulkEntries r
def uptoBulkEntry {H : Type} : Lit × DataW H → Nat
  | (.string bytes, d) => bytes.length + uptoBulk d + 1
  | (_, d) => uptoBulk d + 1
 end
def uptoSmall : (H : Type) → List (DataW H) → Bool := fun _ ds => decide (uptoBulkAll ds ≤ 1048576)
def OpenSpec.upto (s : _root_.Go.ChangeSpec) : _root_.Go.OpenSpec := { _root_.Go.OpenSpec.ofChange s with cond := some uptoSmall }

/-- 'signalboxlaw09.ArbRaces', WHERE WHAT IT READS IS OF BULK AT MOST 1048576: true; the input reads as it did. -/
def arbRacesUptoRow : OpenClaim := { program := "ytlhglkmiclcbcaa", sum := "874b0a040c3a0149f4adf8ed08bc6de137799b0850ec2a70b199945b3cbae932", func := "signalbox/signalboxlaw09.ArbRaces", spec := "arbRaces", unfollowed := true, recurses := true, apart := false, narrowed := true }
def ArbRacesUptoSaid : Prop := arbRacesUptoRow.holds Try.pinned (OpenSpec.upto arbRacesSpec)

/-- 'signalboxlaw09.ArbLeast', WHERE WHAT IT READS IS OF BULK AT MOST 1048576: true; the input reads as it did. -/
def arbLeastUptoRow : OpenClaim := { program := "ytlhglkmiclcbcaa", sum := "874b0a040c3a0149f4adf8ed08bc6de137799b0850ec2a70b199945b3cbae932", func := "signalbox/signalboxlaw09.ArbLeast", spec := "arbLeast", unfollowed := true, recurses := true, apart := false, narrowed := true }
def ArbLeastUptoSaid : Prop := arbLeastUptoRow.holds Try.pinned (OpenSpec.upto arbLeastSpec)

/-- 'signalboxlaw09.ArbKeys', WHERE WHAT IT READS IS OF BULK AT MOST 1048576: true; the input reads as it did. -/
def arbKeysUptoRow : OpenClaim := { program := "ytlhglkmiclcbcaa", sum := "874b0a040c3a0149f4adf8ed08bc6de137799b0850ec2a70b199945b3cbae932", func := "signalbox/signalboxlaw09.ArbKeys", spec := "arbKeys", unfollowed := true, recurses := true, apart := false, narrowed := true }
def ArbKeysUptoSaid : Prop := arbKeysUptoRow.holds Try.pinned (OpenSpec.upto arbKeysSpec)

/-- 'signalboxlaw09.ArbShown', WHERE WHAT IT READS IS OF BULK AT MOST 1048576: true; the input reads as it did. -/
def arbShownUptoRow : OpenClaim := { program := "ytlhglkmiclcbcaa", sum := "874b0a040c3a0149f4adf8ed08bc6de137799b0850ec2a70b199945b3cbae932", func := "signalbox/signalboxlaw09.ArbShown", spec := "arbShown", unfollowed := true, recurses := true, apart := false, narrowed := true }
def ArbShownUptoSaid : Prop := arbShownUptoRow.holds Try.pinned (OpenSpec.upto arbShownSpec)

/-- 'signalboxlaw09.ArbOut', WHERE WHAT IT READS IS OF BULK AT MOST 1048576: true; the input reads as it did. -/
def arbOutUptoRow : OpenClaim := { program := "ytlhglkmiclcbcaa", sum := "874b0a040c3a0149f4adf8ed08bc6de137799b0850ec2a70b199945b3cbae932", func := "signalbox/signalboxlaw09.ArbOut", spec := "arbOut", unfollowed := true, recurses := true, apart := false, narrowed := true }
def ArbOutUptoSaid : Prop := arbOutUptoRow.holds Try.pinned (OpenSpec.upto arbOutSpec)

end Rows
end Go.Proofs.Ytlhglkmiclcbcaa
