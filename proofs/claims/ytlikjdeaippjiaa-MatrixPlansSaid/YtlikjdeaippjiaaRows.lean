/-
  No cell of these rows narrows 'for every input' (looked for: loops, veiled, ifaces, maps, wideKeys, modest, calm, conditions, laid).
  DERIVED. THE GIVEN ROWS OF THIS SEAT. 5 by the template 'for every input the law returns true; each argument reads behind the call as it read before'; 0 by the template 'total and deterministic' (their statements: YtlikjdeaippjiaaTotals.lean).
  GIVEN WITH THE SEED: the statements are not yours to turn. If you find one false, say at which input.
  Laid BY PROGRAM, IN A SANDBOX (cutbox-rows.mjs): the forced cells as the released guide's own fill.sh prints them over the translation 36540546bd4ad998… (all of the seat's roots in one cut). By AI agents, Wed Nov 11 2026. No macro, syntax, notation, axiom, sorry.
-/
import Derived.Test.YtlikjdeaippjiaaChecked
import GoSem.Claim
import GoSem.ClaimJoined
import GoSem.ClaimMapViews
import Derived.JoinedTies
import Derived.KernelRfl
namespace Go.Proofs.Ytlikjdeaippjiaa
/- THE CELL 'sum', in the pinned program and in every row, IS THE sha256 OF THE DUMP (.gsa) THAT YtlikjdeaippjiaaProg.lean LOADS. Nothing in Lean hashes anything: it is a label: what it is worth is what the hold of that sum in a sandbox is worth. -/
noncomputable def Try.pinned : Pinned := { name := "ytlikjdeaippjiaa", sum := "36540546bd4ad9982443a0cf1610484bc4eeb316f473eead43cccfe2f8951b5a", checked := Try.checked }
namespace Rows
def none {H : Type} : Left H := { results := [], args := [] }

/-- 'signalboxlaw41.MatrixClashes': WHATEVER THE INPUT: true; the input reads as it did. -/
def matrixClashesSpec : ChangeSpec := { name := "matrixClashes", fn := fun _ => fun
  | [d1, d2, d3] => { results := [.lit (.bool true)], args := [d1, d2, d3] }
  | _ => none }
def matrixClashesRow : OpenClaim := { program := "ytlikjdeaippjiaa", sum := "36540546bd4ad9982443a0cf1610484bc4eeb316f473eead43cccfe2f8951b5a", func := "signalbox/signalboxlaw41.MatrixClashes", spec := "matrixClashes", unfollowed := true, recurses := true, apart := false }
def MatrixClashesSaid : Prop := matrixClashesRow.holds Try.pinned (OpenSpec.ofChange matrixClashesSpec)

/-- ITS FALSE NEIGHBOUR: 'it returns false'. Refute it at one input. -/
def matrixClashesWrong : ChangeSpec := { name := "matrixClashes", fn := fun _ => fun
  | [d1, d2, d3] => { results := [.lit (.bool false)], args := [d1, d2, d3] }
  | _ => none }
def MatrixClashesWrongFalsely : Prop := matrixClashesRow.holds Try.pinned (OpenSpec.ofChange matrixClashesWrong)

/-- 'signalboxlaw41.MatrixOnce': WHATEVER THE INPUT: true; the input reads as it did. -/
def matrixOnceSpec : ChangeSpec := { name := "matrixOnce", fn := fun _ => fun
  | [d1, d2] => { results := [.lit (.bool true)], args := [d1, d2] }
  | _ => none }
def matrixOnceRow : OpenClaim := { program := "ytlikjdeaippjiaa", sum := "36540546bd4ad9982443a0cf1610484bc4eeb316f473eead43cccfe2f8951b5a", func := "signalbox/signalboxlaw41.MatrixOnce", spec := "matrixOnce", unfollowed := true, recurses := true, apart := false }
def MatrixOnceSaid : Prop := matrixOnceRow.holds Try.pinned (OpenSpec.ofChange matrixOnceSpec)

/-- ITS FALSE NEIGHBOUR: 'it returns false'. Refute it at one input. -/
def matrixOnceWrong : ChangeSpec := { name := "matrixOnce", fn := fun _ => fun
  | [d1, d2] => { results := [.lit (.bool false)], args := [d1, d2] }
  | _ => none }
def MatrixOnceWrongFalsely : Prop := matrixOnceRow.holds Try.pinned (OpenSpec.ofChange matrixOnceWrong)

/-- 'signalboxlaw41.MatrixAgain': WHATEVER THE INPUT: true; the input reads as it did. -/
def matrixAgainSpec : ChangeSpec := { name := "matrixAgain", fn := fun _ => fun
  | [d1, d2, d3] => { results := [.lit (.bool true)], args := [d1, d2, d3] }
  | _ => none }
def matrixAgainRow : OpenClaim := { program := "ytlikjdeaippjiaa", sum := "36540546bd4ad9982443a0cf1610484bc4eeb316f473eead43cccfe2f8951b5a", func := "signalbox/signalboxlaw41.MatrixAgain", spec := "matrixAgain", unfollowed := true, recurses := true, apart := false }
def MatrixAgainSaid : Prop := matrixAgainRow.holds Try.pinned (OpenSpec.ofChange matrixAgainSpec)

/-- ITS FALSE NEIGHBOUR: 'it returns false'. Refute it at one input. -/
def matrixAgainWrong : ChangeSpec := { name := "matrixAgain", fn := fun _ => fun
  | [d1, d2, d3] => { results := [.lit (.bool false)], args := [d1, d2, d3] }
  | _ => none }
def MatrixAgainWrongFalsely : Prop := matrixAgainRow.holds Try.pinned (OpenSpec.ofChange matrixAgainWrong)

/-- 'signalboxlaw41.MatrixPlaces': WHATEVER THE INPUT: true; the input reads as it did. -/
def matrixPlacesSpec : ChangeSpec := { name := "matrixPlaces", fn := fun _ => fun
  | [d1, d2, d3] => { results := [.lit (.bool true)], args := [d1, d2, d3] }
  | _ => none }
def matrixPlacesRow : OpenClaim := { program := "ytlikjdeaippjiaa", sum := "36540546bd4ad9982443a0cf1610484bc4eeb316f473eead43cccfe2f8951b5a", func := "signalbox/signalboxlaw41.MatrixPlaces", spec := "matrixPlaces", unfollowed := true, recurses := true, apart := false }
def MatrixPlacesSaid : Prop := matrixPlacesRow.holds Try.pinned (OpenSpec.ofChange matrixPlacesSpec)

/-- ITS FALSE NEIGHBOUR: 'it returns false'. Refute it at one input. -/
def matrixPlacesWrong : ChangeSpec := { name := "matrixPlaces", fn := fun _ => fun
  | [d1, d2, d3] => { results := [.lit (.bool false)], args := [d1, d2, d3] }
  | _ => none }
def MatrixPlacesWrongFalsely : Prop := matrixPlacesRow.holds Try.pinned (OpenSpec.ofChange matrixPlacesWrong)

/-- 'signalboxlaw41.MatrixPlans': WHATEVER THE INPUT: true; the input reads as it did. -/
def matrixPlansSpec : ChangeSpec := { name := "matrixPlans", fn := fun _ => fun
  | [d1, d2, d3] => { results := [.lit (.bool true)], args := [d1, d2, d3] }
  | _ => none }
def matrixPlansRow : OpenClaim := { program := "ytlikjdeaippjiaa", sum := "36540546bd4ad9982443a0cf1610484bc4eeb316f473eead43cccfe2f8951b5a", func := "signalbox/signalboxlaw41.MatrixPlans", spec := "matrixPlans", unfollowed := true, recurses := true, apart := false }
def MatrixPlansSaid : Prop := matrixPlansRow.holds Try.pinned (OpenSpec.ofChange matrixPlansSpec)

/-- ITS FALSE NEIGHBOUR: 'it returns false'. Refute it at one input. -/
def matrixPlansWrong : ChangeSpec := { name := "matrixPlans", fn := fun _ => fun
  | [d1, d2, d3] => { results := [.lit (.bool false)], args := [d1, d2, d3] }
  | _ => none }
def MatrixPlansWrongFalsely : Prop := matrixPlansRow.holds Try.pinned (OpenSpec.ofChange matrixPlansWrong)

/- THE SECOND FORM. 'bulk': how many values and letters a reading holds, each counted each time it is reached (what is shared counts as often as it is met; a slice's spare places count too). A statement '..UptoSaid' is the law's where the arguments, and the package variables that the reading takes, are together of bulk at most 1048576: NARROWER than '..Said'. Prove '..Said' where nothing that the law and all that it calls make is longer than what came in: it says more and counts as full. Else prove '..UptoSaid'. A law counts once. -/
mutual
def uptoBulk {H : Type} : DataW H → Nat
  | .lit (.string bytes) => bytes.length + 1
  | .lit _ => 1
  | .nil => 1
  | .ptr d => uptoBulk d + 1
  | .slice elems spare => uptoBulkAll elems + uptoBulkAll spare + 1
  | .agg parts => uptoBulkAll parts + 1
  | .iface _ d => uptoBulk d + 1
  | .map entries => uptoBulkEntries entries + 1
  | .held _ => 1
def uptoBulkAll {H : Type} : List (DataW H) → Nat
  | [] => 0
  | d :: r => uptoBulk d + uptoBulkAll r
def uptoBulkEntries {H : Type} : List (Lit × DataW H) → Nat
  | [] => 0
  | x :: r => uptoBulkEntry x + uptoBulkEntries r
def uptoBulkEntry {H : Type} : Lit × DataW H → Nat
  | (.string bytes, d) => bytes.length + uptoBulk d + 1
  | (_, d) => uptoBulk d + 1
 end
def uptoSmall : (H : Type) → List (DataW H) → Bool := fun _ ds => decide (uptoBulkAll ds ≤ 1048576)
def OpenSpec.upto (s : _root_.Go.ChangeSpec) : _root_.Go.OpenSpec := { _root_.Go.OpenSpec.ofChange s with cond := some uptoSmall }

/-- 'signalboxlaw41.MatrixClashes', WHERE WHAT IT READS IS OF BULK AT MOST 1048576: true; the input reads as it did. -/
def matrixClashesUptoRow : OpenClaim := { program := "ytlikjdeaippjiaa", sum := "36540546bd4ad9982443a0cf1610484bc4eeb316f473eead43cccfe2f8951b5a", func := "signalbox/signalboxlaw41.MatrixClashes", spec := "matrixClashes", unfollowed := true, recurses := true, apart := false, narrowed := true }
def MatrixClashesUptoSaid : Prop := matrixClashesUptoRow.holds Try.pinned (OpenSpec.upto matrixClashesSpec)

/-- 'signalboxlaw41.MatrixOnce', WHERE WHAT IT READS IS OF BULK AT MOST 1048576: true; the input reads as it did. -/
def matrixOnceUptoRow : OpenClaim := { program := "ytlikjdeaippjiaa", sum := "36540546bd4ad9982443a0cf1610484bc4eeb316f473eead43cccfe2f8951b5a", func := "signalbox/signalboxlaw41.MatrixOnce", spec := "matrixOnce", unfollowed := true, recurses := true, apart := false, narrowed := true }
def MatrixOnceUptoSaid : Prop := matrixOnceUptoRow.holds Try.pinned (OpenSpec.upto matrixOnceSpec)

/-- 'signalboxlaw41.MatrixAgain', WHERE WHAT IT READS IS OF BULK AT MOST 1048576: true; the input reads as it did. -/
def matrixAgainUptoRow : OpenClaim := { program := "ytlikjdeaippjiaa", sum := "36540546bd4ad9982443a0cf1610484bc4eeb316f473eead43cccfe2f8951b5a", func := "signalbox/signalboxlaw41.MatrixAgain", spec := "matrixAgain", unfollowed := true, recurses := true, apart := false, narrowed := true }
def MatrixAgainUptoSaid : Prop := matrixAgainUptoRow.holds Try.pinned (OpenSpec.upto matrixAgainSpec)

/-- 'signalboxlaw41.MatrixPlaces', WHERE WHAT IT READS IS OF BULK AT MOST 1048576: true; the input reads as it did. -/
def matrixPlacesUptoRow : OpenClaim := { program := "ytlikjdeaippjiaa", sum := "36540546bd4ad9982443a0cf1610484bc4eeb316f473eead43cccfe2f8951b5a", func := "signalbox/signalboxlaw41.MatrixPlaces", spec := "matrixPlaces", unfollowed := true, recurses := true, apart := false, narrowed := true }
def MatrixPlacesUptoSaid : Prop := matrixPlacesUptoRow.holds Try.pinned (OpenSpec.upto matrixPlacesSpec)

/-- 'signalboxlaw41.MatrixPlans', WHERE WHAT IT READS IS OF BULK AT MOST 1048576: true; the input reads as it did. -/
def matrixPlansUptoRow : OpenClaim := { program := "ytlikjdeaippjiaa", sum := "36540546bd4ad9982443a0cf1610484bc4eeb316f473eead43cccfe2f8951b5a", func := "signalbox/signalboxlaw41.MatrixPlans", spec := "matrixPlans", unfollowed := true, recurses := true, apart := false, narrowed := true }
def MatrixPlansUptoSaid : Prop := matrixPlansUptoRow.holds Try.pinned (OpenSpec.upto matrixPlansSpec)

end Rows
end Go.Proofs.Ytlikjdeaippjiaa
