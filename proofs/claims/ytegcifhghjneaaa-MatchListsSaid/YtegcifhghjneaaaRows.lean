/-
  No cell of these rows narrows 'for every input' (looked for: loops, veiled, ifaces, maps, wideKeys, modest, calm, conditions, laid).
  DERIVED. THE GIVEN ROWS OF THIS SEAT. 6 by the template 'for every input the law returns true; each argument reads behind the call as it read before'; 0 by the template 'total and deterministic' (their statements: YtegcifhghjneaaaTotals.lean).
  GIVEN WITH THE SEED: the statements are not yours to turn. If you find one false, say at which input.
  Laid BY PROGRAM, IN A SANDBOX (cutbox-rows.mjs): the forced cells as the released guide's own fill.sh prints them over the translation ffde40a8665b73be… (all of the seat's roots in one cut). By AI agents, Wed Nov 11 2026. No macro, syntax, notation, axiom, sorry.
-/
import Derived.Test.YtegcifhghjneaaaChecked
import GoSem.Claim
import GoSem.ClaimJoined
import GoSem.ClaimMapViews
import Derived.JoinedTies
import Derived.KernelRfl
namespace Go.Proofs.Ytegcifhghjneaaa
/- THE CELL 'sum', in the pinned program and in every row, IS THE sha256 OF THE DUMP (.gsa) THAT YtegcifhghjneaaaProg.lean LOADS. Nothing in Lean hashes anything: it is a label: what it is worth is what the hold of that sum in a sandbox is worth. -/
noncomputable def Try.pinned : Pinned := { name := "ytegcifhghjneaaa", sum := "ffde40a8665b73be44d6fc7a667e30a69bd3acd0f4c2d1745c141dbfdf543769", checked := Try.checked }
namespace Rows
def none {H : Type} : Left H := { results := [], args := [] }

/-- 'signalboxlaw05.MatchWitness': WHATEVER THE INPUT: true; the input reads as it did. -/
def matchWitnessSpec : ChangeSpec := { name := "matchWitness", fn := fun _ => fun
  | [d1, d2] => { results := [.lit (.bool true)], args := [d1, d2] }
  | _ => none }
def matchWitnessRow : OpenClaim := { program := "ytegcifhghjneaaa", sum := "ffde40a8665b73be44d6fc7a667e30a69bd3acd0f4c2d1745c141dbfdf543769", func := "signalbox/signalboxlaw05.MatchWitness", spec := "matchWitness", unfollowed := true, recurses := true, apart := false }
def MatchWitnessSaid : Prop := matchWitnessRow.holds Try.pinned (OpenSpec.ofChange matchWitnessSpec)

/-- ITS FALSE NEIGHBOUR: 'it returns false'. Refute it at one input. -/
def matchWitnessWrong : ChangeSpec := { name := "matchWitness", fn := fun _ => fun
  | [d1, d2] => { results := [.lit (.bool false)], args := [d1, d2] }
  | _ => none }
def MatchWitnessWrongFalsely : Prop := matchWitnessRow.holds Try.pinned (OpenSpec.ofChange matchWitnessWrong)

/-- 'signalboxlaw05.MatchCovers': WHATEVER THE INPUT: true; the input reads as it did. -/
def matchCoversSpec : ChangeSpec := { name := "matchCovers", fn := fun _ => fun
  | [d1, d2, d3] => { results := [.lit (.bool true)], args := [d1, d2, d3] }
  | _ => none }
def matchCoversRow : OpenClaim := { program := "ytegcifhghjneaaa", sum := "ffde40a8665b73be44d6fc7a667e30a69bd3acd0f4c2d1745c141dbfdf543769", func := "signalbox/signalboxlaw05.MatchCovers", spec := "matchCovers", unfollowed := true, recurses := true, apart := false }
def MatchCoversSaid : Prop := matchCoversRow.holds Try.pinned (OpenSpec.ofChange matchCoversSpec)

/-- ITS FALSE NEIGHBOUR: 'it returns false'. Refute it at one input. -/
def matchCoversWrong : ChangeSpec := { name := "matchCovers", fn := fun _ => fun
  | [d1, d2, d3] => { results := [.lit (.bool false)], args := [d1, d2, d3] }
  | _ => none }
def MatchCoversWrongFalsely : Prop := matchCoversRow.holds Try.pinned (OpenSpec.ofChange matchCoversWrong)

/-- 'signalboxlaw05.MatchOrder': WHATEVER THE INPUT: true; the input reads as it did. -/
def matchOrderSpec : ChangeSpec := { name := "matchOrder", fn := fun _ => fun
  | [d1, d2, d3] => { results := [.lit (.bool true)], args := [d1, d2, d3] }
  | _ => none }
def matchOrderRow : OpenClaim := { program := "ytegcifhghjneaaa", sum := "ffde40a8665b73be44d6fc7a667e30a69bd3acd0f4c2d1745c141dbfdf543769", func := "signalbox/signalboxlaw05.MatchOrder", spec := "matchOrder", unfollowed := true, recurses := true, apart := false }
def MatchOrderSaid : Prop := matchOrderRow.holds Try.pinned (OpenSpec.ofChange matchOrderSpec)

/-- ITS FALSE NEIGHBOUR: 'it returns false'. Refute it at one input. -/
def matchOrderWrong : ChangeSpec := { name := "matchOrder", fn := fun _ => fun
  | [d1, d2, d3] => { results := [.lit (.bool false)], args := [d1, d2, d3] }
  | _ => none }
def MatchOrderWrongFalsely : Prop := matchOrderRow.holds Try.pinned (OpenSpec.ofChange matchOrderWrong)

/-- 'signalboxlaw05.MatchHits': WHATEVER THE INPUT: true; the input reads as it did. -/
def matchHitsSpec : ChangeSpec := { name := "matchHits", fn := fun _ => fun
  | [d1, d2, d3] => { results := [.lit (.bool true)], args := [d1, d2, d3] }
  | _ => none }
def matchHitsRow : OpenClaim := { program := "ytegcifhghjneaaa", sum := "ffde40a8665b73be44d6fc7a667e30a69bd3acd0f4c2d1745c141dbfdf543769", func := "signalbox/signalboxlaw05.MatchHits", spec := "matchHits", unfollowed := true, recurses := true, apart := false }
def MatchHitsSaid : Prop := matchHitsRow.holds Try.pinned (OpenSpec.ofChange matchHitsSpec)

/-- ITS FALSE NEIGHBOUR: 'it returns false'. Refute it at one input. -/
def matchHitsWrong : ChangeSpec := { name := "matchHits", fn := fun _ => fun
  | [d1, d2, d3] => { results := [.lit (.bool false)], args := [d1, d2, d3] }
  | _ => none }
def MatchHitsWrongFalsely : Prop := matchHitsRow.holds Try.pinned (OpenSpec.ofChange matchHitsWrong)

/-- 'signalboxlaw05.MatchExact': WHATEVER THE INPUT: true; the input reads as it did. -/
def matchExactSpec : ChangeSpec := { name := "matchExact", fn := fun _ => fun
  | [d1, d2, d3] => { results := [.lit (.bool true)], args := [d1, d2, d3] }
  | _ => none }
def matchExactRow : OpenClaim := { program := "ytegcifhghjneaaa", sum := "ffde40a8665b73be44d6fc7a667e30a69bd3acd0f4c2d1745c141dbfdf543769", func := "signalbox/signalboxlaw05.MatchExact", spec := "matchExact", unfollowed := true, recurses := true, apart := false }
def MatchExactSaid : Prop := matchExactRow.holds Try.pinned (OpenSpec.ofChange matchExactSpec)

/-- ITS FALSE NEIGHBOUR: 'it returns false'. Refute it at one input. -/
def matchExactWrong : ChangeSpec := { name := "matchExact", fn := fun _ => fun
  | [d1, d2, d3] => { results := [.lit (.bool false)], args := [d1, d2, d3] }
  | _ => none }
def MatchExactWrongFalsely : Prop := matchExactRow.holds Try.pinned (OpenSpec.ofChange matchExactWrong)

/-- 'signalboxlaw05.MatchLists': WHATEVER THE INPUT: true; the input reads as it did. -/
def matchListsSpec : ChangeSpec := { name := "matchLists", fn := fun _ => fun
  | [d1, d2, d3, d4] => { results := [.lit (.bool true)], args := [d1, d2, d3, d4] }
  | _ => none }
def matchListsRow : OpenClaim := { program := "ytegcifhghjneaaa", sum := "ffde40a8665b73be44d6fc7a667e30a69bd3acd0f4c2d1745c141dbfdf543769", func := "signalbox/signalboxlaw05.MatchLists", spec := "matchLists", unfollowed := true, recurses := true, apart := false }
def MatchListsSaid : Prop := matchListsRow.holds Try.pinned (OpenSpec.ofChange matchListsSpec)

/-- ITS FALSE NEIGHBOUR: 'it returns false'. Refute it at one input. -/
def matchListsWrong : ChangeSpec := { name := "matchLists", fn := fun _ => fun
  | [d1, d2, d3, d4] => { results := [.lit (.bool false)], args := [d1, d2, d3, d4] }
  | _ => none }
def MatchListsWrongFalsely : Prop := matchListsRow.holds Try.pinned (OpenSpec.ofChange matchListsWrong)

/- THE SECOND FORM. 'bulk': how many values and letters a reading holds, each counted each time it is reached (what is shared counts as often as it is met; a slice's spare places count too). A statement '..UptoSaid' is the law's where the arguments, and the package variables that the reading takes, are together of bulk at most 1048576: NARROWER than '..Said'. Prove '..Said' where nothing that the law and all that it calls make is longer than what came in: it says more and counts as full. Else prove '..UptoSaid'. A law counts once. -/
mutual
def uptoBulk {H : Type} : DataW H → Nat
  | .lit (.string bytes) => bytes.length + 1
  | .lit _ => 1
  | .nil => 1
  | .ptr d => uptoBulk d + 1
  | .slice elems spare => uptoBulkAll elems + uptoBulkAll spare + 1
  | .agg parts => uptoBulkAll parts + 1
  | .iface _ d => uptoBulk d + 1
  | .map entries => uptoBulkEntries entries + 1
  | .held _ => 1
def uptoBulkAll {H : Type} : List (DataW H) → Nat
  | [] => 0
  | d :: r => uptoBulk d + uptoBulkAll r
def uptoBulkEntries {H : Type} : List (Lit × DataW H) → Nat
  | [] => 0
  | x :: r => uptoBulkEntry x + uptoBulkEntries r
def uptoBulkEntry {H : Type} : Lit × DataW H → Nat
  | (.string bytes, d) => bytes.length + uptoBulk d + 1
  | (_, d) => uptoBulk d + 1
 end
def uptoSmall : (H : Type) → List (DataW H) → Bool := fun _ ds => decide (uptoBulkAll ds ≤ 1048576)
def OpenSpec.upto (s : _root_.Go.ChangeSpec) : _root_.Go.OpenSpec := { _root_.Go.OpenSpec.ofChange s with cond := some uptoSmall }

/-- 'signalboxlaw05.MatchWitness', WHERE WHAT IT READS IS OF BULK AT MOST 1048576: true; the input reads as it did. -/
def matchWitnessUptoRow : OpenClaim := { program := "ytegcifhghjneaaa", sum := "ffde40a8665b73be44d6fc7a667e30a69bd3acd0f4c2d1745c141dbfdf543769", func := "signalbox/signalboxlaw05.MatchWitness", spec := "matchWitness", unfollowed := true, recurses := true, apart := false, narrowed := true }
def MatchWitnessUptoSaid : Prop := matchWitnessUptoRow.holds Try.pinned (OpenSpec.upto matchWitnessSpec)

/-- 'signalboxlaw05.MatchCovers', WHERE WHAT IT READS IS OF BULK AT MOST 1048576: true; the input reads as it did. -/
def matchCoversUptoRow : OpenClaim := { program := "ytegcifhghjneaaa", sum := "ffde40a8665b73be44d6fc7a667e30a69bd3acd0f4c2d1745c141dbfdf543769", func := "signalbox/signalboxlaw05.MatchCovers", spec := "matchCovers", unfollowed := true, recurses := true, apart := false, narrowed := true }
def MatchCoversUptoSaid : Prop := matchCoversUptoRow.holds Try.pinned (OpenSpec.upto matchCoversSpec)

/-- 'signalboxlaw05.MatchOrder', WHERE WHAT IT READS IS OF BULK AT MOST 1048576: true; the input reads as it did. -/
def matchOrderUptoRow : OpenClaim := { program := "ytegcifhghjneaaa", sum := "ffde40a8665b73be44d6fc7a667e30a69bd3acd0f4c2d1745c141dbfdf543769", func := "signalbox/signalboxlaw05.MatchOrder", spec := "matchOrder", unfollowed := true, recurses := true, apart := false, narrowed := true }
def MatchOrderUptoSaid : Prop := matchOrderUptoRow.holds Try.pinned (OpenSpec.upto matchOrderSpec)

/-- 'signalboxlaw05.MatchHits', WHERE WHAT IT READS IS OF BULK AT MOST 1048576: true; the input reads as it did. -/
def matchHitsUptoRow : OpenClaim := { program := "ytegcifhghjneaaa", sum := "ffde40a8665b73be44d6fc7a667e30a69bd3acd0f4c2d1745c141dbfdf543769", func := "signalbox/signalboxlaw05.MatchHits", spec := "matchHits", unfollowed := true, recurses := true, apart := false, narrowed := true }
def MatchHitsUptoSaid : Prop := matchHitsUptoRow.holds Try.pinned (OpenSpec.upto matchHitsSpec)

/-- 'signalboxlaw05.MatchExact', WHERE WHAT IT READS IS OF BULK AT MOST 1048576: true; the input reads as it did. -/
def matchExactUptoRow : OpenClaim := { program := "ytegcifhghjneaaa", sum := "ffde40a8665b73be44d6fc7a667e30a69bd3acd0f4c2d1745c141dbfdf543769", func := "signalbox/signalboxlaw05.MatchExact", spec := "matchExact", unfollowed := true, recurses := true, apart := false, narrowed := true }
def MatchExactUptoSaid : Prop := matchExactUptoRow.holds Try.pinned (OpenSpec.upto matchExactSpec)

/-- 'signalboxlaw05.MatchLists', WHERE WHAT IT READS IS OF BULK AT MOST 1048576: true; the input reads as it did. -/
def matchListsUptoRow : OpenClaim := { program := "ytegcifhghjneaaa", sum := "ffde40a8665b73be44d6fc7a667e30a69bd3acd0f4c2d1745c141dbfdf543769", func := "signalbox/signalboxlaw05.MatchLists", spec := "matchLists", unfollowed := true, recurses := true, apart := false, narrowed := true }
def MatchListsUptoSaid : Prop := matchListsUptoRow.holds Try.pinned (OpenSpec.upto matchListsSpec)

end Rows
end Go.Proofs.Ytegcifhghjneaaa
