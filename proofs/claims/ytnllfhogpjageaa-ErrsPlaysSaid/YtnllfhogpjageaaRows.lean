/-
  No cell of these rows narrows 'for every input' (looked for: loops, veiled, ifaces, maps, wideKeys, modest, calm, conditions, laid).
  DERIVED. THE GIVEN ROWS OF THIS SEAT. 4 by the template 'for every input the law returns true; each argument reads behind the call as it read before'; 0 by the template 'total and deterministic' (their statements: YtnllfhogpjageaaTotals.lean).
  GIVEN WITH THE SEED: the statements are not yours to turn. If you find one false, say at which input.
  Laid BY PROGRAM, IN A SANDBOX (cutbox-rows.mjs): the forced cells as the released guide's own fill.sh prints them over the translation 363ef7f7b7011fbc… (all of the seat's roots in one cut). By AI agents, Wed Nov 11 2026. No macro, syntax, notation, axiom, sorry.
-/
import Derived.Test.YtnllfhogpjageaaChecked
import GoSem.Claim
import GoSem.ClaimJoined
import GoSem.ClaimMapViews
import Derived.JoinedTies
import Derived.KernelRfl
namespace Go.Proofs.Ytnllfhogpjageaa
/- THE CELL 'sum', in the pinned program and in every row, IS THE sha256 OF THE DUMP (.gsa) THAT YtnllfhogpjageaaProg.lean LOADS. Nothing in Lean hashes anything: it is a label: what it is worth is what the hold of that sum in a sandbox is worth. -/
noncomputable def Try.pinned : Pinned := { name := "ytnllfhogpjageaa", sum := "363ef7f7b7011fbcbd4e338aa432df38efe9430eec840c3a14d1388e5b793ef3", checked := Try.checked }
namespace Rows
def none {H : Type} : Left H := { results := [], args := [] }

/-- 'signalboxlaw19.ErrsMakes': WHATEVER THE INPUT: true; the input reads as it did. -/
def errsMakesSpec : ChangeSpec := { name := "errsMakes", fn := fun _ => fun
  | [d1, d2] => { results := [.lit (.bool true)], args := [d1, d2] }
  | _ => none }
def errsMakesRow : OpenClaim := { program := "ytnllfhogpjageaa", sum := "363ef7f7b7011fbcbd4e338aa432df38efe9430eec840c3a14d1388e5b793ef3", func := "signalbox/signalboxlaw19.ErrsMakes", spec := "errsMakes", unfollowed := true, recurses := true, apart := false }
def ErrsMakesSaid : Prop := errsMakesRow.holds Try.pinned (OpenSpec.ofChange errsMakesSpec)

/-- ITS FALSE NEIGHBOUR: 'it returns false'. Refute it at one input. -/
def errsMakesWrong : ChangeSpec := { name := "errsMakes", fn := fun _ => fun
  | [d1, d2] => { results := [.lit (.bool false)], args := [d1, d2] }
  | _ => none }
def ErrsMakesWrongFalsely : Prop := errsMakesRow.holds Try.pinned (OpenSpec.ofChange errsMakesWrong)

/-- 'signalboxlaw19.ErrsReads': WHATEVER THE INPUT: true; the input reads as it did. -/
def errsReadsSpec : ChangeSpec := { name := "errsReads", fn := fun _ => fun
  | [d] => { results := [.lit (.bool true)], args := [d] }
  | _ => none }
def errsReadsRow : OpenClaim := { program := "ytnllfhogpjageaa", sum := "363ef7f7b7011fbcbd4e338aa432df38efe9430eec840c3a14d1388e5b793ef3", func := "signalbox/signalboxlaw19.ErrsReads", spec := "errsReads", unfollowed := true, recurses := true, apart := false }
def ErrsReadsSaid : Prop := errsReadsRow.holds Try.pinned (OpenSpec.ofChange errsReadsSpec)

/-- ITS FALSE NEIGHBOUR: 'it returns false'. Refute it at one input. -/
def errsReadsWrong : ChangeSpec := { name := "errsReads", fn := fun _ => fun
  | [d] => { results := [.lit (.bool false)], args := [d] }
  | _ => none }
def ErrsReadsWrongFalsely : Prop := errsReadsRow.holds Try.pinned (OpenSpec.ofChange errsReadsWrong)

/-- 'signalboxlaw19.ErrsTurns': WHATEVER THE INPUT: true; the input reads as it did. -/
def errsTurnsSpec : ChangeSpec := { name := "errsTurns", fn := fun _ => fun
  | [d1, d2] => { results := [.lit (.bool true)], args := [d1, d2] }
  | _ => none }
def errsTurnsRow : OpenClaim := { program := "ytnllfhogpjageaa", sum := "363ef7f7b7011fbcbd4e338aa432df38efe9430eec840c3a14d1388e5b793ef3", func := "signalbox/signalboxlaw19.ErrsTurns", spec := "errsTurns", unfollowed := true, recurses := true, apart := false }
def ErrsTurnsSaid : Prop := errsTurnsRow.holds Try.pinned (OpenSpec.ofChange errsTurnsSpec)

/-- ITS FALSE NEIGHBOUR: 'it returns false'. Refute it at one input. -/
def errsTurnsWrong : ChangeSpec := { name := "errsTurns", fn := fun _ => fun
  | [d1, d2] => { results := [.lit (.bool false)], args := [d1, d2] }
  | _ => none }
def ErrsTurnsWrongFalsely : Prop := errsTurnsRow.holds Try.pinned (OpenSpec.ofChange errsTurnsWrong)

/-- 'signalboxlaw19.ErrsPlays': WHATEVER THE INPUT: true; the input reads as it did. -/
def errsPlaysSpec : ChangeSpec := { name := "errsPlays", fn := fun _ => fun
  | [d1, d2] => { results := [.lit (.bool true)], args := [d1, d2] }
  | _ => none }
def errsPlaysRow : OpenClaim := { program := "ytnllfhogpjageaa", sum := "363ef7f7b7011fbcbd4e338aa432df38efe9430eec840c3a14d1388e5b793ef3", func := "signalbox/signalboxlaw19.ErrsPlays", spec := "errsPlays", unfollowed := true, recurses := true, apart := false }
def ErrsPlaysSaid : Prop := errsPlaysRow.holds Try.pinned (OpenSpec.ofChange errsPlaysSpec)

/-- ITS FALSE NEIGHBOUR: 'it returns false'. Refute it at one input. -/
def errsPlaysWrong : ChangeSpec := { name := "errsPlays", fn := fun _ => fun
  | [d1, d2] => { results := [.lit (.bool false)], args := [d1, d2] }
  | _ => none }
def ErrsPlaysWrongFalsely : Prop := errsPlaysRow.holds Try.pinned (OpenSpec.ofChange errsPlaysWrong)

/- THE SECOND FORM. 'bulk': how many values and letters a reading holds, each counted each time it is reached (what is shared counts as often as it is met; a slice's spare places count too). A statement '..UptoSaid' is the law's where the arguments, and the package variables that the reading takes, are together of bulk at most 1048576: NARROWER than '..Said'. Prove '..Said' where nothing that the law and all that it calls make is longer than what came in: it says more and counts as full. Else prove '..UptoSaid'. A law counts once. -/
mutual
def uptoBulk {H : Type} : DataW H → Nat
  | .lit (.string bytes) => bytes.length + 1
  | .lit _ => 1
  | .nil => 1
  | .ptr d => uptoBulk d + 1
  | .slice elems spare => uptoBulkAll elems + uptoBulkAll spare + 1
  | .agg parts => uptoBulkAll parts + 1
  | .iface _ d => uptoBulk d + 1
  | .map entries => uptoBulkEntries entries + 1
  | .held _ => 1
def uptoBulkAll {H : Type} : List (DataW H) → Nat
  | [] => 0
  | d :: r => uptoBulk d + uptoBulkAll r
def uptoBulkEntries {H : Type} : List (Lit × DataW H) → Nat
  | [] => 0
  | x :: r => uptoBulkEntry x + uptoBulkEntries r
def uptoBulkEntry {H : Type} : Lit × DataW H → Nat
  | (.string bytes, d) => bytes.length + uptoBulk d + 1
  | (_, d) => uptoBulk d + 1
 end
def uptoSmall : (H : Type) → List (DataW H) → Bool := fun _ ds => decide (uptoBulkAll ds ≤ 1048576)
def OpenSpec.upto (s : _root_.Go.ChangeSpec) : _root_.Go.OpenSpec := { _root_.Go.OpenSpec.ofChange s with cond := some uptoSmall }

/-- 'signalboxlaw19.ErrsMakes', WHERE WHAT IT READS IS OF BULK AT MOST 1048576: true; the input reads as it did. -/
def errsMakesUptoRow : OpenClaim := { program := "ytnllfhogpjageaa", sum := "363ef7f7b7011fbcbd4e338aa432df38efe9430eec840c3a14d1388e5b793ef3", func := "signalbox/signalboxlaw19.ErrsMakes", spec := "errsMakes", unfollowed := true, recurses := true, apart := false, narrowed := true }
def ErrsMakesUptoSaid : Prop := errsMakesUptoRow.holds Try.pinned (OpenSpec.upto errsMakesSpec)

/-- 'signalboxlaw19.ErrsReads', WHERE WHAT IT READS IS OF BULK AT MOST 1048576: true; the input reads as it did. -/
def errsReadsUptoRow : OpenClaim := { program := "ytnllfhogpjageaa", sum := "363ef7f7b7011fbcbd4e338aa432df38efe9430eec840c3a14d1388e5b793ef3", func := "signalbox/signalboxlaw19.ErrsReads", spec := "errsReads", unfollowed := true, recurses := true, apart := false, narrowed := true }
def ErrsReadsUptoSaid : Prop := errsReadsUptoRow.holds Try.pinned (OpenSpec.upto errsReadsSpec)

/-- 'signalboxlaw19.ErrsTurns', WHERE WHAT IT READS IS OF BULK AT MOST 1048576: true; the input reads as it did. -/
def errsTurnsUptoRow : OpenClaim := { program := "ytnllfhogpjageaa", sum := "363ef7f7b7011fbcbd4e338aa432df38efe9430eec840c3a14d1388e5b793ef3", func := "signalbox/signalboxlaw19.ErrsTurns", spec := "errsTurns", unfollowed := true, recurses := true, apart := false, narrowed := true }
def ErrsTurnsUptoSaid : Prop := errsTurnsUptoRow.holds Try.pinned (OpenSpec.upto errsTurnsSpec)

/-- 'signalboxlaw19.ErrsPlays', WHERE WHAT IT READS IS OF BULK AT MOST 1048576: true; the input reads as it did. -/
def errsPlaysUptoRow : OpenClaim := { program := "ytnllfhogpjageaa", sum := "363ef7f7b7011fbcbd4e338aa432df38efe9430eec840c3a14d1388e5b793ef3", func := "signalbox/signalboxlaw19.ErrsPlays", spec := "errsPlays", unfollowed := true, recurses := true, apart := false, narrowed := true }
def ErrsPlaysUptoSaid : Prop := errsPlaysUptoRow.holds Try.pinned (OpenSpec.upto errsPlaysSpec)

end Rows
end Go.Proofs.Ytnllfhogpjageaa
