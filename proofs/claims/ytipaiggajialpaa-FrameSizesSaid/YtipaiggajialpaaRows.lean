/-
  No cell of these rows narrows 'for every input' (looked for: loops, veiled, ifaces, maps, wideKeys, modest, calm, conditions, laid).
  DERIVED. THE GIVEN ROWS OF THIS SEAT. 7 by the template 'for every input the law returns true; each argument reads behind the call as it read before'; 0 by the template 'total and deterministic' (their statements: YtipaiggajialpaaTotals.lean).
  GIVEN WITH THE SEED: the statements are not yours to turn. If you find one false, say at which input.
  Laid BY PROGRAM, IN A SANDBOX (cutbox-rows.mjs): the forced cells as the released guide's own fill.sh prints them over the translation 83bd937e1808bff9… (all of the seat's roots in one cut). By AI agents, Wed Nov 11 2026. No macro, syntax, notation, axiom, sorry.
-/
import Derived.Test.YtipaiggajialpaaChecked
import GoSem.Claim
import GoSem.ClaimJoined
import GoSem.ClaimMapViews
import Derived.JoinedTies
import Derived.KernelRfl
namespace Go.Proofs.Ytipaiggajialpaa
/- THE CELL 'sum', in the pinned program and in every row, IS THE sha256 OF THE DUMP (.gsa) THAT YtipaiggajialpaaProg.lean LOADS. Nothing in Lean hashes anything: it is a label: what it is worth is what the hold of that sum in a sandbox is worth. -/
noncomputable def Try.pinned : Pinned := { name := "ytipaiggajialpaa", sum := "83bd937e1808bff9b4893c9a40bd668c8a18ac176d2a9d01617f3e9441c6dbab", checked := Try.checked }
namespace Rows
def none {H : Type} : Left H := { results := [], args := [] }

/-- 'signalboxlaw02.FrameRight': WHATEVER THE INPUT: true; the input reads as it did. -/
def frameRightSpec : ChangeSpec := { name := "frameRight", fn := fun _ => fun
  | [d] => { results := [.lit (.bool true)], args := [d] }
  | _ => none }
def frameRightRow : OpenClaim := { program := "ytipaiggajialpaa", sum := "83bd937e1808bff9b4893c9a40bd668c8a18ac176d2a9d01617f3e9441c6dbab", func := "signalbox/signalboxlaw02.FrameRight", spec := "frameRight", unfollowed := true, recurses := true, apart := false }
def FrameRightSaid : Prop := frameRightRow.holds Try.pinned (OpenSpec.ofChange frameRightSpec)

/-- ITS FALSE NEIGHBOUR: 'it returns false'. Refute it at one input. -/
def frameRightWrong : ChangeSpec := { name := "frameRight", fn := fun _ => fun
  | [d] => { results := [.lit (.bool false)], args := [d] }
  | _ => none }
def FrameRightWrongFalsely : Prop := frameRightRow.holds Try.pinned (OpenSpec.ofChange frameRightWrong)

/-- 'signalboxlaw02.FrameKeys': WHATEVER THE INPUT: true; the input reads as it did. -/
def frameKeysSpec : ChangeSpec := { name := "frameKeys", fn := fun _ => fun
  | [d1, d2] => { results := [.lit (.bool true)], args := [d1, d2] }
  | _ => none }
def frameKeysRow : OpenClaim := { program := "ytipaiggajialpaa", sum := "83bd937e1808bff9b4893c9a40bd668c8a18ac176d2a9d01617f3e9441c6dbab", func := "signalbox/signalboxlaw02.FrameKeys", spec := "frameKeys", unfollowed := true, recurses := true, apart := false }
def FrameKeysSaid : Prop := frameKeysRow.holds Try.pinned (OpenSpec.ofChange frameKeysSpec)

/-- ITS FALSE NEIGHBOUR: 'it returns false'. Refute it at one input. -/
def frameKeysWrong : ChangeSpec := { name := "frameKeys", fn := fun _ => fun
  | [d1, d2] => { results := [.lit (.bool false)], args := [d1, d2] }
  | _ => none }
def FrameKeysWrongFalsely : Prop := frameKeysRow.holds Try.pinned (OpenSpec.ofChange frameKeysWrong)

/-- 'signalboxlaw02.FrameOrder': WHATEVER THE INPUT: true; the input reads as it did. -/
def frameOrderSpec : ChangeSpec := { name := "frameOrder", fn := fun _ => fun
  | [d1, d2, d3] => { results := [.lit (.bool true)], args := [d1, d2, d3] }
  | _ => none }
def frameOrderRow : OpenClaim := { program := "ytipaiggajialpaa", sum := "83bd937e1808bff9b4893c9a40bd668c8a18ac176d2a9d01617f3e9441c6dbab", func := "signalbox/signalboxlaw02.FrameOrder", spec := "frameOrder", unfollowed := true, recurses := true, apart := false }
def FrameOrderSaid : Prop := frameOrderRow.holds Try.pinned (OpenSpec.ofChange frameOrderSpec)

/-- ITS FALSE NEIGHBOUR: 'it returns false'. Refute it at one input. -/
def frameOrderWrong : ChangeSpec := { name := "frameOrder", fn := fun _ => fun
  | [d1, d2, d3] => { results := [.lit (.bool false)], args := [d1, d2, d3] }
  | _ => none }
def FrameOrderWrongFalsely : Prop := frameOrderRow.holds Try.pinned (OpenSpec.ofChange frameOrderWrong)

/-- 'signalboxlaw02.FrameWins': WHATEVER THE INPUT: true; the input reads as it did. -/
def frameWinsSpec : ChangeSpec := { name := "frameWins", fn := fun _ => fun
  | [d1, d2, d3] => { results := [.lit (.bool true)], args := [d1, d2, d3] }
  | _ => none }
def frameWinsRow : OpenClaim := { program := "ytipaiggajialpaa", sum := "83bd937e1808bff9b4893c9a40bd668c8a18ac176d2a9d01617f3e9441c6dbab", func := "signalbox/signalboxlaw02.FrameWins", spec := "frameWins", unfollowed := true, recurses := true, apart := false }
def FrameWinsSaid : Prop := frameWinsRow.holds Try.pinned (OpenSpec.ofChange frameWinsSpec)

/-- ITS FALSE NEIGHBOUR: 'it returns false'. Refute it at one input. -/
def frameWinsWrong : ChangeSpec := { name := "frameWins", fn := fun _ => fun
  | [d1, d2, d3] => { results := [.lit (.bool false)], args := [d1, d2, d3] }
  | _ => none }
def FrameWinsWrongFalsely : Prop := frameWinsRow.holds Try.pinned (OpenSpec.ofChange frameWinsWrong)

/-- 'signalboxlaw02.FrameSizes': WHATEVER THE INPUT: true; the input reads as it did. -/
def frameSizesSpec : ChangeSpec := { name := "frameSizes", fn := fun _ => fun
  | [d] => { results := [.lit (.bool true)], args := [d] }
  | _ => none }
def frameSizesRow : OpenClaim := { program := "ytipaiggajialpaa", sum := "83bd937e1808bff9b4893c9a40bd668c8a18ac176d2a9d01617f3e9441c6dbab", func := "signalbox/signalboxlaw02.FrameSizes", spec := "frameSizes", unfollowed := true, recurses := true, apart := false }
def FrameSizesSaid : Prop := frameSizesRow.holds Try.pinned (OpenSpec.ofChange frameSizesSpec)

/-- ITS FALSE NEIGHBOUR: 'it returns false'. Refute it at one input. -/
def frameSizesWrong : ChangeSpec := { name := "frameSizes", fn := fun _ => fun
  | [d] => { results := [.lit (.bool false)], args := [d] }
  | _ => none }
def FrameSizesWrongFalsely : Prop := frameSizesRow.holds Try.pinned (OpenSpec.ofChange frameSizesWrong)

/-- 'signalboxlaw02.FrameOf': WHATEVER THE INPUT: true; the input reads as it did. -/
def frameOfSpec : ChangeSpec := { name := "frameOf", fn := fun _ => fun
  | [d1, d2] => { results := [.lit (.bool true)], args := [d1, d2] }
  | _ => none }
def frameOfRow : OpenClaim := { program := "ytipaiggajialpaa", sum := "83bd937e1808bff9b4893c9a40bd668c8a18ac176d2a9d01617f3e9441c6dbab", func := "signalbox/signalboxlaw02.FrameOf", spec := "frameOf", unfollowed := true, recurses := true, apart := false }
def FrameOfSaid : Prop := frameOfRow.holds Try.pinned (OpenSpec.ofChange frameOfSpec)

/-- ITS FALSE NEIGHBOUR: 'it returns false'. Refute it at one input. -/
def frameOfWrong : ChangeSpec := { name := "frameOf", fn := fun _ => fun
  | [d1, d2] => { results := [.lit (.bool false)], args := [d1, d2] }
  | _ => none }
def FrameOfWrongFalsely : Prop := frameOfRow.holds Try.pinned (OpenSpec.ofChange frameOfWrong)

/-- 'signalboxlaw02.FrameBack': WHATEVER THE INPUT: true; the input reads as it did. -/
def frameBackSpec : ChangeSpec := { name := "frameBack", fn := fun _ => fun
  | [d] => { results := [.lit (.bool true)], args := [d] }
  | _ => none }
def frameBackRow : OpenClaim := { program := "ytipaiggajialpaa", sum := "83bd937e1808bff9b4893c9a40bd668c8a18ac176d2a9d01617f3e9441c6dbab", func := "signalbox/signalboxlaw02.FrameBack", spec := "frameBack", unfollowed := true, recurses := true, apart := false }
def FrameBackSaid : Prop := frameBackRow.holds Try.pinned (OpenSpec.ofChange frameBackSpec)

/-- ITS FALSE NEIGHBOUR: 'it returns false'. Refute it at one input. -/
def frameBackWrong : ChangeSpec := { name := "frameBack", fn := fun _ => fun
  | [d] => { results := [.lit (.bool false)], args := [d] }
  | _ => none }
def FrameBackWrongFalsely : Prop := frameBackRow.holds Try.pinned (OpenSpec.ofChange frameBackWrong)

/- THE SECOND FORM. 'bulk': how many values and letters a reading holds, each counted each time it is reached (what is shared counts as often as it is met; a slice's spare places count too). A statement '..UptoSaid' is the law's where the arguments, and the package variables that the reading takes, are together of bulk at most 1048576: NARROWER than '..Said'. Prove '..Said' where nothing that the law and all that it calls make is longer than what came in: it says more and counts as full. Else prove '..UptoSaid'. A law counts once. -/
mutual
def uptoBulk {H : Type} : DataW H → Nat
  | .lit (.string bytes) => bytes.length + 1
  | .lit _ => 1
  | .nil => 1
  | .ptr d => uptoBulk d + 1
  | .slice elems spare => uptoBulkAll elems + uptoBulkAll spare + 1
  | .agg parts => uptoBulkAll parts + 1
  | .iface _ d => uptoBulk d + 1
  | .map entries => uptoBulkEntries entries + 1
  | .held _ => 1
def uptoBulkAll {H : Type} : List (DataW H) → Nat
  | [] => 0
  | d :: r => uptoBulk d + uptoBulkAll r
def uptoBulkEntries {H : Type} : List (Lit × DataW H) → Nat
  | [] => 0
  | x :: r => uptoBulkEntry x + uptoBulkEntries r
def uptoBulkEntry {H : Type} : Lit × DataW H → Nat
  | (.string bytes, d) => bytes.length + uptoBulk d + 1
  | (_, d) => uptoBulk d + 1
 end
def uptoSmall : (H : Type) → List (DataW H) → Bool := fun _ ds => decide (uptoBulkAll ds ≤ 1048576)
def OpenSpec.upto (s : _root_.Go.ChangeSpec) : _root_.Go.OpenSpec := { _root_.Go.OpenSpec.ofChange s with cond := some uptoSmall }

/-- 'signalboxlaw02.FrameRight', WHERE WHAT IT READS IS OF BULK AT MOST 1048576: true; the input reads as it did. -/
def frameRightUptoRow : OpenClaim := { program := "ytipaiggajialpaa", sum := "83bd937e1808bff9b4893c9a40bd668c8a18ac176d2a9d01617f3e9441c6dbab", func := "signalbox/signalboxlaw02.FrameRight", spec := "frameRight", unfollowed := true, recurses := true, apart := false, narrowed := true }
def FrameRightUptoSaid : Prop := frameRightUptoRow.holds Try.pinned (OpenSpec.upto frameRightSpec)

/-- 'signalboxlaw02.FrameKeys', WHERE WHAT IT READS IS OF BULK AT MOST 1048576: true; the input reads as it did. -/
def frameKeysUptoRow : OpenClaim := { program := "ytipaiggajialpaa", sum := "83bd937e1808bff9b4893c9a40bd668c8a18ac176d2a9d01617f3e9441c6dbab", func := "signalbox/signalboxlaw02.FrameKeys", spec := "frameKeys", unfollowed := true, recurses := true, apart := false, narrowed := true }
def FrameKeysUptoSaid : Prop := frameKeysUptoRow.holds Try.pinned (OpenSpec.upto frameKeysSpec)

/-- 'signalboxlaw02.FrameOrder', WHERE WHAT IT READS IS OF BULK AT MOST 1048576: true; the input reads as it did. -/
def frameOrderUptoRow : OpenClaim := { program := "ytipaiggajialpaa", sum := "83bd937e1808bff9b4893c9a40bd668c8a18ac176d2a9d01617f3e9441c6dbab", func := "signalbox/signalboxlaw02.FrameOrder", spec := "frameOrder", unfollowed := true, recurses := true, apart := false, narrowed := true }
def FrameOrderUptoSaid : Prop := frameOrderUptoRow.holds Try.pinned (OpenSpec.upto frameOrderSpec)

/-- 'signalboxlaw02.FrameWins', WHERE WHAT IT READS IS OF BULK AT MOST 1048576: true; the input reads as it did. -/
def frameWinsUptoRow : OpenClaim := { program := "ytipaiggajialpaa", sum := "83bd937e1808bff9b4893c9a40bd668c8a18ac176d2a9d01617f3e9441c6dbab", func := "signalbox/signalboxlaw02.FrameWins", spec := "frameWins", unfollowed := true, recurses := true, apart := false, narrowed := true }
def FrameWinsUptoSaid : Prop := frameWinsUptoRow.holds Try.pinned (OpenSpec.upto frameWinsSpec)

/-- 'signalboxlaw02.FrameSizes', WHERE WHAT IT READS IS OF BULK AT MOST 1048576: true; the input reads as it did. -/
def frameSizesUptoRow : OpenClaim := { program := "ytipaiggajialpaa", sum := "83bd937e1808bff9b4893c9a40bd668c8a18ac176d2a9d01617f3e9441c6dbab", func := "signalbox/signalboxlaw02.FrameSizes", spec := "frameSizes", unfollowed := true, recurses := true, apart := false, narrowed := true }
def FrameSizesUptoSaid : Prop := frameSizesUptoRow.holds Try.pinned (OpenSpec.upto frameSizesSpec)

/-- 'signalboxlaw02.FrameOf', WHERE WHAT IT READS IS OF BULK AT MOST 1048576: true; the input reads as it did. -/
def frameOfUptoRow : OpenClaim := { program := "ytipaiggajialpaa", sum := "83bd937e1808bff9b4893c9a40bd668c8a18ac176d2a9d01617f3e9441c6dbab", func := "signalbox/signalboxlaw02.FrameOf", spec := "frameOf", unfollowed := true, recurses := true, apart := false, narrowed := true }
def FrameOfUptoSaid : Prop := frameOfUptoRow.holds Try.pinned (OpenSpec.upto frameOfSpec)

/-- 'signalboxlaw02.FrameBack', WHERE WHAT IT READS IS OF BULK AT MOST 1048576: true; the input reads as it did. -/
def frameBackUptoRow : OpenClaim := { program := "ytipaiggajialpaa", sum := "83bd937e1808bff9b4893c9a40bd668c8a18ac176d2a9d01617f3e9441c6dbab", func := "signalbox/signalboxlaw02.FrameBack", spec := "frameBack", unfollowed := true, recurses := true, apart := false, narrowed := true }
def FrameBackUptoSaid : Prop := frameBackUptoRow.holds Try.pinned (OpenSpec.upto frameBackSpec)

end Rows
end Go.Proofs.Ytipaiggajialpaa
