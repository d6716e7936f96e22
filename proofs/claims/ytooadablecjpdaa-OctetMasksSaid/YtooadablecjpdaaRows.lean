/-
  No cell of these rows narrows 'for every input' (looked for: loops, veiled, ifaces, maps, wideKeys, modest, calm, conditions, laid).
  DERIVED. THE GIVEN ROWS OF THIS SEAT. 7 by the template 'for every input the law returns true; each argument reads behind the call as it read before'; 0 by the template 'total and deterministic' (their statements: YtooadablecjpdaaTotals.lean).
  GIVEN WITH THE SEED: the statements are not yours to turn. If you find one false, say at which input.
  Laid BY PROGRAM, IN A SANDBOX (cutbox-rows.mjs): the forced cells as the released guide's own fill.sh prints them over the translation 0183e6bead3b56c1… (all of the seat's roots in one cut). By AI agents, Wed Nov 11 2026. No macro, syntax, notation, axiom, sorry.
-/
import Derived.Test.YtooadablecjpdaaChecked
import GoSem.Claim
import GoSem.ClaimJoined
import GoSem.ClaimMapViews
import Derived.JoinedTies
import Derived.KernelRfl
namespace Go.Proofs.Ytooadablecjpdaa
/- THE CELL 'sum', in the pinned program and in every row, IS THE sha256 OF THE DUMP (.gsa) THAT YtooadablecjpdaaProg.lean LOADS. Nothing in Lean hashes anything: it is a label: what it is worth is what the hold of that sum in a sandbox is worth. -/
noncomputable def Try.pinned : Pinned := { name := "ytooadablecjpdaa", sum := "0183e6bead3b56c12537796697237447ab5ed18c6d5b23b70fe5b7d04ff1e05f", checked := Try.checked }
namespace Rows
def none {H : Type} : Left H := { results := [], args := [] }

/-- 'signalboxlaw01.OctetDigits': WHATEVER THE INPUT: true; the input reads as it did. -/
def octetDigitsSpec : ChangeSpec := { name := "octetDigits", fn := fun _ => fun
  | [d] => { results := [.lit (.bool true)], args := [d] }
  | _ => none }
def octetDigitsRow : OpenClaim := { program := "ytooadablecjpdaa", sum := "0183e6bead3b56c12537796697237447ab5ed18c6d5b23b70fe5b7d04ff1e05f", func := "signalbox/signalboxlaw01.OctetDigits", spec := "octetDigits", unfollowed := true, recurses := true, apart := false }
def OctetDigitsSaid : Prop := octetDigitsRow.holds Try.pinned (OpenSpec.ofChange octetDigitsSpec)

/-- ITS FALSE NEIGHBOUR: 'it returns false'. Refute it at one input. -/
def octetDigitsWrong : ChangeSpec := { name := "octetDigits", fn := fun _ => fun
  | [d] => { results := [.lit (.bool false)], args := [d] }
  | _ => none }
def OctetDigitsWrongFalsely : Prop := octetDigitsRow.holds Try.pinned (OpenSpec.ofChange octetDigitsWrong)

/-- 'signalboxlaw01.OctetHex': WHATEVER THE INPUT: true; the input reads as it did. -/
def octetHexSpec : ChangeSpec := { name := "octetHex", fn := fun _ => fun
  | [d] => { results := [.lit (.bool true)], args := [d] }
  | _ => none }
def octetHexRow : OpenClaim := { program := "ytooadablecjpdaa", sum := "0183e6bead3b56c12537796697237447ab5ed18c6d5b23b70fe5b7d04ff1e05f", func := "signalbox/signalboxlaw01.OctetHex", spec := "octetHex", unfollowed := true, recurses := true, apart := false }
def OctetHexSaid : Prop := octetHexRow.holds Try.pinned (OpenSpec.ofChange octetHexSpec)

/-- ITS FALSE NEIGHBOUR: 'it returns false'. Refute it at one input. -/
def octetHexWrong : ChangeSpec := { name := "octetHex", fn := fun _ => fun
  | [d] => { results := [.lit (.bool false)], args := [d] }
  | _ => none }
def OctetHexWrongFalsely : Prop := octetHexRow.holds Try.pinned (OpenSpec.ofChange octetHexWrong)

/-- 'signalboxlaw01.OctetBack': WHATEVER THE INPUT: true; the input reads as it did. -/
def octetBackSpec : ChangeSpec := { name := "octetBack", fn := fun _ => fun
  | [d] => { results := [.lit (.bool true)], args := [d] }
  | _ => none }
def octetBackRow : OpenClaim := { program := "ytooadablecjpdaa", sum := "0183e6bead3b56c12537796697237447ab5ed18c6d5b23b70fe5b7d04ff1e05f", func := "signalbox/signalboxlaw01.OctetBack", spec := "octetBack", unfollowed := true, recurses := true, apart := false }
def OctetBackSaid : Prop := octetBackRow.holds Try.pinned (OpenSpec.ofChange octetBackSpec)

/-- ITS FALSE NEIGHBOUR: 'it returns false'. Refute it at one input. -/
def octetBackWrong : ChangeSpec := { name := "octetBack", fn := fun _ => fun
  | [d] => { results := [.lit (.bool false)], args := [d] }
  | _ => none }
def OctetBackWrongFalsely : Prop := octetBackRow.holds Try.pinned (OpenSpec.ofChange octetBackWrong)

/-- 'signalboxlaw01.OctetTwice': WHATEVER THE INPUT: true; the input reads as it did. -/
def octetTwiceSpec : ChangeSpec := { name := "octetTwice", fn := fun _ => fun
  | [d1, d2, d3] => { results := [.lit (.bool true)], args := [d1, d2, d3] }
  | _ => none }
def octetTwiceRow : OpenClaim := { program := "ytooadablecjpdaa", sum := "0183e6bead3b56c12537796697237447ab5ed18c6d5b23b70fe5b7d04ff1e05f", func := "signalbox/signalboxlaw01.OctetTwice", spec := "octetTwice", unfollowed := true, recurses := true, apart := false }
def OctetTwiceSaid : Prop := octetTwiceRow.holds Try.pinned (OpenSpec.ofChange octetTwiceSpec)

/-- ITS FALSE NEIGHBOUR: 'it returns false'. Refute it at one input. -/
def octetTwiceWrong : ChangeSpec := { name := "octetTwice", fn := fun _ => fun
  | [d1, d2, d3] => { results := [.lit (.bool false)], args := [d1, d2, d3] }
  | _ => none }
def OctetTwiceWrongFalsely : Prop := octetTwiceRow.holds Try.pinned (OpenSpec.ofChange octetTwiceWrong)

/-- 'signalboxlaw01.OctetMasks': WHATEVER THE INPUT: true; the input reads as it did. -/
def octetMasksSpec : ChangeSpec := { name := "octetMasks", fn := fun _ => fun
  | [d1, d2, d3] => { results := [.lit (.bool true)], args := [d1, d2, d3] }
  | _ => none }
def octetMasksRow : OpenClaim := { program := "ytooadablecjpdaa", sum := "0183e6bead3b56c12537796697237447ab5ed18c6d5b23b70fe5b7d04ff1e05f", func := "signalbox/signalboxlaw01.OctetMasks", spec := "octetMasks", unfollowed := true, recurses := true, apart := false }
def OctetMasksSaid : Prop := octetMasksRow.holds Try.pinned (OpenSpec.ofChange octetMasksSpec)

/-- ITS FALSE NEIGHBOUR: 'it returns false'. Refute it at one input. -/
def octetMasksWrong : ChangeSpec := { name := "octetMasks", fn := fun _ => fun
  | [d1, d2, d3] => { results := [.lit (.bool false)], args := [d1, d2, d3] }
  | _ => none }
def OctetMasksWrongFalsely : Prop := octetMasksRow.holds Try.pinned (OpenSpec.ofChange octetMasksWrong)

/-- 'signalboxlaw01.OctetSame': WHATEVER THE INPUT: true; the input reads as it did. -/
def octetSameSpec : ChangeSpec := { name := "octetSame", fn := fun _ => fun
  | [d1, d2, d3, d4, d5] => { results := [.lit (.bool true)], args := [d1, d2, d3, d4, d5] }
  | _ => none }
def octetSameRow : OpenClaim := { program := "ytooadablecjpdaa", sum := "0183e6bead3b56c12537796697237447ab5ed18c6d5b23b70fe5b7d04ff1e05f", func := "signalbox/signalboxlaw01.OctetSame", spec := "octetSame", unfollowed := true, recurses := true, apart := false }
def OctetSameSaid : Prop := octetSameRow.holds Try.pinned (OpenSpec.ofChange octetSameSpec)

/-- ITS FALSE NEIGHBOUR: 'it returns false'. Refute it at one input. -/
def octetSameWrong : ChangeSpec := { name := "octetSame", fn := fun _ => fun
  | [d1, d2, d3, d4, d5] => { results := [.lit (.bool false)], args := [d1, d2, d3, d4, d5] }
  | _ => none }
def OctetSameWrongFalsely : Prop := octetSameRow.holds Try.pinned (OpenSpec.ofChange octetSameWrong)

/-- 'signalboxlaw01.OctetWords': WHATEVER THE INPUT: true; the input reads as it did. -/
def octetWordsSpec : ChangeSpec := { name := "octetWords", fn := fun _ => fun
  | [d1, d2, d3] => { results := [.lit (.bool true)], args := [d1, d2, d3] }
  | _ => none }
def octetWordsRow : OpenClaim := { program := "ytooadablecjpdaa", sum := "0183e6bead3b56c12537796697237447ab5ed18c6d5b23b70fe5b7d04ff1e05f", func := "signalbox/signalboxlaw01.OctetWords", spec := "octetWords", unfollowed := true, recurses := true, apart := false }
def OctetWordsSaid : Prop := octetWordsRow.holds Try.pinned (OpenSpec.ofChange octetWordsSpec)

/-- ITS FALSE NEIGHBOUR: 'it returns false'. Refute it at one input. -/
def octetWordsWrong : ChangeSpec := { name := "octetWords", fn := fun _ => fun
  | [d1, d2, d3] => { results := [.lit (.bool false)], args := [d1, d2, d3] }
  | _ => none }
def OctetWordsWrongFalsely : Prop := octetWordsRow.holds Try.pinned (OpenSpec.ofChange octetWordsWrong)

/- THE SECOND FORM. 'bulk': how many values and letters a reading holds, each counted each time it is reached (what is shared counts as often as it is met; a slice's spare places count too). A statement '..UptoSaid' is the law's where the arguments, and the package variables that the reading takes, are together of bulk at most 1048576: NARROWER than '..Said'. Prove '..Said' where nothing that the law and all that it calls make is longer than what came in: it says more and counts as full. Else prove '..UptoSaid'. A law counts once. -/
mutual
def uptoBulk {H : Type} : DataW H → Nat
  | .lit (.string bytes) => bytes.length + 1
  | .lit _ => 1
  | .nil => 1
  | .ptr d => uptoBulk d + 1
  | .slice elems spare => uptoBulkAll elems + uptoBulkAll spare + 1
  | .agg parts => uptoBulkAll parts + 1
  | .iface _ d => uptoBulk d + 1
  | .map entries => uptoBulkEntries entries + 1
  | .held _ => 1
def uptoBulkAll {H : Type} : List (DataW H) → Nat
  | [] => 0
  | d :: r => uptoBulk d + uptoBulkAll r
def uptoBulkEntries {H : Type} : List (Lit × DataW H) → Nat
  | [] => 0
  | x :: r => uptoBulkEntry x + uptoBulkEntries r
def uptoBulkEntry {H : Type} : Lit × DataW H → Nat
  | (.string bytes, d) => bytes.length + uptoBulk d + 1
  | (_, d) => uptoBulk d + 1
 end
def uptoSmall : (H : Type) → List (DataW H) → Bool := fun _ ds => decide (uptoBulkAll ds ≤ 1048576)
def OpenSpec.upto (s : _root_.Go.ChangeSpec) : _root_.Go.OpenSpec := { _root_.Go.OpenSpec.ofChange s with cond := some uptoSmall }

/-- 'signalboxlaw01.OctetDigits', WHERE WHAT IT READS IS OF BULK AT MOST 1048576: true; the input reads as it did. -/
def octetDigitsUptoRow : OpenClaim := { program := "ytooadablecjpdaa", sum := "0183e6bead3b56c12537796697237447ab5ed18c6d5b23b70fe5b7d04ff1e05f", func := "signalbox/signalboxlaw01.OctetDigits", spec := "octetDigits", unfollowed := true, recurses := true, apart := false, narrowed := true }
def OctetDigitsUptoSaid : Prop := octetDigitsUptoRow.holds Try.pinned (OpenSpec.upto octetDigitsSpec)

/-- 'signalboxlaw01.OctetHex', WHERE WHAT IT READS IS OF BULK AT MOST 1048576: true; the input reads as it did. -/
def octetHexUptoRow : OpenClaim := { program := "ytooadablecjpdaa", sum := "0183e6bead3b56c12537796697237447ab5ed18c6d5b23b70fe5b7d04ff1e05f", func := "signalbox/signalboxlaw01.OctetHex", spec := "octetHex", unfollowed := true, recurses := true, apart := false, narrowed := true }
def OctetHexUptoSaid : Prop := octetHexUptoRow.holds Try.pinned (OpenSpec.upto octetHexSpec)

/-- 'signalboxlaw01.OctetBack', WHERE WHAT IT READS IS OF BULK AT MOST 1048576: true; the input reads as it did. -/
def octetBackUptoRow : OpenClaim := { program := "ytooadablecjpdaa", sum := "0183e6bead3b56c12537796697237447ab5ed18c6d5b23b70fe5b7d04ff1e05f", func := "signalbox/signalboxlaw01.OctetBack", spec := "octetBack", unfollowed := true, recurses := true, apart := false, narrowed := true }
def OctetBackUptoSaid : Prop := octetBackUptoRow.holds Try.pinned (OpenSpec.upto octetBackSpec)

/-- 'signalboxlaw01.OctetTwice', WHERE WHAT IT READS IS OF BULK AT MOST 1048576: true; the input reads as it did. -/
def octetTwiceUptoRow : OpenClaim := { program := "ytooadablecjpdaa", sum := "0183e6bead3b56c12537796697237447ab5ed18c6d5b23b70fe5b7d04ff1e05f", func := "signalbox/signalboxlaw01.OctetTwice", spec := "octetTwice", unfollowed := true, recurses := true, apart := false, narrowed := true }
def OctetTwiceUptoSaid : Prop := octetTwiceUptoRow.holds Try.pinned (OpenSpec.upto octetTwiceSpec)

/-- 'signalboxlaw01.OctetMasks', WHERE WHAT IT READS IS OF BULK AT MOST 1048576: true; the input reads as it did. -/
def octetMasksUptoRow : OpenClaim := { program := "ytooadablecjpdaa", sum := "0183e6bead3b56c12537796697237447ab5ed18c6d5b23b70fe5b7d04ff1e05f", func := "signalbox/signalboxlaw01.OctetMasks", spec := "octetMasks", unfollowed := true, recurses := true, apart := false, narrowed := true }
def OctetMasksUptoSaid : Prop := octetMasksUptoRow.holds Try.pinned (OpenSpec.upto octetMasksSpec)

/-- 'signalboxlaw01.OctetSame', WHERE WHAT IT READS IS OF BULK AT MOST 1048576: true; the input reads as it did. -/
def octetSameUptoRow : OpenClaim := { program := "ytooadablecjpdaa", sum := "0183e6bead3b56c12537796697237447ab5ed18c6d5b23b70fe5b7d04ff1e05f", func := "signalbox/signalboxlaw01.OctetSame", spec := "octetSame", unfollowed := true, recurses := true, apart := false, narrowed := true }
def OctetSameUptoSaid : Prop := octetSameUptoRow.holds Try.pinned (OpenSpec.upto octetSameSpec)

/-- 'signalboxlaw01.OctetWords', WHERE WHAT IT READS IS OF BULK AT MOST 1048576: true; the input reads as it did. -/
def octetWordsUptoRow : OpenClaim := { program := "ytooadablecjpdaa", sum := "0183e6bead3b56c12537796697237447ab5ed18c6d5b23b70fe5b7d04ff1e05f", func := "signalbox/signalboxlaw01.OctetWords", spec := "octetWords", unfollowed := true, recurses := true, apart := false, narrowed := true }
def OctetWordsUptoSaid : Prop := octetWordsUptoRow.holds Try.pinned (OpenSpec.upto octetWordsSpec)

end Rows
end Go.Proofs.Ytooadablecjpdaa
