/-
  NARROWER THAN 'FOR EVERY INPUT', by the rows' own cells (each row's printed sentence says how): InvertBack: laid · LengthsFit: laid · TransformSame: laid · TransformLengths: laid · ComposeBoth: laid · ComposeThree: laid · TransformMeets: laid · TransformFirst: laid · TransformBoth: laid · ComposeBack: laid · TransformTwo: laid.
  DERIVED. THE GIVEN ROWS OF THIS SEAT. 11 by the template 'for every input the law returns true; each argument reads behind the call as it read before'; 0 by the template 'total and deterministic' (their statements: YtajijhnnnekhmaaDoorTotals.lean).
  GIVEN WITH THE SEED: the statements are not yours to turn. If you find one false, say at which input.
  Laid BY PROGRAM, IN A SANDBOX (cutbox-rows.mjs): the forced cells as the released guide's own fill.sh prints them over the translation 23fcdb4b67e9c821… (all of the seat's roots in one cut). By AI agents, Wed Nov 11 2026. No macro, syntax, notation, axiom, sorry.
-/
import Derived.Test.YtajijhnnnekhmaaDoorChecked
import GoSem.PinnedTables
import GoSem.Claim
import GoSem.ClaimJoined
import GoSem.ClaimMapViews
import Derived.JoinedTies
import Derived.KernelRfl
namespace Go.Proofs.YtajijhnnnekhmaaDoor
/- THE CELL 'sum', in the pinned program and in every row, IS THE sha256 OF THE DUMP (.gsa) THAT YtajijhnnnekhmaaDoorProg.lean LOADS. Nothing in Lean hashes anything: it is a label: what it is worth is what the hold of that sum in a sandbox is worth. -/
noncomputable def Tryd.pinned : Pinned := { name := "ytajijhnnnekhmaadoor", sum := "23fcdb4b67e9c82185d7d2ccaa0d2805b8d9f642841f40c1c7038d8af0f49b76", checked := Tryd.checked }
namespace Rows
def none {H : Type} : Left H := { results := [], args := [] }

/- WHAT THE LISTED PACKAGE-LEVEL VARIABLES READ AS WHEN THE CALL BEGINS. Each datum BY PROGRAM (the guide's laid-datum.mjs) off the statement by which the dump's own 'gosem.cut.vars' lays the variable. In a bare row this is a premise. The card (YtajijhnnnekhmaaDoorCards.lean) ties it to the program's text. -/
def laid_unicode_utf8_acceptRanges {H : Type} : DataW H := .agg [.agg [.lit (.int .u8 128), .lit (.int .u8 191)], .agg [.lit (.int .u8 160), .lit (.int .u8 191)], .agg [.lit (.int .u8 128), .lit (.int .u8 159)], .agg [.lit (.int .u8 144), .lit (.int .u8 191)], .agg [.lit (.int .u8 128), .lit (.int .u8 143)], .agg [.lit (.int .u8 0), .lit (.int .u8 0)], .agg [.lit (.int .u8 0), .lit (.int .u8 0)], .agg [.lit (.int .u8 0), .lit (.int .u8 0)], .agg [.lit (.int .u8 0), .lit (.int .u8 0)], .agg [.lit (.int .u8 0), .lit (.int .u8 0)], .agg [.lit (.int .u8 0), .lit (.int .u8 0)], .agg [.lit (.int .u8 0), .lit (.int .u8 0)], .agg [.lit (.int .u8 0), .lit (.int .u8 0)], .agg [.lit (.int .u8 0), .lit (.int .u8 0)], .agg [.lit (.int .u8 0), .lit (.int .u8 0)], .agg [.lit (.int .u8 0), .lit (.int .u8 0)]]
/-- One of Go's own tables, pinned by name: the form's constant. -/
def laid_unicode_utf8_first : DataW Unit := Go.Pinned.utf8First

/-- 'wherrykeep.InvertBack': WHATEVER THE INPUT: true; the input reads as it did. -/
def invertBackSpec : ChangeSpec := { name := "invertBack", fn := fun _ => fun
  | [d1, d2] => { results := [.lit (.bool true)], args := [d1, d2] }
  | _ => none }
def invertBackRow : OpenClaim := { program := "ytajijhnnnekhmaadoor", sum := "23fcdb4b67e9c82185d7d2ccaa0d2805b8d9f642841f40c1c7038d8af0f49b76", func := "wherry/wherrykeep.InvertBack", spec := "invertBack", inPlace := ["internal/abi.NoEscape"], unfollowed := true, recurses := true, named := ["unicode/utf8.first", "unicode/utf8.acceptRanges"], apart := false, laid := [("unicode/utf8.acceptRanges", laid_unicode_utf8_acceptRanges), ("unicode/utf8.first", laid_unicode_utf8_first)] }
def InvertBackSaid : Prop := invertBackRow.holds Tryd.pinned (OpenSpec.ofChange invertBackSpec)

/-- ITS FALSE NEIGHBOUR: 'it returns false'. Refute it at one input. -/
def invertBackWrong : ChangeSpec := { name := "invertBack", fn := fun _ => fun
  | [d1, d2] => { results := [.lit (.bool false)], args := [d1, d2] }
  | _ => none }
def InvertBackWrongFalsely : Prop := invertBackRow.holds Tryd.pinned (OpenSpec.ofChange invertBackWrong)

/-- 'wherrykeep.LengthsFit': WHATEVER THE INPUT: true; the input reads as it did. -/
def lengthsFitSpec : ChangeSpec := { name := "lengthsFit", fn := fun _ => fun
  | [d1, d2, d3] => { results := [.lit (.bool true)], args := [d1, d2, d3] }
  | _ => none }
def lengthsFitRow : OpenClaim := { program := "ytajijhnnnekhmaadoor", sum := "23fcdb4b67e9c82185d7d2ccaa0d2805b8d9f642841f40c1c7038d8af0f49b76", func := "wherry/wherrykeep.LengthsFit", spec := "lengthsFit", unfollowed := true, recurses := true, named := ["unicode/utf8.first", "unicode/utf8.acceptRanges"], apart := false, laid := [("unicode/utf8.acceptRanges", laid_unicode_utf8_acceptRanges), ("unicode/utf8.first", laid_unicode_utf8_first)] }
def LengthsFitSaid : Prop := lengthsFitRow.holds Tryd.pinned (OpenSpec.ofChange lengthsFitSpec)

/-- ITS FALSE NEIGHBOUR: 'it returns false'. Refute it at one input. -/
def lengthsFitWrong : ChangeSpec := { name := "lengthsFit", fn := fun _ => fun
  | [d1, d2, d3] => { results := [.lit (.bool false)], args := [d1, d2, d3] }
  | _ => none }
def LengthsFitWrongFalsely : Prop := lengthsFitRow.holds Tryd.pinned (OpenSpec.ofChange lengthsFitWrong)

/-- 'wherrykeep.TransformSame': WHATEVER THE INPUT: true; the input reads as it did. -/
def transformSameSpec : ChangeSpec := { name := "transformSame", fn := fun _ => fun
  | [d1, d2] => { results := [.lit (.bool true)], args := [d1, d2] }
  | _ => none }
def transformSameRow : OpenClaim := { program := "ytajijhnnnekhmaadoor", sum := "23fcdb4b67e9c82185d7d2ccaa0d2805b8d9f642841f40c1c7038d8af0f49b76", func := "wherry/wherrykeep.TransformSame", spec := "transformSame", unfollowed := true, recurses := true, named := ["unicode/utf8.first", "unicode/utf8.acceptRanges"], apart := false, laid := [("unicode/utf8.acceptRanges", laid_unicode_utf8_acceptRanges), ("unicode/utf8.first", laid_unicode_utf8_first)] }
def TransformSameSaid : Prop := transformSameRow.holds Tryd.pinned (OpenSpec.ofChange transformSameSpec)

/-- ITS FALSE NEIGHBOUR: 'it returns false'. Refute it at one input. -/
def transformSameWrong : ChangeSpec := { name := "transformSame", fn := fun _ => fun
  | [d1, d2] => { results := [.lit (.bool false)], args := [d1, d2] }
  | _ => none }
def TransformSameWrongFalsely : Prop := transformSameRow.holds Tryd.pinned (OpenSpec.ofChange transformSameWrong)

/-- 'wherrykeep.TransformLengths': WHATEVER THE INPUT: true; the input reads as it did. -/
def transformLengthsSpec : ChangeSpec := { name := "transformLengths", fn := fun _ => fun
  | [d1, d2, d3] => { results := [.lit (.bool true)], args := [d1, d2, d3] }
  | _ => none }
def transformLengthsRow : OpenClaim := { program := "ytajijhnnnekhmaadoor", sum := "23fcdb4b67e9c82185d7d2ccaa0d2805b8d9f642841f40c1c7038d8af0f49b76", func := "wherry/wherrykeep.TransformLengths", spec := "transformLengths", unfollowed := true, recurses := true, named := ["unicode/utf8.first", "unicode/utf8.acceptRanges"], apart := false, laid := [("unicode/utf8.acceptRanges", laid_unicode_utf8_acceptRanges), ("unicode/utf8.first", laid_unicode_utf8_first)] }
def TransformLengthsSaid : Prop := transformLengthsRow.holds Tryd.pinned (OpenSpec.ofChange transformLengthsSpec)

/-- ITS FALSE NEIGHBOUR: 'it returns false'. Refute it at one input. -/
def transformLengthsWrong : ChangeSpec := { name := "transformLengths", fn := fun _ => fun
  | [d1, d2, d3] => { results := [.lit (.bool false)], args := [d1, d2, d3] }
  | _ => none }
def TransformLengthsWrongFalsely : Prop := transformLengthsRow.holds Tryd.pinned (OpenSpec.ofChange transformLengthsWrong)

/-- 'wherrykeep.ComposeBoth': WHATEVER THE INPUT: true; the input reads as it did. -/
def composeBothSpec : ChangeSpec := { name := "composeBoth", fn := fun _ => fun
  | [d1, d2, d3] => { results := [.lit (.bool true)], args := [d1, d2, d3] }
  | _ => none }
def composeBothRow : OpenClaim := { program := "ytajijhnnnekhmaadoor", sum := "23fcdb4b67e9c82185d7d2ccaa0d2805b8d9f642841f40c1c7038d8af0f49b76", func := "wherry/wherrykeep.ComposeBoth", spec := "composeBoth", inPlace := ["internal/abi.NoEscape"], unfollowed := true, recurses := true, named := ["unicode/utf8.first", "unicode/utf8.acceptRanges"], apart := false, laid := [("unicode/utf8.acceptRanges", laid_unicode_utf8_acceptRanges), ("unicode/utf8.first", laid_unicode_utf8_first)] }
def ComposeBothSaid : Prop := composeBothRow.holds Tryd.pinned (OpenSpec.ofChange composeBothSpec)

/-- ITS FALSE NEIGHBOUR: 'it returns false'. Refute it at one input. -/
def composeBothWrong : ChangeSpec := { name := "composeBoth", fn := fun _ => fun
  | [d1, d2, d3] => { results := [.lit (.bool false)], args := [d1, d2, d3] }
  | _ => none }
def ComposeBothWrongFalsely : Prop := composeBothRow.holds Tryd.pinned (OpenSpec.ofChange composeBothWrong)

/-- 'wherrykeep.ComposeThree': WHATEVER THE INPUT: true; the input reads as it did. -/
def composeThreeSpec : ChangeSpec := { name := "composeThree", fn := fun _ => fun
  | [d1, d2, d3, d4] => { results := [.lit (.bool true)], args := [d1, d2, d3, d4] }
  | _ => none }
def composeThreeRow : OpenClaim := { program := "ytajijhnnnekhmaadoor", sum := "23fcdb4b67e9c82185d7d2ccaa0d2805b8d9f642841f40c1c7038d8af0f49b76", func := "wherry/wherrykeep.ComposeThree", spec := "composeThree", inPlace := ["internal/abi.NoEscape"], unfollowed := true, recurses := true, named := ["unicode/utf8.first", "unicode/utf8.acceptRanges"], apart := false, laid := [("unicode/utf8.acceptRanges", laid_unicode_utf8_acceptRanges), ("unicode/utf8.first", laid_unicode_utf8_first)] }
def ComposeThreeSaid : Prop := composeThreeRow.holds Tryd.pinned (OpenSpec.ofChange composeThreeSpec)

/-- ITS FALSE NEIGHBOUR: 'it returns false'. Refute it at one input. -/
def composeThreeWrong : ChangeSpec := { name := "composeThree", fn := fun _ => fun
  | [d1, d2, d3, d4] => { results := [.lit (.bool false)], args := [d1, d2, d3, d4] }
  | _ => none }
def ComposeThreeWrongFalsely : Prop := composeThreeRow.holds Tryd.pinned (OpenSpec.ofChange composeThreeWrong)

/-- 'wherrykeep.TransformMeets': WHATEVER THE INPUT: true; the input reads as it did. -/
def transformMeetsSpec : ChangeSpec := { name := "transformMeets", fn := fun _ => fun
  | [d1, d2, d3] => { results := [.lit (.bool true)], args := [d1, d2, d3] }
  | _ => none }
def transformMeetsRow : OpenClaim := { program := "ytajijhnnnekhmaadoor", sum := "23fcdb4b67e9c82185d7d2ccaa0d2805b8d9f642841f40c1c7038d8af0f49b76", func := "wherry/wherrykeep.TransformMeets", spec := "transformMeets", inPlace := ["internal/abi.NoEscape"], unfollowed := true, recurses := true, named := ["unicode/utf8.first", "unicode/utf8.acceptRanges"], apart := false, laid := [("unicode/utf8.acceptRanges", laid_unicode_utf8_acceptRanges), ("unicode/utf8.first", laid_unicode_utf8_first)] }
def TransformMeetsSaid : Prop := transformMeetsRow.holds Tryd.pinned (OpenSpec.ofChange transformMeetsSpec)

/-- ITS FALSE NEIGHBOUR: 'it returns false'. Refute it at one input. -/
def transformMeetsWrong : ChangeSpec := { name := "transformMeets", fn := fun _ => fun
  | [d1, d2, d3] => { results := [.lit (.bool false)], args := [d1, d2, d3] }
  | _ => none }
def TransformMeetsWrongFalsely : Prop := transformMeetsRow.holds Tryd.pinned (OpenSpec.ofChange transformMeetsWrong)

/-- 'wherrykeep.TransformFirst': WHATEVER THE INPUT: true; the input reads as it did. -/
def transformFirstSpec : ChangeSpec := { name := "transformFirst", fn := fun _ => fun
  | [d1, d2, d3, d4] => { results := [.lit (.bool true)], args := [d1, d2, d3, d4] }
  | _ => none }
def transformFirstRow : OpenClaim := { program := "ytajijhnnnekhmaadoor", sum := "23fcdb4b67e9c82185d7d2ccaa0d2805b8d9f642841f40c1c7038d8af0f49b76", func := "wherry/wherrykeep.TransformFirst", spec := "transformFirst", inPlace := ["internal/abi.NoEscape"], recurses := true, named := ["unicode/utf8.first", "unicode/utf8.acceptRanges"], apart := false, laid := [("unicode/utf8.acceptRanges", laid_unicode_utf8_acceptRanges), ("unicode/utf8.first", laid_unicode_utf8_first)] }
def TransformFirstSaid : Prop := transformFirstRow.holds Tryd.pinned (OpenSpec.ofChange transformFirstSpec)

/-- ITS FALSE NEIGHBOUR: 'it returns false'. Refute it at one input. -/
def transformFirstWrong : ChangeSpec := { name := "transformFirst", fn := fun _ => fun
  | [d1, d2, d3, d4] => { results := [.lit (.bool false)], args := [d1, d2, d3, d4] }
  | _ => none }
def TransformFirstWrongFalsely : Prop := transformFirstRow.holds Tryd.pinned (OpenSpec.ofChange transformFirstWrong)

/-- 'wherrykeep.TransformBoth': WHATEVER THE INPUT: true; the input reads as it did. -/
def transformBothSpec : ChangeSpec := { name := "transformBoth", fn := fun _ => fun
  | [d1, d2, d3] => { results := [.lit (.bool true)], args := [d1, d2, d3] }
  | _ => none }
def transformBothRow : OpenClaim := { program := "ytajijhnnnekhmaadoor", sum := "23fcdb4b67e9c82185d7d2ccaa0d2805b8d9f642841f40c1c7038d8af0f49b76", func := "wherry/wherrykeep.TransformBoth", spec := "transformBoth", inPlace := ["internal/abi.NoEscape"], unfollowed := true, recurses := true, named := ["unicode/utf8.first", "unicode/utf8.acceptRanges"], apart := false, laid := [("unicode/utf8.acceptRanges", laid_unicode_utf8_acceptRanges), ("unicode/utf8.first", laid_unicode_utf8_first)] }
def TransformBothSaid : Prop := transformBothRow.holds Tryd.pinned (OpenSpec.ofChange transformBothSpec)

/-- ITS FALSE NEIGHBOUR: 'it returns false'. Refute it at one input. -/
def transformBothWrong : ChangeSpec := { name := "transformBoth", fn := fun _ => fun
  | [d1, d2, d3] => { results := [.lit (.bool false)], args := [d1, d2, d3] }
  | _ => none }
def TransformBothWrongFalsely : Prop := transformBothRow.holds Tryd.pinned (OpenSpec.ofChange transformBothWrong)

/-- 'wherrykeep.ComposeBack': WHATEVER THE INPUT: true; the input reads as it did. -/
def composeBackSpec : ChangeSpec := { name := "composeBack", fn := fun _ => fun
  | [d1, d2] => { results := [.lit (.bool true)], args := [d1, d2] }
  | _ => none }
def composeBackRow : OpenClaim := { program := "ytajijhnnnekhmaadoor", sum := "23fcdb4b67e9c82185d7d2ccaa0d2805b8d9f642841f40c1c7038d8af0f49b76", func := "wherry/wherrykeep.ComposeBack", spec := "composeBack", inPlace := ["internal/abi.NoEscape"], unfollowed := true, recurses := true, named := ["unicode/utf8.first", "unicode/utf8.acceptRanges"], apart := false, laid := [("unicode/utf8.acceptRanges", laid_unicode_utf8_acceptRanges), ("unicode/utf8.first", laid_unicode_utf8_first)] }
def ComposeBackSaid : Prop := composeBackRow.holds Tryd.pinned (OpenSpec.ofChange composeBackSpec)

/-- ITS FALSE NEIGHBOUR: 'it returns false'. Refute it at one input. -/
def composeBackWrong : ChangeSpec := { name := "composeBack", fn := fun _ => fun
  | [d1, d2] => { results := [.lit (.bool false)], args := [d1, d2] }
  | _ => none }
def ComposeBackWrongFalsely : Prop := composeBackRow.holds Tryd.pinned (OpenSpec.ofChange composeBackWrong)

/-- 'wherrykeep.TransformTwo': WHATEVER THE INPUT: true; the input reads as it did. -/
def transformTwoSpec : ChangeSpec := { name := "transformTwo", fn := fun _ => fun
  | [d1, d2, d3, d4] => { results := [.lit (.bool true)], args := [d1, d2, d3, d4] }
  | _ => none }
def transformTwoRow : OpenClaim := { program := "ytajijhnnnekhmaadoor", sum := "23fcdb4b67e9c82185d7d2ccaa0d2805b8d9f642841f40c1c7038d8af0f49b76", func := "wherry/wherrykeep.TransformTwo", spec := "transformTwo", inPlace := ["internal/abi.NoEscape"], unfollowed := true, recurses := true, named := ["unicode/utf8.first", "unicode/utf8.acceptRanges"], apart := false, laid := [("unicode/utf8.acceptRanges", laid_unicode_utf8_acceptRanges), ("unicode/utf8.first", laid_unicode_utf8_first)] }
def TransformTwoSaid : Prop := transformTwoRow.holds Tryd.pinned (OpenSpec.ofChange transformTwoSpec)

/-- ITS FALSE NEIGHBOUR: 'it returns false'. Refute it at one input. -/
def transformTwoWrong : ChangeSpec := { name := "transformTwo", fn := fun _ => fun
  | [d1, d2, d3, d4] => { results := [.lit (.bool false)], args := [d1, d2, d3, d4] }
  | _ => none }
def TransformTwoWrongFalsely : Prop := transformTwoRow.holds Tryd.pinned (OpenSpec.ofChange transformTwoWrong)

/- THE SECOND FORM. 'bulk': how many values and letters a reading holds, each counted each time it is reached (what is shared counts as often as it is met; a slice's spare places count too). A statement '..UptoSaid' is the law's where the arguments, and the package variables that the reading takes, are together of bulk at most 1048576: NARROWER than '..Said'. Prove '..Said' where nothing that the law and all that it calls make is longer than what came in: it says more and counts as full. Else prove '..UptoSaid'. A law counts once. -/
mutual
def uptoBulk {H : Type} : DataW H → Nat
  | .lit (.string bytes) => bytes.length + 1
  | .lit _ => 1
  | .nil => 1
  | .ptr d => uptoBulk d + 1
  | .slice elems spare => uptoBulkAll elems + uptoBulkAll spare + 1
  | .agg parts => uptoBulkAll parts + 1
  | .iface _ d => uptoBulk d + 1
  | .map entries => uptoBulkEntries entries + 1
  | .held _ => 1
def uptoBulkAll {H : Type} : List (DataW H) → Nat
  | [] => 0
  | d :: r => uptoBulk d + uptoBulkAll r
def uptoBulkEntries {H : Type} : List (Lit × DataW H) → Nat
  | [] => 0
  | x :: r => uptoBulkEntry x + uptoBulkEntries r
def uptoBulkEntry {H : Type} : Lit × DataW H → Nat
  | (.string bytes, d) => bytes.length + uptoBulk d + 1
  | (_, d) => uptoBulk d + 1
 end
def uptoSmall : (H : Type) → List (DataW H) → Bool := fun _ ds => decide (uptoBulkAll ds ≤ 1048576)
def OpenSpec.upto (s : _root_.Go.ChangeSpec) : _root_.Go.OpenSpec := { _root_.Go.OpenSpec.ofChange s with cond := some uptoSmall }

/-- 'wherrykeep.InvertBack', WHERE WHAT IT READS IS OF BULK AT MOST 1048576: true; the input reads as it did. -/
def invertBackUptoRow : OpenClaim := { program := "ytajijhnnnekhmaadoor", sum := "23fcdb4b67e9c82185d7d2ccaa0d2805b8d9f642841f40c1c7038d8af0f49b76", func := "wherry/wherrykeep.InvertBack", spec := "invertBack", inPlace := ["internal/abi.NoEscape"], unfollowed := true, recurses := true, named := ["unicode/utf8.first", "unicode/utf8.acceptRanges"], apart := false, laid := [("unicode/utf8.acceptRanges", laid_unicode_utf8_acceptRanges), ("unicode/utf8.first", laid_unicode_utf8_first)], narrowed := true }
def InvertBackUptoSaid : Prop := invertBackUptoRow.holds Tryd.pinned (OpenSpec.upto invertBackSpec)

/-- 'wherrykeep.LengthsFit', WHERE WHAT IT READS IS OF BULK AT MOST 1048576: true; the input reads as it did. -/
def lengthsFitUptoRow : OpenClaim := { program := "ytajijhnnnekhmaadoor", sum := "23fcdb4b67e9c82185d7d2ccaa0d2805b8d9f642841f40c1c7038d8af0f49b76", func := "wherry/wherrykeep.LengthsFit", spec := "lengthsFit", unfollowed := true, recurses := true, named := ["unicode/utf8.first", "unicode/utf8.acceptRanges"], apart := false, laid := [("unicode/utf8.acceptRanges", laid_unicode_utf8_acceptRanges), ("unicode/utf8.first", laid_unicode_utf8_first)], narrowed := true }
def LengthsFitUptoSaid : Prop := lengthsFitUptoRow.holds Tryd.pinned (OpenSpec.upto lengthsFitSpec)

/-- 'wherrykeep.TransformSame', WHERE WHAT IT READS IS OF BULK AT MOST 1048576: true; the input reads as it did. -/
def transformSameUptoRow : OpenClaim := { program := "ytajijhnnnekhmaadoor", sum := "23fcdb4b67e9c82185d7d2ccaa0d2805b8d9f642841f40c1c7038d8af0f49b76", func := "wherry/wherrykeep.TransformSame", spec := "transformSame", unfollowed := true, recurses := true, named := ["unicode/utf8.first", "unicode/utf8.acceptRanges"], apart := false, laid := [("unicode/utf8.acceptRanges", laid_unicode_utf8_acceptRanges), ("unicode/utf8.first", laid_unicode_utf8_first)], narrowed := true }
def TransformSameUptoSaid : Prop := transformSameUptoRow.holds Tryd.pinned (OpenSpec.upto transformSameSpec)

/-- 'wherrykeep.TransformLengths', WHERE WHAT IT READS IS OF BULK AT MOST 1048576: true; the input reads as it did. -/
def transformLengthsUptoRow : OpenClaim := { program := "ytajijhnnnekhmaadoor", sum := "23fcdb4b67e9c82185d7d2ccaa0d2805b8d9f642841f40c1c7038d8af0f49b76", func := "wherry/wherrykeep.TransformLengths", spec := "transformLengths", unfollowed := true, recurses := true, named := ["unicode/utf8.first", "unicode/utf8.acceptRanges"], apart := false, laid := [("unicode/utf8.acceptRanges", laid_unicode_utf8_acceptRanges), ("unicode/utf8.first", laid_unicode_utf8_first)], narrowed := true }
def TransformLengthsUptoSaid : Prop := transformLengthsUptoRow.holds Tryd.pinned (OpenSpec.upto transformLengthsSpec)

/-- 'wherrykeep.ComposeBoth', WHERE WHAT IT READS IS OF BULK AT MOST 1048576: true; the input reads as it did. -/
def composeBothUptoRow : OpenClaim := { program := "ytajijhnnnekhmaadoor", sum := "23fcdb4b67e9c82185d7d2ccaa0d2805b8d9f642841f40c1c7038d8af0f49b76", func := "wherry/wherrykeep.ComposeBoth", spec := "composeBoth", inPlace := ["internal/abi.NoEscape"], unfollowed := true, recurses := true, named := ["unicode/utf8.first", "unicode/utf8.acceptRanges"], apart := false, laid := [("unicode/utf8.acceptRanges", laid_unicode_utf8_acceptRanges), ("unicode/utf8.first", laid_unicode_utf8_first)], narrowed := true }
def ComposeBothUptoSaid : Prop := composeBothUptoRow.holds Tryd.pinned (OpenSpec.upto composeBothSpec)

/-- 'wherrykeep.ComposeThree', WHERE WHAT IT READS IS OF BULK AT MOST 1048576: true; the input reads as it did. -/
def composeThreeUptoRow : OpenClaim := { program := "ytajijhnnnekhmaadoor", sum := "23fcdb4b67e9c82185d7d2ccaa0d2805b8d9f642841f40c1c7038d8af0f49b76", func := "wherry/wherrykeep.ComposeThree", spec := "composeThree", inPlace := ["internal/abi.NoEscape"], unfollowed := true, recurses := true, named := ["unicode/utf8.first", "unicode/utf8.acceptRanges"], apart := false, laid := [("unicode/utf8.acceptRanges", laid_unicode_utf8_acceptRanges), ("unicode/utf8.first", laid_unicode_utf8_first)], narrowed := true }
def ComposeThreeUptoSaid : Prop := composeThreeUptoRow.holds Tryd.pinned (OpenSpec.upto composeThreeSpec)

/-- 'wherrykeep.TransformMeets', WHERE WHAT IT READS IS OF BULK AT MOST 1048576: true; the input reads as it did. -/
def transformMeetsUptoRow : OpenClaim := { program := "ytajijhnnnekhmaadoor", sum := "23fcdb4b67e9c82185d7d2ccaa0d2805b8d9f642841f40c1c7038d8af0f49b76", func := "wherry/wherrykeep.TransformMeets", spec := "transformMeets", inPlace := ["internal/abi.NoEscape"], unfollowed := true, recurses := true, named := ["unicode/utf8.first", "unicode/utf8.acceptRanges"], apart := false, laid := [("unicode/utf8.acceptRanges", laid_unicode_utf8_acceptRanges), ("unicode/utf8.first", laid_unicode_utf8_first)], narrowed := true }
def TransformMeetsUptoSaid : Prop := transformMeetsUptoRow.holds Tryd.pinned (OpenSpec.upto transformMeetsSpec)

/-- 'wherrykeep.TransformFirst', WHERE WHAT IT READS IS OF BULK AT MOST 1048576: true; the input reads as it did. -/
def transformFirstUptoRow : OpenClaim := { program := "ytajijhnnnekhmaadoor", sum := "23fcdb4b67e9c82185d7d2ccaa0d2805b8d9f642841f40c1c7038d8af0f49b76", func := "wherry/wherrykeep.TransformFirst", spec := "transformFirst", inPlace := ["internal/abi.NoEscape"], recurses := true, named := ["unicode/utf8.first", "unicode/utf8.acceptRanges"], apart := false, laid := [("unicode/utf8.acceptRanges", laid_unicode_utf8_acceptRanges), ("unicode/utf8.first", laid_unicode_utf8_first)], narrowed := true }
def TransformFirstUptoSaid : Prop := transformFirstUptoRow.holds Tryd.pinned (OpenSpec.upto transformFirstSpec)

/-- 'wherrykeep.TransformBoth', WHERE WHAT IT READS IS OF BULK AT MOST 1048576: true; the input reads as it did. -/
def transformBothUptoRow : OpenClaim := { program := "ytajijhnnnekhmaadoor", sum := "23fcdb4b67e9c82185d7d2ccaa0d2805b8d9f642841f40c1c7038d8af0f49b76", func := "wherry/wherrykeep.TransformBoth", spec := "transformBoth", inPlace := ["internal/abi.NoEscape"], unfollowed := true, recurses := true, named := ["unicode/utf8.first", "unicode/utf8.acceptRanges"], apart := false, laid := [("unicode/utf8.acceptRanges", laid_unicode_utf8_acceptRanges), ("unicode/utf8.first", laid_unicode_utf8_first)], narrowed := true }
def TransformBothUptoSaid : Prop := transformBothUptoRow.holds Tryd.pinned (OpenSpec.upto transformBothSpec)

/-- 'wherrykeep.ComposeBack', WHERE WHAT IT READS IS OF BULK AT MOST 1048576: true; the input reads as it did. -/
def composeBackUptoRow : OpenClaim := { program := "ytajijhnnnekhmaadoor", sum := "23fcdb4b67e9c82185d7d2ccaa0d2805b8d9f642841f40c1c7038d8af0f49b76", func := "wherry/wherrykeep.ComposeBack", spec := "composeBack", inPlace := ["internal/abi.NoEscape"], unfollowed := true, recurses := true, named := ["unicode/utf8.first", "unicode/utf8.acceptRanges"], apart := false, laid := [("unicode/utf8.acceptRanges", laid_unicode_utf8_acceptRanges), ("unicode/utf8.first", laid_unicode_utf8_first)], narrowed := true }
def ComposeBackUptoSaid : Prop := composeBackUptoRow.holds Tryd.pinned (OpenSpec.upto composeBackSpec)

/-- 'wherrykeep.TransformTwo', WHERE WHAT IT READS IS OF BULK AT MOST 1048576: true; the input reads as it did. -/
def transformTwoUptoRow : OpenClaim := { program := "ytajijhnnnekhmaadoor", sum := "23fcdb4b67e9c82185d7d2ccaa0d2805b8d9f642841f40c1c7038d8af0f49b76", func := "wherry/wherrykeep.TransformTwo", spec := "transformTwo", inPlace := ["internal/abi.NoEscape"], unfollowed := true, recurses := true, named := ["unicode/utf8.first", "unicode/utf8.acceptRanges"], apart := false, laid := [("unicode/utf8.acceptRanges", laid_unicode_utf8_acceptRanges), ("unicode/utf8.first", laid_unicode_utf8_first)], narrowed := true }
def TransformTwoUptoSaid : Prop := transformTwoUptoRow.holds Tryd.pinned (OpenSpec.upto transformTwoSpec)

end Rows
end Go.Proofs.YtajijhnnnekhmaaDoor
