/-
  NARROWER THAN 'FOR EVERY INPUT', by the rows' own cells (each row's printed sentence says how): TextLong: laid · OpBad: laid · EdgeBad: laid · FrameBare: laid · MoveOrder: laid · OpGood: laid · EdgeFits: laid · ReplayMakes: laid · MoveRest: laid · WholeMakes: laid · TapeLengths: laid.
  DERIVED. THE GIVEN ROWS OF THIS SEAT. 11 by the template 'for every input the law returns true; each argument reads behind the call as it read before'; 0 by the template 'total and deterministic' (their statements: YtndclmjpjcilmaaDoorTotals.lean).
  GIVEN WITH THE SEED: the statements are not yours to turn. If you find one false, say at which input.
  Laid BY PROGRAM, IN A SANDBOX (cutbox-rows.mjs): the forced cells as the released guide's own fill.sh prints them over the translation 94063c6ebc23d827… (all of the seat's roots in one cut). By AI agents, Wed Nov 11 2026. No macro, syntax, notation, axiom, sorry.
-/
import Derived.Test.YtndclmjpjcilmaaDoorChecked
import GoSem.PinnedTables
import GoSem.Claim
import GoSem.ClaimJoined
import GoSem.ClaimMapViews
import Derived.JoinedTies
import Derived.KernelRfl
namespace Go.Proofs.YtndclmjpjcilmaaDoor
/- THE CELL 'sum', in the pinned program and in every row, IS THE sha256 OF THE DUMP (.gsa) THAT YtndclmjpjcilmaaDoorProg.lean LOADS. Nothing in Lean hashes anything: it is a label: what it is worth is what the hold of that sum in a sandbox is worth. -/
noncomputable def Tryd.pinned : Pinned := { name := "ytndclmjpjcilmaadoor", sum := "94063c6ebc23d827a5438bed9d1bed39287a9313bff8da9e3e59c0ac8a6f45dd", checked := Tryd.checked }
namespace Rows
def none {H : Type} : Left H := { results := [], args := [] }

/- WHAT THE LISTED PACKAGE-LEVEL VARIABLES READ AS WHEN THE CALL BEGINS. Each datum BY PROGRAM (the guide's laid-datum.mjs) off the statement by which the dump's own 'gosem.cut.vars' lays the variable. In a bare row this is a premise. The card (YtndclmjpjcilmaaDoorCards.lean) ties it to the program's text. -/
def laid_unicode_utf8_acceptRanges {H : Type} : DataW H := .agg [.agg [.lit (.int .u8 128), .lit (.int .u8 191)], .agg [.lit (.int .u8 160), .lit (.int .u8 191)], .agg [.lit (.int .u8 128), .lit (.int .u8 159)], .agg [.lit (.int .u8 144), .lit (.int .u8 191)], .agg [.lit (.int .u8 128), .lit (.int .u8 143)], .agg [.lit (.int .u8 0), .lit (.int .u8 0)], .agg [.lit (.int .u8 0), .lit (.int .u8 0)], .agg [.lit (.int .u8 0), .lit (.int .u8 0)], .agg [.lit (.int .u8 0), .lit (.int .u8 0)], .agg [.lit (.int .u8 0), .lit (.int .u8 0)], .agg [.lit (.int .u8 0), .lit (.int .u8 0)], .agg [.lit (.int .u8 0), .lit (.int .u8 0)], .agg [.lit (.int .u8 0), .lit (.int .u8 0)], .agg [.lit (.int .u8 0), .lit (.int .u8 0)], .agg [.lit (.int .u8 0), .lit (.int .u8 0)], .agg [.lit (.int .u8 0), .lit (.int .u8 0)]]
/-- One of Go's own tables, pinned by name: the form's constant. -/
def laid_unicode_utf8_first : DataW Unit := Go.Pinned.utf8First

/-- 'wherrykeep.TextLong': WHATEVER THE INPUT: true; the input reads as it did. -/
def textLongSpec : ChangeSpec := { name := "textLong", fn := fun _ => fun
  | [d1, d2] => { results := [.lit (.bool true)], args := [d1, d2] }
  | _ => none }
def textLongRow : OpenClaim := { program := "ytndclmjpjcilmaadoor", sum := "94063c6ebc23d827a5438bed9d1bed39287a9313bff8da9e3e59c0ac8a6f45dd", func := "wherry/wherrykeep.TextLong", spec := "textLong", named := ["unicode/utf8.first", "unicode/utf8.acceptRanges"], apart := false, laid := [("unicode/utf8.acceptRanges", laid_unicode_utf8_acceptRanges), ("unicode/utf8.first", laid_unicode_utf8_first)] }
def TextLongSaid : Prop := textLongRow.holds Tryd.pinned (OpenSpec.ofChange textLongSpec)

/-- ITS FALSE NEIGHBOUR: 'it returns false'. Refute it at one input. -/
def textLongWrong : ChangeSpec := { name := "textLong", fn := fun _ => fun
  | [d1, d2] => { results := [.lit (.bool false)], args := [d1, d2] }
  | _ => none }
def TextLongWrongFalsely : Prop := textLongRow.holds Tryd.pinned (OpenSpec.ofChange textLongWrong)

/-- 'wherrykeep.OpBad': WHATEVER THE INPUT: true; the input reads as it did. -/
def opBadSpec : ChangeSpec := { name := "opBad", fn := fun _ => fun
  | [d1, d2] => { results := [.lit (.bool true)], args := [d1, d2] }
  | _ => none }
def opBadRow : OpenClaim := { program := "ytndclmjpjcilmaadoor", sum := "94063c6ebc23d827a5438bed9d1bed39287a9313bff8da9e3e59c0ac8a6f45dd", func := "wherry/wherrykeep.OpBad", spec := "opBad", named := ["unicode/utf8.first", "unicode/utf8.acceptRanges"], apart := false, laid := [("unicode/utf8.acceptRanges", laid_unicode_utf8_acceptRanges), ("unicode/utf8.first", laid_unicode_utf8_first)] }
def OpBadSaid : Prop := opBadRow.holds Tryd.pinned (OpenSpec.ofChange opBadSpec)

/-- ITS FALSE NEIGHBOUR: 'it returns false'. Refute it at one input. -/
def opBadWrong : ChangeSpec := { name := "opBad", fn := fun _ => fun
  | [d1, d2] => { results := [.lit (.bool false)], args := [d1, d2] }
  | _ => none }
def OpBadWrongFalsely : Prop := opBadRow.holds Tryd.pinned (OpenSpec.ofChange opBadWrong)

/-- 'wherrykeep.EdgeBad': WHATEVER THE INPUT: true; the input reads as it did. -/
def edgeBadSpec : ChangeSpec := { name := "edgeBad", fn := fun _ => fun
  | [d1, d2, d3, d4] => { results := [.lit (.bool true)], args := [d1, d2, d3, d4] }
  | _ => none }
def edgeBadRow : OpenClaim := { program := "ytndclmjpjcilmaadoor", sum := "94063c6ebc23d827a5438bed9d1bed39287a9313bff8da9e3e59c0ac8a6f45dd", func := "wherry/wherrykeep.EdgeBad", spec := "edgeBad", unfollowed := true, recurses := true, named := ["unicode/utf8.first", "unicode/utf8.acceptRanges"], apart := false, laid := [("unicode/utf8.acceptRanges", laid_unicode_utf8_acceptRanges), ("unicode/utf8.first", laid_unicode_utf8_first)] }
def EdgeBadSaid : Prop := edgeBadRow.holds Tryd.pinned (OpenSpec.ofChange edgeBadSpec)

/-- ITS FALSE NEIGHBOUR: 'it returns false'. Refute it at one input. -/
def edgeBadWrong : ChangeSpec := { name := "edgeBad", fn := fun _ => fun
  | [d1, d2, d3, d4] => { results := [.lit (.bool false)], args := [d1, d2, d3, d4] }
  | _ => none }
def EdgeBadWrongFalsely : Prop := edgeBadRow.holds Tryd.pinned (OpenSpec.ofChange edgeBadWrong)

/-- 'wherrykeep.FrameBare': WHATEVER THE INPUT: true; the input reads as it did. -/
def frameBareSpec : ChangeSpec := { name := "frameBare", fn := fun _ => fun
  | [d1, d2, d3] => { results := [.lit (.bool true)], args := [d1, d2, d3] }
  | _ => none }
def frameBareRow : OpenClaim := { program := "ytndclmjpjcilmaadoor", sum := "94063c6ebc23d827a5438bed9d1bed39287a9313bff8da9e3e59c0ac8a6f45dd", func := "wherry/wherrykeep.FrameBare", spec := "frameBare", unfollowed := true, recurses := true, named := ["unicode/utf8.first", "unicode/utf8.acceptRanges"], apart := false, laid := [("unicode/utf8.acceptRanges", laid_unicode_utf8_acceptRanges), ("unicode/utf8.first", laid_unicode_utf8_first)] }
def FrameBareSaid : Prop := frameBareRow.holds Tryd.pinned (OpenSpec.ofChange frameBareSpec)

/-- ITS FALSE NEIGHBOUR: 'it returns false'. Refute it at one input. -/
def frameBareWrong : ChangeSpec := { name := "frameBare", fn := fun _ => fun
  | [d1, d2, d3] => { results := [.lit (.bool false)], args := [d1, d2, d3] }
  | _ => none }
def FrameBareWrongFalsely : Prop := frameBareRow.holds Tryd.pinned (OpenSpec.ofChange frameBareWrong)

/-- 'wherrykeep.MoveOrder': WHATEVER THE INPUT: true; the input reads as it did. -/
def moveOrderSpec : ChangeSpec := { name := "moveOrder", fn := fun _ => fun
  | [d1, d2, d3, d4, d5] => { results := [.lit (.bool true)], args := [d1, d2, d3, d4, d5] }
  | _ => none }
def moveOrderRow : OpenClaim := { program := "ytndclmjpjcilmaadoor", sum := "94063c6ebc23d827a5438bed9d1bed39287a9313bff8da9e3e59c0ac8a6f45dd", func := "wherry/wherrykeep.MoveOrder", spec := "moveOrder", unfollowed := true, recurses := true, named := ["unicode/utf8.first", "unicode/utf8.acceptRanges"], apart := false, laid := [("unicode/utf8.acceptRanges", laid_unicode_utf8_acceptRanges), ("unicode/utf8.first", laid_unicode_utf8_first)] }
def MoveOrderSaid : Prop := moveOrderRow.holds Tryd.pinned (OpenSpec.ofChange moveOrderSpec)

/-- ITS FALSE NEIGHBOUR: 'it returns false'. Refute it at one input. -/
def moveOrderWrong : ChangeSpec := { name := "moveOrder", fn := fun _ => fun
  | [d1, d2, d3, d4, d5] => { results := [.lit (.bool false)], args := [d1, d2, d3, d4, d5] }
  | _ => none }
def MoveOrderWrongFalsely : Prop := moveOrderRow.holds Tryd.pinned (OpenSpec.ofChange moveOrderWrong)

/-- 'wherrykeep.OpGood': WHATEVER THE INPUT: true; the input reads as it did. -/
def opGoodSpec : ChangeSpec := { name := "opGood", fn := fun _ => fun
  | [d1, d2] => { results := [.lit (.bool true)], args := [d1, d2] }
  | _ => none }
def opGoodRow : OpenClaim := { program := "ytndclmjpjcilmaadoor", sum := "94063c6ebc23d827a5438bed9d1bed39287a9313bff8da9e3e59c0ac8a6f45dd", func := "wherry/wherrykeep.OpGood", spec := "opGood", inPlace := ["internal/abi.NoEscape"], unfollowed := true, recurses := true, named := ["unicode/utf8.first", "unicode/utf8.acceptRanges"], apart := false, laid := [("unicode/utf8.acceptRanges", laid_unicode_utf8_acceptRanges), ("unicode/utf8.first", laid_unicode_utf8_first)] }
def OpGoodSaid : Prop := opGoodRow.holds Tryd.pinned (OpenSpec.ofChange opGoodSpec)

/-- ITS FALSE NEIGHBOUR: 'it returns false'. Refute it at one input. -/
def opGoodWrong : ChangeSpec := { name := "opGood", fn := fun _ => fun
  | [d1, d2] => { results := [.lit (.bool false)], args := [d1, d2] }
  | _ => none }
def OpGoodWrongFalsely : Prop := opGoodRow.holds Tryd.pinned (OpenSpec.ofChange opGoodWrong)

/-- 'wherrykeep.EdgeFits': WHATEVER THE INPUT: true; the input reads as it did. -/
def edgeFitsSpec : ChangeSpec := { name := "edgeFits", fn := fun _ => fun
  | [d1, d2, d3] => { results := [.lit (.bool true)], args := [d1, d2, d3] }
  | _ => none }
def edgeFitsRow : OpenClaim := { program := "ytndclmjpjcilmaadoor", sum := "94063c6ebc23d827a5438bed9d1bed39287a9313bff8da9e3e59c0ac8a6f45dd", func := "wherry/wherrykeep.EdgeFits", spec := "edgeFits", unfollowed := true, recurses := true, named := ["unicode/utf8.first", "unicode/utf8.acceptRanges"], apart := false, laid := [("unicode/utf8.acceptRanges", laid_unicode_utf8_acceptRanges), ("unicode/utf8.first", laid_unicode_utf8_first)] }
def EdgeFitsSaid : Prop := edgeFitsRow.holds Tryd.pinned (OpenSpec.ofChange edgeFitsSpec)

/-- ITS FALSE NEIGHBOUR: 'it returns false'. Refute it at one input. -/
def edgeFitsWrong : ChangeSpec := { name := "edgeFits", fn := fun _ => fun
  | [d1, d2, d3] => { results := [.lit (.bool false)], args := [d1, d2, d3] }
  | _ => none }
def EdgeFitsWrongFalsely : Prop := edgeFitsRow.holds Tryd.pinned (OpenSpec.ofChange edgeFitsWrong)

/-- 'wherrykeep.ReplayMakes': WHATEVER THE INPUT: true; the input reads as it did. -/
def replayMakesSpec : ChangeSpec := { name := "replayMakes", fn := fun _ => fun
  | [d] => { results := [.lit (.bool true)], args := [d] }
  | _ => none }
def replayMakesRow : OpenClaim := { program := "ytndclmjpjcilmaadoor", sum := "94063c6ebc23d827a5438bed9d1bed39287a9313bff8da9e3e59c0ac8a6f45dd", func := "wherry/wherrykeep.ReplayMakes", spec := "replayMakes", inPlace := ["internal/abi.NoEscape"], unfollowed := true, recurses := true, named := ["unicode/utf8.first", "unicode/utf8.acceptRanges"], apart := false, laid := [("unicode/utf8.acceptRanges", laid_unicode_utf8_acceptRanges), ("unicode/utf8.first", laid_unicode_utf8_first)] }
def ReplayMakesSaid : Prop := replayMakesRow.holds Tryd.pinned (OpenSpec.ofChange replayMakesSpec)

/-- ITS FALSE NEIGHBOUR: 'it returns false'. Refute it at one input. -/
def replayMakesWrong : ChangeSpec := { name := "replayMakes", fn := fun _ => fun
  | [d] => { results := [.lit (.bool false)], args := [d] }
  | _ => none }
def ReplayMakesWrongFalsely : Prop := replayMakesRow.holds Tryd.pinned (OpenSpec.ofChange replayMakesWrong)

/-- 'wherrykeep.MoveRest': WHATEVER THE INPUT: true; the input reads as it did. -/
def moveRestSpec : ChangeSpec := { name := "moveRest", fn := fun _ => fun
  | [d1, d2, d3] => { results := [.lit (.bool true)], args := [d1, d2, d3] }
  | _ => none }
def moveRestRow : OpenClaim := { program := "ytndclmjpjcilmaadoor", sum := "94063c6ebc23d827a5438bed9d1bed39287a9313bff8da9e3e59c0ac8a6f45dd", func := "wherry/wherrykeep.MoveRest", spec := "moveRest", inPlace := ["internal/abi.NoEscape"], unfollowed := true, recurses := true, named := ["unicode/utf8.first", "unicode/utf8.acceptRanges"], apart := false, laid := [("unicode/utf8.acceptRanges", laid_unicode_utf8_acceptRanges), ("unicode/utf8.first", laid_unicode_utf8_first)] }
def MoveRestSaid : Prop := moveRestRow.holds Tryd.pinned (OpenSpec.ofChange moveRestSpec)

/-- ITS FALSE NEIGHBOUR: 'it returns false'. Refute it at one input. -/
def moveRestWrong : ChangeSpec := { name := "moveRest", fn := fun _ => fun
  | [d1, d2, d3] => { results := [.lit (.bool false)], args := [d1, d2, d3] }
  | _ => none }
def MoveRestWrongFalsely : Prop := moveRestRow.holds Tryd.pinned (OpenSpec.ofChange moveRestWrong)

/-- 'wherrykeep.WholeMakes': WHATEVER THE INPUT: true; the input reads as it did. -/
def wholeMakesSpec : ChangeSpec := { name := "wholeMakes", fn := fun _ => fun
  | [d1, d2] => { results := [.lit (.bool true)], args := [d1, d2] }
  | _ => none }
def wholeMakesRow : OpenClaim := { program := "ytndclmjpjcilmaadoor", sum := "94063c6ebc23d827a5438bed9d1bed39287a9313bff8da9e3e59c0ac8a6f45dd", func := "wherry/wherrykeep.WholeMakes", spec := "wholeMakes", inPlace := ["internal/abi.NoEscape"], recurses := true, named := ["unicode/utf8.first", "unicode/utf8.acceptRanges"], apart := false, laid := [("unicode/utf8.acceptRanges", laid_unicode_utf8_acceptRanges), ("unicode/utf8.first", laid_unicode_utf8_first)] }
def WholeMakesSaid : Prop := wholeMakesRow.holds Tryd.pinned (OpenSpec.ofChange wholeMakesSpec)

/-- ITS FALSE NEIGHBOUR: 'it returns false'. Refute it at one input. -/
def wholeMakesWrong : ChangeSpec := { name := "wholeMakes", fn := fun _ => fun
  | [d1, d2] => { results := [.lit (.bool false)], args := [d1, d2] }
  | _ => none }
def WholeMakesWrongFalsely : Prop := wholeMakesRow.holds Tryd.pinned (OpenSpec.ofChange wholeMakesWrong)

/-- 'wherrykeep.TapeLengths': WHATEVER THE INPUT: true; the input reads as it did. -/
def tapeLengthsSpec : ChangeSpec := { name := "tapeLengths", fn := fun _ => fun
  | [d] => { results := [.lit (.bool true)], args := [d] }
  | _ => none }
def tapeLengthsRow : OpenClaim := { program := "ytndclmjpjcilmaadoor", sum := "94063c6ebc23d827a5438bed9d1bed39287a9313bff8da9e3e59c0ac8a6f45dd", func := "wherry/wherrykeep.TapeLengths", spec := "tapeLengths", unfollowed := true, recurses := true, named := ["unicode/utf8.first", "unicode/utf8.acceptRanges"], apart := false, laid := [("unicode/utf8.acceptRanges", laid_unicode_utf8_acceptRanges), ("unicode/utf8.first", laid_unicode_utf8_first)] }
def TapeLengthsSaid : Prop := tapeLengthsRow.holds Tryd.pinned (OpenSpec.ofChange tapeLengthsSpec)

/-- ITS FALSE NEIGHBOUR: 'it returns false'. Refute it at one input. -/
def tapeLengthsWrong : ChangeSpec := { name := "tapeLengths", fn := fun _ => fun
  | [d] => { results := [.lit (.bool false)], args := [d] }
  | _ => none }
def TapeLengthsWrongFalsely : Prop := tapeLengthsRow.holds Tryd.pinned (OpenSpec.ofChange tapeLengthsWrong)

/- THE SECOND FORM. 'bulk': how many values and letters a reading holds, each counted each time it is reached (what is shared counts as often as it is met; a slice's spare places count too). A statement '..UptoSaid' is the law's where the arguments, and the package variables that the reading takes, are together of bulk at most 1048576: NARROWER than '..Said'. Prove '..Said' where nothing that the law and all that it calls make is longer than what came in: it says more and counts as full. Else prove '..UptoSaid'. A law counts once. -/
mutual
def uptoBulk {H : Type} : DataW H → Nat
  | .lit (.string bytes) => bytes.length + 1
  | .lit _ => 1
  | .nil => 1
  | .ptr d => uptoBulk d + 1
  | .slice elems spare => uptoBulkAll elems + uptoBulkAll spare + 1
  | .agg parts => uptoBulkAll parts + 1
  | .iface _ d => uptoBulk d + 1
  | .map entries => uptoBulkEntries entries + 1
  | .held _ => 1
def uptoBulkAll {H : Type} : List (DataW H) → Nat
  | [] => 0
  | d :: r => uptoBulk d + uptoBulkAll r
def uptoBulkEntries {H : Type} : List (Lit × DataW H) → Nat
  | [] => 0
  | x :: r => uptoBulkEntry x + uptoBulkEntries r
def uptoBulkEntry {H : Type} : Lit × DataW H → Nat
  | (.string bytes, d) => bytes.length + uptoBulk d + 1
  | (_, d) => uptoBulk d + 1
 end
def uptoSmall : (H : Type) → List (DataW H) → Bool := fun _ ds => decide (uptoBulkAll ds ≤ 1048576)
def OpenSpec.upto (s : _root_.Go.ChangeSpec) : _root_.Go.OpenSpec := { _root_.Go.OpenSpec.ofChange s with cond := some uptoSmall }

/-- 'wherrykeep.TextLong', WHERE WHAT IT READS IS OF BULK AT MOST 1048576: true; the input reads as it did. -/
def textLongUptoRow : OpenClaim := { program := "ytndclmjpjcilmaadoor", sum := "94063c6ebc23d827a5438bed9d1bed39287a9313bff8da9e3e59c0ac8a6f45dd", func := "wherry/wherrykeep.TextLong", spec := "textLong", named := ["unicode/utf8.first", "unicode/utf8.acceptRanges"], apart := false, laid := [("unicode/utf8.acceptRanges", laid_unicode_utf8_acceptRanges), ("unicode/utf8.first", laid_unicode_utf8_first)], narrowed := true }
def TextLongUptoSaid : Prop := textLongUptoRow.holds Tryd.pinned (OpenSpec.upto textLongSpec)

/-- 'wherrykeep.OpBad', WHERE WHAT IT READS IS OF BULK AT MOST 1048576: true; the input reads as it did. -/
def opBadUptoRow : OpenClaim := { program := "ytndclmjpjcilmaadoor", sum := "94063c6ebc23d827a5438bed9d1bed39287a9313bff8da9e3e59c0ac8a6f45dd", func := "wherry/wherrykeep.OpBad", spec := "opBad", named := ["unicode/utf8.first", "unicode/utf8.acceptRanges"], apart := false, laid := [("unicode/utf8.acceptRanges", laid_unicode_utf8_acceptRanges), ("unicode/utf8.first", laid_unicode_utf8_first)], narrowed := true }
def OpBadUptoSaid : Prop := opBadUptoRow.holds Tryd.pinned (OpenSpec.upto opBadSpec)

/-- 'wherrykeep.EdgeBad', WHERE WHAT IT READS IS OF BULK AT MOST 1048576: true; the input reads as it did. -/
def edgeBadUptoRow : OpenClaim := { program := "ytndclmjpjcilmaadoor", sum := "94063c6ebc23d827a5438bed9d1bed39287a9313bff8da9e3e59c0ac8a6f45dd", func := "wherry/wherrykeep.EdgeBad", spec := "edgeBad", unfollowed := true, recurses := true, named := ["unicode/utf8.first", "unicode/utf8.acceptRanges"], apart := false, laid := [("unicode/utf8.acceptRanges", laid_unicode_utf8_acceptRanges), ("unicode/utf8.first", laid_unicode_utf8_first)], narrowed := true }
def EdgeBadUptoSaid : Prop := edgeBadUptoRow.holds Tryd.pinned (OpenSpec.upto edgeBadSpec)

/-- 'wherrykeep.FrameBare', WHERE WHAT IT READS IS OF BULK AT MOST 1048576: true; the input reads as it did. -/
def frameBareUptoRow : OpenClaim := { program := "ytndclmjpjcilmaadoor", sum := "94063c6ebc23d827a5438bed9d1bed39287a9313bff8da9e3e59c0ac8a6f45dd", func := "wherry/wherrykeep.FrameBare", spec := "frameBare", unfollowed := true, recurses := true, named := ["unicode/utf8.first", "unicode/utf8.acceptRanges"], apart := false, laid := [("unicode/utf8.acceptRanges", laid_unicode_utf8_acceptRanges), ("unicode/utf8.first", laid_unicode_utf8_first)], narrowed := true }
def FrameBareUptoSaid : Prop := frameBareUptoRow.holds Tryd.pinned (OpenSpec.upto frameBareSpec)

/-- 'wherrykeep.MoveOrder', WHERE WHAT IT READS IS OF BULK AT MOST 1048576: true; the input reads as it did. -/
def moveOrderUptoRow : OpenClaim := { program := "ytndclmjpjcilmaadoor", sum := "94063c6ebc23d827a5438bed9d1bed39287a9313bff8da9e3e59c0ac8a6f45dd", func := "wherry/wherrykeep.MoveOrder", spec := "moveOrder", unfollowed := true, recurses := true, named := ["unicode/utf8.first", "unicode/utf8.acceptRanges"], apart := false, laid := [("unicode/utf8.acceptRanges", laid_unicode_utf8_acceptRanges), ("unicode/utf8.first", laid_unicode_utf8_first)], narrowed := true }
def MoveOrderUptoSaid : Prop := moveOrderUptoRow.holds Tryd.pinned (OpenSpec.upto moveOrderSpec)

/-- 'wherrykeep.OpGood', WHERE WHAT IT READS IS OF BULK AT MOST 1048576: true; the input reads as it did. -/
def opGoodUptoRow : OpenClaim := { program := "ytndclmjpjcilmaadoor", sum := "94063c6ebc23d827a5438bed9d1bed39287a9313bff8da9e3e59c0ac8a6f45dd", func := "wherry/wherrykeep.OpGood", spec := "opGood", inPlace := ["internal/abi.NoEscape"], unfollowed := true, recurses := true, named := ["unicode/utf8.first", "unicode/utf8.acceptRanges"], apart := false, laid := [("unicode/utf8.acceptRanges", laid_unicode_utf8_acceptRanges), ("unicode/utf8.first", laid_unicode_utf8_first)], narrowed := true }
def OpGoodUptoSaid : Prop := opGoodUptoRow.holds Tryd.pinned (OpenSpec.upto opGoodSpec)

/-- 'wherrykeep.EdgeFits', WHERE WHAT IT READS IS OF BULK AT MOST 1048576: true; the input reads as it did. -/
def edgeFitsUptoRow : OpenClaim := { program := "ytndclmjpjcilmaadoor", sum := "94063c6ebc23d827a5438bed9d1bed39287a9313bff8da9e3e59c0ac8a6f45dd", func := "wherry/wherrykeep.EdgeFits", spec := "edgeFits", unfollowed := true, recurses := true, named := ["unicode/utf8.first", "unicode/utf8.acceptRanges"], apart := false, laid := [("unicode/utf8.acceptRanges", laid_unicode_utf8_acceptRanges), ("unicode/utf8.first", laid_unicode_utf8_first)], narrowed := true }
def EdgeFitsUptoSaid : Prop := edgeFitsUptoRow.holds Tryd.pinned (OpenSpec.upto edgeFitsSpec)

/-- 'wherrykeep.ReplayMakes', WHERE WHAT IT READS IS OF BULK AT MOST 1048576: true; the input reads as it did. -/
def replayMakesUptoRow : OpenClaim := { program := "ytndclmjpjcilmaadoor", sum := "94063c6ebc23d827a5438bed9d1bed39287a9313bff8da9e3e59c0ac8a6f45dd", func := "wherry/wherrykeep.ReplayMakes", spec := "replayMakes", inPlace := ["internal/abi.NoEscape"], unfollowed := true, recurses := true, named := ["unicode/utf8.first", "unicode/utf8.acceptRanges"], apart := false, laid := [("unicode/utf8.acceptRanges", laid_unicode_utf8_acceptRanges), ("unicode/utf8.first", laid_unicode_utf8_first)], narrowed := true }
def ReplayMakesUptoSaid : Prop := replayMakesUptoRow.holds Tryd.pinned (OpenSpec.upto replayMakesSpec)

/-- 'wherrykeep.MoveRest', WHERE WHAT IT READS IS OF BULK AT MOST 1048576: true; the input reads as it did. -/
def moveRestUptoRow : OpenClaim := { program := "ytndclmjpjcilmaadoor", sum := "94063c6ebc23d827a5438bed9d1bed39287a9313bff8da9e3e59c0ac8a6f45dd", func := "wherry/wherrykeep.MoveRest", spec := "moveRest", inPlace := ["internal/abi.NoEscape"], unfollowed := true, recurses := true, named := ["unicode/utf8.first", "unicode/utf8.acceptRanges"], apart := false, laid := [("unicode/utf8.acceptRanges", laid_unicode_utf8_acceptRanges), ("unicode/utf8.first", laid_unicode_utf8_first)], narrowed := true }
def MoveRestUptoSaid : Prop := moveRestUptoRow.holds Tryd.pinned (OpenSpec.upto moveRestSpec)

/-- 'wherrykeep.WholeMakes', WHERE WHAT IT READS IS OF BULK AT MOST 1048576: true; the input reads as it did. -/
def wholeMakesUptoRow : OpenClaim := { program := "ytndclmjpjcilmaadoor", sum := "94063c6ebc23d827a5438bed9d1bed39287a9313bff8da9e3e59c0ac8a6f45dd", func := "wherry/wherrykeep.WholeMakes", spec := "wholeMakes", inPlace := ["internal/abi.NoEscape"], recurses := true, named := ["unicode/utf8.first", "unicode/utf8.acceptRanges"], apart := false, laid := [("unicode/utf8.acceptRanges", laid_unicode_utf8_acceptRanges), ("unicode/utf8.first", laid_unicode_utf8_first)], narrowed := true }
def WholeMakesUptoSaid : Prop := wholeMakesUptoRow.holds Tryd.pinned (OpenSpec.upto wholeMakesSpec)

/-- 'wherrykeep.TapeLengths', WHERE WHAT IT READS IS OF BULK AT MOST 1048576: true; the input reads as it did. -/
def tapeLengthsUptoRow : OpenClaim := { program := "ytndclmjpjcilmaadoor", sum := "94063c6ebc23d827a5438bed9d1bed39287a9313bff8da9e3e59c0ac8a6f45dd", func := "wherry/wherrykeep.TapeLengths", spec := "tapeLengths", unfollowed := true, recurses := true, named := ["unicode/utf8.first", "unicode/utf8.acceptRanges"], apart := false, laid := [("unicode/utf8.acceptRanges", laid_unicode_utf8_acceptRanges), ("unicode/utf8.first", laid_unicode_utf8_first)], narrowed := true }
def TapeLengthsUptoSaid : Prop := tapeLengthsUptoRow.holds Tryd.pinned (OpenSpec.upto tapeLengthsSpec)

end Rows
end Go.Proofs.YtndclmjpjcilmaaDoor
