/-
  NARROWER THAN 'FOR EVERY INPUT', by the rows' own cells (each row's printed sentence says how): BeginBad: laid · BeginJoins: laid · EditFull: laid · SelectBounds: laid · UndoNone: laid · JoinWhole: laid · JoinFirst: laid.
  DERIVED. THE GIVEN ROWS OF THIS SEAT. 7 by the template 'for every input the law returns true; each argument reads behind the call as it read before'; 0 by the template 'total and deterministic' (their statements: YtkbfhgcjimfgkaaDoorTotals.lean).
  GIVEN WITH THE SEED: the statements are not yours to turn. If you find one false, say at which input.
  Laid BY PROGRAM, IN A SANDBOX (cutbox-rows.mjs): the forced cells as the released guide's own fill.sh prints them over the translation 26ab40d4c9e9a968… (all of the seat's roots in one cut). By AI agents, Wed Nov 11 2026. No macro, syntax, notation, axiom, sorry.
-/
import Derived.Test.YtkbfhgcjimfgkaaDoorChecked
import GoSem.PinnedTables
import GoSem.Claim
import GoSem.ClaimJoined
import GoSem.ClaimMapViews
import Derived.JoinedTies
import Derived.KernelRfl
namespace Go.Proofs.YtkbfhgcjimfgkaaDoor
/- THE CELL 'sum', in the pinned program and in every row, IS THE sha256 OF THE DUMP (.gsa) THAT YtkbfhgcjimfgkaaDoorProg.lean LOADS. Nothing in Lean hashes anything: it is a label: what it is worth is what the hold of that sum in a sandbox is worth. -/
noncomputable def Tryd.pinned : Pinned := { name := "ytkbfhgcjimfgkaadoor", sum := "26ab40d4c9e9a96839e2d6245eb60e9bf54d17c0486cb25ce6a3fb88f97da1b0", checked := Tryd.checked }
namespace Rows
def none {H : Type} : Left H := { results := [], args := [] }

/- WHAT THE LISTED PACKAGE-LEVEL VARIABLES READ AS WHEN THE CALL BEGINS. Each datum BY PROGRAM (the guide's laid-datum.mjs) off the statement by which the dump's own 'gosem.cut.vars' lays the variable. In a bare row this is a premise. The card (YtkbfhgcjimfgkaaDoorCards.lean) ties it to the program's text. -/
def laid_unicode_utf8_acceptRanges {H : Type} : DataW H := .agg [.agg [.lit (.int .u8 128), .lit (.int .u8 191)], .agg [.lit (.int .u8 160), .lit (.int .u8 191)], .agg [.lit (.int .u8 128), .lit (.int .u8 159)], .agg [.lit (.int .u8 144), .lit (.int .u8 191)], .agg [.lit (.int .u8 128), .lit (.int .u8 143)], .agg [.lit (.int .u8 0), .lit (.int .u8 0)], .agg [.lit (.int .u8 0), .lit (.int .u8 0)], .agg [.lit (.int .u8 0), .lit (.int .u8 0)], .agg [.lit (.int .u8 0), .lit (.int .u8 0)], .agg [.lit (.int .u8 0), .lit (.int .u8 0)], .agg [.lit (.int .u8 0), .lit (.int .u8 0)], .agg [.lit (.int .u8 0), .lit (.int .u8 0)], .agg [.lit (.int .u8 0), .lit (.int .u8 0)], .agg [.lit (.int .u8 0), .lit (.int .u8 0)], .agg [.lit (.int .u8 0), .lit (.int .u8 0)], .agg [.lit (.int .u8 0), .lit (.int .u8 0)]]
/-- One of Go's own tables, pinned by name: the form's constant. -/
def laid_unicode_utf8_first : DataW Unit := Go.Pinned.utf8First

/-- 'wherrykeep.BeginBad': WHATEVER THE INPUT: true; the input reads as it did. -/
def beginBadSpec : ChangeSpec := { name := "beginBad", fn := fun _ => fun
  | [d1, d2, d3] => { results := [.lit (.bool true)], args := [d1, d2, d3] }
  | _ => none }
def beginBadRow : OpenClaim := { program := "ytkbfhgcjimfgkaadoor", sum := "26ab40d4c9e9a96839e2d6245eb60e9bf54d17c0486cb25ce6a3fb88f97da1b0", func := "wherry/wherrykeep.BeginBad", spec := "beginBad", unfollowed := true, recurses := true, named := ["unicode/utf8.first", "unicode/utf8.acceptRanges"], apart := false, laid := [("unicode/utf8.acceptRanges", laid_unicode_utf8_acceptRanges), ("unicode/utf8.first", laid_unicode_utf8_first)] }
def BeginBadSaid : Prop := beginBadRow.holds Tryd.pinned (OpenSpec.ofChange beginBadSpec)

/-- ITS FALSE NEIGHBOUR: 'it returns false'. Refute it at one input. -/
def beginBadWrong : ChangeSpec := { name := "beginBad", fn := fun _ => fun
  | [d1, d2, d3] => { results := [.lit (.bool false)], args := [d1, d2, d3] }
  | _ => none }
def BeginBadWrongFalsely : Prop := beginBadRow.holds Tryd.pinned (OpenSpec.ofChange beginBadWrong)

/-- 'wherrykeep.BeginJoins': WHATEVER THE INPUT: true; the input reads as it did. -/
def beginJoinsSpec : ChangeSpec := { name := "beginJoins", fn := fun _ => fun
  | [d1, d2, d3, d4] => { results := [.lit (.bool true)], args := [d1, d2, d3, d4] }
  | _ => none }
def beginJoinsRow : OpenClaim := { program := "ytkbfhgcjimfgkaadoor", sum := "26ab40d4c9e9a96839e2d6245eb60e9bf54d17c0486cb25ce6a3fb88f97da1b0", func := "wherry/wherrykeep.BeginJoins", spec := "beginJoins", unfollowed := true, recurses := true, named := ["unicode/utf8.first", "unicode/utf8.acceptRanges"], apart := false, laid := [("unicode/utf8.acceptRanges", laid_unicode_utf8_acceptRanges), ("unicode/utf8.first", laid_unicode_utf8_first)] }
def BeginJoinsSaid : Prop := beginJoinsRow.holds Tryd.pinned (OpenSpec.ofChange beginJoinsSpec)

/-- ITS FALSE NEIGHBOUR: 'it returns false'. Refute it at one input. -/
def beginJoinsWrong : ChangeSpec := { name := "beginJoins", fn := fun _ => fun
  | [d1, d2, d3, d4] => { results := [.lit (.bool false)], args := [d1, d2, d3, d4] }
  | _ => none }
def BeginJoinsWrongFalsely : Prop := beginJoinsRow.holds Tryd.pinned (OpenSpec.ofChange beginJoinsWrong)

/-- 'wherrykeep.EditFull': WHATEVER THE INPUT: true; the input reads as it did. -/
def editFullSpec : ChangeSpec := { name := "editFull", fn := fun _ => fun
  | [d1, d2, d3] => { results := [.lit (.bool true)], args := [d1, d2, d3] }
  | _ => none }
def editFullRow : OpenClaim := { program := "ytkbfhgcjimfgkaadoor", sum := "26ab40d4c9e9a96839e2d6245eb60e9bf54d17c0486cb25ce6a3fb88f97da1b0", func := "wherry/wherrykeep.EditFull", spec := "editFull", inPlace := ["internal/abi.NoEscape"], unfollowed := true, recurses := true, named := ["unicode/utf8.first", "unicode/utf8.acceptRanges"], apart := false, laid := [("unicode/utf8.acceptRanges", laid_unicode_utf8_acceptRanges), ("unicode/utf8.first", laid_unicode_utf8_first)] }
def EditFullSaid : Prop := editFullRow.holds Tryd.pinned (OpenSpec.ofChange editFullSpec)

/-- ITS FALSE NEIGHBOUR: 'it returns false'. Refute it at one input. -/
def editFullWrong : ChangeSpec := { name := "editFull", fn := fun _ => fun
  | [d1, d2, d3] => { results := [.lit (.bool false)], args := [d1, d2, d3] }
  | _ => none }
def EditFullWrongFalsely : Prop := editFullRow.holds Tryd.pinned (OpenSpec.ofChange editFullWrong)

/-- 'wherrykeep.SelectBounds': WHATEVER THE INPUT: true; the input reads as it did. -/
def selectBoundsSpec : ChangeSpec := { name := "selectBounds", fn := fun _ => fun
  | [d1, d2, d3, d4] => { results := [.lit (.bool true)], args := [d1, d2, d3, d4] }
  | _ => none }
def selectBoundsRow : OpenClaim := { program := "ytkbfhgcjimfgkaadoor", sum := "26ab40d4c9e9a96839e2d6245eb60e9bf54d17c0486cb25ce6a3fb88f97da1b0", func := "wherry/wherrykeep.SelectBounds", spec := "selectBounds", inPlace := ["internal/abi.NoEscape"], unfollowed := true, recurses := true, named := ["unicode/utf8.first", "unicode/utf8.acceptRanges"], apart := false, laid := [("unicode/utf8.acceptRanges", laid_unicode_utf8_acceptRanges), ("unicode/utf8.first", laid_unicode_utf8_first)] }
def SelectBoundsSaid : Prop := selectBoundsRow.holds Tryd.pinned (OpenSpec.ofChange selectBoundsSpec)

/-- ITS FALSE NEIGHBOUR: 'it returns false'. Refute it at one input. -/
def selectBoundsWrong : ChangeSpec := { name := "selectBounds", fn := fun _ => fun
  | [d1, d2, d3, d4] => { results := [.lit (.bool false)], args := [d1, d2, d3, d4] }
  | _ => none }
def SelectBoundsWrongFalsely : Prop := selectBoundsRow.holds Tryd.pinned (OpenSpec.ofChange selectBoundsWrong)

/-- 'wherrykeep.UndoNone': WHATEVER THE INPUT: true; the input reads as it did. -/
def undoNoneSpec : ChangeSpec := { name := "undoNone", fn := fun _ => fun
  | [d1, d2, d3] => { results := [.lit (.bool true)], args := [d1, d2, d3] }
  | _ => none }
def undoNoneRow : OpenClaim := { program := "ytkbfhgcjimfgkaadoor", sum := "26ab40d4c9e9a96839e2d6245eb60e9bf54d17c0486cb25ce6a3fb88f97da1b0", func := "wherry/wherrykeep.UndoNone", spec := "undoNone", inPlace := ["internal/abi.NoEscape"], unfollowed := true, recurses := true, named := ["unicode/utf8.first", "unicode/utf8.acceptRanges"], apart := false, laid := [("unicode/utf8.acceptRanges", laid_unicode_utf8_acceptRanges), ("unicode/utf8.first", laid_unicode_utf8_first)] }
def UndoNoneSaid : Prop := undoNoneRow.holds Tryd.pinned (OpenSpec.ofChange undoNoneSpec)

/-- ITS FALSE NEIGHBOUR: 'it returns false'. Refute it at one input. -/
def undoNoneWrong : ChangeSpec := { name := "undoNone", fn := fun _ => fun
  | [d1, d2, d3] => { results := [.lit (.bool false)], args := [d1, d2, d3] }
  | _ => none }
def UndoNoneWrongFalsely : Prop := undoNoneRow.holds Tryd.pinned (OpenSpec.ofChange undoNoneWrong)

/-- 'wherrykeep.JoinWhole': WHATEVER THE INPUT: true; the input reads as it did. -/
def joinWholeSpec : ChangeSpec := { name := "joinWhole", fn := fun _ => fun
  | [d1, d2, d3] => { results := [.lit (.bool true)], args := [d1, d2, d3] }
  | _ => none }
def joinWholeRow : OpenClaim := { program := "ytkbfhgcjimfgkaadoor", sum := "26ab40d4c9e9a96839e2d6245eb60e9bf54d17c0486cb25ce6a3fb88f97da1b0", func := "wherry/wherrykeep.JoinWhole", spec := "joinWhole", inPlace := ["internal/abi.NoEscape"], unfollowed := true, recurses := true, named := ["unicode/utf8.first", "unicode/utf8.acceptRanges"], apart := false, laid := [("unicode/utf8.acceptRanges", laid_unicode_utf8_acceptRanges), ("unicode/utf8.first", laid_unicode_utf8_first)] }
def JoinWholeSaid : Prop := joinWholeRow.holds Tryd.pinned (OpenSpec.ofChange joinWholeSpec)

/-- ITS FALSE NEIGHBOUR: 'it returns false'. Refute it at one input. -/
def joinWholeWrong : ChangeSpec := { name := "joinWhole", fn := fun _ => fun
  | [d1, d2, d3] => { results := [.lit (.bool false)], args := [d1, d2, d3] }
  | _ => none }
def JoinWholeWrongFalsely : Prop := joinWholeRow.holds Tryd.pinned (OpenSpec.ofChange joinWholeWrong)

/-- 'wherrykeep.JoinFirst': WHATEVER THE INPUT: true; the input reads as it did. -/
def joinFirstSpec : ChangeSpec := { name := "joinFirst", fn := fun _ => fun
  | [d1, d2, d3] => { results := [.lit (.bool true)], args := [d1, d2, d3] }
  | _ => none }
def joinFirstRow : OpenClaim := { program := "ytkbfhgcjimfgkaadoor", sum := "26ab40d4c9e9a96839e2d6245eb60e9bf54d17c0486cb25ce6a3fb88f97da1b0", func := "wherry/wherrykeep.JoinFirst", spec := "joinFirst", inPlace := ["internal/abi.NoEscape"], unfollowed := true, recurses := true, named := ["unicode/utf8.first", "unicode/utf8.acceptRanges"], apart := false, laid := [("unicode/utf8.acceptRanges", laid_unicode_utf8_acceptRanges), ("unicode/utf8.first", laid_unicode_utf8_first)] }
def JoinFirstSaid : Prop := joinFirstRow.holds Tryd.pinned (OpenSpec.ofChange joinFirstSpec)

/-- ITS FALSE NEIGHBOUR: 'it returns false'. Refute it at one input. -/
def joinFirstWrong : ChangeSpec := { name := "joinFirst", fn := fun _ => fun
  | [d1, d2, d3] => { results := [.lit (.bool false)], args := [d1, d2, d3] }
  | _ => none }
def JoinFirstWrongFalsely : Prop := joinFirstRow.holds Tryd.pinned (OpenSpec.ofChange joinFirstWrong)

/- THE SECOND FORM. 'bulk': how many values and letters a reading holds, each counted each time it is reached (what is shared counts as often as it is met; a slice's spare places count too). A statement '..UptoSaid' is the law's where the arguments, and the package variables that the reading takes, are together of bulk at most 1048576: NARROWER than '..Said'. Prove '..Said' where nothing that the law and all that it calls make is longer than what came in: it says more and counts as full. Else prove '..UptoSaid'. A law counts once. -/
mutual
def uptoBulk {H : Type} : DataW H → Nat
  | .lit (.string bytes) => bytes.length + 1
  | .lit _ => 1
  | .nil => 1
  | .ptr d => uptoBulk d + 1
  | .slice elems spare => uptoBulkAll elems + uptoBulkAll spare + 1
  | .agg parts => uptoBulkAll parts + 1
  | .iface _ d => uptoBulk d + 1
  | .map entries => uptoBulkEntries entries + 1
  | .held _ => 1
def uptoBulkAll {H : Type} : List (DataW H) → Nat
  | [] => 0
  | d :: r => uptoBulk d + uptoBulkAll r
def uptoBulkEntries {H : Type} : List (Lit × DataW H) → Nat
  | [] => 0
  | x :: r => uptoBulkEntry x + uptoBulkEntries r
def uptoBulkEntry {H : Type} : Lit × DataW H → Nat
  | (.string bytes, d) => bytes.length + uptoBulk d + 1
  | (_, d) => uptoBulk d + 1
 end
def uptoSmall : (H : Type) → List (DataW H) → Bool := fun _ ds => decide (uptoBulkAll ds ≤ 1048576)
def OpenSpec.upto (s : _root_.Go.ChangeSpec) : _root_.Go.OpenSpec := { _root_.Go.OpenSpec.ofChange s with cond := some uptoSmall }

/-- 'wherrykeep.BeginBad', WHERE WHAT IT READS IS OF BULK AT MOST 1048576: true; the input reads as it did. -/
def beginBadUptoRow : OpenClaim := { program := "ytkbfhgcjimfgkaadoor", sum := "26ab40d4c9e9a96839e2d6245eb60e9bf54d17c0486cb25ce6a3fb88f97da1b0", func := "wherry/wherrykeep.BeginBad", spec := "beginBad", unfollowed := true, recurses := true, named := ["unicode/utf8.first", "unicode/utf8.acceptRanges"], apart := false, laid := [("unicode/utf8.acceptRanges", laid_unicode_utf8_acceptRanges), ("unicode/utf8.first", laid_unicode_utf8_first)], narrowed := true }
def BeginBadUptoSaid : Prop := beginBadUptoRow.holds Tryd.pinned (OpenSpec.upto beginBadSpec)

/-- 'wherrykeep.BeginJoins', WHERE WHAT IT READS IS OF BULK AT MOST 1048576: true; the input reads as it did. -/
def beginJoinsUptoRow : OpenClaim := { program := "ytkbfhgcjimfgkaadoor", sum := "26ab40d4c9e9a96839e2d6245eb60e9bf54d17c0486cb25ce6a3fb88f97da1b0", func := "wherry/wherrykeep.BeginJoins", spec := "beginJoins", unfollowed := true, recurses := true, named := ["unicode/utf8.first", "unicode/utf8.acceptRanges"], apart := false, laid := [("unicode/utf8.acceptRanges", laid_unicode_utf8_acceptRanges), ("unicode/utf8.first", laid_unicode_utf8_first)], narrowed := true }
def BeginJoinsUptoSaid : Prop := beginJoinsUptoRow.holds Tryd.pinned (OpenSpec.upto beginJoinsSpec)

/-- 'wherrykeep.EditFull', WHERE WHAT IT READS IS OF BULK AT MOST 1048576: true; the input reads as it did. -/
def editFullUptoRow : OpenClaim := { program := "ytkbfhgcjimfgkaadoor", sum := "26ab40d4c9e9a96839e2d6245eb60e9bf54d17c0486cb25ce6a3fb88f97da1b0", func := "wherry/wherrykeep.EditFull", spec := "editFull", inPlace := ["internal/abi.NoEscape"], unfollowed := true, recurses := true, named := ["unicode/utf8.first", "unicode/utf8.acceptRanges"], apart := false, laid := [("unicode/utf8.acceptRanges", laid_unicode_utf8_acceptRanges), ("unicode/utf8.first", laid_unicode_utf8_first)], narrowed := true }
def EditFullUptoSaid : Prop := editFullUptoRow.holds Tryd.pinned (OpenSpec.upto editFullSpec)

/-- 'wherrykeep.SelectBounds', WHERE WHAT IT READS IS OF BULK AT MOST 1048576: true; the input reads as it did. -/
def selectBoundsUptoRow : OpenClaim := { program := "ytkbfhgcjimfgkaadoor", sum := "26ab40d4c9e9a96839e2d6245eb60e9bf54d17c0486cb25ce6a3fb88f97da1b0", func := "wherry/wherrykeep.SelectBounds", spec := "selectBounds", inPlace := ["internal/abi.NoEscape"], unfollowed := true, recurses := true, named := ["unicode/utf8.first", "unicode/utf8.acceptRanges"], apart := false, laid := [("unicode/utf8.acceptRanges", laid_unicode_utf8_acceptRanges), ("unicode/utf8.first", laid_unicode_utf8_first)], narrowed := true }
def SelectBoundsUptoSaid : Prop := selectBoundsUptoRow.holds Tryd.pinned (OpenSpec.upto selectBoundsSpec)

/-- 'wherrykeep.UndoNone', WHERE WHAT IT READS IS OF BULK AT MOST 1048576: true; the input reads as it did. -/
def undoNoneUptoRow : OpenClaim := { program := "ytkbfhgcjimfgkaadoor", sum := "26ab40d4c9e9a96839e2d6245eb60e9bf54d17c0486cb25ce6a3fb88f97da1b0", func := "wherry/wherrykeep.UndoNone", spec := "undoNone", inPlace := ["internal/abi.NoEscape"], unfollowed := true, recurses := true, named := ["unicode/utf8.first", "unicode/utf8.acceptRanges"], apart := false, laid := [("unicode/utf8.acceptRanges", laid_unicode_utf8_acceptRanges), ("unicode/utf8.first", laid_unicode_utf8_first)], narrowed := true }
def UndoNoneUptoSaid : Prop := undoNoneUptoRow.holds Tryd.pinned (OpenSpec.upto undoNoneSpec)

/-- 'wherrykeep.JoinWhole', WHERE WHAT IT READS IS OF BULK AT MOST 1048576: true; the input reads as it did. -/
def joinWholeUptoRow : OpenClaim := { program := "ytkbfhgcjimfgkaadoor", sum := "26ab40d4c9e9a96839e2d6245eb60e9bf54d17c0486cb25ce6a3fb88f97da1b0", func := "wherry/wherrykeep.JoinWhole", spec := "joinWhole", inPlace := ["internal/abi.NoEscape"], unfollowed := true, recurses := true, named := ["unicode/utf8.first", "unicode/utf8.acceptRanges"], apart := false, laid := [("unicode/utf8.acceptRanges", laid_unicode_utf8_acceptRanges), ("unicode/utf8.first", laid_unicode_utf8_first)], narrowed := true }
def JoinWholeUptoSaid : Prop := joinWholeUptoRow.holds Tryd.pinned (OpenSpec.upto joinWholeSpec)

/-- 'wherrykeep.JoinFirst', WHERE WHAT IT READS IS OF BULK AT MOST 1048576: true; the input reads as it did. -/
def joinFirstUptoRow : OpenClaim := { program := "ytkbfhgcjimfgkaadoor", sum := "26ab40d4c9e9a96839e2d6245eb60e9bf54d17c0486cb25ce6a3fb88f97da1b0", func := "wherry/wherrykeep.JoinFirst", spec := "joinFirst", inPlace := ["internal/abi.NoEscape"], unfollowed := true, recurses := true, named := ["unicode/utf8.first", "unicode/utf8.acceptRanges"], apart := false, laid := [("unicode/utf8.acceptRanges", laid_unicode_utf8_acceptRanges), ("unicode/utf8.first", laid_unicode_utf8_first)], narrowed := true }
def JoinFirstUptoSaid : Prop := joinFirstUptoRow.holds Tryd.pinned (OpenSpec.upto joinFirstSpec)

end Rows
end Go.Proofs.YtkbfhgcjimfgkaaDoor
