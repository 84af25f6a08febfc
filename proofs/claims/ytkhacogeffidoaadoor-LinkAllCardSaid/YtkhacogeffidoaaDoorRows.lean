/-
  NARROWER THAN 'FOR EVERY INPUT', by the rows' own cells (each row's printed sentence says how): LinkWindow: laid · LinkAway: laid · LinkTwice: laid · LinkGap: laid · LinkAcks: laid · LinkOnce: laid · LinkAll: laid · EdgeAlone: laid · EdgeKnown: laid · EdgeMeets: laid · EdgeUpper: laid.
  DERIVED. THE GIVEN ROWS OF THIS SEAT. 11 by the template 'for every input the law returns true; each argument reads behind the call as it read before'; 0 by the template 'total and deterministic' (their statements: YtkhacogeffidoaaDoorTotals.lean).
  GIVEN WITH THE SEED: the statements are not yours to turn. If you find one false, say at which input.
  Laid BY PROGRAM, IN A SANDBOX (cutbox-rows.mjs): the forced cells as the released guide's own fill.sh prints them over the translation 0f757bc12753ded0… (all of the seat's roots in one cut). By AI agents, Wed Nov 11 2026. No macro, syntax, notation, axiom, sorry.
-/
import Derived.Test.YtkhacogeffidoaaDoorChecked
import GoSem.PinnedTables
import GoSem.Claim
import GoSem.ClaimJoined
import GoSem.ClaimMapViews
import Derived.JoinedTies
import Derived.KernelRfl
namespace Go.Proofs.YtkhacogeffidoaaDoor
/- THE CELL 'sum', in the pinned program and in every row, IS THE sha256 OF THE DUMP (.gsa) THAT YtkhacogeffidoaaDoorProg.lean LOADS. Nothing in Lean hashes anything: it is a label: what it is worth is what the hold of that sum in a sandbox is worth. -/
noncomputable def Tryd.pinned : Pinned := { name := "ytkhacogeffidoaadoor", sum := "0f757bc12753ded041ffd7ef99ac79baa8ae4ad4e24ccafd7f20b33c612325cd", checked := Tryd.checked }
namespace Rows
def none {H : Type} : Left H := { results := [], args := [] }

/- WHAT THE LISTED PACKAGE-LEVEL VARIABLES READ AS WHEN THE CALL BEGINS. Each datum BY PROGRAM (the guide's laid-datum.mjs) off the statement by which the dump's own 'gosem.cut.vars' lays the variable. In a bare row this is a premise. The card (YtkhacogeffidoaaDoorCards.lean) ties it to the program's text. -/
def laid_unicode_utf8_acceptRanges {H : Type} : DataW H := .agg [.agg [.lit (.int .u8 128), .lit (.int .u8 191)], .agg [.lit (.int .u8 160), .lit (.int .u8 191)], .agg [.lit (.int .u8 128), .lit (.int .u8 159)], .agg [.lit (.int .u8 144), .lit (.int .u8 191)], .agg [.lit (.int .u8 128), .lit (.int .u8 143)], .agg [.lit (.int .u8 0), .lit (.int .u8 0)], .agg [.lit (.int .u8 0), .lit (.int .u8 0)], .agg [.lit (.int .u8 0), .lit (.int .u8 0)], .agg [.lit (.int .u8 0), .lit (.int .u8 0)], .agg [.lit (.int .u8 0), .lit (.int .u8 0)], .agg [.lit (.int .u8 0), .lit (.int .u8 0)], .agg [.lit (.int .u8 0), .lit (.int .u8 0)], .agg [.lit (.int .u8 0), .lit (.int .u8 0)], .agg [.lit (.int .u8 0), .lit (.int .u8 0)], .agg [.lit (.int .u8 0), .lit (.int .u8 0)], .agg [.lit (.int .u8 0), .lit (.int .u8 0)]]
/-- One of Go's own tables, pinned by name: the form's constant. -/
def laid_unicode_utf8_first : DataW Unit := Go.Pinned.utf8First

/-- 'wherrykeep.LinkWindow': WHATEVER THE INPUT: true; the input reads as it did. -/
def linkWindowSpec : ChangeSpec := { name := "linkWindow", fn := fun _ => fun
  | [d] => { results := [.lit (.bool true)], args := [d] }
  | _ => none }
def linkWindowRow : OpenClaim := { program := "ytkhacogeffidoaadoor", sum := "0f757bc12753ded041ffd7ef99ac79baa8ae4ad4e24ccafd7f20b33c612325cd", func := "wherry/wherrykeep.LinkWindow", spec := "linkWindow", unfollowed := true, recurses := true, named := ["unicode/utf8.first", "unicode/utf8.acceptRanges"], apart := false, laid := [("unicode/utf8.acceptRanges", laid_unicode_utf8_acceptRanges), ("unicode/utf8.first", laid_unicode_utf8_first)] }
def LinkWindowSaid : Prop := linkWindowRow.holds Tryd.pinned (OpenSpec.ofChange linkWindowSpec)

/-- ITS FALSE NEIGHBOUR: 'it returns false'. Refute it at one input. -/
def linkWindowWrong : ChangeSpec := { name := "linkWindow", fn := fun _ => fun
  | [d] => { results := [.lit (.bool false)], args := [d] }
  | _ => none }
def LinkWindowWrongFalsely : Prop := linkWindowRow.holds Tryd.pinned (OpenSpec.ofChange linkWindowWrong)

/-- 'wherrykeep.LinkAway': WHATEVER THE INPUT: true; the input reads as it did. -/
def linkAwaySpec : ChangeSpec := { name := "linkAway", fn := fun _ => fun
  | [d1, d2, d3] => { results := [.lit (.bool true)], args := [d1, d2, d3] }
  | _ => none }
def linkAwayRow : OpenClaim := { program := "ytkhacogeffidoaadoor", sum := "0f757bc12753ded041ffd7ef99ac79baa8ae4ad4e24ccafd7f20b33c612325cd", func := "wherry/wherrykeep.LinkAway", spec := "linkAway", unfollowed := true, recurses := true, named := ["unicode/utf8.first", "unicode/utf8.acceptRanges"], apart := false, laid := [("unicode/utf8.acceptRanges", laid_unicode_utf8_acceptRanges), ("unicode/utf8.first", laid_unicode_utf8_first)] }
def LinkAwaySaid : Prop := linkAwayRow.holds Tryd.pinned (OpenSpec.ofChange linkAwaySpec)

/-- ITS FALSE NEIGHBOUR: 'it returns false'. Refute it at one input. -/
def linkAwayWrong : ChangeSpec := { name := "linkAway", fn := fun _ => fun
  | [d1, d2, d3] => { results := [.lit (.bool false)], args := [d1, d2, d3] }
  | _ => none }
def LinkAwayWrongFalsely : Prop := linkAwayRow.holds Tryd.pinned (OpenSpec.ofChange linkAwayWrong)

/-- 'wherrykeep.LinkTwice': WHATEVER THE INPUT: true; the input reads as it did. -/
def linkTwiceSpec : ChangeSpec := { name := "linkTwice", fn := fun _ => fun
  | [d1, d2, d3] => { results := [.lit (.bool true)], args := [d1, d2, d3] }
  | _ => none }
def linkTwiceRow : OpenClaim := { program := "ytkhacogeffidoaadoor", sum := "0f757bc12753ded041ffd7ef99ac79baa8ae4ad4e24ccafd7f20b33c612325cd", func := "wherry/wherrykeep.LinkTwice", spec := "linkTwice", unfollowed := true, recurses := true, named := ["unicode/utf8.first", "unicode/utf8.acceptRanges"], apart := false, laid := [("unicode/utf8.acceptRanges", laid_unicode_utf8_acceptRanges), ("unicode/utf8.first", laid_unicode_utf8_first)] }
def LinkTwiceSaid : Prop := linkTwiceRow.holds Tryd.pinned (OpenSpec.ofChange linkTwiceSpec)

/-- ITS FALSE NEIGHBOUR: 'it returns false'. Refute it at one input. -/
def linkTwiceWrong : ChangeSpec := { name := "linkTwice", fn := fun _ => fun
  | [d1, d2, d3] => { results := [.lit (.bool false)], args := [d1, d2, d3] }
  | _ => none }
def LinkTwiceWrongFalsely : Prop := linkTwiceRow.holds Tryd.pinned (OpenSpec.ofChange linkTwiceWrong)

/-- 'wherrykeep.LinkGap': WHATEVER THE INPUT: true; the input reads as it did. -/
def linkGapSpec : ChangeSpec := { name := "linkGap", fn := fun _ => fun
  | [d1, d2] => { results := [.lit (.bool true)], args := [d1, d2] }
  | _ => none }
def linkGapRow : OpenClaim := { program := "ytkhacogeffidoaadoor", sum := "0f757bc12753ded041ffd7ef99ac79baa8ae4ad4e24ccafd7f20b33c612325cd", func := "wherry/wherrykeep.LinkGap", spec := "linkGap", unfollowed := true, recurses := true, named := ["unicode/utf8.first", "unicode/utf8.acceptRanges"], apart := false, laid := [("unicode/utf8.acceptRanges", laid_unicode_utf8_acceptRanges), ("unicode/utf8.first", laid_unicode_utf8_first)] }
def LinkGapSaid : Prop := linkGapRow.holds Tryd.pinned (OpenSpec.ofChange linkGapSpec)

/-- ITS FALSE NEIGHBOUR: 'it returns false'. Refute it at one input. -/
def linkGapWrong : ChangeSpec := { name := "linkGap", fn := fun _ => fun
  | [d1, d2] => { results := [.lit (.bool false)], args := [d1, d2] }
  | _ => none }
def LinkGapWrongFalsely : Prop := linkGapRow.holds Tryd.pinned (OpenSpec.ofChange linkGapWrong)

/-- 'wherrykeep.LinkAcks': WHATEVER THE INPUT: true; the input reads as it did. -/
def linkAcksSpec : ChangeSpec := { name := "linkAcks", fn := fun _ => fun
  | [d1, d2] => { results := [.lit (.bool true)], args := [d1, d2] }
  | _ => none }
def linkAcksRow : OpenClaim := { program := "ytkhacogeffidoaadoor", sum := "0f757bc12753ded041ffd7ef99ac79baa8ae4ad4e24ccafd7f20b33c612325cd", func := "wherry/wherrykeep.LinkAcks", spec := "linkAcks", unfollowed := true, recurses := true, named := ["unicode/utf8.first", "unicode/utf8.acceptRanges"], apart := false, laid := [("unicode/utf8.acceptRanges", laid_unicode_utf8_acceptRanges), ("unicode/utf8.first", laid_unicode_utf8_first)] }
def LinkAcksSaid : Prop := linkAcksRow.holds Tryd.pinned (OpenSpec.ofChange linkAcksSpec)

/-- ITS FALSE NEIGHBOUR: 'it returns false'. Refute it at one input. -/
def linkAcksWrong : ChangeSpec := { name := "linkAcks", fn := fun _ => fun
  | [d1, d2] => { results := [.lit (.bool false)], args := [d1, d2] }
  | _ => none }
def LinkAcksWrongFalsely : Prop := linkAcksRow.holds Tryd.pinned (OpenSpec.ofChange linkAcksWrong)

/-- 'wherrykeep.LinkOnce': WHATEVER THE INPUT: true; the input reads as it did. -/
def linkOnceSpec : ChangeSpec := { name := "linkOnce", fn := fun _ => fun
  | [d] => { results := [.lit (.bool true)], args := [d] }
  | _ => none }
def linkOnceRow : OpenClaim := { program := "ytkhacogeffidoaadoor", sum := "0f757bc12753ded041ffd7ef99ac79baa8ae4ad4e24ccafd7f20b33c612325cd", func := "wherry/wherrykeep.LinkOnce", spec := "linkOnce", unfollowed := true, recurses := true, named := ["unicode/utf8.first", "unicode/utf8.acceptRanges"], apart := false, laid := [("unicode/utf8.acceptRanges", laid_unicode_utf8_acceptRanges), ("unicode/utf8.first", laid_unicode_utf8_first)] }
def LinkOnceSaid : Prop := linkOnceRow.holds Tryd.pinned (OpenSpec.ofChange linkOnceSpec)

/-- ITS FALSE NEIGHBOUR: 'it returns false'. Refute it at one input. -/
def linkOnceWrong : ChangeSpec := { name := "linkOnce", fn := fun _ => fun
  | [d] => { results := [.lit (.bool false)], args := [d] }
  | _ => none }
def LinkOnceWrongFalsely : Prop := linkOnceRow.holds Tryd.pinned (OpenSpec.ofChange linkOnceWrong)

/-- 'wherrykeep.LinkAll': WHATEVER THE INPUT: true; the input reads as it did. -/
def linkAllSpec : ChangeSpec := { name := "linkAll", fn := fun _ => fun
  | [d] => { results := [.lit (.bool true)], args := [d] }
  | _ => none }
def linkAllRow : OpenClaim := { program := "ytkhacogeffidoaadoor", sum := "0f757bc12753ded041ffd7ef99ac79baa8ae4ad4e24ccafd7f20b33c612325cd", func := "wherry/wherrykeep.LinkAll", spec := "linkAll", unfollowed := true, recurses := true, named := ["unicode/utf8.first", "unicode/utf8.acceptRanges"], apart := false, laid := [("unicode/utf8.acceptRanges", laid_unicode_utf8_acceptRanges), ("unicode/utf8.first", laid_unicode_utf8_first)] }
def LinkAllSaid : Prop := linkAllRow.holds Tryd.pinned (OpenSpec.ofChange linkAllSpec)

/-- ITS FALSE NEIGHBOUR: 'it returns false'. Refute it at one input. -/
def linkAllWrong : ChangeSpec := { name := "linkAll", fn := fun _ => fun
  | [d] => { results := [.lit (.bool false)], args := [d] }
  | _ => none }
def LinkAllWrongFalsely : Prop := linkAllRow.holds Tryd.pinned (OpenSpec.ofChange linkAllWrong)

/-- 'wherrykeep.EdgeAlone': WHATEVER THE INPUT: true; the input reads as it did. -/
def edgeAloneSpec : ChangeSpec := { name := "edgeAlone", fn := fun _ => fun
  | [d1, d2, d3] => { results := [.lit (.bool true)], args := [d1, d2, d3] }
  | _ => none }
def edgeAloneRow : OpenClaim := { program := "ytkhacogeffidoaadoor", sum := "0f757bc12753ded041ffd7ef99ac79baa8ae4ad4e24ccafd7f20b33c612325cd", func := "wherry/wherrykeep.EdgeAlone", spec := "edgeAlone", unfollowed := true, recurses := true, named := ["unicode/utf8.first", "unicode/utf8.acceptRanges"], apart := false, laid := [("unicode/utf8.acceptRanges", laid_unicode_utf8_acceptRanges), ("unicode/utf8.first", laid_unicode_utf8_first)] }
def EdgeAloneSaid : Prop := edgeAloneRow.holds Tryd.pinned (OpenSpec.ofChange edgeAloneSpec)

/-- ITS FALSE NEIGHBOUR: 'it returns false'. Refute it at one input. -/
def edgeAloneWrong : ChangeSpec := { name := "edgeAlone", fn := fun _ => fun
  | [d1, d2, d3] => { results := [.lit (.bool false)], args := [d1, d2, d3] }
  | _ => none }
def EdgeAloneWrongFalsely : Prop := edgeAloneRow.holds Tryd.pinned (OpenSpec.ofChange edgeAloneWrong)

/-- 'wherrykeep.EdgeKnown': WHATEVER THE INPUT: true; the input reads as it did. -/
def edgeKnownSpec : ChangeSpec := { name := "edgeKnown", fn := fun _ => fun
  | [d1, d2, d3] => { results := [.lit (.bool true)], args := [d1, d2, d3] }
  | _ => none }
def edgeKnownRow : OpenClaim := { program := "ytkhacogeffidoaadoor", sum := "0f757bc12753ded041ffd7ef99ac79baa8ae4ad4e24ccafd7f20b33c612325cd", func := "wherry/wherrykeep.EdgeKnown", spec := "edgeKnown", recurses := true, named := ["unicode/utf8.first", "unicode/utf8.acceptRanges"], apart := false, laid := [("unicode/utf8.acceptRanges", laid_unicode_utf8_acceptRanges), ("unicode/utf8.first", laid_unicode_utf8_first)] }
def EdgeKnownSaid : Prop := edgeKnownRow.holds Tryd.pinned (OpenSpec.ofChange edgeKnownSpec)

/-- ITS FALSE NEIGHBOUR: 'it returns false'. Refute it at one input. -/
def edgeKnownWrong : ChangeSpec := { name := "edgeKnown", fn := fun _ => fun
  | [d1, d2, d3] => { results := [.lit (.bool false)], args := [d1, d2, d3] }
  | _ => none }
def EdgeKnownWrongFalsely : Prop := edgeKnownRow.holds Tryd.pinned (OpenSpec.ofChange edgeKnownWrong)

/-- 'wherrykeep.EdgeMeets': WHATEVER THE INPUT: true; the input reads as it did. -/
def edgeMeetsSpec : ChangeSpec := { name := "edgeMeets", fn := fun _ => fun
  | [d1, d2] => { results := [.lit (.bool true)], args := [d1, d2] }
  | _ => none }
def edgeMeetsRow : OpenClaim := { program := "ytkhacogeffidoaadoor", sum := "0f757bc12753ded041ffd7ef99ac79baa8ae4ad4e24ccafd7f20b33c612325cd", func := "wherry/wherrykeep.EdgeMeets", spec := "edgeMeets", inPlace := ["internal/abi.NoEscape"], unfollowed := true, recurses := true, named := ["unicode/utf8.first", "unicode/utf8.acceptRanges"], apart := false, laid := [("unicode/utf8.acceptRanges", laid_unicode_utf8_acceptRanges), ("unicode/utf8.first", laid_unicode_utf8_first)] }
def EdgeMeetsSaid : Prop := edgeMeetsRow.holds Tryd.pinned (OpenSpec.ofChange edgeMeetsSpec)

/-- ITS FALSE NEIGHBOUR: 'it returns false'. Refute it at one input. -/
def edgeMeetsWrong : ChangeSpec := { name := "edgeMeets", fn := fun _ => fun
  | [d1, d2] => { results := [.lit (.bool false)], args := [d1, d2] }
  | _ => none }
def EdgeMeetsWrongFalsely : Prop := edgeMeetsRow.holds Tryd.pinned (OpenSpec.ofChange edgeMeetsWrong)

/-- 'wherrykeep.EdgeUpper': WHATEVER THE INPUT: true; the input reads as it did. -/
def edgeUpperSpec : ChangeSpec := { name := "edgeUpper", fn := fun _ => fun
  | [d1, d2, d3, d4] => { results := [.lit (.bool true)], args := [d1, d2, d3, d4] }
  | _ => none }
def edgeUpperRow : OpenClaim := { program := "ytkhacogeffidoaadoor", sum := "0f757bc12753ded041ffd7ef99ac79baa8ae4ad4e24ccafd7f20b33c612325cd", func := "wherry/wherrykeep.EdgeUpper", spec := "edgeUpper", inPlace := ["internal/abi.NoEscape"], recurses := true, named := ["unicode/utf8.first", "unicode/utf8.acceptRanges"], apart := false, laid := [("unicode/utf8.acceptRanges", laid_unicode_utf8_acceptRanges), ("unicode/utf8.first", laid_unicode_utf8_first)] }
def EdgeUpperSaid : Prop := edgeUpperRow.holds Tryd.pinned (OpenSpec.ofChange edgeUpperSpec)

/-- ITS FALSE NEIGHBOUR: 'it returns false'. Refute it at one input. -/
def edgeUpperWrong : ChangeSpec := { name := "edgeUpper", fn := fun _ => fun
  | [d1, d2, d3, d4] => { results := [.lit (.bool false)], args := [d1, d2, d3, d4] }
  | _ => none }
def EdgeUpperWrongFalsely : Prop := edgeUpperRow.holds Tryd.pinned (OpenSpec.ofChange edgeUpperWrong)

/- THE SECOND FORM. 'bulk': how many values and letters a reading holds, each counted each time it is reached (what is shared counts as often as it is met; a slice's spare places count too). A statement '..UptoSaid' is the law's where the arguments, and the package variables that the reading takes, are together of bulk at most 1048576: NARROWER than '..Said'. Prove '..Said' where nothing that the law and all that it calls make is longer than what came in: it says more and counts as full. Else prove '..UptoSaid'. A law counts once. -/
mutual
def uptoBulk {H : Type} : DataW H → Nat
  | .lit (.string bytes) => bytes.length + 1
  | .lit _ => 1
  | .nil => 1
  | .ptr d => uptoBulk d + 1
  | .slice elems spare => uptoBulkAll elems + uptoBulkAll spare + 1
  | .agg parts => uptoBulkAll parts + 1
  | .iface _ d => uptoBulk d + 1
  | .map entries => uptoBulkEntries entries + 1
  | .held _ => 1
def uptoBulkAll {H : Type} : List (DataW H) → Nat
  | [] => 0
  | d :: r => uptoBulk d + uptoBulkAll r
def uptoBulkEntries {H : Type} : List (Lit × DataW H) → Nat
  | [] => 0
  | x :: r => uptoBulkEntry x + uptoBulkEntries r
def uptoBulkEntry {H : Type} : Lit × DataW H → Nat
  | (.string bytes, d) => bytes.length + uptoBulk d + 1
  | (_, d) => uptoBulk d + 1
 end
def uptoSmall : (H : Type) → List (DataW H) → Bool := fun _ ds => decide (uptoBulkAll ds ≤ 1048576)
def OpenSpec.upto (s : _root_.Go.ChangeSpec) : _root_.Go.OpenSpec := { _root_.Go.OpenSpec.ofChange s with cond := some uptoSmall }

/-- 'wherrykeep.LinkWindow', WHERE WHAT IT READS IS OF BULK AT MOST 1048576: true; the input reads as it did. -/
def linkWindowUptoRow : OpenClaim := { program := "ytkhacogeffidoaadoor", sum := "0f757bc12753ded041ffd7ef99ac79baa8ae4ad4e24ccafd7f20b33c612325cd", func := "wherry/wherrykeep.LinkWindow", spec := "linkWindow", unfollowed := true, recurses := true, named := ["unicode/utf8.first", "unicode/utf8.acceptRanges"], apart := false, laid := [("unicode/utf8.acceptRanges", laid_unicode_utf8_acceptRanges), ("unicode/utf8.first", laid_unicode_utf8_first)], narrowed := true }
def LinkWindowUptoSaid : Prop := linkWindowUptoRow.holds Tryd.pinned (OpenSpec.upto linkWindowSpec)

/-- 'wherrykeep.LinkAway', WHERE WHAT IT READS IS OF BULK AT MOST 1048576: true; the input reads as it did. -/
def linkAwayUptoRow : OpenClaim := { program := "ytkhacogeffidoaadoor", sum := "0f757bc12753ded041ffd7ef99ac79baa8ae4ad4e24ccafd7f20b33c612325cd", func := "wherry/wherrykeep.LinkAway", spec := "linkAway", unfollowed := true, recurses := true, named := ["unicode/utf8.first", "unicode/utf8.acceptRanges"], apart := false, laid := [("unicode/utf8.acceptRanges", laid_unicode_utf8_acceptRanges), ("unicode/utf8.first", laid_unicode_utf8_first)], narrowed := true }
def LinkAwayUptoSaid : Prop := linkAwayUptoRow.holds Tryd.pinned (OpenSpec.upto linkAwaySpec)

/-- 'wherrykeep.LinkTwice', WHERE WHAT IT READS IS OF BULK AT MOST 1048576: true; the input reads as it did. -/
def linkTwiceUptoRow : OpenClaim := { program := "ytkhacogeffidoaadoor", sum := "0f757bc12753ded041ffd7ef99ac79baa8ae4ad4e24ccafd7f20b33c612325cd", func := "wherry/wherrykeep.LinkTwice", spec := "linkTwice", unfollowed := true, recurses := true, named := ["unicode/utf8.first", "unicode/utf8.acceptRanges"], apart := false, laid := [("unicode/utf8.acceptRanges", laid_unicode_utf8_acceptRanges), ("unicode/utf8.first", laid_unicode_utf8_first)], narrowed := true }
def LinkTwiceUptoSaid : Prop := linkTwiceUptoRow.holds Tryd.pinned (OpenSpec.upto linkTwiceSpec)

/-- 'wherrykeep.LinkGap', WHERE WHAT IT READS IS OF BULK AT MOST 1048576: true; the input reads as it did. -/
def linkGapUptoRow : OpenClaim := { program := "ytkhacogeffidoaadoor", sum := "0f757bc12753ded041ffd7ef99ac79baa8ae4ad4e24ccafd7f20b33c612325cd", func := "wherry/wherrykeep.LinkGap", spec := "linkGap", unfollowed := true, recurses := true, named := ["unicode/utf8.first", "unicode/utf8.acceptRanges"], apart := false, laid := [("unicode/utf8.acceptRanges", laid_unicode_utf8_acceptRanges), ("unicode/utf8.first", laid_unicode_utf8_first)], narrowed := true }
def LinkGapUptoSaid : Prop := linkGapUptoRow.holds Tryd.pinned (OpenSpec.upto linkGapSpec)

/-- 'wherrykeep.LinkAcks', WHERE WHAT IT READS IS OF BULK AT MOST 1048576: true; the input reads as it did. -/
def linkAcksUptoRow : OpenClaim := { program := "ytkhacogeffidoaadoor", sum := "0f757bc12753ded041ffd7ef99ac79baa8ae4ad4e24ccafd7f20b33c612325cd", func := "wherry/wherrykeep.LinkAcks", spec := "linkAcks", unfollowed := true, recurses := true, named := ["unicode/utf8.first", "unicode/utf8.acceptRanges"], apart := false, laid := [("unicode/utf8.acceptRanges", laid_unicode_utf8_acceptRanges), ("unicode/utf8.first", laid_unicode_utf8_first)], narrowed := true }
def LinkAcksUptoSaid : Prop := linkAcksUptoRow.holds Tryd.pinned (OpenSpec.upto linkAcksSpec)

/-- 'wherrykeep.LinkOnce', WHERE WHAT IT READS IS OF BULK AT MOST 1048576: true; the input reads as it did. -/
def linkOnceUptoRow : OpenClaim := { program := "ytkhacogeffidoaadoor", sum := "0f757bc12753ded041ffd7ef99ac79baa8ae4ad4e24ccafd7f20b33c612325cd", func := "wherry/wherrykeep.LinkOnce", spec := "linkOnce", unfollowed := true, recurses := true, named := ["unicode/utf8.first", "unicode/utf8.acceptRanges"], apart := false, laid := [("unicode/utf8.acceptRanges", laid_unicode_utf8_acceptRanges), ("unicode/utf8.first", laid_unicode_utf8_first)], narrowed := true }
def LinkOnceUptoSaid : Prop := linkOnceUptoRow.holds Tryd.pinned (OpenSpec.upto linkOnceSpec)

/-- 'wherrykeep.LinkAll', WHERE WHAT IT READS IS OF BULK AT MOST 1048576: true; the input reads as it did. -/
def linkAllUptoRow : OpenClaim := { program := "ytkhacogeffidoaadoor", sum := "0f757bc12753ded041ffd7ef99ac79baa8ae4ad4e24ccafd7f20b33c612325cd", func := "wherry/wherrykeep.LinkAll", spec := "linkAll", unfollowed := true, recurses := true, named := ["unicode/utf8.first", "unicode/utf8.acceptRanges"], apart := false, laid := [("unicode/utf8.acceptRanges", laid_unicode_utf8_acceptRanges), ("unicode/utf8.first", laid_unicode_utf8_first)], narrowed := true }
def LinkAllUptoSaid : Prop := linkAllUptoRow.holds Tryd.pinned (OpenSpec.upto linkAllSpec)

/-- 'wherrykeep.EdgeAlone', WHERE WHAT IT READS IS OF BULK AT MOST 1048576: true; the input reads as it did. -/
def edgeAloneUptoRow : OpenClaim := { program := "ytkhacogeffidoaadoor", sum := "0f757bc12753ded041ffd7ef99ac79baa8ae4ad4e24ccafd7f20b33c612325cd", func := "wherry/wherrykeep.EdgeAlone", spec := "edgeAlone", unfollowed := true, recurses := true, named := ["unicode/utf8.first", "unicode/utf8.acceptRanges"], apart := false, laid := [("unicode/utf8.acceptRanges", laid_unicode_utf8_acceptRanges), ("unicode/utf8.first", laid_unicode_utf8_first)], narrowed := true }
def EdgeAloneUptoSaid : Prop := edgeAloneUptoRow.holds Tryd.pinned (OpenSpec.upto edgeAloneSpec)

/-- 'wherrykeep.EdgeKnown', WHERE WHAT IT READS IS OF BULK AT MOST 1048576: true; the input reads as it did. -/
def edgeKnownUptoRow : OpenClaim := { program := "ytkhacogeffidoaadoor", sum := "0f757bc12753ded041ffd7ef99ac79baa8ae4ad4e24ccafd7f20b33c612325cd", func := "wherry/wherrykeep.EdgeKnown", spec := "edgeKnown", recurses := true, named := ["unicode/utf8.first", "unicode/utf8.acceptRanges"], apart := false, laid := [("unicode/utf8.acceptRanges", laid_unicode_utf8_acceptRanges), ("unicode/utf8.first", laid_unicode_utf8_first)], narrowed := true }
def EdgeKnownUptoSaid : Prop := edgeKnownUptoRow.holds Tryd.pinned (OpenSpec.upto edgeKnownSpec)

/-- 'wherrykeep.EdgeMeets', WHERE WHAT IT READS IS OF BULK AT MOST 1048576: true; the input reads as it did. -/
def edgeMeetsUptoRow : OpenClaim := { program := "ytkhacogeffidoaadoor", sum := "0f757bc12753ded041ffd7ef99ac79baa8ae4ad4e24ccafd7f20b33c612325cd", func := "wherry/wherrykeep.EdgeMeets", spec := "edgeMeets", inPlace := ["internal/abi.NoEscape"], unfollowed := true, recurses := true, named := ["unicode/utf8.first", "unicode/utf8.acceptRanges"], apart := false, laid := [("unicode/utf8.acceptRanges", laid_unicode_utf8_acceptRanges), ("unicode/utf8.first", laid_unicode_utf8_first)], narrowed := true }
def EdgeMeetsUptoSaid : Prop := edgeMeetsUptoRow.holds Tryd.pinned (OpenSpec.upto edgeMeetsSpec)

/-- 'wherrykeep.EdgeUpper', WHERE WHAT IT READS IS OF BULK AT MOST 1048576: true; the input reads as it did. -/
def edgeUpperUptoRow : OpenClaim := { program := "ytkhacogeffidoaadoor", sum := "0f757bc12753ded041ffd7ef99ac79baa8ae4ad4e24ccafd7f20b33c612325cd", func := "wherry/wherrykeep.EdgeUpper", spec := "edgeUpper", inPlace := ["internal/abi.NoEscape"], recurses := true, named := ["unicode/utf8.first", "unicode/utf8.acceptRanges"], apart := false, laid := [("unicode/utf8.acceptRanges", laid_unicode_utf8_acceptRanges), ("unicode/utf8.first", laid_unicode_utf8_first)], narrowed := true }
def EdgeUpperUptoSaid : Prop := edgeUpperUptoRow.holds Tryd.pinned (OpenSpec.upto edgeUpperSpec)

end Rows
end Go.Proofs.YtkhacogeffidoaaDoor
