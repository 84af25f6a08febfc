/-
  NARROWER THAN 'FOR EVERY INPUT', by the rows' own cells (each row's printed sentence says how): TapeLengths: laid · CrashJust: laid · RecordBack: laid · NumberForms: laid · BytesMany: laid · PacketBack: laid · PacketFixed: laid · TapeTorn: laid · TapeOn: laid · TapeKeeps: laid · ReplayMakes: laid.
  DERIVED. THE GIVEN ROWS OF THIS SEAT. 11 by the template 'for every input the law returns true; each argument reads behind the call as it read before'; 0 by the template 'total and deterministic' (their statements: YtdbdhpjjndhjiaaDoorTotals.lean).
  GIVEN WITH THE SEED: the statements are not yours to turn. If you find one false, say at which input.
  Laid BY PROGRAM, IN A SANDBOX (cutbox-rows.mjs): the forced cells as the released guide's own fill.sh prints them over the translation 6c75401107251312… (all of the seat's roots in one cut). By AI agents, Wed Nov 11 2026. No macro, syntax, notation, axiom, sorry.
-/
import Derived.Test.YtdbdhpjjndhjiaaDoorChecked
import GoSem.PinnedTables
import GoSem.Claim
import GoSem.ClaimJoined
import GoSem.ClaimMapViews
import Derived.JoinedTies
import Derived.KernelRfl
namespace Go.Proofs.YtdbdhpjjndhjiaaDoor
/- THE CELL 'sum', in the pinned program and in every row, IS THE sha256 OF THE DUMP (.gsa) THAT YtdbdhpjjndhjiaaDoorProg.lean LOADS. Nothing in Lean hashes anything: it is a label: what it is worth is what the hold of that sum in a sandbox is worth. -/
noncomputable def Tryd.pinned : Pinned := { name := "ytdbdhpjjndhjiaadoor", sum := "6c75401107251312365e911fda630d2a593b2b4e72d2b0adc06f66d5fe50dfdd", checked := Tryd.checked }
namespace Rows
def none {H : Type} : Left H := { results := [], args := [] }

/- WHAT THE LISTED PACKAGE-LEVEL VARIABLES READ AS WHEN THE CALL BEGINS. Each datum BY PROGRAM (the guide's laid-datum.mjs) off the statement by which the dump's own 'gosem.cut.vars' lays the variable. In a bare row this is a premise. The card (YtdbdhpjjndhjiaaDoorCards.lean) ties it to the program's text. -/
def laid_unicode_utf8_acceptRanges {H : Type} : DataW H := .agg [.agg [.lit (.int .u8 128), .lit (.int .u8 191)], .agg [.lit (.int .u8 160), .lit (.int .u8 191)], .agg [.lit (.int .u8 128), .lit (.int .u8 159)], .agg [.lit (.int .u8 144), .lit (.int .u8 191)], .agg [.lit (.int .u8 128), .lit (.int .u8 143)], .agg [.lit (.int .u8 0), .lit (.int .u8 0)], .agg [.lit (.int .u8 0), .lit (.int .u8 0)], .agg [.lit (.int .u8 0), .lit (.int .u8 0)], .agg [.lit (.int .u8 0), .lit (.int .u8 0)], .agg [.lit (.int .u8 0), .lit (.int .u8 0)], .agg [.lit (.int .u8 0), .lit (.int .u8 0)], .agg [.lit (.int .u8 0), .lit (.int .u8 0)], .agg [.lit (.int .u8 0), .lit (.int .u8 0)], .agg [.lit (.int .u8 0), .lit (.int .u8 0)], .agg [.lit (.int .u8 0), .lit (.int .u8 0)], .agg [.lit (.int .u8 0), .lit (.int .u8 0)]]
/-- One of Go's own tables, pinned by name: the form's constant. -/
def laid_unicode_utf8_first : DataW Unit := Go.Pinned.utf8First

/-- 'wherrykeep.TapeLengths': WHATEVER THE INPUT: true; the input reads as it did. -/
def tapeLengthsSpec : ChangeSpec := { name := "tapeLengths", fn := fun _ => fun
  | [d] => { results := [.lit (.bool true)], args := [d] }
  | _ => none }
def tapeLengthsRow : OpenClaim := { program := "ytdbdhpjjndhjiaadoor", sum := "6c75401107251312365e911fda630d2a593b2b4e72d2b0adc06f66d5fe50dfdd", func := "wherry/wherrykeep.TapeLengths", spec := "tapeLengths", unfollowed := true, recurses := true, named := ["unicode/utf8.first", "unicode/utf8.acceptRanges"], apart := false, laid := [("unicode/utf8.acceptRanges", laid_unicode_utf8_acceptRanges), ("unicode/utf8.first", laid_unicode_utf8_first)] }
def TapeLengthsSaid : Prop := tapeLengthsRow.holds Tryd.pinned (OpenSpec.ofChange tapeLengthsSpec)

/-- ITS FALSE NEIGHBOUR: 'it returns false'. Refute it at one input. -/
def tapeLengthsWrong : ChangeSpec := { name := "tapeLengths", fn := fun _ => fun
  | [d] => { results := [.lit (.bool false)], args := [d] }
  | _ => none }
def TapeLengthsWrongFalsely : Prop := tapeLengthsRow.holds Tryd.pinned (OpenSpec.ofChange tapeLengthsWrong)

/-- 'wherrykeep.CrashJust': WHATEVER THE INPUT: true; the input reads as it did. -/
def crashJustSpec : ChangeSpec := { name := "crashJust", fn := fun _ => fun
  | [d1, d2, d3] => { results := [.lit (.bool true)], args := [d1, d2, d3] }
  | _ => none }
def crashJustRow : OpenClaim := { program := "ytdbdhpjjndhjiaadoor", sum := "6c75401107251312365e911fda630d2a593b2b4e72d2b0adc06f66d5fe50dfdd", func := "wherry/wherrykeep.CrashJust", spec := "crashJust", unfollowed := true, recurses := true, named := ["unicode/utf8.first", "unicode/utf8.acceptRanges"], apart := false, laid := [("unicode/utf8.acceptRanges", laid_unicode_utf8_acceptRanges), ("unicode/utf8.first", laid_unicode_utf8_first)] }
def CrashJustSaid : Prop := crashJustRow.holds Tryd.pinned (OpenSpec.ofChange crashJustSpec)

/-- ITS FALSE NEIGHBOUR: 'it returns false'. Refute it at one input. -/
def crashJustWrong : ChangeSpec := { name := "crashJust", fn := fun _ => fun
  | [d1, d2, d3] => { results := [.lit (.bool false)], args := [d1, d2, d3] }
  | _ => none }
def CrashJustWrongFalsely : Prop := crashJustRow.holds Tryd.pinned (OpenSpec.ofChange crashJustWrong)

/-- 'wherrykeep.RecordBack': WHATEVER THE INPUT: true; the input reads as it did. -/
def recordBackSpec : ChangeSpec := { name := "recordBack", fn := fun _ => fun
  | [d1, d2, d3] => { results := [.lit (.bool true)], args := [d1, d2, d3] }
  | _ => none }
def recordBackRow : OpenClaim := { program := "ytdbdhpjjndhjiaadoor", sum := "6c75401107251312365e911fda630d2a593b2b4e72d2b0adc06f66d5fe50dfdd", func := "wherry/wherrykeep.RecordBack", spec := "recordBack", unfollowed := true, recurses := true, named := ["unicode/utf8.first", "unicode/utf8.acceptRanges"], apart := false, laid := [("unicode/utf8.acceptRanges", laid_unicode_utf8_acceptRanges), ("unicode/utf8.first", laid_unicode_utf8_first)] }
def RecordBackSaid : Prop := recordBackRow.holds Tryd.pinned (OpenSpec.ofChange recordBackSpec)

/-- ITS FALSE NEIGHBOUR: 'it returns false'. Refute it at one input. -/
def recordBackWrong : ChangeSpec := { name := "recordBack", fn := fun _ => fun
  | [d1, d2, d3] => { results := [.lit (.bool false)], args := [d1, d2, d3] }
  | _ => none }
def RecordBackWrongFalsely : Prop := recordBackRow.holds Tryd.pinned (OpenSpec.ofChange recordBackWrong)

/-- 'wherrykeep.NumberForms': WHATEVER THE INPUT: true; the input reads as it did. -/
def numberFormsSpec : ChangeSpec := { name := "numberForms", fn := fun _ => fun
  | [d] => { results := [.lit (.bool true)], args := [d] }
  | _ => none }
def numberFormsRow : OpenClaim := { program := "ytdbdhpjjndhjiaadoor", sum := "6c75401107251312365e911fda630d2a593b2b4e72d2b0adc06f66d5fe50dfdd", func := "wherry/wherrykeep.NumberForms", spec := "numberForms", named := ["unicode/utf8.first", "unicode/utf8.acceptRanges"], apart := false, laid := [("unicode/utf8.acceptRanges", laid_unicode_utf8_acceptRanges), ("unicode/utf8.first", laid_unicode_utf8_first)] }
def NumberFormsSaid : Prop := numberFormsRow.holds Tryd.pinned (OpenSpec.ofChange numberFormsSpec)

/-- ITS FALSE NEIGHBOUR: 'it returns false'. Refute it at one input. -/
def numberFormsWrong : ChangeSpec := { name := "numberForms", fn := fun _ => fun
  | [d] => { results := [.lit (.bool false)], args := [d] }
  | _ => none }
def NumberFormsWrongFalsely : Prop := numberFormsRow.holds Tryd.pinned (OpenSpec.ofChange numberFormsWrong)

/-- 'wherrykeep.BytesMany': WHATEVER THE INPUT: true; the input reads as it did. -/
def bytesManySpec : ChangeSpec := { name := "bytesMany", fn := fun _ => fun
  | [d] => { results := [.lit (.bool true)], args := [d] }
  | _ => none }
def bytesManyRow : OpenClaim := { program := "ytdbdhpjjndhjiaadoor", sum := "6c75401107251312365e911fda630d2a593b2b4e72d2b0adc06f66d5fe50dfdd", func := "wherry/wherrykeep.BytesMany", spec := "bytesMany", named := ["unicode/utf8.first", "unicode/utf8.acceptRanges"], apart := false, laid := [("unicode/utf8.acceptRanges", laid_unicode_utf8_acceptRanges), ("unicode/utf8.first", laid_unicode_utf8_first)] }
def BytesManySaid : Prop := bytesManyRow.holds Tryd.pinned (OpenSpec.ofChange bytesManySpec)

/-- ITS FALSE NEIGHBOUR: 'it returns false'. Refute it at one input. -/
def bytesManyWrong : ChangeSpec := { name := "bytesMany", fn := fun _ => fun
  | [d] => { results := [.lit (.bool false)], args := [d] }
  | _ => none }
def BytesManyWrongFalsely : Prop := bytesManyRow.holds Tryd.pinned (OpenSpec.ofChange bytesManyWrong)

/-- 'wherrykeep.PacketBack': WHATEVER THE INPUT: true; the input reads as it did. -/
def packetBackSpec : ChangeSpec := { name := "packetBack", fn := fun _ => fun
  | [d1, d2, d3, d4] => { results := [.lit (.bool true)], args := [d1, d2, d3, d4] }
  | _ => none }
def packetBackRow : OpenClaim := { program := "ytdbdhpjjndhjiaadoor", sum := "6c75401107251312365e911fda630d2a593b2b4e72d2b0adc06f66d5fe50dfdd", func := "wherry/wherrykeep.PacketBack", spec := "packetBack", unfollowed := true, recurses := true, named := ["unicode/utf8.first", "unicode/utf8.acceptRanges"], apart := false, laid := [("unicode/utf8.acceptRanges", laid_unicode_utf8_acceptRanges), ("unicode/utf8.first", laid_unicode_utf8_first)] }
def PacketBackSaid : Prop := packetBackRow.holds Tryd.pinned (OpenSpec.ofChange packetBackSpec)

/-- ITS FALSE NEIGHBOUR: 'it returns false'. Refute it at one input. -/
def packetBackWrong : ChangeSpec := { name := "packetBack", fn := fun _ => fun
  | [d1, d2, d3, d4] => { results := [.lit (.bool false)], args := [d1, d2, d3, d4] }
  | _ => none }
def PacketBackWrongFalsely : Prop := packetBackRow.holds Tryd.pinned (OpenSpec.ofChange packetBackWrong)

/-- 'wherrykeep.PacketFixed': WHATEVER THE INPUT: true; the input reads as it did. -/
def packetFixedSpec : ChangeSpec := { name := "packetFixed", fn := fun _ => fun
  | [d] => { results := [.lit (.bool true)], args := [d] }
  | _ => none }
def packetFixedRow : OpenClaim := { program := "ytdbdhpjjndhjiaadoor", sum := "6c75401107251312365e911fda630d2a593b2b4e72d2b0adc06f66d5fe50dfdd", func := "wherry/wherrykeep.PacketFixed", spec := "packetFixed", named := ["unicode/utf8.first", "unicode/utf8.acceptRanges"], apart := false, laid := [("unicode/utf8.acceptRanges", laid_unicode_utf8_acceptRanges), ("unicode/utf8.first", laid_unicode_utf8_first)] }
def PacketFixedSaid : Prop := packetFixedRow.holds Tryd.pinned (OpenSpec.ofChange packetFixedSpec)

/-- ITS FALSE NEIGHBOUR: 'it returns false'. Refute it at one input. -/
def packetFixedWrong : ChangeSpec := { name := "packetFixed", fn := fun _ => fun
  | [d] => { results := [.lit (.bool false)], args := [d] }
  | _ => none }
def PacketFixedWrongFalsely : Prop := packetFixedRow.holds Tryd.pinned (OpenSpec.ofChange packetFixedWrong)

/-- 'wherrykeep.TapeTorn': WHATEVER THE INPUT: true; the input reads as it did. -/
def tapeTornSpec : ChangeSpec := { name := "tapeTorn", fn := fun _ => fun
  | [d1, d2] => { results := [.lit (.bool true)], args := [d1, d2] }
  | _ => none }
def tapeTornRow : OpenClaim := { program := "ytdbdhpjjndhjiaadoor", sum := "6c75401107251312365e911fda630d2a593b2b4e72d2b0adc06f66d5fe50dfdd", func := "wherry/wherrykeep.TapeTorn", spec := "tapeTorn", unfollowed := true, recurses := true, named := ["unicode/utf8.first", "unicode/utf8.acceptRanges"], apart := false, laid := [("unicode/utf8.acceptRanges", laid_unicode_utf8_acceptRanges), ("unicode/utf8.first", laid_unicode_utf8_first)] }
def TapeTornSaid : Prop := tapeTornRow.holds Tryd.pinned (OpenSpec.ofChange tapeTornSpec)

/-- ITS FALSE NEIGHBOUR: 'it returns false'. Refute it at one input. -/
def tapeTornWrong : ChangeSpec := { name := "tapeTorn", fn := fun _ => fun
  | [d1, d2] => { results := [.lit (.bool false)], args := [d1, d2] }
  | _ => none }
def TapeTornWrongFalsely : Prop := tapeTornRow.holds Tryd.pinned (OpenSpec.ofChange tapeTornWrong)

/-- 'wherrykeep.TapeOn': WHATEVER THE INPUT: true; the input reads as it did. -/
def tapeOnSpec : ChangeSpec := { name := "tapeOn", fn := fun _ => fun
  | [d1, d2, d3] => { results := [.lit (.bool true)], args := [d1, d2, d3] }
  | _ => none }
def tapeOnRow : OpenClaim := { program := "ytdbdhpjjndhjiaadoor", sum := "6c75401107251312365e911fda630d2a593b2b4e72d2b0adc06f66d5fe50dfdd", func := "wherry/wherrykeep.TapeOn", spec := "tapeOn", unfollowed := true, recurses := true, named := ["unicode/utf8.first", "unicode/utf8.acceptRanges"], apart := false, laid := [("unicode/utf8.acceptRanges", laid_unicode_utf8_acceptRanges), ("unicode/utf8.first", laid_unicode_utf8_first)] }
def TapeOnSaid : Prop := tapeOnRow.holds Tryd.pinned (OpenSpec.ofChange tapeOnSpec)

/-- ITS FALSE NEIGHBOUR: 'it returns false'. Refute it at one input. -/
def tapeOnWrong : ChangeSpec := { name := "tapeOn", fn := fun _ => fun
  | [d1, d2, d3] => { results := [.lit (.bool false)], args := [d1, d2, d3] }
  | _ => none }
def TapeOnWrongFalsely : Prop := tapeOnRow.holds Tryd.pinned (OpenSpec.ofChange tapeOnWrong)

/-- 'wherrykeep.TapeKeeps': WHATEVER THE INPUT: true; the input reads as it did. -/
def tapeKeepsSpec : ChangeSpec := { name := "tapeKeeps", fn := fun _ => fun
  | [d1, d2, d3] => { results := [.lit (.bool true)], args := [d1, d2, d3] }
  | _ => none }
def tapeKeepsRow : OpenClaim := { program := "ytdbdhpjjndhjiaadoor", sum := "6c75401107251312365e911fda630d2a593b2b4e72d2b0adc06f66d5fe50dfdd", func := "wherry/wherrykeep.TapeKeeps", spec := "tapeKeeps", unfollowed := true, recurses := true, named := ["unicode/utf8.first", "unicode/utf8.acceptRanges"], apart := false, laid := [("unicode/utf8.acceptRanges", laid_unicode_utf8_acceptRanges), ("unicode/utf8.first", laid_unicode_utf8_first)] }
def TapeKeepsSaid : Prop := tapeKeepsRow.holds Tryd.pinned (OpenSpec.ofChange tapeKeepsSpec)

/-- ITS FALSE NEIGHBOUR: 'it returns false'. Refute it at one input. -/
def tapeKeepsWrong : ChangeSpec := { name := "tapeKeeps", fn := fun _ => fun
  | [d1, d2, d3] => { results := [.lit (.bool false)], args := [d1, d2, d3] }
  | _ => none }
def TapeKeepsWrongFalsely : Prop := tapeKeepsRow.holds Tryd.pinned (OpenSpec.ofChange tapeKeepsWrong)

/-- 'wherrykeep.ReplayMakes': WHATEVER THE INPUT: true; the input reads as it did. -/
def replayMakesSpec : ChangeSpec := { name := "replayMakes", fn := fun _ => fun
  | [d] => { results := [.lit (.bool true)], args := [d] }
  | _ => none }
def replayMakesRow : OpenClaim := { program := "ytdbdhpjjndhjiaadoor", sum := "6c75401107251312365e911fda630d2a593b2b4e72d2b0adc06f66d5fe50dfdd", func := "wherry/wherrykeep.ReplayMakes", spec := "replayMakes", inPlace := ["internal/abi.NoEscape"], unfollowed := true, recurses := true, named := ["unicode/utf8.first", "unicode/utf8.acceptRanges"], apart := false, laid := [("unicode/utf8.acceptRanges", laid_unicode_utf8_acceptRanges), ("unicode/utf8.first", laid_unicode_utf8_first)] }
def ReplayMakesSaid : Prop := replayMakesRow.holds Tryd.pinned (OpenSpec.ofChange replayMakesSpec)

/-- ITS FALSE NEIGHBOUR: 'it returns false'. Refute it at one input. -/
def replayMakesWrong : ChangeSpec := { name := "replayMakes", fn := fun _ => fun
  | [d] => { results := [.lit (.bool false)], args := [d] }
  | _ => none }
def ReplayMakesWrongFalsely : Prop := replayMakesRow.holds Tryd.pinned (OpenSpec.ofChange replayMakesWrong)

/- THE SECOND FORM. 'bulk': how many values and letters a reading holds, each counted each time it is reached (what is shared counts as often as it is met; a slice's spare places count too). A statement '..UptoSaid' is the law's where the arguments, and the package variables that the reading takes, are together of bulk at most 1048576: NARROWER than '..Said'. Prove '..Said' where nothing that the law and all that it calls make is longer than what came in: it says more and counts as full. Else prove '..UptoSaid'. A law counts once. -/
mutual
def uptoBulk {H : Type} : DataW H → Nat
  | .lit (.string bytes) => bytes.length + 1
  | .lit _ => 1
  | .nil => 1
  | .ptr d => uptoBulk d + 1
  | .slice elems spare => uptoBulkAll elems + uptoBulkAll spare + 1
  | .agg parts => uptoBulkAll parts + 1
  | .iface _ d => uptoBulk d + 1
  | .map entries => uptoBulkEntries entries + 1
  | .held _ => 1
def uptoBulkAll {H : Type} : List (DataW H) → Nat
  | [] => 0
  | d :: r => uptoBulk d + uptoBulkAll r
def uptoBulkEntries {H : Type} : List (Lit × DataW H) → Nat
  | [] => 0
  | x :: r => uptoBulkEntry x + uptoBulkEntries r
def uptoBulkEntry {H : Type} : Lit × DataW H → Nat
  | (.string bytes, d) => bytes.length + uptoBulk d + 1
  | (_, d) => uptoBulk d + 1
 end
def uptoSmall : (H : Type) → List (DataW H) → Bool := fun _ ds => decide (uptoBulkAll ds ≤ 1048576)
def OpenSpec.upto (s : _root_.Go.ChangeSpec) : _root_.Go.OpenSpec := { _root_.Go.OpenSpec.ofChange s with cond := some uptoSmall }

/-- 'wherrykeep.TapeLengths', WHERE WHAT IT READS IS OF BULK AT MOST 1048576: true; the input reads as it did. -/
def tapeLengthsUptoRow : OpenClaim := { program := "ytdbdhpjjndhjiaadoor", sum := "6c75401107251312365e911fda630d2a593b2b4e72d2b0adc06f66d5fe50dfdd", func := "wherry/wherrykeep.TapeLengths", spec := "tapeLengths", unfollowed := true, recurses := true, named := ["unicode/utf8.first", "unicode/utf8.acceptRanges"], apart := false, laid := [("unicode/utf8.acceptRanges", laid_unicode_utf8_acceptRanges), ("unicode/utf8.first", laid_unicode_utf8_first)], narrowed := true }
def TapeLengthsUptoSaid : Prop := tapeLengthsUptoRow.holds Tryd.pinned (OpenSpec.upto tapeLengthsSpec)

/-- 'wherrykeep.CrashJust', WHERE WHAT IT READS IS OF BULK AT MOST 1048576: true; the input reads as it did. -/
def crashJustUptoRow : OpenClaim := { program := "ytdbdhpjjndhjiaadoor", sum := "6c75401107251312365e911fda630d2a593b2b4e72d2b0adc06f66d5fe50dfdd", func := "wherry/wherrykeep.CrashJust", spec := "crashJust", unfollowed := true, recurses := true, named := ["unicode/utf8.first", "unicode/utf8.acceptRanges"], apart := false, laid := [("unicode/utf8.acceptRanges", laid_unicode_utf8_acceptRanges), ("unicode/utf8.first", laid_unicode_utf8_first)], narrowed := true }
def CrashJustUptoSaid : Prop := crashJustUptoRow.holds Tryd.pinned (OpenSpec.upto crashJustSpec)

/-- 'wherrykeep.RecordBack', WHERE WHAT IT READS IS OF BULK AT MOST 1048576: true; the input reads as it did. -/
def recordBackUptoRow : OpenClaim := { program := "ytdbdhpjjndhjiaadoor", sum := "6c75401107251312365e911fda630d2a593b2b4e72d2b0adc06f66d5fe50dfdd", func := "wherry/wherrykeep.RecordBack", spec := "recordBack", unfollowed := true, recurses := true, named := ["unicode/utf8.first", "unicode/utf8.acceptRanges"], apart := false, laid := [("unicode/utf8.acceptRanges", laid_unicode_utf8_acceptRanges), ("unicode/utf8.first", laid_unicode_utf8_first)], narrowed := true }
def RecordBackUptoSaid : Prop := recordBackUptoRow.holds Tryd.pinned (OpenSpec.upto recordBackSpec)

/-- 'wherrykeep.NumberForms', WHERE WHAT IT READS IS OF BULK AT MOST 1048576: true; the input reads as it did. -/
def numberFormsUptoRow : OpenClaim := { program := "ytdbdhpjjndhjiaadoor", sum := "6c75401107251312365e911fda630d2a593b2b4e72d2b0adc06f66d5fe50dfdd", func := "wherry/wherrykeep.NumberForms", spec := "numberForms", named := ["unicode/utf8.first", "unicode/utf8.acceptRanges"], apart := false, laid := [("unicode/utf8.acceptRanges", laid_unicode_utf8_acceptRanges), ("unicode/utf8.first", laid_unicode_utf8_first)], narrowed := true }
def NumberFormsUptoSaid : Prop := numberFormsUptoRow.holds Tryd.pinned (OpenSpec.upto numberFormsSpec)

/-- 'wherrykeep.BytesMany', WHERE WHAT IT READS IS OF BULK AT MOST 1048576: true; the input reads as it did. -/
def bytesManyUptoRow : OpenClaim := { program := "ytdbdhpjjndhjiaadoor", sum := "6c75401107251312365e911fda630d2a593b2b4e72d2b0adc06f66d5fe50dfdd", func := "wherry/wherrykeep.BytesMany", spec := "bytesMany", named := ["unicode/utf8.first", "unicode/utf8.acceptRanges"], apart := false, laid := [("unicode/utf8.acceptRanges", laid_unicode_utf8_acceptRanges), ("unicode/utf8.first", laid_unicode_utf8_first)], narrowed := true }
def BytesManyUptoSaid : Prop := bytesManyUptoRow.holds Tryd.pinned (OpenSpec.upto bytesManySpec)

/-- 'wherrykeep.PacketBack', WHERE WHAT IT READS IS OF BULK AT MOST 1048576: true; the input reads as it did. -/
def packetBackUptoRow : OpenClaim := { program := "ytdbdhpjjndhjiaadoor", sum := "6c75401107251312365e911fda630d2a593b2b4e72d2b0adc06f66d5fe50dfdd", func := "wherry/wherrykeep.PacketBack", spec := "packetBack", unfollowed := true, recurses := true, named := ["unicode/utf8.first", "unicode/utf8.acceptRanges"], apart := false, laid := [("unicode/utf8.acceptRanges", laid_unicode_utf8_acceptRanges), ("unicode/utf8.first", laid_unicode_utf8_first)], narrowed := true }
def PacketBackUptoSaid : Prop := packetBackUptoRow.holds Tryd.pinned (OpenSpec.upto packetBackSpec)

/-- 'wherrykeep.PacketFixed', WHERE WHAT IT READS IS OF BULK AT MOST 1048576: true; the input reads as it did. -/
def packetFixedUptoRow : OpenClaim := { program := "ytdbdhpjjndhjiaadoor", sum := "6c75401107251312365e911fda630d2a593b2b4e72d2b0adc06f66d5fe50dfdd", func := "wherry/wherrykeep.PacketFixed", spec := "packetFixed", named := ["unicode/utf8.first", "unicode/utf8.acceptRanges"], apart := false, laid := [("unicode/utf8.acceptRanges", laid_unicode_utf8_acceptRanges), ("unicode/utf8.first", laid_unicode_utf8_first)], narrowed := true }
def PacketFixedUptoSaid : Prop := packetFixedUptoRow.holds Tryd.pinned (OpenSpec.upto packetFixedSpec)

/-- 'wherrykeep.TapeTorn', WHERE WHAT IT READS IS OF BULK AT MOST 1048576: true; the input reads as it did. -/
def tapeTornUptoRow : OpenClaim := { program := "ytdbdhpjjndhjiaadoor", sum := "6c75401107251312365e911fda630d2a593b2b4e72d2b0adc06f66d5fe50dfdd", func := "wherry/wherrykeep.TapeTorn", spec := "tapeTorn", unfollowed := true, recurses := true, named := ["unicode/utf8.first", "unicode/utf8.acceptRanges"], apart := false, laid := [("unicode/utf8.acceptRanges", laid_unicode_utf8_acceptRanges), ("unicode/utf8.first", laid_unicode_utf8_first)], narrowed := true }
def TapeTornUptoSaid : Prop := tapeTornUptoRow.holds Tryd.pinned (OpenSpec.upto tapeTornSpec)

/-- 'wherrykeep.TapeOn', WHERE WHAT IT READS IS OF BULK AT MOST 1048576: true; the input reads as it did. -/
def tapeOnUptoRow : OpenClaim := { program := "ytdbdhpjjndhjiaadoor", sum := "6c75401107251312365e911fda630d2a593b2b4e72d2b0adc06f66d5fe50dfdd", func := "wherry/wherrykeep.TapeOn", spec := "tapeOn", unfollowed := true, recurses := true, named := ["unicode/utf8.first", "unicode/utf8.acceptRanges"], apart := false, laid := [("unicode/utf8.acceptRanges", laid_unicode_utf8_acceptRanges), ("unicode/utf8.first", laid_unicode_utf8_first)], narrowed := true }
def TapeOnUptoSaid : Prop := tapeOnUptoRow.holds Tryd.pinned (OpenSpec.upto tapeOnSpec)

/-- 'wherrykeep.TapeKeeps', WHERE WHAT IT READS IS OF BULK AT MOST 1048576: true; the input reads as it did. -/
def tapeKeepsUptoRow : OpenClaim := { program := "ytdbdhpjjndhjiaadoor", sum := "6c75401107251312365e911fda630d2a593b2b4e72d2b0adc06f66d5fe50dfdd", func := "wherry/wherrykeep.TapeKeeps", spec := "tapeKeeps", unfollowed := true, recurses := true, named := ["unicode/utf8.first", "unicode/utf8.acceptRanges"], apart := false, laid := [("unicode/utf8.acceptRanges", laid_unicode_utf8_acceptRanges), ("unicode/utf8.first", laid_unicode_utf8_first)], narrowed := true }
def TapeKeepsUptoSaid : Prop := tapeKeepsUptoRow.holds Tryd.pinned (OpenSpec.upto tapeKeepsSpec)

/-- 'wherrykeep.ReplayMakes', WHERE WHAT IT READS IS OF BULK AT MOST 1048576: true; the input reads as it did. -/
def replayMakesUptoRow : OpenClaim := { program := "ytdbdhpjjndhjiaadoor", sum := "6c75401107251312365e911fda630d2a593b2b4e72d2b0adc06f66d5fe50dfdd", func := "wherry/wherrykeep.ReplayMakes", spec := "replayMakes", inPlace := ["internal/abi.NoEscape"], unfollowed := true, recurses := true, named := ["unicode/utf8.first", "unicode/utf8.acceptRanges"], apart := false, laid := [("unicode/utf8.acceptRanges", laid_unicode_utf8_acceptRanges), ("unicode/utf8.first", laid_unicode_utf8_first)], narrowed := true }
def ReplayMakesUptoSaid : Prop := replayMakesUptoRow.holds Tryd.pinned (OpenSpec.upto replayMakesSpec)

end Rows
end Go.Proofs.YtdbdhpjjndhjiaaDoor
