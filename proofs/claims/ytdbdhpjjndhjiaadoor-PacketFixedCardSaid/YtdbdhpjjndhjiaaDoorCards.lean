/-
  DERIVED. GIVEN WITH THE SEED: THE CARDS: each row of YtdbdhpjjndhjiaaDoorRows.lean that lists a variable, with what it lists TIED to the program's text (the seventh form; the later family's looks); each row that meets fmt, with fmt's text TOLD by the authors' own Lean function (tested against real Go, not proved from fmt's source: count such statements apart). THE CARD IS WHAT COUNTS. Prove the row's statement (the work); the ties are given (YtdbdhpjjndhjiaaDoorTie.lean); close each card by the builder's one call (the guide's Derived/Test/ToyasCard.lean, 'card_holds'). Laid BY PROGRAM, IN A SANDBOX (cutbox-door.mjs). By AI agents, Wed Nov 11 2026. No macro, syntax, notation, axiom, sorry.
-/
import Derived.Test.YtdbdhpjjndhjiaaDoorRows
import GoSem.ClaimSeven
namespace Go.Proofs.YtdbdhpjjndhjiaaDoor
namespace Rows

/-- THE TIED CARD OF 'wherrykeep.TapeLengths'. -/
def tapeLengthsCard : Claim7 := { stood := { row := tapeLengthsRow, standIns := [], harness := (true, "f9aecb18786b7f21e09594f7c7091378035b7a652dab1a3daf44b78bb23c60fe"), looks := false }, kinds := [], alts := [], laidByText := true, laidKinds := [.data, .pinned], laidTests := true, laidLooks := .later }
def TapeLengthsCardSaid : Prop := Claim7.holds Tryd.pinned (.plain (OpenSpec.ofChange tapeLengthsSpec)) tapeLengthsCard

/-- THE TIED CARD OF 'wherrykeep.CrashJust'. -/
def crashJustCard : Claim7 := { stood := { row := crashJustRow, standIns := [], harness := (true, "f9aecb18786b7f21e09594f7c7091378035b7a652dab1a3daf44b78bb23c60fe"), looks := false }, kinds := [], alts := [], laidByText := true, laidKinds := [.data, .pinned], laidTests := true, laidLooks := .later }
def CrashJustCardSaid : Prop := Claim7.holds Tryd.pinned (.plain (OpenSpec.ofChange crashJustSpec)) crashJustCard

/-- THE TIED CARD OF 'wherrykeep.RecordBack'. -/
def recordBackCard : Claim7 := { stood := { row := recordBackRow, standIns := [], harness := (true, "f9aecb18786b7f21e09594f7c7091378035b7a652dab1a3daf44b78bb23c60fe"), looks := false }, kinds := [], alts := [], laidByText := true, laidKinds := [.data, .pinned], laidTests := true, laidLooks := .later }
def RecordBackCardSaid : Prop := Claim7.holds Tryd.pinned (.plain (OpenSpec.ofChange recordBackSpec)) recordBackCard

/-- THE TIED CARD OF 'wherrykeep.NumberForms'. -/
def numberFormsCard : Claim7 := { stood := { row := numberFormsRow, standIns := [], harness := (true, "f9aecb18786b7f21e09594f7c7091378035b7a652dab1a3daf44b78bb23c60fe"), looks := false }, kinds := [], alts := [], laidByText := true, laidKinds := [.data, .pinned], laidTests := true, laidLooks := .later }
def NumberFormsCardSaid : Prop := Claim7.holds Tryd.pinned (.plain (OpenSpec.ofChange numberFormsSpec)) numberFormsCard

/-- THE TIED CARD OF 'wherrykeep.BytesMany'. -/
def bytesManyCard : Claim7 := { stood := { row := bytesManyRow, standIns := [], harness := (true, "f9aecb18786b7f21e09594f7c7091378035b7a652dab1a3daf44b78bb23c60fe"), looks := false }, kinds := [], alts := [], laidByText := true, laidKinds := [.data, .pinned], laidTests := true, laidLooks := .later }
def BytesManyCardSaid : Prop := Claim7.holds Tryd.pinned (.plain (OpenSpec.ofChange bytesManySpec)) bytesManyCard

/-- THE TIED CARD OF 'wherrykeep.PacketBack'. -/
def packetBackCard : Claim7 := { stood := { row := packetBackRow, standIns := [], harness := (true, "f9aecb18786b7f21e09594f7c7091378035b7a652dab1a3daf44b78bb23c60fe"), looks := false }, kinds := [], alts := [], laidByText := true, laidKinds := [.data, .pinned], laidTests := true, laidLooks := .later }
def PacketBackCardSaid : Prop := Claim7.holds Tryd.pinned (.plain (OpenSpec.ofChange packetBackSpec)) packetBackCard

/-- THE TIED CARD OF 'wherrykeep.PacketFixed'. -/
def packetFixedCard : Claim7 := { stood := { row := packetFixedRow, standIns := [], harness := (true, "f9aecb18786b7f21e09594f7c7091378035b7a652dab1a3daf44b78bb23c60fe"), looks := false }, kinds := [], alts := [], laidByText := true, laidKinds := [.data, .pinned], laidTests := true, laidLooks := .later }
def PacketFixedCardSaid : Prop := Claim7.holds Tryd.pinned (.plain (OpenSpec.ofChange packetFixedSpec)) packetFixedCard

/-- THE TIED CARD OF 'wherrykeep.TapeTorn'. -/
def tapeTornCard : Claim7 := { stood := { row := tapeTornRow, standIns := [], harness := (true, "f9aecb18786b7f21e09594f7c7091378035b7a652dab1a3daf44b78bb23c60fe"), looks := false }, kinds := [], alts := [], laidByText := true, laidKinds := [.data, .pinned], laidTests := true, laidLooks := .later }
def TapeTornCardSaid : Prop := Claim7.holds Tryd.pinned (.plain (OpenSpec.ofChange tapeTornSpec)) tapeTornCard

/-- THE TIED CARD OF 'wherrykeep.TapeOn'. -/
def tapeOnCard : Claim7 := { stood := { row := tapeOnRow, standIns := [], harness := (true, "f9aecb18786b7f21e09594f7c7091378035b7a652dab1a3daf44b78bb23c60fe"), looks := false }, kinds := [], alts := [], laidByText := true, laidKinds := [.data, .pinned], laidTests := true, laidLooks := .later }
def TapeOnCardSaid : Prop := Claim7.holds Tryd.pinned (.plain (OpenSpec.ofChange tapeOnSpec)) tapeOnCard

/-- THE TIED CARD OF 'wherrykeep.TapeKeeps'. -/
def tapeKeepsCard : Claim7 := { stood := { row := tapeKeepsRow, standIns := [], harness := (true, "f9aecb18786b7f21e09594f7c7091378035b7a652dab1a3daf44b78bb23c60fe"), looks := false }, kinds := [], alts := [], laidByText := true, laidKinds := [.data, .pinned], laidTests := true, laidLooks := .later }
def TapeKeepsCardSaid : Prop := Claim7.holds Tryd.pinned (.plain (OpenSpec.ofChange tapeKeepsSpec)) tapeKeepsCard

/-- THE TIED CARD OF 'wherrykeep.ReplayMakes'. -/
def replayMakesCard : Claim7 := { stood := { row := replayMakesRow, standIns := [], harness := (true, "f9aecb18786b7f21e09594f7c7091378035b7a652dab1a3daf44b78bb23c60fe"), looks := false }, kinds := [], alts := [], laidByText := true, laidKinds := [.data, .pinned], laidTests := true, laidLooks := .later }
def ReplayMakesCardSaid : Prop := Claim7.holds Tryd.pinned (.plain (OpenSpec.ofChange replayMakesSpec)) replayMakesCard

/-- THE SECOND FORM's CARD OF 'wherrykeep.TapeLengths'. -/
def tapeLengthsUptoCard : Claim7 := { stood := { row := tapeLengthsUptoRow, standIns := [], harness := (true, "f9aecb18786b7f21e09594f7c7091378035b7a652dab1a3daf44b78bb23c60fe"), looks := false }, kinds := [], alts := [], laidByText := true, laidKinds := [.data, .pinned], laidTests := true, laidLooks := .later }
def TapeLengthsUptoCardSaid : Prop := Claim7.holds Tryd.pinned (.plain (OpenSpec.upto tapeLengthsSpec)) tapeLengthsUptoCard

/-- THE SECOND FORM's CARD OF 'wherrykeep.CrashJust'. -/
def crashJustUptoCard : Claim7 := { stood := { row := crashJustUptoRow, standIns := [], harness := (true, "f9aecb18786b7f21e09594f7c7091378035b7a652dab1a3daf44b78bb23c60fe"), looks := false }, kinds := [], alts := [], laidByText := true, laidKinds := [.data, .pinned], laidTests := true, laidLooks := .later }
def CrashJustUptoCardSaid : Prop := Claim7.holds Tryd.pinned (.plain (OpenSpec.upto crashJustSpec)) crashJustUptoCard

/-- THE SECOND FORM's CARD OF 'wherrykeep.RecordBack'. -/
def recordBackUptoCard : Claim7 := { stood := { row := recordBackUptoRow, standIns := [], harness := (true, "f9aecb18786b7f21e09594f7c7091378035b7a652dab1a3daf44b78bb23c60fe"), looks := false }, kinds := [], alts := [], laidByText := true, laidKinds := [.data, .pinned], laidTests := true, laidLooks := .later }
def RecordBackUptoCardSaid : Prop := Claim7.holds Tryd.pinned (.plain (OpenSpec.upto recordBackSpec)) recordBackUptoCard

/-- THE SECOND FORM's CARD OF 'wherrykeep.NumberForms'. -/
def numberFormsUptoCard : Claim7 := { stood := { row := numberFormsUptoRow, standIns := [], harness := (true, "f9aecb18786b7f21e09594f7c7091378035b7a652dab1a3daf44b78bb23c60fe"), looks := false }, kinds := [], alts := [], laidByText := true, laidKinds := [.data, .pinned], laidTests := true, laidLooks := .later }
def NumberFormsUptoCardSaid : Prop := Claim7.holds Tryd.pinned (.plain (OpenSpec.upto numberFormsSpec)) numberFormsUptoCard

/-- THE SECOND FORM's CARD OF 'wherrykeep.BytesMany'. -/
def bytesManyUptoCard : Claim7 := { stood := { row := bytesManyUptoRow, standIns := [], harness := (true, "f9aecb18786b7f21e09594f7c7091378035b7a652dab1a3daf44b78bb23c60fe"), looks := false }, kinds := [], alts := [], laidByText := true, laidKinds := [.data, .pinned], laidTests := true, laidLooks := .later }
def BytesManyUptoCardSaid : Prop := Claim7.holds Tryd.pinned (.plain (OpenSpec.upto bytesManySpec)) bytesManyUptoCard

/-- THE SECOND FORM's CARD OF 'wherrykeep.PacketBack'. -/
def packetBackUptoCard : Claim7 := { stood := { row := packetBackUptoRow, standIns := [], harness := (true, "f9aecb18786b7f21e09594f7c7091378035b7a652dab1a3daf44b78bb23c60fe"), looks := false }, kinds := [], alts := [], laidByText := true, laidKinds := [.data, .pinned], laidTests := true, laidLooks := .later }
def PacketBackUptoCardSaid : Prop := Claim7.holds Tryd.pinned (.plain (OpenSpec.upto packetBackSpec)) packetBackUptoCard

/-- THE SECOND FORM's CARD OF 'wherrykeep.PacketFixed'. -/
def packetFixedUptoCard : Claim7 := { stood := { row := packetFixedUptoRow, standIns := [], harness := (true, "f9aecb18786b7f21e09594f7c7091378035b7a652dab1a3daf44b78bb23c60fe"), looks := false }, kinds := [], alts := [], laidByText := true, laidKinds := [.data, .pinned], laidTests := true, laidLooks := .later }
def PacketFixedUptoCardSaid : Prop := Claim7.holds Tryd.pinned (.plain (OpenSpec.upto packetFixedSpec)) packetFixedUptoCard

/-- THE SECOND FORM's CARD OF 'wherrykeep.TapeTorn'. -/
def tapeTornUptoCard : Claim7 := { stood := { row := tapeTornUptoRow, standIns := [], harness := (true, "f9aecb18786b7f21e09594f7c7091378035b7a652dab1a3daf44b78bb23c60fe"), looks := false }, kinds := [], alts := [], laidByText := true, laidKinds := [.data, .pinned], laidTests := true, laidLooks := .later }
def TapeTornUptoCardSaid : Prop := Claim7.holds Tryd.pinned (.plain (OpenSpec.upto tapeTornSpec)) tapeTornUptoCard

/-- THE SECOND FORM's CARD OF 'wherrykeep.TapeOn'. -/
def tapeOnUptoCard : Claim7 := { stood := { row := tapeOnUptoRow, standIns := [], harness := (true, "f9aecb18786b7f21e09594f7c7091378035b7a652dab1a3daf44b78bb23c60fe"), looks := false }, kinds := [], alts := [], laidByText := true, laidKinds := [.data, .pinned], laidTests := true, laidLooks := .later }
def TapeOnUptoCardSaid : Prop := Claim7.holds Tryd.pinned (.plain (OpenSpec.upto tapeOnSpec)) tapeOnUptoCard

/-- THE SECOND FORM's CARD OF 'wherrykeep.TapeKeeps'. -/
def tapeKeepsUptoCard : Claim7 := { stood := { row := tapeKeepsUptoRow, standIns := [], harness := (true, "f9aecb18786b7f21e09594f7c7091378035b7a652dab1a3daf44b78bb23c60fe"), looks := false }, kinds := [], alts := [], laidByText := true, laidKinds := [.data, .pinned], laidTests := true, laidLooks := .later }
def TapeKeepsUptoCardSaid : Prop := Claim7.holds Tryd.pinned (.plain (OpenSpec.upto tapeKeepsSpec)) tapeKeepsUptoCard

/-- THE SECOND FORM's CARD OF 'wherrykeep.ReplayMakes'. -/
def replayMakesUptoCard : Claim7 := { stood := { row := replayMakesUptoRow, standIns := [], harness := (true, "f9aecb18786b7f21e09594f7c7091378035b7a652dab1a3daf44b78bb23c60fe"), looks := false }, kinds := [], alts := [], laidByText := true, laidKinds := [.data, .pinned], laidTests := true, laidLooks := .later }
def ReplayMakesUptoCardSaid : Prop := Claim7.holds Tryd.pinned (.plain (OpenSpec.upto replayMakesSpec)) replayMakesUptoCard
end Rows
end Go.Proofs.YtdbdhpjjndhjiaaDoor
