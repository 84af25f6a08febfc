/-
  DERIVED. GIVEN WITH THE SEED: THE CARDS: each row of YtkbfhgcjimfgkaaDoorRows.lean that lists a variable, with what it lists TIED to the program's text (the seventh form; the later family's looks); each row that meets fmt, with fmt's text TOLD by the authors' own Lean function (tested against real Go, not proved from fmt's source: count such statements apart). THE CARD IS WHAT COUNTS. Prove the row's statement (the work); the ties are given (YtkbfhgcjimfgkaaDoorTie.lean); close each card by the builder's one call (the guide's Derived/Test/ToyasCard.lean, 'card_holds'). Laid BY PROGRAM, IN A SANDBOX (cutbox-door.mjs). By AI agents, Wed Nov 11 2026. No macro, syntax, notation, axiom, sorry.
-/
import Derived.Test.YtkbfhgcjimfgkaaDoorRows
import GoSem.ClaimSeven
namespace Go.Proofs.YtkbfhgcjimfgkaaDoor
namespace Rows

/-- THE TIED CARD OF 'wherrykeep.BeginBad'. -/
def beginBadCard : Claim7 := { stood := { row := beginBadRow, standIns := [], harness := (true, "20247bbf363efd25fb6046ab7694b176b304a089bc4b651bfe8188ba9fcd05f0"), looks := false }, kinds := [], alts := [], laidByText := true, laidKinds := [.data, .pinned], laidTests := true, laidLooks := .later }
def BeginBadCardSaid : Prop := Claim7.holds Tryd.pinned (.plain (OpenSpec.ofChange beginBadSpec)) beginBadCard

/-- THE TIED CARD OF 'wherrykeep.BeginJoins'. -/
def beginJoinsCard : Claim7 := { stood := { row := beginJoinsRow, standIns := [], harness := (true, "20247bbf363efd25fb6046ab7694b176b304a089bc4b651bfe8188ba9fcd05f0"), looks := false }, kinds := [], alts := [], laidByText := true, laidKinds := [.data, .pinned], laidTests := true, laidLooks := .later }
def BeginJoinsCardSaid : Prop := Claim7.holds Tryd.pinned (.plain (OpenSpec.ofChange beginJoinsSpec)) beginJoinsCard

/-- THE TIED CARD OF 'wherrykeep.EditFull'. -/
def editFullCard : Claim7 := { stood := { row := editFullRow, standIns := [], harness := (true, "20247bbf363efd25fb6046ab7694b176b304a089bc4b651bfe8188ba9fcd05f0"), looks := false }, kinds := [], alts := [], laidByText := true, laidKinds := [.data, .pinned], laidTests := true, laidLooks := .later }
def EditFullCardSaid : Prop := Claim7.holds Tryd.pinned (.plain (OpenSpec.ofChange editFullSpec)) editFullCard

/-- THE TIED CARD OF 'wherrykeep.SelectBounds'. -/
def selectBoundsCard : Claim7 := { stood := { row := selectBoundsRow, standIns := [], harness := (true, "20247bbf363efd25fb6046ab7694b176b304a089bc4b651bfe8188ba9fcd05f0"), looks := false }, kinds := [], alts := [], laidByText := true, laidKinds := [.data, .pinned], laidTests := true, laidLooks := .later }
def SelectBoundsCardSaid : Prop := Claim7.holds Tryd.pinned (.plain (OpenSpec.ofChange selectBoundsSpec)) selectBoundsCard

/-- THE TIED CARD OF 'wherrykeep.UndoNone'. -/
def undoNoneCard : Claim7 := { stood := { row := undoNoneRow, standIns := [], harness := (true, "20247bbf363efd25fb6046ab7694b176b304a089bc4b651bfe8188ba9fcd05f0"), looks := false }, kinds := [], alts := [], laidByText := true, laidKinds := [.data, .pinned], laidTests := true, laidLooks := .later }
def UndoNoneCardSaid : Prop := Claim7.holds Tryd.pinned (.plain (OpenSpec.ofChange undoNoneSpec)) undoNoneCard

/-- THE TIED CARD OF 'wherrykeep.JoinWhole'. -/
def joinWholeCard : Claim7 := { stood := { row := joinWholeRow, standIns := [], harness := (true, "20247bbf363efd25fb6046ab7694b176b304a089bc4b651bfe8188ba9fcd05f0"), looks := false }, kinds := [], alts := [], laidByText := true, laidKinds := [.data, .pinned], laidTests := true, laidLooks := .later }
def JoinWholeCardSaid : Prop := Claim7.holds Tryd.pinned (.plain (OpenSpec.ofChange joinWholeSpec)) joinWholeCard

/-- THE TIED CARD OF 'wherrykeep.JoinFirst'. -/
def joinFirstCard : Claim7 := { stood := { row := joinFirstRow, standIns := [], harness := (true, "20247bbf363efd25fb6046ab7694b176b304a089bc4b651bfe8188ba9fcd05f0"), looks := false }, kinds := [], alts := [], laidByText := true, laidKinds := [.data, .pinned], laidTests := true, laidLooks := .later }
def JoinFirstCardSaid : Prop := Claim7.holds Tryd.pinned (.plain (OpenSpec.ofChange joinFirstSpec)) joinFirstCard

/-- THE SECOND FORM's CARD OF 'wherrykeep.BeginBad'. -/
def beginBadUptoCard : Claim7 := { stood := { row := beginBadUptoRow, standIns := [], harness := (true, "20247bbf363efd25fb6046ab7694b176b304a089bc4b651bfe8188ba9fcd05f0"), looks := false }, kinds := [], alts := [], laidByText := true, laidKinds := [.data, .pinned], laidTests := true, laidLooks := .later }
def BeginBadUptoCardSaid : Prop := Claim7.holds Tryd.pinned (.plain (OpenSpec.upto beginBadSpec)) beginBadUptoCard

/-- THE SECOND FORM's CARD OF 'wherrykeep.BeginJoins'. -/
def beginJoinsUptoCard : Claim7 := { stood := { row := beginJoinsUptoRow, standIns := [], harness := (true, "20247bbf363efd25fb6046ab7694b176b304a089bc4b651bfe8188ba9fcd05f0"), looks := false }, kinds := [], alts := [], laidByText := true, laidKinds := [.data, .pinned], laidTests := true, laidLooks := .later }
def BeginJoinsUptoCardSaid : Prop := Claim7.holds Tryd.pinned (.plain (OpenSpec.upto beginJoinsSpec)) beginJoinsUptoCard

/-- THE SECOND FORM's CARD OF 'wherrykeep.EditFull'. -/
def editFullUptoCard : Claim7 := { stood := { row := editFullUptoRow, standIns := [], harness := (true, "20247bbf363efd25fb6046ab7694b176b304a089bc4b651bfe8188ba9fcd05f0"), looks := false }, kinds := [], alts := [], laidByText := true, laidKinds := [.data, .pinned], laidTests := true, laidLooks := .later }
def EditFullUptoCardSaid : Prop := Claim7.holds Tryd.pinned (.plain (OpenSpec.upto editFullSpec)) editFullUptoCard

/-- THE SECOND FORM's CARD OF 'wherrykeep.SelectBounds'. -/
def selectBoundsUptoCard : Claim7 := { stood := { row := selectBoundsUptoRow, standIns := [], harness := (true, "20247bbf363efd25fb6046ab7694b176b304a089bc4b651bfe8188ba9fcd05f0"), looks := false }, kinds := [], alts := [], laidByText := true, laidKinds := [.data, .pinned], laidTests := true, laidLooks := .later }
def SelectBoundsUptoCardSaid : Prop := Claim7.holds Tryd.pinned (.plain (OpenSpec.upto selectBoundsSpec)) selectBoundsUptoCard

/-- THE SECOND FORM's CARD OF 'wherrykeep.UndoNone'. -/
def undoNoneUptoCard : Claim7 := { stood := { row := undoNoneUptoRow, standIns := [], harness := (true, "20247bbf363efd25fb6046ab7694b176b304a089bc4b651bfe8188ba9fcd05f0"), looks := false }, kinds := [], alts := [], laidByText := true, laidKinds := [.data, .pinned], laidTests := true, laidLooks := .later }
def UndoNoneUptoCardSaid : Prop := Claim7.holds Tryd.pinned (.plain (OpenSpec.upto undoNoneSpec)) undoNoneUptoCard

/-- THE SECOND FORM's CARD OF 'wherrykeep.JoinWhole'. -/
def joinWholeUptoCard : Claim7 := { stood := { row := joinWholeUptoRow, standIns := [], harness := (true, "20247bbf363efd25fb6046ab7694b176b304a089bc4b651bfe8188ba9fcd05f0"), looks := false }, kinds := [], alts := [], laidByText := true, laidKinds := [.data, .pinned], laidTests := true, laidLooks := .later }
def JoinWholeUptoCardSaid : Prop := Claim7.holds Tryd.pinned (.plain (OpenSpec.upto joinWholeSpec)) joinWholeUptoCard

/-- THE SECOND FORM's CARD OF 'wherrykeep.JoinFirst'. -/
def joinFirstUptoCard : Claim7 := { stood := { row := joinFirstUptoRow, standIns := [], harness := (true, "20247bbf363efd25fb6046ab7694b176b304a089bc4b651bfe8188ba9fcd05f0"), looks := false }, kinds := [], alts := [], laidByText := true, laidKinds := [.data, .pinned], laidTests := true, laidLooks := .later }
def JoinFirstUptoCardSaid : Prop := Claim7.holds Tryd.pinned (.plain (OpenSpec.upto joinFirstSpec)) joinFirstUptoCard
end Rows
end Go.Proofs.YtkbfhgcjimfgkaaDoor
