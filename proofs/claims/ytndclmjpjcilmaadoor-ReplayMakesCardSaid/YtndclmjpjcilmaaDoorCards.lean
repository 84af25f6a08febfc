/-
  DERIVED. GIVEN WITH THE SEED: THE CARDS: each row of YtndclmjpjcilmaaDoorRows.lean that lists a variable, with what it lists TIED to the program's text (the seventh form; the later family's looks); each row that meets fmt, with fmt's text TOLD by the authors' own Lean function (tested against real Go, not proved from fmt's source: count such statements apart). THE CARD IS WHAT COUNTS. Prove the row's statement (the work); the ties are given (YtndclmjpjcilmaaDoorTie.lean); close each card by the builder's one call (the guide's Derived/Test/ToyasCard.lean, 'card_holds'). Laid BY PROGRAM, IN A SANDBOX (cutbox-door.mjs). By AI agents, Wed Nov 11 2026. No macro, syntax, notation, axiom, sorry.
-/
import Derived.Test.YtndclmjpjcilmaaDoorRows
import GoSem.ClaimSeven
namespace Go.Proofs.YtndclmjpjcilmaaDoor
namespace Rows

/-- THE TIED CARD OF 'wherrykeep.TextLong'. -/
def textLongCard : Claim7 := { stood := { row := textLongRow, standIns := [], harness := (true, "c329883f0abe95630a0b142fb2e70a9422b2dfd77493fd7b044aa858dd3e5578"), looks := false }, kinds := [], alts := [], laidByText := true, laidKinds := [.data, .pinned], laidTests := true, laidLooks := .later }
def TextLongCardSaid : Prop := Claim7.holds Tryd.pinned (.plain (OpenSpec.ofChange textLongSpec)) textLongCard

/-- THE TIED CARD OF 'wherrykeep.OpBad'. -/
def opBadCard : Claim7 := { stood := { row := opBadRow, standIns := [], harness := (true, "c329883f0abe95630a0b142fb2e70a9422b2dfd77493fd7b044aa858dd3e5578"), looks := false }, kinds := [], alts := [], laidByText := true, laidKinds := [.data, .pinned], laidTests := true, laidLooks := .later }
def OpBadCardSaid : Prop := Claim7.holds Tryd.pinned (.plain (OpenSpec.ofChange opBadSpec)) opBadCard

/-- THE TIED CARD OF 'wherrykeep.EdgeBad'. -/
def edgeBadCard : Claim7 := { stood := { row := edgeBadRow, standIns := [], harness := (true, "c329883f0abe95630a0b142fb2e70a9422b2dfd77493fd7b044aa858dd3e5578"), looks := false }, kinds := [], alts := [], laidByText := true, laidKinds := [.data, .pinned], laidTests := true, laidLooks := .later }
def EdgeBadCardSaid : Prop := Claim7.holds Tryd.pinned (.plain (OpenSpec.ofChange edgeBadSpec)) edgeBadCard

/-- THE TIED CARD OF 'wherrykeep.FrameBare'. -/
def frameBareCard : Claim7 := { stood := { row := frameBareRow, standIns := [], harness := (true, "c329883f0abe95630a0b142fb2e70a9422b2dfd77493fd7b044aa858dd3e5578"), looks := false }, kinds := [], alts := [], laidByText := true, laidKinds := [.data, .pinned], laidTests := true, laidLooks := .later }
def FrameBareCardSaid : Prop := Claim7.holds Tryd.pinned (.plain (OpenSpec.ofChange frameBareSpec)) frameBareCard

/-- THE TIED CARD OF 'wherrykeep.MoveOrder'. -/
def moveOrderCard : Claim7 := { stood := { row := moveOrderRow, standIns := [], harness := (true, "c329883f0abe95630a0b142fb2e70a9422b2dfd77493fd7b044aa858dd3e5578"), looks := false }, kinds := [], alts := [], laidByText := true, laidKinds := [.data, .pinned], laidTests := true, laidLooks := .later }
def MoveOrderCardSaid : Prop := Claim7.holds Tryd.pinned (.plain (OpenSpec.ofChange moveOrderSpec)) moveOrderCard

/-- THE TIED CARD OF 'wherrykeep.OpGood'. -/
def opGoodCard : Claim7 := { stood := { row := opGoodRow, standIns := [], harness := (true, "c329883f0abe95630a0b142fb2e70a9422b2dfd77493fd7b044aa858dd3e5578"), looks := false }, kinds := [], alts := [], laidByText := true, laidKinds := [.data, .pinned], laidTests := true, laidLooks := .later }
def OpGoodCardSaid : Prop := Claim7.holds Tryd.pinned (.plain (OpenSpec.ofChange opGoodSpec)) opGoodCard

/-- THE TIED CARD OF 'wherrykeep.EdgeFits'. -/
def edgeFitsCard : Claim7 := { stood := { row := edgeFitsRow, standIns := [], harness := (true, "c329883f0abe95630a0b142fb2e70a9422b2dfd77493fd7b044aa858dd3e5578"), looks := false }, kinds := [], alts := [], laidByText := true, laidKinds := [.data, .pinned], laidTests := true, laidLooks := .later }
def EdgeFitsCardSaid : Prop := Claim7.holds Tryd.pinned (.plain (OpenSpec.ofChange edgeFitsSpec)) edgeFitsCard

/-- THE TIED CARD OF 'wherrykeep.ReplayMakes'. -/
def replayMakesCard : Claim7 := { stood := { row := replayMakesRow, standIns := [], harness := (true, "c329883f0abe95630a0b142fb2e70a9422b2dfd77493fd7b044aa858dd3e5578"), looks := false }, kinds := [], alts := [], laidByText := true, laidKinds := [.data, .pinned], laidTests := true, laidLooks := .later }
def ReplayMakesCardSaid : Prop := Claim7.holds Tryd.pinned (.plain (OpenSpec.ofChange replayMakesSpec)) replayMakesCard

/-- THE TIED CARD OF 'wherrykeep.MoveRest'. -/
def moveRestCard : Claim7 := { stood := { row := moveRestRow, standIns := [], harness := (true, "c329883f0abe95630a0b142fb2e70a9422b2dfd77493fd7b044aa858dd3e5578"), looks := false }, kinds := [], alts := [], laidByText := true, laidKinds := [.data, .pinned], laidTests := true, laidLooks := .later }
def MoveRestCardSaid : Prop := Claim7.holds Tryd.pinned (.plain (OpenSpec.ofChange moveRestSpec)) moveRestCard

/-- THE TIED CARD OF 'wherrykeep.WholeMakes'. -/
def wholeMakesCard : Claim7 := { stood := { row := wholeMakesRow, standIns := [], harness := (true, "c329883f0abe95630a0b142fb2e70a9422b2dfd77493fd7b044aa858dd3e5578"), looks := false }, kinds := [], alts := [], laidByText := true, laidKinds := [.data, .pinned], laidTests := true, laidLooks := .later }
def WholeMakesCardSaid : Prop := Claim7.holds Tryd.pinned (.plain (OpenSpec.ofChange wholeMakesSpec)) wholeMakesCard

/-- THE TIED CARD OF 'wherrykeep.TapeLengths'. -/
def tapeLengthsCard : Claim7 := { stood := { row := tapeLengthsRow, standIns := [], harness := (true, "c329883f0abe95630a0b142fb2e70a9422b2dfd77493fd7b044aa858dd3e5578"), looks := false }, kinds := [], alts := [], laidByText := true, laidKinds := [.data, .pinned], laidTests := true, laidLooks := .later }
def TapeLengthsCardSaid : Prop := Claim7.holds Tryd.pinned (.plain (OpenSpec.ofChange tapeLengthsSpec)) tapeLengthsCard

/-- THE SECOND FORM's CARD OF 'wherrykeep.TextLong'. -/
def textLongUptoCard : Claim7 := { stood := { row := textLongUptoRow, standIns := [], harness := (true, "c329883f0abe95630a0b142fb2e70a9422b2dfd77493fd7b044aa858dd3e5578"), looks := false }, kinds := [], alts := [], laidByText := true, laidKinds := [.data, .pinned], laidTests := true, laidLooks := .later }
def TextLongUptoCardSaid : Prop := Claim7.holds Tryd.pinned (.plain (OpenSpec.upto textLongSpec)) textLongUptoCard

/-- THE SECOND FORM's CARD OF 'wherrykeep.OpBad'. -/
def opBadUptoCard : Claim7 := { stood := { row := opBadUptoRow, standIns := [], harness := (true, "c329883f0abe95630a0b142fb2e70a9422b2dfd77493fd7b044aa858dd3e5578"), looks := false }, kinds := [], alts := [], laidByText := true, laidKinds := [.data, .pinned], laidTests := true, laidLooks := .later }
def OpBadUptoCardSaid : Prop := Claim7.holds Tryd.pinned (.plain (OpenSpec.upto opBadSpec)) opBadUptoCard

/-- THE SECOND FORM's CARD OF 'wherrykeep.EdgeBad'. -/
def edgeBadUptoCard : Claim7 := { stood := { row := edgeBadUptoRow, standIns := [], harness := (true, "c329883f0abe95630a0b142fb2e70a9422b2dfd77493fd7b044aa858dd3e5578"), looks := false }, kinds := [], alts := [], laidByText := true, laidKinds := [.data, .pinned], laidTests := true, laidLooks := .later }
def EdgeBadUptoCardSaid : Prop := Claim7.holds Tryd.pinned (.plain (OpenSpec.upto edgeBadSpec)) edgeBadUptoCard

/-- THE SECOND FORM's CARD OF 'wherrykeep.FrameBare'. -/
def frameBareUptoCard : Claim7 := { stood := { row := frameBareUptoRow, standIns := [], harness := (true, "c329883f0abe95630a0b142fb2e70a9422b2dfd77493fd7b044aa858dd3e5578"), looks := false }, kinds := [], alts := [], laidByText := true, laidKinds := [.data, .pinned], laidTests := true, laidLooks := .later }
def FrameBareUptoCardSaid : Prop := Claim7.holds Tryd.pinned (.plain (OpenSpec.upto frameBareSpec)) frameBareUptoCard

/-- THE SECOND FORM's CARD OF 'wherrykeep.MoveOrder'. -/
def moveOrderUptoCard : Claim7 := { stood := { row := moveOrderUptoRow, standIns := [], harness := (true, "c329883f0abe95630a0b142fb2e70a9422b2dfd77493fd7b044aa858dd3e5578"), looks := false }, kinds := [], alts := [], laidByText := true, laidKinds := [.data, .pinned], laidTests := true, laidLooks := .later }
def MoveOrderUptoCardSaid : Prop := Claim7.holds Tryd.pinned (.plain (OpenSpec.upto moveOrderSpec)) moveOrderUptoCard

/-- THE SECOND FORM's CARD OF 'wherrykeep.OpGood'. -/
def opGoodUptoCard : Claim7 := { stood := { row := opGoodUptoRow, standIns := [], harness := (true, "c329883f0abe95630a0b142fb2e70a9422b2dfd77493fd7b044aa858dd3e5578"), looks := false }, kinds := [], alts := [], laidByText := true, laidKinds := [.data, .pinned], laidTests := true, laidLooks := .later }
def OpGoodUptoCardSaid : Prop := Claim7.holds Tryd.pinned (.plain (OpenSpec.upto opGoodSpec)) opGoodUptoCard

/-- THE SECOND FORM's CARD OF 'wherrykeep.EdgeFits'. -/
def edgeFitsUptoCard : Claim7 := { stood := { row := edgeFitsUptoRow, standIns := [], harness := (true, "c329883f0abe95630a0b142fb2e70a9422b2dfd77493fd7b044aa858dd3e5578"), looks := false }, kinds := [], alts := [], laidByText := true, laidKinds := [.data, .pinned], laidTests := true, laidLooks := .later }
def EdgeFitsUptoCardSaid : Prop := Claim7.holds Tryd.pinned (.plain (OpenSpec.upto edgeFitsSpec)) edgeFitsUptoCard

/-- THE SECOND FORM's CARD OF 'wherrykeep.ReplayMakes'. -/
def replayMakesUptoCard : Claim7 := { stood := { row := replayMakesUptoRow, standIns := [], harness := (true, "c329883f0abe95630a0b142fb2e70a9422b2dfd77493fd7b044aa858dd3e5578"), looks := false }, kinds := [], alts := [], laidByText := true, laidKinds := [.data, .pinned], laidTests := true, laidLooks := .later }
def ReplayMakesUptoCardSaid : Prop := Claim7.holds Tryd.pinned (.plain (OpenSpec.upto replayMakesSpec)) replayMakesUptoCard

/-- THE SECOND FORM's CARD OF 'wherrykeep.MoveRest'. -/
def moveRestUptoCard : Claim7 := { stood := { row := moveRestUptoRow, standIns := [], harness := (true, "c329883f0abe95630a0b142fb2e70a9422b2dfd77493fd7b044aa858dd3e5578"), looks := false }, kinds := [], alts := [], laidByText := true, laidKinds := [.data, .pinned], laidTests := true, laidLooks := .later }
def MoveRestUptoCardSaid : Prop := Claim7.holds Tryd.pinned (.plain (OpenSpec.upto moveRestSpec)) moveRestUptoCard

/-- THE SECOND FORM's CARD OF 'wherrykeep.WholeMakes'. -/
def wholeMakesUptoCard : Claim7 := { stood := { row := wholeMakesUptoRow, standIns := [], harness := (true, "c329883f0abe95630a0b142fb2e70a9422b2dfd77493fd7b044aa858dd3e5578"), looks := false }, kinds := [], alts := [], laidByText := true, laidKinds := [.data, .pinned], laidTests := true, laidLooks := .later }
def WholeMakesUptoCardSaid : Prop := Claim7.holds Tryd.pinned (.plain (OpenSpec.upto wholeMakesSpec)) wholeMakesUptoCard

/-- THE SECOND FORM's CARD OF 'wherrykeep.TapeLengths'. -/
def tapeLengthsUptoCard : Claim7 := { stood := { row := tapeLengthsUptoRow, standIns := [], harness := (true, "c329883f0abe95630a0b142fb2e70a9422b2dfd77493fd7b044aa858dd3e5578"), looks := false }, kinds := [], alts := [], laidByText := true, laidKinds := [.data, .pinned], laidTests := true, laidLooks := .later }
def TapeLengthsUptoCardSaid : Prop := Claim7.holds Tryd.pinned (.plain (OpenSpec.upto tapeLengthsSpec)) tapeLengthsUptoCard
end Rows
end Go.Proofs.YtndclmjpjcilmaaDoor
