/-
  DERIVED. GIVEN WITH THE SEED: THE CARDS: each row of YtkhacogeffidoaaDoorRows.lean that lists a variable, with what it lists TIED to the program's text (the seventh form; the later family's looks); each row that meets fmt, with fmt's text TOLD by the authors' own Lean function (tested against real Go, not proved from fmt's source: count such statements apart). THE CARD IS WHAT COUNTS. Prove the row's statement (the work); the ties are given (YtkhacogeffidoaaDoorTie.lean); close each card by the builder's one call (the guide's Derived/Test/ToyasCard.lean, 'card_holds'). Laid BY PROGRAM, IN A SANDBOX (cutbox-door.mjs). By AI agents, Wed Nov 11 2026. No macro, syntax, notation, axiom, sorry.
-/
import Derived.Test.YtkhacogeffidoaaDoorRows
import GoSem.ClaimSeven
namespace Go.Proofs.YtkhacogeffidoaaDoor
namespace Rows

/-- THE TIED CARD OF 'wherrykeep.LinkWindow'. -/
def linkWindowCard : Claim7 := { stood := { row := linkWindowRow, standIns := [], harness := (true, "0b9f972064d73a86361a3e26a7f39276fb8a7916b5186822a1c47d621acc1423"), looks := false }, kinds := [], alts := [], laidByText := true, laidKinds := [.data, .pinned], laidTests := true, laidLooks := .later }
def LinkWindowCardSaid : Prop := Claim7.holds Tryd.pinned (.plain (OpenSpec.ofChange linkWindowSpec)) linkWindowCard

/-- THE TIED CARD OF 'wherrykeep.LinkAway'. -/
def linkAwayCard : Claim7 := { stood := { row := linkAwayRow, standIns := [], harness := (true, "0b9f972064d73a86361a3e26a7f39276fb8a7916b5186822a1c47d621acc1423"), looks := false }, kinds := [], alts := [], laidByText := true, laidKinds := [.data, .pinned], laidTests := true, laidLooks := .later }
def LinkAwayCardSaid : Prop := Claim7.holds Tryd.pinned (.plain (OpenSpec.ofChange linkAwaySpec)) linkAwayCard

/-- THE TIED CARD OF 'wherrykeep.LinkTwice'. -/
def linkTwiceCard : Claim7 := { stood := { row := linkTwiceRow, standIns := [], harness := (true, "0b9f972064d73a86361a3e26a7f39276fb8a7916b5186822a1c47d621acc1423"), looks := false }, kinds := [], alts := [], laidByText := true, laidKinds := [.data, .pinned], laidTests := true, laidLooks := .later }
def LinkTwiceCardSaid : Prop := Claim7.holds Tryd.pinned (.plain (OpenSpec.ofChange linkTwiceSpec)) linkTwiceCard

/-- THE TIED CARD OF 'wherrykeep.LinkGap'. -/
def linkGapCard : Claim7 := { stood := { row := linkGapRow, standIns := [], harness := (true, "0b9f972064d73a86361a3e26a7f39276fb8a7916b5186822a1c47d621acc1423"), looks := false }, kinds := [], alts := [], laidByText := true, laidKinds := [.data, .pinned], laidTests := true, laidLooks := .later }
def LinkGapCardSaid : Prop := Claim7.holds Tryd.pinned (.plain (OpenSpec.ofChange linkGapSpec)) linkGapCard

/-- THE TIED CARD OF 'wherrykeep.LinkAcks'. -/
def linkAcksCard : Claim7 := { stood := { row := linkAcksRow, standIns := [], harness := (true, "0b9f972064d73a86361a3e26a7f39276fb8a7916b5186822a1c47d621acc1423"), looks := false }, kinds := [], alts := [], laidByText := true, laidKinds := [.data, .pinned], laidTests := true, laidLooks := .later }
def LinkAcksCardSaid : Prop := Claim7.holds Tryd.pinned (.plain (OpenSpec.ofChange linkAcksSpec)) linkAcksCard

/-- THE TIED CARD OF 'wherrykeep.LinkOnce'. -/
def linkOnceCard : Claim7 := { stood := { row := linkOnceRow, standIns := [], harness := (true, "0b9f972064d73a86361a3e26a7f39276fb8a7916b5186822a1c47d621acc1423"), looks := false }, kinds := [], alts := [], laidByText := true, laidKinds := [.data, .pinned], laidTests := true, laidLooks := .later }
def LinkOnceCardSaid : Prop := Claim7.holds Tryd.pinned (.plain (OpenSpec.ofChange linkOnceSpec)) linkOnceCard

/-- THE TIED CARD OF 'wherrykeep.LinkAll'. -/
def linkAllCard : Claim7 := { stood := { row := linkAllRow, standIns := [], harness := (true, "0b9f972064d73a86361a3e26a7f39276fb8a7916b5186822a1c47d621acc1423"), looks := false }, kinds := [], alts := [], laidByText := true, laidKinds := [.data, .pinned], laidTests := true, laidLooks := .later }
def LinkAllCardSaid : Prop := Claim7.holds Tryd.pinned (.plain (OpenSpec.ofChange linkAllSpec)) linkAllCard

/-- THE TIED CARD OF 'wherrykeep.EdgeAlone'. -/
def edgeAloneCard : Claim7 := { stood := { row := edgeAloneRow, standIns := [], harness := (true, "0b9f972064d73a86361a3e26a7f39276fb8a7916b5186822a1c47d621acc1423"), looks := false }, kinds := [], alts := [], laidByText := true, laidKinds := [.data, .pinned], laidTests := true, laidLooks := .later }
def EdgeAloneCardSaid : Prop := Claim7.holds Tryd.pinned (.plain (OpenSpec.ofChange edgeAloneSpec)) edgeAloneCard

/-- THE TIED CARD OF 'wherrykeep.EdgeKnown'. -/
def edgeKnownCard : Claim7 := { stood := { row := edgeKnownRow, standIns := [], harness := (true, "0b9f972064d73a86361a3e26a7f39276fb8a7916b5186822a1c47d621acc1423"), looks := false }, kinds := [], alts := [], laidByText := true, laidKinds := [.data, .pinned], laidTests := true, laidLooks := .later }
def EdgeKnownCardSaid : Prop := Claim7.holds Tryd.pinned (.plain (OpenSpec.ofChange edgeKnownSpec)) edgeKnownCard

/-- THE TIED CARD OF 'wherrykeep.EdgeMeets'. -/
def edgeMeetsCard : Claim7 := { stood := { row := edgeMeetsRow, standIns := [], harness := (true, "0b9f972064d73a86361a3e26a7f39276fb8a7916b5186822a1c47d621acc1423"), looks := false }, kinds := [], alts := [], laidByText := true, laidKinds := [.data, .pinned], laidTests := true, laidLooks := .later }
def EdgeMeetsCardSaid : Prop := Claim7.holds Tryd.pinned (.plain (OpenSpec.ofChange edgeMeetsSpec)) edgeMeetsCard

/-- THE TIED CARD OF 'wherrykeep.EdgeUpper'. -/
def edgeUpperCard : Claim7 := { stood := { row := edgeUpperRow, standIns := [], harness := (true, "0b9f972064d73a86361a3e26a7f39276fb8a7916b5186822a1c47d621acc1423"), looks := false }, kinds := [], alts := [], laidByText := true, laidKinds := [.data, .pinned], laidTests := true, laidLooks := .later }
def EdgeUpperCardSaid : Prop := Claim7.holds Tryd.pinned (.plain (OpenSpec.ofChange edgeUpperSpec)) edgeUpperCard

/-- THE SECOND FORM's CARD OF 'wherrykeep.LinkWindow'. -/
def linkWindowUptoCard : Claim7 := { stood := { row := linkWindowUptoRow, standIns := [], harness := (true, "0b9f972064d73a86361a3e26a7f39276fb8a7916b5186822a1c47d621acc1423"), looks := false }, kinds := [], alts := [], laidByText := true, laidKinds := [.data, .pinned], laidTests := true, laidLooks := .later }
def LinkWindowUptoCardSaid : Prop := Claim7.holds Tryd.pinned (.plain (OpenSpec.upto linkWindowSpec)) linkWindowUptoCard

/-- THE SECOND FORM's CARD OF 'wherrykeep.LinkAway'. -/
def linkAwayUptoCard : Claim7 := { stood := { row := linkAwayUptoRow, standIns := [], harness := (true, "0b9f972064d73a86361a3e26a7f39276fb8a7916b5186822a1c47d621acc1423"), looks := false }, kinds := [], alts := [], laidByText := true, laidKinds := [.data, .pinned], laidTests := true, laidLooks := .later }
def LinkAwayUptoCardSaid : Prop := Claim7.holds Tryd.pinned (.plain (OpenSpec.upto linkAwaySpec)) linkAwayUptoCard

/-- THE SECOND FORM's CARD OF 'wherrykeep.LinkTwice'. -/
def linkTwiceUptoCard : Claim7 := { stood := { row := linkTwiceUptoRow, standIns := [], harness := (true, "0b9f972064d73a86361a3e26a7f39276fb8a7916b5186822a1c47d621acc1423"), looks := false }, kinds := [], alts := [], laidByText := true, laidKinds := [.data, .pinned], laidTests := true, laidLooks := .later }
def LinkTwiceUptoCardSaid : Prop := Claim7.holds Tryd.pinned (.plain (OpenSpec.upto linkTwiceSpec)) linkTwiceUptoCard

/-- THE SECOND FORM's CARD OF 'wherrykeep.LinkGap'. -/
def linkGapUptoCard : Claim7 := { stood := { row := linkGapUptoRow, standIns := [], harness := (true, "0b9f972064d73a86361a3e26a7f39276fb8a7916b5186822a1c47d621acc1423"), looks := false }, kinds := [], alts := [], laidByText := true, laidKinds := [.data, .pinned], laidTests := true, laidLooks := .later }
def LinkGapUptoCardSaid : Prop := Claim7.holds Tryd.pinned (.plain (OpenSpec.upto linkGapSpec)) linkGapUptoCard

/-- THE SECOND FORM's CARD OF 'wherrykeep.LinkAcks'. -/
def linkAcksUptoCard : Claim7 := { stood := { row := linkAcksUptoRow, standIns := [], harness := (true, "0b9f972064d73a86361a3e26a7f39276fb8a7916b5186822a1c47d621acc1423"), looks := false }, kinds := [], alts := [], laidByText := true, laidKinds := [.data, .pinned], laidTests := true, laidLooks := .later }
def LinkAcksUptoCardSaid : Prop := Claim7.holds Tryd.pinned (.plain (OpenSpec.upto linkAcksSpec)) linkAcksUptoCard

/-- THE SECOND FORM's CARD OF 'wherrykeep.LinkOnce'. -/
def linkOnceUptoCard : Claim7 := { stood := { row := linkOnceUptoRow, standIns := [], harness := (true, "0b9f972064d73a86361a3e26a7f39276fb8a7916b5186822a1c47d621acc1423"), looks := false }, kinds := [], alts := [], laidByText := true, laidKinds := [.data, .pinned], laidTests := true, laidLooks := .later }
def LinkOnceUptoCardSaid : Prop := Claim7.holds Tryd.pinned (.plain (OpenSpec.upto linkOnceSpec)) linkOnceUptoCard

/-- THE SECOND FORM's CARD OF 'wherrykeep.LinkAll'. -/
def linkAllUptoCard : Claim7 := { stood := { row := linkAllUptoRow, standIns := [], harness := (true, "0b9f972064d73a86361a3e26a7f39276fb8a7916b5186822a1c47d621acc1423"), looks := false }, kinds := [], alts := [], laidByText := true, laidKinds := [.data, .pinned], laidTests := true, laidLooks := .later }
def LinkAllUptoCardSaid : Prop := Claim7.holds Tryd.pinned (.plain (OpenSpec.upto linkAllSpec)) linkAllUptoCard

/-- THE SECOND FORM's CARD OF 'wherrykeep.EdgeAlone'. -/
def edgeAloneUptoCard : Claim7 := { stood := { row := edgeAloneUptoRow, standIns := [], harness := (true, "0b9f972064d73a86361a3e26a7f39276fb8a7916b5186822a1c47d621acc1423"), looks := false }, kinds := [], alts := [], laidByText := true, laidKinds := [.data, .pinned], laidTests := true, laidLooks := .later }
def EdgeAloneUptoCardSaid : Prop := Claim7.holds Tryd.pinned (.plain (OpenSpec.upto edgeAloneSpec)) edgeAloneUptoCard

/-- THE SECOND FORM's CARD OF 'wherrykeep.EdgeKnown'. -/
def edgeKnownUptoCard : Claim7 := { stood := { row := edgeKnownUptoRow, standIns := [], harness := (true, "0b9f972064d73a86361a3e26a7f39276fb8a7916b5186822a1c47d621acc1423"), looks := false }, kinds := [], alts := [], laidByText := true, laidKinds := [.data, .pinned], laidTests := true, laidLooks := .later }
def EdgeKnownUptoCardSaid : Prop := Claim7.holds Tryd.pinned (.plain (OpenSpec.upto edgeKnownSpec)) edgeKnownUptoCard

/-- THE SECOND FORM's CARD OF 'wherrykeep.EdgeMeets'. -/
def edgeMeetsUptoCard : Claim7 := { stood := { row := edgeMeetsUptoRow, standIns := [], harness := (true, "0b9f972064d73a86361a3e26a7f39276fb8a7916b5186822a1c47d621acc1423"), looks := false }, kinds := [], alts := [], laidByText := true, laidKinds := [.data, .pinned], laidTests := true, laidLooks := .later }
def EdgeMeetsUptoCardSaid : Prop := Claim7.holds Tryd.pinned (.plain (OpenSpec.upto edgeMeetsSpec)) edgeMeetsUptoCard

/-- THE SECOND FORM's CARD OF 'wherrykeep.EdgeUpper'. -/
def edgeUpperUptoCard : Claim7 := { stood := { row := edgeUpperUptoRow, standIns := [], harness := (true, "0b9f972064d73a86361a3e26a7f39276fb8a7916b5186822a1c47d621acc1423"), looks := false }, kinds := [], alts := [], laidByText := true, laidKinds := [.data, .pinned], laidTests := true, laidLooks := .later }
def EdgeUpperUptoCardSaid : Prop := Claim7.holds Tryd.pinned (.plain (OpenSpec.upto edgeUpperSpec)) edgeUpperUptoCard
end Rows
end Go.Proofs.YtkhacogeffidoaaDoor
