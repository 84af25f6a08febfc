/-
  DERIVED. GIVEN WITH THE SEED: THE CARDS: each row of YtajijhnnnekhmaaDoorRows.lean that lists a variable, with what it lists TIED to the program's text (the seventh form; the later family's looks); each row that meets fmt, with fmt's text TOLD by the authors' own Lean function (tested against real Go, not proved from fmt's source: count such statements apart). THE CARD IS WHAT COUNTS. Prove the row's statement (the work); the ties are given (YtajijhnnnekhmaaDoorTie.lean); close each card by the builder's one call (the guide's Derived/Test/ToyasCard.lean, 'card_holds'). Laid BY PROGRAM, IN A SANDBOX (cutbox-door.mjs). By AI agents, Wed Nov 11 2026. No macro, syntax, notation, axiom, sorry.
-/
import Derived.Test.YtajijhnnnekhmaaDoorRows
import GoSem.ClaimSeven
namespace Go.Proofs.YtajijhnnnekhmaaDoor
namespace Rows

/-- THE TIED CARD OF 'wherrykeep.InvertBack'. -/
def invertBackCard : Claim7 := { stood := { row := invertBackRow, standIns := [], harness := (true, "383533ada25a9371d552c17b6fc0590f649270eb5305120af8cd7dfb5120f44f"), looks := false }, kinds := [], alts := [], laidByText := true, laidKinds := [.data, .pinned], laidTests := true, laidLooks := .later }
def InvertBackCardSaid : Prop := Claim7.holds Tryd.pinned (.plain (OpenSpec.ofChange invertBackSpec)) invertBackCard

/-- THE TIED CARD OF 'wherrykeep.LengthsFit'. -/
def lengthsFitCard : Claim7 := { stood := { row := lengthsFitRow, standIns := [], harness := (true, "383533ada25a9371d552c17b6fc0590f649270eb5305120af8cd7dfb5120f44f"), looks := false }, kinds := [], alts := [], laidByText := true, laidKinds := [.data, .pinned], laidTests := true, laidLooks := .later }
def LengthsFitCardSaid : Prop := Claim7.holds Tryd.pinned (.plain (OpenSpec.ofChange lengthsFitSpec)) lengthsFitCard

/-- THE TIED CARD OF 'wherrykeep.TransformSame'. -/
def transformSameCard : Claim7 := { stood := { row := transformSameRow, standIns := [], harness := (true, "383533ada25a9371d552c17b6fc0590f649270eb5305120af8cd7dfb5120f44f"), looks := false }, kinds := [], alts := [], laidByText := true, laidKinds := [.data, .pinned], laidTests := true, laidLooks := .later }
def TransformSameCardSaid : Prop := Claim7.holds Tryd.pinned (.plain (OpenSpec.ofChange transformSameSpec)) transformSameCard

/-- THE TIED CARD OF 'wherrykeep.TransformLengths'. -/
def transformLengthsCard : Claim7 := { stood := { row := transformLengthsRow, standIns := [], harness := (true, "383533ada25a9371d552c17b6fc0590f649270eb5305120af8cd7dfb5120f44f"), looks := false }, kinds := [], alts := [], laidByText := true, laidKinds := [.data, .pinned], laidTests := true, laidLooks := .later }
def TransformLengthsCardSaid : Prop := Claim7.holds Tryd.pinned (.plain (OpenSpec.ofChange transformLengthsSpec)) transformLengthsCard

/-- THE TIED CARD OF 'wherrykeep.ComposeBoth'. -/
def composeBothCard : Claim7 := { stood := { row := composeBothRow, standIns := [], harness := (true, "383533ada25a9371d552c17b6fc0590f649270eb5305120af8cd7dfb5120f44f"), looks := false }, kinds := [], alts := [], laidByText := true, laidKinds := [.data, .pinned], laidTests := true, laidLooks := .later }
def ComposeBothCardSaid : Prop := Claim7.holds Tryd.pinned (.plain (OpenSpec.ofChange composeBothSpec)) composeBothCard

/-- THE TIED CARD OF 'wherrykeep.ComposeThree'. -/
def composeThreeCard : Claim7 := { stood := { row := composeThreeRow, standIns := [], harness := (true, "383533ada25a9371d552c17b6fc0590f649270eb5305120af8cd7dfb5120f44f"), looks := false }, kinds := [], alts := [], laidByText := true, laidKinds := [.data, .pinned], laidTests := true, laidLooks := .later }
def ComposeThreeCardSaid : Prop := Claim7.holds Tryd.pinned (.plain (OpenSpec.ofChange composeThreeSpec)) composeThreeCard

/-- THE TIED CARD OF 'wherrykeep.TransformMeets'. -/
def transformMeetsCard : Claim7 := { stood := { row := transformMeetsRow, standIns := [], harness := (true, "383533ada25a9371d552c17b6fc0590f649270eb5305120af8cd7dfb5120f44f"), looks := false }, kinds := [], alts := [], laidByText := true, laidKinds := [.data, .pinned], laidTests := true, laidLooks := .later }
def TransformMeetsCardSaid : Prop := Claim7.holds Tryd.pinned (.plain (OpenSpec.ofChange transformMeetsSpec)) transformMeetsCard

/-- THE TIED CARD OF 'wherrykeep.TransformFirst'. -/
def transformFirstCard : Claim7 := { stood := { row := transformFirstRow, standIns := [], harness := (true, "383533ada25a9371d552c17b6fc0590f649270eb5305120af8cd7dfb5120f44f"), looks := false }, kinds := [], alts := [], laidByText := true, laidKinds := [.data, .pinned], laidTests := true, laidLooks := .later }
def TransformFirstCardSaid : Prop := Claim7.holds Tryd.pinned (.plain (OpenSpec.ofChange transformFirstSpec)) transformFirstCard

/-- THE TIED CARD OF 'wherrykeep.TransformBoth'. -/
def transformBothCard : Claim7 := { stood := { row := transformBothRow, standIns := [], harness := (true, "383533ada25a9371d552c17b6fc0590f649270eb5305120af8cd7dfb5120f44f"), looks := false }, kinds := [], alts := [], laidByText := true, laidKinds := [.data, .pinned], laidTests := true, laidLooks := .later }
def TransformBothCardSaid : Prop := Claim7.holds Tryd.pinned (.plain (OpenSpec.ofChange transformBothSpec)) transformBothCard

/-- THE TIED CARD OF 'wherrykeep.ComposeBack'. -/
def composeBackCard : Claim7 := { stood := { row := composeBackRow, standIns := [], harness := (true, "383533ada25a9371d552c17b6fc0590f649270eb5305120af8cd7dfb5120f44f"), looks := false }, kinds := [], alts := [], laidByText := true, laidKinds := [.data, .pinned], laidTests := true, laidLooks := .later }
def ComposeBackCardSaid : Prop := Claim7.holds Tryd.pinned (.plain (OpenSpec.ofChange composeBackSpec)) composeBackCard

/-- THE TIED CARD OF 'wherrykeep.TransformTwo'. -/
def transformTwoCard : Claim7 := { stood := { row := transformTwoRow, standIns := [], harness := (true, "383533ada25a9371d552c17b6fc0590f649270eb5305120af8cd7dfb5120f44f"), looks := false }, kinds := [], alts := [], laidByText := true, laidKinds := [.data, .pinned], laidTests := true, laidLooks := .later }
def TransformTwoCardSaid : Prop := Claim7.holds Tryd.pinned (.plain (OpenSpec.ofChange transformTwoSpec)) transformTwoCard

/-- THE SECOND FORM's CARD OF 'wherrykeep.InvertBack'. -/
def invertBackUptoCard : Claim7 := { stood := { row := invertBackUptoRow, standIns := [], harness := (true, "383533ada25a9371d552c17b6fc0590f649270eb5305120af8cd7dfb5120f44f"), looks := false }, kinds := [], alts := [], laidByText := true, laidKinds := [.data, .pinned], laidTests := true, laidLooks := .later }
def InvertBackUptoCardSaid : Prop := Claim7.holds Tryd.pinned (.plain (OpenSpec.upto invertBackSpec)) invertBackUptoCard

/-- THE SECOND FORM's CARD OF 'wherrykeep.LengthsFit'. -/
def lengthsFitUptoCard : Claim7 := { stood := { row := lengthsFitUptoRow, standIns := [], harness := (true, "383533ada25a9371d552c17b6fc0590f649270eb5305120af8cd7dfb5120f44f"), looks := false }, kinds := [], alts := [], laidByText := true, laidKinds := [.data, .pinned], laidTests := true, laidLooks := .later }
def LengthsFitUptoCardSaid : Prop := Claim7.holds Tryd.pinned (.plain (OpenSpec.upto lengthsFitSpec)) lengthsFitUptoCard

/-- THE SECOND FORM's CARD OF 'wherrykeep.TransformSame'. -/
def transformSameUptoCard : Claim7 := { stood := { row := transformSameUptoRow, standIns := [], harness := (true, "383533ada25a9371d552c17b6fc0590f649270eb5305120af8cd7dfb5120f44f"), looks := false }, kinds := [], alts := [], laidByText := true, laidKinds := [.data, .pinned], laidTests := true, laidLooks := .later }
def TransformSameUptoCardSaid : Prop := Claim7.holds Tryd.pinned (.plain (OpenSpec.upto transformSameSpec)) transformSameUptoCard

/-- THE SECOND FORM's CARD OF 'wherrykeep.TransformLengths'. -/
def transformLengthsUptoCard : Claim7 := { stood := { row := transformLengthsUptoRow, standIns := [], harness := (true, "383533ada25a9371d552c17b6fc0590f649270eb5305120af8cd7dfb5120f44f"), looks := false }, kinds := [], alts := [], laidByText := true, laidKinds := [.data, .pinned], laidTests := true, laidLooks := .later }
def TransformLengthsUptoCardSaid : Prop := Claim7.holds Tryd.pinned (.plain (OpenSpec.upto transformLengthsSpec)) transformLengthsUptoCard

/-- THE SECOND FORM's CARD OF 'wherrykeep.ComposeBoth'. -/
def composeBothUptoCard : Claim7 := { stood := { row := composeBothUptoRow, standIns := [], harness := (true, "383533ada25a9371d552c17b6fc0590f649270eb5305120af8cd7dfb5120f44f"), looks := false }, kinds := [], alts := [], laidByText := true, laidKinds := [.data, .pinned], laidTests := true, laidLooks := .later }
def ComposeBothUptoCardSaid : Prop := Claim7.holds Tryd.pinned (.plain (OpenSpec.upto composeBothSpec)) composeBothUptoCard

/-- THE SECOND FORM's CARD OF 'wherrykeep.ComposeThree'. -/
def composeThreeUptoCard : Claim7 := { stood := { row := composeThreeUptoRow, standIns := [], harness := (true, "383533ada25a9371d552c17b6fc0590f649270eb5305120af8cd7dfb5120f44f"), looks := false }, kinds := [], alts := [], laidByText := true, laidKinds := [.data, .pinned], laidTests := true, laidLooks := .later }
def ComposeThreeUptoCardSaid : Prop := Claim7.holds Tryd.pinned (.plain (OpenSpec.upto composeThreeSpec)) composeThreeUptoCard

/-- THE SECOND FORM's CARD OF 'wherrykeep.TransformMeets'. -/
def transformMeetsUptoCard : Claim7 := { stood := { row := transformMeetsUptoRow, standIns := [], harness := (true, "383533ada25a9371d552c17b6fc0590f649270eb5305120af8cd7dfb5120f44f"), looks := false }, kinds := [], alts := [], laidByText := true, laidKinds := [.data, .pinned], laidTests := true, laidLooks := .later }
def TransformMeetsUptoCardSaid : Prop := Claim7.holds Tryd.pinned (.plain (OpenSpec.upto transformMeetsSpec)) transformMeetsUptoCard

/-- THE SECOND FORM's CARD OF 'wherrykeep.TransformFirst'. -/
def transformFirstUptoCard : Claim7 := { stood := { row := transformFirstUptoRow, standIns := [], harness := (true, "383533ada25a9371d552c17b6fc0590f649270eb5305120af8cd7dfb5120f44f"), looks := false }, kinds := [], alts := [], laidByText := true, laidKinds := [.data, .pinned], laidTests := true, laidLooks := .later }
def TransformFirstUptoCardSaid : Prop := Claim7.holds Tryd.pinned (.plain (OpenSpec.upto transformFirstSpec)) transformFirstUptoCard

/-- THE SECOND FORM's CARD OF 'wherrykeep.TransformBoth'. -/
def transformBothUptoCard : Claim7 := { stood := { row := transformBothUptoRow, standIns := [], harness := (true, "383533ada25a9371d552c17b6fc0590f649270eb5305120af8cd7dfb5120f44f"), looks := false }, kinds := [], alts := [], laidByText := true, laidKinds := [.data, .pinned], laidTests := true, laidLooks := .later }
def TransformBothUptoCardSaid : Prop := Claim7.holds Tryd.pinned (.plain (OpenSpec.upto transformBothSpec)) transformBothUptoCard

/-- THE SECOND FORM's CARD OF 'wherrykeep.ComposeBack'. -/
def composeBackUptoCard : Claim7 := { stood := { row := composeBackUptoRow, standIns := [], harness := (true, "383533ada25a9371d552c17b6fc0590f649270eb5305120af8cd7dfb5120f44f"), looks := false }, kinds := [], alts := [], laidByText := true, laidKinds := [.data, .pinned], laidTests := true, laidLooks := .later }
def ComposeBackUptoCardSaid : Prop := Claim7.holds Tryd.pinned (.plain (OpenSpec.upto composeBackSpec)) composeBackUptoCard

/-- THE SECOND FORM's CARD OF 'wherrykeep.TransformTwo'. -/
def transformTwoUptoCard : Claim7 := { stood := { row := transformTwoUptoRow, standIns := [], harness := (true, "383533ada25a9371d552c17b6fc0590f649270eb5305120af8cd7dfb5120f44f"), looks := false }, kinds := [], alts := [], laidByText := true, laidKinds := [.data, .pinned], laidTests := true, laidLooks := .later }
def TransformTwoUptoCardSaid : Prop := Claim7.holds Tryd.pinned (.plain (OpenSpec.upto transformTwoSpec)) transformTwoUptoCard
end Rows
end Go.Proofs.YtajijhnnnekhmaaDoor
