/-
  DERIVED. GIVEN WITH THE SEED: THE CARDS: each row of YtjjndoigkhabdaaDoorRows.lean that lists a variable, with what it lists TIED to the program's text (the seventh form; the later family's looks); each row that meets fmt, with fmt's text TOLD by the authors' own Lean function (tested against real Go, not proved from fmt's source: count such statements apart). THE CARD IS WHAT COUNTS. Prove the row's statement (the work); the ties are given (YtjjndoigkhabdaaDoorTie.lean); close each card by the builder's one call (the guide's Derived/Test/ToyasCard.lean, 'card_holds'). Laid BY PROGRAM, IN A SANDBOX (cutbox-door.mjs). By AI agents, Wed Nov 11 2026. No macro, syntax, notation, axiom, sorry.
-/
import Derived.Test.YtjjndoigkhabdaaDoorRows
import GoSem.ClaimSeven
namespace Go.Proofs.YtjjndoigkhabdaaDoor
namespace Rows

/-- THE TIED CARD OF 'congoulaw07.SquaresLines'. -/
def squaresLinesCard : Claim7 := { stood := { row := squaresLinesRow, standIns := [], harness := (true, "71a58341570105bb2a9844eacc0bd7dee58fdb13059c256f233653c8ee82a1fb"), looks := false }, kinds := [], alts := [], laidByText := true, laidKinds := [.data, .data], laidTests := true, laidLooks := .later }
def SquaresLinesCardSaid : Prop := Claim7.holds Tryd.pinned (.plain (OpenSpec.ofChange squaresLinesSpec)) squaresLinesCard

/-- THE TIED CARD OF 'congoulaw07.SquaresTells'. -/
def squaresTellsCard : Claim7 := { stood := { row := squaresTellsRow, standIns := [], harness := (true, "71a58341570105bb2a9844eacc0bd7dee58fdb13059c256f233653c8ee82a1fb"), looks := false }, kinds := [], alts := [], laidByText := true, laidKinds := [.data, .data], laidTests := true, laidLooks := .later }
def SquaresTellsCardSaid : Prop := Claim7.holds Tryd.pinned (.plain (OpenSpec.ofChange squaresTellsSpec)) squaresTellsCard

/-- THE TIED CARD OF 'congoulaw07.SquaresClues'. -/
def squaresCluesCard : Claim7 := { stood := { row := squaresCluesRow, standIns := [], harness := (true, "71a58341570105bb2a9844eacc0bd7dee58fdb13059c256f233653c8ee82a1fb"), looks := false }, kinds := [], alts := [], laidByText := true, laidKinds := [.data, .data], laidTests := true, laidLooks := .later }
def SquaresCluesCardSaid : Prop := Claim7.holds Tryd.pinned (.plain (OpenSpec.ofChange squaresCluesSpec)) squaresCluesCard

/-- THE TIED CARD OF 'congoulaw07.SquaresSettles'. -/
def squaresSettlesCard : Claim7 := { stood := { row := squaresSettlesRow, standIns := [], harness := (true, "71a58341570105bb2a9844eacc0bd7dee58fdb13059c256f233653c8ee82a1fb"), looks := false }, kinds := [], alts := [], laidByText := true, laidKinds := [.data, .data], laidTests := true, laidLooks := .later }
def SquaresSettlesCardSaid : Prop := Claim7.holds Tryd.pinned (.plain (OpenSpec.ofChange squaresSettlesSpec)) squaresSettlesCard

/-- THE TIED CARD OF 'congoulaw07.SquaresJust'. -/
def squaresJustCard : Claim7 := { stood := { row := squaresJustRow, standIns := [], harness := (true, "71a58341570105bb2a9844eacc0bd7dee58fdb13059c256f233653c8ee82a1fb"), looks := false }, kinds := [], alts := [], laidByText := true, laidKinds := [.data, .data], laidTests := true, laidLooks := .later }
def SquaresJustCardSaid : Prop := Claim7.holds Tryd.pinned (.plain (OpenSpec.ofChange squaresJustSpec)) squaresJustCard

/-- THE TIED CARD OF 'congoulaw07.SquaresDeduces'. -/
def squaresDeducesCard : Claim7 := { stood := { row := squaresDeducesRow, standIns := [], harness := (true, "71a58341570105bb2a9844eacc0bd7dee58fdb13059c256f233653c8ee82a1fb"), looks := false }, kinds := [], alts := [], laidByText := true, laidKinds := [.data, .data], laidTests := true, laidLooks := .later }
def SquaresDeducesCardSaid : Prop := Claim7.holds Tryd.pinned (.plain (OpenSpec.ofChange squaresDeducesSpec)) squaresDeducesCard

/-- THE TIED CARD OF 'congoulaw07.SquaresSolves'. -/
def squaresSolvesCard : Claim7 := { stood := { row := squaresSolvesRow, standIns := [], harness := (true, "71a58341570105bb2a9844eacc0bd7dee58fdb13059c256f233653c8ee82a1fb"), looks := false }, kinds := [], alts := [], laidByText := true, laidKinds := [.data, .data], laidTests := true, laidLooks := .later }
def SquaresSolvesCardSaid : Prop := Claim7.holds Tryd.pinned (.plain (OpenSpec.ofChange squaresSolvesSpec)) squaresSolvesCard

/-- THE TIED CARD OF 'congoulaw07.SquaresTurns'. -/
def squaresTurnsCard : Claim7 := { stood := { row := squaresTurnsRow, standIns := [], harness := (true, "71a58341570105bb2a9844eacc0bd7dee58fdb13059c256f233653c8ee82a1fb"), looks := false }, kinds := [], alts := [], laidByText := true, laidKinds := [.data, .data], laidTests := true, laidLooks := .later }
def SquaresTurnsCardSaid : Prop := Claim7.holds Tryd.pinned (.plain (OpenSpec.ofChange squaresTurnsSpec)) squaresTurnsCard

/-- THE TIED CARD OF 'congoulaw07.SquaresCounted'. -/
def squaresCountedCard : Claim7 := { stood := { row := squaresCountedRow, standIns := [], harness := (true, "71a58341570105bb2a9844eacc0bd7dee58fdb13059c256f233653c8ee82a1fb"), looks := false }, kinds := [], alts := [], laidByText := true, laidKinds := [.data, .data], laidTests := true, laidLooks := .later }
def SquaresCountedCardSaid : Prop := Claim7.holds Tryd.pinned (.plain (OpenSpec.ofChange squaresCountedSpec)) squaresCountedCard

/-- THE TIED CARD OF 'congoulaw07.SquaresBoth'. -/
def squaresBothCard : Claim7 := { stood := { row := squaresBothRow, standIns := [], harness := (true, "71a58341570105bb2a9844eacc0bd7dee58fdb13059c256f233653c8ee82a1fb"), looks := false }, kinds := [], alts := [], laidByText := true, laidKinds := [.data, .data], laidTests := true, laidLooks := .later }
def SquaresBothCardSaid : Prop := Claim7.holds Tryd.pinned (.plain (OpenSpec.ofChange squaresBothSpec)) squaresBothCard

/-- THE TIED CARD OF 'congoulaw07.SquaresMade'. -/
def squaresMadeCard : Claim7 := { stood := { row := squaresMadeRow, standIns := [], harness := (true, "71a58341570105bb2a9844eacc0bd7dee58fdb13059c256f233653c8ee82a1fb"), looks := false }, kinds := [], alts := [], laidByText := true, laidKinds := [.data, .data], laidTests := true, laidLooks := .later }
def SquaresMadeCardSaid : Prop := Claim7.holds Tryd.pinned (.plain (OpenSpec.ofChange squaresMadeSpec)) squaresMadeCard

/-- THE TIED CARD OF 'congoulaw07.SquaresTries'. -/
def squaresTriesCard : Claim7 := { stood := { row := squaresTriesRow, standIns := [], harness := (true, "71a58341570105bb2a9844eacc0bd7dee58fdb13059c256f233653c8ee82a1fb"), looks := false }, kinds := [], alts := [], laidByText := true, laidKinds := [.data, .data], laidTests := true, laidLooks := .later }
def SquaresTriesCardSaid : Prop := Claim7.holds Tryd.pinned (.plain (OpenSpec.ofChange squaresTriesSpec)) squaresTriesCard

/-- THE TIED CARD OF 'congoulaw07.SquaresKnown'. -/
def squaresKnownCard : Claim7 := { stood := { row := squaresKnownRow, standIns := [], harness := (true, "71a58341570105bb2a9844eacc0bd7dee58fdb13059c256f233653c8ee82a1fb"), looks := false }, kinds := [], alts := [], laidByText := true, laidKinds := [.data, .data], laidTests := true, laidLooks := .later }
def SquaresKnownCardSaid : Prop := Claim7.holds Tryd.pinned (.plain (OpenSpec.ofChange squaresKnownSpec)) squaresKnownCard

/-- THE TIED CARD OF 'congoulaw07.SquaresTurned'. -/
def squaresTurnedCard : Claim7 := { stood := { row := squaresTurnedRow, standIns := [], harness := (true, "71a58341570105bb2a9844eacc0bd7dee58fdb13059c256f233653c8ee82a1fb"), looks := false }, kinds := [], alts := [], laidByText := true, laidKinds := [.data, .data], laidTests := true, laidLooks := .later }
def SquaresTurnedCardSaid : Prop := Claim7.holds Tryd.pinned (.plain (OpenSpec.ofChange squaresTurnedSpec)) squaresTurnedCard

/-- THE SECOND FORM's CARD OF 'congoulaw07.SquaresLines'. -/
def squaresLinesUptoCard : Claim7 := { stood := { row := squaresLinesUptoRow, standIns := [], harness := (true, "71a58341570105bb2a9844eacc0bd7dee58fdb13059c256f233653c8ee82a1fb"), looks := false }, kinds := [], alts := [], laidByText := true, laidKinds := [.data, .data], laidTests := true, laidLooks := .later }
def SquaresLinesUptoCardSaid : Prop := Claim7.holds Tryd.pinned (.plain (OpenSpec.upto squaresLinesSpec)) squaresLinesUptoCard

/-- THE SECOND FORM's CARD OF 'congoulaw07.SquaresTells'. -/
def squaresTellsUptoCard : Claim7 := { stood := { row := squaresTellsUptoRow, standIns := [], harness := (true, "71a58341570105bb2a9844eacc0bd7dee58fdb13059c256f233653c8ee82a1fb"), looks := false }, kinds := [], alts := [], laidByText := true, laidKinds := [.data, .data], laidTests := true, laidLooks := .later }
def SquaresTellsUptoCardSaid : Prop := Claim7.holds Tryd.pinned (.plain (OpenSpec.upto squaresTellsSpec)) squaresTellsUptoCard

/-- THE SECOND FORM's CARD OF 'congoulaw07.SquaresClues'. -/
def squaresCluesUptoCard : Claim7 := { stood := { row := squaresCluesUptoRow, standIns := [], harness := (true, "71a58341570105bb2a9844eacc0bd7dee58fdb13059c256f233653c8ee82a1fb"), looks := false }, kinds := [], alts := [], laidByText := true, laidKinds := [.data, .data], laidTests := true, laidLooks := .later }
def SquaresCluesUptoCardSaid : Prop := Claim7.holds Tryd.pinned (.plain (OpenSpec.upto squaresCluesSpec)) squaresCluesUptoCard

/-- THE SECOND FORM's CARD OF 'congoulaw07.SquaresSettles'. -/
def squaresSettlesUptoCard : Claim7 := { stood := { row := squaresSettlesUptoRow, standIns := [], harness := (true, "71a58341570105bb2a9844eacc0bd7dee58fdb13059c256f233653c8ee82a1fb"), looks := false }, kinds := [], alts := [], laidByText := true, laidKinds := [.data, .data], laidTests := true, laidLooks := .later }
def SquaresSettlesUptoCardSaid : Prop := Claim7.holds Tryd.pinned (.plain (OpenSpec.upto squaresSettlesSpec)) squaresSettlesUptoCard

/-- THE SECOND FORM's CARD OF 'congoulaw07.SquaresJust'. -/
def squaresJustUptoCard : Claim7 := { stood := { row := squaresJustUptoRow, standIns := [], harness := (true, "71a58341570105bb2a9844eacc0bd7dee58fdb13059c256f233653c8ee82a1fb"), looks := false }, kinds := [], alts := [], laidByText := true, laidKinds := [.data, .data], laidTests := true, laidLooks := .later }
def SquaresJustUptoCardSaid : Prop := Claim7.holds Tryd.pinned (.plain (OpenSpec.upto squaresJustSpec)) squaresJustUptoCard

/-- THE SECOND FORM's CARD OF 'congoulaw07.SquaresDeduces'. -/
def squaresDeducesUptoCard : Claim7 := { stood := { row := squaresDeducesUptoRow, standIns := [], harness := (true, "71a58341570105bb2a9844eacc0bd7dee58fdb13059c256f233653c8ee82a1fb"), looks := false }, kinds := [], alts := [], laidByText := true, laidKinds := [.data, .data], laidTests := true, laidLooks := .later }
def SquaresDeducesUptoCardSaid : Prop := Claim7.holds Tryd.pinned (.plain (OpenSpec.upto squaresDeducesSpec)) squaresDeducesUptoCard

/-- THE SECOND FORM's CARD OF 'congoulaw07.SquaresSolves'. -/
def squaresSolvesUptoCard : Claim7 := { stood := { row := squaresSolvesUptoRow, standIns := [], harness := (true, "71a58341570105bb2a9844eacc0bd7dee58fdb13059c256f233653c8ee82a1fb"), looks := false }, kinds := [], alts := [], laidByText := true, laidKinds := [.data, .data], laidTests := true, laidLooks := .later }
def SquaresSolvesUptoCardSaid : Prop := Claim7.holds Tryd.pinned (.plain (OpenSpec.upto squaresSolvesSpec)) squaresSolvesUptoCard

/-- THE SECOND FORM's CARD OF 'congoulaw07.SquaresTurns'. -/
def squaresTurnsUptoCard : Claim7 := { stood := { row := squaresTurnsUptoRow, standIns := [], harness := (true, "71a58341570105bb2a9844eacc0bd7dee58fdb13059c256f233653c8ee82a1fb"), looks := false }, kinds := [], alts := [], laidByText := true, laidKinds := [.data, .data], laidTests := true, laidLooks := .later }
def SquaresTurnsUptoCardSaid : Prop := Claim7.holds Tryd.pinned (.plain (OpenSpec.upto squaresTurnsSpec)) squaresTurnsUptoCard

/-- THE SECOND FORM's CARD OF 'congoulaw07.SquaresCounted'. -/
def squaresCountedUptoCard : Claim7 := { stood := { row := squaresCountedUptoRow, standIns := [], harness := (true, "71a58341570105bb2a9844eacc0bd7dee58fdb13059c256f233653c8ee82a1fb"), looks := false }, kinds := [], alts := [], laidByText := true, laidKinds := [.data, .data], laidTests := true, laidLooks := .later }
def SquaresCountedUptoCardSaid : Prop := Claim7.holds Tryd.pinned (.plain (OpenSpec.upto squaresCountedSpec)) squaresCountedUptoCard

/-- THE SECOND FORM's CARD OF 'congoulaw07.SquaresBoth'. -/
def squaresBothUptoCard : Claim7 := { stood := { row := squaresBothUptoRow, standIns := [], harness := (true, "71a58341570105bb2a9844eacc0bd7dee58fdb13059c256f233653c8ee82a1fb"), looks := false }, kinds := [], alts := [], laidByText := true, laidKinds := [.data, .data], laidTests := true, laidLooks := .later }
def SquaresBothUptoCardSaid : Prop := Claim7.holds Tryd.pinned (.plain (OpenSpec.upto squaresBothSpec)) squaresBothUptoCard

/-- THE SECOND FORM's CARD OF 'congoulaw07.SquaresMade'. -/
def squaresMadeUptoCard : Claim7 := { stood := { row := squaresMadeUptoRow, standIns := [], harness := (true, "71a58341570105bb2a9844eacc0bd7dee58fdb13059c256f233653c8ee82a1fb"), looks := false }, kinds := [], alts := [], laidByText := true, laidKinds := [.data, .data], laidTests := true, laidLooks := .later }
def SquaresMadeUptoCardSaid : Prop := Claim7.holds Tryd.pinned (.plain (OpenSpec.upto squaresMadeSpec)) squaresMadeUptoCard

/-- THE SECOND FORM's CARD OF 'congoulaw07.SquaresTries'. -/
def squaresTriesUptoCard : Claim7 := { stood := { row := squaresTriesUptoRow, standIns := [], harness := (true, "71a58341570105bb2a9844eacc0bd7dee58fdb13059c256f233653c8ee82a1fb"), looks := false }, kinds := [], alts := [], laidByText := true, laidKinds := [.data, .data], laidTests := true, laidLooks := .later }
def SquaresTriesUptoCardSaid : Prop := Claim7.holds Tryd.pinned (.plain (OpenSpec.upto squaresTriesSpec)) squaresTriesUptoCard

/-- THE SECOND FORM's CARD OF 'congoulaw07.SquaresKnown'. -/
def squaresKnownUptoCard : Claim7 := { stood := { row := squaresKnownUptoRow, standIns := [], harness := (true, "71a58341570105bb2a9844eacc0bd7dee58fdb13059c256f233653c8ee82a1fb"), looks := false }, kinds := [], alts := [], laidByText := true, laidKinds := [.data, .data], laidTests := true, laidLooks := .later }
def SquaresKnownUptoCardSaid : Prop := Claim7.holds Tryd.pinned (.plain (OpenSpec.upto squaresKnownSpec)) squaresKnownUptoCard

/-- THE SECOND FORM's CARD OF 'congoulaw07.SquaresTurned'. -/
def squaresTurnedUptoCard : Claim7 := { stood := { row := squaresTurnedUptoRow, standIns := [], harness := (true, "71a58341570105bb2a9844eacc0bd7dee58fdb13059c256f233653c8ee82a1fb"), looks := false }, kinds := [], alts := [], laidByText := true, laidKinds := [.data, .data], laidTests := true, laidLooks := .later }
def SquaresTurnedUptoCardSaid : Prop := Claim7.holds Tryd.pinned (.plain (OpenSpec.upto squaresTurnedSpec)) squaresTurnedUptoCard
end Rows
end Go.Proofs.YtjjndoigkhabdaaDoor
