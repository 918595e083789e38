/-
  NARROWER THAN 'FOR EVERY INPUT', by the rows' own cells (each row's printed sentence says how): SquaresLines: laid · SquaresTells: laid · SquaresClues: laid · SquaresSettles: laid · SquaresJust: laid · SquaresDeduces: laid · SquaresSolves: laid · SquaresTurns: laid · SquaresCounted: laid · SquaresBoth: laid · SquaresMade: laid · SquaresTries: laid · SquaresKnown: laid · SquaresTurned: laid.
  DERIVED. THE GIVEN ROWS OF THIS SEAT. 14 by the template 'for every input the law returns true; each argument reads behind the call as it read before'; 0 by the template 'total and deterministic' (their statements: YtjjndoigkhabdaaDoorTotals.lean).
  GIVEN WITH THE SEED: the statements are not yours to turn. If you find one false, say at which input.
  Laid BY PROGRAM, IN A SANDBOX (cutbox-rows.mjs): the forced cells as the released guide's own fill.sh prints them over the translation 4cd398f5ad60e961… (all of the seat's roots in one cut). By AI agents, Wed Nov 11 2026. No macro, syntax, notation, axiom, sorry.
-/
import Derived.Test.YtjjndoigkhabdaaDoorChecked
import GoSem.Claim
import GoSem.ClaimJoined
import GoSem.ClaimMapViews
import Derived.JoinedTies
import Derived.KernelRfl
namespace Go.Proofs.YtjjndoigkhabdaaDoor
/- THE CELL 'sum', in the pinned program and in every row, IS THE sha256 OF THE DUMP (.gsa) THAT YtjjndoigkhabdaaDoorProg.lean LOADS. Nothing in Lean hashes anything: it is a label: what it is worth is what the hold of that sum in a sandbox is worth. -/
noncomputable def Tryd.pinned : Pinned := { name := "ytjjndoigkhabdaadoor", sum := "4cd398f5ad60e961029bc4f1d973094bdb9891518cfbe2ee967be1a5207ff9a7", checked := Tryd.checked }
namespace Rows
def none {H : Type} : Left H := { results := [], args := [] }

/- WHAT THE LISTED PACKAGE-LEVEL VARIABLES READ AS WHEN THE CALL BEGINS. Each datum BY PROGRAM (the guide's laid-datum.mjs) off the statement by which the dump's own 'gosem.cut.vars' lays the variable. In a bare row this is a premise. The card (YtjjndoigkhabdaaDoorCards.lean) ties it to the program's text. -/
def laid_math_bits_deBruijn32tab {H : Type} : DataW H := .agg [.lit (.int .u8 0), .lit (.int .u8 1), .lit (.int .u8 28), .lit (.int .u8 2), .lit (.int .u8 29), .lit (.int .u8 14), .lit (.int .u8 24), .lit (.int .u8 3), .lit (.int .u8 30), .lit (.int .u8 22), .lit (.int .u8 20), .lit (.int .u8 15), .lit (.int .u8 25), .lit (.int .u8 17), .lit (.int .u8 4), .lit (.int .u8 8), .lit (.int .u8 31), .lit (.int .u8 27), .lit (.int .u8 13), .lit (.int .u8 23), .lit (.int .u8 21), .lit (.int .u8 19), .lit (.int .u8 16), .lit (.int .u8 7), .lit (.int .u8 26), .lit (.int .u8 12), .lit (.int .u8 18), .lit (.int .u8 6), .lit (.int .u8 11), .lit (.int .u8 5), .lit (.int .u8 10), .lit (.int .u8 9)]
def laid_math_bits_deBruijn64tab {H : Type} : DataW H := .agg [.lit (.int .u8 0), .lit (.int .u8 1), .lit (.int .u8 56), .lit (.int .u8 2), .lit (.int .u8 57), .lit (.int .u8 49), .lit (.int .u8 28), .lit (.int .u8 3), .lit (.int .u8 61), .lit (.int .u8 58), .lit (.int .u8 42), .lit (.int .u8 50), .lit (.int .u8 38), .lit (.int .u8 29), .lit (.int .u8 17), .lit (.int .u8 4), .lit (.int .u8 62), .lit (.int .u8 47), .lit (.int .u8 59), .lit (.int .u8 36), .lit (.int .u8 45), .lit (.int .u8 43), .lit (.int .u8 51), .lit (.int .u8 22), .lit (.int .u8 53), .lit (.int .u8 39), .lit (.int .u8 33), .lit (.int .u8 30), .lit (.int .u8 24), .lit (.int .u8 18), .lit (.int .u8 12), .lit (.int .u8 5), .lit (.int .u8 63), .lit (.int .u8 55), .lit (.int .u8 48), .lit (.int .u8 27), .lit (.int .u8 60), .lit (.int .u8 41), .lit (.int .u8 37), .lit (.int .u8 16), .lit (.int .u8 46), .lit (.int .u8 35), .lit (.int .u8 44), .lit (.int .u8 21), .lit (.int .u8 52), .lit (.int .u8 32), .lit (.int .u8 23), .lit (.int .u8 11), .lit (.int .u8 54), .lit (.int .u8 26), .lit (.int .u8 40), .lit (.int .u8 15), .lit (.int .u8 34), .lit (.int .u8 20), .lit (.int .u8 31), .lit (.int .u8 10), .lit (.int .u8 25), .lit (.int .u8 14), .lit (.int .u8 19), .lit (.int .u8 9), .lit (.int .u8 13), .lit (.int .u8 8), .lit (.int .u8 7), .lit (.int .u8 6)]

/-- 'congoulaw07.SquaresLines': WHATEVER THE INPUT: true; the input reads as it did. -/
def squaresLinesSpec : ChangeSpec := { name := "squaresLines", fn := fun _ => fun
  | [d1, d2, d3] => { results := [.lit (.bool true)], args := [d1, d2, d3] }
  | _ => none }
def squaresLinesRow : OpenClaim := { program := "ytjjndoigkhabdaadoor", sum := "4cd398f5ad60e961029bc4f1d973094bdb9891518cfbe2ee967be1a5207ff9a7", func := "congou/congoulaw07.SquaresLines", spec := "squaresLines", named := ["math/bits.deBruijn32tab", "math/bits.deBruijn64tab"], apart := false, laid := [("math/bits.deBruijn32tab", laid_math_bits_deBruijn32tab), ("math/bits.deBruijn64tab", laid_math_bits_deBruijn64tab)] }
def SquaresLinesSaid : Prop := squaresLinesRow.holds Tryd.pinned (OpenSpec.ofChange squaresLinesSpec)

/-- ITS FALSE NEIGHBOUR: 'it returns false'. Refute it at one input. -/
def squaresLinesWrong : ChangeSpec := { name := "squaresLines", fn := fun _ => fun
  | [d1, d2, d3] => { results := [.lit (.bool false)], args := [d1, d2, d3] }
  | _ => none }
def SquaresLinesWrongFalsely : Prop := squaresLinesRow.holds Tryd.pinned (OpenSpec.ofChange squaresLinesWrong)

/-- 'congoulaw07.SquaresTells': WHATEVER THE INPUT: true; the input reads as it did. -/
def squaresTellsSpec : ChangeSpec := { name := "squaresTells", fn := fun _ => fun
  | [d1, d2, d3, d4] => { results := [.lit (.bool true)], args := [d1, d2, d3, d4] }
  | _ => none }
def squaresTellsRow : OpenClaim := { program := "ytjjndoigkhabdaadoor", sum := "4cd398f5ad60e961029bc4f1d973094bdb9891518cfbe2ee967be1a5207ff9a7", func := "congou/congoulaw07.SquaresTells", spec := "squaresTells", named := ["math/bits.deBruijn32tab", "math/bits.deBruijn64tab"], apart := false, laid := [("math/bits.deBruijn32tab", laid_math_bits_deBruijn32tab), ("math/bits.deBruijn64tab", laid_math_bits_deBruijn64tab)] }
def SquaresTellsSaid : Prop := squaresTellsRow.holds Tryd.pinned (OpenSpec.ofChange squaresTellsSpec)

/-- ITS FALSE NEIGHBOUR: 'it returns false'. Refute it at one input. -/
def squaresTellsWrong : ChangeSpec := { name := "squaresTells", fn := fun _ => fun
  | [d1, d2, d3, d4] => { results := [.lit (.bool false)], args := [d1, d2, d3, d4] }
  | _ => none }
def SquaresTellsWrongFalsely : Prop := squaresTellsRow.holds Tryd.pinned (OpenSpec.ofChange squaresTellsWrong)

/-- 'congoulaw07.SquaresClues': WHATEVER THE INPUT: true; the input reads as it did. -/
def squaresCluesSpec : ChangeSpec := { name := "squaresClues", fn := fun _ => fun
  | [d1, d2] => { results := [.lit (.bool true)], args := [d1, d2] }
  | _ => none }
def squaresCluesRow : OpenClaim := { program := "ytjjndoigkhabdaadoor", sum := "4cd398f5ad60e961029bc4f1d973094bdb9891518cfbe2ee967be1a5207ff9a7", func := "congou/congoulaw07.SquaresClues", spec := "squaresClues", unfollowed := true, recurses := true, named := ["math/bits.deBruijn32tab", "math/bits.deBruijn64tab"], apart := false, laid := [("math/bits.deBruijn32tab", laid_math_bits_deBruijn32tab), ("math/bits.deBruijn64tab", laid_math_bits_deBruijn64tab)] }
def SquaresCluesSaid : Prop := squaresCluesRow.holds Tryd.pinned (OpenSpec.ofChange squaresCluesSpec)

/-- ITS FALSE NEIGHBOUR: 'it returns false'. Refute it at one input. -/
def squaresCluesWrong : ChangeSpec := { name := "squaresClues", fn := fun _ => fun
  | [d1, d2] => { results := [.lit (.bool false)], args := [d1, d2] }
  | _ => none }
def SquaresCluesWrongFalsely : Prop := squaresCluesRow.holds Tryd.pinned (OpenSpec.ofChange squaresCluesWrong)

/-- 'congoulaw07.SquaresSettles': WHATEVER THE INPUT: true; the input reads as it did. -/
def squaresSettlesSpec : ChangeSpec := { name := "squaresSettles", fn := fun _ => fun
  | [d1, d2, d3, d4] => { results := [.lit (.bool true)], args := [d1, d2, d3, d4] }
  | _ => none }
def squaresSettlesRow : OpenClaim := { program := "ytjjndoigkhabdaadoor", sum := "4cd398f5ad60e961029bc4f1d973094bdb9891518cfbe2ee967be1a5207ff9a7", func := "congou/congoulaw07.SquaresSettles", spec := "squaresSettles", named := ["math/bits.deBruijn32tab", "math/bits.deBruijn64tab"], apart := false, laid := [("math/bits.deBruijn32tab", laid_math_bits_deBruijn32tab), ("math/bits.deBruijn64tab", laid_math_bits_deBruijn64tab)] }
def SquaresSettlesSaid : Prop := squaresSettlesRow.holds Tryd.pinned (OpenSpec.ofChange squaresSettlesSpec)

/-- ITS FALSE NEIGHBOUR: 'it returns false'. Refute it at one input. -/
def squaresSettlesWrong : ChangeSpec := { name := "squaresSettles", fn := fun _ => fun
  | [d1, d2, d3, d4] => { results := [.lit (.bool false)], args := [d1, d2, d3, d4] }
  | _ => none }
def SquaresSettlesWrongFalsely : Prop := squaresSettlesRow.holds Tryd.pinned (OpenSpec.ofChange squaresSettlesWrong)

/-- 'congoulaw07.SquaresJust': WHATEVER THE INPUT: true; the input reads as it did. -/
def squaresJustSpec : ChangeSpec := { name := "squaresJust", fn := fun _ => fun
  | [d1, d2, d3] => { results := [.lit (.bool true)], args := [d1, d2, d3] }
  | _ => none }
def squaresJustRow : OpenClaim := { program := "ytjjndoigkhabdaadoor", sum := "4cd398f5ad60e961029bc4f1d973094bdb9891518cfbe2ee967be1a5207ff9a7", func := "congou/congoulaw07.SquaresJust", spec := "squaresJust", named := ["math/bits.deBruijn32tab", "math/bits.deBruijn64tab"], apart := false, laid := [("math/bits.deBruijn32tab", laid_math_bits_deBruijn32tab), ("math/bits.deBruijn64tab", laid_math_bits_deBruijn64tab)] }
def SquaresJustSaid : Prop := squaresJustRow.holds Tryd.pinned (OpenSpec.ofChange squaresJustSpec)

/-- ITS FALSE NEIGHBOUR: 'it returns false'. Refute it at one input. -/
def squaresJustWrong : ChangeSpec := { name := "squaresJust", fn := fun _ => fun
  | [d1, d2, d3] => { results := [.lit (.bool false)], args := [d1, d2, d3] }
  | _ => none }
def SquaresJustWrongFalsely : Prop := squaresJustRow.holds Tryd.pinned (OpenSpec.ofChange squaresJustWrong)

/-- 'congoulaw07.SquaresDeduces': WHATEVER THE INPUT: true; the input reads as it did. -/
def squaresDeducesSpec : ChangeSpec := { name := "squaresDeduces", fn := fun _ => fun
  | [d] => { results := [.lit (.bool true)], args := [d] }
  | _ => none }
def squaresDeducesRow : OpenClaim := { program := "ytjjndoigkhabdaadoor", sum := "4cd398f5ad60e961029bc4f1d973094bdb9891518cfbe2ee967be1a5207ff9a7", func := "congou/congoulaw07.SquaresDeduces", spec := "squaresDeduces", unfollowed := true, recurses := true, named := ["math/bits.deBruijn32tab", "math/bits.deBruijn64tab"], apart := false, laid := [("math/bits.deBruijn32tab", laid_math_bits_deBruijn32tab), ("math/bits.deBruijn64tab", laid_math_bits_deBruijn64tab)] }
def SquaresDeducesSaid : Prop := squaresDeducesRow.holds Tryd.pinned (OpenSpec.ofChange squaresDeducesSpec)

/-- ITS FALSE NEIGHBOUR: 'it returns false'. Refute it at one input. -/
def squaresDeducesWrong : ChangeSpec := { name := "squaresDeduces", fn := fun _ => fun
  | [d] => { results := [.lit (.bool false)], args := [d] }
  | _ => none }
def SquaresDeducesWrongFalsely : Prop := squaresDeducesRow.holds Tryd.pinned (OpenSpec.ofChange squaresDeducesWrong)

/-- 'congoulaw07.SquaresSolves': WHATEVER THE INPUT: true; the input reads as it did. -/
def squaresSolvesSpec : ChangeSpec := { name := "squaresSolves", fn := fun _ => fun
  | [d] => { results := [.lit (.bool true)], args := [d] }
  | _ => none }
def squaresSolvesRow : OpenClaim := { program := "ytjjndoigkhabdaadoor", sum := "4cd398f5ad60e961029bc4f1d973094bdb9891518cfbe2ee967be1a5207ff9a7", func := "congou/congoulaw07.SquaresSolves", spec := "squaresSolves", unfollowed := true, recurses := true, named := ["math/bits.deBruijn32tab", "math/bits.deBruijn64tab"], apart := false, laid := [("math/bits.deBruijn32tab", laid_math_bits_deBruijn32tab), ("math/bits.deBruijn64tab", laid_math_bits_deBruijn64tab)] }
def SquaresSolvesSaid : Prop := squaresSolvesRow.holds Tryd.pinned (OpenSpec.ofChange squaresSolvesSpec)

/-- ITS FALSE NEIGHBOUR: 'it returns false'. Refute it at one input. -/
def squaresSolvesWrong : ChangeSpec := { name := "squaresSolves", fn := fun _ => fun
  | [d] => { results := [.lit (.bool false)], args := [d] }
  | _ => none }
def SquaresSolvesWrongFalsely : Prop := squaresSolvesRow.holds Tryd.pinned (OpenSpec.ofChange squaresSolvesWrong)

/-- 'congoulaw07.SquaresTurns': WHATEVER THE INPUT: true; the input reads as it did. -/
def squaresTurnsSpec : ChangeSpec := { name := "squaresTurns", fn := fun _ => fun
  | [d] => { results := [.lit (.bool true)], args := [d] }
  | _ => none }
def squaresTurnsRow : OpenClaim := { program := "ytjjndoigkhabdaadoor", sum := "4cd398f5ad60e961029bc4f1d973094bdb9891518cfbe2ee967be1a5207ff9a7", func := "congou/congoulaw07.SquaresTurns", spec := "squaresTurns", unfollowed := true, recurses := true, named := ["math/bits.deBruijn32tab", "math/bits.deBruijn64tab"], apart := false, laid := [("math/bits.deBruijn32tab", laid_math_bits_deBruijn32tab), ("math/bits.deBruijn64tab", laid_math_bits_deBruijn64tab)] }
def SquaresTurnsSaid : Prop := squaresTurnsRow.holds Tryd.pinned (OpenSpec.ofChange squaresTurnsSpec)

/-- ITS FALSE NEIGHBOUR: 'it returns false'. Refute it at one input. -/
def squaresTurnsWrong : ChangeSpec := { name := "squaresTurns", fn := fun _ => fun
  | [d] => { results := [.lit (.bool false)], args := [d] }
  | _ => none }
def SquaresTurnsWrongFalsely : Prop := squaresTurnsRow.holds Tryd.pinned (OpenSpec.ofChange squaresTurnsWrong)

/-- 'congoulaw07.SquaresCounted': WHATEVER THE INPUT: true; the input reads as it did. -/
def squaresCountedSpec : ChangeSpec := { name := "squaresCounted", fn := fun _ => fun
  | [d1, d2] => { results := [.lit (.bool true)], args := [d1, d2] }
  | _ => none }
def squaresCountedRow : OpenClaim := { program := "ytjjndoigkhabdaadoor", sum := "4cd398f5ad60e961029bc4f1d973094bdb9891518cfbe2ee967be1a5207ff9a7", func := "congou/congoulaw07.SquaresCounted", spec := "squaresCounted", unfollowed := true, recurses := true, named := ["math/bits.deBruijn32tab", "math/bits.deBruijn64tab"], apart := false, laid := [("math/bits.deBruijn32tab", laid_math_bits_deBruijn32tab), ("math/bits.deBruijn64tab", laid_math_bits_deBruijn64tab)] }
def SquaresCountedSaid : Prop := squaresCountedRow.holds Tryd.pinned (OpenSpec.ofChange squaresCountedSpec)

/-- ITS FALSE NEIGHBOUR: 'it returns false'. Refute it at one input. -/
def squaresCountedWrong : ChangeSpec := { name := "squaresCounted", fn := fun _ => fun
  | [d1, d2] => { results := [.lit (.bool false)], args := [d1, d2] }
  | _ => none }
def SquaresCountedWrongFalsely : Prop := squaresCountedRow.holds Tryd.pinned (OpenSpec.ofChange squaresCountedWrong)

/-- 'congoulaw07.SquaresBoth': WHATEVER THE INPUT: true; the input reads as it did. -/
def squaresBothSpec : ChangeSpec := { name := "squaresBoth", fn := fun _ => fun
  | [d] => { results := [.lit (.bool true)], args := [d] }
  | _ => none }
def squaresBothRow : OpenClaim := { program := "ytjjndoigkhabdaadoor", sum := "4cd398f5ad60e961029bc4f1d973094bdb9891518cfbe2ee967be1a5207ff9a7", func := "congou/congoulaw07.SquaresBoth", spec := "squaresBoth", unfollowed := true, recurses := true, named := ["math/bits.deBruijn32tab", "math/bits.deBruijn64tab"], apart := false, laid := [("math/bits.deBruijn32tab", laid_math_bits_deBruijn32tab), ("math/bits.deBruijn64tab", laid_math_bits_deBruijn64tab)] }
def SquaresBothSaid : Prop := squaresBothRow.holds Tryd.pinned (OpenSpec.ofChange squaresBothSpec)

/-- ITS FALSE NEIGHBOUR: 'it returns false'. Refute it at one input. -/
def squaresBothWrong : ChangeSpec := { name := "squaresBoth", fn := fun _ => fun
  | [d] => { results := [.lit (.bool false)], args := [d] }
  | _ => none }
def SquaresBothWrongFalsely : Prop := squaresBothRow.holds Tryd.pinned (OpenSpec.ofChange squaresBothWrong)

/-- 'congoulaw07.SquaresMade': WHATEVER THE INPUT: true; the input reads as it did. -/
def squaresMadeSpec : ChangeSpec := { name := "squaresMade", fn := fun _ => fun
  | [d1, d2] => { results := [.lit (.bool true)], args := [d1, d2] }
  | _ => none }
def squaresMadeRow : OpenClaim := { program := "ytjjndoigkhabdaadoor", sum := "4cd398f5ad60e961029bc4f1d973094bdb9891518cfbe2ee967be1a5207ff9a7", func := "congou/congoulaw07.SquaresMade", spec := "squaresMade", unfollowed := true, recurses := true, named := ["math/bits.deBruijn32tab", "math/bits.deBruijn64tab"], apart := false, laid := [("math/bits.deBruijn32tab", laid_math_bits_deBruijn32tab), ("math/bits.deBruijn64tab", laid_math_bits_deBruijn64tab)] }
def SquaresMadeSaid : Prop := squaresMadeRow.holds Tryd.pinned (OpenSpec.ofChange squaresMadeSpec)

/-- ITS FALSE NEIGHBOUR: 'it returns false'. Refute it at one input. -/
def squaresMadeWrong : ChangeSpec := { name := "squaresMade", fn := fun _ => fun
  | [d1, d2] => { results := [.lit (.bool false)], args := [d1, d2] }
  | _ => none }
def SquaresMadeWrongFalsely : Prop := squaresMadeRow.holds Tryd.pinned (OpenSpec.ofChange squaresMadeWrong)

/-- 'congoulaw07.SquaresTries': WHATEVER THE INPUT: true; the input reads as it did. -/
def squaresTriesSpec : ChangeSpec := { name := "squaresTries", fn := fun _ => fun
  | [d] => { results := [.lit (.bool true)], args := [d] }
  | _ => none }
def squaresTriesRow : OpenClaim := { program := "ytjjndoigkhabdaadoor", sum := "4cd398f5ad60e961029bc4f1d973094bdb9891518cfbe2ee967be1a5207ff9a7", func := "congou/congoulaw07.SquaresTries", spec := "squaresTries", unfollowed := true, recurses := true, named := ["math/bits.deBruijn32tab", "math/bits.deBruijn64tab"], apart := false, laid := [("math/bits.deBruijn32tab", laid_math_bits_deBruijn32tab), ("math/bits.deBruijn64tab", laid_math_bits_deBruijn64tab)] }
def SquaresTriesSaid : Prop := squaresTriesRow.holds Tryd.pinned (OpenSpec.ofChange squaresTriesSpec)

/-- ITS FALSE NEIGHBOUR: 'it returns false'. Refute it at one input. -/
def squaresTriesWrong : ChangeSpec := { name := "squaresTries", fn := fun _ => fun
  | [d] => { results := [.lit (.bool false)], args := [d] }
  | _ => none }
def SquaresTriesWrongFalsely : Prop := squaresTriesRow.holds Tryd.pinned (OpenSpec.ofChange squaresTriesWrong)

/-- 'congoulaw07.SquaresKnown': WHATEVER THE INPUT: true; the input reads as it did. -/
def squaresKnownSpec : ChangeSpec := { name := "squaresKnown", fn := fun _ => fun
  | [d] => { results := [.lit (.bool true)], args := [d] }
  | _ => none }
def squaresKnownRow : OpenClaim := { program := "ytjjndoigkhabdaadoor", sum := "4cd398f5ad60e961029bc4f1d973094bdb9891518cfbe2ee967be1a5207ff9a7", func := "congou/congoulaw07.SquaresKnown", spec := "squaresKnown", unfollowed := true, recurses := true, named := ["math/bits.deBruijn32tab", "math/bits.deBruijn64tab"], apart := false, laid := [("math/bits.deBruijn32tab", laid_math_bits_deBruijn32tab), ("math/bits.deBruijn64tab", laid_math_bits_deBruijn64tab)] }
def SquaresKnownSaid : Prop := squaresKnownRow.holds Tryd.pinned (OpenSpec.ofChange squaresKnownSpec)

/-- ITS FALSE NEIGHBOUR: 'it returns false'. Refute it at one input. -/
def squaresKnownWrong : ChangeSpec := { name := "squaresKnown", fn := fun _ => fun
  | [d] => { results := [.lit (.bool false)], args := [d] }
  | _ => none }
def SquaresKnownWrongFalsely : Prop := squaresKnownRow.holds Tryd.pinned (OpenSpec.ofChange squaresKnownWrong)

/-- 'congoulaw07.SquaresTurned': WHATEVER THE INPUT: true; the input reads as it did. -/
def squaresTurnedSpec : ChangeSpec := { name := "squaresTurned", fn := fun _ => fun
  | [d] => { results := [.lit (.bool true)], args := [d] }
  | _ => none }
def squaresTurnedRow : OpenClaim := { program := "ytjjndoigkhabdaadoor", sum := "4cd398f5ad60e961029bc4f1d973094bdb9891518cfbe2ee967be1a5207ff9a7", func := "congou/congoulaw07.SquaresTurned", spec := "squaresTurned", unfollowed := true, recurses := true, named := ["math/bits.deBruijn32tab", "math/bits.deBruijn64tab"], apart := false, laid := [("math/bits.deBruijn32tab", laid_math_bits_deBruijn32tab), ("math/bits.deBruijn64tab", laid_math_bits_deBruijn64tab)] }
def SquaresTurnedSaid : Prop := squaresTurnedRow.holds Tryd.pinned (OpenSpec.ofChange squaresTurnedSpec)

/-- ITS FALSE NEIGHBOUR: 'it returns false'. Refute it at one input. -/
def squaresTurnedWrong : ChangeSpec := { name := "squaresTurned", fn := fun _ => fun
  | [d] => { results := [.lit (.bool false)], args := [d] }
  | _ => none }
def SquaresTurnedWrongFalsely : Prop := squaresTurnedRow.holds Tryd.pinned (OpenSpec.ofChange squaresTurnedWrong)

/- THE SECOND FORM. 'bulk': how many values and letters a reading holds, each counted each time it is reached (what is shared counts as often as it is met; a slice's spare places count too). A statement '..UptoSaid' is the law's where the arguments, and the package variables that the reading takes, are together of bulk at most 1048576: NARROWER than '..Said'. Prove '..Said' where nothing that the law and all that it calls make is longer than what came in: it says more and counts as full. Else prove '..UptoSaid'. A law counts once. -/
mutual
def uptoBulk {H : Type} : DataW H → Nat
  | .lit (.string bytes) => bytes.length + 1
  | .lit _ => 1
  | .nil => 1
  | .ptr d => uptoBulk d + 1
  | .slice elems spare => uptoBulkAll elems + uptoBulkAll spare + 1
  | .agg parts => uptoBulkAll parts + 1
  | .iface _ d => uptoBulk d + 1
  | .map entries => uptoBulkEntries entries + 1
  | .held _ => 1
def uptoBulkAll {H : Type} : List (DataW H) → Nat
  | [] => 0
  | d :: r => uptoBulk d + uptoBulkAll r
def uptoBulkEntries {H : Type} : List (Lit × DataW H) → Nat
  | [] => 0
  | x :: r => uptoBulkEntry x + uptoBulkEntries r
def uptoBulkEntry {H : Type} : Lit × DataW H → Nat
  | (.string bytes, d) => bytes.length + uptoBulk d + 1
  | (_, d) => uptoBulk d + 1
 end
def uptoSmall : (H : Type) → List (DataW H) → Bool := fun _ ds => decide (uptoBulkAll ds ≤ 1048576)
def OpenSpec.upto (s : _root_.Go.ChangeSpec) : _root_.Go.OpenSpec := { _root_.Go.OpenSpec.ofChange s with cond := some uptoSmall }

/-- 'congoulaw07.SquaresLines', WHERE WHAT IT READS IS OF BULK AT MOST 1048576: true; the input reads as it did. -/
def squaresLinesUptoRow : OpenClaim := { program := "ytjjndoigkhabdaadoor", sum := "4cd398f5ad60e961029bc4f1d973094bdb9891518cfbe2ee967be1a5207ff9a7", func := "congou/congoulaw07.SquaresLines", spec := "squaresLines", named := ["math/bits.deBruijn32tab", "math/bits.deBruijn64tab"], apart := false, laid := [("math/bits.deBruijn32tab", laid_math_bits_deBruijn32tab), ("math/bits.deBruijn64tab", laid_math_bits_deBruijn64tab)], narrowed := true }
def SquaresLinesUptoSaid : Prop := squaresLinesUptoRow.holds Tryd.pinned (OpenSpec.upto squaresLinesSpec)

/-- 'congoulaw07.SquaresTells', WHERE WHAT IT READS IS OF BULK AT MOST 1048576: true; the input reads as it did. -/
def squaresTellsUptoRow : OpenClaim := { program := "ytjjndoigkhabdaadoor", sum := "4cd398f5ad60e961029bc4f1d973094bdb9891518cfbe2ee967be1a5207ff9a7", func := "congou/congoulaw07.SquaresTells", spec := "squaresTells", named := ["math/bits.deBruijn32tab", "math/bits.deBruijn64tab"], apart := false, laid := [("math/bits.deBruijn32tab", laid_math_bits_deBruijn32tab), ("math/bits.deBruijn64tab", laid_math_bits_deBruijn64tab)], narrowed := true }
def SquaresTellsUptoSaid : Prop := squaresTellsUptoRow.holds Tryd.pinned (OpenSpec.upto squaresTellsSpec)

/-- 'congoulaw07.SquaresClues', WHERE WHAT IT READS IS OF BULK AT MOST 1048576: true; the input reads as it did. -/
def squaresCluesUptoRow : OpenClaim := { program := "ytjjndoigkhabdaadoor", sum := "4cd398f5ad60e961029bc4f1d973094bdb9891518cfbe2ee967be1a5207ff9a7", func := "congou/congoulaw07.SquaresClues", spec := "squaresClues", unfollowed := true, recurses := true, named := ["math/bits.deBruijn32tab", "math/bits.deBruijn64tab"], apart := false, laid := [("math/bits.deBruijn32tab", laid_math_bits_deBruijn32tab), ("math/bits.deBruijn64tab", laid_math_bits_deBruijn64tab)], narrowed := true }
def SquaresCluesUptoSaid : Prop := squaresCluesUptoRow.holds Tryd.pinned (OpenSpec.upto squaresCluesSpec)

/-- 'congoulaw07.SquaresSettles', WHERE WHAT IT READS IS OF BULK AT MOST 1048576: true; the input reads as it did. -/
def squaresSettlesUptoRow : OpenClaim := { program := "ytjjndoigkhabdaadoor", sum := "4cd398f5ad60e961029bc4f1d973094bdb9891518cfbe2ee967be1a5207ff9a7", func := "congou/congoulaw07.SquaresSettles", spec := "squaresSettles", named := ["math/bits.deBruijn32tab", "math/bits.deBruijn64tab"], apart := false, laid := [("math/bits.deBruijn32tab", laid_math_bits_deBruijn32tab), ("math/bits.deBruijn64tab", laid_math_bits_deBruijn64tab)], narrowed := true }
def SquaresSettlesUptoSaid : Prop := squaresSettlesUptoRow.holds Tryd.pinned (OpenSpec.upto squaresSettlesSpec)

/-- 'congoulaw07.SquaresJust', WHERE WHAT IT READS IS OF BULK AT MOST 1048576: true; the input reads as it did. -/
def squaresJustUptoRow : OpenClaim := { program := "ytjjndoigkhabdaadoor", sum := "4cd398f5ad60e961029bc4f1d973094bdb9891518cfbe2ee967be1a5207ff9a7", func := "congou/congoulaw07.SquaresJust", spec := "squaresJust", named := ["math/bits.deBruijn32tab", "math/bits.deBruijn64tab"], apart := false, laid := [("math/bits.deBruijn32tab", laid_math_bits_deBruijn32tab), ("math/bits.deBruijn64tab", laid_math_bits_deBruijn64tab)], narrowed := true }
def SquaresJustUptoSaid : Prop := squaresJustUptoRow.holds Tryd.pinned (OpenSpec.upto squaresJustSpec)

/-- 'congoulaw07.SquaresDeduces', WHERE WHAT IT READS IS OF BULK AT MOST 1048576: true; the input reads as it did. -/
def squaresDeducesUptoRow : OpenClaim := { program := "ytjjndoigkhabdaadoor", sum := "4cd398f5ad60e961029bc4f1d973094bdb9891518cfbe2ee967be1a5207ff9a7", func := "congou/congoulaw07.SquaresDeduces", spec := "squaresDeduces", unfollowed := true, recurses := true, named := ["math/bits.deBruijn32tab", "math/bits.deBruijn64tab"], apart := false, laid := [("math/bits.deBruijn32tab", laid_math_bits_deBruijn32tab), ("math/bits.deBruijn64tab", laid_math_bits_deBruijn64tab)], narrowed := true }
def SquaresDeducesUptoSaid : Prop := squaresDeducesUptoRow.holds Tryd.pinned (OpenSpec.upto squaresDeducesSpec)

/-- 'congoulaw07.SquaresSolves', WHERE WHAT IT READS IS OF BULK AT MOST 1048576: true; the input reads as it did. -/
def squaresSolvesUptoRow : OpenClaim := { program := "ytjjndoigkhabdaadoor", sum := "4cd398f5ad60e961029bc4f1d973094bdb9891518cfbe2ee967be1a5207ff9a7", func := "congou/congoulaw07.SquaresSolves", spec := "squaresSolves", unfollowed := true, recurses := true, named := ["math/bits.deBruijn32tab", "math/bits.deBruijn64tab"], apart := false, laid := [("math/bits.deBruijn32tab", laid_math_bits_deBruijn32tab), ("math/bits.deBruijn64tab", laid_math_bits_deBruijn64tab)], narrowed := true }
def SquaresSolvesUptoSaid : Prop := squaresSolvesUptoRow.holds Tryd.pinned (OpenSpec.upto squaresSolvesSpec)

/-- 'congoulaw07.SquaresTurns', WHERE WHAT IT READS IS OF BULK AT MOST 1048576: true; the input reads as it did. -/
def squaresTurnsUptoRow : OpenClaim := { program := "ytjjndoigkhabdaadoor", sum := "4cd398f5ad60e961029bc4f1d973094bdb9891518cfbe2ee967be1a5207ff9a7", func := "congou/congoulaw07.SquaresTurns", spec := "squaresTurns", unfollowed := true, recurses := true, named := ["math/bits.deBruijn32tab", "math/bits.deBruijn64tab"], apart := false, laid := [("math/bits.deBruijn32tab", laid_math_bits_deBruijn32tab), ("math/bits.deBruijn64tab", laid_math_bits_deBruijn64tab)], narrowed := true }
def SquaresTurnsUptoSaid : Prop := squaresTurnsUptoRow.holds Tryd.pinned (OpenSpec.upto squaresTurnsSpec)

/-- 'congoulaw07.SquaresCounted', WHERE WHAT IT READS IS OF BULK AT MOST 1048576: true; the input reads as it did. -/
def squaresCountedUptoRow : OpenClaim := { program := "ytjjndoigkhabdaadoor", sum := "4cd398f5ad60e961029bc4f1d973094bdb9891518cfbe2ee967be1a5207ff9a7", func := "congou/congoulaw07.SquaresCounted", spec := "squaresCounted", unfollowed := true, recurses := true, named := ["math/bits.deBruijn32tab", "math/bits.deBruijn64tab"], apart := false, laid := [("math/bits.deBruijn32tab", laid_math_bits_deBruijn32tab), ("math/bits.deBruijn64tab", laid_math_bits_deBruijn64tab)], narrowed := true }
def SquaresCountedUptoSaid : Prop := squaresCountedUptoRow.holds Tryd.pinned (OpenSpec.upto squaresCountedSpec)

/-- 'congoulaw07.SquaresBoth', WHERE WHAT IT READS IS OF BULK AT MOST 1048576: true; the input reads as it did. -/
def squaresBothUptoRow : OpenClaim := { program := "ytjjndoigkhabdaadoor", sum := "4cd398f5ad60e961029bc4f1d973094bdb9891518cfbe2ee967be1a5207ff9a7", func := "congou/congoulaw07.SquaresBoth", spec := "squaresBoth", unfollowed := true, recurses := true, named := ["math/bits.deBruijn32tab", "math/bits.deBruijn64tab"], apart := false, laid := [("math/bits.deBruijn32tab", laid_math_bits_deBruijn32tab), ("math/bits.deBruijn64tab", laid_math_bits_deBruijn64tab)], narrowed := true }
def SquaresBothUptoSaid : Prop := squaresBothUptoRow.holds Tryd.pinned (OpenSpec.upto squaresBothSpec)

/-- 'congoulaw07.SquaresMade', WHERE WHAT IT READS IS OF BULK AT MOST 1048576: true; the input reads as it did. -/
def squaresMadeUptoRow : OpenClaim := { program := "ytjjndoigkhabdaadoor", sum := "4cd398f5ad60e961029bc4f1d973094bdb9891518cfbe2ee967be1a5207ff9a7", func := "congou/congoulaw07.SquaresMade", spec := "squaresMade", unfollowed := true, recurses := true, named := ["math/bits.deBruijn32tab", "math/bits.deBruijn64tab"], apart := false, laid := [("math/bits.deBruijn32tab", laid_math_bits_deBruijn32tab), ("math/bits.deBruijn64tab", laid_math_bits_deBruijn64tab)], narrowed := true }
def SquaresMadeUptoSaid : Prop := squaresMadeUptoRow.holds Tryd.pinned (OpenSpec.upto squaresMadeSpec)

/-- 'congoulaw07.SquaresTries', WHERE WHAT IT READS IS OF BULK AT MOST 1048576: true; the input reads as it did. -/
def squaresTriesUptoRow : OpenClaim := { program := "ytjjndoigkhabdaadoor", sum := "4cd398f5ad60e961029bc4f1d973094bdb9891518cfbe2ee967be1a5207ff9a7", func := "congou/congoulaw07.SquaresTries", spec := "squaresTries", unfollowed := true, recurses := true, named := ["math/bits.deBruijn32tab", "math/bits.deBruijn64tab"], apart := false, laid := [("math/bits.deBruijn32tab", laid_math_bits_deBruijn32tab), ("math/bits.deBruijn64tab", laid_math_bits_deBruijn64tab)], narrowed := true }
def SquaresTriesUptoSaid : Prop := squaresTriesUptoRow.holds Tryd.pinned (OpenSpec.upto squaresTriesSpec)

/-- 'congoulaw07.SquaresKnown', WHERE WHAT IT READS IS OF BULK AT MOST 1048576: true; the input reads as it did. -/
def squaresKnownUptoRow : OpenClaim := { program := "ytjjndoigkhabdaadoor", sum := "4cd398f5ad60e961029bc4f1d973094bdb9891518cfbe2ee967be1a5207ff9a7", func := "congou/congoulaw07.SquaresKnown", spec := "squaresKnown", unfollowed := true, recurses := true, named := ["math/bits.deBruijn32tab", "math/bits.deBruijn64tab"], apart := false, laid := [("math/bits.deBruijn32tab", laid_math_bits_deBruijn32tab), ("math/bits.deBruijn64tab", laid_math_bits_deBruijn64tab)], narrowed := true }
def SquaresKnownUptoSaid : Prop := squaresKnownUptoRow.holds Tryd.pinned (OpenSpec.upto squaresKnownSpec)

/-- 'congoulaw07.SquaresTurned', WHERE WHAT IT READS IS OF BULK AT MOST 1048576: true; the input reads as it did. -/
def squaresTurnedUptoRow : OpenClaim := { program := "ytjjndoigkhabdaadoor", sum := "4cd398f5ad60e961029bc4f1d973094bdb9891518cfbe2ee967be1a5207ff9a7", func := "congou/congoulaw07.SquaresTurned", spec := "squaresTurned", unfollowed := true, recurses := true, named := ["math/bits.deBruijn32tab", "math/bits.deBruijn64tab"], apart := false, laid := [("math/bits.deBruijn32tab", laid_math_bits_deBruijn32tab), ("math/bits.deBruijn64tab", laid_math_bits_deBruijn64tab)], narrowed := true }
def SquaresTurnedUptoSaid : Prop := squaresTurnedUptoRow.holds Tryd.pinned (OpenSpec.upto squaresTurnedSpec)

end Rows
end Go.Proofs.YtjjndoigkhabdaaDoor
