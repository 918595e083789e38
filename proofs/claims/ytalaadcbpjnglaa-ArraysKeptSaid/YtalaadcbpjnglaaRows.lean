/-
  No cell of these rows narrows 'for every input' (looked for: loops, veiled, ifaces, maps, wideKeys, modest, calm, conditions, laid).
  DERIVED. THE GIVEN ROWS OF THIS SEAT. 15 by the template 'for every input the law returns true; each argument reads behind the call as it read before'; 0 by the template 'total and deterministic' (their statements: YtalaadcbpjnglaaTotals.lean).
  GIVEN WITH THE SEED: the statements are not yours to turn. If you find one false, say at which input.
  Laid BY PROGRAM, IN A SANDBOX (cutbox-rows.mjs): the forced cells as the released guide's own fill.sh prints them over the translation a21a2e66e9465c64… (all of the seat's roots in one cut). By AI agents, Wed Nov 11 2026. No macro, syntax, notation, axiom, sorry.
-/
import Derived.Test.YtalaadcbpjnglaaChecked
import GoSem.Claim
import GoSem.ClaimJoined
import GoSem.ClaimMapViews
import Derived.JoinedTies
import Derived.KernelRfl
namespace Go.Proofs.Ytalaadcbpjnglaa
/- THE CELL 'sum', in the pinned program and in every row, IS THE sha256 OF THE DUMP (.gsa) THAT YtalaadcbpjnglaaProg.lean LOADS. Nothing in Lean hashes anything: it is a label: what it is worth is what the hold of that sum in a sandbox is worth. -/
noncomputable def Try.pinned : Pinned := { name := "ytalaadcbpjnglaa", sum := "a21a2e66e9465c641aabaac6f6829224f3c7b5917d59f19b2a29c9f723249fd0", checked := Try.checked }
namespace Rows
def none {H : Type} : Left H := { results := [], args := [] }

/-- 'congoulaw09.ArraysLines': WHATEVER THE INPUT: true; the input reads as it did. -/
def arraysLinesSpec : ChangeSpec := { name := "arraysLines", fn := fun _ => fun
  | [d1, d2, d3] => { results := [.lit (.bool true)], args := [d1, d2, d3] }
  | _ => none }
def arraysLinesRow : OpenClaim := { program := "ytalaadcbpjnglaa", sum := "a21a2e66e9465c641aabaac6f6829224f3c7b5917d59f19b2a29c9f723249fd0", func := "congou/congoulaw09.ArraysLines", spec := "arraysLines", apart := false }
def ArraysLinesSaid : Prop := arraysLinesRow.holds Try.pinned (OpenSpec.ofChange arraysLinesSpec)

/-- ITS FALSE NEIGHBOUR: 'it returns false'. Refute it at one input. -/
def arraysLinesWrong : ChangeSpec := { name := "arraysLines", fn := fun _ => fun
  | [d1, d2, d3] => { results := [.lit (.bool false)], args := [d1, d2, d3] }
  | _ => none }
def ArraysLinesWrongFalsely : Prop := arraysLinesRow.holds Try.pinned (OpenSpec.ofChange arraysLinesWrong)

/-- 'congoulaw09.ArraysLeast': WHATEVER THE INPUT: true; the input reads as it did. -/
def arraysLeastSpec : ChangeSpec := { name := "arraysLeast", fn := fun _ => fun
  | [d] => { results := [.lit (.bool true)], args := [d] }
  | _ => none }
def arraysLeastRow : OpenClaim := { program := "ytalaadcbpjnglaa", sum := "a21a2e66e9465c641aabaac6f6829224f3c7b5917d59f19b2a29c9f723249fd0", func := "congou/congoulaw09.ArraysLeast", spec := "arraysLeast", unfollowed := true, recurses := true, apart := false }
def ArraysLeastSaid : Prop := arraysLeastRow.holds Try.pinned (OpenSpec.ofChange arraysLeastSpec)

/-- ITS FALSE NEIGHBOUR: 'it returns false'. Refute it at one input. -/
def arraysLeastWrong : ChangeSpec := { name := "arraysLeast", fn := fun _ => fun
  | [d] => { results := [.lit (.bool false)], args := [d] }
  | _ => none }
def ArraysLeastWrongFalsely : Prop := arraysLeastRow.holds Try.pinned (OpenSpec.ofChange arraysLeastWrong)

/-- 'congoulaw09.ArraysChanges': WHATEVER THE INPUT: true; the input reads as it did. -/
def arraysChangesSpec : ChangeSpec := { name := "arraysChanges", fn := fun _ => fun
  | [d1, d2, d3, d4] => { results := [.lit (.bool true)], args := [d1, d2, d3, d4] }
  | _ => none }
def arraysChangesRow : OpenClaim := { program := "ytalaadcbpjnglaa", sum := "a21a2e66e9465c641aabaac6f6829224f3c7b5917d59f19b2a29c9f723249fd0", func := "congou/congoulaw09.ArraysChanges", spec := "arraysChanges", unfollowed := true, recurses := true, apart := false }
def ArraysChangesSaid : Prop := arraysChangesRow.holds Try.pinned (OpenSpec.ofChange arraysChangesSpec)

/-- ITS FALSE NEIGHBOUR: 'it returns false'. Refute it at one input. -/
def arraysChangesWrong : ChangeSpec := { name := "arraysChanges", fn := fun _ => fun
  | [d1, d2, d3, d4] => { results := [.lit (.bool false)], args := [d1, d2, d3, d4] }
  | _ => none }
def ArraysChangesWrongFalsely : Prop := arraysChangesRow.holds Try.pinned (OpenSpec.ofChange arraysChangesWrong)

/-- 'congoulaw09.ArraysGreedy': WHATEVER THE INPUT: true; the input reads as it did. -/
def arraysGreedySpec : ChangeSpec := { name := "arraysGreedy", fn := fun _ => fun
  | [d1, d2, d3] => { results := [.lit (.bool true)], args := [d1, d2, d3] }
  | _ => none }
def arraysGreedyRow : OpenClaim := { program := "ytalaadcbpjnglaa", sum := "a21a2e66e9465c641aabaac6f6829224f3c7b5917d59f19b2a29c9f723249fd0", func := "congou/congoulaw09.ArraysGreedy", spec := "arraysGreedy", unfollowed := true, recurses := true, apart := false }
def ArraysGreedySaid : Prop := arraysGreedyRow.holds Try.pinned (OpenSpec.ofChange arraysGreedySpec)

/-- ITS FALSE NEIGHBOUR: 'it returns false'. Refute it at one input. -/
def arraysGreedyWrong : ChangeSpec := { name := "arraysGreedy", fn := fun _ => fun
  | [d1, d2, d3] => { results := [.lit (.bool false)], args := [d1, d2, d3] }
  | _ => none }
def ArraysGreedyWrongFalsely : Prop := arraysGreedyRow.holds Try.pinned (OpenSpec.ofChange arraysGreedyWrong)

/-- 'congoulaw09.ArraysNoFewer': WHATEVER THE INPUT: true; the input reads as it did. -/
def arraysNoFewerSpec : ChangeSpec := { name := "arraysNoFewer", fn := fun _ => fun
  | [d] => { results := [.lit (.bool true)], args := [d] }
  | _ => none }
def arraysNoFewerRow : OpenClaim := { program := "ytalaadcbpjnglaa", sum := "a21a2e66e9465c641aabaac6f6829224f3c7b5917d59f19b2a29c9f723249fd0", func := "congou/congoulaw09.ArraysNoFewer", spec := "arraysNoFewer", unfollowed := true, recurses := true, apart := false }
def ArraysNoFewerSaid : Prop := arraysNoFewerRow.holds Try.pinned (OpenSpec.ofChange arraysNoFewerSpec)

/-- ITS FALSE NEIGHBOUR: 'it returns false'. Refute it at one input. -/
def arraysNoFewerWrong : ChangeSpec := { name := "arraysNoFewer", fn := fun _ => fun
  | [d] => { results := [.lit (.bool false)], args := [d] }
  | _ => none }
def ArraysNoFewerWrongFalsely : Prop := arraysNoFewerRow.holds Try.pinned (OpenSpec.ofChange arraysNoFewerWrong)

/-- 'congoulaw09.ArraysDistances': WHATEVER THE INPUT: true; the input reads as it did. -/
def arraysDistancesSpec : ChangeSpec := { name := "arraysDistances", fn := fun _ => fun
  | [d1, d2] => { results := [.lit (.bool true)], args := [d1, d2] }
  | _ => none }
def arraysDistancesRow : OpenClaim := { program := "ytalaadcbpjnglaa", sum := "a21a2e66e9465c641aabaac6f6829224f3c7b5917d59f19b2a29c9f723249fd0", func := "congou/congoulaw09.ArraysDistances", spec := "arraysDistances", unfollowed := true, recurses := true, apart := false }
def ArraysDistancesSaid : Prop := arraysDistancesRow.holds Try.pinned (OpenSpec.ofChange arraysDistancesSpec)

/-- ITS FALSE NEIGHBOUR: 'it returns false'. Refute it at one input. -/
def arraysDistancesWrong : ChangeSpec := { name := "arraysDistances", fn := fun _ => fun
  | [d1, d2] => { results := [.lit (.bool false)], args := [d1, d2] }
  | _ => none }
def ArraysDistancesWrongFalsely : Prop := arraysDistancesRow.holds Try.pinned (OpenSpec.ofChange arraysDistancesWrong)

/-- 'congoulaw09.ArraysAdds': WHATEVER THE INPUT: true; the input reads as it did. -/
def arraysAddsSpec : ChangeSpec := { name := "arraysAdds", fn := fun _ => fun
  | [d1, d2] => { results := [.lit (.bool true)], args := [d1, d2] }
  | _ => none }
def arraysAddsRow : OpenClaim := { program := "ytalaadcbpjnglaa", sum := "a21a2e66e9465c641aabaac6f6829224f3c7b5917d59f19b2a29c9f723249fd0", func := "congou/congoulaw09.ArraysAdds", spec := "arraysAdds", unfollowed := true, recurses := true, apart := false }
def ArraysAddsSaid : Prop := arraysAddsRow.holds Try.pinned (OpenSpec.ofChange arraysAddsSpec)

/-- ITS FALSE NEIGHBOUR: 'it returns false'. Refute it at one input. -/
def arraysAddsWrong : ChangeSpec := { name := "arraysAdds", fn := fun _ => fun
  | [d1, d2] => { results := [.lit (.bool false)], args := [d1, d2] }
  | _ => none }
def ArraysAddsWrongFalsely : Prop := arraysAddsRow.holds Try.pinned (OpenSpec.ofChange arraysAddsWrong)

/-- 'congoulaw09.ArraysPlane': WHATEVER THE INPUT: true; the input reads as it did. -/
def arraysPlaneSpec : ChangeSpec := { name := "arraysPlane", fn := fun _ => fun
  | [d] => { results := [.lit (.bool true)], args := [d] }
  | _ => none }
def arraysPlaneRow : OpenClaim := { program := "ytalaadcbpjnglaa", sum := "a21a2e66e9465c641aabaac6f6829224f3c7b5917d59f19b2a29c9f723249fd0", func := "congou/congoulaw09.ArraysPlane", spec := "arraysPlane", unfollowed := true, recurses := true, apart := false }
def ArraysPlaneSaid : Prop := arraysPlaneRow.holds Try.pinned (OpenSpec.ofChange arraysPlaneSpec)

/-- ITS FALSE NEIGHBOUR: 'it returns false'. Refute it at one input. -/
def arraysPlaneWrong : ChangeSpec := { name := "arraysPlane", fn := fun _ => fun
  | [d] => { results := [.lit (.bool false)], args := [d] }
  | _ => none }
def ArraysPlaneWrongFalsely : Prop := arraysPlaneRow.holds Try.pinned (OpenSpec.ofChange arraysPlaneWrong)

/-- 'congoulaw09.ArraysFair': WHATEVER THE INPUT: true; the input reads as it did. -/
def arraysFairSpec : ChangeSpec := { name := "arraysFair", fn := fun _ => fun
  | [d1, d2] => { results := [.lit (.bool true)], args := [d1, d2] }
  | _ => none }
def arraysFairRow : OpenClaim := { program := "ytalaadcbpjnglaa", sum := "a21a2e66e9465c641aabaac6f6829224f3c7b5917d59f19b2a29c9f723249fd0", func := "congou/congoulaw09.ArraysFair", spec := "arraysFair", unfollowed := true, recurses := true, apart := false }
def ArraysFairSaid : Prop := arraysFairRow.holds Try.pinned (OpenSpec.ofChange arraysFairSpec)

/-- ITS FALSE NEIGHBOUR: 'it returns false'. Refute it at one input. -/
def arraysFairWrong : ChangeSpec := { name := "arraysFair", fn := fun _ => fun
  | [d1, d2] => { results := [.lit (.bool false)], args := [d1, d2] }
  | _ => none }
def ArraysFairWrongFalsely : Prop := arraysFairRow.holds Try.pinned (OpenSpec.ofChange arraysFairWrong)

/-- 'congoulaw09.ArraysNew': WHATEVER THE INPUT: true; the input reads as it did. -/
def arraysNewSpec : ChangeSpec := { name := "arraysNew", fn := fun _ => fun
  | [d1, d2, d3] => { results := [.lit (.bool true)], args := [d1, d2, d3] }
  | _ => none }
def arraysNewRow : OpenClaim := { program := "ytalaadcbpjnglaa", sum := "a21a2e66e9465c641aabaac6f6829224f3c7b5917d59f19b2a29c9f723249fd0", func := "congou/congoulaw09.ArraysNew", spec := "arraysNew", unfollowed := true, recurses := true, apart := false }
def ArraysNewSaid : Prop := arraysNewRow.holds Try.pinned (OpenSpec.ofChange arraysNewSpec)

/-- ITS FALSE NEIGHBOUR: 'it returns false'. Refute it at one input. -/
def arraysNewWrong : ChangeSpec := { name := "arraysNew", fn := fun _ => fun
  | [d1, d2, d3] => { results := [.lit (.bool false)], args := [d1, d2, d3] }
  | _ => none }
def ArraysNewWrongFalsely : Prop := arraysNewRow.holds Try.pinned (OpenSpec.ofChange arraysNewWrong)

/-- 'congoulaw09.ArraysMade': WHATEVER THE INPUT: true; the input reads as it did. -/
def arraysMadeSpec : ChangeSpec := { name := "arraysMade", fn := fun _ => fun
  | [d] => { results := [.lit (.bool true)], args := [d] }
  | _ => none }
def arraysMadeRow : OpenClaim := { program := "ytalaadcbpjnglaa", sum := "a21a2e66e9465c641aabaac6f6829224f3c7b5917d59f19b2a29c9f723249fd0", func := "congou/congoulaw09.ArraysMade", spec := "arraysMade", unfollowed := true, recurses := true, apart := false }
def ArraysMadeSaid : Prop := arraysMadeRow.holds Try.pinned (OpenSpec.ofChange arraysMadeSpec)

/-- ITS FALSE NEIGHBOUR: 'it returns false'. Refute it at one input. -/
def arraysMadeWrong : ChangeSpec := { name := "arraysMade", fn := fun _ => fun
  | [d] => { results := [.lit (.bool false)], args := [d] }
  | _ => none }
def ArraysMadeWrongFalsely : Prop := arraysMadeRow.holds Try.pinned (OpenSpec.ofChange arraysMadeWrong)

/-- 'congoulaw09.ArraysCovers': WHATEVER THE INPUT: true; the input reads as it did. -/
def arraysCoversSpec : ChangeSpec := { name := "arraysCovers", fn := fun _ => fun
  | [d1, d2] => { results := [.lit (.bool true)], args := [d1, d2] }
  | _ => none }
def arraysCoversRow : OpenClaim := { program := "ytalaadcbpjnglaa", sum := "a21a2e66e9465c641aabaac6f6829224f3c7b5917d59f19b2a29c9f723249fd0", func := "congou/congoulaw09.ArraysCovers", spec := "arraysCovers", unfollowed := true, recurses := true, apart := false }
def ArraysCoversSaid : Prop := arraysCoversRow.holds Try.pinned (OpenSpec.ofChange arraysCoversSpec)

/-- ITS FALSE NEIGHBOUR: 'it returns false'. Refute it at one input. -/
def arraysCoversWrong : ChangeSpec := { name := "arraysCovers", fn := fun _ => fun
  | [d1, d2] => { results := [.lit (.bool false)], args := [d1, d2] }
  | _ => none }
def ArraysCoversWrongFalsely : Prop := arraysCoversRow.holds Try.pinned (OpenSpec.ofChange arraysCoversWrong)

/-- 'congoulaw09.ArraysKept': WHATEVER THE INPUT: true; the input reads as it did. -/
def arraysKeptSpec : ChangeSpec := { name := "arraysKept", fn := fun _ => fun
  | [d1, d2, d3, d4, d5, d6] => { results := [.lit (.bool true)], args := [d1, d2, d3, d4, d5, d6] }
  | _ => none }
def arraysKeptRow : OpenClaim := { program := "ytalaadcbpjnglaa", sum := "a21a2e66e9465c641aabaac6f6829224f3c7b5917d59f19b2a29c9f723249fd0", func := "congou/congoulaw09.ArraysKept", spec := "arraysKept", unfollowed := true, recurses := true, apart := false }
def ArraysKeptSaid : Prop := arraysKeptRow.holds Try.pinned (OpenSpec.ofChange arraysKeptSpec)

/-- ITS FALSE NEIGHBOUR: 'it returns false'. Refute it at one input. -/
def arraysKeptWrong : ChangeSpec := { name := "arraysKept", fn := fun _ => fun
  | [d1, d2, d3, d4, d5, d6] => { results := [.lit (.bool false)], args := [d1, d2, d3, d4, d5, d6] }
  | _ => none }
def ArraysKeptWrongFalsely : Prop := arraysKeptRow.holds Try.pinned (OpenSpec.ofChange arraysKeptWrong)

/-- 'congoulaw09.ArraysMissing': WHATEVER THE INPUT: true; the input reads as it did. -/
def arraysMissingSpec : ChangeSpec := { name := "arraysMissing", fn := fun _ => fun
  | [d1, d2, d3] => { results := [.lit (.bool true)], args := [d1, d2, d3] }
  | _ => none }
def arraysMissingRow : OpenClaim := { program := "ytalaadcbpjnglaa", sum := "a21a2e66e9465c641aabaac6f6829224f3c7b5917d59f19b2a29c9f723249fd0", func := "congou/congoulaw09.ArraysMissing", spec := "arraysMissing", unfollowed := true, recurses := true, apart := false }
def ArraysMissingSaid : Prop := arraysMissingRow.holds Try.pinned (OpenSpec.ofChange arraysMissingSpec)

/-- ITS FALSE NEIGHBOUR: 'it returns false'. Refute it at one input. -/
def arraysMissingWrong : ChangeSpec := { name := "arraysMissing", fn := fun _ => fun
  | [d1, d2, d3] => { results := [.lit (.bool false)], args := [d1, d2, d3] }
  | _ => none }
def ArraysMissingWrongFalsely : Prop := arraysMissingRow.holds Try.pinned (OpenSpec.ofChange arraysMissingWrong)

/-- 'congoulaw09.ArraysTogether': WHATEVER THE INPUT: true; the input reads as it did. -/
def arraysTogetherSpec : ChangeSpec := { name := "arraysTogether", fn := fun _ => fun
  | [d1, d2, d3] => { results := [.lit (.bool true)], args := [d1, d2, d3] }
  | _ => none }
def arraysTogetherRow : OpenClaim := { program := "ytalaadcbpjnglaa", sum := "a21a2e66e9465c641aabaac6f6829224f3c7b5917d59f19b2a29c9f723249fd0", func := "congou/congoulaw09.ArraysTogether", spec := "arraysTogether", unfollowed := true, recurses := true, apart := false }
def ArraysTogetherSaid : Prop := arraysTogetherRow.holds Try.pinned (OpenSpec.ofChange arraysTogetherSpec)

/-- ITS FALSE NEIGHBOUR: 'it returns false'. Refute it at one input. -/
def arraysTogetherWrong : ChangeSpec := { name := "arraysTogether", fn := fun _ => fun
  | [d1, d2, d3] => { results := [.lit (.bool false)], args := [d1, d2, d3] }
  | _ => none }
def ArraysTogetherWrongFalsely : Prop := arraysTogetherRow.holds Try.pinned (OpenSpec.ofChange arraysTogetherWrong)

/- THE SECOND FORM. 'bulk': how many values and letters a reading holds, each counted each time it is reached (what is shared counts as often as it is met; a slice's spare places count too). A statement '..UptoSaid' is the law's where the arguments, and the package variables that the reading takes, are together of bulk at most 1048576: NARROWER than '..Said'. Prove '..Said' where nothing that the law and all that it calls make is longer than what came in: it says more and counts as full. Else prove '..UptoSaid'. A law counts once. -/
mutual
def uptoBulk {H : Type} : DataW H → Nat
  | .lit (.string bytes) => bytes.length + 1
  | .lit _ => 1
  | .nil => 1
  | .ptr d => uptoBulk d + 1
  | .slice elems spare => uptoBulkAll elems + uptoBulkAll spare + 1
  | .agg parts => uptoBulkAll parts + 1
  | .iface _ d => uptoBulk d + 1
  | .map entries => uptoBulkEntries entries + 1
  | .held _ => 1
def uptoBulkAll {H : Type} : List (DataW H) → Nat
  | [] => 0
  | d :: r => uptoBulk d + uptoBulkAll r
def uptoBulkEntries {H : Type} : List (Lit × DataW H) → Nat
  | [] => 0
  | x :: r => uptoBulkEntry x + uptoBulkEntries r
def uptoBulkEntry {H : Type} : Lit × DataW H → Nat
  | (.string bytes, d) => bytes.length + uptoBulk d + 1
  | (_, d) => uptoBulk d + 1
 end
def uptoSmall : (H : Type) → List (DataW H) → Bool := fun _ ds => decide (uptoBulkAll ds ≤ 1048576)
def OpenSpec.upto (s : _root_.Go.ChangeSpec) : _root_.Go.OpenSpec := { _root_.Go.OpenSpec.ofChange s with cond := some uptoSmall }

/-- 'congoulaw09.ArraysLines', WHERE WHAT IT READS IS OF BULK AT MOST 1048576: true; the input reads as it did. -/
def arraysLinesUptoRow : OpenClaim := { program := "ytalaadcbpjnglaa", sum := "a21a2e66e9465c641aabaac6f6829224f3c7b5917d59f19b2a29c9f723249fd0", func := "congou/congoulaw09.ArraysLines", spec := "arraysLines", apart := false, narrowed := true }
def ArraysLinesUptoSaid : Prop := arraysLinesUptoRow.holds Try.pinned (OpenSpec.upto arraysLinesSpec)

/-- 'congoulaw09.ArraysLeast', WHERE WHAT IT READS IS OF BULK AT MOST 1048576: true; the input reads as it did. -/
def arraysLeastUptoRow : OpenClaim := { program := "ytalaadcbpjnglaa", sum := "a21a2e66e9465c641aabaac6f6829224f3c7b5917d59f19b2a29c9f723249fd0", func := "congou/congoulaw09.ArraysLeast", spec := "arraysLeast", unfollowed := true, recurses := true, apart := false, narrowed := true }
def ArraysLeastUptoSaid : Prop := arraysLeastUptoRow.holds Try.pinned (OpenSpec.upto arraysLeastSpec)

/-- 'congoulaw09.ArraysChanges', WHERE WHAT IT READS IS OF BULK AT MOST 1048576: true; the input reads as it did. -/
def arraysChangesUptoRow : OpenClaim := { program := "ytalaadcbpjnglaa", sum := "a21a2e66e9465c641aabaac6f6829224f3c7b5917d59f19b2a29c9f723249fd0", func := "congou/congoulaw09.ArraysChanges", spec := "arraysChanges", unfollowed := true, recurses := true, apart := false, narrowed := true }
def ArraysChangesUptoSaid : Prop := arraysChangesUptoRow.holds Try.pinned (OpenSpec.upto arraysChangesSpec)

/-- 'congoulaw09.ArraysGreedy', WHERE WHAT IT READS IS OF BULK AT MOST 1048576: true; the input reads as it did. -/
def arraysGreedyUptoRow : OpenClaim := { program := "ytalaadcbpjnglaa", sum := "a21a2e66e9465c641aabaac6f6829224f3c7b5917d59f19b2a29c9f723249fd0", func := "congou/congoulaw09.ArraysGreedy", spec := "arraysGreedy", unfollowed := true, recurses := true, apart := false, narrowed := true }
def ArraysGreedyUptoSaid : Prop := arraysGreedyUptoRow.holds Try.pinned (OpenSpec.upto arraysGreedySpec)

/-- 'congoulaw09.ArraysNoFewer', WHERE WHAT IT READS IS OF BULK AT MOST 1048576: true; the input reads as it did. -/
def arraysNoFewerUptoRow : OpenClaim := { program := "ytalaadcbpjnglaa", sum := "a21a2e66e9465c641aabaac6f6829224f3c7b5917d59f19b2a29c9f723249fd0", func := "congou/congoulaw09.ArraysNoFewer", spec := "arraysNoFewer", unfollowed := true, recurses := true, apart := false, narrowed := true }
def ArraysNoFewerUptoSaid : Prop := arraysNoFewerUptoRow.holds Try.pinned (OpenSpec.upto arraysNoFewerSpec)

/-- 'congoulaw09.ArraysDistances', WHERE WHAT IT READS IS OF BULK AT MOST 1048576: true; the input reads as it did. -/
def arraysDistancesUptoRow : OpenClaim := { program := "ytalaadcbpjnglaa", sum := "a21a2e66e9465c641aabaac6f6829224f3c7b5917d59f19b2a29c9f723249fd0", func := "congou/congoulaw09.ArraysDistances", spec := "arraysDistances", unfollowed := true, recurses := true, apart := false, narrowed := true }
def ArraysDistancesUptoSaid : Prop := arraysDistancesUptoRow.holds Try.pinned (OpenSpec.upto arraysDistancesSpec)

/-- 'congoulaw09.ArraysAdds', WHERE WHAT IT READS IS OF BULK AT MOST 1048576: true; the input reads as it did. -/
def arraysAddsUptoRow : OpenClaim := { program := "ytalaadcbpjnglaa", sum := "a21a2e66e9465c641aabaac6f6829224f3c7b5917d59f19b2a29c9f723249fd0", func := "congou/congoulaw09.ArraysAdds", spec := "arraysAdds", unfollowed := true, recurses := true, apart := false, narrowed := true }
def ArraysAddsUptoSaid : Prop := arraysAddsUptoRow.holds Try.pinned (OpenSpec.upto arraysAddsSpec)

/-- 'congoulaw09.ArraysPlane', WHERE WHAT IT READS IS OF BULK AT MOST 1048576: true; the input reads as it did. -/
def arraysPlaneUptoRow : OpenClaim := { program := "ytalaadcbpjnglaa", sum := "a21a2e66e9465c641aabaac6f6829224f3c7b5917d59f19b2a29c9f723249fd0", func := "congou/congoulaw09.ArraysPlane", spec := "arraysPlane", unfollowed := true, recurses := true, apart := false, narrowed := true }
def ArraysPlaneUptoSaid : Prop := arraysPlaneUptoRow.holds Try.pinned (OpenSpec.upto arraysPlaneSpec)

/-- 'congoulaw09.ArraysFair', WHERE WHAT IT READS IS OF BULK AT MOST 1048576: true; the input reads as it did. -/
def arraysFairUptoRow : OpenClaim := { program := "ytalaadcbpjnglaa", sum := "a21a2e66e9465c641aabaac6f6829224f3c7b5917d59f19b2a29c9f723249fd0", func := "congou/congoulaw09.ArraysFair", spec := "arraysFair", unfollowed := true, recurses := true, apart := false, narrowed := true }
def ArraysFairUptoSaid : Prop := arraysFairUptoRow.holds Try.pinned (OpenSpec.upto arraysFairSpec)

/-- 'congoulaw09.ArraysNew', WHERE WHAT IT READS IS OF BULK AT MOST 1048576: true; the input reads as it did. -/
def arraysNewUptoRow : OpenClaim := { program := "ytalaadcbpjnglaa", sum := "a21a2e66e9465c641aabaac6f6829224f3c7b5917d59f19b2a29c9f723249fd0", func := "congou/congoulaw09.ArraysNew", spec := "arraysNew", unfollowed := true, recurses := true, apart := false, narrowed := true }
def ArraysNewUptoSaid : Prop := arraysNewUptoRow.holds Try.pinned (OpenSpec.upto arraysNewSpec)

/-- 'congoulaw09.ArraysMade', WHERE WHAT IT READS IS OF BULK AT MOST 1048576: true; the input reads as it did. -/
def arraysMadeUptoRow : OpenClaim := { program := "ytalaadcbpjnglaa", sum := "a21a2e66e9465c641aabaac6f6829224f3c7b5917d59f19b2a29c9f723249fd0", func := "congou/congoulaw09.ArraysMade", spec := "arraysMade", unfollowed := true, recurses := true, apart := false, narrowed := true }
def ArraysMadeUptoSaid : Prop := arraysMadeUptoRow.holds Try.pinned (OpenSpec.upto arraysMadeSpec)

/-- 'congoulaw09.ArraysCovers', WHERE WHAT IT READS IS OF BULK AT MOST 1048576: true; the input reads as it did. -/
def arraysCoversUptoRow : OpenClaim := { program := "ytalaadcbpjnglaa", sum := "a21a2e66e9465c641aabaac6f6829224f3c7b5917d59f19b2a29c9f723249fd0", func := "congou/congoulaw09.ArraysCovers", spec := "arraysCovers", unfollowed := true, recurses := true, apart := false, narrowed := true }
def ArraysCoversUptoSaid : Prop := arraysCoversUptoRow.holds Try.pinned (OpenSpec.upto arraysCoversSpec)

/-- 'congoulaw09.ArraysKept', WHERE WHAT IT READS IS OF BULK AT MOST 1048576: true; the input reads as it did. -/
def arraysKeptUptoRow : OpenClaim := { program := "ytalaadcbpjnglaa", sum := "a21a2e66e9465c641aabaac6f6829224f3c7b5917d59f19b2a29c9f723249fd0", func := "congou/congoulaw09.ArraysKept", spec := "arraysKept", unfollowed := true, recurses := true, apart := false, narrowed := true }
def ArraysKeptUptoSaid : Prop := arraysKeptUptoRow.holds Try.pinned (OpenSpec.upto arraysKeptSpec)

/-- 'congoulaw09.ArraysMissing', WHERE WHAT IT READS IS OF BULK AT MOST 1048576: true; the input reads as it did. -/
def arraysMissingUptoRow : OpenClaim := { program := "ytalaadcbpjnglaa", sum := "a21a2e66e9465c641aabaac6f6829224f3c7b5917d59f19b2a29c9f723249fd0", func := "congou/congoulaw09.ArraysMissing", spec := "arraysMissing", unfollowed := true, recurses := true, apart := false, narrowed := true }
def ArraysMissingUptoSaid : Prop := arraysMissingUptoRow.holds Try.pinned (OpenSpec.upto arraysMissingSpec)

/-- 'congoulaw09.ArraysTogether', WHERE WHAT IT READS IS OF BULK AT MOST 1048576: true; the input reads as it did. -/
def arraysTogetherUptoRow : OpenClaim := { program := "ytalaadcbpjnglaa", sum := "a21a2e66e9465c641aabaac6f6829224f3c7b5917d59f19b2a29c9f723249fd0", func := "congou/congoulaw09.ArraysTogether", spec := "arraysTogether", unfollowed := true, recurses := true, apart := false, narrowed := true }
def ArraysTogetherUptoSaid : Prop := arraysTogetherUptoRow.holds Try.pinned (OpenSpec.upto arraysTogetherSpec)

end Rows
end Go.Proofs.Ytalaadcbpjnglaa
