/-
  No cell of these rows narrows 'for every input' (looked for: loops, veiled, ifaces, maps, wideKeys, modest, calm, conditions, laid).
  DERIVED. THE GIVEN ROWS OF THIS SEAT. 16 by the template 'for every input the law returns true; each argument reads behind the call as it read before'; 0 by the template 'total and deterministic' (their statements: YtflekaacffdakaaTotals.lean).
  GIVEN WITH THE SEED: the statements are not yours to turn. If you find one false, say at which input.
  Laid BY PROGRAM, IN A SANDBOX (cutbox-rows.mjs): the forced cells as the released guide's own fill.sh prints them over the translation b83eb33e42b82228… (all of the seat's roots in one cut). By AI agents, Wed Nov 11 2026. No macro, syntax, notation, axiom, sorry.
-/
import Derived.Test.YtflekaacffdakaaChecked
import GoSem.Claim
import GoSem.ClaimJoined
import GoSem.ClaimMapViews
import Derived.JoinedTies
import Derived.KernelRfl
namespace Go.Proofs.Ytflekaacffdakaa
/- THE CELL 'sum', in the pinned program and in every row, IS THE sha256 OF THE DUMP (.gsa) THAT YtflekaacffdakaaProg.lean LOADS. Nothing in Lean hashes anything: it is a label: what it is worth is what the hold of that sum in a sandbox is worth. -/
noncomputable def Try.pinned : Pinned := { name := "ytflekaacffdakaa", sum := "b83eb33e42b82228e42dd2614501313f007cc91c28ae47d78e931da5a97f7d6e", checked := Try.checked }
namespace Rows
def none {H : Type} : Left H := { results := [], args := [] }

/-- 'congoulaw06.CountsSums': WHATEVER THE INPUT: true; the input reads as it did. -/
def countsSumsSpec : ChangeSpec := { name := "countsSums", fn := fun _ => fun
  | [d] => { results := [.lit (.bool true)], args := [d] }
  | _ => none }
def countsSumsRow : OpenClaim := { program := "ytflekaacffdakaa", sum := "b83eb33e42b82228e42dd2614501313f007cc91c28ae47d78e931da5a97f7d6e", func := "congou/congoulaw06.CountsSums", spec := "countsSums", plainKeys := false, apart := false }
def CountsSumsSaid : Prop := countsSumsRow.holds Try.pinned (OpenSpec.ofChange countsSumsSpec)

/-- ITS FALSE NEIGHBOUR: 'it returns false'. Refute it at one input. -/
def countsSumsWrong : ChangeSpec := { name := "countsSums", fn := fun _ => fun
  | [d] => { results := [.lit (.bool false)], args := [d] }
  | _ => none }
def CountsSumsWrongFalsely : Prop := countsSumsRow.holds Try.pinned (OpenSpec.ofChange countsSumsWrong)

/-- 'congoulaw06.CountsOdds': WHATEVER THE INPUT: true; the input reads as it did. -/
def countsOddsSpec : ChangeSpec := { name := "countsOdds", fn := fun _ => fun
  | [d] => { results := [.lit (.bool true)], args := [d] }
  | _ => none }
def countsOddsRow : OpenClaim := { program := "ytflekaacffdakaa", sum := "b83eb33e42b82228e42dd2614501313f007cc91c28ae47d78e931da5a97f7d6e", func := "congou/congoulaw06.CountsOdds", spec := "countsOdds", plainKeys := false, apart := false }
def CountsOddsSaid : Prop := countsOddsRow.holds Try.pinned (OpenSpec.ofChange countsOddsSpec)

/-- ITS FALSE NEIGHBOUR: 'it returns false'. Refute it at one input. -/
def countsOddsWrong : ChangeSpec := { name := "countsOdds", fn := fun _ => fun
  | [d] => { results := [.lit (.bool false)], args := [d] }
  | _ => none }
def CountsOddsWrongFalsely : Prop := countsOddsRow.holds Try.pinned (OpenSpec.ofChange countsOddsWrong)

/-- 'congoulaw06.CountsExchanged': WHATEVER THE INPUT: true; the input reads as it did. -/
def countsExchangedSpec : ChangeSpec := { name := "countsExchanged", fn := fun _ => fun
  | [d] => { results := [.lit (.bool true)], args := [d] }
  | _ => none }
def countsExchangedRow : OpenClaim := { program := "ytflekaacffdakaa", sum := "b83eb33e42b82228e42dd2614501313f007cc91c28ae47d78e931da5a97f7d6e", func := "congou/congoulaw06.CountsExchanged", spec := "countsExchanged", plainKeys := false, apart := false }
def CountsExchangedSaid : Prop := countsExchangedRow.holds Try.pinned (OpenSpec.ofChange countsExchangedSpec)

/-- ITS FALSE NEIGHBOUR: 'it returns false'. Refute it at one input. -/
def countsExchangedWrong : ChangeSpec := { name := "countsExchanged", fn := fun _ => fun
  | [d] => { results := [.lit (.bool false)], args := [d] }
  | _ => none }
def CountsExchangedWrongFalsely : Prop := countsExchangedRow.holds Try.pinned (OpenSpec.ofChange countsExchangedWrong)

/-- 'congoulaw06.CountsSwaps': WHATEVER THE INPUT: true; the input reads as it did. -/
def countsSwapsSpec : ChangeSpec := { name := "countsSwaps", fn := fun _ => fun
  | [d1, d2, d3, d4, d5] => { results := [.lit (.bool true)], args := [d1, d2, d3, d4, d5] }
  | _ => none }
def countsSwapsRow : OpenClaim := { program := "ytflekaacffdakaa", sum := "b83eb33e42b82228e42dd2614501313f007cc91c28ae47d78e931da5a97f7d6e", func := "congou/congoulaw06.CountsSwaps", spec := "countsSwaps", plainKeys := false, apart := false }
def CountsSwapsSaid : Prop := countsSwapsRow.holds Try.pinned (OpenSpec.ofChange countsSwapsSpec)

/-- ITS FALSE NEIGHBOUR: 'it returns false'. Refute it at one input. -/
def countsSwapsWrong : ChangeSpec := { name := "countsSwaps", fn := fun _ => fun
  | [d1, d2, d3, d4, d5] => { results := [.lit (.bool false)], args := [d1, d2, d3, d4, d5] }
  | _ => none }
def CountsSwapsWrongFalsely : Prop := countsSwapsRow.holds Try.pinned (OpenSpec.ofChange countsSwapsWrong)

/-- 'congoulaw06.CountsOff': WHATEVER THE INPUT: true; the input reads as it did. -/
def countsOffSpec : ChangeSpec := { name := "countsOff", fn := fun _ => fun
  | [d] => { results := [.lit (.bool true)], args := [d] }
  | _ => none }
def countsOffRow : OpenClaim := { program := "ytflekaacffdakaa", sum := "b83eb33e42b82228e42dd2614501313f007cc91c28ae47d78e931da5a97f7d6e", func := "congou/congoulaw06.CountsOff", spec := "countsOff", plainKeys := false, apart := false }
def CountsOffSaid : Prop := countsOffRow.holds Try.pinned (OpenSpec.ofChange countsOffSpec)

/-- ITS FALSE NEIGHBOUR: 'it returns false'. Refute it at one input. -/
def countsOffWrong : ChangeSpec := { name := "countsOff", fn := fun _ => fun
  | [d] => { results := [.lit (.bool false)], args := [d] }
  | _ => none }
def CountsOffWrongFalsely : Prop := countsOffRow.holds Try.pinned (OpenSpec.ofChange countsOffWrong)

/-- 'congoulaw06.CountsDue': WHATEVER THE INPUT: true; the input reads as it did. -/
def countsDueSpec : ChangeSpec := { name := "countsDue", fn := fun _ => fun
  | [d] => { results := [.lit (.bool true)], args := [d] }
  | _ => none }
def countsDueRow : OpenClaim := { program := "ytflekaacffdakaa", sum := "b83eb33e42b82228e42dd2614501313f007cc91c28ae47d78e931da5a97f7d6e", func := "congou/congoulaw06.CountsDue", spec := "countsDue", plainKeys := false, apart := false }
def CountsDueSaid : Prop := countsDueRow.holds Try.pinned (OpenSpec.ofChange countsDueSpec)

/-- ITS FALSE NEIGHBOUR: 'it returns false'. Refute it at one input. -/
def countsDueWrong : ChangeSpec := { name := "countsDue", fn := fun _ => fun
  | [d] => { results := [.lit (.bool false)], args := [d] }
  | _ => none }
def CountsDueWrongFalsely : Prop := countsDueRow.holds Try.pinned (OpenSpec.ofChange countsDueWrong)

/-- 'congoulaw06.CountsCounts': WHATEVER THE INPUT: true; the input reads as it did. -/
def countsCountsSpec : ChangeSpec := { name := "countsCounts", fn := fun _ => fun
  | [d1, d2] => { results := [.lit (.bool true)], args := [d1, d2] }
  | _ => none }
def countsCountsRow : OpenClaim := { program := "ytflekaacffdakaa", sum := "b83eb33e42b82228e42dd2614501313f007cc91c28ae47d78e931da5a97f7d6e", func := "congou/congoulaw06.CountsCounts", spec := "countsCounts", unfollowed := true, recurses := true, plainKeys := false, apart := false }
def CountsCountsSaid : Prop := countsCountsRow.holds Try.pinned (OpenSpec.ofChange countsCountsSpec)

/-- ITS FALSE NEIGHBOUR: 'it returns false'. Refute it at one input. -/
def countsCountsWrong : ChangeSpec := { name := "countsCounts", fn := fun _ => fun
  | [d1, d2] => { results := [.lit (.bool false)], args := [d1, d2] }
  | _ => none }
def CountsCountsWrongFalsely : Prop := countsCountsRow.holds Try.pinned (OpenSpec.ofChange countsCountsWrong)

/-- 'congoulaw06.CountsTwo': WHATEVER THE INPUT: true; the input reads as it did. -/
def countsTwoSpec : ChangeSpec := { name := "countsTwo", fn := fun _ => fun
  | [d1, d2, d3, d4] => { results := [.lit (.bool true)], args := [d1, d2, d3, d4] }
  | _ => none }
def countsTwoRow : OpenClaim := { program := "ytflekaacffdakaa", sum := "b83eb33e42b82228e42dd2614501313f007cc91c28ae47d78e931da5a97f7d6e", func := "congou/congoulaw06.CountsTwo", spec := "countsTwo", unfollowed := true, recurses := true, plainKeys := false, apart := false }
def CountsTwoSaid : Prop := countsTwoRow.holds Try.pinned (OpenSpec.ofChange countsTwoSpec)

/-- ITS FALSE NEIGHBOUR: 'it returns false'. Refute it at one input. -/
def countsTwoWrong : ChangeSpec := { name := "countsTwo", fn := fun _ => fun
  | [d1, d2, d3, d4] => { results := [.lit (.bool false)], args := [d1, d2, d3, d4] }
  | _ => none }
def CountsTwoWrongFalsely : Prop := countsTwoRow.holds Try.pinned (OpenSpec.ofChange countsTwoWrong)

/-- 'congoulaw06.CountsFamilies': WHATEVER THE INPUT: true; the input reads as it did. -/
def countsFamiliesSpec : ChangeSpec := { name := "countsFamilies", fn := fun _ => fun
  | [d] => { results := [.lit (.bool true)], args := [d] }
  | _ => none }
def countsFamiliesRow : OpenClaim := { program := "ytflekaacffdakaa", sum := "b83eb33e42b82228e42dd2614501313f007cc91c28ae47d78e931da5a97f7d6e", func := "congou/congoulaw06.CountsFamilies", spec := "countsFamilies", unfollowed := true, recurses := true, plainKeys := false, apart := false }
def CountsFamiliesSaid : Prop := countsFamiliesRow.holds Try.pinned (OpenSpec.ofChange countsFamiliesSpec)

/-- ITS FALSE NEIGHBOUR: 'it returns false'. Refute it at one input. -/
def countsFamiliesWrong : ChangeSpec := { name := "countsFamilies", fn := fun _ => fun
  | [d] => { results := [.lit (.bool false)], args := [d] }
  | _ => none }
def CountsFamiliesWrongFalsely : Prop := countsFamiliesRow.holds Try.pinned (OpenSpec.ofChange countsFamiliesWrong)

/-- 'congoulaw06.CountsHidden': WHATEVER THE INPUT: true; the input reads as it did. -/
def countsHiddenSpec : ChangeSpec := { name := "countsHidden", fn := fun _ => fun
  | [d1, d2] => { results := [.lit (.bool true)], args := [d1, d2] }
  | _ => none }
def countsHiddenRow : OpenClaim := { program := "ytflekaacffdakaa", sum := "b83eb33e42b82228e42dd2614501313f007cc91c28ae47d78e931da5a97f7d6e", func := "congou/congoulaw06.CountsHidden", spec := "countsHidden", plainKeys := false, apart := false }
def CountsHiddenSaid : Prop := countsHiddenRow.holds Try.pinned (OpenSpec.ofChange countsHiddenSpec)

/-- ITS FALSE NEIGHBOUR: 'it returns false'. Refute it at one input. -/
def countsHiddenWrong : ChangeSpec := { name := "countsHidden", fn := fun _ => fun
  | [d1, d2] => { results := [.lit (.bool false)], args := [d1, d2] }
  | _ => none }
def CountsHiddenWrongFalsely : Prop := countsHiddenRow.holds Try.pinned (OpenSpec.ofChange countsHiddenWrong)

/-- 'congoulaw06.CountsChances': WHATEVER THE INPUT: true; the input reads as it did. -/
def countsChancesSpec : ChangeSpec := { name := "countsChances", fn := fun _ => fun
  | [d] => { results := [.lit (.bool true)], args := [d] }
  | _ => none }
def countsChancesRow : OpenClaim := { program := "ytflekaacffdakaa", sum := "b83eb33e42b82228e42dd2614501313f007cc91c28ae47d78e931da5a97f7d6e", func := "congou/congoulaw06.CountsChances", spec := "countsChances", unfollowed := true, recurses := true, plainKeys := false, apart := false }
def CountsChancesSaid : Prop := countsChancesRow.holds Try.pinned (OpenSpec.ofChange countsChancesSpec)

/-- ITS FALSE NEIGHBOUR: 'it returns false'. Refute it at one input. -/
def countsChancesWrong : ChangeSpec := { name := "countsChances", fn := fun _ => fun
  | [d] => { results := [.lit (.bool false)], args := [d] }
  | _ => none }
def CountsChancesWrongFalsely : Prop := countsChancesRow.holds Try.pinned (OpenSpec.ofChange countsChancesWrong)

/-- 'congoulaw06.CountsAll': WHATEVER THE INPUT: true; the input reads as it did. -/
def countsAllSpec : ChangeSpec := { name := "countsAll", fn := fun _ => fun
  | [d] => { results := [.lit (.bool true)], args := [d] }
  | _ => none }
def countsAllRow : OpenClaim := { program := "ytflekaacffdakaa", sum := "b83eb33e42b82228e42dd2614501313f007cc91c28ae47d78e931da5a97f7d6e", func := "congou/congoulaw06.CountsAll", spec := "countsAll", unfollowed := true, recurses := true, plainKeys := false, apart := false }
def CountsAllSaid : Prop := countsAllRow.holds Try.pinned (OpenSpec.ofChange countsAllSpec)

/-- ITS FALSE NEIGHBOUR: 'it returns false'. Refute it at one input. -/
def countsAllWrong : ChangeSpec := { name := "countsAll", fn := fun _ => fun
  | [d] => { results := [.lit (.bool false)], args := [d] }
  | _ => none }
def CountsAllWrongFalsely : Prop := countsAllRow.holds Try.pinned (OpenSpec.ofChange countsAllWrong)

/-- 'congoulaw06.CountsSame': WHATEVER THE INPUT: true; the input reads as it did. -/
def countsSameSpec : ChangeSpec := { name := "countsSame", fn := fun _ => fun
  | [d1, d2] => { results := [.lit (.bool true)], args := [d1, d2] }
  | _ => none }
def countsSameRow : OpenClaim := { program := "ytflekaacffdakaa", sum := "b83eb33e42b82228e42dd2614501313f007cc91c28ae47d78e931da5a97f7d6e", func := "congou/congoulaw06.CountsSame", spec := "countsSame", unfollowed := true, recurses := true, plainKeys := false, apart := false }
def CountsSameSaid : Prop := countsSameRow.holds Try.pinned (OpenSpec.ofChange countsSameSpec)

/-- ITS FALSE NEIGHBOUR: 'it returns false'. Refute it at one input. -/
def countsSameWrong : ChangeSpec := { name := "countsSame", fn := fun _ => fun
  | [d1, d2] => { results := [.lit (.bool false)], args := [d1, d2] }
  | _ => none }
def CountsSameWrongFalsely : Prop := countsSameRow.holds Try.pinned (OpenSpec.ofChange countsSameWrong)

/-- 'congoulaw06.CountsTurned': WHATEVER THE INPUT: true; the input reads as it did. -/
def countsTurnedSpec : ChangeSpec := { name := "countsTurned", fn := fun _ => fun
  | [d1, d2, d3] => { results := [.lit (.bool true)], args := [d1, d2, d3] }
  | _ => none }
def countsTurnedRow : OpenClaim := { program := "ytflekaacffdakaa", sum := "b83eb33e42b82228e42dd2614501313f007cc91c28ae47d78e931da5a97f7d6e", func := "congou/congoulaw06.CountsTurned", spec := "countsTurned", unfollowed := true, recurses := true, plainKeys := false, apart := false }
def CountsTurnedSaid : Prop := countsTurnedRow.holds Try.pinned (OpenSpec.ofChange countsTurnedSpec)

/-- ITS FALSE NEIGHBOUR: 'it returns false'. Refute it at one input. -/
def countsTurnedWrong : ChangeSpec := { name := "countsTurned", fn := fun _ => fun
  | [d1, d2, d3] => { results := [.lit (.bool false)], args := [d1, d2, d3] }
  | _ => none }
def CountsTurnedWrongFalsely : Prop := countsTurnedRow.holds Try.pinned (OpenSpec.ofChange countsTurnedWrong)

/-- 'congoulaw06.CountsPaths': WHATEVER THE INPUT: true; the input reads as it did. -/
def countsPathsSpec : ChangeSpec := { name := "countsPaths", fn := fun _ => fun
  | [d1, d2, d3] => { results := [.lit (.bool true)], args := [d1, d2, d3] }
  | _ => none }
def countsPathsRow : OpenClaim := { program := "ytflekaacffdakaa", sum := "b83eb33e42b82228e42dd2614501313f007cc91c28ae47d78e931da5a97f7d6e", func := "congou/congoulaw06.CountsPaths", spec := "countsPaths", unfollowed := true, recurses := true, plainKeys := false, apart := false }
def CountsPathsSaid : Prop := countsPathsRow.holds Try.pinned (OpenSpec.ofChange countsPathsSpec)

/-- ITS FALSE NEIGHBOUR: 'it returns false'. Refute it at one input. -/
def countsPathsWrong : ChangeSpec := { name := "countsPaths", fn := fun _ => fun
  | [d1, d2, d3] => { results := [.lit (.bool false)], args := [d1, d2, d3] }
  | _ => none }
def CountsPathsWrongFalsely : Prop := countsPathsRow.holds Try.pinned (OpenSpec.ofChange countsPathsWrong)

/-- 'congoulaw06.CountsLed': WHATEVER THE INPUT: true; the input reads as it did. -/
def countsLedSpec : ChangeSpec := { name := "countsLed", fn := fun _ => fun
  | [d1, d2, d3, d4, d5, d6, d7] => { results := [.lit (.bool true)], args := [d1, d2, d3, d4, d5, d6, d7] }
  | _ => none }
def countsLedRow : OpenClaim := { program := "ytflekaacffdakaa", sum := "b83eb33e42b82228e42dd2614501313f007cc91c28ae47d78e931da5a97f7d6e", func := "congou/congoulaw06.CountsLed", spec := "countsLed", unfollowed := true, recurses := true, plainKeys := false, apart := false }
def CountsLedSaid : Prop := countsLedRow.holds Try.pinned (OpenSpec.ofChange countsLedSpec)

/-- ITS FALSE NEIGHBOUR: 'it returns false'. Refute it at one input. -/
def countsLedWrong : ChangeSpec := { name := "countsLed", fn := fun _ => fun
  | [d1, d2, d3, d4, d5, d6, d7] => { results := [.lit (.bool false)], args := [d1, d2, d3, d4, d5, d6, d7] }
  | _ => none }
def CountsLedWrongFalsely : Prop := countsLedRow.holds Try.pinned (OpenSpec.ofChange countsLedWrong)

/- THE SECOND FORM. 'bulk': how many values and letters a reading holds, each counted each time it is reached (what is shared counts as often as it is met; a slice's spare places count too). A statement '..UptoSaid' is the law's where the arguments, and the package variables that the reading takes, are together of bulk at most 1048576: NARROWER than '..Said'. Prove '..Said' where nothing that the law and all that it calls make is longer than what came in: it says more and counts as full. Else prove '..UptoSaid'. A law counts once. -/
mutual
def uptoBulk {H : Type} : DataW H → Nat
  | .lit (.string bytes) => bytes.length + 1
  | .lit _ => 1
  | .nil => 1
  | .ptr d => uptoBulk d + 1
  | .slice elems spare => uptoBulkAll elems + uptoBulkAll spare + 1
  | .agg parts => uptoBulkAll parts + 1
  | .iface _ d => uptoBulk d + 1
  | .map entries => uptoBulkEntries entries + 1
  | .held _ => 1
def uptoBulkAll {H : Type} : List (DataW H) → Nat
  | [] => 0
  | d :: r => uptoBulk d + uptoBulkAll r
def uptoBulkEntries {H : Type} : List (Lit × DataW H) → Nat
  | [] => 0
  | x :: r => uptoBulkEntry x + uptoBulkEntries r
def uptoBulkEntry {H : Type} : Lit × DataW H → Nat
  | (.string bytes, d) => bytes.length + uptoBulk d + 1
  | (_, d) => uptoBulk d + 1
 end
def uptoSmall : (H : Type) → List (DataW H) → Bool := fun _ ds => decide (uptoBulkAll ds ≤ 1048576)
def OpenSpec.upto (s : _root_.Go.ChangeSpec) : _root_.Go.OpenSpec := { _root_.Go.OpenSpec.ofChange s with cond := some uptoSmall }

/-- 'congoulaw06.CountsSums', WHERE WHAT IT READS IS OF BULK AT MOST 1048576: true; the input reads as it did. -/
def countsSumsUptoRow : OpenClaim := { program := "ytflekaacffdakaa", sum := "b83eb33e42b82228e42dd2614501313f007cc91c28ae47d78e931da5a97f7d6e", func := "congou/congoulaw06.CountsSums", spec := "countsSums", plainKeys := false, apart := false, narrowed := true }
def CountsSumsUptoSaid : Prop := countsSumsUptoRow.holds Try.pinned (OpenSpec.upto countsSumsSpec)

/-- 'congoulaw06.CountsOdds', WHERE WHAT IT READS IS OF BULK AT MOST 1048576: true; the input reads as it did. -/
def countsOddsUptoRow : OpenClaim := { program := "ytflekaacffdakaa", sum := "b83eb33e42b82228e42dd2614501313f007cc91c28ae47d78e931da5a97f7d6e", func := "congou/congoulaw06.CountsOdds", spec := "countsOdds", plainKeys := false, apart := false, narrowed := true }
def CountsOddsUptoSaid : Prop := countsOddsUptoRow.holds Try.pinned (OpenSpec.upto countsOddsSpec)

/-- 'congoulaw06.CountsExchanged', WHERE WHAT IT READS IS OF BULK AT MOST 1048576: true; the input reads as it did. -/
def countsExchangedUptoRow : OpenClaim := { program := "ytflekaacffdakaa", sum := "b83eb33e42b82228e42dd2614501313f007cc91c28ae47d78e931da5a97f7d6e", func := "congou/congoulaw06.CountsExchanged", spec := "countsExchanged", plainKeys := false, apart := false, narrowed := true }
def CountsExchangedUptoSaid : Prop := countsExchangedUptoRow.holds Try.pinned (OpenSpec.upto countsExchangedSpec)

/-- 'congoulaw06.CountsSwaps', WHERE WHAT IT READS IS OF BULK AT MOST 1048576: true; the input reads as it did. -/
def countsSwapsUptoRow : OpenClaim := { program := "ytflekaacffdakaa", sum := "b83eb33e42b82228e42dd2614501313f007cc91c28ae47d78e931da5a97f7d6e", func := "congou/congoulaw06.CountsSwaps", spec := "countsSwaps", plainKeys := false, apart := false, narrowed := true }
def CountsSwapsUptoSaid : Prop := countsSwapsUptoRow.holds Try.pinned (OpenSpec.upto countsSwapsSpec)

/-- 'congoulaw06.CountsOff', WHERE WHAT IT READS IS OF BULK AT MOST 1048576: true; the input reads as it did. -/
def countsOffUptoRow : OpenClaim := { program := "ytflekaacffdakaa", sum := "b83eb33e42b82228e42dd2614501313f007cc91c28ae47d78e931da5a97f7d6e", func := "congou/congoulaw06.CountsOff", spec := "countsOff", plainKeys := false, apart := false, narrowed := true }
def CountsOffUptoSaid : Prop := countsOffUptoRow.holds Try.pinned (OpenSpec.upto countsOffSpec)

/-- 'congoulaw06.CountsDue', WHERE WHAT IT READS IS OF BULK AT MOST 1048576: true; the input reads as it did. -/
def countsDueUptoRow : OpenClaim := { program := "ytflekaacffdakaa", sum := "b83eb33e42b82228e42dd2614501313f007cc91c28ae47d78e931da5a97f7d6e", func := "congou/congoulaw06.CountsDue", spec := "countsDue", plainKeys := false, apart := false, narrowed := true }
def CountsDueUptoSaid : Prop := countsDueUptoRow.holds Try.pinned (OpenSpec.upto countsDueSpec)

/-- 'congoulaw06.CountsCounts', WHERE WHAT IT READS IS OF BULK AT MOST 1048576: true; the input reads as it did. -/
def countsCountsUptoRow : OpenClaim := { program := "ytflekaacffdakaa", sum := "b83eb33e42b82228e42dd2614501313f007cc91c28ae47d78e931da5a97f7d6e", func := "congou/congoulaw06.CountsCounts", spec := "countsCounts", unfollowed := true, recurses := true, plainKeys := false, apart := false, narrowed := true }
def CountsCountsUptoSaid : Prop := countsCountsUptoRow.holds Try.pinned (OpenSpec.upto countsCountsSpec)

/-- 'congoulaw06.CountsTwo', WHERE WHAT IT READS IS OF BULK AT MOST 1048576: true; the input reads as it did. -/
def countsTwoUptoRow : OpenClaim := { program := "ytflekaacffdakaa", sum := "b83eb33e42b82228e42dd2614501313f007cc91c28ae47d78e931da5a97f7d6e", func := "congou/congoulaw06.CountsTwo", spec := "countsTwo", unfollowed := true, recurses := true, plainKeys := false, apart := false, narrowed := true }
def CountsTwoUptoSaid : Prop := countsTwoUptoRow.holds Try.pinned (OpenSpec.upto countsTwoSpec)

/-- 'congoulaw06.CountsFamilies', WHERE WHAT IT READS IS OF BULK AT MOST 1048576: true; the input reads as it did. -/
def countsFamiliesUptoRow : OpenClaim := { program := "ytflekaacffdakaa", sum := "b83eb33e42b82228e42dd2614501313f007cc91c28ae47d78e931da5a97f7d6e", func := "congou/congoulaw06.CountsFamilies", spec := "countsFamilies", unfollowed := true, recurses := true, plainKeys := false, apart := false, narrowed := true }
def CountsFamiliesUptoSaid : Prop := countsFamiliesUptoRow.holds Try.pinned (OpenSpec.upto countsFamiliesSpec)

/-- 'congoulaw06.CountsHidden', WHERE WHAT IT READS IS OF BULK AT MOST 1048576: true; the input reads as it did. -/
def countsHiddenUptoRow : OpenClaim := { program := "ytflekaacffdakaa", sum := "b83eb33e42b82228e42dd2614501313f007cc91c28ae47d78e931da5a97f7d6e", func := "congou/congoulaw06.CountsHidden", spec := "countsHidden", plainKeys := false, apart := false, narrowed := true }
def CountsHiddenUptoSaid : Prop := countsHiddenUptoRow.holds Try.pinned (OpenSpec.upto countsHiddenSpec)

/-- 'congoulaw06.CountsChances', WHERE WHAT IT READS IS OF BULK AT MOST 1048576: true; the input reads as it did. -/
def countsChancesUptoRow : OpenClaim := { program := "ytflekaacffdakaa", sum := "b83eb33e42b82228e42dd2614501313f007cc91c28ae47d78e931da5a97f7d6e", func := "congou/congoulaw06.CountsChances", spec := "countsChances", unfollowed := true, recurses := true, plainKeys := false, apart := false, narrowed := true }
def CountsChancesUptoSaid : Prop := countsChancesUptoRow.holds Try.pinned (OpenSpec.upto countsChancesSpec)

/-- 'congoulaw06.CountsAll', WHERE WHAT IT READS IS OF BULK AT MOST 1048576: true; the input reads as it did. -/
def countsAllUptoRow : OpenClaim := { program := "ytflekaacffdakaa", sum := "b83eb33e42b82228e42dd2614501313f007cc91c28ae47d78e931da5a97f7d6e", func := "congou/congoulaw06.CountsAll", spec := "countsAll", unfollowed := true, recurses := true, plainKeys := false, apart := false, narrowed := true }
def CountsAllUptoSaid : Prop := countsAllUptoRow.holds Try.pinned (OpenSpec.upto countsAllSpec)

/-- 'congoulaw06.CountsSame', WHERE WHAT IT READS IS OF BULK AT MOST 1048576: true; the input reads as it did. -/
def countsSameUptoRow : OpenClaim := { program := "ytflekaacffdakaa", sum := "b83eb33e42b82228e42dd2614501313f007cc91c28ae47d78e931da5a97f7d6e", func := "congou/congoulaw06.CountsSame", spec := "countsSame", unfollowed := true, recurses := true, plainKeys := false, apart := false, narrowed := true }
def CountsSameUptoSaid : Prop := countsSameUptoRow.holds Try.pinned (OpenSpec.upto countsSameSpec)

/-- 'congoulaw06.CountsTurned', WHERE WHAT IT READS IS OF BULK AT MOST 1048576: true; the input reads as it did. -/
def countsTurnedUptoRow : OpenClaim := { program := "ytflekaacffdakaa", sum := "b83eb33e42b82228e42dd2614501313f007cc91c28ae47d78e931da5a97f7d6e", func := "congou/congoulaw06.CountsTurned", spec := "countsTurned", unfollowed := true, recurses := true, plainKeys := false, apart := false, narrowed := true }
def CountsTurnedUptoSaid : Prop := countsTurnedUptoRow.holds Try.pinned (OpenSpec.upto countsTurnedSpec)

/-- 'congoulaw06.CountsPaths', WHERE WHAT IT READS IS OF BULK AT MOST 1048576: true; the input reads as it did. -/
def countsPathsUptoRow : OpenClaim := { program := "ytflekaacffdakaa", sum := "b83eb33e42b82228e42dd2614501313f007cc91c28ae47d78e931da5a97f7d6e", func := "congou/congoulaw06.CountsPaths", spec := "countsPaths", unfollowed := true, recurses := true, plainKeys := false, apart := false, narrowed := true }
def CountsPathsUptoSaid : Prop := countsPathsUptoRow.holds Try.pinned (OpenSpec.upto countsPathsSpec)

/-- 'congoulaw06.CountsLed', WHERE WHAT IT READS IS OF BULK AT MOST 1048576: true; the input reads as it did. -/
def countsLedUptoRow : OpenClaim := { program := "ytflekaacffdakaa", sum := "b83eb33e42b82228e42dd2614501313f007cc91c28ae47d78e931da5a97f7d6e", func := "congou/congoulaw06.CountsLed", spec := "countsLed", unfollowed := true, recurses := true, plainKeys := false, apart := false, narrowed := true }
def CountsLedUptoSaid : Prop := countsLedUptoRow.holds Try.pinned (OpenSpec.upto countsLedSpec)

end Rows
end Go.Proofs.Ytflekaacffdakaa
