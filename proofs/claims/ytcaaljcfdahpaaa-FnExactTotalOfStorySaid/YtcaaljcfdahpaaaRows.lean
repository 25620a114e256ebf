/-
  No cell of these rows narrows 'for every input' (looked for: loops, veiled, ifaces, maps, wideKeys, modest, calm, conditions, laid).
  DERIVED. THE GIVEN ROWS OF THIS SEAT. 12 by the template 'for every input the law returns true; each argument reads behind the call as it read before'; 0 by the template 'total and deterministic' (their statements: YtcaaljcfdahpaaaTotals.lean).
  GIVEN WITH THE SEED: the statements are not yours to turn. If you find one false, say at which input.
  Laid BY PROGRAM, IN A SANDBOX (cutbox-rows.mjs): the forced cells as the released guide's own fill.sh prints them over the translation 3ab35ccf31332aa7… (all of the seat's roots in one cut). By AI agents, Wed Nov 11 2026. No macro, syntax, notation, axiom, sorry.
-/
import Derived.Test.YtcaaljcfdahpaaaChecked
import GoSem.Claim
import GoSem.ClaimJoined
import GoSem.ClaimMapViews
import Derived.JoinedTies
import Derived.KernelRfl
namespace Go.Proofs.Ytcaaljcfdahpaaa
/- THE CELL 'sum', in the pinned program and in every row, IS THE sha256 OF THE DUMP (.gsa) THAT YtcaaljcfdahpaaaProg.lean LOADS. Nothing in Lean hashes anything: it is a label: what it is worth is what the hold of that sum in a sandbox is worth. -/
noncomputable def Try.pinned : Pinned := { name := "ytcaaljcfdahpaaa", sum := "3ab35ccf31332aa769bcacb65bfbc0b4fdd6adb0e51ce6008a05ca3dab5fd227", checked := Try.checked }
namespace Rows
def none {H : Type} : Left H := { results := [], args := [] }

/-- 'laws.FnPossible': WHATEVER THE INPUT: true; the input reads as it did. -/
def fnPossibleSpec : ChangeSpec := { name := "fnPossible", fn := fun _ => fun
  | [d1, d2] => { results := [.lit (.bool true)], args := [d1, d2] }
  | _ => none }
def fnPossibleRow : OpenClaim := { program := "ytcaaljcfdahpaaa", sum := "3ab35ccf31332aa769bcacb65bfbc0b4fdd6adb0e51ce6008a05ca3dab5fd227", func := "loop.example/g01278/laws.FnPossible", spec := "fnPossible", unfollowed := true, recurses := true, apart := false }
def FnPossibleSaid : Prop := fnPossibleRow.holds Try.pinned (OpenSpec.ofChange fnPossibleSpec)

/-- ITS FALSE NEIGHBOUR: 'it returns false'. Refute it at one input. -/
def fnPossibleWrong : ChangeSpec := { name := "fnPossible", fn := fun _ => fun
  | [d1, d2] => { results := [.lit (.bool false)], args := [d1, d2] }
  | _ => none }
def FnPossibleWrongFalsely : Prop := fnPossibleRow.holds Try.pinned (OpenSpec.ofChange fnPossibleWrong)

/-- 'laws.FnExactTightestFlow': WHATEVER THE INPUT: true; the input reads as it did. -/
def fnExactTightestFlowSpec : ChangeSpec := { name := "fnExactTightestFlow", fn := fun _ => fun
  | [d1, d2, d3] => { results := [.lit (.bool true)], args := [d1, d2, d3] }
  | _ => none }
def fnExactTightestFlowRow : OpenClaim := { program := "ytcaaljcfdahpaaa", sum := "3ab35ccf31332aa769bcacb65bfbc0b4fdd6adb0e51ce6008a05ca3dab5fd227", func := "loop.example/g01278/laws.FnExactTightestFlow", spec := "fnExactTightestFlow", unfollowed := true, recurses := true, apart := false }
def FnExactTightestFlowSaid : Prop := fnExactTightestFlowRow.holds Try.pinned (OpenSpec.ofChange fnExactTightestFlowSpec)

/-- ITS FALSE NEIGHBOUR: 'it returns false'. Refute it at one input. -/
def fnExactTightestFlowWrong : ChangeSpec := { name := "fnExactTightestFlow", fn := fun _ => fun
  | [d1, d2, d3] => { results := [.lit (.bool false)], args := [d1, d2, d3] }
  | _ => none }
def FnExactTightestFlowWrongFalsely : Prop := fnExactTightestFlowRow.holds Try.pinned (OpenSpec.ofChange fnExactTightestFlowWrong)

/-- 'laws.FnExactRightDigits': WHATEVER THE INPUT: true; the input reads as it did. -/
def fnExactRightDigitsSpec : ChangeSpec := { name := "fnExactRightDigits", fn := fun _ => fun
  | [d1, d2] => { results := [.lit (.bool true)], args := [d1, d2] }
  | _ => none }
def fnExactRightDigitsRow : OpenClaim := { program := "ytcaaljcfdahpaaa", sum := "3ab35ccf31332aa769bcacb65bfbc0b4fdd6adb0e51ce6008a05ca3dab5fd227", func := "loop.example/g01278/laws.FnExactRightDigits", spec := "fnExactRightDigits", unfollowed := true, recurses := true, apart := false }
def FnExactRightDigitsSaid : Prop := fnExactRightDigitsRow.holds Try.pinned (OpenSpec.ofChange fnExactRightDigitsSpec)

/-- ITS FALSE NEIGHBOUR: 'it returns false'. Refute it at one input. -/
def fnExactRightDigitsWrong : ChangeSpec := { name := "fnExactRightDigits", fn := fun _ => fun
  | [d1, d2] => { results := [.lit (.bool false)], args := [d1, d2] }
  | _ => none }
def FnExactRightDigitsWrongFalsely : Prop := fnExactRightDigitsRow.holds Try.pinned (OpenSpec.ofChange fnExactRightDigitsWrong)

/-- 'laws.FnExactSuspectsOf': WHATEVER THE INPUT: true; the input reads as it did. -/
def fnExactSuspectsOfSpec : ChangeSpec := { name := "fnExactSuspectsOf", fn := fun _ => fun
  | [d1, d2, d3] => { results := [.lit (.bool true)], args := [d1, d2, d3] }
  | _ => none }
def fnExactSuspectsOfRow : OpenClaim := { program := "ytcaaljcfdahpaaa", sum := "3ab35ccf31332aa769bcacb65bfbc0b4fdd6adb0e51ce6008a05ca3dab5fd227", func := "loop.example/g01278/laws.FnExactSuspectsOf", spec := "fnExactSuspectsOf", unfollowed := true, recurses := true, apart := false }
def FnExactSuspectsOfSaid : Prop := fnExactSuspectsOfRow.holds Try.pinned (OpenSpec.ofChange fnExactSuspectsOfSpec)

/-- ITS FALSE NEIGHBOUR: 'it returns false'. Refute it at one input. -/
def fnExactSuspectsOfWrong : ChangeSpec := { name := "fnExactSuspectsOf", fn := fun _ => fun
  | [d1, d2, d3] => { results := [.lit (.bool false)], args := [d1, d2, d3] }
  | _ => none }
def FnExactSuspectsOfWrongFalsely : Prop := fnExactSuspectsOfRow.holds Try.pinned (OpenSpec.ofChange fnExactSuspectsOfWrong)

/-- 'laws.FnExactPartsAt': WHATEVER THE INPUT: true; the input reads as it did. -/
def fnExactPartsAtSpec : ChangeSpec := { name := "fnExactPartsAt", fn := fun _ => fun
  | [d1, d2] => { results := [.lit (.bool true)], args := [d1, d2] }
  | _ => none }
def fnExactPartsAtRow : OpenClaim := { program := "ytcaaljcfdahpaaa", sum := "3ab35ccf31332aa769bcacb65bfbc0b4fdd6adb0e51ce6008a05ca3dab5fd227", func := "loop.example/g01278/laws.FnExactPartsAt", spec := "fnExactPartsAt", unfollowed := true, recurses := true, apart := false }
def FnExactPartsAtSaid : Prop := fnExactPartsAtRow.holds Try.pinned (OpenSpec.ofChange fnExactPartsAtSpec)

/-- ITS FALSE NEIGHBOUR: 'it returns false'. Refute it at one input. -/
def fnExactPartsAtWrong : ChangeSpec := { name := "fnExactPartsAt", fn := fun _ => fun
  | [d1, d2] => { results := [.lit (.bool false)], args := [d1, d2] }
  | _ => none }
def FnExactPartsAtWrongFalsely : Prop := fnExactPartsAtRow.holds Try.pinned (OpenSpec.ofChange fnExactPartsAtWrong)

/-- 'laws.FnExactFirstMove': WHATEVER THE INPUT: true; the input reads as it did. -/
def fnExactFirstMoveSpec : ChangeSpec := { name := "fnExactFirstMove", fn := fun _ => fun
  | [d1, d2] => { results := [.lit (.bool true)], args := [d1, d2] }
  | _ => none }
def fnExactFirstMoveRow : OpenClaim := { program := "ytcaaljcfdahpaaa", sum := "3ab35ccf31332aa769bcacb65bfbc0b4fdd6adb0e51ce6008a05ca3dab5fd227", func := "loop.example/g01278/laws.FnExactFirstMove", spec := "fnExactFirstMove", unfollowed := true, recurses := true, apart := false }
def FnExactFirstMoveSaid : Prop := fnExactFirstMoveRow.holds Try.pinned (OpenSpec.ofChange fnExactFirstMoveSpec)

/-- ITS FALSE NEIGHBOUR: 'it returns false'. Refute it at one input. -/
def fnExactFirstMoveWrong : ChangeSpec := { name := "fnExactFirstMove", fn := fun _ => fun
  | [d1, d2] => { results := [.lit (.bool false)], args := [d1, d2] }
  | _ => none }
def FnExactFirstMoveWrongFalsely : Prop := fnExactFirstMoveRow.holds Try.pinned (OpenSpec.ofChange fnExactFirstMoveWrong)

/-- 'laws.FnExactMovingWheels': WHATEVER THE INPUT: true; the input reads as it did. -/
def fnExactMovingWheelsSpec : ChangeSpec := { name := "fnExactMovingWheels", fn := fun _ => fun
  | [d1, d2] => { results := [.lit (.bool true)], args := [d1, d2] }
  | _ => none }
def fnExactMovingWheelsRow : OpenClaim := { program := "ytcaaljcfdahpaaa", sum := "3ab35ccf31332aa769bcacb65bfbc0b4fdd6adb0e51ce6008a05ca3dab5fd227", func := "loop.example/g01278/laws.FnExactMovingWheels", spec := "fnExactMovingWheels", unfollowed := true, recurses := true, apart := false }
def FnExactMovingWheelsSaid : Prop := fnExactMovingWheelsRow.holds Try.pinned (OpenSpec.ofChange fnExactMovingWheelsSpec)

/-- ITS FALSE NEIGHBOUR: 'it returns false'. Refute it at one input. -/
def fnExactMovingWheelsWrong : ChangeSpec := { name := "fnExactMovingWheels", fn := fun _ => fun
  | [d1, d2] => { results := [.lit (.bool false)], args := [d1, d2] }
  | _ => none }
def FnExactMovingWheelsWrongFalsely : Prop := fnExactMovingWheelsRow.holds Try.pinned (OpenSpec.ofChange fnExactMovingWheelsWrong)

/-- 'laws.FnExactWorstRead': WHATEVER THE INPUT: true; the input reads as it did. -/
def fnExactWorstReadSpec : ChangeSpec := { name := "fnExactWorstRead", fn := fun _ => fun
  | [d1, d2, d3, d4] => { results := [.lit (.bool true)], args := [d1, d2, d3, d4] }
  | _ => none }
def fnExactWorstReadRow : OpenClaim := { program := "ytcaaljcfdahpaaa", sum := "3ab35ccf31332aa769bcacb65bfbc0b4fdd6adb0e51ce6008a05ca3dab5fd227", func := "loop.example/g01278/laws.FnExactWorstRead", spec := "fnExactWorstRead", unfollowed := true, recurses := true, apart := false }
def FnExactWorstReadSaid : Prop := fnExactWorstReadRow.holds Try.pinned (OpenSpec.ofChange fnExactWorstReadSpec)

/-- ITS FALSE NEIGHBOUR: 'it returns false'. Refute it at one input. -/
def fnExactWorstReadWrong : ChangeSpec := { name := "fnExactWorstRead", fn := fun _ => fun
  | [d1, d2, d3, d4] => { results := [.lit (.bool false)], args := [d1, d2, d3, d4] }
  | _ => none }
def FnExactWorstReadWrongFalsely : Prop := fnExactWorstReadRow.holds Try.pinned (OpenSpec.ofChange fnExactWorstReadWrong)

/-- 'laws.FnExactCheckStory': WHATEVER THE INPUT: true; the input reads as it did. -/
def fnExactCheckStorySpec : ChangeSpec := { name := "fnExactCheckStory", fn := fun _ => fun
  | [d1, d2, d3, d4] => { results := [.lit (.bool true)], args := [d1, d2, d3, d4] }
  | _ => none }
def fnExactCheckStoryRow : OpenClaim := { program := "ytcaaljcfdahpaaa", sum := "3ab35ccf31332aa769bcacb65bfbc0b4fdd6adb0e51ce6008a05ca3dab5fd227", func := "loop.example/g01278/laws.FnExactCheckStory", spec := "fnExactCheckStory", unfollowed := true, recurses := true, apart := false }
def FnExactCheckStorySaid : Prop := fnExactCheckStoryRow.holds Try.pinned (OpenSpec.ofChange fnExactCheckStorySpec)

/-- ITS FALSE NEIGHBOUR: 'it returns false'. Refute it at one input. -/
def fnExactCheckStoryWrong : ChangeSpec := { name := "fnExactCheckStory", fn := fun _ => fun
  | [d1, d2, d3, d4] => { results := [.lit (.bool false)], args := [d1, d2, d3, d4] }
  | _ => none }
def FnExactCheckStoryWrongFalsely : Prop := fnExactCheckStoryRow.holds Try.pinned (OpenSpec.ofChange fnExactCheckStoryWrong)

/-- 'laws.FnExactWrongWheels': WHATEVER THE INPUT: true; the input reads as it did. -/
def fnExactWrongWheelsSpec : ChangeSpec := { name := "fnExactWrongWheels", fn := fun _ => fun
  | [d1, d2, d3] => { results := [.lit (.bool true)], args := [d1, d2, d3] }
  | _ => none }
def fnExactWrongWheelsRow : OpenClaim := { program := "ytcaaljcfdahpaaa", sum := "3ab35ccf31332aa769bcacb65bfbc0b4fdd6adb0e51ce6008a05ca3dab5fd227", func := "loop.example/g01278/laws.FnExactWrongWheels", spec := "fnExactWrongWheels", unfollowed := true, recurses := true, apart := false }
def FnExactWrongWheelsSaid : Prop := fnExactWrongWheelsRow.holds Try.pinned (OpenSpec.ofChange fnExactWrongWheelsSpec)

/-- ITS FALSE NEIGHBOUR: 'it returns false'. Refute it at one input. -/
def fnExactWrongWheelsWrong : ChangeSpec := { name := "fnExactWrongWheels", fn := fun _ => fun
  | [d1, d2, d3] => { results := [.lit (.bool false)], args := [d1, d2, d3] }
  | _ => none }
def FnExactWrongWheelsWrongFalsely : Prop := fnExactWrongWheelsRow.holds Try.pinned (OpenSpec.ofChange fnExactWrongWheelsWrong)

/-- 'laws.FnExactTotalOfStory': WHATEVER THE INPUT: true; the input reads as it did. -/
def fnExactTotalOfStorySpec : ChangeSpec := { name := "fnExactTotalOfStory", fn := fun _ => fun
  | [d1, d2, d3, d4] => { results := [.lit (.bool true)], args := [d1, d2, d3, d4] }
  | _ => none }
def fnExactTotalOfStoryRow : OpenClaim := { program := "ytcaaljcfdahpaaa", sum := "3ab35ccf31332aa769bcacb65bfbc0b4fdd6adb0e51ce6008a05ca3dab5fd227", func := "loop.example/g01278/laws.FnExactTotalOfStory", spec := "fnExactTotalOfStory", unfollowed := true, recurses := true, apart := false }
def FnExactTotalOfStorySaid : Prop := fnExactTotalOfStoryRow.holds Try.pinned (OpenSpec.ofChange fnExactTotalOfStorySpec)

/-- ITS FALSE NEIGHBOUR: 'it returns false'. Refute it at one input. -/
def fnExactTotalOfStoryWrong : ChangeSpec := { name := "fnExactTotalOfStory", fn := fun _ => fun
  | [d1, d2, d3, d4] => { results := [.lit (.bool false)], args := [d1, d2, d3, d4] }
  | _ => none }
def FnExactTotalOfStoryWrongFalsely : Prop := fnExactTotalOfStoryRow.holds Try.pinned (OpenSpec.ofChange fnExactTotalOfStoryWrong)

/-- 'laws.FnTight': WHATEVER THE INPUT: true; the input reads as it did. -/
def fnTightSpec : ChangeSpec := { name := "fnTight", fn := fun _ => fun
  | [d1, d2] => { results := [.lit (.bool true)], args := [d1, d2] }
  | _ => none }
def fnTightRow : OpenClaim := { program := "ytcaaljcfdahpaaa", sum := "3ab35ccf31332aa769bcacb65bfbc0b4fdd6adb0e51ce6008a05ca3dab5fd227", func := "loop.example/g01278/laws.FnTight", spec := "fnTight", unfollowed := true, recurses := true, apart := false }
def FnTightSaid : Prop := fnTightRow.holds Try.pinned (OpenSpec.ofChange fnTightSpec)

/-- ITS FALSE NEIGHBOUR: 'it returns false'. Refute it at one input. -/
def fnTightWrong : ChangeSpec := { name := "fnTight", fn := fun _ => fun
  | [d1, d2] => { results := [.lit (.bool false)], args := [d1, d2] }
  | _ => none }
def FnTightWrongFalsely : Prop := fnTightRow.holds Try.pinned (OpenSpec.ofChange fnTightWrong)

/- THE SECOND FORM. 'bulk': how many values and letters a reading holds, each counted each time it is reached (what is shared counts as often as it is met; a slice's spare places count too). A statement '..UptoSaid' is the law's where the arguments, and the package variables that the reading takes, are together of bulk at most 1048576: NARROWER than '..Said'. Prove '..Said' where nothing that the law and all that it calls make is longer than what came in: it says more and counts as full. Else prove '..UptoSaid'. A law counts once. -/
mutual
def uptoBulk {H : Type} : DataW H → Nat
  | .lit (.string bytes) => bytes.length + 1
  | .lit _ => 1
  | .nil => 1
  | .ptr d => uptoBulk d + 1
  | .slice elems spare => uptoBulkAll elems + uptoBulkAll spare + 1
  | .agg parts => uptoBulkAll parts + 1
  | .iface _ d => uptoBulk d + 1
  | .map entries => uptoBulkEntries entries + 1
  | .held _ => 1
def uptoBulkAll {H : Type} : List (DataW H) → Nat
  | [] => 0
  | d :: r => uptoBulk d + uptoBulkAll r
def uptoBulkEntries {H : Type} : List (Lit × DataW H) → Nat
  | [] => 0
  | x :: r => uptoBulkEntry x + uptoBulkEntries r
def uptoBulkEntry {H : Type} : Lit × DataW H → Nat
  | (.string bytes, d) => bytes.length + uptoBulk d + 1
  | (_, d) => uptoBulk d + 1
 end
def uptoSmall : (H : Type) → List (DataW H) → Bool := fun _ ds => decide (uptoBulkAll ds ≤ 1048576)
def OpenSpec.upto (s : _root_.Go.ChangeSpec) : _root_.Go.OpenSpec := { _root_.Go.OpenSpec.ofChange s with cond := some uptoSmall }

/-- 'laws.FnPossible', WHERE WHAT IT READS IS OF BULK AT MOST 1048576: true; the input reads as it did. -/
def fnPossibleUptoRow : OpenClaim := { program := "ytcaaljcfdahpaaa", sum := "3ab35ccf31332aa769bcacb65bfbc0b4fdd6adb0e51ce6008a05ca3dab5fd227", func := "loop.example/g01278/laws.FnPossible", spec := "fnPossible", unfollowed := true, recurses := true, apart := false, narrowed := true }
def FnPossibleUptoSaid : Prop := fnPossibleUptoRow.holds Try.pinned (OpenSpec.upto fnPossibleSpec)

/-- 'laws.FnExactTightestFlow', WHERE WHAT IT READS IS OF BULK AT MOST 1048576: true; the input reads as it did. -/
def fnExactTightestFlowUptoRow : OpenClaim := { program := "ytcaaljcfdahpaaa", sum := "3ab35ccf31332aa769bcacb65bfbc0b4fdd6adb0e51ce6008a05ca3dab5fd227", func := "loop.example/g01278/laws.FnExactTightestFlow", spec := "fnExactTightestFlow", unfollowed := true, recurses := true, apart := false, narrowed := true }
def FnExactTightestFlowUptoSaid : Prop := fnExactTightestFlowUptoRow.holds Try.pinned (OpenSpec.upto fnExactTightestFlowSpec)

/-- 'laws.FnExactRightDigits', WHERE WHAT IT READS IS OF BULK AT MOST 1048576: true; the input reads as it did. -/
def fnExactRightDigitsUptoRow : OpenClaim := { program := "ytcaaljcfdahpaaa", sum := "3ab35ccf31332aa769bcacb65bfbc0b4fdd6adb0e51ce6008a05ca3dab5fd227", func := "loop.example/g01278/laws.FnExactRightDigits", spec := "fnExactRightDigits", unfollowed := true, recurses := true, apart := false, narrowed := true }
def FnExactRightDigitsUptoSaid : Prop := fnExactRightDigitsUptoRow.holds Try.pinned (OpenSpec.upto fnExactRightDigitsSpec)

/-- 'laws.FnExactSuspectsOf', WHERE WHAT IT READS IS OF BULK AT MOST 1048576: true; the input reads as it did. -/
def fnExactSuspectsOfUptoRow : OpenClaim := { program := "ytcaaljcfdahpaaa", sum := "3ab35ccf31332aa769bcacb65bfbc0b4fdd6adb0e51ce6008a05ca3dab5fd227", func := "loop.example/g01278/laws.FnExactSuspectsOf", spec := "fnExactSuspectsOf", unfollowed := true, recurses := true, apart := false, narrowed := true }
def FnExactSuspectsOfUptoSaid : Prop := fnExactSuspectsOfUptoRow.holds Try.pinned (OpenSpec.upto fnExactSuspectsOfSpec)

/-- 'laws.FnExactPartsAt', WHERE WHAT IT READS IS OF BULK AT MOST 1048576: true; the input reads as it did. -/
def fnExactPartsAtUptoRow : OpenClaim := { program := "ytcaaljcfdahpaaa", sum := "3ab35ccf31332aa769bcacb65bfbc0b4fdd6adb0e51ce6008a05ca3dab5fd227", func := "loop.example/g01278/laws.FnExactPartsAt", spec := "fnExactPartsAt", unfollowed := true, recurses := true, apart := false, narrowed := true }
def FnExactPartsAtUptoSaid : Prop := fnExactPartsAtUptoRow.holds Try.pinned (OpenSpec.upto fnExactPartsAtSpec)

/-- 'laws.FnExactFirstMove', WHERE WHAT IT READS IS OF BULK AT MOST 1048576: true; the input reads as it did. -/
def fnExactFirstMoveUptoRow : OpenClaim := { program := "ytcaaljcfdahpaaa", sum := "3ab35ccf31332aa769bcacb65bfbc0b4fdd6adb0e51ce6008a05ca3dab5fd227", func := "loop.example/g01278/laws.FnExactFirstMove", spec := "fnExactFirstMove", unfollowed := true, recurses := true, apart := false, narrowed := true }
def FnExactFirstMoveUptoSaid : Prop := fnExactFirstMoveUptoRow.holds Try.pinned (OpenSpec.upto fnExactFirstMoveSpec)

/-- 'laws.FnExactMovingWheels', WHERE WHAT IT READS IS OF BULK AT MOST 1048576: true; the input reads as it did. -/
def fnExactMovingWheelsUptoRow : OpenClaim := { program := "ytcaaljcfdahpaaa", sum := "3ab35ccf31332aa769bcacb65bfbc0b4fdd6adb0e51ce6008a05ca3dab5fd227", func := "loop.example/g01278/laws.FnExactMovingWheels", spec := "fnExactMovingWheels", unfollowed := true, recurses := true, apart := false, narrowed := true }
def FnExactMovingWheelsUptoSaid : Prop := fnExactMovingWheelsUptoRow.holds Try.pinned (OpenSpec.upto fnExactMovingWheelsSpec)

/-- 'laws.FnExactWorstRead', WHERE WHAT IT READS IS OF BULK AT MOST 1048576: true; the input reads as it did. -/
def fnExactWorstReadUptoRow : OpenClaim := { program := "ytcaaljcfdahpaaa", sum := "3ab35ccf31332aa769bcacb65bfbc0b4fdd6adb0e51ce6008a05ca3dab5fd227", func := "loop.example/g01278/laws.FnExactWorstRead", spec := "fnExactWorstRead", unfollowed := true, recurses := true, apart := false, narrowed := true }
def FnExactWorstReadUptoSaid : Prop := fnExactWorstReadUptoRow.holds Try.pinned (OpenSpec.upto fnExactWorstReadSpec)

/-- 'laws.FnExactCheckStory', WHERE WHAT IT READS IS OF BULK AT MOST 1048576: true; the input reads as it did. -/
def fnExactCheckStoryUptoRow : OpenClaim := { program := "ytcaaljcfdahpaaa", sum := "3ab35ccf31332aa769bcacb65bfbc0b4fdd6adb0e51ce6008a05ca3dab5fd227", func := "loop.example/g01278/laws.FnExactCheckStory", spec := "fnExactCheckStory", unfollowed := true, recurses := true, apart := false, narrowed := true }
def FnExactCheckStoryUptoSaid : Prop := fnExactCheckStoryUptoRow.holds Try.pinned (OpenSpec.upto fnExactCheckStorySpec)

/-- 'laws.FnExactWrongWheels', WHERE WHAT IT READS IS OF BULK AT MOST 1048576: true; the input reads as it did. -/
def fnExactWrongWheelsUptoRow : OpenClaim := { program := "ytcaaljcfdahpaaa", sum := "3ab35ccf31332aa769bcacb65bfbc0b4fdd6adb0e51ce6008a05ca3dab5fd227", func := "loop.example/g01278/laws.FnExactWrongWheels", spec := "fnExactWrongWheels", unfollowed := true, recurses := true, apart := false, narrowed := true }
def FnExactWrongWheelsUptoSaid : Prop := fnExactWrongWheelsUptoRow.holds Try.pinned (OpenSpec.upto fnExactWrongWheelsSpec)

/-- 'laws.FnExactTotalOfStory', WHERE WHAT IT READS IS OF BULK AT MOST 1048576: true; the input reads as it did. -/
def fnExactTotalOfStoryUptoRow : OpenClaim := { program := "ytcaaljcfdahpaaa", sum := "3ab35ccf31332aa769bcacb65bfbc0b4fdd6adb0e51ce6008a05ca3dab5fd227", func := "loop.example/g01278/laws.FnExactTotalOfStory", spec := "fnExactTotalOfStory", unfollowed := true, recurses := true, apart := false, narrowed := true }
def FnExactTotalOfStoryUptoSaid : Prop := fnExactTotalOfStoryUptoRow.holds Try.pinned (OpenSpec.upto fnExactTotalOfStorySpec)

/-- 'laws.FnTight', WHERE WHAT IT READS IS OF BULK AT MOST 1048576: true; the input reads as it did. -/
def fnTightUptoRow : OpenClaim := { program := "ytcaaljcfdahpaaa", sum := "3ab35ccf31332aa769bcacb65bfbc0b4fdd6adb0e51ce6008a05ca3dab5fd227", func := "loop.example/g01278/laws.FnTight", spec := "fnTight", unfollowed := true, recurses := true, apart := false, narrowed := true }
def FnTightUptoSaid : Prop := fnTightUptoRow.holds Try.pinned (OpenSpec.upto fnTightSpec)

end Rows
end Go.Proofs.Ytcaaljcfdahpaaa
