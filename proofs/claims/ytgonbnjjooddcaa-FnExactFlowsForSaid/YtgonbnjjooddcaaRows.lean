/-
  No cell of these rows narrows 'for every input' (looked for: loops, veiled, ifaces, maps, wideKeys, modest, calm, conditions, laid).
  DERIVED. THE GIVEN ROWS OF THIS SEAT. 12 by the template 'for every input the law returns true; each argument reads behind the call as it read before'; 0 by the template 'total and deterministic' (their statements: YtgonbnjjooddcaaTotals.lean).
  GIVEN WITH THE SEED: the statements are not yours to turn. If you find one false, say at which input.
  Laid BY PROGRAM, IN A SANDBOX (cutbox-rows.mjs): the forced cells as the released guide's own fill.sh prints them over the translation c2a8ef00981a4447… (all of the seat's roots in one cut). By AI agents, Wed Nov 11 2026. No macro, syntax, notation, axiom, sorry.
-/
import Derived.Test.YtgonbnjjooddcaaChecked
import GoSem.Claim
import GoSem.ClaimJoined
import GoSem.ClaimMapViews
import Derived.JoinedTies
import Derived.KernelRfl
namespace Go.Proofs.Ytgonbnjjooddcaa
/- THE CELL 'sum', in the pinned program and in every row, IS THE sha256 OF THE DUMP (.gsa) THAT YtgonbnjjooddcaaProg.lean LOADS. Nothing in Lean hashes anything: it is a label: what it is worth is what the hold of that sum in a sandbox is worth. -/
noncomputable def Try.pinned : Pinned := { name := "ytgonbnjjooddcaa", sum := "c2a8ef00981a444710ab6e2451eb70b49a9c0b6db67f9bc6dae8ea2fbd5bd22c", checked := Try.checked }
namespace Rows
def none {H : Type} : Left H := { results := [], args := [] }

/-- 'laws.FnExactDigitsOf': WHATEVER THE INPUT: true; the input reads as it did. -/
def fnExactDigitsOfSpec : ChangeSpec := { name := "fnExactDigitsOf", fn := fun _ => fun
  | [d1, d2] => { results := [.lit (.bool true)], args := [d1, d2] }
  | _ => none }
def fnExactDigitsOfRow : OpenClaim := { program := "ytgonbnjjooddcaa", sum := "c2a8ef00981a444710ab6e2451eb70b49a9c0b6db67f9bc6dae8ea2fbd5bd22c", func := "loop.example/g01278/laws.FnExactDigitsOf", spec := "fnExactDigitsOf", unfollowed := true, recurses := true, apart := false }
def FnExactDigitsOfSaid : Prop := fnExactDigitsOfRow.holds Try.pinned (OpenSpec.ofChange fnExactDigitsOfSpec)

/-- ITS FALSE NEIGHBOUR: 'it returns false'. Refute it at one input. -/
def fnExactDigitsOfWrong : ChangeSpec := { name := "fnExactDigitsOf", fn := fun _ => fun
  | [d1, d2] => { results := [.lit (.bool false)], args := [d1, d2] }
  | _ => none }
def FnExactDigitsOfWrongFalsely : Prop := fnExactDigitsOfRow.holds Try.pinned (OpenSpec.ofChange fnExactDigitsOfWrong)

/-- 'laws.FnExactValidMeter': WHATEVER THE INPUT: true; the input reads as it did. -/
def fnExactValidMeterSpec : ChangeSpec := { name := "fnExactValidMeter", fn := fun _ => fun
  | [d] => { results := [.lit (.bool true)], args := [d] }
  | _ => none }
def fnExactValidMeterRow : OpenClaim := { program := "ytgonbnjjooddcaa", sum := "c2a8ef00981a444710ab6e2451eb70b49a9c0b6db67f9bc6dae8ea2fbd5bd22c", func := "loop.example/g01278/laws.FnExactValidMeter", spec := "fnExactValidMeter", unfollowed := true, recurses := true, apart := false }
def FnExactValidMeterSaid : Prop := fnExactValidMeterRow.holds Try.pinned (OpenSpec.ofChange fnExactValidMeterSpec)

/-- ITS FALSE NEIGHBOUR: 'it returns false'. Refute it at one input. -/
def fnExactValidMeterWrong : ChangeSpec := { name := "fnExactValidMeter", fn := fun _ => fun
  | [d] => { results := [.lit (.bool false)], args := [d] }
  | _ => none }
def FnExactValidMeterWrongFalsely : Prop := fnExactValidMeterRow.holds Try.pinned (OpenSpec.ofChange fnExactValidMeterWrong)

/-- 'laws.FnExactValidLog': WHATEVER THE INPUT: true; the input reads as it did. -/
def fnExactValidLogSpec : ChangeSpec := { name := "fnExactValidLog", fn := fun _ => fun
  | [d1, d2] => { results := [.lit (.bool true)], args := [d1, d2] }
  | _ => none }
def fnExactValidLogRow : OpenClaim := { program := "ytgonbnjjooddcaa", sum := "c2a8ef00981a444710ab6e2451eb70b49a9c0b6db67f9bc6dae8ea2fbd5bd22c", func := "loop.example/g01278/laws.FnExactValidLog", spec := "fnExactValidLog", unfollowed := true, recurses := true, apart := false }
def FnExactValidLogSaid : Prop := fnExactValidLogRow.holds Try.pinned (OpenSpec.ofChange fnExactValidLogSpec)

/-- ITS FALSE NEIGHBOUR: 'it returns false'. Refute it at one input. -/
def fnExactValidLogWrong : ChangeSpec := { name := "fnExactValidLog", fn := fun _ => fun
  | [d1, d2] => { results := [.lit (.bool false)], args := [d1, d2] }
  | _ => none }
def FnExactValidLogWrongFalsely : Prop := fnExactValidLogRow.holds Try.pinned (OpenSpec.ofChange fnExactValidLogWrong)

/-- 'laws.FnExactCountAfter': WHATEVER THE INPUT: true; the input reads as it did. -/
def fnExactCountAfterSpec : ChangeSpec := { name := "fnExactCountAfter", fn := fun _ => fun
  | [d1, d2] => { results := [.lit (.bool true)], args := [d1, d2] }
  | _ => none }
def fnExactCountAfterRow : OpenClaim := { program := "ytgonbnjjooddcaa", sum := "c2a8ef00981a444710ab6e2451eb70b49a9c0b6db67f9bc6dae8ea2fbd5bd22c", func := "loop.example/g01278/laws.FnExactCountAfter", spec := "fnExactCountAfter", unfollowed := true, recurses := true, apart := false }
def FnExactCountAfterSaid : Prop := fnExactCountAfterRow.holds Try.pinned (OpenSpec.ofChange fnExactCountAfterSpec)

/-- ITS FALSE NEIGHBOUR: 'it returns false'. Refute it at one input. -/
def fnExactCountAfterWrong : ChangeSpec := { name := "fnExactCountAfter", fn := fun _ => fun
  | [d1, d2] => { results := [.lit (.bool false)], args := [d1, d2] }
  | _ => none }
def FnExactCountAfterWrongFalsely : Prop := fnExactCountAfterRow.holds Try.pinned (OpenSpec.ofChange fnExactCountAfterWrong)

/-- 'laws.FnExactSetBackBy': WHATEVER THE INPUT: true; the input reads as it did. -/
def fnExactSetBackBySpec : ChangeSpec := { name := "fnExactSetBackBy", fn := fun _ => fun
  | [d1, d2, d3, d4] => { results := [.lit (.bool true)], args := [d1, d2, d3, d4] }
  | _ => none }
def fnExactSetBackByRow : OpenClaim := { program := "ytgonbnjjooddcaa", sum := "c2a8ef00981a444710ab6e2451eb70b49a9c0b6db67f9bc6dae8ea2fbd5bd22c", func := "loop.example/g01278/laws.FnExactSetBackBy", spec := "fnExactSetBackBy", unfollowed := true, recurses := true, apart := false }
def FnExactSetBackBySaid : Prop := fnExactSetBackByRow.holds Try.pinned (OpenSpec.ofChange fnExactSetBackBySpec)

/-- ITS FALSE NEIGHBOUR: 'it returns false'. Refute it at one input. -/
def fnExactSetBackByWrong : ChangeSpec := { name := "fnExactSetBackBy", fn := fun _ => fun
  | [d1, d2, d3, d4] => { results := [.lit (.bool false)], args := [d1, d2, d3, d4] }
  | _ => none }
def FnExactSetBackByWrongFalsely : Prop := fnExactSetBackByRow.holds Try.pinned (OpenSpec.ofChange fnExactSetBackByWrong)

/-- 'laws.FnExactShowsAfter': WHATEVER THE INPUT: true; the input reads as it did. -/
def fnExactShowsAfterSpec : ChangeSpec := { name := "fnExactShowsAfter", fn := fun _ => fun
  | [d1, d2] => { results := [.lit (.bool true)], args := [d1, d2] }
  | _ => none }
def fnExactShowsAfterRow : OpenClaim := { program := "ytgonbnjjooddcaa", sum := "c2a8ef00981a444710ab6e2451eb70b49a9c0b6db67f9bc6dae8ea2fbd5bd22c", func := "loop.example/g01278/laws.FnExactShowsAfter", spec := "fnExactShowsAfter", unfollowed := true, recurses := true, apart := false }
def FnExactShowsAfterSaid : Prop := fnExactShowsAfterRow.holds Try.pinned (OpenSpec.ofChange fnExactShowsAfterSpec)

/-- ITS FALSE NEIGHBOUR: 'it returns false'. Refute it at one input. -/
def fnExactShowsAfterWrong : ChangeSpec := { name := "fnExactShowsAfter", fn := fun _ => fun
  | [d1, d2] => { results := [.lit (.bool false)], args := [d1, d2] }
  | _ => none }
def FnExactShowsAfterWrongFalsely : Prop := fnExactShowsAfterRow.holds Try.pinned (OpenSpec.ofChange fnExactShowsAfterWrong)

/-- 'laws.FnExactCountsBetween': WHATEVER THE INPUT: true; the input reads as it did. -/
def fnExactCountsBetweenSpec : ChangeSpec := { name := "fnExactCountsBetween", fn := fun _ => fun
  | [d1, d2, d3, d4] => { results := [.lit (.bool true)], args := [d1, d2, d3, d4] }
  | _ => none }
def fnExactCountsBetweenRow : OpenClaim := { program := "ytgonbnjjooddcaa", sum := "c2a8ef00981a444710ab6e2451eb70b49a9c0b6db67f9bc6dae8ea2fbd5bd22c", func := "loop.example/g01278/laws.FnExactCountsBetween", spec := "fnExactCountsBetween", unfollowed := true, recurses := true, apart := false }
def FnExactCountsBetweenSaid : Prop := fnExactCountsBetweenRow.holds Try.pinned (OpenSpec.ofChange fnExactCountsBetweenSpec)

/-- ITS FALSE NEIGHBOUR: 'it returns false'. Refute it at one input. -/
def fnExactCountsBetweenWrong : ChangeSpec := { name := "fnExactCountsBetween", fn := fun _ => fun
  | [d1, d2, d3, d4] => { results := [.lit (.bool false)], args := [d1, d2, d3, d4] }
  | _ => none }
def FnExactCountsBetweenWrongFalsely : Prop := fnExactCountsBetweenRow.holds Try.pinned (OpenSpec.ofChange fnExactCountsBetweenWrong)

/-- 'laws.FnExactFlowsFor': WHATEVER THE INPUT: true; the input reads as it did. -/
def fnExactFlowsForSpec : ChangeSpec := { name := "fnExactFlowsFor", fn := fun _ => fun
  | [d1, d2, d3] => { results := [.lit (.bool true)], args := [d1, d2, d3] }
  | _ => none }
def fnExactFlowsForRow : OpenClaim := { program := "ytgonbnjjooddcaa", sum := "c2a8ef00981a444710ab6e2451eb70b49a9c0b6db67f9bc6dae8ea2fbd5bd22c", func := "loop.example/g01278/laws.FnExactFlowsFor", spec := "fnExactFlowsFor", unfollowed := true, recurses := true, apart := false }
def FnExactFlowsForSaid : Prop := fnExactFlowsForRow.holds Try.pinned (OpenSpec.ofChange fnExactFlowsForSpec)

/-- ITS FALSE NEIGHBOUR: 'it returns false'. Refute it at one input. -/
def fnExactFlowsForWrong : ChangeSpec := { name := "fnExactFlowsFor", fn := fun _ => fun
  | [d1, d2, d3] => { results := [.lit (.bool false)], args := [d1, d2, d3] }
  | _ => none }
def FnExactFlowsForWrongFalsely : Prop := fnExactFlowsForRow.holds Try.pinned (OpenSpec.ofChange fnExactFlowsForWrong)

/-- 'laws.FnExactRoundsBetween': WHATEVER THE INPUT: true; the input reads as it did. -/
def fnExactRoundsBetweenSpec : ChangeSpec := { name := "fnExactRoundsBetween", fn := fun _ => fun
  | [d1, d2, d3, d4] => { results := [.lit (.bool true)], args := [d1, d2, d3, d4] }
  | _ => none }
def fnExactRoundsBetweenRow : OpenClaim := { program := "ytgonbnjjooddcaa", sum := "c2a8ef00981a444710ab6e2451eb70b49a9c0b6db67f9bc6dae8ea2fbd5bd22c", func := "loop.example/g01278/laws.FnExactRoundsBetween", spec := "fnExactRoundsBetween", unfollowed := true, recurses := true, apart := false }
def FnExactRoundsBetweenSaid : Prop := fnExactRoundsBetweenRow.holds Try.pinned (OpenSpec.ofChange fnExactRoundsBetweenSpec)

/-- ITS FALSE NEIGHBOUR: 'it returns false'. Refute it at one input. -/
def fnExactRoundsBetweenWrong : ChangeSpec := { name := "fnExactRoundsBetween", fn := fun _ => fun
  | [d1, d2, d3, d4] => { results := [.lit (.bool false)], args := [d1, d2, d3, d4] }
  | _ => none }
def FnExactRoundsBetweenWrongFalsely : Prop := fnExactRoundsBetweenRow.holds Try.pinned (OpenSpec.ofChange fnExactRoundsBetweenWrong)

/-- 'laws.FnExactAddTo': WHATEVER THE INPUT: true; the input reads as it did. -/
def fnExactAddToSpec : ChangeSpec := { name := "fnExactAddTo", fn := fun _ => fun
  | [d1, d2, d3] => { results := [.lit (.bool true)], args := [d1, d2, d3] }
  | _ => none }
def fnExactAddToRow : OpenClaim := { program := "ytgonbnjjooddcaa", sum := "c2a8ef00981a444710ab6e2451eb70b49a9c0b6db67f9bc6dae8ea2fbd5bd22c", func := "loop.example/g01278/laws.FnExactAddTo", spec := "fnExactAddTo", unfollowed := true, recurses := true, apart := false }
def FnExactAddToSaid : Prop := fnExactAddToRow.holds Try.pinned (OpenSpec.ofChange fnExactAddToSpec)

/-- ITS FALSE NEIGHBOUR: 'it returns false'. Refute it at one input. -/
def fnExactAddToWrong : ChangeSpec := { name := "fnExactAddTo", fn := fun _ => fun
  | [d1, d2, d3] => { results := [.lit (.bool false)], args := [d1, d2, d3] }
  | _ => none }
def FnExactAddToWrongFalsely : Prop := fnExactAddToRow.holds Try.pinned (OpenSpec.ofChange fnExactAddToWrong)

/-- 'laws.FnExactStepDown': WHATEVER THE INPUT: true; the input reads as it did. -/
def fnExactStepDownSpec : ChangeSpec := { name := "fnExactStepDown", fn := fun _ => fun
  | [d1, d2] => { results := [.lit (.bool true)], args := [d1, d2] }
  | _ => none }
def fnExactStepDownRow : OpenClaim := { program := "ytgonbnjjooddcaa", sum := "c2a8ef00981a444710ab6e2451eb70b49a9c0b6db67f9bc6dae8ea2fbd5bd22c", func := "loop.example/g01278/laws.FnExactStepDown", spec := "fnExactStepDown", unfollowed := true, recurses := true, apart := false }
def FnExactStepDownSaid : Prop := fnExactStepDownRow.holds Try.pinned (OpenSpec.ofChange fnExactStepDownSpec)

/-- ITS FALSE NEIGHBOUR: 'it returns false'. Refute it at one input. -/
def fnExactStepDownWrong : ChangeSpec := { name := "fnExactStepDown", fn := fun _ => fun
  | [d1, d2] => { results := [.lit (.bool false)], args := [d1, d2] }
  | _ => none }
def FnExactStepDownWrongFalsely : Prop := fnExactStepDownRow.holds Try.pinned (OpenSpec.ofChange fnExactStepDownWrong)

/-- 'laws.FnExactStepUp': WHATEVER THE INPUT: true; the input reads as it did. -/
def fnExactStepUpSpec : ChangeSpec := { name := "fnExactStepUp", fn := fun _ => fun
  | [d1, d2] => { results := [.lit (.bool true)], args := [d1, d2] }
  | _ => none }
def fnExactStepUpRow : OpenClaim := { program := "ytgonbnjjooddcaa", sum := "c2a8ef00981a444710ab6e2451eb70b49a9c0b6db67f9bc6dae8ea2fbd5bd22c", func := "loop.example/g01278/laws.FnExactStepUp", spec := "fnExactStepUp", unfollowed := true, recurses := true, apart := false }
def FnExactStepUpSaid : Prop := fnExactStepUpRow.holds Try.pinned (OpenSpec.ofChange fnExactStepUpSpec)

/-- ITS FALSE NEIGHBOUR: 'it returns false'. Refute it at one input. -/
def fnExactStepUpWrong : ChangeSpec := { name := "fnExactStepUp", fn := fun _ => fun
  | [d1, d2] => { results := [.lit (.bool false)], args := [d1, d2] }
  | _ => none }
def FnExactStepUpWrongFalsely : Prop := fnExactStepUpRow.holds Try.pinned (OpenSpec.ofChange fnExactStepUpWrong)

/- THE SECOND FORM. 'bulk': how many values and letters a reading holds, each counted each time it is reached (what is shared counts as often as it is met; a slice's spare places count too). A statement '..UptoSaid' is the law's where the arguments, and the package variables that the reading takes, are together of bulk at most 1048576: NARROWER than '..Said'. Prove '..Said' where nothing that the law and all that it calls make is longer than what came in: it says more and counts as full. Else prove '..UptoSaid'. A law counts once. -/
mutual
def uptoBulk {H : Type} : DataW H → Nat
  | .lit (.string bytes) => bytes.length + 1
  | .lit _ => 1
  | .nil => 1
  | .ptr d => uptoBulk d + 1
  | .slice elems spare => uptoBulkAll elems + uptoBulkAll spare + 1
  | .agg parts => uptoBulkAll parts + 1
  | .iface _ d => uptoBulk d + 1
  | .map entries => uptoBulkEntries entries + 1
  | .held _ => 1
def uptoBulkAll {H : Type} : List (DataW H) → Nat
  | [] => 0
  | d :: r => uptoBulk d + uptoBulkAll r
def uptoBulkEntries {H : Type} : List (Lit × DataW H) → Nat
  | [] => 0
  | x :: r => uptoBulkEntry x + uptoBulkEntries r
def uptoBulkEntry {H : Type} : Lit × DataW H → Nat
  | (.string bytes, d) => bytes.length + uptoBulk d + 1
  | (_, d) => uptoBulk d + 1
 end
def uptoSmall : (H : Type) → List (DataW H) → Bool := fun _ ds => decide (uptoBulkAll ds ≤ 1048576)
def OpenSpec.upto (s : _root_.Go.ChangeSpec) : _root_.Go.OpenSpec := { _root_.Go.OpenSpec.ofChange s with cond := some uptoSmall }

/-- 'laws.FnExactDigitsOf', WHERE WHAT IT READS IS OF BULK AT MOST 1048576: true; the input reads as it did. -/
def fnExactDigitsOfUptoRow : OpenClaim := { program := "ytgonbnjjooddcaa", sum := "c2a8ef00981a444710ab6e2451eb70b49a9c0b6db67f9bc6dae8ea2fbd5bd22c", func := "loop.example/g01278/laws.FnExactDigitsOf", spec := "fnExactDigitsOf", unfollowed := true, recurses := true, apart := false, narrowed := true }
def FnExactDigitsOfUptoSaid : Prop := fnExactDigitsOfUptoRow.holds Try.pinned (OpenSpec.upto fnExactDigitsOfSpec)

/-- 'laws.FnExactValidMeter', WHERE WHAT IT READS IS OF BULK AT MOST 1048576: true; the input reads as it did. -/
def fnExactValidMeterUptoRow : OpenClaim := { program := "ytgonbnjjooddcaa", sum := "c2a8ef00981a444710ab6e2451eb70b49a9c0b6db67f9bc6dae8ea2fbd5bd22c", func := "loop.example/g01278/laws.FnExactValidMeter", spec := "fnExactValidMeter", unfollowed := true, recurses := true, apart := false, narrowed := true }
def FnExactValidMeterUptoSaid : Prop := fnExactValidMeterUptoRow.holds Try.pinned (OpenSpec.upto fnExactValidMeterSpec)

/-- 'laws.FnExactValidLog', WHERE WHAT IT READS IS OF BULK AT MOST 1048576: true; the input reads as it did. -/
def fnExactValidLogUptoRow : OpenClaim := { program := "ytgonbnjjooddcaa", sum := "c2a8ef00981a444710ab6e2451eb70b49a9c0b6db67f9bc6dae8ea2fbd5bd22c", func := "loop.example/g01278/laws.FnExactValidLog", spec := "fnExactValidLog", unfollowed := true, recurses := true, apart := false, narrowed := true }
def FnExactValidLogUptoSaid : Prop := fnExactValidLogUptoRow.holds Try.pinned (OpenSpec.upto fnExactValidLogSpec)

/-- 'laws.FnExactCountAfter', WHERE WHAT IT READS IS OF BULK AT MOST 1048576: true; the input reads as it did. -/
def fnExactCountAfterUptoRow : OpenClaim := { program := "ytgonbnjjooddcaa", sum := "c2a8ef00981a444710ab6e2451eb70b49a9c0b6db67f9bc6dae8ea2fbd5bd22c", func := "loop.example/g01278/laws.FnExactCountAfter", spec := "fnExactCountAfter", unfollowed := true, recurses := true, apart := false, narrowed := true }
def FnExactCountAfterUptoSaid : Prop := fnExactCountAfterUptoRow.holds Try.pinned (OpenSpec.upto fnExactCountAfterSpec)

/-- 'laws.FnExactSetBackBy', WHERE WHAT IT READS IS OF BULK AT MOST 1048576: true; the input reads as it did. -/
def fnExactSetBackByUptoRow : OpenClaim := { program := "ytgonbnjjooddcaa", sum := "c2a8ef00981a444710ab6e2451eb70b49a9c0b6db67f9bc6dae8ea2fbd5bd22c", func := "loop.example/g01278/laws.FnExactSetBackBy", spec := "fnExactSetBackBy", unfollowed := true, recurses := true, apart := false, narrowed := true }
def FnExactSetBackByUptoSaid : Prop := fnExactSetBackByUptoRow.holds Try.pinned (OpenSpec.upto fnExactSetBackBySpec)

/-- 'laws.FnExactShowsAfter', WHERE WHAT IT READS IS OF BULK AT MOST 1048576: true; the input reads as it did. -/
def fnExactShowsAfterUptoRow : OpenClaim := { program := "ytgonbnjjooddcaa", sum := "c2a8ef00981a444710ab6e2451eb70b49a9c0b6db67f9bc6dae8ea2fbd5bd22c", func := "loop.example/g01278/laws.FnExactShowsAfter", spec := "fnExactShowsAfter", unfollowed := true, recurses := true, apart := false, narrowed := true }
def FnExactShowsAfterUptoSaid : Prop := fnExactShowsAfterUptoRow.holds Try.pinned (OpenSpec.upto fnExactShowsAfterSpec)

/-- 'laws.FnExactCountsBetween', WHERE WHAT IT READS IS OF BULK AT MOST 1048576: true; the input reads as it did. -/
def fnExactCountsBetweenUptoRow : OpenClaim := { program := "ytgonbnjjooddcaa", sum := "c2a8ef00981a444710ab6e2451eb70b49a9c0b6db67f9bc6dae8ea2fbd5bd22c", func := "loop.example/g01278/laws.FnExactCountsBetween", spec := "fnExactCountsBetween", unfollowed := true, recurses := true, apart := false, narrowed := true }
def FnExactCountsBetweenUptoSaid : Prop := fnExactCountsBetweenUptoRow.holds Try.pinned (OpenSpec.upto fnExactCountsBetweenSpec)

/-- 'laws.FnExactFlowsFor', WHERE WHAT IT READS IS OF BULK AT MOST 1048576: true; the input reads as it did. -/
def fnExactFlowsForUptoRow : OpenClaim := { program := "ytgonbnjjooddcaa", sum := "c2a8ef00981a444710ab6e2451eb70b49a9c0b6db67f9bc6dae8ea2fbd5bd22c", func := "loop.example/g01278/laws.FnExactFlowsFor", spec := "fnExactFlowsFor", unfollowed := true, recurses := true, apart := false, narrowed := true }
def FnExactFlowsForUptoSaid : Prop := fnExactFlowsForUptoRow.holds Try.pinned (OpenSpec.upto fnExactFlowsForSpec)

/-- 'laws.FnExactRoundsBetween', WHERE WHAT IT READS IS OF BULK AT MOST 1048576: true; the input reads as it did. -/
def fnExactRoundsBetweenUptoRow : OpenClaim := { program := "ytgonbnjjooddcaa", sum := "c2a8ef00981a444710ab6e2451eb70b49a9c0b6db67f9bc6dae8ea2fbd5bd22c", func := "loop.example/g01278/laws.FnExactRoundsBetween", spec := "fnExactRoundsBetween", unfollowed := true, recurses := true, apart := false, narrowed := true }
def FnExactRoundsBetweenUptoSaid : Prop := fnExactRoundsBetweenUptoRow.holds Try.pinned (OpenSpec.upto fnExactRoundsBetweenSpec)

/-- 'laws.FnExactAddTo', WHERE WHAT IT READS IS OF BULK AT MOST 1048576: true; the input reads as it did. -/
def fnExactAddToUptoRow : OpenClaim := { program := "ytgonbnjjooddcaa", sum := "c2a8ef00981a444710ab6e2451eb70b49a9c0b6db67f9bc6dae8ea2fbd5bd22c", func := "loop.example/g01278/laws.FnExactAddTo", spec := "fnExactAddTo", unfollowed := true, recurses := true, apart := false, narrowed := true }
def FnExactAddToUptoSaid : Prop := fnExactAddToUptoRow.holds Try.pinned (OpenSpec.upto fnExactAddToSpec)

/-- 'laws.FnExactStepDown', WHERE WHAT IT READS IS OF BULK AT MOST 1048576: true; the input reads as it did. -/
def fnExactStepDownUptoRow : OpenClaim := { program := "ytgonbnjjooddcaa", sum := "c2a8ef00981a444710ab6e2451eb70b49a9c0b6db67f9bc6dae8ea2fbd5bd22c", func := "loop.example/g01278/laws.FnExactStepDown", spec := "fnExactStepDown", unfollowed := true, recurses := true, apart := false, narrowed := true }
def FnExactStepDownUptoSaid : Prop := fnExactStepDownUptoRow.holds Try.pinned (OpenSpec.upto fnExactStepDownSpec)

/-- 'laws.FnExactStepUp', WHERE WHAT IT READS IS OF BULK AT MOST 1048576: true; the input reads as it did. -/
def fnExactStepUpUptoRow : OpenClaim := { program := "ytgonbnjjooddcaa", sum := "c2a8ef00981a444710ab6e2451eb70b49a9c0b6db67f9bc6dae8ea2fbd5bd22c", func := "loop.example/g01278/laws.FnExactStepUp", spec := "fnExactStepUp", unfollowed := true, recurses := true, apart := false, narrowed := true }
def FnExactStepUpUptoSaid : Prop := fnExactStepUpUptoRow.holds Try.pinned (OpenSpec.upto fnExactStepUpSpec)

end Rows
end Go.Proofs.Ytgonbnjjooddcaa
