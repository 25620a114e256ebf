/-
  No cell of these rows narrows 'for every input' (looked for: loops, veiled, ifaces, maps, wideKeys, modest, calm, conditions, laid).
  DERIVED. THE GIVEN ROWS OF THIS SEAT. 12 by the template 'for every input the law returns true; each argument reads behind the call as it read before'; 0 by the template 'total and deterministic' (their statements: YtaahfebnbholmaaTotals.lean).
  GIVEN WITH THE SEED: the statements are not yours to turn. If you find one false, say at which input.
  Laid BY PROGRAM, IN A SANDBOX (cutbox-rows.mjs): the forced cells as the released guide's own fill.sh prints them over the translation 15d0520198057f48… (all of the seat's roots in one cut). By AI agents, Wed Nov 11 2026. No macro, syntax, notation, axiom, sorry.
-/
import Derived.Test.YtaahfebnbholmaaChecked
import GoSem.Claim
import GoSem.ClaimJoined
import GoSem.ClaimMapViews
import Derived.JoinedTies
import Derived.KernelRfl
namespace Go.Proofs.Ytaahfebnbholmaa
/- THE CELL 'sum', in the pinned program and in every row, IS THE sha256 OF THE DUMP (.gsa) THAT YtaahfebnbholmaaProg.lean LOADS. Nothing in Lean hashes anything: it is a label: what it is worth is what the hold of that sum in a sandbox is worth. -/
noncomputable def Try.pinned : Pinned := { name := "ytaahfebnbholmaa", sum := "15d0520198057f48c07d9e1697079535eda74882bb9d520210c43b25e14a0d46", checked := Try.checked }
namespace Rows
def none {H : Type} : Left H := { results := [], args := [] }

/-- 'laws.FnExactHasDigit': WHATEVER THE INPUT: true; the input reads as it did. -/
def fnExactHasDigitSpec : ChangeSpec := { name := "fnExactHasDigit", fn := fun _ => fun
  | [d1, d2, d3] => { results := [.lit (.bool true)], args := [d1, d2, d3] }
  | _ => none }
def fnExactHasDigitRow : OpenClaim := { program := "ytaahfebnbholmaa", sum := "15d0520198057f48c07d9e1697079535eda74882bb9d520210c43b25e14a0d46", func := "loop.example/g01278/laws.FnExactHasDigit", spec := "fnExactHasDigit", apart := false }
def FnExactHasDigitSaid : Prop := fnExactHasDigitRow.holds Try.pinned (OpenSpec.ofChange fnExactHasDigitSpec)

/-- ITS FALSE NEIGHBOUR: 'it returns false'. Refute it at one input. -/
def fnExactHasDigitWrong : ChangeSpec := { name := "fnExactHasDigit", fn := fun _ => fun
  | [d1, d2, d3] => { results := [.lit (.bool false)], args := [d1, d2, d3] }
  | _ => none }
def FnExactHasDigitWrongFalsely : Prop := fnExactHasDigitRow.holds Try.pinned (OpenSpec.ofChange fnExactHasDigitWrong)

/-- 'laws.FnExactSharesOf': WHATEVER THE INPUT: true; the input reads as it did. -/
def fnExactSharesOfSpec : ChangeSpec := { name := "fnExactSharesOf", fn := fun _ => fun
  | [d1, d2] => { results := [.lit (.bool true)], args := [d1, d2] }
  | _ => none }
def fnExactSharesOfRow : OpenClaim := { program := "ytaahfebnbholmaa", sum := "15d0520198057f48c07d9e1697079535eda74882bb9d520210c43b25e14a0d46", func := "loop.example/g01278/laws.FnExactSharesOf", spec := "fnExactSharesOf", apart := false }
def FnExactSharesOfSaid : Prop := fnExactSharesOfRow.holds Try.pinned (OpenSpec.ofChange fnExactSharesOfSpec)

/-- ITS FALSE NEIGHBOUR: 'it returns false'. Refute it at one input. -/
def fnExactSharesOfWrong : ChangeSpec := { name := "fnExactSharesOf", fn := fun _ => fun
  | [d1, d2] => { results := [.lit (.bool false)], args := [d1, d2] }
  | _ => none }
def FnExactSharesOfWrongFalsely : Prop := fnExactSharesOfRow.holds Try.pinned (OpenSpec.ofChange fnExactSharesOfWrong)

/-- 'laws.FnExactSameTotals': WHATEVER THE INPUT: true; the input reads as it did. -/
def fnExactSameTotalsSpec : ChangeSpec := { name := "fnExactSameTotals", fn := fun _ => fun
  | [d1, d2] => { results := [.lit (.bool true)], args := [d1, d2] }
  | _ => none }
def fnExactSameTotalsRow : OpenClaim := { program := "ytaahfebnbholmaa", sum := "15d0520198057f48c07d9e1697079535eda74882bb9d520210c43b25e14a0d46", func := "loop.example/g01278/laws.FnExactSameTotals", spec := "fnExactSameTotals", apart := false }
def FnExactSameTotalsSaid : Prop := fnExactSameTotalsRow.holds Try.pinned (OpenSpec.ofChange fnExactSameTotalsSpec)

/-- ITS FALSE NEIGHBOUR: 'it returns false'. Refute it at one input. -/
def fnExactSameTotalsWrong : ChangeSpec := { name := "fnExactSameTotals", fn := fun _ => fun
  | [d1, d2] => { results := [.lit (.bool false)], args := [d1, d2] }
  | _ => none }
def FnExactSameTotalsWrongFalsely : Prop := fnExactSameTotalsRow.holds Try.pinned (OpenSpec.ofChange fnExactSameTotalsWrong)

/-- 'laws.FnExactSimplestPortion': WHATEVER THE INPUT: true; the input reads as it did. -/
def fnExactSimplestPortionSpec : ChangeSpec := { name := "fnExactSimplestPortion", fn := fun _ => fun
  | [d1, d2] => { results := [.lit (.bool true)], args := [d1, d2] }
  | _ => none }
def fnExactSimplestPortionRow : OpenClaim := { program := "ytaahfebnbholmaa", sum := "15d0520198057f48c07d9e1697079535eda74882bb9d520210c43b25e14a0d46", func := "loop.example/g01278/laws.FnExactSimplestPortion", spec := "fnExactSimplestPortion", apart := false }
def FnExactSimplestPortionSaid : Prop := fnExactSimplestPortionRow.holds Try.pinned (OpenSpec.ofChange fnExactSimplestPortionSpec)

/-- ITS FALSE NEIGHBOUR: 'it returns false'. Refute it at one input. -/
def fnExactSimplestPortionWrong : ChangeSpec := { name := "fnExactSimplestPortion", fn := fun _ => fun
  | [d1, d2] => { results := [.lit (.bool false)], args := [d1, d2] }
  | _ => none }
def FnExactSimplestPortionWrongFalsely : Prop := fnExactSimplestPortionRow.holds Try.pinned (OpenSpec.ofChange fnExactSimplestPortionWrong)

/-- 'laws.FnExactValidTotals': WHATEVER THE INPUT: true; the input reads as it did. -/
def fnExactValidTotalsSpec : ChangeSpec := { name := "fnExactValidTotals", fn := fun _ => fun
  | [d] => { results := [.lit (.bool true)], args := [d] }
  | _ => none }
def fnExactValidTotalsRow : OpenClaim := { program := "ytaahfebnbholmaa", sum := "15d0520198057f48c07d9e1697079535eda74882bb9d520210c43b25e14a0d46", func := "loop.example/g01278/laws.FnExactValidTotals", spec := "fnExactValidTotals", apart := false }
def FnExactValidTotalsSaid : Prop := fnExactValidTotalsRow.holds Try.pinned (OpenSpec.ofChange fnExactValidTotalsSpec)

/-- ITS FALSE NEIGHBOUR: 'it returns false'. Refute it at one input. -/
def fnExactValidTotalsWrong : ChangeSpec := { name := "fnExactValidTotals", fn := fun _ => fun
  | [d] => { results := [.lit (.bool false)], args := [d] }
  | _ => none }
def FnExactValidTotalsWrongFalsely : Prop := fnExactValidTotalsRow.holds Try.pinned (OpenSpec.ofChange fnExactValidTotalsWrong)

/-- 'laws.FnRatchets': WHATEVER THE INPUT: true; the input reads as it did. -/
def fnRatchetsSpec : ChangeSpec := { name := "fnRatchets", fn := fun _ => fun
  | [d1, d2] => { results := [.lit (.bool true)], args := [d1, d2] }
  | _ => none }
def fnRatchetsRow : OpenClaim := { program := "ytaahfebnbholmaa", sum := "15d0520198057f48c07d9e1697079535eda74882bb9d520210c43b25e14a0d46", func := "loop.example/g01278/laws.FnRatchets", spec := "fnRatchets", unfollowed := true, recurses := true, apart := false }
def FnRatchetsSaid : Prop := fnRatchetsRow.holds Try.pinned (OpenSpec.ofChange fnRatchetsSpec)

/-- ITS FALSE NEIGHBOUR: 'it returns false'. Refute it at one input. -/
def fnRatchetsWrong : ChangeSpec := { name := "fnRatchets", fn := fun _ => fun
  | [d1, d2] => { results := [.lit (.bool false)], args := [d1, d2] }
  | _ => none }
def FnRatchetsWrongFalsely : Prop := fnRatchetsRow.holds Try.pinned (OpenSpec.ofChange fnRatchetsWrong)

/-- 'laws.FnExactCountOn': WHATEVER THE INPUT: true; the input reads as it did. -/
def fnExactCountOnSpec : ChangeSpec := { name := "fnExactCountOn", fn := fun _ => fun
  | [d1, d2] => { results := [.lit (.bool true)], args := [d1, d2] }
  | _ => none }
def fnExactCountOnRow : OpenClaim := { program := "ytaahfebnbholmaa", sum := "15d0520198057f48c07d9e1697079535eda74882bb9d520210c43b25e14a0d46", func := "loop.example/g01278/laws.FnExactCountOn", spec := "fnExactCountOn", apart := false }
def FnExactCountOnSaid : Prop := fnExactCountOnRow.holds Try.pinned (OpenSpec.ofChange fnExactCountOnSpec)

/-- ITS FALSE NEIGHBOUR: 'it returns false'. Refute it at one input. -/
def fnExactCountOnWrong : ChangeSpec := { name := "fnExactCountOn", fn := fun _ => fun
  | [d1, d2] => { results := [.lit (.bool false)], args := [d1, d2] }
  | _ => none }
def FnExactCountOnWrongFalsely : Prop := fnExactCountOnRow.holds Try.pinned (OpenSpec.ofChange fnExactCountOnWrong)

/-- 'laws.FnExactPortionBounds': WHATEVER THE INPUT: true; the input reads as it did. -/
def fnExactPortionBoundsSpec : ChangeSpec := { name := "fnExactPortionBounds", fn := fun _ => fun
  | [d] => { results := [.lit (.bool true)], args := [d] }
  | _ => none }
def fnExactPortionBoundsRow : OpenClaim := { program := "ytaahfebnbholmaa", sum := "15d0520198057f48c07d9e1697079535eda74882bb9d520210c43b25e14a0d46", func := "loop.example/g01278/laws.FnExactPortionBounds", spec := "fnExactPortionBounds", unfollowed := true, recurses := true, apart := false }
def FnExactPortionBoundsSaid : Prop := fnExactPortionBoundsRow.holds Try.pinned (OpenSpec.ofChange fnExactPortionBoundsSpec)

/-- ITS FALSE NEIGHBOUR: 'it returns false'. Refute it at one input. -/
def fnExactPortionBoundsWrong : ChangeSpec := { name := "fnExactPortionBounds", fn := fun _ => fun
  | [d] => { results := [.lit (.bool false)], args := [d] }
  | _ => none }
def FnExactPortionBoundsWrongFalsely : Prop := fnExactPortionBoundsRow.holds Try.pinned (OpenSpec.ofChange fnExactPortionBoundsWrong)

/-- 'laws.FnPortions': WHATEVER THE INPUT: true; the input reads as it did. -/
def fnPortionsSpec : ChangeSpec := { name := "fnPortions", fn := fun _ => fun
  | [d1, d2] => { results := [.lit (.bool true)], args := [d1, d2] }
  | _ => none }
def fnPortionsRow : OpenClaim := { program := "ytaahfebnbholmaa", sum := "15d0520198057f48c07d9e1697079535eda74882bb9d520210c43b25e14a0d46", func := "loop.example/g01278/laws.FnPortions", spec := "fnPortions", unfollowed := true, recurses := true, apart := false }
def FnPortionsSaid : Prop := fnPortionsRow.holds Try.pinned (OpenSpec.ofChange fnPortionsSpec)

/-- ITS FALSE NEIGHBOUR: 'it returns false'. Refute it at one input. -/
def fnPortionsWrong : ChangeSpec := { name := "fnPortions", fn := fun _ => fun
  | [d1, d2] => { results := [.lit (.bool false)], args := [d1, d2] }
  | _ => none }
def FnPortionsWrongFalsely : Prop := fnPortionsRow.holds Try.pinned (OpenSpec.ofChange fnPortionsWrong)

/-- 'laws.FnExactDriftOn': WHATEVER THE INPUT: true; the input reads as it did. -/
def fnExactDriftOnSpec : ChangeSpec := { name := "fnExactDriftOn", fn := fun _ => fun
  | [d1, d2, d3] => { results := [.lit (.bool true)], args := [d1, d2, d3] }
  | _ => none }
def fnExactDriftOnRow : OpenClaim := { program := "ytaahfebnbholmaa", sum := "15d0520198057f48c07d9e1697079535eda74882bb9d520210c43b25e14a0d46", func := "loop.example/g01278/laws.FnExactDriftOn", spec := "fnExactDriftOn", apart := false }
def FnExactDriftOnSaid : Prop := fnExactDriftOnRow.holds Try.pinned (OpenSpec.ofChange fnExactDriftOnSpec)

/-- ITS FALSE NEIGHBOUR: 'it returns false'. Refute it at one input. -/
def fnExactDriftOnWrong : ChangeSpec := { name := "fnExactDriftOn", fn := fun _ => fun
  | [d1, d2, d3] => { results := [.lit (.bool false)], args := [d1, d2, d3] }
  | _ => none }
def FnExactDriftOnWrongFalsely : Prop := fnExactDriftOnRow.holds Try.pinned (OpenSpec.ofChange fnExactDriftOnWrong)

/-- 'laws.FnExactFindPortion': WHATEVER THE INPUT: true; the input reads as it did. -/
def fnExactFindPortionSpec : ChangeSpec := { name := "fnExactFindPortion", fn := fun _ => fun
  | [d] => { results := [.lit (.bool true)], args := [d] }
  | _ => none }
def fnExactFindPortionRow : OpenClaim := { program := "ytaahfebnbholmaa", sum := "15d0520198057f48c07d9e1697079535eda74882bb9d520210c43b25e14a0d46", func := "loop.example/g01278/laws.FnExactFindPortion", spec := "fnExactFindPortion", unfollowed := true, recurses := true, apart := false }
def FnExactFindPortionSaid : Prop := fnExactFindPortionRow.holds Try.pinned (OpenSpec.ofChange fnExactFindPortionSpec)

/-- ITS FALSE NEIGHBOUR: 'it returns false'. Refute it at one input. -/
def fnExactFindPortionWrong : ChangeSpec := { name := "fnExactFindPortion", fn := fun _ => fun
  | [d] => { results := [.lit (.bool false)], args := [d] }
  | _ => none }
def FnExactFindPortionWrongFalsely : Prop := fnExactFindPortionRow.holds Try.pinned (OpenSpec.ofChange fnExactFindPortionWrong)

/-- 'laws.FnExactCountsByDay': WHATEVER THE INPUT: true; the input reads as it did. -/
def fnExactCountsByDaySpec : ChangeSpec := { name := "fnExactCountsByDay", fn := fun _ => fun
  | [d] => { results := [.lit (.bool true)], args := [d] }
  | _ => none }
def fnExactCountsByDayRow : OpenClaim := { program := "ytaahfebnbholmaa", sum := "15d0520198057f48c07d9e1697079535eda74882bb9d520210c43b25e14a0d46", func := "loop.example/g01278/laws.FnExactCountsByDay", spec := "fnExactCountsByDay", apart := false }
def FnExactCountsByDaySaid : Prop := fnExactCountsByDayRow.holds Try.pinned (OpenSpec.ofChange fnExactCountsByDaySpec)

/-- ITS FALSE NEIGHBOUR: 'it returns false'. Refute it at one input. -/
def fnExactCountsByDayWrong : ChangeSpec := { name := "fnExactCountsByDay", fn := fun _ => fun
  | [d] => { results := [.lit (.bool false)], args := [d] }
  | _ => none }
def FnExactCountsByDayWrongFalsely : Prop := fnExactCountsByDayRow.holds Try.pinned (OpenSpec.ofChange fnExactCountsByDayWrong)

/- THE SECOND FORM. 'bulk': how many values and letters a reading holds, each counted each time it is reached (what is shared counts as often as it is met; a slice's spare places count too). A statement '..UptoSaid' is the law's where the arguments, and the package variables that the reading takes, are together of bulk at most 1048576: NARROWER than '..Said'. Prove '..Said' where nothing that the law and all that it calls make is longer than what came in: it says more and counts as full. Else prove '..UptoSaid'. A law counts once. -/
mutual
def uptoBulk {H : Type} : DataW H → Nat
  | .lit (.string bytes) => bytes.length + 1
  | .lit _ => 1
  | .nil => 1
  | .ptr d => uptoBulk d + 1
  | .slice elems spare => uptoBulkAll elems + uptoBulkAll spare + 1
  | .agg parts => uptoBulkAll parts + 1
  | .iface _ d => uptoBulk d + 1
  | .map entries => uptoBulkEntries entries + 1
  | .held _ => 1
def uptoBulkAll {H : Type} : List (DataW H) → Nat
  | [] => 0
  | d :: r => uptoBulk d + uptoBulkAll r
def uptoBulkEntries {H : Type} : List (Lit × DataW H) → Nat
  | [] => 0
  | x :: r => uptoBulkEntry x + uptoBulkEntries r
def uptoBulkEntry {H : Type} : Lit × DataW H → Nat
  | (.string bytes, d) => bytes.length + uptoBulk d + 1
  | (_, d) => uptoBulk d + 1
 end
def uptoSmall : (H : Type) → List (DataW H) → Bool := fun _ ds => decide (uptoBulkAll ds ≤ 1048576)
def OpenSpec.upto (s : _root_.Go.ChangeSpec) : _root_.Go.OpenSpec := { _root_.Go.OpenSpec.ofChange s with cond := some uptoSmall }

/-- 'laws.FnExactHasDigit', WHERE WHAT IT READS IS OF BULK AT MOST 1048576: true; the input reads as it did. -/
def fnExactHasDigitUptoRow : OpenClaim := { program := "ytaahfebnbholmaa", sum := "15d0520198057f48c07d9e1697079535eda74882bb9d520210c43b25e14a0d46", func := "loop.example/g01278/laws.FnExactHasDigit", spec := "fnExactHasDigit", apart := false, narrowed := true }
def FnExactHasDigitUptoSaid : Prop := fnExactHasDigitUptoRow.holds Try.pinned (OpenSpec.upto fnExactHasDigitSpec)

/-- 'laws.FnExactSharesOf', WHERE WHAT IT READS IS OF BULK AT MOST 1048576: true; the input reads as it did. -/
def fnExactSharesOfUptoRow : OpenClaim := { program := "ytaahfebnbholmaa", sum := "15d0520198057f48c07d9e1697079535eda74882bb9d520210c43b25e14a0d46", func := "loop.example/g01278/laws.FnExactSharesOf", spec := "fnExactSharesOf", apart := false, narrowed := true }
def FnExactSharesOfUptoSaid : Prop := fnExactSharesOfUptoRow.holds Try.pinned (OpenSpec.upto fnExactSharesOfSpec)

/-- 'laws.FnExactSameTotals', WHERE WHAT IT READS IS OF BULK AT MOST 1048576: true; the input reads as it did. -/
def fnExactSameTotalsUptoRow : OpenClaim := { program := "ytaahfebnbholmaa", sum := "15d0520198057f48c07d9e1697079535eda74882bb9d520210c43b25e14a0d46", func := "loop.example/g01278/laws.FnExactSameTotals", spec := "fnExactSameTotals", apart := false, narrowed := true }
def FnExactSameTotalsUptoSaid : Prop := fnExactSameTotalsUptoRow.holds Try.pinned (OpenSpec.upto fnExactSameTotalsSpec)

/-- 'laws.FnExactSimplestPortion', WHERE WHAT IT READS IS OF BULK AT MOST 1048576: true; the input reads as it did. -/
def fnExactSimplestPortionUptoRow : OpenClaim := { program := "ytaahfebnbholmaa", sum := "15d0520198057f48c07d9e1697079535eda74882bb9d520210c43b25e14a0d46", func := "loop.example/g01278/laws.FnExactSimplestPortion", spec := "fnExactSimplestPortion", apart := false, narrowed := true }
def FnExactSimplestPortionUptoSaid : Prop := fnExactSimplestPortionUptoRow.holds Try.pinned (OpenSpec.upto fnExactSimplestPortionSpec)

/-- 'laws.FnExactValidTotals', WHERE WHAT IT READS IS OF BULK AT MOST 1048576: true; the input reads as it did. -/
def fnExactValidTotalsUptoRow : OpenClaim := { program := "ytaahfebnbholmaa", sum := "15d0520198057f48c07d9e1697079535eda74882bb9d520210c43b25e14a0d46", func := "loop.example/g01278/laws.FnExactValidTotals", spec := "fnExactValidTotals", apart := false, narrowed := true }
def FnExactValidTotalsUptoSaid : Prop := fnExactValidTotalsUptoRow.holds Try.pinned (OpenSpec.upto fnExactValidTotalsSpec)

/-- 'laws.FnRatchets', WHERE WHAT IT READS IS OF BULK AT MOST 1048576: true; the input reads as it did. -/
def fnRatchetsUptoRow : OpenClaim := { program := "ytaahfebnbholmaa", sum := "15d0520198057f48c07d9e1697079535eda74882bb9d520210c43b25e14a0d46", func := "loop.example/g01278/laws.FnRatchets", spec := "fnRatchets", unfollowed := true, recurses := true, apart := false, narrowed := true }
def FnRatchetsUptoSaid : Prop := fnRatchetsUptoRow.holds Try.pinned (OpenSpec.upto fnRatchetsSpec)

/-- 'laws.FnExactCountOn', WHERE WHAT IT READS IS OF BULK AT MOST 1048576: true; the input reads as it did. -/
def fnExactCountOnUptoRow : OpenClaim := { program := "ytaahfebnbholmaa", sum := "15d0520198057f48c07d9e1697079535eda74882bb9d520210c43b25e14a0d46", func := "loop.example/g01278/laws.FnExactCountOn", spec := "fnExactCountOn", apart := false, narrowed := true }
def FnExactCountOnUptoSaid : Prop := fnExactCountOnUptoRow.holds Try.pinned (OpenSpec.upto fnExactCountOnSpec)

/-- 'laws.FnExactPortionBounds', WHERE WHAT IT READS IS OF BULK AT MOST 1048576: true; the input reads as it did. -/
def fnExactPortionBoundsUptoRow : OpenClaim := { program := "ytaahfebnbholmaa", sum := "15d0520198057f48c07d9e1697079535eda74882bb9d520210c43b25e14a0d46", func := "loop.example/g01278/laws.FnExactPortionBounds", spec := "fnExactPortionBounds", unfollowed := true, recurses := true, apart := false, narrowed := true }
def FnExactPortionBoundsUptoSaid : Prop := fnExactPortionBoundsUptoRow.holds Try.pinned (OpenSpec.upto fnExactPortionBoundsSpec)

/-- 'laws.FnPortions', WHERE WHAT IT READS IS OF BULK AT MOST 1048576: true; the input reads as it did. -/
def fnPortionsUptoRow : OpenClaim := { program := "ytaahfebnbholmaa", sum := "15d0520198057f48c07d9e1697079535eda74882bb9d520210c43b25e14a0d46", func := "loop.example/g01278/laws.FnPortions", spec := "fnPortions", unfollowed := true, recurses := true, apart := false, narrowed := true }
def FnPortionsUptoSaid : Prop := fnPortionsUptoRow.holds Try.pinned (OpenSpec.upto fnPortionsSpec)

/-- 'laws.FnExactDriftOn', WHERE WHAT IT READS IS OF BULK AT MOST 1048576: true; the input reads as it did. -/
def fnExactDriftOnUptoRow : OpenClaim := { program := "ytaahfebnbholmaa", sum := "15d0520198057f48c07d9e1697079535eda74882bb9d520210c43b25e14a0d46", func := "loop.example/g01278/laws.FnExactDriftOn", spec := "fnExactDriftOn", apart := false, narrowed := true }
def FnExactDriftOnUptoSaid : Prop := fnExactDriftOnUptoRow.holds Try.pinned (OpenSpec.upto fnExactDriftOnSpec)

/-- 'laws.FnExactFindPortion', WHERE WHAT IT READS IS OF BULK AT MOST 1048576: true; the input reads as it did. -/
def fnExactFindPortionUptoRow : OpenClaim := { program := "ytaahfebnbholmaa", sum := "15d0520198057f48c07d9e1697079535eda74882bb9d520210c43b25e14a0d46", func := "loop.example/g01278/laws.FnExactFindPortion", spec := "fnExactFindPortion", unfollowed := true, recurses := true, apart := false, narrowed := true }
def FnExactFindPortionUptoSaid : Prop := fnExactFindPortionUptoRow.holds Try.pinned (OpenSpec.upto fnExactFindPortionSpec)

/-- 'laws.FnExactCountsByDay', WHERE WHAT IT READS IS OF BULK AT MOST 1048576: true; the input reads as it did. -/
def fnExactCountsByDayUptoRow : OpenClaim := { program := "ytaahfebnbholmaa", sum := "15d0520198057f48c07d9e1697079535eda74882bb9d520210c43b25e14a0d46", func := "loop.example/g01278/laws.FnExactCountsByDay", spec := "fnExactCountsByDay", apart := false, narrowed := true }
def FnExactCountsByDayUptoSaid : Prop := fnExactCountsByDayUptoRow.holds Try.pinned (OpenSpec.upto fnExactCountsByDaySpec)

end Rows
end Go.Proofs.Ytaahfebnbholmaa
