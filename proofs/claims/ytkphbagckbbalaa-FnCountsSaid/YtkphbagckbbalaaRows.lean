/-
  No cell of these rows narrows 'for every input' (looked for: loops, veiled, ifaces, maps, wideKeys, modest, calm, conditions, laid).
  DERIVED. THE GIVEN ROWS OF THIS SEAT. 6 by the template 'for every input the law returns true; each argument reads behind the call as it read before'; 0 by the template 'total and deterministic' (their statements: YtkphbagckbbalaaTotals.lean).
  GIVEN WITH THE SEED: the statements are not yours to turn. If you find one false, say at which input.
  Laid BY PROGRAM, IN A SANDBOX (cutbox-rows.mjs): the forced cells as the released guide's own fill.sh prints them over the translation 1418aec54020af29… (all of the seat's roots in one cut). By AI agents, Wed Nov 11 2026. No macro, syntax, notation, axiom, sorry.
-/
import Derived.Test.YtkphbagckbbalaaChecked
import GoSem.Claim
import GoSem.ClaimJoined
import GoSem.ClaimMapViews
import Derived.JoinedTies
import Derived.KernelRfl
namespace Go.Proofs.Ytkphbagckbbalaa
/- THE CELL 'sum', in the pinned program and in every row, IS THE sha256 OF THE DUMP (.gsa) THAT YtkphbagckbbalaaProg.lean LOADS. Nothing in Lean hashes anything: it is a label: what it is worth is what the hold of that sum in a sandbox is worth. -/
noncomputable def Try.pinned : Pinned := { name := "ytkphbagckbbalaa", sum := "1418aec54020af290947affc0a67401982d5a3434c14483963b4c0b33f1fe90e", checked := Try.checked }
namespace Rows
def none {H : Type} : Left H := { results := [], args := [] }

/-- 'laws.FnTight': WHATEVER THE INPUT: true; the input reads as it did. -/
def fnTightSpec : ChangeSpec := { name := "fnTight", fn := fun _ => fun
  | [d1, d2] => { results := [.lit (.bool true)], args := [d1, d2] }
  | _ => none }
def fnTightRow : OpenClaim := { program := "ytkphbagckbbalaa", sum := "1418aec54020af290947affc0a67401982d5a3434c14483963b4c0b33f1fe90e", func := "loop.example/g01278/laws.FnTight", spec := "fnTight", unfollowed := true, recurses := true, apart := false }
def FnTightSaid : Prop := fnTightRow.holds Try.pinned (OpenSpec.ofChange fnTightSpec)

/-- ITS FALSE NEIGHBOUR: 'it returns false'. Refute it at one input. -/
def fnTightWrong : ChangeSpec := { name := "fnTight", fn := fun _ => fun
  | [d1, d2] => { results := [.lit (.bool false)], args := [d1, d2] }
  | _ => none }
def FnTightWrongFalsely : Prop := fnTightRow.holds Try.pinned (OpenSpec.ofChange fnTightWrong)

/-- 'laws.FnLeastStacks': WHATEVER THE INPUT: true; the input reads as it did. -/
def fnLeastStacksSpec : ChangeSpec := { name := "fnLeastStacks", fn := fun _ => fun
  | [d1, d2] => { results := [.lit (.bool true)], args := [d1, d2] }
  | _ => none }
def fnLeastStacksRow : OpenClaim := { program := "ytkphbagckbbalaa", sum := "1418aec54020af290947affc0a67401982d5a3434c14483963b4c0b33f1fe90e", func := "loop.example/g01278/laws.FnLeastStacks", spec := "fnLeastStacks", unfollowed := true, recurses := true, apart := false }
def FnLeastStacksSaid : Prop := fnLeastStacksRow.holds Try.pinned (OpenSpec.ofChange fnLeastStacksSpec)

/-- ITS FALSE NEIGHBOUR: 'it returns false'. Refute it at one input. -/
def fnLeastStacksWrong : ChangeSpec := { name := "fnLeastStacks", fn := fun _ => fun
  | [d1, d2] => { results := [.lit (.bool false)], args := [d1, d2] }
  | _ => none }
def FnLeastStacksWrongFalsely : Prop := fnLeastStacksRow.holds Try.pinned (OpenSpec.ofChange fnLeastStacksWrong)

/-- 'laws.FnOff': WHATEVER THE INPUT: true; the input reads as it did. -/
def fnOffSpec : ChangeSpec := { name := "fnOff", fn := fun _ => fun
  | [d1, d2] => { results := [.lit (.bool true)], args := [d1, d2] }
  | _ => none }
def fnOffRow : OpenClaim := { program := "ytkphbagckbbalaa", sum := "1418aec54020af290947affc0a67401982d5a3434c14483963b4c0b33f1fe90e", func := "loop.example/g01278/laws.FnOff", spec := "fnOff", unfollowed := true, recurses := true, apart := false }
def FnOffSaid : Prop := fnOffRow.holds Try.pinned (OpenSpec.ofChange fnOffSpec)

/-- ITS FALSE NEIGHBOUR: 'it returns false'. Refute it at one input. -/
def fnOffWrong : ChangeSpec := { name := "fnOff", fn := fun _ => fun
  | [d1, d2] => { results := [.lit (.bool false)], args := [d1, d2] }
  | _ => none }
def FnOffWrongFalsely : Prop := fnOffRow.holds Try.pinned (OpenSpec.ofChange fnOffWrong)

/-- 'laws.FnCounts': WHATEVER THE INPUT: true; the input reads as it did. -/
def fnCountsSpec : ChangeSpec := { name := "fnCounts", fn := fun _ => fun
  | [d1, d2] => { results := [.lit (.bool true)], args := [d1, d2] }
  | _ => none }
def fnCountsRow : OpenClaim := { program := "ytkphbagckbbalaa", sum := "1418aec54020af290947affc0a67401982d5a3434c14483963b4c0b33f1fe90e", func := "loop.example/g01278/laws.FnCounts", spec := "fnCounts", unfollowed := true, recurses := true, apart := false }
def FnCountsSaid : Prop := fnCountsRow.holds Try.pinned (OpenSpec.ofChange fnCountsSpec)

/-- ITS FALSE NEIGHBOUR: 'it returns false'. Refute it at one input. -/
def fnCountsWrong : ChangeSpec := { name := "fnCounts", fn := fun _ => fun
  | [d1, d2] => { results := [.lit (.bool false)], args := [d1, d2] }
  | _ => none }
def FnCountsWrongFalsely : Prop := fnCountsRow.holds Try.pinned (OpenSpec.ofChange fnCountsWrong)

/-- 'laws.FnRatios': WHATEVER THE INPUT: true; the input reads as it did. -/
def fnRatiosSpec : ChangeSpec := { name := "fnRatios", fn := fun _ => fun
  | [d1, d2] => { results := [.lit (.bool true)], args := [d1, d2] }
  | _ => none }
def fnRatiosRow : OpenClaim := { program := "ytkphbagckbbalaa", sum := "1418aec54020af290947affc0a67401982d5a3434c14483963b4c0b33f1fe90e", func := "loop.example/g01278/laws.FnRatios", spec := "fnRatios", unfollowed := true, recurses := true, apart := false }
def FnRatiosSaid : Prop := fnRatiosRow.holds Try.pinned (OpenSpec.ofChange fnRatiosSpec)

/-- ITS FALSE NEIGHBOUR: 'it returns false'. Refute it at one input. -/
def fnRatiosWrong : ChangeSpec := { name := "fnRatios", fn := fun _ => fun
  | [d1, d2] => { results := [.lit (.bool false)], args := [d1, d2] }
  | _ => none }
def FnRatiosWrongFalsely : Prop := fnRatiosRow.holds Try.pinned (OpenSpec.ofChange fnRatiosWrong)

/-- 'laws.FnEyes': WHATEVER THE INPUT: true; the input reads as it did. -/
def fnEyesSpec : ChangeSpec := { name := "fnEyes", fn := fun _ => fun
  | [d1, d2] => { results := [.lit (.bool true)], args := [d1, d2] }
  | _ => none }
def fnEyesRow : OpenClaim := { program := "ytkphbagckbbalaa", sum := "1418aec54020af290947affc0a67401982d5a3434c14483963b4c0b33f1fe90e", func := "loop.example/g01278/laws.FnEyes", spec := "fnEyes", unfollowed := true, recurses := true, apart := false }
def FnEyesSaid : Prop := fnEyesRow.holds Try.pinned (OpenSpec.ofChange fnEyesSpec)

/-- ITS FALSE NEIGHBOUR: 'it returns false'. Refute it at one input. -/
def fnEyesWrong : ChangeSpec := { name := "fnEyes", fn := fun _ => fun
  | [d1, d2] => { results := [.lit (.bool false)], args := [d1, d2] }
  | _ => none }
def FnEyesWrongFalsely : Prop := fnEyesRow.holds Try.pinned (OpenSpec.ofChange fnEyesWrong)

/- THE SECOND FORM. 'bulk': how many values and letters a reading holds, each counted each time it is reached (what is shared counts as often as it is met; a slice's spare places count too). A statement '..UptoSaid' is the law's where the arguments, and the package variables that the reading takes, are together of bulk at most 1048576: NARROWER than '..Said'. Prove '..Said' where nothing that the law and all that it calls make is longer than what came in: it says more and counts as full. Else prove '..UptoSaid'. A law counts once. -/
mutual
def uptoBulk {H : Type} : DataW H → Nat
  | .lit (.string bytes) => bytes.length + 1
  | .lit _ => 1
  | .nil => 1
  | .ptr d => uptoBulk d + 1
  | .slice elems spare => uptoBulkAll elems + uptoBulkAll spare + 1
  | .agg parts => uptoBulkAll parts + 1
  | .iface _ d => uptoBulk d + 1
  | .map entries => uptoBulkEntries entries + 1
  | .held _ => 1
def uptoBulkAll {H : Type} : List (DataW H) → Nat
  | [] => 0
  | d :: r => uptoBulk d + uptoBulkAll r
def uptoBulkEntries {H : Type} : List (Lit × DataW H) → Nat
  | [] => 0
  | x :: r => uptoBulkEntry x + uptoBulkEntries r
def uptoBulkEntry {H : Type} : Lit × DataW H → Nat
  | (.string bytes, d) => bytes.length + uptoBulk d + 1
  | (_, d) => uptoBulk d + 1
 end
def uptoSmall : (H : Type) → List (DataW H) → Bool := fun _ ds => decide (uptoBulkAll ds ≤ 1048576)
def OpenSpec.upto (s : _root_.Go.ChangeSpec) : _root_.Go.OpenSpec := { _root_.Go.OpenSpec.ofChange s with cond := some uptoSmall }

/-- 'laws.FnTight', WHERE WHAT IT READS IS OF BULK AT MOST 1048576: true; the input reads as it did. -/
def fnTightUptoRow : OpenClaim := { program := "ytkphbagckbbalaa", sum := "1418aec54020af290947affc0a67401982d5a3434c14483963b4c0b33f1fe90e", func := "loop.example/g01278/laws.FnTight", spec := "fnTight", unfollowed := true, recurses := true, apart := false, narrowed := true }
def FnTightUptoSaid : Prop := fnTightUptoRow.holds Try.pinned (OpenSpec.upto fnTightSpec)

/-- 'laws.FnLeastStacks', WHERE WHAT IT READS IS OF BULK AT MOST 1048576: true; the input reads as it did. -/
def fnLeastStacksUptoRow : OpenClaim := { program := "ytkphbagckbbalaa", sum := "1418aec54020af290947affc0a67401982d5a3434c14483963b4c0b33f1fe90e", func := "loop.example/g01278/laws.FnLeastStacks", spec := "fnLeastStacks", unfollowed := true, recurses := true, apart := false, narrowed := true }
def FnLeastStacksUptoSaid : Prop := fnLeastStacksUptoRow.holds Try.pinned (OpenSpec.upto fnLeastStacksSpec)

/-- 'laws.FnOff', WHERE WHAT IT READS IS OF BULK AT MOST 1048576: true; the input reads as it did. -/
def fnOffUptoRow : OpenClaim := { program := "ytkphbagckbbalaa", sum := "1418aec54020af290947affc0a67401982d5a3434c14483963b4c0b33f1fe90e", func := "loop.example/g01278/laws.FnOff", spec := "fnOff", unfollowed := true, recurses := true, apart := false, narrowed := true }
def FnOffUptoSaid : Prop := fnOffUptoRow.holds Try.pinned (OpenSpec.upto fnOffSpec)

/-- 'laws.FnCounts', WHERE WHAT IT READS IS OF BULK AT MOST 1048576: true; the input reads as it did. -/
def fnCountsUptoRow : OpenClaim := { program := "ytkphbagckbbalaa", sum := "1418aec54020af290947affc0a67401982d5a3434c14483963b4c0b33f1fe90e", func := "loop.example/g01278/laws.FnCounts", spec := "fnCounts", unfollowed := true, recurses := true, apart := false, narrowed := true }
def FnCountsUptoSaid : Prop := fnCountsUptoRow.holds Try.pinned (OpenSpec.upto fnCountsSpec)

/-- 'laws.FnRatios', WHERE WHAT IT READS IS OF BULK AT MOST 1048576: true; the input reads as it did. -/
def fnRatiosUptoRow : OpenClaim := { program := "ytkphbagckbbalaa", sum := "1418aec54020af290947affc0a67401982d5a3434c14483963b4c0b33f1fe90e", func := "loop.example/g01278/laws.FnRatios", spec := "fnRatios", unfollowed := true, recurses := true, apart := false, narrowed := true }
def FnRatiosUptoSaid : Prop := fnRatiosUptoRow.holds Try.pinned (OpenSpec.upto fnRatiosSpec)

/-- 'laws.FnEyes', WHERE WHAT IT READS IS OF BULK AT MOST 1048576: true; the input reads as it did. -/
def fnEyesUptoRow : OpenClaim := { program := "ytkphbagckbbalaa", sum := "1418aec54020af290947affc0a67401982d5a3434c14483963b4c0b33f1fe90e", func := "loop.example/g01278/laws.FnEyes", spec := "fnEyes", unfollowed := true, recurses := true, apart := false, narrowed := true }
def FnEyesUptoSaid : Prop := fnEyesUptoRow.holds Try.pinned (OpenSpec.upto fnEyesSpec)

end Rows
end Go.Proofs.Ytkphbagckbbalaa
