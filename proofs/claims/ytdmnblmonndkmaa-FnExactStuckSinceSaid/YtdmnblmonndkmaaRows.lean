/-
  No cell of these rows narrows 'for every input' (looked for: loops, veiled, ifaces, maps, wideKeys, modest, calm, conditions, laid).
  DERIVED. THE GIVEN ROWS OF THIS SEAT. 12 by the template 'for every input the law returns true; each argument reads behind the call as it read before'; 0 by the template 'total and deterministic' (their statements: YtdmnblmonndkmaaTotals.lean).
  GIVEN WITH THE SEED: the statements are not yours to turn. If you find one false, say at which input.
  Laid BY PROGRAM, IN A SANDBOX (cutbox-rows.mjs): the forced cells as the released guide's own fill.sh prints them over the translation f4e83284397031b6… (all of the seat's roots in one cut). By AI agents, Wed Nov 11 2026. No macro, syntax, notation, axiom, sorry.
-/
import Derived.Test.YtdmnblmonndkmaaChecked
import GoSem.Claim
import GoSem.ClaimJoined
import GoSem.ClaimMapViews
import Derived.JoinedTies
import Derived.KernelRfl
namespace Go.Proofs.Ytdmnblmonndkmaa
/- THE CELL 'sum', in the pinned program and in every row, IS THE sha256 OF THE DUMP (.gsa) THAT YtdmnblmonndkmaaProg.lean LOADS. Nothing in Lean hashes anything: it is a label: what it is worth is what the hold of that sum in a sandbox is worth. -/
noncomputable def Try.pinned : Pinned := { name := "ytdmnblmonndkmaa", sum := "f4e83284397031b68ef8108f36cd2be49b4d5d8bdeeda524ab99f3ea09264293", checked := Try.checked }
namespace Rows
def none {H : Type} : Left H := { results := [], args := [] }

/-- 'laws.FnExactBlankPhoto': WHATEVER THE INPUT: true; the input reads as it did. -/
def fnExactBlankPhotoSpec : ChangeSpec := { name := "fnExactBlankPhoto", fn := fun _ => fun
  | [d] => { results := [.lit (.bool true)], args := [d] }
  | _ => none }
def fnExactBlankPhotoRow : OpenClaim := { program := "ytdmnblmonndkmaa", sum := "f4e83284397031b68ef8108f36cd2be49b4d5d8bdeeda524ab99f3ea09264293", func := "loop.example/g01278/laws.FnExactBlankPhoto", spec := "fnExactBlankPhoto", unfollowed := true, recurses := true, apart := false }
def FnExactBlankPhotoSaid : Prop := fnExactBlankPhotoRow.holds Try.pinned (OpenSpec.ofChange fnExactBlankPhotoSpec)

/-- ITS FALSE NEIGHBOUR: 'it returns false'. Refute it at one input. -/
def fnExactBlankPhotoWrong : ChangeSpec := { name := "fnExactBlankPhoto", fn := fun _ => fun
  | [d] => { results := [.lit (.bool false)], args := [d] }
  | _ => none }
def FnExactBlankPhotoWrongFalsely : Prop := fnExactBlankPhotoRow.holds Try.pinned (OpenSpec.ofChange fnExactBlankPhotoWrong)

/-- 'laws.FnExactValidPhoto': WHATEVER THE INPUT: true; the input reads as it did. -/
def fnExactValidPhotoSpec : ChangeSpec := { name := "fnExactValidPhoto", fn := fun _ => fun
  | [d1, d2] => { results := [.lit (.bool true)], args := [d1, d2] }
  | _ => none }
def fnExactValidPhotoRow : OpenClaim := { program := "ytdmnblmonndkmaa", sum := "f4e83284397031b68ef8108f36cd2be49b4d5d8bdeeda524ab99f3ea09264293", func := "loop.example/g01278/laws.FnExactValidPhoto", spec := "fnExactValidPhoto", unfollowed := true, recurses := true, apart := false }
def FnExactValidPhotoSaid : Prop := fnExactValidPhotoRow.holds Try.pinned (OpenSpec.ofChange fnExactValidPhotoSpec)

/-- ITS FALSE NEIGHBOUR: 'it returns false'. Refute it at one input. -/
def fnExactValidPhotoWrong : ChangeSpec := { name := "fnExactValidPhoto", fn := fun _ => fun
  | [d1, d2] => { results := [.lit (.bool false)], args := [d1, d2] }
  | _ => none }
def FnExactValidPhotoWrongFalsely : Prop := fnExactValidPhotoRow.holds Try.pinned (OpenSpec.ofChange fnExactValidPhotoWrong)

/-- 'laws.FnExactPhotoOf': WHATEVER THE INPUT: true; the input reads as it did. -/
def fnExactPhotoOfSpec : ChangeSpec := { name := "fnExactPhotoOf", fn := fun _ => fun
  | [d1, d2] => { results := [.lit (.bool true)], args := [d1, d2] }
  | _ => none }
def fnExactPhotoOfRow : OpenClaim := { program := "ytdmnblmonndkmaa", sum := "f4e83284397031b68ef8108f36cd2be49b4d5d8bdeeda524ab99f3ea09264293", func := "loop.example/g01278/laws.FnExactPhotoOf", spec := "fnExactPhotoOf", unfollowed := true, recurses := true, apart := false }
def FnExactPhotoOfSaid : Prop := fnExactPhotoOfRow.holds Try.pinned (OpenSpec.ofChange fnExactPhotoOfSpec)

/-- ITS FALSE NEIGHBOUR: 'it returns false'. Refute it at one input. -/
def fnExactPhotoOfWrong : ChangeSpec := { name := "fnExactPhotoOf", fn := fun _ => fun
  | [d1, d2] => { results := [.lit (.bool false)], args := [d1, d2] }
  | _ => none }
def FnExactPhotoOfWrongFalsely : Prop := fnExactPhotoOfRow.holds Try.pinned (OpenSpec.ofChange fnExactPhotoOfWrong)

/-- 'laws.FnExactJoinPhotos': WHATEVER THE INPUT: true; the input reads as it did. -/
def fnExactJoinPhotosSpec : ChangeSpec := { name := "fnExactJoinPhotos", fn := fun _ => fun
  | [d1, d2, d3] => { results := [.lit (.bool true)], args := [d1, d2, d3] }
  | _ => none }
def fnExactJoinPhotosRow : OpenClaim := { program := "ytdmnblmonndkmaa", sum := "f4e83284397031b68ef8108f36cd2be49b4d5d8bdeeda524ab99f3ea09264293", func := "loop.example/g01278/laws.FnExactJoinPhotos", spec := "fnExactJoinPhotos", unfollowed := true, recurses := true, apart := false }
def FnExactJoinPhotosSaid : Prop := fnExactJoinPhotosRow.holds Try.pinned (OpenSpec.ofChange fnExactJoinPhotosSpec)

/-- ITS FALSE NEIGHBOUR: 'it returns false'. Refute it at one input. -/
def fnExactJoinPhotosWrong : ChangeSpec := { name := "fnExactJoinPhotos", fn := fun _ => fun
  | [d1, d2, d3] => { results := [.lit (.bool false)], args := [d1, d2, d3] }
  | _ => none }
def FnExactJoinPhotosWrongFalsely : Prop := fnExactJoinPhotosRow.holds Try.pinned (OpenSpec.ofChange fnExactJoinPhotosWrong)

/-- 'laws.FnExactMeetPhotos': WHATEVER THE INPUT: true; the input reads as it did. -/
def fnExactMeetPhotosSpec : ChangeSpec := { name := "fnExactMeetPhotos", fn := fun _ => fun
  | [d1, d2, d3] => { results := [.lit (.bool true)], args := [d1, d2, d3] }
  | _ => none }
def fnExactMeetPhotosRow : OpenClaim := { program := "ytdmnblmonndkmaa", sum := "f4e83284397031b68ef8108f36cd2be49b4d5d8bdeeda524ab99f3ea09264293", func := "loop.example/g01278/laws.FnExactMeetPhotos", spec := "fnExactMeetPhotos", unfollowed := true, recurses := true, apart := false }
def FnExactMeetPhotosSaid : Prop := fnExactMeetPhotosRow.holds Try.pinned (OpenSpec.ofChange fnExactMeetPhotosSpec)

/-- ITS FALSE NEIGHBOUR: 'it returns false'. Refute it at one input. -/
def fnExactMeetPhotosWrong : ChangeSpec := { name := "fnExactMeetPhotos", fn := fun _ => fun
  | [d1, d2, d3] => { results := [.lit (.bool false)], args := [d1, d2, d3] }
  | _ => none }
def FnExactMeetPhotosWrongFalsely : Prop := fnExactMeetPhotosRow.holds Try.pinned (OpenSpec.ofChange fnExactMeetPhotosWrong)

/-- 'laws.FnExactWithDigit': WHATEVER THE INPUT: true; the input reads as it did. -/
def fnExactWithDigitSpec : ChangeSpec := { name := "fnExactWithDigit", fn := fun _ => fun
  | [d1, d2, d3, d4, d5] => { results := [.lit (.bool true)], args := [d1, d2, d3, d4, d5] }
  | _ => none }
def fnExactWithDigitRow : OpenClaim := { program := "ytdmnblmonndkmaa", sum := "f4e83284397031b68ef8108f36cd2be49b4d5d8bdeeda524ab99f3ea09264293", func := "loop.example/g01278/laws.FnExactWithDigit", spec := "fnExactWithDigit", unfollowed := true, recurses := true, apart := false }
def FnExactWithDigitSaid : Prop := fnExactWithDigitRow.holds Try.pinned (OpenSpec.ofChange fnExactWithDigitSpec)

/-- ITS FALSE NEIGHBOUR: 'it returns false'. Refute it at one input. -/
def fnExactWithDigitWrong : ChangeSpec := { name := "fnExactWithDigit", fn := fun _ => fun
  | [d1, d2, d3, d4, d5] => { results := [.lit (.bool false)], args := [d1, d2, d3, d4, d5] }
  | _ => none }
def FnExactWithDigitWrongFalsely : Prop := fnExactWithDigitRow.holds Try.pinned (OpenSpec.ofChange fnExactWithDigitWrong)

/-- 'laws.FnExactChoicesOf': WHATEVER THE INPUT: true; the input reads as it did. -/
def fnExactChoicesOfSpec : ChangeSpec := { name := "fnExactChoicesOf", fn := fun _ => fun
  | [d1, d2] => { results := [.lit (.bool true)], args := [d1, d2] }
  | _ => none }
def fnExactChoicesOfRow : OpenClaim := { program := "ytdmnblmonndkmaa", sum := "f4e83284397031b68ef8108f36cd2be49b4d5d8bdeeda524ab99f3ea09264293", func := "loop.example/g01278/laws.FnExactChoicesOf", spec := "fnExactChoicesOf", unfollowed := true, recurses := true, apart := false }
def FnExactChoicesOfSaid : Prop := fnExactChoicesOfRow.holds Try.pinned (OpenSpec.ofChange fnExactChoicesOfSpec)

/-- ITS FALSE NEIGHBOUR: 'it returns false'. Refute it at one input. -/
def fnExactChoicesOfWrong : ChangeSpec := { name := "fnExactChoicesOf", fn := fun _ => fun
  | [d1, d2] => { results := [.lit (.bool false)], args := [d1, d2] }
  | _ => none }
def FnExactChoicesOfWrongFalsely : Prop := fnExactChoicesOfRow.holds Try.pinned (OpenSpec.ofChange fnExactChoicesOfWrong)

/-- 'laws.FnExactLeastIn': WHATEVER THE INPUT: true; the input reads as it did. -/
def fnExactLeastInSpec : ChangeSpec := { name := "fnExactLeastIn", fn := fun _ => fun
  | [d1, d2] => { results := [.lit (.bool true)], args := [d1, d2] }
  | _ => none }
def fnExactLeastInRow : OpenClaim := { program := "ytdmnblmonndkmaa", sum := "f4e83284397031b68ef8108f36cd2be49b4d5d8bdeeda524ab99f3ea09264293", func := "loop.example/g01278/laws.FnExactLeastIn", spec := "fnExactLeastIn", unfollowed := true, recurses := true, apart := false }
def FnExactLeastInSaid : Prop := fnExactLeastInRow.holds Try.pinned (OpenSpec.ofChange fnExactLeastInSpec)

/-- ITS FALSE NEIGHBOUR: 'it returns false'. Refute it at one input. -/
def fnExactLeastInWrong : ChangeSpec := { name := "fnExactLeastIn", fn := fun _ => fun
  | [d1, d2] => { results := [.lit (.bool false)], args := [d1, d2] }
  | _ => none }
def FnExactLeastInWrongFalsely : Prop := fnExactLeastInRow.holds Try.pinned (OpenSpec.ofChange fnExactLeastInWrong)

/-- 'laws.FnLeastStacks': WHATEVER THE INPUT: true; the input reads as it did. -/
def fnLeastStacksSpec : ChangeSpec := { name := "fnLeastStacks", fn := fun _ => fun
  | [d1, d2] => { results := [.lit (.bool true)], args := [d1, d2] }
  | _ => none }
def fnLeastStacksRow : OpenClaim := { program := "ytdmnblmonndkmaa", sum := "f4e83284397031b68ef8108f36cd2be49b4d5d8bdeeda524ab99f3ea09264293", func := "loop.example/g01278/laws.FnLeastStacks", spec := "fnLeastStacks", unfollowed := true, recurses := true, apart := false }
def FnLeastStacksSaid : Prop := fnLeastStacksRow.holds Try.pinned (OpenSpec.ofChange fnLeastStacksSpec)

/-- ITS FALSE NEIGHBOUR: 'it returns false'. Refute it at one input. -/
def fnLeastStacksWrong : ChangeSpec := { name := "fnLeastStacks", fn := fun _ => fun
  | [d1, d2] => { results := [.lit (.bool false)], args := [d1, d2] }
  | _ => none }
def FnLeastStacksWrongFalsely : Prop := fnLeastStacksRow.holds Try.pinned (OpenSpec.ofChange fnLeastStacksWrong)

/-- 'laws.FnMeters': WHATEVER THE INPUT: true; the input reads as it did. -/
def fnMetersSpec : ChangeSpec := { name := "fnMeters", fn := fun _ => fun
  | [d1, d2] => { results := [.lit (.bool true)], args := [d1, d2] }
  | _ => none }
def fnMetersRow : OpenClaim := { program := "ytdmnblmonndkmaa", sum := "f4e83284397031b68ef8108f36cd2be49b4d5d8bdeeda524ab99f3ea09264293", func := "loop.example/g01278/laws.FnMeters", spec := "fnMeters", unfollowed := true, recurses := true, apart := false }
def FnMetersSaid : Prop := fnMetersRow.holds Try.pinned (OpenSpec.ofChange fnMetersSpec)

/-- ITS FALSE NEIGHBOUR: 'it returns false'. Refute it at one input. -/
def fnMetersWrong : ChangeSpec := { name := "fnMeters", fn := fun _ => fun
  | [d1, d2] => { results := [.lit (.bool false)], args := [d1, d2] }
  | _ => none }
def FnMetersWrongFalsely : Prop := fnMetersRow.holds Try.pinned (OpenSpec.ofChange fnMetersWrong)

/-- 'laws.FnExactStuckSince': WHATEVER THE INPUT: true; the input reads as it did. -/
def fnExactStuckSinceSpec : ChangeSpec := { name := "fnExactStuckSince", fn := fun _ => fun
  | [d1, d2, d3] => { results := [.lit (.bool true)], args := [d1, d2, d3] }
  | _ => none }
def fnExactStuckSinceRow : OpenClaim := { program := "ytdmnblmonndkmaa", sum := "f4e83284397031b68ef8108f36cd2be49b4d5d8bdeeda524ab99f3ea09264293", func := "loop.example/g01278/laws.FnExactStuckSince", spec := "fnExactStuckSince", unfollowed := true, recurses := true, apart := false }
def FnExactStuckSinceSaid : Prop := fnExactStuckSinceRow.holds Try.pinned (OpenSpec.ofChange fnExactStuckSinceSpec)

/-- ITS FALSE NEIGHBOUR: 'it returns false'. Refute it at one input. -/
def fnExactStuckSinceWrong : ChangeSpec := { name := "fnExactStuckSince", fn := fun _ => fun
  | [d1, d2, d3] => { results := [.lit (.bool false)], args := [d1, d2, d3] }
  | _ => none }
def FnExactStuckSinceWrongFalsely : Prop := fnExactStuckSinceRow.holds Try.pinned (OpenSpec.ofChange fnExactStuckSinceWrong)

/-- 'laws.FnExactGoesBack': WHATEVER THE INPUT: true; the input reads as it did. -/
def fnExactGoesBackSpec : ChangeSpec := { name := "fnExactGoesBack", fn := fun _ => fun
  | [d1, d2] => { results := [.lit (.bool true)], args := [d1, d2] }
  | _ => none }
def fnExactGoesBackRow : OpenClaim := { program := "ytdmnblmonndkmaa", sum := "f4e83284397031b68ef8108f36cd2be49b4d5d8bdeeda524ab99f3ea09264293", func := "loop.example/g01278/laws.FnExactGoesBack", spec := "fnExactGoesBack", unfollowed := true, recurses := true, apart := false }
def FnExactGoesBackSaid : Prop := fnExactGoesBackRow.holds Try.pinned (OpenSpec.ofChange fnExactGoesBackSpec)

/-- ITS FALSE NEIGHBOUR: 'it returns false'. Refute it at one input. -/
def fnExactGoesBackWrong : ChangeSpec := { name := "fnExactGoesBack", fn := fun _ => fun
  | [d1, d2] => { results := [.lit (.bool false)], args := [d1, d2] }
  | _ => none }
def FnExactGoesBackWrongFalsely : Prop := fnExactGoesBackRow.holds Try.pinned (OpenSpec.ofChange fnExactGoesBackWrong)

/- THE SECOND FORM. 'bulk': how many values and letters a reading holds, each counted each time it is reached (what is shared counts as often as it is met; a slice's spare places count too). A statement '..UptoSaid' is the law's where the arguments, and the package variables that the reading takes, are together of bulk at most 1048576: NARROWER than '..Said'. Prove '..Said' where nothing that the law and all that it calls make is longer than what came in: it says more and counts as full. Else prove '..UptoSaid'. A law counts once. -/
mutual
def uptoBulk {H : Type} : DataW H → Nat
  | .lit (.string bytes) => bytes.length + 1
  | .lit _ => 1
  | .nil => 1
  | .ptr d => uptoBulk d + 1
  | .slice elems spare => uptoBulkAll elems + uptoBulkAll spare + 1
  | .agg parts => uptoBulkAll parts + 1
  | .iface _ d => uptoBulk d + 1
  | .map entries => uptoBulkEntries entries + 1
  | .held _ => 1
def uptoBulkAll {H : Type} : List (DataW H) → Nat
  | [] => 0
  | d :: r => uptoBulk d + uptoBulkAll r
def uptoBulkEntries {H : Type} : List (Lit × DataW H) → Nat
  | [] => 0
  | x :: r => uptoBulkEntry x + uptoBulkEntries r
def uptoBulkEntry {H : Type} : Lit × DataW H → Nat
  | (.string bytes, d) => bytes.length + uptoBulk d + 1
  | (_, d) => uptoBulk d + 1
 end
def uptoSmall : (H : Type) → List (DataW H) → Bool := fun _ ds => decide (uptoBulkAll ds ≤ 1048576)
def OpenSpec.upto (s : _root_.Go.ChangeSpec) : _root_.Go.OpenSpec := { _root_.Go.OpenSpec.ofChange s with cond := some uptoSmall }

/-- 'laws.FnExactBlankPhoto', WHERE WHAT IT READS IS OF BULK AT MOST 1048576: true; the input reads as it did. -/
def fnExactBlankPhotoUptoRow : OpenClaim := { program := "ytdmnblmonndkmaa", sum := "f4e83284397031b68ef8108f36cd2be49b4d5d8bdeeda524ab99f3ea09264293", func := "loop.example/g01278/laws.FnExactBlankPhoto", spec := "fnExactBlankPhoto", unfollowed := true, recurses := true, apart := false, narrowed := true }
def FnExactBlankPhotoUptoSaid : Prop := fnExactBlankPhotoUptoRow.holds Try.pinned (OpenSpec.upto fnExactBlankPhotoSpec)

/-- 'laws.FnExactValidPhoto', WHERE WHAT IT READS IS OF BULK AT MOST 1048576: true; the input reads as it did. -/
def fnExactValidPhotoUptoRow : OpenClaim := { program := "ytdmnblmonndkmaa", sum := "f4e83284397031b68ef8108f36cd2be49b4d5d8bdeeda524ab99f3ea09264293", func := "loop.example/g01278/laws.FnExactValidPhoto", spec := "fnExactValidPhoto", unfollowed := true, recurses := true, apart := false, narrowed := true }
def FnExactValidPhotoUptoSaid : Prop := fnExactValidPhotoUptoRow.holds Try.pinned (OpenSpec.upto fnExactValidPhotoSpec)

/-- 'laws.FnExactPhotoOf', WHERE WHAT IT READS IS OF BULK AT MOST 1048576: true; the input reads as it did. -/
def fnExactPhotoOfUptoRow : OpenClaim := { program := "ytdmnblmonndkmaa", sum := "f4e83284397031b68ef8108f36cd2be49b4d5d8bdeeda524ab99f3ea09264293", func := "loop.example/g01278/laws.FnExactPhotoOf", spec := "fnExactPhotoOf", unfollowed := true, recurses := true, apart := false, narrowed := true }
def FnExactPhotoOfUptoSaid : Prop := fnExactPhotoOfUptoRow.holds Try.pinned (OpenSpec.upto fnExactPhotoOfSpec)

/-- 'laws.FnExactJoinPhotos', WHERE WHAT IT READS IS OF BULK AT MOST 1048576: true; the input reads as it did. -/
def fnExactJoinPhotosUptoRow : OpenClaim := { program := "ytdmnblmonndkmaa", sum := "f4e83284397031b68ef8108f36cd2be49b4d5d8bdeeda524ab99f3ea09264293", func := "loop.example/g01278/laws.FnExactJoinPhotos", spec := "fnExactJoinPhotos", unfollowed := true, recurses := true, apart := false, narrowed := true }
def FnExactJoinPhotosUptoSaid : Prop := fnExactJoinPhotosUptoRow.holds Try.pinned (OpenSpec.upto fnExactJoinPhotosSpec)

/-- 'laws.FnExactMeetPhotos', WHERE WHAT IT READS IS OF BULK AT MOST 1048576: true; the input reads as it did. -/
def fnExactMeetPhotosUptoRow : OpenClaim := { program := "ytdmnblmonndkmaa", sum := "f4e83284397031b68ef8108f36cd2be49b4d5d8bdeeda524ab99f3ea09264293", func := "loop.example/g01278/laws.FnExactMeetPhotos", spec := "fnExactMeetPhotos", unfollowed := true, recurses := true, apart := false, narrowed := true }
def FnExactMeetPhotosUptoSaid : Prop := fnExactMeetPhotosUptoRow.holds Try.pinned (OpenSpec.upto fnExactMeetPhotosSpec)

/-- 'laws.FnExactWithDigit', WHERE WHAT IT READS IS OF BULK AT MOST 1048576: true; the input reads as it did. -/
def fnExactWithDigitUptoRow : OpenClaim := { program := "ytdmnblmonndkmaa", sum := "f4e83284397031b68ef8108f36cd2be49b4d5d8bdeeda524ab99f3ea09264293", func := "loop.example/g01278/laws.FnExactWithDigit", spec := "fnExactWithDigit", unfollowed := true, recurses := true, apart := false, narrowed := true }
def FnExactWithDigitUptoSaid : Prop := fnExactWithDigitUptoRow.holds Try.pinned (OpenSpec.upto fnExactWithDigitSpec)

/-- 'laws.FnExactChoicesOf', WHERE WHAT IT READS IS OF BULK AT MOST 1048576: true; the input reads as it did. -/
def fnExactChoicesOfUptoRow : OpenClaim := { program := "ytdmnblmonndkmaa", sum := "f4e83284397031b68ef8108f36cd2be49b4d5d8bdeeda524ab99f3ea09264293", func := "loop.example/g01278/laws.FnExactChoicesOf", spec := "fnExactChoicesOf", unfollowed := true, recurses := true, apart := false, narrowed := true }
def FnExactChoicesOfUptoSaid : Prop := fnExactChoicesOfUptoRow.holds Try.pinned (OpenSpec.upto fnExactChoicesOfSpec)

/-- 'laws.FnExactLeastIn', WHERE WHAT IT READS IS OF BULK AT MOST 1048576: true; the input reads as it did. -/
def fnExactLeastInUptoRow : OpenClaim := { program := "ytdmnblmonndkmaa", sum := "f4e83284397031b68ef8108f36cd2be49b4d5d8bdeeda524ab99f3ea09264293", func := "loop.example/g01278/laws.FnExactLeastIn", spec := "fnExactLeastIn", unfollowed := true, recurses := true, apart := false, narrowed := true }
def FnExactLeastInUptoSaid : Prop := fnExactLeastInUptoRow.holds Try.pinned (OpenSpec.upto fnExactLeastInSpec)

/-- 'laws.FnLeastStacks', WHERE WHAT IT READS IS OF BULK AT MOST 1048576: true; the input reads as it did. -/
def fnLeastStacksUptoRow : OpenClaim := { program := "ytdmnblmonndkmaa", sum := "f4e83284397031b68ef8108f36cd2be49b4d5d8bdeeda524ab99f3ea09264293", func := "loop.example/g01278/laws.FnLeastStacks", spec := "fnLeastStacks", unfollowed := true, recurses := true, apart := false, narrowed := true }
def FnLeastStacksUptoSaid : Prop := fnLeastStacksUptoRow.holds Try.pinned (OpenSpec.upto fnLeastStacksSpec)

/-- 'laws.FnMeters', WHERE WHAT IT READS IS OF BULK AT MOST 1048576: true; the input reads as it did. -/
def fnMetersUptoRow : OpenClaim := { program := "ytdmnblmonndkmaa", sum := "f4e83284397031b68ef8108f36cd2be49b4d5d8bdeeda524ab99f3ea09264293", func := "loop.example/g01278/laws.FnMeters", spec := "fnMeters", unfollowed := true, recurses := true, apart := false, narrowed := true }
def FnMetersUptoSaid : Prop := fnMetersUptoRow.holds Try.pinned (OpenSpec.upto fnMetersSpec)

/-- 'laws.FnExactStuckSince', WHERE WHAT IT READS IS OF BULK AT MOST 1048576: true; the input reads as it did. -/
def fnExactStuckSinceUptoRow : OpenClaim := { program := "ytdmnblmonndkmaa", sum := "f4e83284397031b68ef8108f36cd2be49b4d5d8bdeeda524ab99f3ea09264293", func := "loop.example/g01278/laws.FnExactStuckSince", spec := "fnExactStuckSince", unfollowed := true, recurses := true, apart := false, narrowed := true }
def FnExactStuckSinceUptoSaid : Prop := fnExactStuckSinceUptoRow.holds Try.pinned (OpenSpec.upto fnExactStuckSinceSpec)

/-- 'laws.FnExactGoesBack', WHERE WHAT IT READS IS OF BULK AT MOST 1048576: true; the input reads as it did. -/
def fnExactGoesBackUptoRow : OpenClaim := { program := "ytdmnblmonndkmaa", sum := "f4e83284397031b68ef8108f36cd2be49b4d5d8bdeeda524ab99f3ea09264293", func := "loop.example/g01278/laws.FnExactGoesBack", spec := "fnExactGoesBack", unfollowed := true, recurses := true, apart := false, narrowed := true }
def FnExactGoesBackUptoSaid : Prop := fnExactGoesBackUptoRow.holds Try.pinned (OpenSpec.upto fnExactGoesBackSpec)

end Rows
end Go.Proofs.Ytdmnblmonndkmaa
