/- A copy of a log has the room of its length. Conditions: none. -/
import Derived.Test.YtdmnblmonndkmaaKStuck4
import Derived.Test.YtdmnblmonndkmaaKMarkR
namespace Go.Proofs.Ytdmnblmonndkmaa.X
open Go.RowKit
set_option linter.unusedVariables false
set_option linter.unusedSimpArgs false
set_option maxRecDepth 100000
theorem toReadingS_room {L : Option Addr} {log : List (Int × Int)} {V : World} {C : Nat} (hl : Prs .i64 .i64 V C L log) (cl : Nat) (w : World) (hv : Below C V w) : Calls Try.prog 55 #[.slice L log.length cl] w fun e w' => ∃ A c, e = .returned (.slice A log.length c) ∧ Prs .i64 .i64 w' w'.heap.size A log ∧ log.length ≤ c ∧ Below w.heap.size w w' := by
  refine (toReadingSO hl cl w hv).mono ?_
  rintro e w' ⟨g, va, rfl, _, h1, h2⟩
  exact ⟨_, _, rfl, h1, Nat.le_refl _, h2⟩
end Go.Proofs.Ytdmnblmonndkmaa.X
