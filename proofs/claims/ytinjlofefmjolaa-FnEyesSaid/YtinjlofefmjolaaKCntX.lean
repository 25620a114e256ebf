/- Counts on wheels: ways, digits compared, the next value with a digit, moves. Conditions: none. -/
import Derived.Test.YtinjlofefmjolaaKCntW
namespace Go.Proofs.Ytinjlofefmjolaa.X
open Go.RowKit
set_option linter.unusedVariables false
set_option linter.unusedSimpArgs false
set_option maxRecDepth 100000
def sgnC (n : Int) : Int := min (max n (-1)) 1
theorem signC (n : Int) (w : World) : Calls Try.prog 51 #[.int .i64 n] w fun e w' => e = .returned (.int .i64 (sgnC n)) ∧ w = w' := by
  have HV : Hid (sgnC n = min (max n (-1)) 1) := rfl
  go_enter Try.func51, Try.ntmps51
  go_wp2
  all_goals
    go_ret
    exact ⟨congrArg (fun z => Ending.returned (Value.int .i64 z)) (by rw [HV.out]; omega), rfl⟩
/-- what NextWith tells -/
def nextV (xs : List Int) (v : Int) (k : Nat) (d : Int) : Int := if dg xs v k = d then 0 else nxW (pr xs k) (el xs (k : Int)) v d
end Go.Proofs.Ytinjlofefmjolaa.X
