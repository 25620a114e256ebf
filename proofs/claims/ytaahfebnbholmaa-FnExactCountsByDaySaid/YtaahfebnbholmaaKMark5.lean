/- Any list of its own is marked; a list is compared after that. Conditions: none. -/
import Derived.Test.YtaahfebnbholmaaKList2
namespace Go.Proofs.Ytaahfebnbholmaa.X
open Go.RowKit
set_option linter.unusedVariables false
set_option linter.unusedSimpArgs false
set_option maxRecDepth 100000
set_option maxHeartbeats 1000000 in
theorem markInt64S_none (w : World) : Calls Try.prog 21 #[.slice none 0 0, .int .i64 1] w fun e w' => e = .returned (.int .i64 1) ∧ w = w' := by
  go_enter Try.func21, Try.ntmps21
  go_wp2
  refine wp_loop_rounds 1 ?_
  rw [rounds_succ]
  go_wp2
  go_ret
  exact ⟨rfl, rfl⟩
theorem markInt64S_own (ys : List Int) (v : Value) (b : Nat) (e0 : TypeId) (hn : ys.length ≤ 1048576) (w : World) (hw : w.ownsRow b e0 1 v ys.length (ys.map (Value.int .i64))) :
    Calls Try.prog 21 #[v, .int .i64 1] w fun e w' => e = .returned (.int .i64 ((ys.length : Int) + 1)) ∧ w'.ownsRow b e0 1 v ys.length ((mks ys.length).map (Value.int .i64)) ∧ w.grownBy w' v.ownBlock := by
  rcases hw.2 with ⟨e1, e2⟩ | ⟨g, cap, cur, e1, _⟩
  · subst e1
    refine (markInt64S_none w).mono ?_
    rintro e w' ⟨rfl, rfl⟩
    rw [e2]
    exact ⟨rfl, World.ownsRow_nil _ _ _ _, World.grownBy.refl _ _⟩
  · subst e1
    refine (markInt64S_some (fun i => el ys (i : Int)) ys.length g cap b e0 hn w (by rw [pm_zero]; exact hw)).mono ?_
    rintro e w' ⟨h1, h2, h3⟩
    exact ⟨h1, h2, h3⟩
end Go.Proofs.Ytaahfebnbholmaa.X
