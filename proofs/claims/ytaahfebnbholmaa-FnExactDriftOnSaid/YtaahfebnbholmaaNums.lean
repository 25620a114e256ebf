/- Tests of numbers. Conditions: none. -/
import Derived.Test.YtaahfebnbholmaaBase
namespace Go.Proofs.Ytaahfebnbholmaa.X
open Go.RowKit
set_option linter.unusedVariables false
set_option linter.unusedSimpArgs false
theorem within_b (n a b : Int) (w : World) : Calls Try.prog 58 #[.int .i64 n, .int .i64 a, .int .i64 b] w fun e w' => e = .returned (.bool (decide (a ≤ n) && decide (n ≤ b))) ∧ w = w' := by
  by_cases h1 : a ≤ n
  all_goals by_cases h2 : n ≤ b
  all_goals
    go_enter Try.func58, Try.ntmps58
    go_wp2
    go_ret
    exact ⟨by simp [*], rfl⟩
theorem within_t (n a b : Int) (w : World) (h : a ≤ n ∧ n ≤ b) : Calls Try.prog 58 #[.int .i64 n, .int .i64 a, .int .i64 b] w fun e w' => e = .returned (.bool true) ∧ w = w' := by
  have := within_b n a b w
  rwa [decide_eq_true h.1, decide_eq_true h.2] at this
theorem within_f (n a b : Int) (w : World) (h : ¬ (a ≤ n ∧ n ≤ b)) : Calls Try.prog 58 #[.int .i64 n, .int .i64 a, .int .i64 b] w fun e w' => e = .returned (.bool false) ∧ w = w' := by
  have := within_b n a b w
  rwa [show (decide (a ≤ n) && decide (n ≤ b)) = false by rw [Bool.and_eq_false_iff]; simp only [decide_eq_false_iff_not]; omega] at this
theorem l00In_b (n a b : Int) (w : World) : Calls Try.prog 55 #[.int .i64 n, .int .i64 a, .int .i64 b] w fun e w' => e = .returned (.bool (decide (a ≤ n) && decide (n ≤ b))) ∧ w = w' := by
  by_cases h1 : a ≤ n
  all_goals by_cases h2 : n ≤ b
  all_goals
    go_enter Try.func55, Try.ntmps55
    go_wp2
    go_ret
    exact ⟨by simp [*], rfl⟩
theorem l00In_t (n a b : Int) (w : World) (h : a ≤ n ∧ n ≤ b) : Calls Try.prog 55 #[.int .i64 n, .int .i64 a, .int .i64 b] w fun e w' => e = .returned (.bool true) ∧ w = w' := by
  have := l00In_b n a b w
  rwa [decide_eq_true h.1, decide_eq_true h.2] at this
theorem l00In_f (n a b : Int) (w : World) (h : ¬ (a ≤ n ∧ n ≤ b)) : Calls Try.prog 55 #[.int .i64 n, .int .i64 a, .int .i64 b] w fun e w' => e = .returned (.bool false) ∧ w = w' := by
  have := l00In_b n a b w
  rwa [show (decide (a ≤ n) && decide (n ≤ b)) = false by rw [Bool.and_eq_false_iff]; simp only [decide_eq_false_iff_not]; omega] at this
end Go.Proofs.Ytaahfebnbholmaa.X
