/- Stacks: how many values, and which stacks are valid. Conditions: none. -/
import Derived.Test.YtaahfebnbholmaaKBase
namespace Go.Proofs.Ytaahfebnbholmaa.X
open Go.RowKit
set_option linter.unusedVariables false
set_option linter.unusedSimpArgs false
set_option maxRecDepth 100000
/-- a number lies between two -/
def inR (n a b : Int) : Bool := decide (a ≤ n) && decide (n ≤ b)
theorem inR_t {n a b : Int} : inR n a b = true ↔ a ≤ n ∧ n ≤ b := by simp [inR]
theorem inR_f {n a b : Int} : inR n a b = false ↔ ¬ (a ≤ n ∧ n ≤ b) := by rw [← inR_t]; simp
theorem within_ok (n a b : Int) (w : World) : Calls Try.prog 58 #[.int .i64 n, .int .i64 a, .int .i64 b] w fun e w' => e = .returned (.bool (inR n a b)) ∧ w = w' := by
  by_cases h1 : a ≤ n
  all_goals by_cases h2 : n ≤ b
  all_goals
    go_enter Try.func58, Try.ntmps58
    go_wp2
    go_ret
    exact ⟨by simp [inR, *], rfl⟩
theorem l00In_ok (n a b : Int) (w : World) : Calls Try.prog 55 #[.int .i64 n, .int .i64 a, .int .i64 b] w fun e w' => e = .returned (.bool (inR n a b)) ∧ w = w' := by
  by_cases h1 : a ≤ n
  all_goals by_cases h2 : n ≤ b
  all_goals
    go_enter Try.func55, Try.ntmps55
    go_wp2
    go_ret
    exact ⟨by simp [inR, *], rfl⟩
theorem l00Max_ok (a b : Int) (w : World) : Calls Try.prog 78 #[.int .i64 a, .int .i64 b] w fun e w' => e = .returned (.int .i64 (max a b)) ∧ w = w' := by
  by_cases h1 : b < a
  all_goals
    go_enter Try.func78, Try.ntmps78
    go_wp2
    go_ret
    exact ⟨congrArg (fun z => Ending.returned (Value.int .i64 z)) (by omega), rfl⟩
def sizeTo (xs : List Int) : Nat → Int
  | 0 => 1
  | k + 1 => min (sizeTo xs k * el xs k) 1000000000001
theorem sizeTo_bd {xs : List Int} (h : b8 xs) (k : Nat) : 0 ≤ sizeTo xs k ∧ sizeTo xs k ≤ 1000000000001 := by
  induction k with
  | zero => simp [sizeTo]
  | succ k ih =>
    have := Int.mul_nonneg ih.1 (h k).1
    unfold sizeTo
    omega
theorem mul_le_255 {a b : Int} (h : 0 ≤ a ∧ a ≤ 1000000000001) (g : 0 ≤ b ∧ b ≤ 255) : 0 ≤ a * b ∧ a * b ≤ 255000000000255 := by
  refine ⟨Int.mul_nonneg h.1 g.1, ?_⟩
  have := Int.mul_le_mul h.2 g.2 g.1 (by omega)
  omega
def okB (b : Int) : Bool := decide (2 ≤ b) && decide (b ≤ 100)
/-- the first k bases are right -/
def allTo (xs : List Int) : Nat → Bool
  | 0 => true
  | k + 1 => allTo xs k && okB (el xs k)
theorem allTo_iff {xs : List Int} : ∀ {n : Nat}, allTo xs n = true ↔ ∀ j : Nat, j < n → 2 ≤ el xs j ∧ el xs j ≤ 100
  | 0 => by simp [allTo]
  | n + 1 => by
    unfold allTo
    rw [Bool.and_eq_true, allTo_iff]
    constructor
    · rintro ⟨h, g⟩ j hj
      by_cases e : j = n
      · subst e; simpa [okB] using g
      · exact h j (by omega)
    · intro h
      exact ⟨fun j hj => h j (by omega), by simpa [okB] using h n (by omega)⟩
theorem allTo_no {xs : List Int} {k n : Nat} (hk : k < n) (h : okB (el xs k) = false) : allTo xs n = false := by
  rw [← Bool.not_eq_true, allTo_iff]
  intro g
  have := g k hk
  simp [okB] at h
  omega
/-- a stack is valid -/
def okS (xs : List Int) : Bool := inR xs.length 1 8 && allTo xs xs.length && decide (sizeTo xs xs.length ≤ 1000000000000)
end Go.Proofs.Ytaahfebnbholmaa.X
