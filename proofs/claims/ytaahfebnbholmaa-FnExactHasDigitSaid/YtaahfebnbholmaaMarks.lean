/- HasDigit of the program is HasDigit of the reference, for all arguments. Conditions: none. -/
import Derived.Test.YtaahfebnbholmaaBase
namespace Go.Proofs.Ytaahfebnbholmaa.X
open Go.RowKit
theorem within_any (n a b : Int) (w : World) : Calls Try.prog 58 #[.int .i64 n, .int .i64 a, .int .i64 b] w fun e w' => e = .returned (.bool (decide (a ≤ n) && decide (n ≤ b))) ∧ w = w' := by
  by_cases h1 : a ≤ n
  all_goals by_cases h2 : n ≤ b
  all_goals
    go_enter Try.func58, Try.ntmps58
    go_wp2
    go_ret
    exact ⟨by simp [*], rfl⟩
theorem l00In_any (n a b : Int) (w : World) : Calls Try.prog 55 #[.int .i64 n, .int .i64 a, .int .i64 b] w fun e w' => e = .returned (.bool (decide (a ≤ n) && decide (n ≤ b))) ∧ w = w' := by
  by_cases h1 : a ≤ n
  all_goals by_cases h2 : n ≤ b
  all_goals
    go_enter Try.func55, Try.ntmps55
    go_wp2
    go_ret
    exact ⟨by simp [*], rfl⟩
/-- Is digit d marked? -/
def mkHas (x y d : Int) : Bool := if d < 64 then bits .and .u64 (x / 2 ^ d.toNat) 1 == 1 else bits .and .u64 (y / 2 ^ (d - 64).toNat) 1 == 1
set_option maxHeartbeats 400000 in
theorem marksHas_any (x y d : Int) (h0 : 0 ≤ d) (h1 : d < 128) (w : World) :
    Calls Try.prog 59 #[.agg #[.int .u64 x, .int .u64 y], .int .i64 d] w fun e w' => e = .returned (.bool (mkHas x y d)) ∧ Below w.heap.size w w' := by
  by_cases h : d < 64
  · have e1 : d / 64 = 0 := by omega
    have e2 : d % 64 = d := by omega
    go_enter Try.func59, Try.ntmps59
    go_wp2
    go_ret
    exact ⟨by first | (simp [mkHas, h, e2]; done) | (unfold mkHas; rw [if_neg (by omega)]; simp [e2]), (Below.refl _ _).alloc (Nat.le_refl _) _⟩
  · have e1 : d / 64 = 1 := by omega
    have e2 : d % 64 = d - 64 := by omega
    go_enter Try.func59, Try.ntmps59
    go_wp2
    go_ret
    exact ⟨by first | (simp [mkHas, h, e2]; done) | (unfold mkHas; rw [if_neg (by omega)]; simp [e2]), (Below.refl _ _).alloc (Nat.le_refl _) _⟩
set_option maxHeartbeats 400000 in
theorem l05Has_out (x y d : Int) (h : ¬ (0 ≤ d ∧ d < 128)) (w : World) :
    Calls Try.prog 56 #[.agg #[.int .u64 x, .int .u64 y], .int .i64 d] w fun e w' => e = .returned (.bool false) ∧ Below w.heap.size w w' := by
  have hf : (decide (0 ≤ d) && decide (d ≤ 127)) = false := by
    rw [Bool.and_eq_false_iff]; simp only [decide_eq_false_iff_not]; omega
  go_enter Try.func56, Try.ntmps56
  go_wp2_with (go_at_call 55; refine (l00In_any _ _ _ _).mono ?_; rintro e w' ⟨rfl, rfl⟩; rw [hf])
  go_ret
  exact ⟨rfl, (Below.refl _ _).alloc (Nat.le_refl _) _⟩
set_option maxHeartbeats 400000 in
theorem l05Has_in (x y d : Int) (h0 : 0 ≤ d) (h1 : d < 128) (w : World) :
    Calls Try.prog 56 #[.agg #[.int .u64 x, .int .u64 y], .int .i64 d] w fun e w' => e = .returned (.bool (mkHas x y d)) ∧ Below w.heap.size w w' := by
  have hf : (decide (0 ≤ d) && decide (d ≤ 127)) = true := by simp; omega
  by_cases h : d < 64
  · have e1 : d / 64 = 0 := by omega
    have e2 : d % 64 = d := by omega
    go_enter Try.func56, Try.ntmps56
    go_wp2_with (go_at_call 55; refine (l00In_any _ _ _ _).mono ?_; rintro e w' ⟨rfl, rfl⟩; rw [hf])
    go_ret
    exact ⟨by first | (simp [mkHas, h, e2]; done) | (unfold mkHas; rw [if_neg (by omega)]; simp [e2]), (Below.refl _ _).alloc (Nat.le_refl _) _⟩
  · have e1 : d / 64 = 1 := by omega
    have e2 : d % 64 = d - 64 := by omega
    go_enter Try.func56, Try.ntmps56
    go_wp2_with (go_at_call 55; refine (l00In_any _ _ _ _).mono ?_; rintro e w' ⟨rfl, rfl⟩; rw [hf])
    go_ret
    exact ⟨by first | (simp [mkHas, h, e2]; done) | (unfold mkHas; rw [if_neg (by omega)]; simp [e2]), (Below.refl _ _).alloc (Nat.le_refl _) _⟩
end Go.Proofs.Ytaahfebnbholmaa.X
