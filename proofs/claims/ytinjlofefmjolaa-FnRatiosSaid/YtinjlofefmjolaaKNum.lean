/- Whole numbers: quotients rounded down, what is left. Conditions: none. -/
import Derived.Test.YtinjlofefmjolaaKDigits
namespace Go.Proofs.Ytinjlofefmjolaa.X
open Go.RowKit
set_option linter.unusedVariables false
set_option linter.unusedSimpArgs false
set_option maxRecDepth 100000
theorem tdiv_n {m b : Int} (hm : 0 ≤ m) : (-m).tdiv b = -(m / b) := by rw [Int.neg_tdiv, Int.tdiv_eq_ediv_of_nonneg hm]
theorem tmod_n {m b : Int} (hm : 0 ≤ m) : (-m).tmod b = -(m % b) := by rw [Int.neg_tmod, Int.tmod_eq_emod_of_nonneg hm]
theorem ediv_n0 {m b : Int} (hb : 0 < b) (h : m % b = 0) : (-m) / b = -(m / b) := by
  have h1 := Int.emod_add_mul_ediv m b
  refine ((Int.ediv_emod_unique (r := 0) hb).2 ⟨?_, by omega, by omega⟩).1
  rw [Int.mul_neg]
  omega
theorem ediv_n1 {m b : Int} (hb : 0 < b) (h : m % b ≠ 0) : (-m) / b = -(m / b) - 1 := by
  have h1 := Int.emod_add_mul_ediv m b
  have h2 := Int.emod_nonneg m (show b ≠ 0 by omega)
  have h3 := Int.emod_lt_of_pos m hb
  refine ((Int.ediv_emod_unique (r := b - m % b) hb).2 ⟨?_, by omega, by omega⟩).1
  rw [Int.mul_sub, Int.mul_neg]
  omega
theorem ediv_bd {a b : Int} (hb : 0 < b) : a - a / b * b = a % b ∧ 0 ≤ a % b ∧ a % b < b := by
  have h1 := Int.emod_add_mul_ediv a b
  rw [Int.mul_comm] at h1
  exact ⟨by omega, Int.emod_nonneg _ (by omega), Int.emod_lt_of_pos _ hb⟩
theorem ediv_abs {m b : Int} (hm : 0 ≤ m) (hb : 0 < b) : 0 ≤ m / b ∧ m / b ≤ m := ⟨Int.ediv_nonneg hm (by omega), Int.ediv_le_self _ hm⟩
set_option maxHeartbeats 400000 in
theorem floor_any (a b : Int) (w : World) (ha : -4000000000000000000 ≤ a ∧ a ≤ 4000000000000000000) (hb : 1 ≤ b ∧ b ≤ 4000000000000000000) :
    Calls Try.prog 78 #[.int .i64 a, .int .i64 b] w fun e w' => e = .returned (.int .i64 (a / b)) ∧ w = w' := by
  obtain ⟨b1, b2⟩ := hb
  obtain ⟨a1, a2⟩ := ha
  have c0 : (b == 0) = false := beq_eq_false_iff_ne.2 (by omega)
  by_cases h : 0 ≤ a
  · obtain ⟨d0, d1⟩ := ediv_abs h (show 0 < b by omega)
    obtain ⟨_, d2, d3⟩ := ediv_bd (a := a) (show 0 < b by omega)
    have l1 : decide (a < 0) = false := decide_eq_false (by omega)
    have l3 : decide (b < 0) = false := decide_eq_false (by omega)
    cases h2 : (a % b == 0)
    all_goals
      have h3 : (a % b != 0) = _ := congrArg not h2
      go_enter Try.func78, Try.ntmps78
      go_wp2
      go_ret
      exact ⟨rfl, rfl⟩
  · obtain ⟨m, rfl⟩ : ∃ m, a = -m := ⟨-a, by omega⟩
    have hm : 0 ≤ m := by omega
    obtain ⟨d0, d1⟩ := ediv_abs hm (show 0 < b by omega)
    obtain ⟨_, d2, d3⟩ := ediv_bd (a := m) (show 0 < b by omega)
    have e1 := tdiv_n (b := b) hm
    have e2 := tmod_n (b := b) hm
    have l1 : decide (m < 0) = false := decide_eq_false (by omega)
    have l2 : decide (-m < 0) = true := decide_eq_true (by omega)
    have l3 : decide (b < 0) = false := decide_eq_false (by omega)
    by_cases h2 : m % b = 0
    · have e3 := Lib.hid (ediv_n0 (show 0 < b by omega) h2)
      have e4 : (m % b == 0) = true := beq_iff_eq.2 h2
      have e5 : (m % b != 0) = false := congrArg not e4
      go_enter Try.func78, Try.ntmps78
      go_wp2
      go_ret
      exact ⟨by rw [e3.out]; rfl, rfl⟩
    · have e3 := Lib.hid (ediv_n1 (show 0 < b by omega) h2)
      have e4 : (m % b == 0) = false := beq_eq_false_iff_ne.2 h2
      have e5 : (m % b != 0) = true := congrArg not e4
      have e6 : (-(m % b) != 0) = true := by simpa using h2
      have e7 : decide (0 < m) = true := decide_eq_true (by omega)
      go_enter Try.func78, Try.ntmps78
      go_wp2
      go_ret
      exact ⟨by rw [e3.out]; rfl, rfl⟩
theorem wrapped_any (a b : Int) (w : World) (ha : -4000000000000000000 ≤ a ∧ a ≤ 4000000000000000000) (hb : 1 ≤ b ∧ b ≤ 4000000000000000000) :
    Calls Try.prog 73 #[.int .i64 a, .int .i64 b] w fun e w' => e = .returned (.tuple #[.int .i64 (a % b), .int .i64 (a / b)]) ∧ w = w' := by
  obtain ⟨d1, d2, d3⟩ := ediv_bd (a := a) (show 0 < b by omega)
  have d4 : -8000000000000000000 ≤ a / b * b := by omega
  have d5 : a / b * b ≤ 8000000000000000000 := by omega
  have d7 : 0 ≤ a - a / b * b := by omega
  have d8 : a - a / b * b ≤ 4000000000000000000 := by omega
  have D := Lib.hid d1
  clear d1
  go_enter Try.func73, Try.ntmps73
  go_wp2_with (go_at_call 78; refine (floor_any _ _ _ ha hb).mono ?_; rintro e w' ⟨rfl, rfl⟩)
  go_returns
  exact ⟨by rw [← D.out]; rfl, rfl⟩
theorem mod_shift {m b : Int} (hb : 0 < b) : -(m % b) % b = (-m) % b := by
  have h1 := Int.emod_add_mul_ediv m b
  have e : -(m % b) = -m + b * (m / b) := by omega
  rw [e, Int.add_mul_emod_self_left]
set_option maxHeartbeats 400000 in
theorem l04Mod_any (a b : Int) (w : World) (ha : -4000000000000000000 ≤ a ∧ a ≤ 4000000000000000000) (hb : 1 ≤ b ∧ b ≤ 4000000000000000000) :
    Calls Try.prog 66 #[.int .i64 a, .int .i64 b] w fun e w' => e = .returned (.int .i64 (a % b)) ∧ w = w' := by
  obtain ⟨b1, b2⟩ := hb
  obtain ⟨a1, a2⟩ := ha
  have c0 : (b == 0) = false := beq_eq_false_iff_ne.2 (by omega)
  by_cases h : 0 ≤ a
  · obtain ⟨_, d2, d3⟩ := ediv_bd (a := a) (show 0 < b by omega)
    have e1 := Lib.hid (show (a % b + b) % b = a % b by rw [Int.add_emod_right, Int.emod_emod])
    go_enter Try.func66, Try.ntmps66
    go_wp2
    go_ret
    exact ⟨ret_i (by first | rfl | exact e1.out), rfl⟩
  · obtain ⟨m, rfl⟩ : ∃ m, a = -m := ⟨-a, by omega⟩
    have hm : 0 ≤ m := by omega
    obtain ⟨_, d2, d3⟩ := ediv_bd (a := m) (show 0 < b by omega)
    have e2 := tmod_n (b := b) hm
    have e1 := Lib.hid (mod_shift (m := m) (show 0 < b by omega))
    go_enter Try.func66, Try.ntmps66
    go_wp2
    go_ret
    exact ⟨ret_i e1.out, rfl⟩
end Go.Proofs.Ytinjlofefmjolaa.X
