/- Marks of digits: a digit is put among them; the marks of all digits of a base; photos of sixteen numbers. Conditions: none. -/
import Derived.Test.YtbihgnmiocfelaaKLaws
namespace Go.Proofs.Ytbihgnmiocfelaa.X
open Go.RowKit
set_option linter.unusedVariables false
set_option linter.unusedSimpArgs false
set_option maxRecDepth 100000
def bitD (d : Int) : Int := IntKind.u64.wrap (2 ^ (d % 64).toNat)
/-- marks with a digit, or without it -/
def wi (x y d : Int) (m : Bool) : Int × Int := if d < 64 then (if m then bits .or .u64 x (bitD d) else bits .andNot .u64 x (bitD d), y) else (x, if m then bits .or .u64 y (bitD d) else bits .andNot .u64 y (bitD d))
set_option maxHeartbeats 400000 in
theorem with_any (x y d : Int) (m : Bool) (h0 : 0 ≤ d) (h1 : d < 128) (w : World) : Calls Try.prog 289 #[.agg #[.int .u64 x, .int .u64 y], .int .i64 d, .bool m] w fun e w' => e = .returned (.agg #[.int .u64 (wi x y d m).1, .int .u64 (wi x y d m).2]) ∧ Below w.heap.size w w' := by
  cases m
  all_goals by_cases h : d < 64
  all_goals
    have e1 : d / 64 = if d < 64 then 0 else 1 := by split <;> omega
    have e2 : 0 ≤ d % 64 := by omega
    have e3 : d % 64 < 64 := by omega
    simp only [h, if_true, if_false] at e1
    go_enter Try.func289, Try.ntmps289
    go_wp2
    go_returns
    exact ⟨by first | (simp [wi, h, bitD]; done) | (simp [wi, show ¬ d < 64 by omega, bitD]; done), (by repeat' (first | (with_reducible first | assumption | exact Below.refl _ _ | refine Below.drew ?_ | refine Below.alloc ?_ ?_ _ | refine Below.setCell ?_ ?_ _ | refine below_setR ?_ ?_ _ | refine below_dn ?_ _ | refine Below.trans ?_ (below_mo _ _ _ ?_) | refine Below.trans ?_ (below_mq _ _ ?_) | exact Nat.le_refl _) | (simp; done) | (simp; omega) | omega))⟩
set_option maxHeartbeats 400000 in
theorem l05Put_any (x y d : Int) (h0 : 0 ≤ d) (h1 : d < 128) (w : World) : Calls Try.prog 288 #[.agg #[.int .u64 x, .int .u64 y], .int .i64 d] w fun e w' => e = .returned (.agg #[.int .u64 (wi x y d true).1, .int .u64 (wi x y d true).2]) ∧ Below w.heap.size w w' := by
  by_cases h : d < 64
  all_goals
    have e1 : d / 64 = if d < 64 then 0 else 1 := by split <;> omega
    have e2 : 0 ≤ d % 64 := by omega
    have e3 : d % 64 < 64 := by omega
    simp only [h, if_true, if_false] at e1
    go_enter Try.func288, Try.ntmps288
    go_wp2
    go_returns
    exact ⟨by first | (simp [wi, h, bitD]; done) | (simp [wi, show ¬ d < 64 by omega, bitD]; done), (by repeat' (first | (with_reducible first | assumption | exact Below.refl _ _ | refine Below.drew ?_ | refine Below.alloc ?_ ?_ _ | refine Below.setCell ?_ ?_ _ | refine below_setR ?_ ?_ _ | refine below_dn ?_ _ | refine Below.trans ?_ (below_mo _ _ _ ?_) | refine Below.trans ?_ (below_mq _ _ ?_) | exact Nat.le_refl _) | (simp; done) | (simp; omega) | omega))⟩
/-- the marks of the digits below n -/
def bl : Nat → Int × Int
  | 0 => (0, 0)
  | n + 1 => wi (bl n).1 (bl n).2 n true
set_option maxHeartbeats 1000000 in
theorem below_any (b : Int) (h0 : 0 ≤ b) (h1 : b ≤ 128) (w : World) : Calls Try.prog 280 #[.int .i64 b] w fun e w' => e = .returned (.agg #[.int .u64 (bl b.toNat).1, .int .u64 (bl b.toNat).2]) ∧ Below w.heap.size w w' := by
  obtain ⟨n, rfl⟩ : ∃ n : Nat, b = n := ⟨b.toNat, by omega⟩
  rw [Int.toNat_natCast]
  go_enter Try.func280, Try.ntmps280
  go_wp2
  go_loopw [7] (fun i wr => ∃ (k : Nat) (os : Array Obj) (d : Nat), k ≤ n ∧ i = .int .i64 k ∧ wr = mo ((w.alloc (.cells #[.int .u64 0, .int .u64 0] 41)).alloc (.cells #[.int .u64 (bl k).1, .int .u64 (bl k).2] 41)) os d) (fun i _ => n - (intOf i).toNat)
  case atStart => exact ⟨0, #[], _, Nat.zero_le _, rfl, (mo_nil _).symm⟩
  case round =>
    obtain ⟨k, os, d, hk, rfl, rfl⟩ := hrel
    by_cases hlt : k < n
    · go_wp2_with (go_at_call 289; refine (with_any _ _ (k : Int) true (by omega) (by omega) _).mono ?_; rintro e w' ⟨rfl, hb_⟩; obtain ⟨os_, d_, rfl⟩ := mo_of hb_; clear hb_)
      exact ⟨⟨k + 1, _, _, by omega, by go_num, mo_mo _ _ _ _ _⟩, by simp [intOf]; omega⟩
    · obtain rfl : k = n := by omega
      go_wp2
      go_returns
      exact ⟨rfl, (by repeat' (first | (with_reducible first | assumption | exact Below.refl _ _ | refine Below.drew ?_ | refine Below.alloc ?_ ?_ _ | refine Below.setCell ?_ ?_ _ | refine below_setR ?_ ?_ _ | refine below_dn ?_ _ | refine Below.trans ?_ (below_mo _ _ _ ?_) | refine Below.trans ?_ (below_mq _ _ ?_) | exact Nat.le_refl _) | (simp; done) | (simp; omega) | omega))⟩
set_option maxHeartbeats 1000000 in
theorem l05Full_any (b : Int) (h0 : 0 ≤ b) (h1 : b ≤ 128) (w : World) : Calls Try.prog 279 #[.int .u8 b] w fun e w' => e = .returned (.agg #[.int .u64 (bl b.toNat).1, .int .u64 (bl b.toNat).2]) ∧ Below w.heap.size w w' := by
  obtain ⟨n, rfl⟩ : ∃ n : Nat, b = n := ⟨b.toNat, by omega⟩
  rw [Int.toNat_natCast]
  go_enter Try.func279, Try.ntmps279
  go_wp2
  go_loopw [4] (fun i wr => ∃ (k : Nat) (os : Array Obj) (d : Nat), k ≤ n ∧ i = .int .i64 k ∧ wr = mo ((w.alloc (.cells #[.int .u64 0, .int .u64 0] 41)).alloc (.cells #[.int .u64 (bl k).1, .int .u64 (bl k).2] 41)) os d) (fun i _ => n - (intOf i).toNat)
  case atStart => exact ⟨0, #[], _, Nat.zero_le _, rfl, (mo_nil _).symm⟩
  case round =>
    obtain ⟨k, os, d, hk, rfl, rfl⟩ := hrel
    by_cases hlt : k < n
    · go_wp2_with (go_at_call 288; refine (l05Put_any _ _ (k : Int) (by omega) (by omega) _).mono ?_; rintro e w' ⟨rfl, hb_⟩; obtain ⟨os_, d_, rfl⟩ := mo_of hb_; clear hb_)
      exact ⟨⟨k + 1, _, _, by omega, by go_num, mo_mo _ _ _ _ _⟩, by simp [intOf]; omega⟩
    · obtain rfl : k = n := by omega
      go_wp2
      go_returns
      exact ⟨rfl, (by repeat' (first | (with_reducible first | assumption | exact Below.refl _ _ | refine Below.drew ?_ | refine Below.alloc ?_ ?_ _ | refine Below.setCell ?_ ?_ _ | refine below_setR ?_ ?_ _ | refine below_dn ?_ _ | refine Below.trans ?_ (below_mo _ _ _ ?_) | refine Below.trans ?_ (below_mq _ _ ?_) | exact Nat.le_refl _) | (simp; done) | (simp; omega) | omega))⟩
def upd2 (f : Nat → Int) (k : Nat) (a b : Int) : Nat → Int := fun i => if i = 2 * k then a else if i = 2 * k + 1 then b else f i
theorem a16_set2 (q : IntKind) (f : Nat → Int) (a b : Int) {k : Nat} (h : k < 8) : ([Value.int q (f 0), Value.int q (f 1), Value.int q (f 2), Value.int q (f 3), Value.int q (f 4), Value.int q (f 5), Value.int q (f 6), Value.int q (f 7), Value.int q (f 8), Value.int q (f 9), Value.int q (f 10), Value.int q (f 11), Value.int q (f 12), Value.int q (f 13), Value.int q (f 14), Value.int q (f 15)].set (k * 2) (.int q a)).set (k * 2 + 1) (.int q b) = [Value.int q (upd2 f k a b 0), Value.int q (upd2 f k a b 1), Value.int q (upd2 f k a b 2), Value.int q (upd2 f k a b 3), Value.int q (upd2 f k a b 4), Value.int q (upd2 f k a b 5), Value.int q (upd2 f k a b 6), Value.int q (upd2 f k a b 7), Value.int q (upd2 f k a b 8), Value.int q (upd2 f k a b 9), Value.int q (upd2 f k a b 10), Value.int q (upd2 f k a b 11), Value.int q (upd2 f k a b 12), Value.int q (upd2 f k a b 13), Value.int q (upd2 f k a b 14), Value.int q (upd2 f k a b 15)] := by
  rcases lt8 h with rfl | rfl | rfl | rfl | rfl | rfl | rfl | rfl <;> rfl
theorem a16_at0 (q : IntKind) (f : Nat → Int) {k : Nat} (h : k < 8) : [Value.int q (f 0), Value.int q (f 1), Value.int q (f 2), Value.int q (f 3), Value.int q (f 4), Value.int q (f 5), Value.int q (f 6), Value.int q (f 7), Value.int q (f 8), Value.int q (f 9), Value.int q (f 10), Value.int q (f 11), Value.int q (f 12), Value.int q (f 13), Value.int q (f 14), Value.int q (f 15)][k * 2]? = some (.int q (f (2 * k))) := by
  rcases lt8 h with rfl | rfl | rfl | rfl | rfl | rfl | rfl | rfl <;> rfl
theorem a16_at1 (q : IntKind) (f : Nat → Int) {k : Nat} (h : k < 8) : [Value.int q (f 0), Value.int q (f 1), Value.int q (f 2), Value.int q (f 3), Value.int q (f 4), Value.int q (f 5), Value.int q (f 6), Value.int q (f 7), Value.int q (f 8), Value.int q (f 9), Value.int q (f 10), Value.int q (f 11), Value.int q (f 12), Value.int q (f 13), Value.int q (f 14), Value.int q (f 15)][k * 2 + 1]? = some (.int q (f (2 * k + 1))) := by
  rcases lt8 h with rfl | rfl | rfl | rfl | rfl | rfl | rfl | rfl <;> rfl
/-- the first k wheels of a blank photo -/
def bpTo (xs : List Int) (k : Nat) : Nat → Int := fun i => if i < 2 * k then if i % 2 = 0 then (bl (el xs ((i / 2 : Nat) : Int)).toNat).1 else (bl (el xs ((i / 2 : Nat) : Int)).toNat).2 else 0
theorem bpTo_succ (xs : List Int) (k : Nat) : upd2 (bpTo xs k) k (bl (el xs k).toNat).1 (bl (el xs k).toNat).2 = bpTo xs (k + 1) := by
  funext i
  unfold upd2 bpTo
  by_cases e1 : i = 2 * k
  · rw [if_pos e1, if_pos (by omega), if_pos (by omega), show i / 2 = k by omega]
  · rw [if_neg e1]
    by_cases e2 : i = 2 * k + 1
    · rw [if_pos e2, if_pos (by omega), if_neg (by omega), show i / 2 = k by omega]
    · rw [if_neg e2]
      by_cases e3 : i < 2 * k
      · simp only [e3, show i < 2 * (k + 1) by omega, if_true]
      · simp only [e3, show ¬ i < 2 * (k + 1) by omega, if_false]
theorem bp0 (xs : List Int) : (#[Value.int .u64 0, Value.int .u64 0, Value.int .u64 0, Value.int .u64 0, Value.int .u64 0, Value.int .u64 0, Value.int .u64 0, Value.int .u64 0, Value.int .u64 0, Value.int .u64 0, Value.int .u64 0, Value.int .u64 0, Value.int .u64 0, Value.int .u64 0, Value.int .u64 0, Value.int .u64 0] : Array Value) = #[.int .u64 (bpTo xs 0 0), .int .u64 (bpTo xs 0 1), .int .u64 (bpTo xs 0 2), .int .u64 (bpTo xs 0 3), .int .u64 (bpTo xs 0 4), .int .u64 (bpTo xs 0 5), .int .u64 (bpTo xs 0 6), .int .u64 (bpTo xs 0 7), .int .u64 (bpTo xs 0 8), .int .u64 (bpTo xs 0 9), .int .u64 (bpTo xs 0 10), .int .u64 (bpTo xs 0 11), .int .u64 (bpTo xs 0 12), .int .u64 (bpTo xs 0 13), .int .u64 (bpTo xs 0 14), .int .u64 (bpTo xs 0 15)] := rfl
/-- what BlankPhoto returns -/
def bpV (xs : List Int) : (Nat → Int) × Int := if okS xs then (bpTo xs xs.length, 0) else (fun _ => 0, 1)
theorem bpV_1 {xs : List Int} (h : okS xs = false) : bpV xs = (fun _ => 0, 1) := by unfold bpV; rw [h]; rfl
theorem bpV_2 {xs : List Int} (h : okS xs = true) : bpV xs = (bpTo xs xs.length, 0) := by unfold bpV; rw [h]; rfl
end Go.Proofs.Ytbihgnmiocfelaa.X
