/- Photos are handed on as they are; HasDigit is HasDigit of the reference. Conditions: none. -/
import Derived.Test.YtaahfebnbholmaaMarks
namespace Go.Proofs.Ytaahfebnbholmaa.X
open Go.RowKit
set_option maxHeartbeats 400000 in
theorem toMarks_any (x y : Int) (w : World) :
    Calls Try.prog 57 #[.agg #[.int .u64 x, .int .u64 y]] w fun e w' => e = .returned (.agg #[.int .u64 x, .int .u64 y]) ∧ Below w.heap.size w w' := by
  go_enter Try.func57, Try.ntmps57
  go_wp2
  refine wp_loop_rounds 3 ?_
  iterate 3 (rw [rounds_succ]; go_wp2)
  exact bodyPost_ret (v := .agg #[.int .u64 x, .int .u64 y]) (by simp [results, Try.results57, go_sem]) rfl ⟨rfl, (by repeat' (first | (with_reducible first | assumption | exact Below.refl _ _ | refine Below.trans ?_ (below_more _ _ _ ?_) | refine Below.alloc ?_ ?_ _ | refine Below.setCell ?_ ?_ _ | refine Below.drew ?_ | exact Nat.le_refl _) | (simp; done) | (simp; omega) | omega))⟩
set_option maxHeartbeats 4000000 in
set_option maxRecDepth 100000 in
theorem toPhoto_any (p : Nat → Int) (w : World) :
    Calls Try.prog 16 #[.agg #[.int .u64 (p 0), .int .u64 (p 1), .int .u64 (p 2), .int .u64 (p 3), .int .u64 (p 4), .int .u64 (p 5), .int .u64 (p 6), .int .u64 (p 7), .int .u64 (p 8), .int .u64 (p 9), .int .u64 (p 10), .int .u64 (p 11), .int .u64 (p 12), .int .u64 (p 13), .int .u64 (p 14), .int .u64 (p 15)]] w fun e w' => e = .returned (.agg #[.int .u64 (p 0), .int .u64 (p 1), .int .u64 (p 2), .int .u64 (p 3), .int .u64 (p 4), .int .u64 (p 5), .int .u64 (p 6), .int .u64 (p 7), .int .u64 (p 8), .int .u64 (p 9), .int .u64 (p 10), .int .u64 (p 11), .int .u64 (p 12), .int .u64 (p 13), .int .u64 (p 14), .int .u64 (p 15)]) ∧ Below w.heap.size w w' := by
  go_enter Try.func16, Try.ntmps16
  go_wp2
  refine wp_loop_rounds 9 ?_
  rw [rounds_succ]
  go_wp2_with fail
  refine (toMarks_any _ _ _).mono ?_
  rintro e w' ⟨rfl, hb⟩
  obtain ⟨os1, d1, rfl⟩ := more_of hb
  clear hb
  go_wp2_with fail
  rw [rounds_succ]
  go_wp2_with fail
  refine (toMarks_any _ _ _).mono ?_
  rintro e w' ⟨rfl, hb⟩
  obtain ⟨os2, d2, rfl⟩ := more_of hb
  clear hb
  go_wp2_with fail
  rw [rounds_succ]
  go_wp2_with fail
  refine (toMarks_any _ _ _).mono ?_
  rintro e w' ⟨rfl, hb⟩
  obtain ⟨os3, d3, rfl⟩ := more_of hb
  clear hb
  go_wp2_with fail
  rw [rounds_succ]
  go_wp2_with fail
  refine (toMarks_any _ _ _).mono ?_
  rintro e w' ⟨rfl, hb⟩
  obtain ⟨os4, d4, rfl⟩ := more_of hb
  clear hb
  go_wp2_with fail
  rw [rounds_succ]
  go_wp2_with fail
  refine (toMarks_any _ _ _).mono ?_
  rintro e w' ⟨rfl, hb⟩
  obtain ⟨os5, d5, rfl⟩ := more_of hb
  clear hb
  go_wp2_with fail
  rw [rounds_succ]
  go_wp2_with fail
  refine (toMarks_any _ _ _).mono ?_
  rintro e w' ⟨rfl, hb⟩
  obtain ⟨os6, d6, rfl⟩ := more_of hb
  clear hb
  go_wp2_with fail
  rw [rounds_succ]
  go_wp2_with fail
  refine (toMarks_any _ _ _).mono ?_
  rintro e w' ⟨rfl, hb⟩
  obtain ⟨os7, d7, rfl⟩ := more_of hb
  clear hb
  go_wp2_with fail
  rw [rounds_succ]
  go_wp2_with fail
  refine (toMarks_any _ _ _).mono ?_
  rintro e w' ⟨rfl, hb⟩
  obtain ⟨os8, d8, rfl⟩ := more_of hb
  clear hb
  go_wp2_with fail
  rw [rounds_succ]
  go_wp2_with fail
  exact bodyPost_ret (v := .agg #[.int .u64 (p 0), .int .u64 (p 1), .int .u64 (p 2), .int .u64 (p 3), .int .u64 (p 4), .int .u64 (p 5), .int .u64 (p 6), .int .u64 (p 7), .int .u64 (p 8), .int .u64 (p 9), .int .u64 (p 10), .int .u64 (p 11), .int .u64 (p 12), .int .u64 (p 13), .int .u64 (p 14), .int .u64 (p 15)]) (by simp [results, Try.results16, go_sem]) rfl ⟨rfl, (by repeat' (first | (with_reducible first | assumption | exact Below.refl _ _ | refine Below.trans ?_ (below_more _ _ _ ?_) | refine Below.alloc ?_ ?_ _ | refine Below.setCell ?_ ?_ _ | refine Below.drew ?_ | exact Nat.le_refl _) | (simp; done) | (simp; omega) | omega))⟩
/-- May the wheel show the digit? -/
def phHas (p : Nat → Int) (i d : Int) : Bool := if 0 ≤ i ∧ i < 8 ∧ 0 ≤ d ∧ d < 128 then mkHas (p (2 * i.toNat)) (p (2 * i.toNat + 1)) d else false
theorem phHas_at (p : Nat → Int) (d : Int) (k : Nat) (hk : k < 8) (hd : 0 ≤ d ∧ d < 128) : phHas p k d = mkHas (p (2 * k)) (p (2 * k + 1)) d := by
  unfold phHas
  rw [if_pos ⟨by omega, by omega, hd.1, hd.2⟩, Int.toNat_natCast]
theorem phHas_no (p : Nat → Int) (i d : Int) (h : ¬ (0 ≤ i ∧ i < 8 ∧ 0 ≤ d ∧ d < 128)) : phHas p i d = false := if_neg h
theorem eight (i : Int) (h0 : 0 ≤ i) (h1 : i < 8) : i = 0 ∨ i = 1 ∨ i = 2 ∨ i = 3 ∨ i = 4 ∨ i = 5 ∨ i = 6 ∨ i = 7 := by omega
set_option maxHeartbeats 4000000 in
set_option maxRecDepth 100000 in
theorem specHasDigit_any (p : Nat → Int) (i d : Int) (w : World) :
    Calls Try.prog 15 #[.agg #[.int .u64 (p 0), .int .u64 (p 1), .int .u64 (p 2), .int .u64 (p 3), .int .u64 (p 4), .int .u64 (p 5), .int .u64 (p 6), .int .u64 (p 7), .int .u64 (p 8), .int .u64 (p 9), .int .u64 (p 10), .int .u64 (p 11), .int .u64 (p 12), .int .u64 (p 13), .int .u64 (p 14), .int .u64 (p 15)], .int .i64 i, .int .i64 d] w fun e w' => e = .returned (.bool (phHas p i d)) ∧ Below w.heap.size w w' := by
  by_cases hi : 0 ≤ i ∧ i < 8
  · by_cases hd : 0 ≤ d ∧ d < 128
    · rcases eight i hi.1 hi.2 with rfl | rfl | rfl | rfl | rfl | rfl | rfl | rfl
      all_goals
        go_enter Try.func15, Try.ntmps15
        go_wp2_with (first
          | (go_at_call 55; refine (l00In_any _ _ _ _).mono ?_; rintro e w' ⟨rfl, rfl⟩)
          | (go_at_call 56; refine (l05Has_in _ _ _ hd.1 hd.2 _).mono ?_; rintro e w' ⟨rfl, hb⟩; obtain ⟨os, dn, rfl⟩ := more_of hb))
        go_ret
        exact ⟨by unfold phHas; rw [if_pos (by omega)]; rfl, (by repeat' (first | (with_reducible first | assumption | exact Below.refl _ _ | refine Below.trans ?_ (below_more _ _ _ ?_) | refine Below.alloc ?_ ?_ _ | refine Below.setCell ?_ ?_ _ | refine Below.drew ?_ | exact Nat.le_refl _) | (simp; done) | (simp; omega) | omega))⟩
    · rw [phHas_no p i d (by omega)]
      rcases eight i hi.1 hi.2 with rfl | rfl | rfl | rfl | rfl | rfl | rfl | rfl
      all_goals
        go_enter Try.func15, Try.ntmps15
        go_wp2_with (first
          | (go_at_call 55; refine (l00In_any _ _ _ _).mono ?_; rintro e w' ⟨rfl, rfl⟩)
          | (go_at_call 56; refine (l05Has_out _ _ _ hd _).mono ?_; rintro e w' ⟨rfl, hb⟩; obtain ⟨os, dn, rfl⟩ := more_of hb))
        go_ret
        exact ⟨rfl, (by repeat' (first | (with_reducible first | assumption | exact Below.refl _ _ | refine Below.trans ?_ (below_more _ _ _ ?_) | refine Below.alloc ?_ ?_ _ | refine Below.setCell ?_ ?_ _ | refine Below.drew ?_ | exact Nat.le_refl _) | (simp; done) | (simp; omega) | omega))⟩
  · rw [phHas_no p i d (by omega)]
    have hf : (decide (0 ≤ i) && decide (i ≤ 7)) = false := by
      rw [Bool.and_eq_false_iff]; simp only [decide_eq_false_iff_not]; omega
    go_enter Try.func15, Try.ntmps15
    go_wp2_with (go_at_call 55; refine (l00In_any _ _ _ _).mono ?_; rintro e w' ⟨rfl, rfl⟩; rw [hf])
    go_ret
    exact ⟨rfl, (by repeat' (first | (with_reducible first | assumption | exact Below.refl _ _ | refine Below.trans ?_ (below_more _ _ _ ?_) | refine Below.alloc ?_ ?_ _ | refine Below.setCell ?_ ?_ _ | refine Below.drew ?_ | exact Nat.le_refl _) | (simp; done) | (simp; omega) | omega))⟩
set_option maxHeartbeats 4000000 in
set_option maxRecDepth 100000 in
theorem implHasDigit_any (p : Nat → Int) (i d : Int) (w : World) :
    Calls Try.prog 17 #[.agg #[.int .u64 (p 0), .int .u64 (p 1), .int .u64 (p 2), .int .u64 (p 3), .int .u64 (p 4), .int .u64 (p 5), .int .u64 (p 6), .int .u64 (p 7), .int .u64 (p 8), .int .u64 (p 9), .int .u64 (p 10), .int .u64 (p 11), .int .u64 (p 12), .int .u64 (p 13), .int .u64 (p 14), .int .u64 (p 15)], .int .i64 i, .int .i64 d] w fun e w' => e = .returned (.bool (phHas p i d)) ∧ Below w.heap.size w w' := by
  by_cases hi : 0 ≤ i ∧ i < 8
  · by_cases hd : 0 ≤ d ∧ d < 128
    · have hf : (decide (0 ≤ d) && decide (d ≤ 127)) = true := by simp; omega
      rcases eight i hi.1 hi.2 with rfl | rfl | rfl | rfl | rfl | rfl | rfl | rfl
      all_goals
        go_enter Try.func17, Try.ntmps17
        go_wp2_with fail
        refine (within_any _ _ _ _).mono ?_
        rintro e w' ⟨rfl, rfl⟩
        go_wp2_with fail
        refine (within_any _ _ _ _).mono ?_
        rintro e w' ⟨rfl, rfl⟩
        rw [hf]
        go_wp2_with fail
        refine (marksHas_any _ _ _ hd.1 hd.2 _).mono ?_
        rintro e w' ⟨rfl, hb⟩
        obtain ⟨os, dn, rfl⟩ := more_of hb
        clear hb
        go_wp2_with fail
        go_ret
        exact ⟨by unfold phHas; rw [if_pos (by omega)]; rfl, (by repeat' (first | (with_reducible first | assumption | exact Below.refl _ _ | refine Below.trans ?_ (below_more _ _ _ ?_) | refine Below.alloc ?_ ?_ _ | refine Below.setCell ?_ ?_ _ | refine Below.drew ?_ | exact Nat.le_refl _) | (simp; done) | (simp; omega) | omega))⟩
    · rw [phHas_no p i d (by omega)]
      have hf : (decide (0 ≤ d) && decide (d ≤ 127)) = false := by
        rw [Bool.and_eq_false_iff]; simp only [decide_eq_false_iff_not]; omega
      have hf1 : (decide (0 ≤ i) && decide (i ≤ 7)) = true := by simp; omega
      go_enter Try.func17, Try.ntmps17
      go_wp2_with fail
      refine (within_any _ _ _ _).mono ?_
      rintro e w' ⟨rfl, rfl⟩
      rw [hf1]
      go_wp2_with fail
      refine (within_any _ _ _ _).mono ?_
      rintro e w' ⟨rfl, rfl⟩
      rw [hf]
      go_wp2_with fail
      go_ret
      exact ⟨rfl, (by repeat' (first | (with_reducible first | assumption | exact Below.refl _ _ | refine Below.trans ?_ (below_more _ _ _ ?_) | refine Below.alloc ?_ ?_ _ | refine Below.setCell ?_ ?_ _ | refine Below.drew ?_ | exact Nat.le_refl _) | (simp; done) | (simp; omega) | omega))⟩
  · rw [phHas_no p i d (by omega)]
    have hf : (decide (0 ≤ i) && decide (i ≤ 7)) = false := by
      rw [Bool.and_eq_false_iff]; simp only [decide_eq_false_iff_not]; omega
    go_enter Try.func17, Try.ntmps17
    go_wp2_with (go_at_call 58; refine (within_any _ _ _ _).mono ?_; rintro e w' ⟨rfl, rfl⟩; rw [hf])
    go_ret
    exact ⟨rfl, (by repeat' (first | (with_reducible first | assumption | exact Below.refl _ _ | refine Below.trans ?_ (below_more _ _ _ ?_) | refine Below.alloc ?_ ?_ _ | refine Below.setCell ?_ ?_ _ | refine Below.drew ?_ | exact Nat.le_refl _) | (simp; done) | (simp; omega) | omega))⟩
set_option maxHeartbeats 4000000 in
set_option maxRecDepth 100000 in
theorem lawHasDigit (p : Nat → Int) (i d : Int) (w : World) :
    Calls Try.prog 3 #[.agg #[.int .u64 (p 0), .int .u64 (p 1), .int .u64 (p 2), .int .u64 (p 3), .int .u64 (p 4), .int .u64 (p 5), .int .u64 (p 6), .int .u64 (p 7), .int .u64 (p 8), .int .u64 (p 9), .int .u64 (p 10), .int .u64 (p 11), .int .u64 (p 12), .int .u64 (p 13), .int .u64 (p 14), .int .u64 (p 15)], .int .i64 i, .int .i64 d] w fun e w' => e = .returned (.bool true) ∧ Below w.heap.size w w' := by
  go_enter Try.func3, Try.ntmps3
  go_wp2_with fail
  refine (toPhoto_any _ _).mono ?_
  rintro e w' ⟨rfl, hb⟩
  obtain ⟨os1, d1, rfl⟩ := more_of hb
  clear hb
  go_wp2_with fail
  refine (specHasDigit_any _ _ _ _).mono ?_
  rintro e w' ⟨rfl, hb⟩
  obtain ⟨os2, d2, rfl⟩ := more_of hb
  clear hb
  go_wp2_with fail
  refine (toPhoto_any _ _).mono ?_
  rintro e w' ⟨rfl, hb⟩
  obtain ⟨os3, d3, rfl⟩ := more_of hb
  clear hb
  go_wp2_with fail
  refine (implHasDigit_any _ _ _ _).mono ?_
  rintro e w' ⟨rfl, hb⟩
  obtain ⟨os4, d4, rfl⟩ := more_of hb
  clear hb
  go_wp2_with fail
  go_ret
  exact ⟨rfl, (by repeat' (first | (with_reducible first | assumption | exact Below.refl _ _ | refine Below.trans ?_ (below_more _ _ _ ?_) | refine Below.alloc ?_ ?_ _ | refine Below.setCell ?_ ?_ _ | refine Below.drew ?_ | exact Nat.le_refl _) | (simp; done) | (simp; omega) | omega))⟩
end Go.Proofs.Ytaahfebnbholmaa.X
