/- The law FnExactDriftOn, walked. Conditions: none. -/
import Derived.Test.YtaahfebnbholmaaTotalsD
namespace Go.Proofs.Ytaahfebnbholmaa.X
open Go.RowKit
set_option linter.unusedVariables false
set_option linter.unusedSimpArgs false
set_option maxHeartbeats 4000000 in
set_option maxRecDepth 100000 in
theorem lawDriftOn (A0 : Option Addr) (xs0 : List (Int × Int)) (n0 c0 : Nat) (A1 : Option Addr) (xs1 : List (Int × Int)) (n1 c1 : Nat) (a2 : Int) (w : World) (hn0 : xs0.length = n0) (hm0 : n0 ≤ maxLen) (hs0 : SL w w.heap.size 2 e2 A0 xs0) (hn1 : xs1.length = n1) (hm1 : n1 ≤ maxLen) (hs1 : SL w w.heap.size 2 e2 A1 xs1) :
    Calls Try.prog 12 #[.slice A0 n0 c0, .slice A1 n1 c1, .int .i64 a2] w fun e w' => e = .returned (.bool true) ∧ Below w.heap.size w w' := by
  have hz0 := fun w => szTotalS_any A0 n0 c0 1048576 w (by omega) (by omega) hm0
  by_cases hl0 : (1048576 : Int) < n0
  · simp only [hl0, if_true] at hz0
    go_enter Try.func12, Try.ntmps12
    go_wp2_with fail
    refine (hz0 _).mono ?_
    rintro e w' ⟨rfl, rfl⟩
    go_wp2
    go_ret
    exact ⟨rfl, (by repeat' (first | (with_reducible first | assumption | exact Below.refl _ _ | refine Below.trans ?_ (below_more _ _ _ ?_) | refine Below.alloc ?_ ?_ _ | refine Below.setCell ?_ ?_ _ | refine Below.drew ?_ | refine below_dnB ?_ _ | exact Nat.le_refl _) | (simp; done) | (simp; omega) | omega))⟩
  simp only [hl0, if_false] at hz0
  have hz1 := fun w => szTotalS_any A1 n1 c1 (1048576 - n0) w (by omega) (by omega) hm1
  by_cases hl1 : (1048576 - n0 : Int) < n1
  · simp only [hl1, if_true] at hz1
    go_enter Try.func12, Try.ntmps12
    go_wp2_with fail
    refine (hz0 _).mono ?_
    rintro e w' ⟨rfl, rfl⟩
    go_wp2_with fail
    refine (hz1 _).mono ?_
    rintro e w' ⟨rfl, rfl⟩
    go_wp2
    go_ret
    exact ⟨rfl, (by repeat' (first | (with_reducible first | assumption | exact Below.refl _ _ | refine Below.trans ?_ (below_more _ _ _ ?_) | refine Below.alloc ?_ ?_ _ | refine Below.setCell ?_ ?_ _ | refine Below.drew ?_ | refine below_dnB ?_ _ | exact Nat.le_refl _) | (simp; done) | (simp; omega) | omega))⟩
  simp only [hl1, if_false] at hz1
  have hl0' : n0 ≤ 1048576 := by omega
  have hl1' : n1 ≤ 1048576 := by omega
  have HN0 := Lib.hid hn0
  clear hn0
  have HN1 := Lib.hid hn1
  clear hn1
  go_enter Try.func12, Try.ntmps12
  go_wp2_with fail
  refine (hz0 _).mono ?_
  rintro e w' ⟨rfl, rfl⟩
  go_wp2_with fail
  refine (hz1 _).mono ?_
  rintro e w' ⟨rfl, rfl⟩
  go_wp2_with fail
  refine (toTotalS_any _ _ _ _ _ _ HN0.out hl0' (Nat.le_refl _) (hs0.keep (by repeat' (first | (with_reducible first | assumption | exact Below.refl _ _ | refine Below.trans ?_ (below_more _ _ _ ?_) | refine Below.alloc ?_ ?_ _ | refine Below.setCell ?_ ?_ _ | refine Below.drew ?_ | refine below_dnB ?_ _ | exact Nat.le_refl _) | (simp; done) | (simp; omega) | omega)) (Nat.le_refl _) (by first | exact Nat.le_refl _ | (simp; done) | (simp; omega)))).mono ?_
  rintro e w' ⟨Bp0, cp0, rfl, hp0, hb_⟩
  have hk0 := (hs0.keep (by repeat' (first | (with_reducible first | assumption | exact Below.refl _ _ | refine Below.trans ?_ (below_more _ _ _ ?_) | refine Below.alloc ?_ ?_ _ | refine Below.setCell ?_ ?_ _ | refine Below.drew ?_ | refine below_dnB ?_ _ | exact Nat.le_refl _) | (simp; done) | (simp; omega) | omega)) (Nat.le_refl _) (by first | exact Nat.le_refl _ | (simp; done) | (simp; omega)) : SL _ _ _ _ _ _).keep hb_ (Nat.le_refl _) hb_.size
  have hk1 := (hs1.keep (by repeat' (first | (with_reducible first | assumption | exact Below.refl _ _ | refine Below.trans ?_ (below_more _ _ _ ?_) | refine Below.alloc ?_ ?_ _ | refine Below.setCell ?_ ?_ _ | refine Below.drew ?_ | refine below_dnB ?_ _ | exact Nat.le_refl _) | (simp; done) | (simp; omega) | omega)) (Nat.le_refl _) (by first | exact Nat.le_refl _ | (simp; done) | (simp; omega)) : SL _ _ _ _ _ _).keep hb_ (Nat.le_refl _) hb_.size
  obtain ⟨os0, d0, rfl⟩ := more_of hb_
  clear hb_
  rw [HN0.out]
  go_wp2_with fail
  refine (toTotalS_any _ _ _ _ _ _ HN1.out hl1' (Nat.le_refl _) hk1).mono ?_
  rintro e w' ⟨Bp1, cp1, rfl, hp1, hb_⟩
  replace hk0 := hk0.keep hb_ (Nat.le_refl _) hb_.size
  replace hk1 := hk1.keep hb_ (Nat.le_refl _) hb_.size
  replace hp0 := hp0.keep hb_ (Nat.le_refl _) hb_.size
  obtain ⟨os1, d1, rfl⟩ := more_of hb_
  clear hb_
  try simp only [more_more, Array.append_assoc] at hk0 hk1 hp0 hp1
  rw [HN1.out]
  go_wp2_with fail
  refine (specDriftOn_any _ _ xs0 xs1 _ _ _ _ _ _ _ _ HN0.out HN1.out hm0 hm1 (Nat.le_refl _) (Nat.le_refl _) hp0 hp1).mono ?_
  rintro e w' ⟨rfl, hb_⟩
  replace hk0 := hk0.keep hb_ (Nat.le_refl _) hb_.size
  replace hk1 := hk1.keep hb_ (Nat.le_refl _) hb_.size
  replace hp0 := hp0.keep hb_ (Nat.le_refl _) hb_.size
  replace hp1 := hp1.keep hb_ (Nat.le_refl _) hb_.size
  obtain ⟨os2, d2, rfl⟩ := more_of hb_
  clear hb_
  try simp only [more_more, Array.append_assoc] at hk0 hk1 hp0 hp1
  go_wp2_with fail
  refine (toTotalS_any _ _ _ _ _ _ HN0.out hl0' (Nat.le_refl _) hk0).mono ?_
  rintro e w' ⟨Bq0, cq0, rfl, hq0, hb_⟩
  replace hk0 := hk0.keep hb_ (Nat.le_refl _) hb_.size
  replace hk1 := hk1.keep hb_ (Nat.le_refl _) hb_.size
  replace hp0 := hp0.keep hb_ (Nat.le_refl _) hb_.size
  replace hp1 := hp1.keep hb_ (Nat.le_refl _) hb_.size
  obtain ⟨os3, d3, rfl⟩ := more_of hb_
  clear hb_
  try simp only [more_more, Array.append_assoc] at hk0 hk1 hp0 hp1 hq0
  rw [HN0.out]
  go_wp2_with fail
  refine (toTotalS_any _ _ _ _ _ _ HN1.out hl1' (Nat.le_refl _) hk1).mono ?_
  rintro e w' ⟨Bq1, cq1, rfl, hq1, hb_⟩
  replace hk0 := hk0.keep hb_ (Nat.le_refl _) hb_.size
  replace hk1 := hk1.keep hb_ (Nat.le_refl _) hb_.size
  replace hp0 := hp0.keep hb_ (Nat.le_refl _) hb_.size
  replace hp1 := hp1.keep hb_ (Nat.le_refl _) hb_.size
  replace hq0 := hq0.keep hb_ (Nat.le_refl _) hb_.size
  obtain ⟨os4, d4, rfl⟩ := more_of hb_
  clear hb_
  try simp only [more_more, Array.append_assoc] at hk0 hk1 hp0 hp1 hq0 hq1
  rw [HN1.out]
  go_wp2_with fail
  refine (implDriftOn_any _ _ xs0 xs1 _ _ _ _ _ _ _ _ HN0.out HN1.out hm0 hm1 (Nat.le_refl _) (Nat.le_refl _) hq0 hq1).mono ?_
  rintro e w' ⟨rfl, hb_⟩
  replace hk0 := hk0.keep hb_ (Nat.le_refl _) hb_.size
  replace hk1 := hk1.keep hb_ (Nat.le_refl _) hb_.size
  replace hp0 := hp0.keep hb_ (Nat.le_refl _) hb_.size
  replace hp1 := hp1.keep hb_ (Nat.le_refl _) hb_.size
  replace hq0 := hq0.keep hb_ (Nat.le_refl _) hb_.size
  replace hq1 := hq1.keep hb_ (Nat.le_refl _) hb_.size
  obtain ⟨os5, d5, rfl⟩ := more_of hb_
  clear hb_
  try simp only [more_more, Array.append_assoc] at hk0 hk1 hp0 hp1 hq0 hq1
  go_wp2_with fail
  refine (toTotalS_any _ _ _ _ _ _ HN0.out hl0' (Nat.le_refl _) hk0).mono ?_
  rintro e w' ⟨Br0, cr0, rfl, hr0, hb_⟩
  replace hk0 := hk0.keep hb_ (Nat.le_refl _) hb_.size
  replace hk1 := hk1.keep hb_ (Nat.le_refl _) hb_.size
  replace hp0 := hp0.keep hb_ (Nat.le_refl _) hb_.size
  replace hp1 := hp1.keep hb_ (Nat.le_refl _) hb_.size
  replace hq0 := hq0.keep hb_ (Nat.le_refl _) hb_.size
  replace hq1 := hq1.keep hb_ (Nat.le_refl _) hb_.size
  obtain ⟨os6, d6, rfl⟩ := more_of hb_
  clear hb_
  try simp only [more_more, Array.append_assoc] at hk0 hk1 hp0 hp1 hq0 hq1 hr0
  rw [HN0.out]
  go_wp2_with fail
  refine (eqTotalS_same _ _ xs0 _ _ _ _ _ _ HN0.out hl0' (Nat.le_refl _) (Nat.le_refl _) hq0 hr0).mono ?_
  rintro e w' ⟨rfl, hb_⟩
  replace hk0 := hk0.keep hb_ (Nat.le_refl _) hb_.size
  replace hk1 := hk1.keep hb_ (Nat.le_refl _) hb_.size
  replace hp0 := hp0.keep hb_ (Nat.le_refl _) hb_.size
  replace hp1 := hp1.keep hb_ (Nat.le_refl _) hb_.size
  replace hq0 := hq0.keep hb_ (Nat.le_refl _) hb_.size
  replace hq1 := hq1.keep hb_ (Nat.le_refl _) hb_.size
  replace hr0 := hr0.keep hb_ (Nat.le_refl _) hb_.size
  obtain ⟨os7, d7, rfl⟩ := more_of hb_
  clear hb_
  try simp only [more_more, Array.append_assoc] at hk0 hk1 hp0 hp1 hq0 hq1 hr0
  go_wp2_with fail
  refine (toTotalS_any _ _ _ _ _ _ HN1.out hl1' (Nat.le_refl _) hk1).mono ?_
  rintro e w' ⟨Br1, cr1, rfl, hr1, hb_⟩
  replace hk0 := hk0.keep hb_ (Nat.le_refl _) hb_.size
  replace hk1 := hk1.keep hb_ (Nat.le_refl _) hb_.size
  replace hp0 := hp0.keep hb_ (Nat.le_refl _) hb_.size
  replace hp1 := hp1.keep hb_ (Nat.le_refl _) hb_.size
  replace hq0 := hq0.keep hb_ (Nat.le_refl _) hb_.size
  replace hq1 := hq1.keep hb_ (Nat.le_refl _) hb_.size
  replace hr0 := hr0.keep hb_ (Nat.le_refl _) hb_.size
  obtain ⟨os8, d8, rfl⟩ := more_of hb_
  clear hb_
  try simp only [more_more, Array.append_assoc] at hk0 hk1 hp0 hp1 hq0 hq1 hr0 hr1
  rw [HN1.out]
  go_wp2_with fail
  refine (eqTotalS_same _ _ xs1 _ _ _ _ _ _ HN1.out hl1' (Nat.le_refl _) (Nat.le_refl _) hq1 hr1).mono ?_
  rintro e w' ⟨rfl, hb_⟩
  replace hk0 := hk0.keep hb_ (Nat.le_refl _) hb_.size
  replace hk1 := hk1.keep hb_ (Nat.le_refl _) hb_.size
  replace hp0 := hp0.keep hb_ (Nat.le_refl _) hb_.size
  replace hp1 := hp1.keep hb_ (Nat.le_refl _) hb_.size
  replace hq0 := hq0.keep hb_ (Nat.le_refl _) hb_.size
  replace hq1 := hq1.keep hb_ (Nat.le_refl _) hb_.size
  replace hr0 := hr0.keep hb_ (Nat.le_refl _) hb_.size
  replace hr1 := hr1.keep hb_ (Nat.le_refl _) hb_.size
  obtain ⟨os9, d9, rfl⟩ := more_of hb_
  clear hb_
  try simp only [more_more, Array.append_assoc] at hk0 hk1 hp0 hp1 hq0 hq1 hr0 hr1
  go_wp2
  go_ret
  exact ⟨rfl, (by repeat' (first | (with_reducible first | assumption | exact Below.refl _ _ | refine Below.trans ?_ (below_more _ _ _ ?_) | refine Below.alloc ?_ ?_ _ | refine Below.setCell ?_ ?_ _ | refine Below.drew ?_ | refine below_dnB ?_ _ | exact Nat.le_refl _) | (simp; done) | (simp; omega) | omega))⟩
end Go.Proofs.Ytaahfebnbholmaa.X
