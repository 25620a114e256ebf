/- The law of ShowsAfter, walked. Conditions: none. -/
import Derived.Test.YtgonbnjjooddcaaKMLaws
import Derived.Test.YtgonbnjjooddcaaKFlows
namespace Go.Proofs.Ytgonbnjjooddcaa.X
open Go.RowKit
set_option linter.unusedVariables false
set_option linter.unusedSimpArgs false
set_option maxRecDepth 100000
set_option maxHeartbeats 8000000 in
theorem lawExactShowsAfter (w : World) {A0 : Option Addr} {xs0 : List Int} (c0 : Nat) (hs0 : SL w w.heap.size 1 (fun x => [Value.int .u8 x]) A0 xs0) (hm0 : xs0.length ≤ maxLen) (h80 : b8 xs0) (mp0 mq0 ms0 : Int) (a1 : Int) (ha1 : -9223372036854775808 ≤ a1 ∧ a1 ≤ 9223372036854775807) :
    Calls Try.prog 8 #[.agg #[.slice A0 xs0.length c0, .int .i64 mp0, .int .i64 mq0, .int .i64 ms0], .int .i64 a1] w fun e w' => e = .returned (.bool true) ∧ Below w.heap.size w w' := by
  unfold maxLen at hm0
  by_cases hl0 : (1048576 : Int) < xs0.length
  · go_enter Try.func8, Try.ntmps8
    (go_wp2_with fail; refine (szMeter_big _ _ _ _ _ (1048576) (by omega) (by omega) _ hl0 (by omega)).mono ?_; rintro e w' ⟨rfl, hb_⟩; obtain ⟨oss0, ds0, rfl⟩ := mo_of hb_; clear hb_)
    go_wp2
    go_ret
    exact ⟨rfl, (by repeat' (first | (with_reducible first | assumption | exact Below.refl _ _ | refine Below.trans ?_ (below_mo _ _ _ ?_) | refine Below.trans ?_ (below_mq _ _ ?_) | refine Below.alloc ?_ ?_ _ | refine Below.setCell ?_ ?_ _ | refine Below.drew ?_ | refine below_dn ?_ _ | exact Nat.le_refl _) | (simp; done) | (simp; omega) | omega))⟩
  have ha0 : Nums .u8 w w.heap.size A0 xs0 := ⟨hs0, by omega, Nat.le_refl _⟩
  clear hs0
  go_enter Try.func8, Try.ntmps8
  (go_wp2_with fail; refine (szMeter_ok _ _ _ _ _ (1048576) (by omega) (by omega) _ (by omega)).mono ?_; rintro e w' ⟨rfl, hb_⟩; obtain ⟨oss0, ds0, rfl⟩ := mo_of hb_; clear hb_)
  (go_wp2_with fail; refine (toMeter_any ha0 h80 c0 mp0 mq0 ms0 _ (by repeat' (first | (with_reducible first | assumption | exact Below.refl _ _ | refine Below.trans ?_ (below_mo _ _ _ ?_) | refine Below.trans ?_ (below_mq _ _ ?_) | refine Below.alloc ?_ ?_ _ | refine Below.setCell ?_ ?_ _ | refine Below.drew ?_ | refine below_dn ?_ _ | exact Nat.le_refl _) | (simp; done) | (simp; omega) | omega))).mono ?_; rintro e w' ⟨Ap0, cp0, rfl, pF0, hb_⟩; obtain ⟨os1, dd1, rfl⟩ := mo_of hb_; clear hb_)
  (go_wp2_with fail; refine (specShowsAfter_any pF0 h80 _ mp0 mq0 ms0 _ (by repeat' (first | (with_reducible first | assumption | exact Below.refl _ _ | refine Below.trans ?_ (below_mo _ _ _ ?_) | refine Below.trans ?_ (below_mq _ _ ?_) | refine Below.alloc ?_ ?_ _ | refine Below.setCell ?_ ?_ _ | refine Below.drew ?_ | refine below_dn ?_ _ | exact Nat.le_refl _) | (simp; done) | (simp; omega) | omega)) a1).mono ?_; rintro e w' ⟨rfl, hb_⟩; obtain ⟨os2, dd2, rfl⟩ := mo_of hb_; clear hb_)
  (go_wp2_with fail; refine (toMeter_any ha0 h80 c0 mp0 mq0 ms0 _ (by repeat' (first | (with_reducible first | assumption | exact Below.refl _ _ | refine Below.trans ?_ (below_mo _ _ _ ?_) | refine Below.trans ?_ (below_mq _ _ ?_) | refine Below.alloc ?_ ?_ _ | refine Below.setCell ?_ ?_ _ | refine Below.drew ?_ | refine below_dn ?_ _ | exact Nat.le_refl _) | (simp; done) | (simp; omega) | omega))).mono ?_; rintro e w' ⟨Ax0, cx0, rfl, xF0, hb_⟩; obtain ⟨os3, dd3, rfl⟩ := mo_of hb_; clear hb_)
  (go_wp2_with fail; refine (implShowsAfter_any xF0 h80 _ mp0 mq0 ms0 _ (by repeat' (first | (with_reducible first | assumption | exact Below.refl _ _ | refine Below.trans ?_ (below_mo _ _ _ ?_) | refine Below.trans ?_ (below_mq _ _ ?_) | refine Below.alloc ?_ ?_ _ | refine Below.setCell ?_ ?_ _ | refine Below.drew ?_ | refine below_dn ?_ _ | exact Nat.le_refl _) | (simp; done) | (simp; omega) | omega)) a1).mono ?_; rintro e w' ⟨rfl, hb_⟩; obtain ⟨os4, dd4, rfl⟩ := mo_of hb_; clear hb_)
  go_wp2
  go_region_held3 (fun w' => w'.cell? ⟨w.heap.size + 1 + oss0.size + os1.size + os2.size + os3.size, 0, none⟩ = some (.slice Ax0 xs0.length cx0) ∧ w'.cell? ⟨w.heap.size + 1 + oss0.size + os1.size + os2.size + os3.size, 1, none⟩ = some (.int .i64 mp0) ∧ w'.cell? ⟨w.heap.size + 1 + oss0.size + os1.size + os2.size + os3.size, 2, none⟩ = some (.int .i64 mq0) ∧ w'.cell? ⟨w.heap.size + 1 + oss0.size + os1.size + os2.size + os3.size, 3, none⟩ = some (.int .i64 ms0) ∧ w'.cell? ⟨w.heap.size, 0, none⟩ = some (.slice A0 xs0.length c0) ∧ w'.cell? ⟨w.heap.size, 1, none⟩ = some (.int .i64 mp0) ∧ w'.cell? ⟨w.heap.size, 2, none⟩ = some (.int .i64 mq0) ∧ w'.cell? ⟨w.heap.size, 3, none⟩ = some (.int .i64 ms0)) (first | (simp [go_sem]; done) | ((repeat' apply And.intro) <;> (first | (simp [go_sem]; done) | (simp [go_sem, *]; done)))) (first | (go_at_call 22; refine (toMeter_any ha0 h80 c0 mp0 mq0 ms0 _ (by repeat' (first | (with_reducible first | assumption | exact Below.refl _ _ | refine Below.trans ?_ (below_mo _ _ _ ?_) | refine Below.trans ?_ (below_mq _ _ ?_) | refine Below.alloc ?_ ?_ _ | refine Below.setCell ?_ ?_ _ | refine Below.drew ?_ | refine below_dn ?_ _ | exact Nat.le_refl _) | (simp; done) | (simp; omega) | omega))).mono ?_; rintro e w' ⟨Ar0, cr0, rfl, rF0, hb_⟩; obtain ⟨os5, dd5, rfl⟩ := mo_of hb_; clear hb_) | (go_at_call 24; refine (eqMeter_same xF0 rF0 _ _ mp0 mq0 ms0 _ (by repeat' (first | (with_reducible first | assumption | exact Below.refl _ _ | refine Below.trans ?_ (below_mo _ _ _ ?_) | refine Below.trans ?_ (below_mq _ _ ?_) | refine Below.alloc ?_ ?_ _ | refine Below.setCell ?_ ?_ _ | refine Below.drew ?_ | refine below_dn ?_ _ | exact Nat.le_refl _) | (simp; done) | (simp; omega) | omega)) (by repeat' (first | (with_reducible first | assumption | exact Below.refl _ _ | refine Below.trans ?_ (below_mo _ _ _ ?_) | refine Below.trans ?_ (below_mq _ _ ?_) | refine Below.alloc ?_ ?_ _ | refine Below.setCell ?_ ?_ _ | refine Below.drew ?_ | refine below_dn ?_ _ | exact Nat.le_refl _) | (simp; done) | (simp; omega) | omega))).mono ?_; rintro e w' ⟨rfl, hb_⟩; obtain ⟨os6, dd6, rfl⟩ := mo_of hb_; clear hb_))
  go_wp2
  go_ret
  exact ⟨rfl, (by repeat' (first | (with_reducible first | assumption | exact Below.refl _ _ | refine Below.trans ?_ (below_mo _ _ _ ?_) | refine Below.trans ?_ (below_mq _ _ ?_) | refine Below.alloc ?_ ?_ _ | refine Below.setCell ?_ ?_ _ | refine Below.drew ?_ | refine below_dn ?_ _ | exact Nat.le_refl _) | (simp; done) | (simp; omega) | omega))⟩
end Go.Proofs.Ytgonbnjjooddcaa.X
