/- The law of StepDown, walked. Conditions: none. -/
import Derived.Test.YtgonbnjjooddcaaKStep
namespace Go.Proofs.Ytgonbnjjooddcaa.X
open Go.RowKit
set_option linter.unusedVariables false
set_option linter.unusedSimpArgs false
set_option maxRecDepth 100000
set_option maxHeartbeats 8000000 in
theorem lawExactStepDown (w : World) {A0 : Option Addr} {xs0 : List Int} (c0 : Nat) (hs0 : SL w w.heap.size 1 (fun x => [Value.int .u8 x]) A0 xs0) (hm0 : xs0.length ≤ maxLen) (h80 : b8 xs0) (f1 : Nat → Int) (hf1 : d8 f1) :
    Calls Try.prog 13 #[.slice A0 xs0.length c0, .agg #[.int .u8 (f1 0), .int .u8 (f1 1), .int .u8 (f1 2), .int .u8 (f1 3), .int .u8 (f1 4), .int .u8 (f1 5), .int .u8 (f1 6), .int .u8 (f1 7)]] w fun e w' => e = .returned (.bool true) ∧ Below w.heap.size w w' := by
  unfold maxLen at hm0
  by_cases hl0 : 1048576 < xs0.length
  · go_enter Try.func13, Try.ntmps13
    go_wp2
    go_ret
    exact ⟨rfl, (by repeat' (first | (with_reducible first | assumption | exact Below.refl _ _ | refine Below.trans ?_ (below_mo _ _ _ ?_) | refine Below.trans ?_ (below_mq _ _ ?_) | refine Below.alloc ?_ ?_ _ | refine Below.setCell ?_ ?_ _ | refine Below.drew ?_ | refine below_dn ?_ _ | exact Nat.le_refl _) | (simp; done) | (simp; omega) | omega))⟩
  have ha0 : Nums .u8 w w.heap.size A0 xs0 := ⟨hs0, by omega, Nat.le_refl _⟩
  clear hs0
  go_enter Try.func13, Try.ntmps13
  go_wp2
  go_region_held3 (fun w' => w'.cell? ⟨w.heap.size, 0, none⟩ = some (.int .u8 (f1 0)) ∧ w'.cell? ⟨w.heap.size, 1, none⟩ = some (.int .u8 (f1 1)) ∧ w'.cell? ⟨w.heap.size, 2, none⟩ = some (.int .u8 (f1 2)) ∧ w'.cell? ⟨w.heap.size, 3, none⟩ = some (.int .u8 (f1 3)) ∧ w'.cell? ⟨w.heap.size, 4, none⟩ = some (.int .u8 (f1 4)) ∧ w'.cell? ⟨w.heap.size, 5, none⟩ = some (.int .u8 (f1 5)) ∧ w'.cell? ⟨w.heap.size, 6, none⟩ = some (.int .u8 (f1 6)) ∧ w'.cell? ⟨w.heap.size, 7, none⟩ = some (.int .u8 (f1 7))) (first | go_keep | (simp [go_sem]; done) | ((repeat' apply And.intro) <;> (simp [go_sem]; done))) (first | (go_at_call 16; refine (toStack_any ha0 h80 _ _ rfl _ (by repeat' (first | (with_reducible first | assumption | exact Below.refl _ _ | refine Below.trans ?_ (below_mo _ _ _ ?_) | refine Below.trans ?_ (below_mq _ _ ?_) | refine Below.alloc ?_ ?_ _ | refine Below.setCell ?_ ?_ _ | refine Below.drew ?_ | refine below_dn ?_ _ | exact Nat.le_refl _) | (simp; done) | (simp; omega) | omega))).mono ?_; rintro e w' ⟨Ap0, cp0, rfl, p0, hb_⟩; obtain ⟨os1, dd1, rfl⟩ := mo_of hb_; clear hb_) | (go_at_call 45; refine (toDigits_any f1 _).mono ?_; rintro e w' ⟨rfl, hb_⟩; obtain ⟨os2, dd2, rfl⟩ := mo_of hb_; clear hb_) | (go_at_call 47; refine (specStepDown_any p0 h80 _ _ rfl _ (by repeat' (first | (with_reducible first | assumption | exact Below.refl _ _ | refine Below.trans ?_ (below_mo _ _ _ ?_) | refine Below.trans ?_ (below_mq _ _ ?_) | refine Below.alloc ?_ ?_ _ | refine Below.setCell ?_ ?_ _ | refine Below.drew ?_ | refine below_dn ?_ _ | exact Nat.le_refl _) | (simp; done) | (simp; omega) | omega)) f1 hf1).mono ?_; rintro e w' ⟨rfl, hb_⟩; obtain ⟨os3, dd3, rfl⟩ := mo_of hb_; clear hb_))
  all_goals
    (go_wp2_with fail; refine (toStack_any ha0 h80 _ _ rfl _ (by repeat' (first | (with_reducible first | assumption | exact Below.refl _ _ | refine Below.trans ?_ (below_mo _ _ _ ?_) | refine Below.trans ?_ (below_mq _ _ ?_) | refine Below.alloc ?_ ?_ _ | refine Below.setCell ?_ ?_ _ | refine Below.drew ?_ | refine below_dn ?_ _ | exact Nat.le_refl _) | (simp; done) | (simp; omega) | omega))).mono ?_; rintro e w' ⟨Ax0, cx0, rfl, x0, hb_⟩; obtain ⟨os4, dd4, rfl⟩ := mo_of hb_; clear hb_)
    (go_wp2_with fail; refine (toDigits_any f1 _).mono ?_; rintro e w' ⟨rfl, hb_⟩; obtain ⟨os5, dd5, rfl⟩ := mo_of hb_; clear hb_)
    (go_wp2_with fail; refine (implStepDown_any x0 h80 _ _ rfl _ (by repeat' (first | (with_reducible first | assumption | exact Below.refl _ _ | refine Below.trans ?_ (below_mo _ _ _ ?_) | refine Below.trans ?_ (below_mq _ _ ?_) | refine Below.alloc ?_ ?_ _ | refine Below.setCell ?_ ?_ _ | refine Below.drew ?_ | refine below_dn ?_ _ | exact Nat.le_refl _) | (simp; done) | (simp; omega) | omega)) f1 hf1).mono ?_; rintro e w' ⟨rfl, hb_⟩; obtain ⟨os6, dd6, rfl⟩ := mo_of hb_; clear hb_)
    (go_wp2_with fail; refine (eqDigits_same _ _).mono ?_; rintro e w' ⟨rfl, hb_⟩; obtain ⟨os7, dd7, rfl⟩ := mo_of hb_; clear hb_)
    (go_wp2_with fail; refine (toStack_any ha0 h80 _ _ rfl _ (by repeat' (first | (with_reducible first | assumption | exact Below.refl _ _ | refine Below.trans ?_ (below_mo _ _ _ ?_) | refine Below.trans ?_ (below_mq _ _ ?_) | refine Below.alloc ?_ ?_ _ | refine Below.setCell ?_ ?_ _ | refine Below.drew ?_ | refine below_dn ?_ _ | exact Nat.le_refl _) | (simp; done) | (simp; omega) | omega))).mono ?_; rintro e w' ⟨Ar0, cr0, rfl, r0, hb_⟩; obtain ⟨os8, dd8, rfl⟩ := mo_of hb_; clear hb_)
    (go_wp2_with fail; refine (eqStack_same x0 r0 _ _ _ rfl _ (by repeat' (first | (with_reducible first | assumption | exact Below.refl _ _ | refine Below.trans ?_ (below_mo _ _ _ ?_) | refine Below.trans ?_ (below_mq _ _ ?_) | refine Below.alloc ?_ ?_ _ | refine Below.setCell ?_ ?_ _ | refine Below.drew ?_ | refine below_dn ?_ _ | exact Nat.le_refl _) | (simp; done) | (simp; omega) | omega)) (by repeat' (first | (with_reducible first | assumption | exact Below.refl _ _ | refine Below.trans ?_ (below_mo _ _ _ ?_) | refine Below.trans ?_ (below_mq _ _ ?_) | refine Below.alloc ?_ ?_ _ | refine Below.setCell ?_ ?_ _ | refine Below.drew ?_ | refine below_dn ?_ _ | exact Nat.le_refl _) | (simp; done) | (simp; omega) | omega))).mono ?_; rintro e w' ⟨rfl, hb_⟩; obtain ⟨os9, dd9, rfl⟩ := mo_of hb_; clear hb_)
    go_wp2
    go_ret
    exact ⟨rfl, (by repeat' (first | (with_reducible first | assumption | exact Below.refl _ _ | refine Below.trans ?_ (below_mo _ _ _ ?_) | refine Below.trans ?_ (below_mq _ _ ?_) | refine Below.alloc ?_ ?_ _ | refine Below.setCell ?_ ?_ _ | refine Below.drew ?_ | refine below_dn ?_ _ | exact Nat.le_refl _) | (simp; done) | (simp; omega) | omega))⟩
end Go.Proofs.Ytgonbnjjooddcaa.X
