/- The law of SimplestPortion, walked. Conditions: none. -/
import Derived.Test.YtaahfebnbholmaaKPortion2
namespace Go.Proofs.Ytaahfebnbholmaa.X
open Go.RowKit
set_option linter.unusedVariables false
set_option linter.unusedSimpArgs false
set_option maxRecDepth 100000
set_option maxHeartbeats 8000000 in
theorem lawExactSimplestPortion (w : World) (x0 y0 : Int) (x1 y1 : Int) :
    Calls Try.prog 6 #[.agg #[.int .i64 x0, .int .i64 y0], .agg #[.int .i64 x1, .int .i64 y1]] w fun e w' => e = .returned (.bool true) ∧ Below w.heap.size w w' := by
  skip
  go_enter Try.func6, Try.ntmps6
  go_wp2
  go_region_held3 (fun w' => w'.cell? ⟨w.heap.size, 0, none⟩ = some (.int .i64 x0) ∧ w'.cell? ⟨w.heap.size, 1, none⟩ = some (.int .i64 y0) ∧ w'.cell? ⟨w.heap.size + 1, 0, none⟩ = some (.int .i64 x1) ∧ w'.cell? ⟨w.heap.size + 1, 1, none⟩ = some (.int .i64 y1)) (first | go_keep | (simp [go_sem]; done) | ((repeat' apply And.intro) <;> (simp [go_sem]; done))) (first | (go_at_call 29; refine (toPortion_any _ _ _).mono ?_; rintro e w' ⟨rfl, hb_⟩; obtain ⟨os1, dd1, rfl⟩ := mo_of hb_; clear hb_) | (go_at_call 29; refine (toPortion_any _ _ _).mono ?_; rintro e w' ⟨rfl, hb_⟩; obtain ⟨os2, dd2, rfl⟩ := mo_of hb_; clear hb_) | (go_at_call 28; refine (specSimplestPortion_any x0 y0 x1 y1 _).mono ?_; rintro e w' ⟨rfl, hb_⟩; obtain ⟨os3, dd3, rfl⟩ := mo_of hb_; clear hb_))
  all_goals
    go_wp2
    go_region_held3 (fun w' => w'.cell? ⟨w.heap.size, 0, none⟩ = some (.int .i64 x0) ∧ w'.cell? ⟨w.heap.size, 1, none⟩ = some (.int .i64 y0) ∧ w'.cell? ⟨w.heap.size + 1, 0, none⟩ = some (.int .i64 x1) ∧ w'.cell? ⟨w.heap.size + 1, 1, none⟩ = some (.int .i64 y1)) (first | go_keep | (simp [go_sem]; done) | ((repeat' apply And.intro) <;> (simp [go_sem]; done))) (first | (go_at_call 29; refine (toPortion_any _ _ _).mono ?_; rintro e w' ⟨rfl, hb_⟩; obtain ⟨os4, dd4, rfl⟩ := mo_of hb_; clear hb_) | (go_at_call 29; refine (toPortion_any _ _ _).mono ?_; rintro e w' ⟨rfl, hb_⟩; obtain ⟨os5, dd5, rfl⟩ := mo_of hb_; clear hb_) | (go_at_call 30; refine (implSimplestPortion_any x0 y0 x1 y1 _).mono ?_; rintro e w' ⟨rfl, hb_⟩; obtain ⟨os6, dd6, rfl⟩ := mo_of hb_; clear hb_))
    all_goals
      (go_wp2_with fail; refine (eqPortion_same _ _ _).mono ?_; rintro e w' ⟨rfl, hb_⟩; obtain ⟨os7, dd7, rfl⟩ := mo_of hb_; clear hb_)
      go_wp2
      go_ret
      exact ⟨rfl, (by repeat' (first | (with_reducible first | assumption | exact Below.refl _ _ | refine Below.trans ?_ (below_mo _ _ _ ?_) | refine Below.trans ?_ (below_mq _ _ ?_) | refine Below.alloc ?_ ?_ _ | refine Below.setCell ?_ ?_ _ | refine Below.drew ?_ | refine below_dn ?_ _ | exact Nat.le_refl _) | (simp; done) | (simp; omega) | omega))⟩
end Go.Proofs.Ytaahfebnbholmaa.X
