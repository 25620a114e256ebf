/- Photos handed on as they are. Conditions: none. -/
import Derived.Test.YtbihgnmiocfelaaKLaws
namespace Go.Proofs.Ytbihgnmiocfelaa.X
open Go.RowKit
set_option linter.unusedVariables false
set_option linter.unusedSimpArgs false
set_option maxRecDepth 100000
set_option maxHeartbeats 400000 in
theorem toMarks_any (x y : Int) (w : World) : Calls Try.prog 127 #[.agg #[.int .u64 x, .int .u64 y]] w fun e w' => e = .returned (.agg #[.int .u64 x, .int .u64 y]) ∧ Below w.heap.size w w' := by
  go_enter Try.func127, Try.ntmps127
  go_wp2
  refine wp_loop_rounds 3 ?_
  iterate 3 (rw [rounds_succ]; go_wp2)
  exact bodyPost_ret (v := .agg #[.int .u64 x, .int .u64 y]) (by simp [results, Try.results127, go_sem]) rfl ⟨rfl, (by repeat' (first | (with_reducible first | assumption | exact Below.refl _ _ | refine Below.drew ?_ | refine Below.alloc ?_ ?_ _ | refine Below.setCell ?_ ?_ _ | refine below_setR ?_ ?_ _ | refine below_dn ?_ _ | refine Below.trans ?_ (below_mo _ _ _ ?_) | refine Below.trans ?_ (below_mq _ _ ?_) | exact Nat.le_refl _) | (simp; done) | (simp; omega) | omega))⟩
set_option maxHeartbeats 4000000 in
set_option maxRecDepth 100000 in
theorem toPhoto_any (p : Nat → Int) (w : World) : Calls Try.prog 24 #[.agg #[.int .u64 (p 0), .int .u64 (p 1), .int .u64 (p 2), .int .u64 (p 3), .int .u64 (p 4), .int .u64 (p 5), .int .u64 (p 6), .int .u64 (p 7), .int .u64 (p 8), .int .u64 (p 9), .int .u64 (p 10), .int .u64 (p 11), .int .u64 (p 12), .int .u64 (p 13), .int .u64 (p 14), .int .u64 (p 15)]] w fun e w' => e = .returned (.agg #[.int .u64 (p 0), .int .u64 (p 1), .int .u64 (p 2), .int .u64 (p 3), .int .u64 (p 4), .int .u64 (p 5), .int .u64 (p 6), .int .u64 (p 7), .int .u64 (p 8), .int .u64 (p 9), .int .u64 (p 10), .int .u64 (p 11), .int .u64 (p 12), .int .u64 (p 13), .int .u64 (p 14), .int .u64 (p 15)]) ∧ Below w.heap.size w w' := by
  go_enter Try.func24, Try.ntmps24
  go_wp2
  refine wp_loop_rounds 9 ?_
  rw [rounds_succ]
  go_wp2_with fail
  refine (toMarks_any _ _ _).mono ?_
  rintro e w' ⟨rfl, hb_⟩
  obtain ⟨os0, d0, rfl⟩ := mo_of hb_
  clear hb_
  go_wp2_with fail
  rw [rounds_succ]
  go_wp2_with fail
  refine (toMarks_any _ _ _).mono ?_
  rintro e w' ⟨rfl, hb_⟩
  obtain ⟨os1, d1, rfl⟩ := mo_of hb_
  clear hb_
  go_wp2_with fail
  rw [rounds_succ]
  go_wp2_with fail
  refine (toMarks_any _ _ _).mono ?_
  rintro e w' ⟨rfl, hb_⟩
  obtain ⟨os2, d2, rfl⟩ := mo_of hb_
  clear hb_
  go_wp2_with fail
  rw [rounds_succ]
  go_wp2_with fail
  refine (toMarks_any _ _ _).mono ?_
  rintro e w' ⟨rfl, hb_⟩
  obtain ⟨os3, d3, rfl⟩ := mo_of hb_
  clear hb_
  go_wp2_with fail
  rw [rounds_succ]
  go_wp2_with fail
  refine (toMarks_any _ _ _).mono ?_
  rintro e w' ⟨rfl, hb_⟩
  obtain ⟨os4, d4, rfl⟩ := mo_of hb_
  clear hb_
  go_wp2_with fail
  rw [rounds_succ]
  go_wp2_with fail
  refine (toMarks_any _ _ _).mono ?_
  rintro e w' ⟨rfl, hb_⟩
  obtain ⟨os5, d5, rfl⟩ := mo_of hb_
  clear hb_
  go_wp2_with fail
  rw [rounds_succ]
  go_wp2_with fail
  refine (toMarks_any _ _ _).mono ?_
  rintro e w' ⟨rfl, hb_⟩
  obtain ⟨os6, d6, rfl⟩ := mo_of hb_
  clear hb_
  go_wp2_with fail
  rw [rounds_succ]
  go_wp2_with fail
  refine (toMarks_any _ _ _).mono ?_
  rintro e w' ⟨rfl, hb_⟩
  obtain ⟨os7, d7, rfl⟩ := mo_of hb_
  clear hb_
  go_wp2_with fail
  rw [rounds_succ]
  go_wp2_with fail
  exact bodyPost_ret (v := .agg #[.int .u64 (p 0), .int .u64 (p 1), .int .u64 (p 2), .int .u64 (p 3), .int .u64 (p 4), .int .u64 (p 5), .int .u64 (p 6), .int .u64 (p 7), .int .u64 (p 8), .int .u64 (p 9), .int .u64 (p 10), .int .u64 (p 11), .int .u64 (p 12), .int .u64 (p 13), .int .u64 (p 14), .int .u64 (p 15)]) (by simp [results, Try.results24, go_sem]) rfl ⟨rfl, (by repeat' (first | (with_reducible first | assumption | exact Below.refl _ _ | refine Below.drew ?_ | refine Below.alloc ?_ ?_ _ | refine Below.setCell ?_ ?_ _ | refine below_setR ?_ ?_ _ | refine below_dn ?_ _ | refine Below.trans ?_ (below_mo _ _ _ ?_) | refine Below.trans ?_ (below_mq _ _ ?_) | exact Nat.le_refl _) | (simp; done) | (simp; omega) | omega))⟩
end Go.Proofs.Ytbihgnmiocfelaa.X
