/- Photos that are the same. Conditions: none. -/
import Derived.Test.YtdmnblmonndkmaaKLaws
namespace Go.Proofs.Ytdmnblmonndkmaa.X
open Go.RowKit
set_option linter.unusedVariables false
set_option linter.unusedSimpArgs false
set_option maxRecDepth 100000
set_option maxHeartbeats 1000000 in
theorem eqMarks_same (x y : Int) (w : World) : Calls Try.prog 68 #[.agg #[.int .u64 x, .int .u64 y], .agg #[.int .u64 x, .int .u64 y]] w fun e w' => e = .returned (.bool true) ∧ Below w.heap.size w w' := by
  go_enter Try.func68, Try.ntmps68
  go_wp2
  refine wp_loop_rounds 3 ?_
  iterate 2 (rw [rounds_succ]; go_wp2; go_quiet (fail); go_wp2)
  rw [rounds_succ]
  go_wp2
  go_ret
  exact ⟨rfl, (by repeat' (first | (with_reducible first | assumption | exact Below.refl _ _ | refine Below.drew ?_ | refine Below.alloc ?_ ?_ _ | refine Below.setCell ?_ ?_ _ | refine below_dn ?_ _ | refine Below.trans ?_ (below_mo _ _ _ ?_) | refine Below.trans ?_ (below_mq _ _ ?_) | exact Nat.le_refl _) | (simp; done) | (simp; omega) | omega))⟩
set_option maxHeartbeats 4000000 in
theorem eqPhoto_same (f : Nat → Int) (w : World) : Calls Try.prog 18 #[.agg #[.int .u64 (f 0), .int .u64 (f 1), .int .u64 (f 2), .int .u64 (f 3), .int .u64 (f 4), .int .u64 (f 5), .int .u64 (f 6), .int .u64 (f 7), .int .u64 (f 8), .int .u64 (f 9), .int .u64 (f 10), .int .u64 (f 11), .int .u64 (f 12), .int .u64 (f 13), .int .u64 (f 14), .int .u64 (f 15)], .agg #[.int .u64 (f 0), .int .u64 (f 1), .int .u64 (f 2), .int .u64 (f 3), .int .u64 (f 4), .int .u64 (f 5), .int .u64 (f 6), .int .u64 (f 7), .int .u64 (f 8), .int .u64 (f 9), .int .u64 (f 10), .int .u64 (f 11), .int .u64 (f 12), .int .u64 (f 13), .int .u64 (f 14), .int .u64 (f 15)]] w fun e w' => e = .returned (.bool true) ∧ Below w.heap.size w w' := by
  go_enter Try.func18, Try.ntmps18
  go_wp2
  refine wp_loop_rounds 9 ?_
  rw [rounds_succ]
  go_wp2
  (refine wp_region_mq (by kernel_rfl) (by kernel_rfl) ?_; (repeat (first | go_big_quiet_step ((first | (go_at_call 68; with_reducible exact quietQ (eqMarks_same _ _ _) ))) | quiet_step ((first | (go_at_call 68; with_reducible exact quietQ (eqMarks_same _ _ _) ))))); refine wpQuiet_nil ?_; intro _ hq_; obtain ⟨q_, rfl⟩ := hq_)
  go_wp2
  rw [rounds_succ]
  go_wp2
  (refine wp_region_mq (by kernel_rfl) (by kernel_rfl) ?_; (repeat (first | go_big_quiet_step ((first | (go_at_call 68; with_reducible exact quietQ (eqMarks_same _ _ _) ))) | quiet_step ((first | (go_at_call 68; with_reducible exact quietQ (eqMarks_same _ _ _) ))))); refine wpQuiet_nil ?_; intro _ hq_; obtain ⟨q_, rfl⟩ := hq_)
  go_wp2
  rw [rounds_succ]
  go_wp2
  (refine wp_region_mq (by kernel_rfl) (by kernel_rfl) ?_; (repeat (first | go_big_quiet_step ((first | (go_at_call 68; with_reducible exact quietQ (eqMarks_same _ _ _) ))) | quiet_step ((first | (go_at_call 68; with_reducible exact quietQ (eqMarks_same _ _ _) ))))); refine wpQuiet_nil ?_; intro _ hq_; obtain ⟨q_, rfl⟩ := hq_)
  go_wp2
  rw [rounds_succ]
  go_wp2
  (refine wp_region_mq (by kernel_rfl) (by kernel_rfl) ?_; (repeat (first | go_big_quiet_step ((first | (go_at_call 68; with_reducible exact quietQ (eqMarks_same _ _ _) ))) | quiet_step ((first | (go_at_call 68; with_reducible exact quietQ (eqMarks_same _ _ _) ))))); refine wpQuiet_nil ?_; intro _ hq_; obtain ⟨q_, rfl⟩ := hq_)
  go_wp2
  rw [rounds_succ]
  go_wp2
  (refine wp_region_mq (by kernel_rfl) (by kernel_rfl) ?_; (repeat (first | go_big_quiet_step ((first | (go_at_call 68; with_reducible exact quietQ (eqMarks_same _ _ _) ))) | quiet_step ((first | (go_at_call 68; with_reducible exact quietQ (eqMarks_same _ _ _) ))))); refine wpQuiet_nil ?_; intro _ hq_; obtain ⟨q_, rfl⟩ := hq_)
  go_wp2
  rw [rounds_succ]
  go_wp2
  (refine wp_region_mq (by kernel_rfl) (by kernel_rfl) ?_; (repeat (first | go_big_quiet_step ((first | (go_at_call 68; with_reducible exact quietQ (eqMarks_same _ _ _) ))) | quiet_step ((first | (go_at_call 68; with_reducible exact quietQ (eqMarks_same _ _ _) ))))); refine wpQuiet_nil ?_; intro _ hq_; obtain ⟨q_, rfl⟩ := hq_)
  go_wp2
  rw [rounds_succ]
  go_wp2
  (refine wp_region_mq (by kernel_rfl) (by kernel_rfl) ?_; (repeat (first | go_big_quiet_step ((first | (go_at_call 68; with_reducible exact quietQ (eqMarks_same _ _ _) ))) | quiet_step ((first | (go_at_call 68; with_reducible exact quietQ (eqMarks_same _ _ _) ))))); refine wpQuiet_nil ?_; intro _ hq_; obtain ⟨q_, rfl⟩ := hq_)
  go_wp2
  rw [rounds_succ]
  go_wp2
  (refine wp_region_mq (by kernel_rfl) (by kernel_rfl) ?_; (repeat (first | go_big_quiet_step ((first | (go_at_call 68; with_reducible exact quietQ (eqMarks_same _ _ _) ))) | quiet_step ((first | (go_at_call 68; with_reducible exact quietQ (eqMarks_same _ _ _) ))))); refine wpQuiet_nil ?_; intro _ hq_; obtain ⟨q_, rfl⟩ := hq_)
  go_wp2
  rw [rounds_succ]
  go_wp2
  go_ret
  exact ⟨rfl, (by repeat' (first | (with_reducible first | assumption | exact Below.refl _ _ | refine Below.drew ?_ | refine Below.alloc ?_ ?_ _ | refine Below.setCell ?_ ?_ _ | refine below_dn ?_ _ | refine Below.trans ?_ (below_mo _ _ _ ?_) | refine Below.trans ?_ (below_mq _ _ ?_) | exact Nat.le_refl _) | (simp; done) | (simp; omega) | omega))⟩
end Go.Proofs.Ytdmnblmonndkmaa.X
