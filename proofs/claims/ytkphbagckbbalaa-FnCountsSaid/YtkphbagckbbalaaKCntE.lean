/- Counts on wheels: equal digits and equal moves are equal. Conditions: none. -/
import Derived.Test.YtkphbagckbbalaaKCntD
import Derived.ChangeKeysEq
namespace Go.Proofs.Ytkphbagckbbalaa.X
open Go.RowKit
set_option linter.unusedVariables false
set_option linter.unusedSimpArgs false
set_option maxRecDepth 100000
theorem eqItems_same {P : Program} (w : World) (d : Nat) {e : TypeId} {k : IntKind} (he : P.plainKey e = true) (hu : P.underlying e = some (.int k)) (c : Nat) (xs : Array Value) : ∀ (is : List Nat), (∀ i ∈ is, ∃ q x, xs[i * c]? = some (.int q x)) → (Op.eqItems (d + 1) e c xs xs is).run P w = .ok true w
  | [], _ => by simp [Op.eqItems]
  | i :: is, h => by
    obtain ⟨q, x, hx⟩ := h i (by simp)
    have p1 := run_part_plain (P := P) (w := w) he hx
    have ih := eqItems_same w d he hu c xs is (fun j hj => h j (by simp [hj]))
    simp only [Op.eqItems, Sem.run_bind, p1, Result.andThen_ok, run_equalIn_int w d e q k x x hu]
    simpa using ih
@[go_sem] theorem eqDig (f : Nat → Int) (w : World) : (Op.equalIn 10000 43 (.agg #[.int .u8 (f 0), .int .u8 (f 1), .int .u8 (f 2), .int .u8 (f 3), .int .u8 (f 4), .int .u8 (f 5), .int .u8 (f 6), .int .u8 (f 7)]) (.agg #[.int .u8 (f 0), .int .u8 (f 1), .int .u8 (f 2), .int .u8 (f 3), .int .u8 (f 4), .int .u8 (f 5), .int .u8 (f 6), .int .u8 (f 7)])).run Try.prog w = .ok true w := by
  obtain ⟨i, hi⟩ := Option.isSome_iff_exists.1 (show (Try.prog.info? 5).isSome = true by kernel_rfl)
  rw [run_equalIn_array w 9999 _ _ Try.underlying43 hi]
  refine eqItems_same w 9998 (k := .u8) (by kernel_rfl) (by kernel_rfl) _ _ _ ?_
  intro i hi
  rw [show Try.prog.cellsOf 5 = 1 by kernel_rfl, Nat.mul_one]
  rcases lt8 (List.mem_range.1 hi) with rfl | rfl | rfl | rfl | rfl | rfl | rfl | rfl <;> exact ⟨_, _, rfl⟩
@[go_sem] theorem eqMvs (x0 x1 x2 x3 x4 x5 x6 x7 : Int) (w : World) : (Op.equalIn 10000 67 (.agg #[.int .i64 x0, .int .i64 x1, .int .i64 x2, .int .i64 x3, .int .i64 x4, .int .i64 x5, .int .i64 x6, .int .i64 x7]) (.agg #[.int .i64 x0, .int .i64 x1, .int .i64 x2, .int .i64 x3, .int .i64 x4, .int .i64 x5, .int .i64 x6, .int .i64 x7])).run Try.prog w = .ok true w := by
  obtain ⟨i, hi⟩ := Option.isSome_iff_exists.1 (show (Try.prog.info? 2).isSome = true by kernel_rfl)
  rw [run_equalIn_array w 9999 _ _ Try.underlying67 hi]
  refine eqItems_same w 9998 (k := .i64) (by kernel_rfl) (by kernel_rfl) _ _ _ ?_
  intro i hi
  rw [show Try.prog.cellsOf 2 = 1 by kernel_rfl, Nat.mul_one]
  rcases lt8 (List.mem_range.1 hi) with rfl | rfl | rfl | rfl | rfl | rfl | rfl | rfl <;> exact ⟨_, _, rfl⟩
end Go.Proofs.Ytkphbagckbbalaa.X
