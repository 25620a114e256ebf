/- The meters that the laws draw. Conditions: none. -/
import Derived.Test.YtinjlofefmjolaaKMoves
import Derived.Test.YtinjlofefmjolaaKBas
import Derived.Test.YtinjlofefmjolaaKMeterL
namespace Go.Proofs.Ytinjlofefmjolaa.X
open Go.RowKit
set_option linter.unusedVariables false
set_option linter.unusedSimpArgs false
set_option maxRecDepth 100000
theorem calls_at {P : Program} {f : FuncId} {args : Array Value} {K : Ending → World → Prop} (S : World → Prop) (w : World) (h : S w) (k : ∀ u, S u → Calls P f args u K) : Calls P f args w K := k w h
theorem stk_nums {u : World} {bl : Nat} {ys : List Int} (h : u.heap[bl]? = some (.cells (ys.map (Value.int .u8)).toArray 5)) (hl : ys.length ≤ 8) : Nums .u8 u u.heap.size (some ⟨bl, 0, none⟩) ys := by
  refine ⟨fun _ => ⟨bl, 0, rfl, (Array.getElem?_eq_some_iff.1 h).1, fun i x hx j v hv => ?_⟩, by omega, Nat.le_refl _⟩
  have hj : j = 0 := by have := (List.getElem?_eq_some_iff.1 hv).1; simp at this; exact this
  subst hj
  simp at hv
  subst hv
  rw [cell_of_row u bl _ _ 5 (0, 0) h]
  simp [hx]
end Go.Proofs.Ytinjlofefmjolaa.X
