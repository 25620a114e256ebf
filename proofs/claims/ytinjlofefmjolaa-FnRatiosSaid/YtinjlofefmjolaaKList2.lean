/- Lists as results: the laws compare and mark them. Conditions: none. -/
import Derived.Test.YtinjlofefmjolaaKList
import Derived.Test.YtinjlofefmjolaaKLaws
import Derived.Laws.OwnMore
namespace Go.Proofs.Ytinjlofefmjolaa.X
open Go.RowKit
set_option linter.unusedVariables false
set_option linter.unusedSimpArgs false
set_option maxRecDepth 100000
/-- a list of its own can be read -/
theorem own_nums {w : World} {b : Nat} {e : TypeId} {v : Value} {ys : List Int} (h : w.ownsRow b e 1 v ys.length (ys.map (Value.int .i64))) (hl : ys.length ≤ 1048576) : ∃ A c, v = .slice A ys.length c ∧ Nums .i64 w w.heap.size A ys := by
  have hc := fun g hg => h.cells (g := g) hg
  have hlt := h.lt
  rcases h.2 with ⟨e1, e2⟩ | ⟨g, cap, cur, e1, _⟩
  · refine ⟨none, 0, by rw [e1, e2], ⟨fun hn => absurd hn (by omega), hl, Nat.le_refl _⟩⟩
  · subst e1
    refine ⟨_, cap, rfl, ⟨fun hn => ⟨g, 0, rfl, (hlt g rfl).2, fun i x hx j u hu => ?_⟩, hl, Nat.le_refl _⟩⟩
    have hcc := hc g rfl i (.int .i64 x) (by rw [List.getElem?_map, hx]; rfl)
    match j, hu with
    | 0, hu =>
      simp at hu
      subst hu
      have ea : (⟨g, 0, none⟩ : Addr).add i = ⟨g, i, none⟩ := by simp only [Addr.add]; split <;> simp_all
      rw [ea] at hcc
      simpa using hcc
end Go.Proofs.Ytinjlofefmjolaa.X
