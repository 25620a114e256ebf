/- Rows of one's own: words. Conditions: none. -/
import Derived.Test.YtinjlofefmjolaaKTail
import Derived.Test.YtinjlofefmjolaaKOpen
namespace Go.Proofs.Ytinjlofefmjolaa.X
open Go.RowKit
set_option linter.unusedVariables false
set_option linter.unusedSimpArgs false
set_option maxRecDepth 100000
theorem own_numsQ {q : IntKind} {w : World} {b : Nat} {e : TypeId} {v : Value} {ys : List Int} (h : w.ownsRow b e 1 v ys.length (ys.map (Value.int q))) (hl : ys.length ≤ 1048576) : ∃ A c, v = .slice A ys.length c ∧ Nums q w w.heap.size A ys := by
  have hc := fun g hg => h.cells (g := g) hg
  have hlt := h.lt
  rcases h.2 with ⟨e1, e2⟩ | ⟨g, cap, cur, e1, _⟩
  · refine ⟨none, 0, by rw [e1, e2], ⟨fun hn => absurd hn (by omega), hl, Nat.le_refl _⟩⟩
  · subst e1
    refine ⟨_, cap, rfl, ⟨fun hn => ⟨g, 0, rfl, (hlt g rfl).2, fun i x hx j u hu => ?_⟩, hl, Nat.le_refl _⟩⟩
    have hj : j = 0 := by have := (List.getElem?_eq_some_iff.1 hu).1; simp at this; exact this
    subst hj
    simp at hu
    subst hu
    have := hc g rfl i (.int q x) (by rw [List.getElem?_map, hx]; rfl)
    rw [add_plain rfl] at this
    simpa using this
theorem own_at {w : World} {b : Nat} {e : TypeId} {sz : Nat} {v : Value} {n : Nat} {ys : List Value} (h : w.ownsRow b e sz v n ys) (hn : 1 ≤ n) : ∃ g cap, v = .slice (some ⟨g, 0, none⟩) n cap ∧ n ≤ cap ∧ b ≤ g := by
  rcases h.2 with ⟨e1, e2⟩ | ⟨g, cap, cur, e1, h1, _, h2, _⟩
  · omega
  · exact ⟨g, cap, e1, h2, h1⟩
theorem cell_two_newQ (w : World) (x y : Value) (t : TypeId) : ∀ j u, [x, y][j]? = some u → (w.alloc (.cells #[x, y] t)).cell? ((⟨w.heap.size, 0, none⟩ : Addr).add j) = some u := by
  intro j u hj
  match j, hj with
  | 0, hj =>
    simp at hj
    subst hj
    simp [Addr.add, go_sem]
  | 1, hj =>
    simp at hj
    subst hj
    simp [Addr.add, go_sem]
theorem p_snoc {P : Int → Int → Prop} {ms : List (Int × Int)} (h : ∀ k : Nat, k < ms.length → P (p1 ms (k : Int)) (p2 ms (k : Int))) {a b : Int} (hr : P a b) : ∀ k : Nat, k < (ms ++ [(a, b)]).length → P (p1 (ms ++ [(a, b)]) (k : Int)) (p2 (ms ++ [(a, b)]) (k : Int)) := fun k hk => by
  by_cases c : k < ms.length
  · have := h k c
    rw [p1_at hk, p2_at hk, List.getElem_append_left c]
    rw [p1_at c, p2_at c] at this
    exact this
  · rw [p1_at hk, p2_at hk]
    rw [List.length_append, List.length_singleton] at hk
    obtain rfl : k = ms.length := by omega
    simpa using hr
end Go.Proofs.Ytinjlofefmjolaa.X
