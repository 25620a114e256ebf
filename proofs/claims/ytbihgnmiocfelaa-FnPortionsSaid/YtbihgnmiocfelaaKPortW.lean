/- The pairs that FnPortions makes. Conditions: none. -/
import Derived.Test.YtbihgnmiocfelaaKPortL
import Derived.Test.YtbihgnmiocfelaaKAt
import Derived.Test.YtbihgnmiocfelaaKOpen
import Derived.OwnWalk
namespace Go.Proofs.Ytbihgnmiocfelaa.X
open Go.RowKit
set_option linter.unusedVariables false
set_option linter.unusedSimpArgs false
set_option maxRecDepth 100000
/-- the k-th pair -/
def ppr (xs ys : List Int) (k : Nat) : Int × Int := (1 + at2 ys (k : Int) 60, (1 + at2 ys (k : Int) 60) * at2 xs 0 12 / (1 + at2 xs 1 12))
def ppl (xs ys : List Int) (k : Nat) : List (Int × Int) := (List.range k).map (ppr xs ys)
def pcl (f : Nat → Int × Int) : Nat → List Value
  | 0 => []
  | k + 1 => pcl f k ++ [.int .i64 (f k).1, .int .i64 (f k).2]
theorem pcl_len (f : Nat → Int × Int) : ∀ k, (pcl f k).length = k * 2
  | 0 => rfl
  | k + 1 => by unfold pcl; rw [List.length_append, pcl_len]; simp; omega
theorem pcl_at (f : Nat → Int × Int) : ∀ {n i : Nat}, i < n → (pcl f n)[i * 2]? = some (.int .i64 (f i).1) ∧ (pcl f n)[i * 2 + 1]? = some (.int .i64 (f i).2)
  | 0, i, h => absurd h (by omega)
  | n + 1, i, h => by
    unfold pcl
    by_cases e : i = n
    · subst e
      rw [List.getElem?_append_right (by rw [pcl_len]; omega), List.getElem?_append_right (by rw [pcl_len]; omega), pcl_len]
      simp
    · have ih := pcl_at f (n := n) (i := i) (by omega)
      rw [List.getElem?_append_left (by rw [pcl_len]; omega), List.getElem?_append_left (by rw [pcl_len]; omega)]
      exact ih
theorem ppl_len (xs ys : List Int) (k : Nat) : (ppl xs ys k).length = k := by simp [ppl]
theorem ppl_at (xs ys : List Int) {n k : Nat} (h : k < n) : p1 (ppl xs ys n) (k : Int) = (ppr xs ys k).1 ∧ p2 (ppl xs ys n) (k : Int) = (ppr xs ys k).2 := by
  unfold p1 p2
  rw [Int.toNat_natCast, List.getD_eq_getElem?_getD]
  unfold ppl
  rw [List.getElem?_map, List.getElem?_range h]
  exact ⟨rfl, rfl⟩
theorem ppl_from (xs ys : List Int) {m : Nat} (h : 1 ≤ m ∧ m ≤ 6) : FromP (at2 xs 0 12) (1 + at2 xs 1 12) (ppl xs ys m) := by
  have h1 := at2_bd xs 0 12 (by omega)
  have h2 := at2_bd xs 1 12 (by omega)
  refine ⟨by omega, by omega, by rw [ppl_len]; exact h, fun k hk => ?_⟩
  rw [ppl_len] at hk
  obtain ⟨e1, e2⟩ := ppl_at xs ys hk
  rw [e1, e2]
  have h3 := at2_bd ys (k : Int) 60 (by omega)
  unfold ppr
  dsimp only
  obtain ⟨p, hp⟩ : ∃ p, p = at2 xs 0 12 := ⟨_, rfl⟩
  obtain ⟨q, hq⟩ : ∃ q, q = 1 + at2 xs 1 12 := ⟨_, rfl⟩
  obtain ⟨x, hx⟩ : ∃ x, x = 1 + at2 ys (k : Int) 60 := ⟨_, rfl⟩
  rw [← hp, ← hq, ← hx]
  have m1 := mul_bd (show 0 ≤ x ∧ x ≤ 60 by omega) (show 0 ≤ p ∧ p ≤ 11 by omega)
  have d1 := Int.ediv_mul_le (x * p) (show q ≠ 0 by omega)
  have d2 := Int.lt_ediv_add_one_mul_self (x * p) (show 0 < q by omega)
  have d3 := Int.ediv_nonneg m1.1 (show 0 ≤ q by omega)
  have d4 := Int.ediv_le_self q m1.1
  rw [Int.mul_comm p x]
  exact ⟨by omega, by omega, d1, d2⟩
theorem infoA (h : True) : (Try.prog.info? 26).map (fun i => (i.zero, i.size, i.bytes)) = some (some (.agg #[.int .i64 0, .int .i64 0]), 2, 16) := by kernel_rfl
theorem undA : Try.prog.underlying 25 = some (.slice 26) := by kernel_rfl
theorem own_litP (w : World) (b : Nat) (hb : b ≤ w.heap.size) (e : TypeId) (g : Nat) (hg : g = w.heap.size) : (w.alloc (.cells #[] e)).ownsRow b e 2 (.slice (some ⟨g, 0, none⟩) 0 0) 0 [] := by
  subst hg
  exact ⟨rfl, .inr ⟨_, 0, #[], rfl, hb, heap_alloc_new w _, Nat.le_refl _, by decide, rfl, rfl⟩⟩
theorem cell_two_new (w : World) (x y : Value) (t : TypeId) : ∀ j u, [x, y][j]? = some u → (w.alloc (.cells #[x, y] t)).cell? ((⟨w.heap.size, 0, none⟩ : Addr).add j) = some u := by
  intro j u hj
  match j, hj with
  | 0, hj =>
    simp at hj
    subst hj
    simp [Addr.add, go_sem]
  | 1, hj =>
    simp at hj
    subst hj
    simp [Addr.add, go_sem]
/-- a list of pairs of its own can be read -/
theorem own_prs {w : World} {b n : Nat} {e : TypeId} {v : Value} (xs ys : List Int) (h : w.ownsRow b e 2 v n (pcl (ppr xs ys) n)) (hl : n ≤ 1048576) : ∃ A c, v = .slice A n c ∧ Prs .i64 .i64 w w.heap.size A (ppl xs ys n) := by
  have hc := fun g hg => h.cells (g := g) hg
  have hlt := h.lt
  rcases h.2 with ⟨e1, e2⟩ | ⟨g, cap, cur, e1, _⟩
  · refine ⟨none, 0, by rw [e1, e2], ⟨fun hn => absurd hn (by rw [ppl_len]; omega), by rw [ppl_len]; exact hl, Nat.le_refl _⟩⟩
  · subst e1
    refine ⟨_, cap, rfl, ⟨fun hn => ⟨g, 0, rfl, (hlt g rfl).2, fun i x hx j u hu => ?_⟩, by rw [ppl_len]; exact hl, Nat.le_refl _⟩⟩
    have hin : i < n := by
      have := (List.getElem?_eq_some_iff.1 hx).1
      rwa [ppl_len] at this
    unfold ppl at hx
    rw [List.getElem?_map, List.getElem?_range hin] at hx
    simp at hx
    subst hx
    obtain ⟨c0, c1⟩ := pcl_at (ppr xs ys) hin
    match j, hu with
    | 0, hu =>
      simp [encP] at hu
      subst hu
      have := hc g rfl _ _ c0
      rw [add_plain rfl] at this
      simpa using this
    | 1, hu =>
      simp [encP] at hu
      subst hu
      have := hc g rfl _ _ c1
      rw [add_plain rfl] at this
      simpa using this
end Go.Proofs.Ytbihgnmiocfelaa.X
