/- Bases of stacks; the stream's block. Conditions: none. -/
import Derived.Test.YtinjlofefmjolaaKOwn
import Derived.Test.YtinjlofefmjolaaKNum
import Derived.Test.YtinjlofefmjolaaKMoves
namespace Go.Proofs.Ytinjlofefmjolaa.X
open Go.RowKit
set_option linter.unusedVariables false
set_option linter.unusedSimpArgs false
set_option maxRecDepth 100000
def bases (ys : List Int) : Prop := ∀ x ∈ ys, 2 ≤ x ∧ x ≤ 100
theorem bases_el {ys : List Int} (h : bases ys) {j : Nat} (hj : j < ys.length) : 2 ≤ el ys (j : Int) ∧ el ys (j : Int) ≤ 100 := by
  rw [el_at hj]
  exact h _ (List.getElem_mem hj)
theorem bases_8 {ys : List Int} (h : bases ys) : b8 ys := by
  intro i
  unfold el
  rw [List.getD_eq_getElem?_getD]
  rcases hx : ys[i.toNat]? with _ | x
  · decide
  · have := h x (List.mem_of_getElem? hx)
    show 0 ≤ x ∧ x ≤ 255
    omega
theorem bases_snoc {ys : List Int} (h : bases ys) {x : Int} (hx : 2 ≤ x ∧ x ≤ 100) : bases (ys ++ [x]) := by
  intro y hy
  rcases List.mem_append.1 hy with a | a
  · exact h y a
  · rw [List.mem_singleton.1 a]; exact hx
theorem sizeTo_100 {ys : List Int} (h : bases ys) : ∀ k : Nat, k ≤ ys.length → 0 ≤ sizeTo ys k ∧ sizeTo ys k ≤ (100 : Int) ^ k
  | 0, _ => by show (0 : Int) ≤ 1 ∧ (1 : Int) ≤ (100 : Int) ^ 0; decide
  | k + 1, hk => by
    have ih := sizeTo_100 h k (by omega)
    have b := bases_el h (j := k) (by omega)
    have m := Int.mul_le_mul ih.2 b.2 (by omega) (Int.le_trans ih.1 ih.2)
    have m2 := Int.mul_nonneg ih.1 (show 0 ≤ el ys (k : Int) by omega)
    show 0 ≤ min (sizeTo ys k * el ys (k : Int)) 1000000000001 ∧ min (sizeTo ys k * el ys (k : Int)) 1000000000001 ≤ (100 : Int) ^ (k + 1)
    rw [Int.pow_succ]
    omega
theorem pow100 {n : Nat} (hn : n ≤ 4) : (100 : Int) ^ n ≤ 100000000 := by
  rcases (show n = 0 ∨ n = 1 ∨ n = 2 ∨ n = 3 ∨ n = 4 by omega) with rfl | rfl | rfl | rfl | rfl <;> decide
theorem bases_ok {ys : List Int} (h : bases ys) (hl : 1 ≤ ys.length ∧ ys.length ≤ 4) : okS ys = true ∧ szS ys ≤ 100000000 := by
  have s := (sizeTo_100 h ys.length (Nat.le_refl _)).2
  have p := pow100 hl.2
  refine ⟨?_, by unfold szS; omega⟩
  unfold okS
  rw [Bool.and_eq_true, Bool.and_eq_true]
  exact ⟨⟨inR_t.2 ⟨by omega, by omega⟩, allTo_iff.2 fun j hj => bases_el h hj⟩, decide_eq_true (by omega)⟩
theorem SrcB.ltQ {w : World} {g : Nat} {A : Option Addr} {n c b : Nat} (h : SrcB w g A n c b) : g < w.heap.size := by
  obtain ⟨i, hi, v, e⟩ := h
  exact (Array.getElem?_eq_some_iff.1 e).1
theorem own_litS (w : World) (b : Nat) (hb : b ≤ w.heap.size) (e : TypeId) (g : Nat) (hg : g = w.heap.size) : (w.alloc (.cells #[] e)).ownsRow b e 1 (.slice (some ⟨g, 0, none⟩) 0 0) 0 [] := by
  subst hg
  exact ⟨rfl, .inr ⟨_, 0, #[], rfl, hb, heap_alloc_new w _, Nat.le_refl _, by decide, rfl, rfl⟩⟩
def OneR (g : Nat) (A : Option Addr) (n c b : Nat) (w : World) (e : Ending) (w' : World) : Prop := ∃ r : Bool, e = .returned (.bool r) ∧ SrcB w' g A n c (b + 2) ∧ Chg w w' (fun k => k = g)
theorem one_any {A : Option Addr} {xs : List Int} {W : World} {B : Nat} (hs : Nums .u8 W B A xs) (h8 : b8 xs) (c : Nat) (w : World) (hb : Below B W w) (g b : Nat) (hgB : B ≤ g) (hi : b ≤ 100000000) (hg : SrcB w g A xs.length c b) (m : Int) (hm : 1 ≤ m ∧ m ≤ 2000000000000) : Calls Try.prog 86 #[.pointer (some ⟨g, 0, none⟩), .int .i64 m] w (OneR g A xs.length c b w) := by
  have K := Lib.hid (pick_any hs h8 c w hb g b hgB hi hg m hm)
  clear hb hg
  go_enter Try.func86, Try.ntmps86
  (go_wp2_with fail; refine K.out.mono ?_; rintro e w1 ⟨r, rfl, hr, hsrc, hc⟩)
  go_wp2
  go_ret
  exact ⟨r == 0, rfl, hsrc, hc⟩
end Go.Proofs.Ytinjlofefmjolaa.X
