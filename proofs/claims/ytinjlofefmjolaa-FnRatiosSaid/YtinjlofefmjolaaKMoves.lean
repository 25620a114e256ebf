/- The moves that the laws draw. Conditions: none. -/
import Derived.Test.YtinjlofefmjolaaKStream
import Derived.Test.YtinjlofefmjolaaKRat
namespace Go.Proofs.Ytinjlofefmjolaa.X
open Go.RowKit
set_option linter.unusedVariables false
set_option linter.unusedSimpArgs false
set_option maxRecDepth 100000
theorem own_neS {w : World} {b : Nat} {e e' : TypeId} {sz : Nat} {v : Value} {n : Nat} {ys : List Value} {g : Nat} {cs : Array Value} {fr : Nat × Nat} (h : w.ownsRow b e sz v n ys) (hg : w.heap[g]? = some (.cells cs e' fr)) (hne : e ≠ e') : some g ≠ v.ownBlock := by
  intro hb
  rcases h.2 with ⟨rfl, _⟩ | ⟨g', cap, cur, rfl, _, hg', _⟩
  · simp [Value.ownBlock] at hb
  · simp [Value.ownBlock] at hb
    subst hb
    rw [hg'] at hg
    injection hg with hg
    injection hg with _ h2 _
    exact hne h2
theorem keepS {wr w3 : World} {o : Obj} {row : Option Nat} {g n c b : Nat} {A : Option Addr} (h : SrcB wr g A n c b) (hg : (wr.alloc o).grownBy w3 row) (hne : some g ≠ row) : SrcB w3 g A n c b := by
  obtain ⟨i, hi, v, h⟩ := h
  have hl := (Array.getElem?_eq_some_iff.1 h).1
  exact ⟨i, hi, v, (hg.block g (by rw [World.size_alloc]; exact Nat.lt_succ_of_lt hl) hne).trans (heap_alloc_past h)⟩
theorem SrcB.keep {w w' : World} {g B : Nat} {A : Option Addr} {n c b : Nat} (h : SrcB w g A n c b) (hb : Below B w w') (hg : g < B) : SrcB w' g A n c b := by
  obtain ⟨i, hi, v, e⟩ := h
  exact ⟨i, hi, v, (hb.block g hg).trans e⟩
theorem SrcB.up {w : World} {g : Nat} {A : Option Addr} {n c b b' : Nat} (h : SrcB w g A n c b) (hb : b ≤ b') : SrcB w g A n c b' := by
  obtain ⟨i, hi, e⟩ := h
  exact ⟨i, by omega, e⟩
theorem SrcB.ne {w : World} {g' n c b : Nat} {A : Option Addr} (h : SrcB w g' A n c b) {B : Nat} {e : TypeId} {sz : Nat} {v : Value} {m : Nat} {ys : List Value} (ho : w.ownsRow B e sz v m ys) (hne : e ≠ 106) : some g' ≠ v.ownBlock := by
  obtain ⟨i, hi, u, hg⟩ := h
  exact own_neS ho hg hne
theorem srcB_new (w : World) (A : Option Addr) (n c : Nat) (b : Nat) : SrcB (w.alloc (.cells #[.slice A n c, .int .i64 0, .int .u64 0] 106)) w.heap.size A n c b := ⟨0, Nat.zero_le _, 0, heap_alloc_new w _⟩
/-- The call hands back a list of moves. -/
def RetMv (w : World) (e : Ending) (w' : World) : Prop := ∃ (ms : List Int) (v : Value), ms.length ≤ 6 ∧ mvOK ms ∧ e = .returned v ∧ w'.ownsRow w.heap.size 2 1 v ms.length (ms.map (Value.int .i64)) ∧ Below w.heap.size w w'
theorem mvOK_snoc {ms : List Int} (h : mvOK ms) {r : Int} (hr : 0 ≤ r ∧ r < 1400) : mvOK (ms ++ [r - 500]) := fun k hk => by
  by_cases c : k < ms.length
  · have := h k c
    unfold el at *
    rw [Int.toNat_natCast, List.getD_eq_getElem?_getD] at *
    rw [List.getElem?_append_left c]
    exact this
  · rw [List.length_append, List.length_singleton] at hk
    obtain rfl : k = ms.length := by omega
    unfold el
    rw [Int.toNat_natCast, List.getD_eq_getElem?_getD, List.getElem?_append_right (Nat.le_refl _), Nat.sub_self]
    show -500 ≤ r - 500 ∧ r - 500 ≤ 899
    omega
end Go.Proofs.Ytinjlofefmjolaa.X
