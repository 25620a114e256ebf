/- The meters that the laws draw. Conditions: none. -/
import Derived.Test.YtkphbagckbbalaaKMoves
import Derived.Test.YtkphbagckbbalaaKMeterL
namespace Go.Proofs.Ytkphbagckbbalaa.X
open Go.RowKit
set_option linter.unusedVariables false
set_option linter.unusedSimpArgs false
set_option maxRecDepth 100000
theorem calls_at {P : Program} {f : FuncId} {args : Array Value} {K : Ending → World → Prop} (S : World → Prop) (w : World) (h : S w) (k : ∀ u, S u → Calls P f args u K) : Calls P f args w K := k w h
def OneR (g : Nat) (A : Option Addr) (n c b : Nat) (w : World) (e : Ending) (w' : World) : Prop := ∃ r : Bool, e = .returned (.bool r) ∧ SrcB w' g A n c (b + 2) ∧ Chg w w' (fun k => k = g)
theorem one_any {A : Option Addr} {xs : List Int} {W : World} {B : Nat} (hs : Nums .u8 W B A xs) (h8 : b8 xs) (c : Nat) (w : World) (hb : Below B W w) (g b : Nat) (hgB : B ≤ g) (hi : b ≤ 100000000) (hg : SrcB w g A xs.length c b) (m : Int) (hm : 1 ≤ m ∧ m ≤ 2000000000000) : Calls Try.prog 114 #[.pointer (some ⟨g, 0, none⟩), .int .i64 m] w (OneR g A xs.length c b w) := by
  have K := Lib.hid (pick_any hs h8 c w hb g b hgB hi hg m hm)
  clear hb hg
  go_enter Try.func114, Try.ntmps114
  (go_wp2_with fail; refine K.out.mono ?_; rintro e w1 ⟨r, rfl, hr, hsrc, hc⟩)
  go_wp2
  go_ret
  exact ⟨r == 0, rfl, hsrc, hc⟩
theorem stk_nums {u : World} {bl : Nat} {ys : List Int} (h : u.heap[bl]? = some (.cells (ys.map (Value.int .u8)).toArray 5)) (hl : ys.length ≤ 8) : Nums .u8 u u.heap.size (some ⟨bl, 0, none⟩) ys := by
  refine ⟨fun _ => ⟨bl, 0, rfl, (Array.getElem?_eq_some_iff.1 h).1, fun i x hx j v hv => ?_⟩, by omega, Nat.le_refl _⟩
  have hj : j = 0 := by have := (List.getElem?_eq_some_iff.1 hv).1; simp at this; exact this
  subst hj
  simp at hv
  subst hv
  rw [cell_of_row u bl _ _ 5 (0, 0) h]
  simp [hx]
end Go.Proofs.Ytkphbagckbbalaa.X
