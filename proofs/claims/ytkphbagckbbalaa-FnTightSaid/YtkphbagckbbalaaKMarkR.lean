/- The laws mark stacks and logs; their copies are rows of their own. Conditions: none. -/
import Derived.Test.YtkphbagckbbalaaKTail
import Derived.Test.YtkphbagckbbalaaKPLaws
namespace Go.Proofs.Ytkphbagckbbalaa.X
open Go.RowKit
set_option linter.unusedVariables false
set_option linter.unusedSimpArgs false
set_option maxRecDepth 100000
def RetSR (xs : List Int) (w : World) (e : Ending) (w' : World) : Prop :=
  ∃ cur, e = .returned (.slice (some ⟨w.heap.size, 0, none⟩) xs.length xs.length) ∧ w' = w.alloc (.cells cur 5) ∧ cur.size = xs.length ∧ Nums .u8 w' w'.heap.size (some ⟨w.heap.size, 0, none⟩) xs
def RetRR (js : List (Int × Int)) (w : World) (e : Ending) (w' : World) : Prop :=
  ∃ cur os d, e = .returned (.slice (some ⟨w.heap.size, 0, none⟩) js.length js.length) ∧ w' = mo (w.alloc (.cells cur 38)) os d ∧ cur.size = js.length * 2 ∧ Prs .i64 .i64 w' w'.heap.size (some ⟨w.heap.size, 0, none⟩) js
def RetSO (xs : List Int) (w : World) (e : Ending) (w' : World) : Prop :=
  ∃ g va, e = .returned (.slice (some ⟨g, 0, none⟩) xs.length xs.length) ∧ w'.ownsRow w.heap.size 5 1 (.slice (some ⟨g, 0, none⟩) xs.length xs.length) xs.length va ∧ Nums .u8 w' w'.heap.size (some ⟨g, 0, none⟩) xs ∧ Below w.heap.size w w'
def RetRO (js : List (Int × Int)) (w : World) (e : Ending) (w' : World) : Prop :=
  ∃ g va, e = .returned (.slice (some ⟨g, 0, none⟩) js.length js.length) ∧ w'.ownsRow w.heap.size 38 2 (.slice (some ⟨g, 0, none⟩) js.length js.length) js.length va ∧ Prs .i64 .i64 w' w'.heap.size (some ⟨g, 0, none⟩) js ∧ Below w.heap.size w w'
theorem own_moR {w : World} {b : Nat} {e : TypeId} {sz : Nat} {v : Value} {n : Nat} {ys : List Value} (h : w.ownsRow b e sz v n ys) (os : Array Obj) (d : Nat) : (mo w os d).ownsRow b e sz v n ys :=
  (Chg.of_below (below_mo w os d (Nat.le_refl _)) (fun _ => False)).row h (fun _ _ h => h)
theorem own_below {w w' : World} {b : Nat} {e : TypeId} {sz : Nat} {v : Value} {n : Nat} {ys : List Value} (h : w.ownsRow b e sz v n ys) (hb : Below w.heap.size w w') : w'.ownsRow b e sz v n ys :=
  (Chg.of_below hb (fun _ => False)).row h (fun _ _ h => h)
end Go.Proofs.Ytkphbagckbbalaa.X
