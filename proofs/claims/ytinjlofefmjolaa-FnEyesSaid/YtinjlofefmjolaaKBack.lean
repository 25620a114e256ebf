/- slices.Backward over a stack: the iterator's contract. Conditions: none. -/
import Derived.RangeFuncNested
import Derived.RangeFuncBound
import Derived.RangeFuncCalls
import Derived.RangeFuncLeaves
import Derived.RangeFuncBox
import Derived.Shelf.Abstract
import Derived.Shelf.RegionOpen
import Derived.OwnWalkIn
import Derived.TacticsInMore
import Derived.LoopNIn
import Derived.LoopIn
import Derived.Test.YtinjlofefmjolaaKBase
namespace Go.Proofs.Ytinjlofefmjolaa.X
open Go.RowKit Go.Shelf
set_option linter.unusedVariables false
set_option linter.unusedSimpArgs false
set_option maxRecDepth 100000
attribute [local go_sem] Oper.semAt_some
/-- a wheel and its base, as the iterator hands them over -/
abbrev WB := { x : Nat × Int // x.1 < 8 ∧ 0 ≤ x.2 ∧ x.2 ≤ 255 }
def bkAt (xs : List Int) (h8 : b8 xs) (hn : xs.length ≤ 8) (j : Nat) : WB := ⟨((xs.length - 1 - j) % 8, el xs ((xs.length - 1 - j : Nat) : Int)), Nat.mod_lt _ (by omega), (h8 _).1, (h8 _).2⟩
def bkTo (xs : List Int) (h8 : b8 xs) (hn : xs.length ≤ 8) (k : Nat) : List WB := (List.range k).map (bkAt xs h8 hn)
theorem bkTo_succ (xs : List Int) (h8 : b8 xs) (hn : xs.length ≤ 8) (k : Nat) : bkTo xs h8 hn (k + 1) = bkTo xs h8 hn k ++ [bkAt xs h8 hn k] := by simp [bkTo, List.range_succ]
theorem bkTo_length (xs : List Int) (h8 : b8 xs) (hn : xs.length ≤ 8) (k : Nat) : (bkTo xs h8 hn k).length = k := by simp [bkTo]
/-- what a round keeps: what lay below n₀, and the iterator's own block -/
def KpS (n₀ Bs : Nat) (W W' : World) : Prop := Below n₀ W W' ∧ W'.heap[Bs]? = W.heap[Bs]?
theorem KpS.t {n₀ Bs : Nat} {A B C : World} (h : KpS n₀ Bs A B) (k : KpS n₀ Bs B C) : KpS n₀ Bs A C := ⟨h.1.trans k.1, k.2.trans h.2⟩
theorem kpS_b {n₀ Bs : Nat} {w : World} (hn : n₀ ≤ w.heap.size) (hB : Bs < w.heap.size) (W : World) (l : Nat) (o o' : Obj) (hl : w.heap.size ≤ l) (h : W.heap[l]? = some o) (h1 : o.isCells = false) (h2 : o.isWalk = false) : KpS n₀ Bs W (W.putObj l o') :=
  ⟨belowK_b hn W l o o' hl h h1 h2, (belowK_b (Nat.le_refl _) W l o o' hl h h1 h2).block Bs hB⟩
def wbEnc (x : WB) : Array Value := #[Value.int .i64 (x.1.1 : Int), Value.int .u8 x.1.2]
end Go.Proofs.Ytinjlofefmjolaa.X
