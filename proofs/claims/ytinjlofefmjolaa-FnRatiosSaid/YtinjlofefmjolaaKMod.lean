/- Words for worlds behind a draw. Conditions: none. -/
import Derived.Test.YtinjlofefmjolaaKBase
namespace Go.Proofs.Ytinjlofefmjolaa.X
open Go.RowKit
set_option linter.unusedVariables false
set_option linter.unusedSimpArgs false
set_option maxRecDepth 100000
@[go_sem] theorem cell_modq (w : World) (os : Array Obj) (d n i : Nat) (hn : n < w.heap.size) : (mo w.drew os d).cell? ⟨n, i, none⟩ = w.cell? ⟨n, i, none⟩ := cell_mo w.drew os d n i hn
@[go_sem] theorem frozen_modq (w : World) (os : Array Obj) (d n i : Nat) (hn : n < w.heap.size) : (mo w.drew os d).frozen? ⟨n, i, none⟩ = w.frozen? ⟨n, i, none⟩ := frozen_mo w.drew os d n i hn
@[go_sem] theorem setCell_modq (w : World) (os : Array Obj) (d n i : Nat) (v : Value) (hn : n < w.heap.size) : (mo w.drew os d).setCell ⟨n, i, none⟩ v = mo (w.setCell ⟨n, i, none⟩ v).drew os d := setCell_mo w.drew os d n i v hn
theorem heap_drew_at {w : World} {g : Nat} {o : Obj} (h : w.heap[g]? = some o) : w.drew.heap[g]? = some o := h
end Go.Proofs.Ytinjlofefmjolaa.X
