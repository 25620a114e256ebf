/- A motion marked. Conditions: none. -/
import Derived.Test.YtcaaljcfdahpaaaKMark3
namespace Go.Proofs.Ytcaaljcfdahpaaa.X
open Go.RowKit
set_option linter.unusedVariables false
set_option linter.unusedSimpArgs false
set_option maxRecDepth 100000
set_option maxHeartbeats 1000000 in
theorem markMotion_own (n m gA gL bA bL : Nat) (eA eL : TypeId) (va vl : List Value) (hn : n ≤ 1048576) (hm : m ≤ 1048576) (hne : gA ≠ gL) (w : World) (hA : w.ownsRow bA eA 1 (.slice (some ⟨gA, 0, none⟩) n n) n va) (hL : w.ownsRow bL eL 2 (.slice (some ⟨gL, 0, none⟩) m m) m vl) :
    Calls Try.prog 53 #[.agg #[.slice (some ⟨gA, 0, none⟩) n n, .slice (some ⟨gL, 0, none⟩) m m], .int .i64 1] w fun e w' => e = .returned (.int .i64 (1 + (n : Int) + 2 * (m : Int))) ∧ ∃ o w1, (w.alloc o).grownBy w1 (some gA) ∧ w1.grownBy w' (some gL) := by
  have lA := (hA.lt gA rfl).2
  have lL := (hL.lt gL rfl).2
  have HA := Lib.hid hA
  have HL := Lib.hid hL
  clear hA hL
  go_enter Try.func53, Try.ntmps53
  go_wp2_with fail
  refine (markStack_some n gA n bA eA hn _ va (HA.out.alloc _) 1 (by omega)).mono ?_
  rintro e w1 ⟨rfl, hg1⟩
  have c1 : w1.cell? ⟨w.heap.size, 1, none⟩ = some (.slice (some ⟨gL, 0, none⟩) m m) := hg1.cell (by simp [go_sem]) (by simp; omega)
  have hL1 := (HL.out.alloc _).kept hg1 (Or.inr (by simp [Value.ownBlock]; omega))
  have HL1 := Lib.hid hL1
  have HG1 := Lib.hid hg1
  clear hL1 hg1
  go_wp2_with fail
  refine (markJointS_some m gL m bL eL hm _ vl HL1.out (1 + (n : Int)) (by omega)).mono ?_
  rintro e w2 ⟨rfl, hg2⟩
  go_wp2
  go_ret
  exact ⟨rfl, _, w1, HG1.out, hg2⟩
end Go.Proofs.Ytcaaljcfdahpaaa.X
