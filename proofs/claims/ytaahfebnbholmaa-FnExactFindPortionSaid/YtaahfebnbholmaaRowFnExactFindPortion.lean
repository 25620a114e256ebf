/- FnExactFindPortion: for every input the law returns true, and its arguments read as before. Conditions: none. -/
import Derived.Test.YtaahfebnbholmaaRows
import Derived.Test.YtaahfebnbholmaaLawFindPortion
import Derived.Test.YtaahfebnbholmaaKOpen
import Derived.ProofKit
import Derived.Carry
import Derived.ChangeOld
import Derived.SizedLaws
namespace Go.Proofs.Ytaahfebnbholmaa.fnExactFindPortion
open Go.ChangeShapes Go.WideShapes Go.ChangeAt Go.RowKit Go.Proofs.Ytaahfebnbholmaa.X
open Go.ChangeMaps (open_string shut_string)
set_option linter.unusedVariables false
theorem own : ownKnob Try.prog.godebug = none := by kernel_rfl
theorem laidOut : laidOutB Try.prog = true := by kernel_rfl
theorem cells71 : Try.prog.cellsOf 71 = 2 := by kernel_rfl
theorem cells2 : Try.prog.cellsOf 2 = 1 := by kernel_rfl

set_option maxRecDepth 100000 in
theorem lifted (os : Os) (started : os.Started) (H : Type) (enc : TypeId × Value → H) :
    ReturnsInHanded {} Try.checked os 13 .any (Rows.fnExactFindPortionSpec.pre6 enc Try.prog Try.f13 Rows.fnExactFindPortionRow.domain false) (Rows.fnExactFindPortionSpec.post enc Try.prog Try.f13 false true false false) := by
  refine returnsInHanded_of_change_sized (C := Try.checked) own started (by kernel_rfl) Try.func13
    (ChangeSpec.witness6 (enc := enc) (C := Try.checked) false ⟨#[], #[.slice none 0 0], []⟩ 8 (by kernel_rfl) (by kernel_rfl) (by kernel_rfl) (by kernel_rfl)) ?_
  intro W base args ds gs before hval0 hW hcnd hsz0 _
  have hval : ∀ (j : Nat) t v, Try.f13.params[j]? = some t → args[j]? = some v → Value.okWide Try.prog W .any base t v := hval0
  have hW' := hW
  obtain ⟨p, q, hA0, hV, rfl, hfz, hnd⟩ := hW
  have hA : DataW.TrodAll enc Try.prog W 0 (fun _ => true) true Try.f13.params.toList args.toList ds p := hA0
  rw [Try.params13] at hA hval
  obtain ⟨v0, vs0, d0, ds0, p0, q0, hargs, rfl, rfl, h0, r0⟩ := trodAll_cons hA
  obtain ⟨rfl, rfl, rfl⟩ := trodAll_nil r0
  obtain rfl : args = #[v0] := by cases args; simp_all
  obtain ⟨rfl, rfl⟩ := trodVars_none hV
  have hlt0 : ∀ x ∈ p0, x.block < W.heap.size := fun x hx => by have h_ := hW'.lt x (by simp [hx]); simpa using h_
  have hk0 := h0
  obtain ⟨A0, xs0, c0, rfl, l0, m0, s0, w0⟩ := open_sl_val (m := 2) (fun x_ : Int × Int => [.int .i64 x_.1, .int .i64 x_.2]) (fun x_ => (Lit.int .i64 x_.1).wf = true ∧ (Lit.int .i64 x_.2).wf = true) Try.underlying64 cells71 (by decide) (fun _ _ _ h_ => two_cells (fun _ _ _ h_ => (intCells_of_array Try.underlying71 (cells71.trans rfl) cells2 (by decide) (fun _ _ _ h_ => intCells_of_int Try.underlying2 h_) h_).1) (fun _ _ _ g_ => (intCells_of_array Try.underlying71 (cells71.trans rfl) cells2 (by decide) (fun _ _ _ h_ => intCells_of_int Try.underlying2 h_) g_).2) h_) (hval 0 64 v0 rfl rfl) h0
  clear hA0 hval0 hsz0
  refine (lawExactFindPortion W c0 s0 (Nat.le_trans l0 m0)).mono fun e W' ⟨he, bel⟩ => ?_
  subst he
  exact ⟨_, rfl, _, _, _, [], _, [], hW', trodAll_mk1 (shut_bool Try.underlying4 _), (trodAll_cons_mk (Below.trod laidOut (by kernel_rfl) (of_decide_eq_true (by kernel_rfl)) hk0 bel hlt0) trodAll_mk0), rfl, bel.frame _, fun h => by cases h⟩
theorem over : Rows.fnExactFindPortionRow.holds Try.pinned (OpenSpec.ofChange Rows.fnExactFindPortionSpec) :=
  OpenClaim.holds_of_wide 13 Try.f13 rfl rfl rfl rfl rfl rfl rfl ⟨rfl, rfl, rfl, rfl, rfl⟩ rfl rfl rfl rfl rfl (by kernel_rfl) Try.func13 (by kernel_rfl)
    (of_decide_eq_true (by kernel_rfl)) (by unfold Func.isWrapper; first | (rw [if_pos (by decide +kernel)]; kernel_rfl) | (rw [if_neg (by decide +kernel)]; exact ⟨rfl, rfl⟩))
    (fun os started H enc _ => lifted os started H enc)
theorem proved : Rows.FnExactFindPortionSaid := over
#print axioms proved
end Go.Proofs.Ytaahfebnbholmaa.fnExactFindPortion
namespace Go.Proofs.Ytaahfebnbholmaa
/-- The row, under a short name, for the claim. -/
theorem fnExactFindPortion_holds : Rows.FnExactFindPortionSaid := fnExactFindPortion.proved
end Go.Proofs.Ytaahfebnbholmaa
