/- FnExactCountsByDay: for every input the law returns true, and its arguments read as before. Conditions: none. -/
import Derived.Test.YtaahfebnbholmaaRows
import Derived.Test.YtaahfebnbholmaaLawCountsByDay
import Derived.Test.YtaahfebnbholmaaKOpen
import Derived.ProofKit
import Derived.Carry
import Derived.ChangeOld
import Derived.SizedLaws
namespace Go.Proofs.Ytaahfebnbholmaa.fnExactCountsByDay
open Go.ChangeShapes Go.WideShapes Go.ChangeAt Go.RowKit Go.Proofs.Ytaahfebnbholmaa.X
open Go.ChangeMaps (open_string shut_string)
set_option linter.unusedVariables false
theorem own : ownKnob Try.prog.godebug = none := by kernel_rfl
theorem laidOut : laidOutB Try.prog = true := by kernel_rfl
theorem cells85 : Try.prog.cellsOf 85 = 2 := by kernel_rfl
theorem cells2 : Try.prog.cellsOf 2 = 1 := by kernel_rfl

set_option maxRecDepth 100000 in
theorem lifted (os : Os) (started : os.Started) (H : Type) (enc : TypeId × Value → H) :
    ReturnsInHanded {} Try.checked os 14 .any (Rows.fnExactCountsByDaySpec.pre6 enc Try.prog Try.f14 Rows.fnExactCountsByDayRow.domain false) (Rows.fnExactCountsByDaySpec.post enc Try.prog Try.f14 false true false false) := by
  refine returnsInHanded_of_change_sized (C := Try.checked) own started (by kernel_rfl) Try.func14
    (ChangeSpec.witness6 (enc := enc) (C := Try.checked) false ⟨#[], #[.slice none 0 0], []⟩ 8 (by kernel_rfl) (by kernel_rfl) (by kernel_rfl) (by kernel_rfl)) ?_
  intro W base args ds gs before hval0 hW hcnd hsz0 _
  have hval : ∀ (j : Nat) t v, Try.f14.params[j]? = some t → args[j]? = some v → Value.okWide Try.prog W .any base t v := hval0
  have hW' := hW
  obtain ⟨p, q, hA0, hV, rfl, hfz, hnd⟩ := hW
  have hA : DataW.TrodAll enc Try.prog W 0 (fun _ => true) true Try.f14.params.toList args.toList ds p := hA0
  rw [Try.params14] at hA hval
  obtain ⟨v0, vs0, d0, ds0, p0, q0, hargs, rfl, rfl, h0, r0⟩ := trodAll_cons hA
  obtain ⟨rfl, rfl, rfl⟩ := trodAll_nil r0
  obtain rfl : args = #[v0] := by cases args; simp_all
  obtain ⟨rfl, rfl⟩ := trodVars_none hV
  have hlt0 : ∀ x ∈ p0, x.block < W.heap.size := fun x hx => by have h_ := hW'.lt x (by simp [hx]); simpa using h_
  have hk0 := h0
  obtain ⟨A0, xs0, c0, rfl, l0, m0, s0, w0⟩ := open_sl_val (m := 2) (fun x_ : Int × Int => [.int .i64 x_.1, .int .i64 x_.2]) (fun x_ => (Lit.int .i64 x_.1).wf = true ∧ (Lit.int .i64 x_.2).wf = true) Try.underlying37 cells85 (by decide) (fun _ _ _ h_ => pair_cells Try.underlying85 cells85 Try.underlying2 Try.underlying2 rfl rfl cells2 cells2 h_) (hval 0 37 v0 rfl rfl) h0
  clear hA0 hval0 hsz0
  refine (lawExactCountsByDay W c0 s0 (Nat.le_trans l0 m0)).mono fun e W' ⟨he, bel⟩ => ?_
  subst he
  exact ⟨_, rfl, _, _, _, [], _, [], hW', trodAll_mk1 (shut_bool Try.underlying4 _), (trodAll_cons_mk (Below.trod laidOut (by kernel_rfl) (of_decide_eq_true (by kernel_rfl)) hk0 bel hlt0) trodAll_mk0), rfl, bel.frame _, fun h => by cases h⟩
theorem over : Rows.fnExactCountsByDayRow.holds Try.pinned (OpenSpec.ofChange Rows.fnExactCountsByDaySpec) :=
  OpenClaim.holds_of_wide 14 Try.f14 rfl rfl rfl rfl rfl rfl rfl ⟨rfl, rfl, rfl, rfl, rfl⟩ rfl rfl rfl rfl rfl (by kernel_rfl) Try.func14 (by kernel_rfl)
    (of_decide_eq_true (by kernel_rfl)) (by unfold Func.isWrapper; first | (rw [if_pos (by decide +kernel)]; kernel_rfl) | (rw [if_neg (by decide +kernel)]; exact ⟨rfl, rfl⟩))
    (fun os started H enc _ => lifted os started H enc)
theorem proved : Rows.FnExactCountsByDaySaid := over
#print axioms proved
end Go.Proofs.Ytaahfebnbholmaa.fnExactCountsByDay
namespace Go.Proofs.Ytaahfebnbholmaa
/-- The row, under a short name, for the claim. -/
theorem fnExactCountsByDay_holds : Rows.FnExactCountsByDaySaid := fnExactCountsByDay.proved
end Go.Proofs.Ytaahfebnbholmaa
