/- FnExactSimplestPortion: for every input the law returns true, and its arguments read as before. Conditions: none. -/
import Derived.Test.YtaahfebnbholmaaRows
import Derived.Test.YtaahfebnbholmaaLawSimplestPortion
import Derived.Test.YtaahfebnbholmaaKOpen
import Derived.ProofKit
import Derived.Carry
import Derived.ChangeOld
import Derived.SizedLaws
namespace Go.Proofs.Ytaahfebnbholmaa.fnExactSimplestPortion
open Go.ChangeShapes Go.WideShapes Go.ChangeAt Go.RowKit Go.Proofs.Ytaahfebnbholmaa.X
open Go.ChangeMaps (open_string shut_string)
set_option linter.unusedVariables false
theorem own : ownKnob Try.prog.godebug = none := by kernel_rfl
theorem laidOut : laidOutB Try.prog = true := by kernel_rfl
theorem cells44 : Try.prog.cellsOf 44 = 2 := by kernel_rfl
theorem cells2 : Try.prog.cellsOf 2 = 1 := by kernel_rfl

set_option maxRecDepth 100000 in
theorem lifted (os : Os) (started : os.Started) (H : Type) (enc : TypeId × Value → H) :
    ReturnsInHanded {} Try.checked os 6 .any (Rows.fnExactSimplestPortionSpec.pre6 enc Try.prog Try.f6 Rows.fnExactSimplestPortionRow.domain false) (Rows.fnExactSimplestPortionSpec.post enc Try.prog Try.f6 false true false false) := by
  refine returnsInHanded_of_change_sized (C := Try.checked) own started (by kernel_rfl) Try.func6
    (ChangeSpec.witness6 (enc := enc) (C := Try.checked) false ⟨#[], #[.agg #[.int .i64 0, .int .i64 0], .agg #[.int .i64 0, .int .i64 0]], []⟩ 8 (by kernel_rfl) (by kernel_rfl) (by kernel_rfl) (by kernel_rfl)) ?_
  intro W base args ds gs before hval0 hW hcnd hsz0 _
  have hval : ∀ (j : Nat) t v, Try.f6.params[j]? = some t → args[j]? = some v → Value.okWide Try.prog W .any base t v := hval0
  have hW' := hW
  obtain ⟨p, q, hA0, hV, rfl, hfz, hnd⟩ := hW
  have hA : DataW.TrodAll enc Try.prog W 0 (fun _ => true) true Try.f6.params.toList args.toList ds p := hA0
  rw [Try.params6] at hA hval
  obtain ⟨v0, vs0, d0, ds0, p0, q0, hargs, rfl, rfl, h0, r0⟩ := trodAll_cons hA
  obtain ⟨v1, vs1, d1, ds1, p1, q1, rfl, rfl, rfl, h1, r1⟩ := trodAll_cons r0
  obtain ⟨rfl, rfl, rfl⟩ := trodAll_nil r1
  obtain rfl : args = #[v0, v1] := by cases args; simp_all
  obtain ⟨rfl, rfl⟩ := trodVars_none hV
  have hlt0 : ∀ x ∈ p0, x.block < W.heap.size := fun x hx => by have h_ := hW'.lt x (by simp [hx]); simpa using h_
  have hlt1 : ∀ x ∈ p1, x.block < W.heap.size := fun x hx => by have h_ := hW'.lt x (by simp [hx]); simpa using h_
  have hk0 := h0
  have hk1 := h1
  obtain ⟨x0, rfl, w0⟩ := pair_val Try.underlying44 cells44 Try.underlying2 Try.underlying2 rfl rfl cells2 cells2 (hval 0 44 v0 rfl rfl) h0
  obtain ⟨x1, rfl, w1⟩ := pair_val Try.underlying44 cells44 Try.underlying2 Try.underlying2 rfl rfl cells2 cells2 (hval 1 44 v1 rfl rfl) h1
  clear hA0 hval0 hsz0
  refine (lawExactSimplestPortion W x0.1 x0.2 x1.1 x1.2).mono fun e W' ⟨he, bel⟩ => ?_
  subst he
  exact ⟨_, rfl, _, _, _, [], _, [], hW', trodAll_mk1 (shut_bool Try.underlying4 _), (trodAll_cons_mk (Below.trod laidOut (by kernel_rfl) (of_decide_eq_true (by kernel_rfl)) hk0 bel hlt0) (trodAll_cons_mk (Below.trod laidOut (by kernel_rfl) (of_decide_eq_true (by kernel_rfl)) hk1 bel hlt1) trodAll_mk0)), rfl, bel.frame _, fun h => by cases h⟩
theorem over : Rows.fnExactSimplestPortionRow.holds Try.pinned (OpenSpec.ofChange Rows.fnExactSimplestPortionSpec) :=
  OpenClaim.holds_of_wide 6 Try.f6 rfl rfl rfl rfl rfl rfl rfl ⟨rfl, rfl, rfl, rfl, rfl⟩ rfl rfl rfl rfl rfl (by kernel_rfl) Try.func6 (by kernel_rfl)
    (of_decide_eq_true (by kernel_rfl)) (by unfold Func.isWrapper; first | (rw [if_pos (by decide +kernel)]; kernel_rfl) | (rw [if_neg (by decide +kernel)]; exact ⟨rfl, rfl⟩))
    (fun os started H enc _ => lifted os started H enc)
theorem proved : Rows.FnExactSimplestPortionSaid := over
#print axioms proved
end Go.Proofs.Ytaahfebnbholmaa.fnExactSimplestPortion
namespace Go.Proofs.Ytaahfebnbholmaa
/-- The row, under a short name, for the claim. -/
theorem fnExactSimplestPortion_holds : Rows.FnExactSimplestPortionSaid := fnExactSimplestPortion.proved
end Go.Proofs.Ytaahfebnbholmaa
