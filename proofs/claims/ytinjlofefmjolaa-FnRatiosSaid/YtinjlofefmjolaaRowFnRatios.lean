/- FnRatios: for every input the law returns true, and its arguments read as before. Conditions: none. -/
import Derived.Test.YtinjlofefmjolaaRows
import Derived.Test.YtinjlofefmjolaaLawRatios
import Derived.Test.YtinjlofefmjolaaKOpen
import Derived.ProofKit
import Derived.Carry
import Derived.ChangeOld
import Derived.SizedLaws
namespace Go.Proofs.Ytinjlofefmjolaa.fnRatios
open Go.ChangeShapes Go.WideShapes Go.ChangeAt Go.RowKit Go.Proofs.Ytinjlofefmjolaa.X
open Go.ChangeMaps (open_string shut_string)
set_option linter.unusedVariables false
theorem own : ownKnob Try.prog.godebug = none := by kernel_rfl
theorem laidOut : laidOutB Try.prog = true := by kernel_rfl
theorem cells5 : Try.prog.cellsOf 5 = 1 := by kernel_rfl

set_option maxRecDepth 100000 in
theorem lifted (os : Os) (started : os.Started) (H : Type) (enc : TypeId × Value → H) :
    ReturnsInHanded {} Try.checked os 3 .any (Rows.fnRatiosSpec.pre6 enc Try.prog Try.f3 Rows.fnRatiosRow.domain false) (Rows.fnRatiosSpec.post enc Try.prog Try.f3 false true false false) := by
  refine returnsInHanded_of_change_sized (C := Try.checked) own started (by kernel_rfl) Try.func3
    (ChangeSpec.witness6 (enc := enc) (C := Try.checked) false ⟨#[], #[.slice none 0 0, .slice none 0 0], []⟩ 8 (by kernel_rfl) (by kernel_rfl) (by kernel_rfl) (by kernel_rfl)) ?_
  intro W base args ds gs before hval0 hW hcnd hsz0 _
  have hval : ∀ (j : Nat) t v, Try.f3.params[j]? = some t → args[j]? = some v → Value.okWide Try.prog W .any base t v := hval0
  have hW' := hW
  obtain ⟨p, q, hA0, hV, rfl, hfz, hnd⟩ := hW
  have hA : DataW.TrodAll enc Try.prog W 0 (fun _ => true) true Try.f3.params.toList args.toList ds p := hA0
  rw [Try.params3] at hA hval
  obtain ⟨v0, vs0, d0, ds0, p0, q0, hargs, rfl, rfl, h0, r0⟩ := trodAll_cons hA
  obtain ⟨v1, vs1, d1, ds1, p1, q1, rfl, rfl, rfl, h1, r1⟩ := trodAll_cons r0
  obtain ⟨rfl, rfl, rfl⟩ := trodAll_nil r1
  obtain rfl : args = #[v0, v1] := by cases args; simp_all
  obtain ⟨rfl, rfl⟩ := trodVars_none hV
  have hlt0 : ∀ x ∈ p0, x.block < W.heap.size := fun x hx => by have h_ := hW'.lt x (by simp [hx]); simpa using h_
  have hlt1 : ∀ x ∈ p1, x.block < W.heap.size := fun x hx => by have h_ := hW'.lt x (by simp [hx]); simpa using h_
  have hk0 := h0
  have hk1 := h1
  obtain ⟨A0, xs0, c0, rfl, l0, m0, s0, w0⟩ := open_sl_val (m := 1) (fun x_ : Int => [.int .u8 x_]) (fun x_ => (Lit.int .u8 x_).wf = true) Try.underlying22 cells5 (by decide) (fun _ _ _ h_ => by obtain ⟨n_, e_, _, w_⟩ := DataW.trod_int Try.underlying5 h_; exact ⟨n_, e_, w_⟩) (hval 0 22 v0 rfl rfl) h0
  obtain ⟨A1, xs1, c1, rfl, l1, m1, s1, w1⟩ := open_sl_val (m := 1) (fun x_ : Int => [.int .u8 x_]) (fun x_ => (Lit.int .u8 x_).wf = true) Try.underlying22 cells5 (by decide) (fun _ _ _ h_ => by obtain ⟨n_, e_, _, w_⟩ := DataW.trod_int Try.underlying5 h_; exact ⟨n_, e_, w_⟩) (hval 1 22 v1 rfl rfl) h1
  clear hA0 hval0 hsz0
  refine (lawRatios W c0 s0 (Nat.le_trans l0 m0) (b8_of w0) c1 s1 (Nat.le_trans l1 m1) (b8_of w1)).mono fun e W' ⟨he, bel⟩ => ?_
  subst he
  exact ⟨_, rfl, _, _, _, [], _, [], hW', trodAll_mk1 (shut_bool Try.underlying4 _), (trodAll_cons_mk (Below.trod laidOut (by kernel_rfl) (of_decide_eq_true (by kernel_rfl)) hk0 bel hlt0) (trodAll_cons_mk (Below.trod laidOut (by kernel_rfl) (of_decide_eq_true (by kernel_rfl)) hk1 bel hlt1) trodAll_mk0)), rfl, bel.frame _, fun h => by cases h⟩
theorem named : Try.pinned.checked.prog.funcNamed Rows.fnRatiosRow.func = some 3 := by kernel_rfl
theorem j0 : (Rows.fnRatiosRow.inPlace == Try.prog.inPlace 3) = true := by kernel_rfl
theorem j1 : (Rows.fnRatiosRow.unfollowed == Try.prog.unfollowed 3) = true := by kernel_rfl
theorem j2 : (Rows.fnRatiosRow.recurses == Try.prog.recurses 3) = true := by kernel_rfl
theorem j3 : (Rows.fnRatiosRow.named == Try.prog.varsNamed 3) = true := by kernel_rfl
theorem j4 : mapsRowed Try.prog = true := by kernel_rfl
theorem j5 : (Rows.fnRatiosRow.plainKeys == Try.prog.plainKeys) = true := by kernel_rfl
theorem j6 : Try.prog.stopsHeard = true := by kernel_rfl
theorem j7 : Try.prog.mayEnter = true := by kernel_rfl
theorem j8 : (Rows.fnRatiosRow.lifted == Try.prog.liftsFinal) = true := by kernel_rfl
theorem j9 : (Try.prog.make == some Rows.fnRatiosRow.make) = true := by kernel_rfl
theorem closed : joinedFacts Try.prog 3 Try.f3 Rows.fnRatiosSpec Rows.fnRatiosRow = true := by
  unfold joinedFacts
  rw [laidOut, j0, j1, j2, j3, j4, j5, j6, j7, j8, j9]
  kernel_rfl
theorem over : Rows.fnRatiosRow.holds Try.pinned (OpenSpec.ofChange Rows.fnRatiosSpec) :=
  OpenClaim.holds_of_wide 3 Try.f3 rfl rfl rfl rfl rfl rfl rfl ⟨rfl, rfl, rfl, rfl, rfl⟩ rfl rfl rfl rfl rfl named Try.func3 closed
    (of_decide_eq_true (by kernel_rfl)) (by unfold Func.isWrapper; first | (rw [if_pos (by decide +kernel)]; kernel_rfl) | (rw [if_neg (by decide +kernel)]; exact ⟨rfl, rfl⟩))
    (fun os started H enc _ => lifted os started H enc)
theorem proved : Rows.FnRatiosSaid := over
#print axioms proved
end Go.Proofs.Ytinjlofefmjolaa.fnRatios
namespace Go.Proofs.Ytinjlofefmjolaa
/-- The row, under a short name, for the claim. -/
theorem fnRatios_holds : Rows.FnRatiosSaid := fnRatios.proved
end Go.Proofs.Ytinjlofefmjolaa
