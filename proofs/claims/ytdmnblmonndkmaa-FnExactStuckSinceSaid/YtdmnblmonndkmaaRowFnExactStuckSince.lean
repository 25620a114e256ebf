/- FnExactStuckSince: for every input the law returns true, and its arguments read as before. Conditions: none. -/
import Derived.Test.YtdmnblmonndkmaaRows
import Derived.Test.YtdmnblmonndkmaaLawStuckSince
import Derived.Test.YtdmnblmonndkmaaKOpen
import Derived.ProofKit
import Derived.Carry
import Derived.ChangeOld
import Derived.SizedLaws
namespace Go.Proofs.Ytdmnblmonndkmaa.fnExactStuckSince
open Go.ChangeShapes Go.WideShapes Go.ChangeAt Go.RowKit Go.Proofs.Ytdmnblmonndkmaa.X
open Go.ChangeMaps (open_string shut_string)
set_option linter.unusedVariables false
theorem own : ownKnob Try.prog.godebug = none := by kernel_rfl
theorem laidOut : laidOutB Try.prog = true := by kernel_rfl
theorem cells5 : Try.prog.cellsOf 5 = 1 := by kernel_rfl
theorem cells120 : Try.prog.cellsOf 120 = 2 := by kernel_rfl
theorem cells2 : Try.prog.cellsOf 2 = 1 := by kernel_rfl

set_option maxRecDepth 100000 in
theorem lifted (os : Os) (started : os.Started) (H : Type) (enc : TypeId × Value → H) :
    ReturnsInHanded {} Try.checked os 13 .any (Rows.fnExactStuckSinceSpec.pre6 enc Try.prog Try.f13 Rows.fnExactStuckSinceRow.domain false) (Rows.fnExactStuckSinceSpec.post enc Try.prog Try.f13 false true false false) := by
  refine returnsInHanded_of_change_sized (C := Try.checked) own started (by kernel_rfl) Try.func13
    (ChangeSpec.witness6 (enc := enc) (C := Try.checked) false ⟨#[], #[.slice none 0 0, .slice none 0 0, .int .i64 0], []⟩ 8 (by kernel_rfl) (by kernel_rfl) (by kernel_rfl) (by kernel_rfl)) ?_
  intro W base args ds gs before hval0 hW hcnd hsz0 _
  have hval : ∀ (j : Nat) t v, Try.f13.params[j]? = some t → args[j]? = some v → Value.okWide Try.prog W .any base t v := hval0
  have hW' := hW
  obtain ⟨p, q, hA0, hV, rfl, hfz, hnd⟩ := hW
  have hA : DataW.TrodAll enc Try.prog W 0 (fun _ => true) true Try.f13.params.toList args.toList ds p := hA0
  rw [Try.params13] at hA hval
  obtain ⟨v0, vs0, d0, ds0, p0, q0, hargs, rfl, rfl, h0, r0⟩ := trodAll_cons hA
  obtain ⟨v1, vs1, d1, ds1, p1, q1, rfl, rfl, rfl, h1, r1⟩ := trodAll_cons r0
  obtain ⟨v2, vs2, d2, ds2, p2, q2, rfl, rfl, rfl, h2, r2⟩ := trodAll_cons r1
  obtain ⟨rfl, rfl, rfl⟩ := trodAll_nil r2
  obtain rfl : args = #[v0, v1, v2] := by cases args; simp_all
  obtain ⟨rfl, rfl⟩ := trodVars_none hV
  have hlt0 : ∀ x ∈ p0, x.block < W.heap.size := fun x hx => by have h_ := hW'.lt x (by simp [hx]); simpa using h_
  have hlt1 : ∀ x ∈ p1, x.block < W.heap.size := fun x hx => by have h_ := hW'.lt x (by simp [hx]); simpa using h_
  have hlt2 : ∀ x ∈ p2, x.block < W.heap.size := fun x hx => by have h_ := hW'.lt x (by simp [hx]); simpa using h_
  have hk0 := h0
  have hk1 := h1
  have hk2 := h2
  obtain ⟨A0, xs0, c0, rfl, l0, m0, s0, w0⟩ := open_sl_val (m := 1) (fun x_ : Int => [.int .u8 x_]) (fun x_ => (Lit.int .u8 x_).wf = true) Try.underlying22 cells5 (by decide) (fun _ _ _ h_ => by obtain ⟨n_, e_, _, w_⟩ := DataW.trod_int Try.underlying5 h_; exact ⟨n_, e_, w_⟩) (hval 0 22 v0 rfl rfl) h0
  obtain ⟨A1, xs1, c1, rfl, l1, m1, s1, w1⟩ := open_sl_val (m := 2) (fun x_ : Int × Int => [.int .i64 x_.1, .int .i64 x_.2]) (fun x_ => (Lit.int .i64 x_.1).wf = true ∧ (Lit.int .i64 x_.2).wf = true) Try.underlying66 cells120 (by decide) (fun _ _ _ h_ => pair_cells Try.underlying120 cells120 Try.underlying2 Try.underlying2 rfl rfl cells2 cells2 h_) (hval 1 66 v1 rfl rfl) h1
  obtain ⟨a2, rfl, _, _, w2⟩ := open_int Try.underlying2 (hval 2 2 v2 rfl rfl) h2
  clear hA0 hval0 hsz0
  refine (lawExactStuckSince W c0 s0 (Nat.le_trans l0 m0) (b8_of w0) c1 s1 (Nat.le_trans l1 m1) a2 (i64_le w2)).mono fun e W' ⟨he, bel⟩ => ?_
  subst he
  exact ⟨_, rfl, _, _, _, [], _, [], hW', trodAll_mk1 (shut_bool Try.underlying4 _), (trodAll_cons_mk (Below.trod laidOut (by kernel_rfl) (of_decide_eq_true (by kernel_rfl)) hk0 bel hlt0) (trodAll_cons_mk (Below.trod laidOut (by kernel_rfl) (of_decide_eq_true (by kernel_rfl)) hk1 bel hlt1) (trodAll_cons_mk (Below.trod laidOut (by kernel_rfl) (of_decide_eq_true (by kernel_rfl)) hk2 bel hlt2) trodAll_mk0))), rfl, bel.frame _, fun h => by cases h⟩
theorem over : Rows.fnExactStuckSinceRow.holds Try.pinned (OpenSpec.ofChange Rows.fnExactStuckSinceSpec) :=
  OpenClaim.holds_of_wide 13 Try.f13 rfl rfl rfl rfl rfl rfl rfl ⟨rfl, rfl, rfl, rfl, rfl⟩ rfl rfl rfl rfl rfl (by kernel_rfl) Try.func13 (by kernel_rfl)
    (of_decide_eq_true (by kernel_rfl)) (by unfold Func.isWrapper; first | (rw [if_pos (by decide +kernel)]; kernel_rfl) | (rw [if_neg (by decide +kernel)]; exact ⟨rfl, rfl⟩))
    (fun os started H enc _ => lifted os started H enc)
theorem proved : Rows.FnExactStuckSinceSaid := over
#print axioms proved
end Go.Proofs.Ytdmnblmonndkmaa.fnExactStuckSince
namespace Go.Proofs.Ytdmnblmonndkmaa
/-- The row, under a short name, for the claim. -/
theorem fnExactStuckSince_holds : Rows.FnExactStuckSinceSaid := fnExactStuckSince.proved
end Go.Proofs.Ytdmnblmonndkmaa
