/- FnExactWithDigit: for every input the law returns true, and its arguments read as before. Conditions: none. -/
import Derived.Test.YtdmnblmonndkmaaRows
import Derived.Test.YtdmnblmonndkmaaLawWithDigit
import Derived.Test.YtdmnblmonndkmaaKOpen
import Derived.ProofKit
import Derived.Carry
import Derived.ChangeOld
import Derived.SizedLaws
namespace Go.Proofs.Ytdmnblmonndkmaa.fnExactWithDigit
open Go.ChangeShapes Go.WideShapes Go.ChangeAt Go.RowKit Go.Proofs.Ytdmnblmonndkmaa.X
open Go.ChangeMaps (open_string shut_string)
set_option linter.unusedVariables false
theorem own : ownKnob Try.prog.godebug = none := by kernel_rfl
theorem laidOut : laidOutB Try.prog = true := by kernel_rfl
theorem cells5 : Try.prog.cellsOf 5 = 1 := by kernel_rfl
theorem cells35 : Try.prog.cellsOf 35 = 16 := by kernel_rfl
theorem cells24 : Try.prog.cellsOf 24 = 2 := by kernel_rfl
theorem cells23 : Try.prog.cellsOf 23 = 1 := by kernel_rfl

set_option maxRecDepth 100000 in
theorem lifted (os : Os) (started : os.Started) (H : Type) (enc : TypeId × Value → H) :
    ReturnsInHanded {} Try.checked os 8 .any (Rows.fnExactWithDigitSpec.pre6 enc Try.prog Try.f8 Rows.fnExactWithDigitRow.domain false) (Rows.fnExactWithDigitSpec.post enc Try.prog Try.f8 false true false false) := by
  refine returnsInHanded_of_change_sized (C := Try.checked) own started (by kernel_rfl) Try.func8
    (ChangeSpec.witness6 (enc := enc) (C := Try.checked) false ⟨#[], #[.slice none 0 0, .agg #[.int .u64 0, .int .u64 0, .int .u64 0, .int .u64 0, .int .u64 0, .int .u64 0, .int .u64 0, .int .u64 0, .int .u64 0, .int .u64 0, .int .u64 0, .int .u64 0, .int .u64 0, .int .u64 0, .int .u64 0, .int .u64 0], .int .i64 0, .int .i64 0, .bool false], []⟩ 8 (by kernel_rfl) (by kernel_rfl) (by kernel_rfl) (by kernel_rfl)) ?_
  intro W base args ds gs before hval0 hW hcnd hsz0 _
  have hval : ∀ (j : Nat) t v, Try.f8.params[j]? = some t → args[j]? = some v → Value.okWide Try.prog W .any base t v := hval0
  have hW' := hW
  obtain ⟨p, q, hA0, hV, rfl, hfz, hnd⟩ := hW
  have hA : DataW.TrodAll enc Try.prog W 0 (fun _ => true) true Try.f8.params.toList args.toList ds p := hA0
  rw [Try.params8] at hA hval
  obtain ⟨v0, vs0, d0, ds0, p0, q0, hargs, rfl, rfl, h0, r0⟩ := trodAll_cons hA
  obtain ⟨v1, vs1, d1, ds1, p1, q1, rfl, rfl, rfl, h1, r1⟩ := trodAll_cons r0
  obtain ⟨v2, vs2, d2, ds2, p2, q2, rfl, rfl, rfl, h2, r2⟩ := trodAll_cons r1
  obtain ⟨v3, vs3, d3, ds3, p3, q3, rfl, rfl, rfl, h3, r3⟩ := trodAll_cons r2
  obtain ⟨v4, vs4, d4, ds4, p4, q4, rfl, rfl, rfl, h4, r4⟩ := trodAll_cons r3
  obtain ⟨rfl, rfl, rfl⟩ := trodAll_nil r4
  obtain rfl : args = #[v0, v1, v2, v3, v4] := by cases args; simp_all
  obtain ⟨rfl, rfl⟩ := trodVars_none hV
  have hlt0 : ∀ x ∈ p0, x.block < W.heap.size := fun x hx => by have h_ := hW'.lt x (by simp [hx]); simpa using h_
  have hlt1 : ∀ x ∈ p1, x.block < W.heap.size := fun x hx => by have h_ := hW'.lt x (by simp [hx]); simpa using h_
  have hlt2 : ∀ x ∈ p2, x.block < W.heap.size := fun x hx => by have h_ := hW'.lt x (by simp [hx]); simpa using h_
  have hlt3 : ∀ x ∈ p3, x.block < W.heap.size := fun x hx => by have h_ := hW'.lt x (by simp [hx]); simpa using h_
  have hlt4 : ∀ x ∈ p4, x.block < W.heap.size := fun x hx => by have h_ := hW'.lt x (by simp [hx]); simpa using h_
  have hk0 := h0
  have hk1 := h1
  have hk2 := h2
  have hk3 := h3
  have hk4 := h4
  obtain ⟨A0, xs0, c0, rfl, l0, m0, s0, w0⟩ := open_sl_val (m := 1) (fun x_ : Int => [.int .u8 x_]) (fun x_ => (Lit.int .u8 x_).wf = true) Try.underlying22 cells5 (by decide) (fun _ _ _ h_ => by obtain ⟨n_, e_, _, w_⟩ := DataW.trod_int Try.underlying5 h_; exact ⟨n_, e_, w_⟩) (hval 0 22 v0 rfl rfl) h0
  obtain ⟨f1, rfl, w1⟩ := open_arr Try.underlying35 cells35 (fun _ _ _ h_ => (intCells_of_array Try.underlying35 (cells35.trans rfl) cells24 (by decide) (fun _ _ _ h_ => (intCells_of_array Try.underlying24 (cells24.trans rfl) cells23 (by decide) (fun _ _ _ h_ => intCells_of_int Try.underlying23 h_) h_).1) h_).1) (hval 1 35 v1 rfl rfl) h1
  obtain ⟨a2, rfl, _, _, w2⟩ := open_int Try.underlying2 (hval 2 2 v2 rfl rfl) h2
  obtain ⟨a3, rfl, _, _, w3⟩ := open_int Try.underlying2 (hval 3 2 v3 rfl rfl) h3
  obtain ⟨b4, rfl, _, _⟩ := open_bool Try.underlying4 (hval 4 4 v4 rfl rfl) h4
  clear hA0 hval0 hsz0
  refine (lawExactWithDigit W c0 s0 (Nat.le_trans l0 m0) (b8_of w0) (cut16 f1) (cut16_u16 w1) a2 (i64_le w2) a3 (i64_le w3) b4).mono fun e W' ⟨he, bel⟩ => ?_
  subst he
  exact ⟨_, rfl, _, _, _, [], _, [], hW', trodAll_mk1 (shut_bool Try.underlying4 _), (trodAll_cons_mk (Below.trod laidOut (by kernel_rfl) (of_decide_eq_true (by kernel_rfl)) hk0 bel hlt0) (trodAll_cons_mk (Below.trod laidOut (by kernel_rfl) (of_decide_eq_true (by kernel_rfl)) hk1 bel hlt1) (trodAll_cons_mk (Below.trod laidOut (by kernel_rfl) (of_decide_eq_true (by kernel_rfl)) hk2 bel hlt2) (trodAll_cons_mk (Below.trod laidOut (by kernel_rfl) (of_decide_eq_true (by kernel_rfl)) hk3 bel hlt3) (trodAll_cons_mk (Below.trod laidOut (by kernel_rfl) (of_decide_eq_true (by kernel_rfl)) hk4 bel hlt4) trodAll_mk0))))), rfl, bel.frame _, fun h => by cases h⟩
theorem over : Rows.fnExactWithDigitRow.holds Try.pinned (OpenSpec.ofChange Rows.fnExactWithDigitSpec) :=
  OpenClaim.holds_of_wide 8 Try.f8 rfl rfl rfl rfl rfl rfl rfl ⟨rfl, rfl, rfl, rfl, rfl⟩ rfl rfl rfl rfl rfl (by kernel_rfl) Try.func8 (by kernel_rfl)
    (of_decide_eq_true (by kernel_rfl)) (by unfold Func.isWrapper; first | (rw [if_pos (by decide +kernel)]; kernel_rfl) | (rw [if_neg (by decide +kernel)]; exact ⟨rfl, rfl⟩))
    (fun os started H enc _ => lifted os started H enc)
theorem proved : Rows.FnExactWithDigitSaid := over
#print axioms proved
end Go.Proofs.Ytdmnblmonndkmaa.fnExactWithDigit
namespace Go.Proofs.Ytdmnblmonndkmaa
/-- The row, under a short name, for the claim. -/
theorem fnExactWithDigit_holds : Rows.FnExactWithDigitSaid := fnExactWithDigit.proved
end Go.Proofs.Ytdmnblmonndkmaa
