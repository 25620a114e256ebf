/- How a motion is opened: a struct of a slice of numbers and a slice of pairs. Conditions: none. -/
import Derived.Test.YtcaaljcfdahpaaaKOpen
import Derived.Test.YtcaaljcfdahpaaaKMot
namespace Go.Proofs.Ytcaaljcfdahpaaa.X
open Go.RowKit Go.ChangeShapes Go.WideShapes
set_option linter.unusedVariables false
set_option linter.unusedSimpArgs false
set_option maxRecDepth 100000
section
variable {H : Type} {enc : TypeId × Value → H} {P : Program} {w : World} {base : Nat} {spare : Nat → Bool} {held : Bool}
theorem open_motion {k0 : IntKind} {t e e2 : TypeId} {f0 f1 : Field} (wf : Int × Int → Prop) (encx : Int × Int → List Value) (hs : P.underlying t = some (.struct #[f0, f1])) (hC : P.cellsOf t = 2) (h0 : P.underlying f0.type = some (.slice e)) (hE : P.underlying e = some (.int k0)) (hEc : P.cellsOf e = 1)
    (h1 : P.underlying f1.type = some (.slice e2)) (hE2 : P.cellsOf e2 = 2) (ho0 : f0.offset = 0) (ho1 : f1.offset = 1) (c0 : P.cellsOf f0.type = 1) (c1 : P.cellsOf f1.type = 1)
    (hel : ∀ (fuel : Nat) (cs : List Value) (y : DataW H × List MemPlace), DataW.trod enc P w base spare held fuel e2 cs = some y → ∃ x : Int × Int, cs = encx x ∧ wf x)
    {r : Reach} {b0 : Nat} {v : Value} {d : DataW H} {p : List MemPlace} (hv : Value.okWide P w r b0 t v) (h : DataW.Trod enc P w base spare held t v d p) :
    ∃ (A : Option Addr) (xs : List Int) (c : Nat) (L : Option Addr) (js : List (Int × Int)) (dl : Nat), v = .agg #[.slice A xs.length c, .slice L js.length dl] ∧ xs.length ≤ maxLen ∧ SL w w.heap.size 1 (fun x => [Value.int k0 x]) A xs ∧ (∀ x ∈ xs, (Lit.int k0 x).wf = true) ∧ js.length ≤ maxLen ∧ SL w w.heap.size 2 encx L js ∧ ∀ x ∈ js, wf x := by
  unfold Value.okWide at hv
  rw [hs] at hv
  obtain ⟨cs, rfl, hsz, _⟩ := hv
  obtain ⟨fuel, hf⟩ := h
  obtain ⟨y0, y1, n, _, hl, g0, g1⟩ := trod_struct2 hs hf
  rw [ho0, c0] at g0
  rw [ho1, c1] at g1
  obtain ⟨l⟩ := cs
  rw [hC] at hl
  match l, hl with
  | [u0, u1], _ =>
    obtain ⟨A, xs, c, e0, l1, l2, l3, l4⟩ := open_sl (fun x => [Value.int k0 x]) (fun x => (Lit.int k0 x).wf = true) h0 hEc (by decide) (fun _ _ _ h_ => by obtain ⟨n_, e_, _, w_⟩ := DataW.trod_int hE h_; exact ⟨n_, e_, w_⟩) g0
    obtain ⟨L, js, dl, e1, m1, m2, m3, m4⟩ := open_sl encx wf h1 hE2 (by decide) hel g1
    simp [Value.cells] at e0 e1
    subst e0 e1
    exact ⟨A, xs, c, L, js, dl, rfl, Nat.le_trans l1 l2, l3, l4, Nat.le_trans m1 m2, m3, m4⟩
end
theorem j8_of {js : List (Int × Int)} (h : ∀ x ∈ js, (Lit.int .i8 x.1).wf = true ∧ (Lit.int .i16 x.2).wf = true) : j8 js := by
  intro k
  unfold p1 p2
  rw [List.getD_eq_getElem?_getD]
  cases e : js[k.toNat]? with
  | none => exact ⟨⟨by decide, by decide⟩, by decide, by decide⟩
  | some x =>
    have := h x (List.mem_of_getElem? e)
    simp [Lit.wf, show IntKind.i8.min = -128 by decide, show IntKind.i8.max = 127 by decide, show IntKind.i16.min = -32768 by decide, show IntKind.i16.max = 32767 by decide] at this
    simp only [Option.getD_some]
    omega
end Go.Proofs.Ytcaaljcfdahpaaa.X
