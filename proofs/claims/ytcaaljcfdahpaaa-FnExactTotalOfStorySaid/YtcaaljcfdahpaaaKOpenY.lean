/- How a story is opened: a struct of two slices of numbers and a number. Conditions: none. -/
import Derived.Test.YtcaaljcfdahpaaaKOpen
import Derived.Deep.Strs
namespace Go.Proofs.Ytcaaljcfdahpaaa.X
open Go.RowKit Go.ChangeShapes Go.WideShapes
set_option linter.unusedVariables false
set_option linter.unusedSimpArgs false
set_option maxRecDepth 100000
section
variable {H : Type} {enc : TypeId × Value → H} {P : Program} {w : World} {base : Nat} {spare : Nat → Bool} {held : Bool}
theorem open_story {k0 : IntKind} {t e : TypeId} {f0 f1 f2 : Field} (hs : P.underlying t = some (.struct #[f0, f1, f2])) (hC : P.cellsOf t = 3) (h0 : P.underlying f0.type = some (.slice e)) (hE : P.underlying e = some (.int k0)) (hEc : P.cellsOf e = 1)
    (h1 : P.underlying f1.type = some (.slice e)) (h2 : P.underlying f2.type = some (.int .i64)) (ho0 : f0.offset = 0) (ho1 : f1.offset = 1) (ho2 : f2.offset = 2)
    (c0 : P.cellsOf f0.type = 1) (c1 : P.cellsOf f1.type = 1) (c2 : P.cellsOf f2.type = 1) {r : Reach} {b0 : Nat} {v : Value} {d : DataW H} {p : List MemPlace}
    (hv : Value.okWide P w r b0 t v) (h : DataW.Trod enc P w base spare held t v d p) :
    ∃ (A : Option Addr) (xs : List Int) (c : Nat) (L : Option Addr) (js : List Int) (dl : Nat) (x2 : Int), v = .agg #[.slice A xs.length c, .slice L js.length dl, .int .i64 x2] ∧ xs.length ≤ maxLen ∧ SL w w.heap.size 1 (fun x => [Value.int k0 x]) A xs ∧ (∀ x ∈ xs, (Lit.int k0 x).wf = true) ∧ js.length ≤ maxLen ∧ SL w w.heap.size 1 (fun x => [Value.int k0 x]) L js ∧ (∀ x ∈ js, (Lit.int k0 x).wf = true) ∧ (Lit.int .i64 x2).wf = true := by
  unfold Value.okWide at hv
  rw [hs] at hv
  obtain ⟨cs, rfl, hsz, _⟩ := hv
  obtain ⟨fuel, hf⟩ := h
  obtain ⟨y0, y1, y2, n, _, hl, g0, g1, g2⟩ := Go.Deep.trod_struct3 hs hf
  rw [ho0, c0] at g0
  rw [ho1, c1] at g1
  rw [ho2, c2] at g2
  obtain ⟨l⟩ := cs
  rw [hC] at hl
  match l, hl with
  | [u0, u1, u2], _ =>
    obtain ⟨A, xs, c, e0, l1, l2, l3, l4⟩ := open_sl (fun x => [Value.int k0 x]) (fun x => (Lit.int k0 x).wf = true) h0 hEc (by decide) (fun _ _ _ h_ => by obtain ⟨n_, e_, _, w_⟩ := DataW.trod_int hE h_; exact ⟨n_, e_, w_⟩) g0
    obtain ⟨L, js, dl, e1, m1, m2, m3, m4⟩ := open_sl (fun x => [Value.int k0 x]) (fun x => (Lit.int k0 x).wf = true) h1 hEc (by decide) (fun _ _ _ h_ => by obtain ⟨n_, e_, _, w_⟩ := DataW.trod_int hE h_; exact ⟨n_, e_, w_⟩) g1
    obtain ⟨x2, e2, _, w2⟩ := DataW.trod_int h2 g2
    simp [Value.cells] at e0 e1 e2
    subst e0 e1 e2
    exact ⟨A, xs, c, L, js, dl, x2, rfl, Nat.le_trans l1 l2, l3, l4, Nat.le_trans m1 m2, m3, m4, w2⟩
end
end Go.Proofs.Ytcaaljcfdahpaaa.X
