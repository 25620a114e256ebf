/- What is left of the world behind marks: words for the laws of lists. Conditions: none. -/
import Derived.Test.YtinjlofefmjolaaKList2
namespace Go.Proofs.Ytinjlofefmjolaa.X
open Go.RowKit
set_option linter.unusedVariables false
set_option linter.unusedSimpArgs false
set_option maxRecDepth 100000
/-- Of the world at hand no more is kept than S says. -/
theorem exit_at {E : Exit → Act → World → Prop} {x : Exit} {a : Act} (S : World → Prop) (w : World) (h : S w) (k : ∀ u, S u → E x a u) : E x a w := k w h
theorem own_base3 {w : World} {b b' : Nat} {e : TypeId} {sz : Nat} {v : Value} {n : Nat} {ys : List Value} (h : w.ownsRow b' e sz v n ys) (hb : b ≤ b') : w.ownsRow b e sz v n ys := by
  refine ⟨h.1, ?_⟩
  rcases h.2 with h | ⟨g, cap, cur, e1, e2, h⟩
  · exact .inl h
  · exact .inr ⟨g, cap, cur, e1, Nat.le_trans hb e2, h⟩
theorem own_nums2 {w : World} {b : Nat} {e : TypeId} {A : Option Addr} {c : Nat} {ys : List Int} (h : w.ownsRow b e 1 (.slice A ys.length c) ys.length (ys.map (Value.int .i64))) (hl : ys.length ≤ 1048576) : Nums .i64 w w.heap.size A ys := by
  obtain ⟨A', c', e1, N⟩ := own_nums h hl
  injection e1 with e1 _ _
  subst e1
  exact N
/-- From x to y only blocks of R have been written. -/
structure Chg (x y : World) (R : Nat → Prop) : Prop where
  os : y.os = x.os
  tape : y.tape = x.tape
  output : y.output = x.output
  size : x.heap.size ≤ y.heap.size
  block : ∀ k, k < x.heap.size → ¬ R k → y.heap[k]? = x.heap[k]?
theorem Chg.of_below {x y : World} (h : Below x.heap.size x y) (R : Nat → Prop) : Chg x y R := ⟨h.os, h.tape, h.output, h.size, fun k hk _ => h.block k hk⟩
theorem Chg.of_grown {x y : World} {row : Option Nat} {R : Nat → Prop} (h : x.grownBy y row) (hr : ∀ k, row = some k → R k) : Chg x y R :=
  ⟨h.os, h.tape, h.output, h.size, fun k hk hn => h.block k hk (fun e => hn (hr k e.symm))⟩
theorem Chg.of_alloc (x : World) (o : Obj) (R : Nat → Prop) : Chg x (x.alloc o) R := .of_below (Below.alloc (Below.refl _ _) (Nat.le_refl _) o) R
theorem Chg.trans {x y z : World} {R : Nat → Prop} (h : Chg x y R) (k : Chg y z R) : Chg x z R :=
  ⟨k.os.trans h.os, k.tape.trans h.tape, k.output.trans h.output, Nat.le_trans h.size k.size, fun i hi hn => (k.block i (Nat.lt_of_lt_of_le hi h.size) hn).trans (h.block i hi hn)⟩
theorem Chg.cell {x y : World} {R : Nat → Prop} (h : Chg x y R) {g i : Nat} {v : Value} (hc : x.cell? ⟨g, i, none⟩ = some v) (hn : ¬ R g) : y.cell? ⟨g, i, none⟩ = some v :=
  (World.cell?_of_block (w := x) (h.block g (block_lt_of_cell hc) hn)).trans hc
theorem Chg.row {x y : World} {R : Nat → Prop} (h : Chg x y R) {b : Nat} {e : TypeId} {sz : Nat} {v : Value} {n : Nat} {ys : List Value} (ho : x.ownsRow b e sz v n ys) (hn : ∀ k, v.ownBlock = some k → ¬ R k) : y.ownsRow b e sz v n ys := by
  have hlt := ho.lt
  refine ⟨ho.1, ?_⟩
  rcases ho.2 with h0 | ⟨g, cap, cur, e1, e2, e3, h0⟩
  · exact .inl h0
  · subst e1
    exact .inr ⟨g, cap, cur, rfl, e2, (h.block g (hlt g rfl).2 (hn g rfl)).trans e3, h0⟩
theorem Chg.below {w x y : World} {R : Nat → Prop} (h : Chg x y R) {B : Nat} (hb : Below B w x) (hB : B ≤ x.heap.size) (hr : ∀ k, R k → B ≤ k) : Below B w y :=
  hb.trans ⟨h.os, h.tape, h.output, h.size, fun k hk => h.block k (by omega) (fun hR => by have := hr k hR; omega)⟩
/-- what an owned list's block is not -/
theorem far {v : Value} {p q : Nat} (h : Hid (∀ k, v.ownBlock = some k → p ≤ k ∧ k < q)) {R : Nat → Prop} (hR : ∀ k, R k → k < p ∨ q ≤ k) : ∀ k, v.ownBlock = some k → ¬ R k := fun k hk hr => by
  have h1 := h.out k hk
  have h2 := hR k hr
  omega
end Go.Proofs.Ytinjlofefmjolaa.X
