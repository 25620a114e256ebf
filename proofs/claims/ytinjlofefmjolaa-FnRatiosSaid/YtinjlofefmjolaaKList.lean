/- Lists as results: the wheels that move. Conditions: none. -/
import Derived.Test.YtinjlofefmjolaaKLaws
import Derived.OwnWalk
namespace Go.Proofs.Ytinjlofefmjolaa.X
open Go.RowKit
set_option linter.unusedVariables false
set_option linter.unusedSimpArgs false
set_option maxRecDepth 100000
/-- the numbers below k that f picks -/
def flt (f : Nat → Bool) : Nat → List Int
  | 0 => []
  | k + 1 => if f k then flt f k ++ [(k : Int)] else flt f k
theorem flt_len (f : Nat → Bool) : ∀ k, (flt f k).length ≤ k
  | 0 => Nat.le_refl _
  | k + 1 => by
    have := flt_len f k
    unfold flt
    split
    · rw [List.length_append]; simp; exact this
    · omega
theorem flt_yes {f : Nat → Bool} {k : Nat} (h : f k = true) : flt f (k + 1) = flt f k ++ [(k : Int)] := by
  show (if f k = true then _ else _) = _
  rw [if_pos h]
theorem flt_no {f : Nat → Bool} {k : Nat} (h : f k = false) : flt f (k + 1) = flt f k := by
  show (if f k = true then _ else _) = _
  rw [if_neg (by rw [h]; simp)]
theorem flt_more {f : Nat → Bool} {k : Nat} (j : Nat) (h : ∀ i, k ≤ i → f i = false) : flt f (k + j) = flt f k := by
  induction j with
  | zero => rfl
  | succ j ih => rw [← Nat.add_assoc, flt_no (h _ (by omega)), ih]
/-- The call hands back a list that it made, and a code. -/
def RetL (ys : List Int) (code : Int) (w : World) (e : Ending) (w' : World) : Prop :=
  ∃ v, e = .returned (.tuple #[v, .int .i64 code]) ∧ w'.ownsRow w.heap.size 2 1 v ys.length (ys.map (Value.int .i64)) ∧ Below w.heap.size w w'
theorem infoI : (Try.prog.info? 2).map (fun i => (i.zero, i.size, i.bytes)) = some (some (.int .i64 0), 1, 8) := by kernel_rfl
theorem undI : Try.prog.underlying 27 = some (.slice 2) := by kernel_rfl
/-- a list just made -/
theorem own_start (w : World) (b : Nat) (hb : b ≤ w.heap.size) (e : TypeId) (os : Array Obj) (d g : Nat) (hg : g = w.heap.size) : (mo (w.alloc (.cells #[] e)) os d).ownsRow b e 1 (.slice (some ⟨g, 0, none⟩) 0 0) 0 [] := by
  subst hg
  exact ⟨rfl, .inr ⟨_, 0, #[], rfl, hb, (heap_mo _ _ _ _ (by simp)).trans (heap_alloc_new w _), Nat.le_refl _, by decide, rfl, rfl⟩⟩
theorem own_new (w : World) (b : Nat) (hb : b ≤ w.heap.size) (e : TypeId) (g : Nat) (hg : g = w.heap.size) : (w.alloc (.cells #[] e)).ownsRow b e 1 (.slice (some ⟨g, 0, none⟩) 0 0) 0 [] := by
  subst hg
  exact ⟨rfl, .inr ⟨_, 0, #[], rfl, hb, heap_alloc_new w _, Nat.le_refl _, by decide, rfl, rfl⟩⟩
theorem own_base {w : World} {b b' : Nat} {e : TypeId} {v : Value} {n : Nat} {ys : List Value} (h : w.ownsRow b' e 1 v n ys) (hb : b ≤ b') : w.ownsRow b e 1 v n ys := by
  refine ⟨h.1, ?_⟩
  rcases h.2 with h | ⟨g, cap, cur, e1, e2, h⟩
  · exact .inl h
  · exact .inr ⟨g, cap, cur, e1, Nat.le_trans hb e2, h⟩
end Go.Proofs.Ytinjlofefmjolaa.X
