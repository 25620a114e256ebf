/- Digits are valid; counts are added. Conditions: none. -/
import Derived.Test.YtinjlofefmjolaaKLaws
import Derived.Test.YtinjlofefmjolaaKValue
namespace Go.Proofs.Ytinjlofefmjolaa.X
open Go.RowKit
set_option linter.unusedVariables false
set_option linter.unusedSimpArgs false
set_option maxRecDepth 100000
def d8 (f : Nat → Int) : Prop := ∀ k : Nat, 0 ≤ f k ∧ f k ≤ 255
/-- the first k digits are valid -/
def dOk (xs : List Int) (f : Nat → Int) (i : Nat) : Bool := if i < xs.length then decide (f i < el xs i) else decide (f i = 0)
def dTo (xs : List Int) (f : Nat → Int) : Nat → Bool
  | 0 => true
  | k + 1 => dTo xs f k && dOk xs f k
theorem dTo_iff {xs : List Int} {f : Nat → Int} : ∀ {n : Nat}, dTo xs f n = true ↔ ∀ j : Nat, j < n → dOk xs f j = true
  | 0 => by simp [dTo]
  | n + 1 => by
    unfold dTo
    rw [Bool.and_eq_true, dTo_iff]
    constructor
    · rintro ⟨h, g⟩ j hj
      by_cases e : j = n
      · subst e; exact g
      · exact h j (by omega)
    · intro h
      exact ⟨fun j hj => h j (by omega), h n (by omega)⟩
theorem dTo_no {xs : List Int} {f : Nat → Int} {k n : Nat} (hk : k < n) (h : dOk xs f k = false) : dTo xs f n = false := by
  rw [← Bool.not_eq_true, dTo_iff]
  intro g
  have := g k hk
  rw [h] at this
  cases this
theorem okD_eq (xs : List Int) (f : Nat → Int) : okD xs f = (okS xs && dTo xs f 8) := by
  unfold okD
  congr 1
  rw [Bool.eq_iff_iff, decide_eq_true_iff, dTo_iff]
  constructor
  · intro h j hj
    have := h j hj
    unfold dOk
    split
    · rename_i e; rw [if_pos e] at this; exact decide_eq_true this
    · rename_i e; rw [if_neg e] at this; exact decide_eq_true this
  · intro h j hj
    have := h j hj
    unfold dOk at this
    split
    · rename_i e; rw [if_pos e] at this; exact of_decide_eq_true this
    · rename_i e; rw [if_neg e] at this; exact of_decide_eq_true this
end Go.Proofs.Ytinjlofefmjolaa.X
