/- Meters: which are valid, what they count. Conditions: none. -/
import Derived.Test.YtinjlofefmjolaaKLaws
import Derived.Test.YtinjlofefmjolaaKNum
namespace Go.Proofs.Ytinjlofefmjolaa.X
open Go.RowKit
set_option linter.unusedVariables false
set_option linter.unusedSimpArgs false
set_option maxRecDepth 100000
/-- a meter is valid -/
def okM (xs : List Int) (p q s : Int) : Bool := okS xs && inR p 1 1000 && inR q 1 1000 && inR s 0 (sizeTo xs xs.length - 1)
theorem okM_parts {xs : List Int} {p q s : Int} (h : okM xs p q s = true) : okS xs = true ∧ (1 ≤ p ∧ p ≤ 1000) ∧ (1 ≤ q ∧ q ≤ 1000) ∧ 0 ≤ s ∧ s ≤ szS xs - 1 := by
  unfold okM at h
  simp only [Bool.and_eq_true] at h
  exact ⟨h.1.1.1, inR_t.1 h.1.1.2, inR_t.1 h.1.2, inR_t.1 h.2⟩
end Go.Proofs.Ytinjlofefmjolaa.X
