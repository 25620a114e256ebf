/- What meters count and show. Conditions: none. -/
import Derived.Test.YtinjlofefmjolaaKMeter
namespace Go.Proofs.Ytinjlofefmjolaa.X
open Go.RowKit
set_option linter.unusedVariables false
set_option linter.unusedSimpArgs false
set_option maxRecDepth 100000
theorem flow_bd {v p q : Int} (hv : 0 ≤ v ∧ v ≤ 1000000000000) (hp : 1 ≤ p ∧ p ≤ 1000) (hq : 1 ≤ q ∧ q ≤ 1000) : 0 ≤ v * p ∧ v * p ≤ 1000000000000000 ∧ 0 ≤ v * p / q ∧ v * p / q ≤ 1000000000000000 := by
  have h1 := Int.mul_nonneg hv.1 (show 0 ≤ p by omega)
  have h2 := Int.mul_le_mul hv.2 hp.2 (show 0 ≤ p by omega) (by omega)
  have h3 := Int.ediv_nonneg h1 (show 0 ≤ q by omega)
  have h4 := Int.ediv_le_self q h1
  omega
/-- what CountAfter returns -/
def cntV (xs : List Int) (p q s v : Int) : Int × Int := if okM xs p q s then if inR v 0 1000000000000 then (v * p / q, 0) else (0, 2) else (0, 1)
theorem cntV_1 {xs : List Int} {p q s v : Int} (h : okM xs p q s = false) : cntV xs p q s v = (0, 1) := by unfold cntV; rw [h]; rfl
theorem cntV_2 {xs : List Int} {p q s v : Int} (h : okM xs p q s = true) (g : inR v 0 1000000000000 = false) : cntV xs p q s v = (0, 2) := by unfold cntV; rw [h, g]; rfl
theorem cntV_3 {xs : List Int} {p q s v : Int} (h : okM xs p q s = true) (g : inR v 0 1000000000000 = true) : cntV xs p q s v = (v * p / q, 0) := by unfold cntV; rw [h, g]; rfl
/-- what ShowsAfter returns -/
def shV (xs : List Int) (p q s v : Int) : Int × Int × Int := if okM xs p q s then if inR v 0 1000000000000 then ((s + v * p / q) % szS xs, (s + v * p / q) / szS xs, 0) else (0, 0, 2) else (0, 0, 1)
theorem shV_1 {xs : List Int} {p q s v : Int} (h : okM xs p q s = false) : shV xs p q s v = (0, 0, 1) := by unfold shV; rw [h]; rfl
theorem shV_2 {xs : List Int} {p q s v : Int} (h : okM xs p q s = true) (g : inR v 0 1000000000000 = false) : shV xs p q s v = (0, 0, 2) := by unfold shV; rw [h, g]; rfl
theorem shV_3 {xs : List Int} {p q s v : Int} (h : okM xs p q s = true) (g : inR v 0 1000000000000 = true) : shV xs p q s v = ((s + v * p / q) % szS xs, (s + v * p / q) / szS xs, 0) := by unfold shV; rw [h, g]; rfl
end Go.Proofs.Ytinjlofefmjolaa.X
