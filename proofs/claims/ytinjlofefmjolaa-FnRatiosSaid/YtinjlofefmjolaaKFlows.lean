/- ShowsAfter, FlowsFor of the program and of the reference. Conditions: none. -/
import Derived.Test.YtinjlofefmjolaaKMeter2
namespace Go.Proofs.Ytinjlofefmjolaa.X
open Go.RowKit
set_option linter.unusedVariables false
set_option linter.unusedSimpArgs false
set_option maxRecDepth 100000
def mostM (p q : Int) : Int := 1000000000000 * p / q
def fCnt (xs : List Int) (s r v : Int) : Int := r * szS xs + v - s
def fLo (p q c : Int) : Int := (c * q + p - 1) / p
def fHi (p q c : Int) : Int := min (((c + 1) * q - 1) / p) 1000000000000
/-- what FlowsFor returns -/
def flV (xs : List Int) (p q s r v : Int) : Int × Int × Int :=
  if okM xs p q s then
    if inR r 0 1000000000000 && inR v 0 (szS xs - 1) then
      if (mostM p q + s) / szS xs < r then (0, 0, 6)
      else if inR (fCnt xs s r v) 0 (mostM p q) then if fHi p q (fCnt xs s r v) < fLo p q (fCnt xs s r v) then (0, 0, 6) else (fLo p q (fCnt xs s r v), fHi p q (fCnt xs s r v), 0)
      else (0, 0, 6)
    else (0, 0, 2)
  else (0, 0, 1)
theorem fl_most {p q : Int} (hp : 1 ≤ p ∧ p ≤ 1000) (hq : 1 ≤ q ∧ q ≤ 1000) : 0 ≤ mostM p q ∧ mostM p q ≤ 1000000000000000 ∧ mostM p q * q ≤ 1000000000000 * p := by
  obtain ⟨_, _, h3, h4⟩ := flow_bd (v := 1000000000000) (by omega) hp hq
  refine ⟨h3, h4, ?_⟩
  have := Int.ediv_mul_le (1000000000000 * p) (show q ≠ 0 by omega)
  exact this
theorem fl_cnt {p q c : Int} (hp : 1 ≤ p ∧ p ≤ 1000) (hq : 1 ≤ q ∧ q ≤ 1000) (h0 : 0 ≤ c) (h1 : c ≤ mostM p q) : 0 ≤ c * q ∧ c * q ≤ 1000000000000000 ∧ (c + 1) * q = c * q + q := by
  obtain ⟨m0, m1, m2⟩ := fl_most hp hq
  have e1 := Int.mul_nonneg h0 (show 0 ≤ q by omega)
  have e2 := Int.mul_le_mul_of_nonneg_right h1 (show 0 ≤ q by omega)
  exact ⟨e1, by omega, by rw [Int.add_mul, Int.one_mul]⟩
theorem ceil_less {x p : Int} (hp : 1 ≤ p) : (x + p - 1) / p - 1 = (x - 1) / p := by
  have e : x + p - 1 = (x - 1) + 1 * p := by omega
  rw [e, Int.add_mul_ediv_right _ _ (by omega)]
  omega
theorem div_le {a b r : Int} (hb : 0 < b) (h : r ≤ a / b) : r * b ≤ a := (Int.le_ediv_iff_mul_le hb).1 h
end Go.Proofs.Ytinjlofefmjolaa.X
