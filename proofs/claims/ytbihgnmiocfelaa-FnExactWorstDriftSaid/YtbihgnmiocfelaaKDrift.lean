/- The worst drift: the plain law. Conditions: none. -/
import Derived.Test.YtbihgnmiocfelaaKDays
namespace Go.Proofs.Ytbihgnmiocfelaa.X
open Go.RowKit
set_option linter.unusedVariables false
set_option linter.unusedSimpArgs false
set_option maxRecDepth 100000
def abI (x : Int) : Int := max x (-x)
/-- where f is farthest from 0, the first such, among 0 .. k -/
def wb (f : Nat → Int) : Nat → Nat
  | 0 => 0
  | k + 1 => if abI (f (wb f k)) < abI (f (k + 1)) then k + 1 else wb f k
theorem wb_le (f : Nat → Int) : ∀ k, wb f k ≤ k
  | 0 => Nat.le_refl _
  | k + 1 => by
    have := wb_le f k
    unfold wb
    split <;> omega
theorem wb_yes {f : Nat → Int} {k : Nat} (h : abI (f (wb f k)) < abI (f (k + 1))) : wb f (k + 1) = k + 1 := by
  rw [wb, if_pos h]
theorem wb_no {f : Nat → Int} {k : Nat} (h : ¬ abI (f (wb f k)) < abI (f (k + 1))) : wb f (k + 1) = wb f k := by
  rw [wb, if_neg h]
/-- the first and the last common day -/
def cF (xs ys : List (Int × Int)) : Int := max (tD xs 0) (tD ys 0)
def cL (xs ys : List (Int × Int)) : Int := min (tD xs ((xs.length : Int) - 1)) (tD ys ((ys.length : Int) - 1))
noncomputable def drF (xs ys : List (Int × Int)) (k : Nat) : Int := onV xs (cF xs ys + k) - onV ys (cF xs ys + k)
noncomputable def wdC (xs ys : List (Int × Int)) : Int := if vtB xs = true ∧ vtB ys = true then if xs.length = 0 ∨ ys.length = 0 then 6 else if cL xs ys < cF xs ys then 6 else if 400 < cL xs ys - cF xs ys + 1 then 3 else 0 else 1
noncomputable def wdV (xs ys : List (Int × Int)) : Int × Int := if wdC xs ys = 0 then (cF xs ys + wb (drF xs ys) (cL xs ys - cF xs ys).toNat, drF xs ys (wb (drF xs ys) (cL xs ys - cF xs ys).toNat)) else (0, 0)
theorem wdC_1 {xs ys : List (Int × Int)} (h : ¬ (vtB xs = true ∧ vtB ys = true)) : wdC xs ys = 1 := by unfold wdC; rw [if_neg h]
theorem wdC_6 {xs ys : List (Int × Int)} (h : vtB xs = true ∧ vtB ys = true) (g : xs.length = 0 ∨ ys.length = 0) : wdC xs ys = 6 := by unfold wdC; rw [if_pos h, if_pos g]
theorem wdC_6' {xs ys : List (Int × Int)} (h : vtB xs = true ∧ vtB ys = true) (g : ¬ (xs.length = 0 ∨ ys.length = 0)) (l : cL xs ys < cF xs ys) : wdC xs ys = 6 := by unfold wdC; rw [if_pos h, if_neg g, if_pos l]
theorem wdC_3 {xs ys : List (Int × Int)} (h : vtB xs = true ∧ vtB ys = true) (g : ¬ (xs.length = 0 ∨ ys.length = 0)) (l : ¬ cL xs ys < cF xs ys) (m : 400 < cL xs ys - cF xs ys + 1) : wdC xs ys = 3 := by unfold wdC; rw [if_pos h, if_neg g, if_neg l, if_pos m]
theorem wdC_0 {xs ys : List (Int × Int)} (h : vtB xs = true ∧ vtB ys = true) (g : ¬ (xs.length = 0 ∨ ys.length = 0)) (l : ¬ cL xs ys < cF xs ys) (m : ¬ 400 < cL xs ys - cF xs ys + 1) : wdC xs ys = 0 := by unfold wdC; rw [if_pos h, if_neg g, if_neg l, if_neg m]
theorem wdV_no {xs ys : List (Int × Int)} (h : ¬ wdC xs ys = 0) : wdV xs ys = (0, 0) := by unfold wdV; rw [if_neg h]
theorem wdV_0 {xs ys : List (Int × Int)} (h : wdC xs ys = 0) : wdV xs ys = (cF xs ys + wb (drF xs ys) (cL xs ys - cF xs ys).toNat, drF xs ys (wb (drF xs ys) (cL xs ys - cF xs ys).toNat)) := by unfold wdV; rw [if_pos h]
/-- a common day is told by both -/
theorem com_cov {xs ys : List (Int × Int)} (h1 : ¬ xs.length = 0) (h2 : ¬ ys.length = 0) {k : Nat} (hk : (k : Int) ≤ cL xs ys - cF xs ys) : Cov xs (cF xs ys + k) ∧ Cov ys (cF xs ys + k) := by
  unfold cL cF at *
  exact ⟨⟨by omega, by omega, by omega⟩, by omega, by omega, by omega⟩
theorem com_bd {xs ys : List (Int × Int)} (hx : vt xs) (hy : vt ys) (h1 : ¬ xs.length = 0) (h2 : ¬ ys.length = 0) : (0 ≤ cF xs ys ∧ cF xs ys ≤ 100000) ∧ 0 ≤ cL xs ys ∧ cL xs ys ≤ 100000 := by
  have a := day_bd hx h1
  have b := day_bd hy h2
  unfold cL cF
  omega
theorem drF_bd {xs ys : List (Int × Int)} (hx : vt xs) (hy : vt ys) (h1 : ¬ xs.length = 0) (h2 : ¬ ys.length = 0) {k : Nat} (hk : (k : Int) ≤ cL xs ys - cF xs ys) : -200000000000000000 ≤ drF xs ys k ∧ drF xs ys k ≤ 200000000000000000 := by
  have ⟨a, b⟩ := com_cov h1 h2 hk
  have c := onV_bd hx a
  have d := onV_bd hy b
  unfold drF
  omega
end Go.Proofs.Ytbihgnmiocfelaa.X
