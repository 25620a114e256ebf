/- Counts on wheels: the reference's next value with a digit; moves. Conditions: none. -/
import Derived.Test.YtinjlofefmjolaaKCntX
namespace Go.Proofs.Ytinjlofefmjolaa.X
open Go.RowKit
set_option linter.unusedVariables false
set_option linter.unusedSimpArgs false
set_option maxRecDepth 100000
/-- what is left of v below wheel k, above wheel j -/
def lowV (xs : List Int) (v : Int) (k j : Nat) : Int := v % pr xs k / pr xs j
theorem lowV_end {xs : List Int} (h : okS xs = true) (v : Int) {k : Nat} (hk : k ≤ xs.length) : lowV xs v k k = 0 := by
  have p := pr_pos h hk
  exact Int.ediv_eq_zero_of_lt (Int.emod_nonneg _ (by omega)) (Int.emod_lt_of_pos _ (by omega))
theorem lowV_0 (xs : List Int) (v : Int) (k : Nat) : lowV xs v k 0 = v % pr xs k := by
  show v % pr xs k / 1 = _
  rw [Int.ediv_one]
theorem lowV_step {xs : List Int} (h : okS xs = true) (v : Int) {k j : Nat} (hk : k ≤ xs.length) (hj : j < k) : lowV xs v k j = lowV xs v k (j + 1) * el xs (j : Int) + dg xs v j := by
  have p := pr_pos h (k := j) (by omega)
  have s := okS_el h (k := j) (by omega)
  have hd : pr xs j * el xs (j : Int) ∣ pr xs k := by
    have := pr_dvd (xs := xs) (j := j + 1) (k - (j + 1))
    rw [show j + 1 + (k - (j + 1)) = k by omega] at this
    exact this
  rw [dg_eq h v (by omega), ← div_mod_place (n := v) (by omega) (by omega) hd]
  unfold lowV
  rw [show pr xs (j + 1) = pr xs j * el xs (j : Int) from rfl, ← Int.ediv_ediv_of_nonneg (by omega)]
  have := Int.mul_ediv_add_emod (v % pr xs k / pr xs j) (el xs (j : Int))
  rw [Int.mul_comm] at this
  omega
theorem lowV_bd {xs : List Int} (h : okS xs = true) (v : Int) {k : Nat} (hk : k ≤ xs.length) {j : Nat} (hj : j ≤ xs.length) : 0 ≤ lowV xs v k j ∧ lowV xs v k j ≤ 1000000000000 := by
  have p := pr_pos h hk
  have q := (size_eq h hk).2
  have r := pr_pos h hj
  have a := Int.emod_nonneg v (show pr xs k ≠ 0 by omega)
  have b := Int.emod_lt_of_pos v (show 0 < pr xs k by omega)
  have c := Int.ediv_le_self (pr xs j) a
  exact ⟨Int.ediv_nonneg a (by omega), by unfold lowV; omega⟩
end Go.Proofs.Ytinjlofefmjolaa.X
