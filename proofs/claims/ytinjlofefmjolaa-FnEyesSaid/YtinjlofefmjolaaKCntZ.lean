/- Counts on wheels: moves of the wheels. Conditions: none. -/
import Derived.Test.YtinjlofefmjolaaKCntY
import Derived.Test.YtinjlofefmjolaaKTight
namespace Go.Proofs.Ytinjlofefmjolaa.X
open Go.RowKit
set_option linter.unusedVariables false
set_option linter.unusedSimpArgs false
set_option maxRecDepth 100000
def mvT (xs : List Int) (v a : Int) (m k : Nat) : Int := if k < m then (v + a) / pr xs k - v / pr xs k else 0
theorem mvT_succ (xs : List Int) (v a : Int) (k : Nat) : upd (mvT xs v a k) k ((v + a) / pr xs k - v / pr xs k) = mvT xs v a (k + 1) := by
  funext i
  unfold upd mvT
  by_cases e : i = k
  · subst e; simp
  · simp only [e, if_false]
    by_cases e2 : i < k
    · rw [if_pos e2, if_pos (by omega)]
    · rw [if_neg e2, if_neg (by omega)]
theorem mvT_end (xs : List Int) (v a : Int) : mvT xs v a xs.length = mvW xs v a := rfl
theorem div_bdC {n p : Int} (hp : 1 ≤ p) (h : -2000000000000 ≤ n ∧ n ≤ 2000000000000) : -2000000000001 ≤ n / p ∧ n / p ≤ 2000000000000 := by
  have h1 := Int.mul_ediv_add_emod n p
  have m0 := Int.emod_nonneg n (show p ≠ 0 by omega)
  have m1 := Int.emod_lt_of_pos n (show 0 < p by omega)
  by_cases hn : 0 ≤ n
  · have := Int.ediv_nonneg hn (show 0 ≤ p by omega)
    have := Int.ediv_le_self p hn
    omega
  · have h2 : n / p < 0 := Int.ediv_neg_of_neg_of_pos (by omega) (by omega)
    have h3 := Int.mul_le_mul_of_nonneg_right (show 1 ≤ p by omega) (show 0 ≤ -(n / p) - 1 by omega)
    rw [Int.one_mul, Int.mul_sub, Int.mul_one, Int.mul_neg] at h3
    omega
end Go.Proofs.Ytinjlofefmjolaa.X
