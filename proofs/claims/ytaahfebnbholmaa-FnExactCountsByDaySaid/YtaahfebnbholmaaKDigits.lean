/- Stacks: values, digits. Conditions: none. -/
import Derived.Test.YtaahfebnbholmaaKStack
namespace Go.Proofs.Ytaahfebnbholmaa.X
open Go.RowKit
set_option linter.unusedVariables false
set_option linter.unusedSimpArgs false
set_option maxRecDepth 100000
theorem okS_len {xs : List Int} (h : okS xs = true) : 1 ≤ xs.length ∧ xs.length ≤ 8 := by
  unfold okS at h
  simp only [Bool.and_eq_true, decide_eq_true_eq] at h
  have := inR_t.1 h.1.1
  omega
theorem okS_el {xs : List Int} (h : okS xs = true) {k : Nat} (hk : k < xs.length) : 2 ≤ el xs k ∧ el xs k ≤ 100 := by
  unfold okS at h
  simp only [Bool.and_eq_true, decide_eq_true_eq] at h
  exact allTo_iff.1 h.1.2 k hk
theorem okS_size {xs : List Int} (h : okS xs = true) : sizeTo xs xs.length ≤ 1000000000000 := by
  unfold okS at h
  simp only [Bool.and_eq_true, decide_eq_true_eq] at h
  exact h.2
/-- the product of the first k bases -/
def pr (xs : List Int) : Nat → Int
  | 0 => 1
  | k + 1 => pr xs k * el xs k
theorem pr_pos {xs : List Int} (h : okS xs = true) : ∀ {k : Nat}, k ≤ xs.length → 1 ≤ pr xs k
  | 0, _ => by simp [pr]
  | k + 1, hk => by
    have h1 := pr_pos h (k := k) (by omega)
    have h2 := okS_el h (k := k) (by omega)
    have := Int.mul_le_mul h1 (show (1 : Int) ≤ el xs k by omega) (by omega) (by omega)
    unfold pr
    omega
theorem pr_mono {xs : List Int} (h : okS xs = true) {k : Nat} (hk : k < xs.length) : pr xs k * 2 ≤ pr xs (k + 1) := by
  have h1 := pr_pos h (k := k) (by omega)
  have h2 := okS_el h hk
  exact Int.mul_le_mul_of_nonneg_left h2.1 (by omega)
theorem pr_le {xs : List Int} (h : okS xs = true) {j : Nat} (d : Nat) : j + d ≤ xs.length → pr xs j ≤ pr xs (j + d) := by
  induction d with
  | zero => intro _; exact Int.le_refl _
  | succ d ih =>
    intro hk
    have h1 := ih (by omega)
    have h2 := pr_mono h (k := j + d) (by omega)
    have h3 := pr_pos h (k := j + d) (by omega)
    have e : j + (d + 1) = j + d + 1 := by omega
    rw [e]
    omega
theorem sizeTo_pr {xs : List Int} (h : okS xs = true) : ∀ {k : Nat}, k ≤ xs.length → sizeTo xs k = min (pr xs k) 1000000000001
  | 0, _ => by simp only [sizeTo, pr]; omega
  | k + 1, hk => by
    have h1 := sizeTo_pr h (k := k) (by omega)
    have h2 := pr_pos h (k := k) (by omega)
    have h3 := okS_el h (k := k) (by omega)
    unfold sizeTo pr
    rw [h1]
    rcases Int.lt_or_le 1000000000001 (pr xs k) with g | g
    · have e : min (pr xs k) 1000000000001 = 1000000000001 := by omega
      rw [e]
      have a1 := Int.mul_le_mul_of_nonneg_left (show (1 : Int) ≤ el xs k by omega) (show (0 : Int) ≤ pr xs k by omega)
      omega
    · have e : min (pr xs k) 1000000000001 = pr xs k := by omega
      rw [e]
theorem pr_all {xs : List Int} (h : okS xs = true) : sizeTo xs xs.length = pr xs xs.length ∧ pr xs xs.length ≤ 1000000000000 := by
  have h1 := sizeTo_pr h (Nat.le_refl _)
  have h2 := okS_size h
  omega
theorem size_eq {xs : List Int} (h : okS xs = true) {k : Nat} (hk : k ≤ xs.length) : sizeTo xs k = pr xs k ∧ pr xs k ≤ 1000000000000 := by
  have h1 := sizeTo_pr h hk
  have h2 := pr_all h
  have h3 := pr_le h (j := k) (xs.length - k) (by omega)
  have e : k + (xs.length - k) = xs.length := by omega
  rw [e] at h3
  omega
/-- how many values a stack shows -/
def szS (xs : List Int) : Int := sizeTo xs xs.length
theorem szS_bd {xs : List Int} (h : okS xs = true) : 2 ≤ szS xs ∧ szS xs ≤ 1000000000000 := by
  have h1 := pr_all h
  have h2 := okS_len h
  have h3 := pr_mono h (k := 0) (by omega)
  have h4 := pr_le h (j := 1) (xs.length - 1) (by omega)
  have e : 1 + (xs.length - 1) = xs.length := by omega
  rw [e] at h4
  have e2 : pr xs 0 = 1 := rfl
  have e3 : pr xs (0 + 1) = pr xs 1 := rfl
  rw [e3] at h3
  unfold szS
  omega
/-- what is left of a value above the first k wheels -/
def qTo (xs : List Int) (v : Int) : Nat → Int
  | 0 => v
  | k + 1 => qTo xs v k / el xs k
theorem qTo_bd {xs : List Int} {v : Int} (h : okS xs = true) (hv : 0 ≤ v) : ∀ {k : Nat}, k ≤ xs.length → 0 ≤ qTo xs v k ∧ qTo xs v k ≤ v
  | 0, _ => ⟨hv, Int.le_refl _⟩
  | k + 1, hk => by
    have h1 := qTo_bd h hv (k := k) (by omega)
    have h2 := okS_el h (k := k) (by omega)
    unfold qTo
    exact ⟨Int.ediv_nonneg h1.1 (by omega), Int.le_trans (Int.ediv_le_self _ h1.1) h1.2⟩
/-- the first k digits of a value -/
def dgTo (xs : List Int) (v : Int) (k : Nat) : Nat → Int := fun i => if i < k then qTo xs v i % el xs i else 0
/-- the digits of a value -/
def dg (xs : List Int) (v : Int) : Nat → Int := dgTo xs v xs.length
theorem dgTo_succ (xs : List Int) (v : Int) (k : Nat) : upd (dgTo xs v k) k (qTo xs v k % el xs k) = dgTo xs v (k + 1) := by
  funext i
  unfold upd dgTo
  by_cases e : i = k
  · subst e; simp
  · simp only [e, if_false]
    by_cases e2 : i < k
    · rw [if_pos e2, if_pos (by omega)]
    · rw [if_neg e2, if_neg (by omega)]
end Go.Proofs.Ytaahfebnbholmaa.X
