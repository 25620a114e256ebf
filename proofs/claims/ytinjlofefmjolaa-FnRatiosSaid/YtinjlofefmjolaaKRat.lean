/- Ratchets: the plain law. Conditions: none. -/
import Derived.Test.YtinjlofefmjolaaKBase
namespace Go.Proofs.Ytinjlofefmjolaa.X
open Go.RowKit
set_option linter.unusedVariables false
set_option linter.unusedSimpArgs false
set_option maxRecDepth 100000
/-- where a wheel that is moved comes to, with a ratchet -/
def nxT (s t m : Int) : Int := max (t + m) (t - t % s)
def bT (s t : Int) (ms : List Int) : Nat → Int
  | 0 => t
  | k + 1 => nxT s (bT s t ms k) (el ms (k : Int))
/-- moves as they are drawn -/
def mvOK (ms : List Int) : Prop := ∀ k : Nat, k < ms.length → -500 ≤ el ms (k : Int) ∧ el ms (k : Int) ≤ 899
theorem rest_eq (s t : Int) : t - t % s = t / s * s := by
  have := Int.mul_ediv_add_emod t s
  rw [Int.mul_comm] at this
  omega
theorem rest_bd {s t : Int} (hs : 1 ≤ s) (ht : 0 ≤ t) : 0 ≤ t % s ∧ t % s < s ∧ t % s ≤ t ∧ 0 ≤ t / s ∧ t / s ≤ t := by
  have h0 := Int.emod_nonneg t (show s ≠ 0 by omega)
  have h1 := Int.emod_lt_of_pos t (show 0 < s by omega)
  have h2 := Int.ediv_nonneg ht (show 0 ≤ s by omega)
  have h3 := Int.ediv_le_self s ht
  have h4 := rest_eq s t
  have h5 := Int.mul_nonneg h2 (show 0 ≤ s by omega)
  exact ⟨h0, h1, by omega, h2, h3⟩
theorem nx_bd {s t m : Int} (hs : 1 ≤ s) (ht : 0 ≤ t) (hm : -500 ≤ m ∧ m ≤ 899) : 0 ≤ nxT s t m ∧ nxT s t m ≤ t + 899 ∧ t - t % s ≤ nxT s t m := by
  have := rest_bd hs ht
  unfold nxT
  omega
theorem nx_spec {s t m : Int} (hs : 1 ≤ s) (ht : 0 ≤ t) : nxT s t m = if m < 0 then max (t + m) (t / s * s) else t + m := by
  have := rest_bd hs ht
  rw [← rest_eq]
  unfold nxT
  split <;> omega
theorem bT_bd {s t : Int} {ms : List Int} (hs : 1 ≤ s) (ht : 0 ≤ t) (hm : mvOK ms) : ∀ k : Nat, k ≤ ms.length → 0 ≤ bT s t ms k ∧ bT s t ms k ≤ t + 899 * (k : Int)
  | 0, _ => by unfold bT; omega
  | k + 1, h => by
    have ih := bT_bd hs ht hm k (by omega)
    have := nx_bd hs ih.1 (hm k (by omega))
    unfold bT
    omega
/-- never back behind a tooth -/
theorem nx_div {s t m : Int} (hs : 1 ≤ s) (ht : 0 ≤ t) (hm : -500 ≤ m ∧ m ≤ 899) : t / s ≤ nxT s t m / s := by
  have := nx_bd hs ht hm
  rw [rest_eq] at this
  exact (Int.le_ediv_iff_mul_le (show 0 < s by omega)).2 this.2.2
theorem bT_div {s t : Int} {ms : List Int} (hs : 1 ≤ s) (ht : 0 ≤ t) (hm : mvOK ms) : ∀ k : Nat, k ≤ ms.length → t / s ≤ bT s t ms k / s
  | 0, _ => Int.le_refl _
  | k + 1, h => Int.le_trans (bT_div hs ht hm k (by omega)) (nx_div hs (bT_bd hs ht hm k (by omega)).1 (hm k (by omega)))
theorem bT_rest {s t : Int} {ms : List Int} (hs : 1 ≤ s) (ht : 0 ≤ t) (hm : mvOK ms) {k : Nat} (hk : k ≤ ms.length) : t - t % s ≤ bT s t ms k := by
  have h := bT_div hs ht hm k hk
  have b := bT_bd hs ht hm k hk
  have r := rest_bd hs b.1
  have e := rest_eq s (bT s t ms k)
  have := Int.mul_le_mul_of_nonneg_right h (show 0 ≤ s by omega)
  rw [rest_eq s t]
  omega
theorem back_no {s t m : Int} (hs : 1 ≤ s) (ht : 0 ≤ t) (hm : -500 ≤ m ∧ m < 0) : nxT s t m ≤ t ∧ nxT s t m / s = t / s := by
  have r := rest_bd hs ht
  have h1 : nxT s t m ≤ t := by unfold nxT; omega
  refine ⟨h1, ?_⟩
  have h2 := nx_div hs ht (m := m) ⟨hm.1, by omega⟩
  have h3 := Int.ediv_le_ediv (show 0 < s by omega) h1
  omega
/-- what the rests differ by -/
theorem rest_sub (s a b : Int) : (a - a % s) - (b - b % s) = (a / s - b / s) * s := by
  rw [rest_eq, rest_eq, Int.sub_mul]
theorem rest_mod (s t : Int) : (t - t % s) % s = 0 := by
  rw [rest_eq]
  exact Int.mul_emod_left ..
/-- the k-th move alone -/
theorem bT_one (s t m : Int) : bT s t [m] 1 = nxT s t m := rfl
end Go.Proofs.Ytinjlofefmjolaa.X
