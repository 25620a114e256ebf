/- Portions without common divisors, and bounds of pairs: the plain law. Conditions: none. -/
import Derived.Test.YtinjlofefmjolaaKPLaws
namespace Go.Proofs.Ytinjlofefmjolaa.X
open Go.RowKit
set_option linter.unusedVariables false
set_option linter.unusedSimpArgs false
set_option maxRecDepth 100000
def gI (p q : Int) : Int := (Int.gcd p q : Int)
/-- a portion without common divisors -/
def red (p q : Int) : Int × Int := (p / gI p q, q / gI p q)
theorem gI_pos {p q : Int} (hq : 1 ≤ q) : 1 ≤ gI p q := by
  have : 0 < Int.gcd p q := Int.gcd_pos_of_ne_zero_right p (by omega)
  unfold gI; omega
theorem gI_left (p q : Int) : gI p q * (p / gI p q) = p := Int.mul_ediv_cancel' (Int.gcd_dvd_left ..)
theorem gI_right (p q : Int) : gI p q * (q / gI p q) = q := Int.mul_ediv_cancel' (Int.gcd_dvd_right ..)
theorem red_lt {p q P Q : Int} (hq : 1 ≤ q) (hQ : 1 ≤ Q) : ((red p q).1 * (red P Q).2 < (red P Q).1 * (red p q).2) ↔ (p * Q < P * q) := by
  have g := gI_pos (p := p) hq
  have h := gI_pos (p := P) hQ
  have e1 : p * Q = (gI p q * gI P Q) * ((red p q).1 * (red P Q).2) := by
    show p * Q = (gI p q * gI P Q) * (p / gI p q * (Q / gI P Q))
    rw [show (gI p q * gI P Q) * (p / gI p q * (Q / gI P Q)) = (gI p q * (p / gI p q)) * (gI P Q * (Q / gI P Q)) by simp only [Int.mul_assoc, Int.mul_left_comm], gI_left, gI_right]
  have e2 : P * q = (gI p q * gI P Q) * ((red P Q).1 * (red p q).2) := by
    show P * q = (gI p q * gI P Q) * (P / gI P Q * (q / gI p q))
    rw [show (gI p q * gI P Q) * (P / gI P Q * (q / gI p q)) = (gI P Q * (P / gI P Q)) * (gI p q * (q / gI p q)) by simp only [Int.mul_assoc, Int.mul_comm, Int.mul_left_comm], gI_left, gI_right]
  have k : 0 < gI p q * gI P Q := Int.mul_pos (by omega) (by omega)
  rw [e1, e2]
  exact ⟨fun h => Int.mul_lt_mul_of_pos_left h k, fun h => Int.lt_of_mul_lt_mul_left h (Int.le_of_lt k)⟩
theorem red_0 {q : Int} (hq : 1 ≤ q) : red 0 q = (0, 1) := by
  have : gI 0 q = q := by unfold gI; rw [Int.gcd_zero_left]; omega
  unfold red
  rw [this, Int.zero_ediv, Int.ediv_self (by omega)]
theorem red_bd {p q : Int} (hp : 0 ≤ p) (hq : 1 ≤ q) : (0 ≤ (red p q).1 ∧ (red p q).1 ≤ p) ∧ 1 ≤ (red p q).2 ∧ (red p q).2 ≤ q := by
  have g := gI_pos (p := p) hq
  have e1 := gI_left p q
  have e2 := gI_right p q
  refine ⟨⟨Int.ediv_nonneg hp (by omega), Int.ediv_le_self _ hp⟩, ?_, Int.ediv_le_self _ (by omega)⟩
  show 1 ≤ q / gI p q
  rcases Int.lt_or_le 0 (q / gI p q) with h | h
  · omega
  · have := Int.mul_le_mul_of_nonneg_left h (show 0 ≤ gI p q by omega)
    omega
/-- the bounds that the first k pairs leave: low, high -/
def plo (xs : List (Int × Int)) : Nat → Int × Int
  | 0 => (0, 1)
  | k + 1 => if (plo xs k).1 * p1 xs k < p2 xs k * (plo xs k).2 then (p2 xs k, p1 xs k) else plo xs k
def phi (xs : List (Int × Int)) : Nat → Int × Int
  | 0 => (100001, 1)
  | k + 1 => if (p2 xs k + 1) * (phi xs k).2 < (phi xs k).1 * p1 xs k then (p2 xs k + 1, p1 xs k) else phi xs k
def pOK (xs : List (Int × Int)) (k : Nat) : Prop := (1 ≤ p1 xs k ∧ p1 xs k ≤ 100000) ∧ 0 ≤ p2 xs k ∧ p2 xs k ≤ 100000
theorem plo_yes {xs : List (Int × Int)} {k : Nat} (h : (plo xs k).1 * p1 xs k < p2 xs k * (plo xs k).2) : plo xs (k + 1) = (p2 xs k, p1 xs k) := by
  show (if _ then _ else _) = _
  rw [if_pos h]
theorem plo_no {xs : List (Int × Int)} {k : Nat} (h : ¬ (plo xs k).1 * p1 xs k < p2 xs k * (plo xs k).2) : plo xs (k + 1) = plo xs k := by
  show (if _ then _ else _) = _
  rw [if_neg h]
theorem phi_yes {xs : List (Int × Int)} {k : Nat} (h : (p2 xs k + 1) * (phi xs k).2 < (phi xs k).1 * p1 xs k) : phi xs (k + 1) = (p2 xs k + 1, p1 xs k) := by
  show (if _ then _ else _) = _
  rw [if_pos h]
theorem phi_no {xs : List (Int × Int)} {k : Nat} (h : ¬ (p2 xs k + 1) * (phi xs k).2 < (phi xs k).1 * p1 xs k) : phi xs (k + 1) = phi xs k := by
  show (if _ then _ else _) = _
  rw [if_neg h]
theorem plo_bd {xs : List (Int × Int)} {n : Nat} (h : ∀ k : Nat, k < n → pOK xs k) : ∀ k : Nat, k ≤ n → (0 ≤ (plo xs k).1 ∧ (plo xs k).1 ≤ 100000) ∧ 1 ≤ (plo xs k).2 ∧ (plo xs k).2 ≤ 100000
  | 0, _ => by unfold plo; omega
  | k + 1, hk => by
    have ih := plo_bd h k (by omega)
    have ⟨h1, h2⟩ := h k (by omega)
    by_cases c : (plo xs k).1 * p1 xs k < p2 xs k * (plo xs k).2
    · rw [plo_yes c]; exact ⟨h2, h1⟩
    · rw [plo_no c]; exact ih
theorem phi_bd {xs : List (Int × Int)} {n : Nat} (h : ∀ k : Nat, k < n → pOK xs k) : ∀ k : Nat, k ≤ n → (1 ≤ (phi xs k).1 ∧ (phi xs k).1 ≤ 100001) ∧ 1 ≤ (phi xs k).2 ∧ (phi xs k).2 ≤ 100000
  | 0, _ => by unfold phi; omega
  | k + 1, hk => by
    have ih := phi_bd h k (by omega)
    have ⟨h1, h2⟩ := h k (by omega)
    by_cases c : (p2 xs k + 1) * (phi xs k).2 < (phi xs k).1 * p1 xs k
    · rw [phi_yes c]; exact ⟨by show 1 ≤ p2 xs k + 1 ∧ p2 xs k + 1 ≤ 100001; omega, h1⟩
    · rw [phi_no c]; exact ih
theorem plo_1 {xs : List (Int × Int)} (h : pOK xs 0) : red (plo xs 1).1 (plo xs 1).2 = red (p2 xs (0 : Nat)) (p1 xs (0 : Nat)) := by
  obtain ⟨⟨h1, h2⟩, h3, h4⟩ := h
  by_cases c : (plo xs 0).1 * p1 xs (0 : Nat) < p2 xs (0 : Nat) * (plo xs 0).2
  · rw [plo_yes c]
  · rw [plo_no c]
    have e : p2 xs (0 : Nat) = 0 := by
      simp only [plo] at c
      omega
    rw [e, red_0 h1]
    show red 0 1 = (0, 1)
    exact red_0 (by decide)
theorem phi_1 {xs : List (Int × Int)} (h : pOK xs 0) : phi xs 1 = (p2 xs (0 : Nat) + 1, p1 xs (0 : Nat)) := by
  obtain ⟨⟨h1, h2⟩, h3, h4⟩ := h
  by_cases c : (p2 xs (0 : Nat) + 1) * (phi xs 0).2 < (phi xs 0).1 * p1 xs (0 : Nat)
  · rw [phi_yes c]
  · rw [phi_no c]
    simp only [phi] at c ⊢
    have e1 : p1 xs (0 : Nat) = 1 := by omega
    have e2 : p2 xs (0 : Nat) = 100000 := by omega
    rw [e1, e2]; rfl
end Go.Proofs.Ytinjlofefmjolaa.X
