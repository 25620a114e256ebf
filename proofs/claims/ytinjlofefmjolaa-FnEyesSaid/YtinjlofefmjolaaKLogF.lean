/- What is known of valid logs; the tightest flow. Conditions: none. -/
import Derived.Test.YtinjlofefmjolaaKCounts
namespace Go.Proofs.Ytinjlofefmjolaa.X
open Go.RowKit
set_option linter.unusedVariables false
set_option linter.unusedSimpArgs false
set_option maxRecDepth 100000
theorem lgTo_all {xs : List Int} {log : List (Int × Int)} : ∀ {n : Nat}, lgTo xs log n = true → ∀ k : Nat, k < n → (okR xs (p1 log k) (p2 log k) && (decide (k = 0) || decide (p1 log ((k : Int) - 1) < p1 log k))) = true
  | 0, _, k, hk => absurd hk (by omega)
  | n + 1, h, k, hk => by
    unfold lgTo at h
    rw [Bool.and_eq_true] at h
    by_cases e : k = n
    · subst e; exact h.2
    · exact lgTo_all h.1 k (by omega)
theorem okL_parts {xs : List Int} {log : List (Int × Int)} (h : okL xs log = true) : okS xs = true ∧ log.length ≤ 40 ∧ lgTo xs log log.length = true := by
  unfold okL at h
  simp only [Bool.and_eq_true, decide_eq_true_eq] at h
  exact ⟨h.1.1, h.1.2, h.2⟩
theorem okL_at {xs : List Int} {log : List (Int × Int)} (h : okL xs log = true) {k : Nat} (hk : k < log.length) : (0 ≤ p1 log k ∧ p1 log k ≤ 100000) ∧ 0 ≤ p2 log k ∧ p2 log k ≤ szS xs - 1 := by
  have h1 := lgTo_all (okL_parts h).2.2 k hk
  rw [Bool.and_eq_true] at h1
  exact okR_t h1.1
theorem okL_lt {xs : List Int} {log : List (Int × Int)} (h : okL xs log = true) {k : Nat} (hk : k + 1 < log.length) : p1 log k < p1 log ((k : Int) + 1) := by
  have h1 := lgTo_all (okL_parts h).2.2 (k + 1) hk
  rw [Bool.and_eq_true] at h1
  have h2 := h1.2
  rw [show ((k + 1 : Nat) : Int) = (k : Int) + 1 by omega] at h2
  simp only [Nat.add_one_ne_zero, decide_false, Bool.false_or, decide_eq_true_eq] at h2
  rwa [show (k : Int) + 1 - 1 = k by omega] at h2
/-- Two readings, one behind the other, of a valid log. -/
structure Two (xs : List Int) (log : List (Int × Int)) (k : Nat) : Prop where
  d0 : 0 ≤ p1 log k
  d1 : p1 log ((k : Int) + 1) ≤ 100000
  d : p1 log k < p1 log ((k : Int) + 1)
  v0 : 0 ≤ p2 log k ∧ p2 log k ≤ szS xs - 1
  v1 : 0 ≤ p2 log ((k : Int) + 1) ∧ p2 log ((k : Int) + 1) ≤ szS xs - 1
theorem okL_two {xs : List Int} {log : List (Int × Int)} (h : okL xs log = true) {k : Nat} (hk : k + 1 < log.length) : Two xs log k := by
  have h0 := okL_at h (k := k) (by omega)
  have h1 := okL_at h (k := k + 1) hk
  rw [show ((k + 1 : Nat) : Int) = (k : Int) + 1 by omega] at h1
  exact ⟨h0.1.1, h1.1.2, okL_lt h hk, h0.2, h1.2⟩
theorem Two.fine {xs : List Int} {log : List (Int × Int)} {k : Nat} (h : Two xs log k) (hs : okS xs = true) {fl fh : Int} (hf : 0 ≤ fl ∧ fl ≤ fh ∧ fh ≤ 1000000) : Fine xs (p1 log k) (p2 log k) (p1 log ((k : Int) + 1)) (p2 log ((k : Int) + 1)) fl fh := by
  have h1 := h.d0
  have h2 := h.d1
  have h3 := h.d
  exact ⟨hs, h.v0, h.v1, by omega, by omega, by omega, hf⟩
def tgap (xs : List Int) (log : List (Int × Int)) (j : Nat) : Int := (p2 log ((j : Int) + 1) - p2 log j) % szS xs
def tday (log : List (Int × Int)) (j : Nat) : Int := p1 log ((j : Int) + 1) - p1 log j
/-- the least High of the first j steps -/
def hiTo (xs : List Int) (log : List (Int × Int)) : Nat → Int
  | 0 => 0
  | j + 1 => max (hiTo xs log j) ((tgap xs log j + tday log j - 1) / tday log j)
/-- the greatest Low of the first j steps -/
def loTo (xs : List Int) (log : List (Int × Int)) (H : Int) : Nat → Int
  | 0 => H
  | j + 1 => min (loTo xs log H j) (cHigh xs (p1 log j) (p2 log j) (p1 log ((j : Int) + 1)) (p2 log ((j : Int) + 1)) H / tday log j)
theorem tgap_bd {xs : List Int} (log : List (Int × Int)) (j : Nat) (hs : okS xs = true) : 0 ≤ tgap xs log j ∧ tgap xs log j ≤ 1000000000000 := by
  have h := szS_bd hs
  have h1 := Int.emod_nonneg (p2 log ((j : Int) + 1) - p2 log j) (show szS xs ≠ 0 by omega)
  have h2 := Int.emod_lt_of_pos (p2 log ((j : Int) + 1) - p2 log j) (show 0 < szS xs by omega)
  unfold tgap
  omega
theorem tday_bd {xs : List Int} {log : List (Int × Int)} {j : Nat} (h : Two xs log j) : 1 ≤ tday log j ∧ tday log j ≤ 100000 := by
  have h1 := h.d0
  have h2 := h.d1
  have h3 := h.d
  unfold tday
  omega
theorem ceil_bd {g d : Int} (hg : 0 ≤ g ∧ g ≤ 1000000000000) (hd : 1 ≤ d ∧ d ≤ 100000) : (0 ≤ (g + d - 1) / d ∧ (g + d - 1) / d ≤ 1000000100000) ∧ g ≤ (g + d - 1) / d * d := by
  obtain ⟨e1, e2, e3⟩ := ediv_bd (a := g + d - 1) (b := d) (by omega)
  obtain ⟨e4, e5⟩ := ediv_abs (m := g + d - 1) (b := d) (by omega) (by omega)
  exact ⟨⟨e4, by omega⟩, by omega⟩
theorem hiTo_bd {xs : List Int} {log : List (Int × Int)} (h : okL xs log = true) : ∀ j : Nat, j < log.length → 0 ≤ hiTo xs log j ∧ hiTo xs log j ≤ 1000000100000
  | 0, _ => by simp [hiTo]
  | j + 1, hj => by
    have ih := hiTo_bd h j (by omega)
    have hc := (ceil_bd (tgap_bd log j (okL_parts h).1) (tday_bd (okL_two h hj))).1
    unfold hiTo
    omega
theorem hiTo_le {xs : List Int} {log : List (Int × Int)} {j : Nat} : ∀ {m : Nat}, j < m → (tgap xs log j + tday log j - 1) / tday log j ≤ hiTo xs log m
  | 0, h => absurd h (by omega)
  | m + 1, h => by
    unfold hiTo
    by_cases e : j = m
    · subst e; omega
    · have := @hiTo_le xs log j m (by omega)
      omega
theorem tight_ok {xs : List Int} {log : List (Int × Int)} (h : okL xs log = true) {j : Nat} (hj : j + 1 < log.length) {H : Int} (hH : H = hiTo xs log (log.length - 1)) : cOk xs (p1 log j) (p2 log j) (p1 log ((j : Int) + 1)) (p2 log ((j : Int) + 1)) 0 H = true := by
  have ht := okL_two h hj
  have hd := tday_bd ht
  have hc := (ceil_bd (tgap_bd log j (okL_parts h).1) hd).2
  have hl := hiTo_le (xs := xs) (log := log) (j := j) (m := log.length - 1) (by omega)
  rw [← hH] at hl
  have hm := Int.mul_le_mul_of_nonneg_right hl (show 0 ≤ tday log j by omega)
  unfold cOk cLow cUp
  rw [decide_eq_true_iff, Int.zero_mul, Int.sub_zero, Int.zero_add]
  unfold tgap at hc hm
  unfold tday at hc hm
  omega
/-- what TightestFlow returns -/
def tfV (xs : List Int) (log : List (Int × Int)) (most : Int) : Int × Int × Int :=
  if okL xs log then if inR most 0 1000000 then if most < hiTo xs log (log.length - 1) then (0, 0, 6) else (loTo xs log (hiTo xs log (log.length - 1)) (log.length - 1), hiTo xs log (log.length - 1), 0) else (0, 0, 2) else (0, 0, 1)
theorem tfV_1 {xs : List Int} {log : List (Int × Int)} {m : Int} (h : okL xs log = false) : tfV xs log m = (0, 0, 1) := by unfold tfV; rw [h]; rfl
theorem tfV_2 {xs : List Int} {log : List (Int × Int)} {m : Int} (h : okL xs log = true) (g : inR m 0 1000000 = false) : tfV xs log m = (0, 0, 2) := by unfold tfV; rw [h, g]; rfl
theorem tfV_3 {xs : List Int} {log : List (Int × Int)} {m : Int} (h : okL xs log = true) (g : inR m 0 1000000 = true) (k : m < hiTo xs log (log.length - 1)) : tfV xs log m = (0, 0, 6) := by unfold tfV; rw [h, g, if_pos k]; rfl
theorem tfV_4 {xs : List Int} {log : List (Int × Int)} {m : Int} (h : okL xs log = true) (g : inR m 0 1000000 = true) (k : ¬ m < hiTo xs log (log.length - 1)) : tfV xs log m = (loTo xs log (hiTo xs log (log.length - 1)) (log.length - 1), hiTo xs log (log.length - 1), 0) := by unfold tfV; rw [h, g, if_neg k]; rfl
theorem loTo_bd {xs : List Int} {log : List (Int × Int)} {H : Int} (h : okL xs log = true) (hH : H = hiTo xs log (log.length - 1)) (h1 : 0 ≤ H ∧ H ≤ 1000000) : ∀ j : Nat, j < log.length → 0 ≤ loTo xs log H j ∧ loTo xs log H j ≤ 1000000
  | 0, _ => by simpa [loTo] using h1
  | j + 1, hj => by
    have ih := loTo_bd h hH h1 j (by omega)
    have ht := okL_two h hj
    have hF := ht.fine (okL_parts h).1 (fl := 0) (fh := H) ⟨by omega, by omega, by omega⟩
    have h2 := hF.high (tight_ok h hj hH)
    have h3 : 0 ≤ cLow xs (p1 log j) (p2 log j) (p1 log ((j : Int) + 1)) (p2 log ((j : Int) + 1)) 0 := by have := hF.cs.1.1; unfold cLow; omega
    have hd := tday_bd ht
    have h4 := Int.ediv_nonneg (show 0 ≤ cHigh xs (p1 log j) (p2 log j) (p1 log ((j : Int) + 1)) (p2 log ((j : Int) + 1)) H by omega) (show 0 ≤ tday log j by omega)
    unfold loTo
    omega
end Go.Proofs.Ytinjlofefmjolaa.X
