/- Counts on wheels: places, wheels that are asked, values that are counted. Conditions: none. -/
import Derived.Test.YtinjlofefmjolaaKCntL
namespace Go.Proofs.Ytinjlofefmjolaa.X
open Go.RowKit
set_option linter.unusedVariables false
set_option linter.unusedSimpArgs false
set_option maxRecDepth 100000
theorem el_take {xs : List Int} {k j : Nat} (h : j < k) : el (xs.take k) (j : Int) = el xs (j : Int) := by
  unfold el
  rw [Int.toNat_natCast, List.getD_eq_getElem?_getD, List.getD_eq_getElem?_getD, List.getElem?_take, if_pos h]
theorem size_takeQ {xs : List Int} (k : Nat) : ∀ {j : Nat}, j ≤ k → sizeTo (xs.take k) j = sizeTo xs j
  | 0, _ => rfl
  | j + 1, h => by
    unfold sizeTo
    rw [size_takeQ k (j := j) (by omega), el_take (by omega)]
theorem b8_take {xs : List Int} (h : b8 xs) (k : Nat) : b8 (xs.take k) := by
  intro i
  unfold el
  rw [List.getD_eq_getElem?_getD, List.getElem?_take]
  split
  · have := h i
    unfold el at this
    rw [List.getD_eq_getElem?_getD] at this
    exact this
  · decide
theorem place_bd {xs : List Int} (h : okS xs = true) {k : Nat} (hk : k < xs.length) : (1 ≤ pr xs k ∧ pr xs k ≤ 1000000000000) ∧ (2 ≤ el xs (k : Int) ∧ el xs (k : Int) ≤ 100) ∧ 1 ≤ pr xs k * el xs (k : Int) ∧ pr xs k * el xs (k : Int) ≤ 1000000000000 := by
  have a := pr_pos h (k := k) (by omega)
  have b := (size_eq h (k := k) (by omega)).2
  have c := okS_el h hk
  have d := pr_pos h (k := k + 1) (by omega)
  have e := (size_eq h (k := k + 1) (by omega)).2
  exact ⟨⟨a, b⟩, c, d, e⟩
theorem mul_bdC {a b X Y : Int} (h0 : 0 ≤ a) (h1 : a ≤ X) (h2 : 0 ≤ b) (h3 : b ≤ Y) : 0 ≤ a * b ∧ a * b ≤ X * Y := ⟨Int.mul_nonneg h0 h2, Int.mul_le_mul h1 h3 h2 (Int.le_trans h0 h1)⟩
theorem cntB_bd {p s v d : Int} (hp : 1 ≤ p ∧ p ≤ 1000000000000) (hs : 1 ≤ s) (hv : 0 ≤ v ∧ v ≤ 1000000000000) : 0 ≤ cntB p s v d ∧ cntB p s v d ≤ 4000000000000 := by
  have hq := Int.mul_le_mul_of_nonneg_left hs (show 0 ≤ p by omega)
  have v0 := Int.ediv_nonneg hv.1 (show 0 ≤ p * s by omega)
  have h1 := Int.mul_ediv_add_emod v (p * s)
  have m0 := Int.emod_nonneg v (show p * s ≠ 0 by omega)
  have h2 := Int.mul_le_mul_of_nonneg_left (show p ≤ p * s by omega) v0
  have h3 := Int.mul_nonneg v0 (show 0 ≤ p by omega)
  rw [Int.mul_comm (p * s)] at h1
  unfold cntB
  omega
/-- a wheel of a stack that is at hand -/
theorem inWheel {L k : Nat} (h : k < L) : inR (k : Int) 0 ((L : Int) - 1) = true := inR_t.2 ⟨by omega, by omega⟩
theorem inDigit {d s : Int} (h : 0 ≤ d ∧ d < s) : inR d 0 (s - 1) = true := inR_t.2 ⟨by omega, by omega⟩
theorem hasWheelC {A : Option Addr} {k n : Nat} (c : Nat) (h : k < n) (hn : n ≤ 1048576) (w : World) : Calls Try.prog 72 #[.slice A n c, .int .i64 (k : Int)] w fun e w' => e = .returned (.bool true) ∧ w = w' := by
  have H := Lib.hid (inWheel h)
  go_enter Try.func72, Try.ntmps72
  (go_wp2_with fail; refine (wheels_any _ _ _ _ hn).mono ?_; rintro e w' ⟨rfl, rfl⟩)
  (go_wp2_with fail; refine (within_ok _ _ _ _).mono ?_; rintro e w' ⟨rfl, rfl⟩; rw [H.out])
  go_wp2
  go_ret
  exact ⟨rfl, rfl⟩
/-- digits of a value, as an argument -/
theorem valid_dg {xs : List Int} (h : okS xs = true) (v : Int) : (∀ i : Nat, i < xs.length → dg xs v i < el xs i) := fun i hi => (dg_bdC h v hi).2
def wayB (z v u : Int) : Int := if wayU z v u = 0 then 0 else wayU z v u - z
end Go.Proofs.Ytinjlofefmjolaa.X
