/- CountsByDay, both answers. Conditions: none. -/
import Derived.Test.YtbihgnmiocfelaaKTot2
import Derived.Test.YtbihgnmiocfelaaKTail
namespace Go.Proofs.Ytbihgnmiocfelaa.X
open Go.RowKit
set_option linter.unusedVariables false
set_option linter.unusedSimpArgs false
set_option maxRecDepth 100000
theorem onV_bd {xs : List (Int × Int)} {d : Int} (hv : vt xs) (hc : Cov xs d) : 0 ≤ onV xs d ∧ onV xs d ≤ 200000000000000000 := by
  by_cases h : ∃ m, LastAt xs d m
  · obtain ⟨m, hm⟩ := h
    rw [onV_eq hm]
    obtain ⟨h1, h2, h3⟩ := hm
    have c1 := vt_cnt hv m h1
    unfold valD
    split
    · omega
    · rename_i hne
      by_cases hl : m + 1 < xs.length
      · have c2 := vt_cnt hv (m + 1) hl
        have c3 := vt_cstep hv m hl
        have d1 := vt_day hv m h1
        have d2 := vt_day hv (m + 1) hl
        have d3 := h3 (m + 1) (by omega) hl
        rw [show ((m + 1 : Nat) : Int) = (m : Int) + 1 by omega] at c2 d2 d3
        have p := prod_bound (a := tC xs ((m : Int) + 1) - tC xs m) (b := d - tD xs m) ⟨by omega, by omega⟩ ⟨by omega, by omega⟩
        have q := div_bound (b := tD xs ((m : Int) + 1) - tD xs m) p (by omega)
        omega
      · have e : (m : Int) = (xs.length : Int) - 1 := by omega
        have := hc.2.2
        rw [← e] at this
        omega
  · have : onV xs d = 0 := by unfold onV; rw [dif_neg h]
    omega
/-- what is counted at the j-th day -/
noncomputable def dyF (xs : List (Int × Int)) (j : Nat) : Int := onV xs (tD xs 0 + j + 1) - onV xs (tD xs 0 + j)
noncomputable def dyL (xs : List (Int × Int)) : Nat → List Int
  | 0 => []
  | k + 1 => dyL xs k ++ [dyF xs k]
theorem dyL_len (xs : List (Int × Int)) : ∀ k, (dyL xs k).length = k
  | 0 => rfl
  | k + 1 => by
    show (dyL xs k ++ [dyF xs k]).length = k + 1
    rw [List.length_append, dyL_len xs k]; rfl
theorem dyL_up (xs : List (Int × Int)) (k : Nat) : dyL xs (k + 1) = dyL xs k ++ [dyF xs k] := rfl
def dyN (xs : List (Int × Int)) : Int := tD xs ((xs.length : Int) - 1) - tD xs 0
noncomputable def cdC (xs : List (Int × Int)) : Int := if vtB xs then if xs.length = 0 then 6 else if 400 < dyN xs then 3 else 0 else 1
noncomputable def cdL (xs : List (Int × Int)) : List Int := if cdC xs = 0 then dyL xs (dyN xs).toNat else []
theorem cdC_1 {xs : List (Int × Int)} (h : vtB xs = false) : cdC xs = 1 := by unfold cdC; rw [h]; rfl
theorem cdC_6 {xs : List (Int × Int)} (h : vtB xs = true) (g : xs.length = 0) : cdC xs = 6 := by unfold cdC; rw [h, if_pos rfl, if_pos g]
theorem cdC_3 {xs : List (Int × Int)} (h : vtB xs = true) (g : ¬ xs.length = 0) (l : 400 < dyN xs) : cdC xs = 3 := by unfold cdC; rw [h, if_pos rfl, if_neg g, if_pos l]
theorem cdC_0 {xs : List (Int × Int)} (h : vtB xs = true) (g : ¬ xs.length = 0) (l : ¬ 400 < dyN xs) : cdC xs = 0 := by unfold cdC; rw [h, if_pos rfl, if_neg g, if_neg l]
theorem cdL_no {xs : List (Int × Int)} (h : ¬ cdC xs = 0) : cdL xs = [] := by unfold cdL; rw [if_neg h]
theorem cdL_0 {xs : List (Int × Int)} (h : cdC xs = 0) : cdL xs = dyL xs (dyN xs).toNat := by unfold cdL; rw [if_pos h]
theorem cdL_len (xs : List (Int × Int)) : (cdL xs).length ≤ 1048576 := by
  by_cases h : cdC xs = 0
  · rw [cdL_0 h, dyL_len]
    cases h1 : vtB xs
    · rw [cdC_1 h1] at h; omega
    · by_cases h2 : xs.length = 0
      · rw [cdC_6 h1 h2] at h; omega
      · by_cases h3 : 400 < dyN xs
        · rw [cdC_3 h1 h2 h3] at h; omega
        · omega
  · rw [cdL_no h]; exact Nat.zero_le _
theorem tot_sl {L : Option Addr} {xs : List (Int × Int)} {V w : World} {C : Nat} (hl : Prs .i64 .i64 V C L xs) (hv : Below C V w) : SL w C 2 e2 L xs := hl.sl.keep hv (Nat.le_refl _) (Nat.le_refl _)
/-- the days that are asked for are told -/
theorem cov_at {xs : List (Int × Int)} (h0 : ¬ xs.length = 0) {k : Nat} (hk : (k : Int) ≤ dyN xs) : Cov xs (tD xs 0 + k) := by
  unfold dyN at hk
  exact ⟨by omega, by omega, by omega⟩
theorem day_bd {xs : List (Int × Int)} (hv : vt xs) (h0 : ¬ xs.length = 0) : (0 ≤ tD xs 0 ∧ tD xs 0 ≤ 100000) ∧ 0 ≤ tD xs ((xs.length : Int) - 1) ∧ tD xs ((xs.length : Int) - 1) ≤ 100000 := by
  have a := vt_day hv 0 (by omega)
  have b := vt_day hv (xs.length - 1) (by omega)
  rw [show ((xs.length - 1 : Nat) : Int) = (xs.length : Int) - 1 by omega] at b
  exact ⟨a, b⟩
end Go.Proofs.Ytbihgnmiocfelaa.X
