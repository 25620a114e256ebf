/- What the laws draw from their bytes. Conditions: none. -/
import Derived.Test.YtinjlofefmjolaaKBase
namespace Go.Proofs.Ytinjlofefmjolaa.X
open Go.RowKit
set_option linter.unusedVariables false
set_option linter.unusedSimpArgs false
set_option maxRecDepth 100000
theorem a2Long_ok {A A' : Option Addr} (n m c c' : Nat) (hn : n ≤ 3000) (hm : m ≤ 3000) (w : World) : Calls Try.prog 24 #[.slice A n c, .slice A' m c'] w fun e w' => e = .returned (.bool false) ∧ w = w' := by
  have g0 : ¬ (3000 : Int) < (n : Int) := by omega
  have g1 : ¬ (3000 : Int) < (m : Int) := by omega
  have g2 : ¬ 3000 < n := by omega
  have g3 : ¬ 3000 < m := by omega
  go_enter Try.func24, Try.ntmps24
  go_wp2
  go_ret
  exact ⟨rfl, rfl⟩
theorem a2Long_big {A A' : Option Addr} (n m c c' : Nat) (h : ¬ (n ≤ 3000 ∧ m ≤ 3000)) (w : World) : Calls Try.prog 24 #[.slice A n c, .slice A' m c'] w fun e w' => e = .returned (.bool true) ∧ w = w' := by
  by_cases hn : 3000 < n
  · have g0 : (3000 : Int) < (n : Int) := by omega
    clear h
    go_enter Try.func24, Try.ntmps24
    go_wp2
    go_ret
    exact ⟨rfl, rfl⟩
  · have g1 : (3000 : Int) < (m : Int) := by omega
    have g3 : 3000 < m := by omega
    have g0 : ¬ (3000 : Int) < (n : Int) := by omega
    clear h
    go_enter Try.func24, Try.ntmps24
    go_wp2
    go_ret
    exact ⟨rfl, rfl⟩
/-- a number below n that a byte says -/
def at2 (xs : List Int) (i n : Int) : Int := if i < (xs.length : Int) then el xs i % n else 0
theorem at2_bd (xs : List Int) (i n : Int) (hn : 1 ≤ n) : 0 ≤ at2 xs i n ∧ at2 xs i n < n := by
  unfold at2
  split
  · exact ⟨Int.emod_nonneg _ (by omega), Int.emod_lt_of_pos _ (by omega)⟩
  · omega
set_option maxHeartbeats 1000000 in
theorem a2At_any {A : Option Addr} {xs : List Int} {W : World} {B : Nat} (hs : Nums .u8 W B A xs) (h8 : b8 xs) (n c : Nat) (hn : xs.length = n) (w : World) (hb : Below B W w) (i k : Int) (hi : 0 ≤ i ∧ i ≤ 1000000000) (hk : 1 ≤ k ∧ k ≤ 1000000000) : Calls Try.prog 29 #[.slice A n c, .int .i64 i, .int .i64 k] w fun e w' => e = .returned (.int .i64 (at2 xs i k)) ∧ w = w' := by
  obtain rfl := hn
  obtain ⟨h0, h1⟩ := hi
  obtain ⟨h2, h3⟩ := hk
  obtain ⟨j, rfl⟩ := Int.eq_ofNat_of_zero_le h0
  by_cases hlt : j < xs.length
  · have HR : Hid (at2 xs (j : Int) k = el xs (j : Int) % k) := by unfold Hid at2; rw [if_pos (by omega)]
    obtain ⟨b, off, rfl, hbs, hc⟩ := hs.at hb hlt
    have hb8 := h8 (j : Int)
    have g0 : (j : Int) < (xs.length : Int) := by omega
    have g1 : ¬ (xs.length : Int) ≤ (j : Int) := by omega
    have g2 : ¬ k < 1 := by omega
    have e1 : (el xs (j : Int)).tmod k = el xs (j : Int) % k := Int.tmod_eq_emod_of_nonneg hb8.1
    have e2 : IntKind.i64.wrap (el xs (j : Int)) = el xs (j : Int) := IntWalk.i64_in _ ⟨by omega, by omega⟩
    have e3 : IntKind.i64.wrap (el xs (j : Int) % k) = el xs (j : Int) % k := IntWalk.i64_in _ ⟨by have := Int.emod_nonneg (el xs (j : Int)) (show k ≠ 0 by omega); omega, by have := Int.emod_lt_of_pos (el xs (j : Int)) (show 0 < k by omega); omega⟩
    have g3 : ¬ k = 0 := by omega
    have g4 : (k == 0) = false := beq_eq_false_iff_ne.2 g3
    go_enter Try.func29, Try.ntmps29
    go_wp2
    go_ret
    exact ⟨by rw [HR.out]; rfl, rfl⟩
  · have HR : Hid (at2 xs (j : Int) k = 0) := by unfold Hid at2; rw [if_neg (by omega)]
    have g1 : (xs.length : Int) ≤ (j : Int) := by omega
    have g2 : xs.length ≤ j := by omega
    go_enter Try.func29, Try.ntmps29
    go_wp2
    go_ret
    exact ⟨by rw [HR.out]; rfl, rfl⟩
end Go.Proofs.Ytinjlofefmjolaa.X
