import Derived.Test.YtaahfebnbholmaaTotalsOn
namespace Go.Proofs.Ytaahfebnbholmaa.X
open Go.RowKit
set_option linter.unusedVariables false
set_option linter.unusedSimpArgs false
set_option maxHeartbeats 8000000 in
set_option maxRecDepth 100000 in
theorem implValidTotals_any (A : Option Addr) (xs : List (Int × Int)) (n c b1 : Nat) (w : World) (hn : xs.length = n) (hm : n ≤ maxLen) (hb1 : b1 ≤ w.heap.size) (hs : SL w b1 2 e2 A xs) :
    Calls Try.prog 33 #[.slice A n c] w fun e w' => e = .returned (.bool (vtB xs)) ∧ Below w.heap.size w w' := by
  obtain rfl := hn
  unfold maxLen at hm
  by_cases hl : xs.length ≤ 60
  · have hb6 : decide ((60 : Int) < (xs.length : Int)) = false := decide_eq_false (by omega)
    go_enter Try.func33, Try.ntmps33
    go_wp2
    go_loopw [10] (fun i wr => ∃ k : Nat, k ≤ xs.length ∧ i = .int .i64 k ∧ (∀ j : Nat, j < k → okAt xs j) ∧ Below w.heap.size w wr) (fun i _ => xs.length - (intOf i).toNat)
    case atStart => exact ⟨0, Nat.zero_le _, rfl, fun j h => absurd h (by omega), Below.refl _ _⟩
    case round =>
      obtain ⟨k, hk, rfl, hall, hbw0⟩ := hrel
      obtain ⟨os, dn, rfl⟩ := more_of hbw0
      clear hbw0
      have HA := Lib.hid hall
      clear hall
      by_cases hlt : k < xs.length
      · obtain ⟨b, off, rfl, hb, hc0, hc1⟩ := hs.atT hlt
        have hbw : b < w.heap.size := by omega
        have hbm : b < w.heap.size + os.size := by omega
        have g0 : (0 : Int) ≤ (k : Int) := by omega
        have g1 : (k : Int) < (xs.length : Int) := by omega
        by_cases c1 : 0 ≤ tD xs k ∧ tD xs k ≤ 100000
        · by_cases c2 : 0 ≤ tC xs k ∧ tC xs k ≤ 1000000000000
          · by_cases c3 : 0 < k
            · obtain ⟨b', off', he, hb', hd0, hd1⟩ := hs.atT (k := k - 1) (by omega)
              injection he with he
              injection he with hb2 ho2
              subst hb2 ho2
              have ek : ((k - 1 : Nat) : Int) = (k : Int) - 1 := by omega
              rw [ek] at hd0 hd1
              have g2 : (0 : Int) ≤ (k : Int) - 1 := by omega
              have g3 : (k : Int) - 1 < (xs.length : Int) := by omega
              have g4 : ((k : Int) - 1).toNat = k - 1 := by omega
              have g5 : (0 : Int) < (k : Int) := by omega
              have g6 : decide ((0 : Int) < (k : Int)) = true := decide_eq_true g5
              clear ek
              have g9 : (1 : Int) ≤ (k : Int) := by omega
              by_cases c4 : tD xs k ≤ tD xs ((k : Int) - 1)
              · have g7 : decide (tD xs k ≤ tD xs ((k : Int) - 1)) = true := decide_eq_true c4
                go_wp2
                go_quiet ((first | (with_reducible exact quietW (within_t _ _ 100000 _ c1)) | (with_reducible exact quietW (within_t _ _ 1000000000000 _ c2))))
                go_wp2
                go_ret
                exact ⟨by rw [vtB_no hlt (fun h => by have := (h.2.2 g5).1; omega)]; rfl, (by repeat' (first | (with_reducible first | assumption | exact Below.refl _ _ | refine Below.trans ?_ (below_more _ _ _ ?_) | refine Below.alloc ?_ ?_ _ | refine Below.setCell ?_ ?_ _ | refine Below.drew ?_ | refine below_dnB ?_ _ | exact Nat.le_refl _) | (simp; done) | (simp; omega) | omega))⟩
              · have g7 : decide (tD xs k ≤ tD xs ((k : Int) - 1)) = false := decide_eq_false c4
                by_cases c5 : tC xs k < tC xs ((k : Int) - 1)
                · have g8 : decide (tC xs k < tC xs ((k : Int) - 1)) = true := decide_eq_true c5
                  go_wp2
                  go_quiet ((first | (with_reducible exact quietW (within_t _ _ 100000 _ c1)) | (with_reducible exact quietW (within_t _ _ 1000000000000 _ c2))))
                  go_wp2
                  go_ret
                  exact ⟨by rw [vtB_no hlt (fun h => by have := (h.2.2 g5).2; omega)]; rfl, (by repeat' (first | (with_reducible first | assumption | exact Below.refl _ _ | refine Below.trans ?_ (below_more _ _ _ ?_) | refine Below.alloc ?_ ?_ _ | refine Below.setCell ?_ ?_ _ | refine Below.drew ?_ | refine below_dnB ?_ _ | exact Nat.le_refl _) | (simp; done) | (simp; omega) | omega))⟩
                · have g8 : decide (tC xs k < tC xs ((k : Int) - 1)) = false := decide_eq_false c5
                  go_wp2
                  go_quiet ((first | (with_reducible exact quietW (within_t _ _ 100000 _ c1)) | (with_reducible exact quietW (within_t _ _ 1000000000000 _ c2))))
                  go_wp2
                  exact ⟨⟨k + 1, by omega, by go_num, okStep HA.out ⟨c1, c2, fun _ => ⟨by omega, by omega⟩⟩, (by repeat' (first | (with_reducible first | assumption | exact Below.refl _ _ | refine Below.trans ?_ (below_more _ _ _ ?_) | refine Below.alloc ?_ ?_ _ | refine Below.setCell ?_ ?_ _ | refine Below.drew ?_ | refine below_dnB ?_ _ | exact Nat.le_refl _) | (simp; done) | (simp; omega) | omega))⟩, by simp [intOf]; omega⟩
            · have g6 : decide ((0 : Int) < (k : Int)) = false := decide_eq_false (by omega)
              go_wp2
              go_quiet ((first | (with_reducible exact quietW (within_t _ _ 100000 _ c1)) | (with_reducible exact quietW (within_t _ _ 1000000000000 _ c2))))
              go_wp2
              exact ⟨⟨k + 1, by omega, by go_num, okStep HA.out ⟨c1, c2, fun h => absurd h (by omega)⟩, (by repeat' (first | (with_reducible first | assumption | exact Below.refl _ _ | refine Below.trans ?_ (below_more _ _ _ ?_) | refine Below.alloc ?_ ?_ _ | refine Below.setCell ?_ ?_ _ | refine Below.drew ?_ | refine below_dnB ?_ _ | exact Nat.le_refl _) | (simp; done) | (simp; omega) | omega))⟩, by simp [intOf]; omega⟩
          · have HC := Lib.hid c2
            clear c2
            go_wp2
            go_quiet ((first | (with_reducible exact quietW (within_t _ _ 100000 _ c1)) | (with_reducible exact quietW (within_f _ _ 1000000000000 _ HC.out))))
            go_wp2
            go_ret
            exact ⟨by rw [vtB_no hlt (fun h => HC.out h.2.1)]; rfl, (by repeat' (first | (with_reducible first | assumption | exact Below.refl _ _ | refine Below.trans ?_ (below_more _ _ _ ?_) | refine Below.alloc ?_ ?_ _ | refine Below.setCell ?_ ?_ _ | refine Below.drew ?_ | refine below_dnB ?_ _ | exact Nat.le_refl _) | (simp; done) | (simp; omega) | omega))⟩
        · have HC := Lib.hid c1
          clear c1
          go_wp2
          go_quiet ((first | (with_reducible exact quietW (within_f _ _ 100000 _ HC.out))))
          go_wp2
          go_ret
          exact ⟨by rw [vtB_no hlt (fun h => HC.out h.1)]; rfl, (by repeat' (first | (with_reducible first | assumption | exact Below.refl _ _ | refine Below.trans ?_ (below_more _ _ _ ?_) | refine Below.alloc ?_ ?_ _ | refine Below.setCell ?_ ?_ _ | refine Below.drew ?_ | refine below_dnB ?_ _ | exact Nat.le_refl _) | (simp; done) | (simp; omega) | omega))⟩
      · go_wp2
        go_ret
        exact ⟨by rw [vtB_yes hl (fun j hj => HA.out j (by omega))]; rfl, below_more _ _ _ (Nat.le_refl _)⟩
  · go_enter Try.func33, Try.ntmps33
    go_wp2
    go_ret
    exact ⟨by rw [vtB_long (by omega)]; rfl, Below.refl _ _⟩
end Go.Proofs.Ytaahfebnbholmaa.X
