/- Totals: which are valid, and what has been counted at a day. Conditions: none. -/
import Derived.Test.YtbihgnmiocfelaaKPortion
import Derived.Test.YtbihgnmiocfelaaKPLaws
namespace Go.Proofs.Ytbihgnmiocfelaa.X
open Go.RowKit
set_option linter.unusedVariables false
set_option linter.unusedSimpArgs false
set_option maxRecDepth 100000
abbrev e2 : Int × Int → List Value := fun x => [.int .i64 x.1, .int .i64 x.2]
theorem SL.at2 {α : Type} {w : World} {B : Nat} {e0 e1 : α → Value} {A : Option Addr} {xs : List α} (h : SL w B 2 (fun x => [e0 x, e1 x]) A xs) {k : Nat} (hk : k < xs.length) :
    ∃ b off, A = some ⟨b, off, none⟩ ∧ b < B ∧ w.cell? ⟨b, off + k * 2, none⟩ = some (e0 xs[k]) ∧ w.cell? ⟨b, off + k * 2 + 1, none⟩ = some (e1 xs[k]) := by
  obtain ⟨b, off, e, hlt, hc⟩ := h (by omega)
  refine ⟨b, off, e, hlt, ?_, ?_⟩
  · have := hc k xs[k] (List.getElem?_eq_getElem hk) 0 (e0 xs[k]) rfl
    simpa using this
  · exact hc k xs[k] (List.getElem?_eq_getElem hk) 1 (e1 xs[k]) rfl

def tD (xs : List (Int × Int)) (i : Int) : Int := (xs.getD i.toNat (0, 0)).1
def tC (xs : List (Int × Int)) (i : Int) : Int := (xs.getD i.toNat (0, 0)).2
theorem SL.atT {w : World} {B : Nat} {A : Option Addr} {xs : List (Int × Int)} (h : SL w B 2 e2 A xs) {k : Nat} (hk : k < xs.length) :
    ∃ b off, A = some ⟨b, off, none⟩ ∧ b < B ∧ w.cell? ⟨b, off + k * 2, none⟩ = some (.int .i64 (tD xs k)) ∧ w.cell? ⟨b, off + k * 2 + 1, none⟩ = some (.int .i64 (tC xs k)) := by
  obtain ⟨b, off, e, hb, h0, h1⟩ := h.at2 hk
  have e0 : xs.getD (k : Int).toNat (0, 0) = xs[k] := by simp [List.getD_eq_getElem?_getD, hk]
  exact ⟨b, off, e, hb, by rw [h0]; unfold tD; rw [e0], by rw [h1]; unfold tC; rw [e0]⟩
/-- element i is right, behind the one before -/
def okAt (xs : List (Int × Int)) (i : Int) : Prop := (0 ≤ tD xs i ∧ tD xs i ≤ 100000) ∧ (0 ≤ tC xs i ∧ tC xs i ≤ 1000000000000) ∧ (0 < i → tD xs (i - 1) < tD xs i ∧ tC xs (i - 1) ≤ tC xs i)
def vt (xs : List (Int × Int)) : Prop := xs.length ≤ 60 ∧ ∀ j : Int, 0 ≤ j → j < xs.length → okAt xs j
theorem okStep {xs : List (Int × Int)} {k : Nat} (h : ∀ j : Nat, j < k → okAt xs j) (hk : okAt xs k) : ∀ j : Nat, j < k + 1 → okAt xs j := fun j hj => by
  by_cases e : j = k
  · rw [e]; exact hk
  · exact h j (by omega)
section
open Classical
noncomputable def vtB (xs : List (Int × Int)) : Bool := decide (vt xs)
theorem vtB_no {xs : List (Int × Int)} {k : Nat} (hk : k < xs.length) (h : ¬ okAt xs k) : vtB xs = false := decide_eq_false fun H => h (H.2 k (by omega) (by omega))
theorem vtB_long {xs : List (Int × Int)} (h : 60 < xs.length) : vtB xs = false := decide_eq_false fun H => by have := H.1; omega
theorem vtB_yes {xs : List (Int × Int)} (hl : xs.length ≤ 60) (h : ∀ j : Nat, j < xs.length → okAt xs j) : vtB xs = true :=
  decide_eq_true ⟨hl, fun j h0 h1 => by have := h j.toNat (by omega); rwa [Int.toNat_of_nonneg h0] at this⟩
theorem vtB_iff (xs : List (Int × Int)) : vtB xs = true ↔ vt xs := decide_eq_true_iff
end
theorem l06Positive_b (n : Int) (w : World) : Calls Try.prog 257 #[.int .i64 n] w fun e w' => e = .returned (.bool (decide (0 ≤ n) && decide (n ≤ 1000000000000))) ∧ w = w' := by
  go_enter Try.func257, Try.ntmps257
  go_wp2_with (go_at_call 119; refine (l00In_b _ _ _ _).mono ?_; rintro e w' ⟨rfl, rfl⟩)
  go_ret
  exact ⟨rfl, rfl⟩
theorem l06Positive_t (n : Int) (w : World) (h : 0 ≤ n ∧ n ≤ 1000000000000) : Calls Try.prog 257 #[.int .i64 n] w fun e w' => e = .returned (.bool true) ∧ w = w' := by
  have := l06Positive_b n w
  rwa [decide_eq_true h.1, decide_eq_true h.2] at this
theorem l06Positive_f (n : Int) (w : World) (h : ¬ (0 ≤ n ∧ n ≤ 1000000000000)) : Calls Try.prog 257 #[.int .i64 n] w fun e w' => e = .returned (.bool false) ∧ w = w' := by
  have := l06Positive_b n w
  rwa [show (decide (0 ≤ n) && decide (n ≤ 1000000000000)) = false by rw [Bool.and_eq_false_iff]; simp only [decide_eq_false_iff_not]; omega] at this
set_option maxHeartbeats 4000000 in
set_option maxRecDepth 100000 in
theorem l06Totals_any (A : Option Addr) (xs : List (Int × Int)) (n c b1 : Nat) (w : World) (hn : xs.length = n) (hm : n ≤ maxLen) (hb1 : b1 ≤ w.heap.size) (hs : SL w b1 2 e2 A xs) :
    Calls Try.prog 243 #[.slice A n c] w fun e w' => e = .returned (.bool (vtB xs)) ∧ Below w.heap.size w w' := by
  obtain rfl := hn
  unfold maxLen at hm
  by_cases hl : xs.length ≤ 60
  · have hb6 : decide ((60 : Int) < (xs.length : Int)) = false := decide_eq_false (by omega)
    go_enter Try.func243, Try.ntmps243
    go_wp2
    go_loopw [3] (fun i wr => ∃ (k : Nat) (os : Array Obj) (dn : Nat), k ≤ xs.length ∧ i = .int .i64 k ∧ (∀ j : Nat, j < k → okAt xs j) ∧ wr = mo w os dn) (fun i _ => xs.length - (intOf i).toNat)
    case atStart => exact ⟨0, #[], _, Nat.zero_le _, rfl, fun j h => absurd h (by omega), (mo_nil _).symm⟩
    case round =>
      obtain ⟨k, os, dn, hk, rfl, hall, rfl⟩ := hrel
      have HA := Lib.hid hall
      clear hall
      by_cases hlt : k < xs.length
      · obtain ⟨b, off, rfl, hb, hc0, hc1⟩ := hs.atT hlt
        have hbw : b < w.heap.size := by omega
        have g0 : (0 : Int) ≤ (k : Int) := by omega
        have g1 : (k : Int) < (xs.length : Int) := by omega
        by_cases c1 : 0 ≤ tD xs k ∧ tD xs k ≤ 100000
        · by_cases c2 : 0 ≤ tC xs k ∧ tC xs k ≤ 1000000000000
          · by_cases c3 : 0 < k
            · obtain ⟨b', off', he, hb', hd0, hd1⟩ := hs.atT (k := k - 1) (by omega)
              injection he with he
              injection he with hb2 ho2
              subst hb2 ho2
              have ek : ((k - 1 : Nat) : Int) = (k : Int) - 1 := by omega
              rw [ek] at hd0 hd1
              have g2 : (0 : Int) ≤ (k : Int) - 1 := by omega
              have g3 : (k : Int) - 1 < (xs.length : Int) := by omega
              have g4 : ((k : Int) - 1).toNat = k - 1 := by omega
              have g5 : (0 : Int) < (k : Int) := by omega
              have g6 : decide ((0 : Int) < (k : Int)) = true := decide_eq_true g5
              clear ek
              by_cases c4 : tD xs k ≤ tD xs ((k : Int) - 1)
              · have g7 : decide (tD xs k ≤ tD xs ((k : Int) - 1)) = true := decide_eq_true c4
                go_wp2_with (first
                  | (go_at_call 119; refine (l00In_t _ _ _ _ c1).mono ?_; rintro e w' ⟨rfl, rfl⟩)
                  | (go_at_call 257; refine (l06Positive_t _ _ c2).mono ?_; rintro e w' ⟨rfl, rfl⟩))
                go_quiet (fail)
                go_wp2
                go_ret
                exact ⟨by rw [vtB_no hlt (fun h => by have := (h.2.2 g5).1; omega)]; rfl, (by repeat' (first | (with_reducible first | assumption | exact Below.refl _ _ | refine Below.drew ?_ | refine Below.alloc ?_ ?_ _ | refine Below.setCell ?_ ?_ _ | refine below_setR ?_ ?_ _ | refine below_dn ?_ _ | refine Below.trans ?_ (below_mo _ _ _ ?_) | refine Below.trans ?_ (below_mq _ _ ?_) | exact Nat.le_refl _) | (simp; done) | (simp; omega) | omega))⟩
              · have g7 : decide (tD xs k ≤ tD xs ((k : Int) - 1)) = false := decide_eq_false c4
                go_wp2_with (first
                  | (go_at_call 119; refine (l00In_t _ _ _ _ c1).mono ?_; rintro e w' ⟨rfl, rfl⟩)
                  | (go_at_call 257; refine (l06Positive_t _ _ c2).mono ?_; rintro e w' ⟨rfl, rfl⟩))
                by_cases c5 : tC xs k < tC xs ((k : Int) - 1)
                · go_quiet (fail)
                  go_wp2
                  go_ret
                  exact ⟨by rw [vtB_no hlt (fun h => by have := (h.2.2 g5).2; omega)]; rfl, (by repeat' (first | (with_reducible first | assumption | exact Below.refl _ _ | refine Below.drew ?_ | refine Below.alloc ?_ ?_ _ | refine Below.setCell ?_ ?_ _ | refine below_setR ?_ ?_ _ | refine below_dn ?_ _ | refine Below.trans ?_ (below_mo _ _ _ ?_) | refine Below.trans ?_ (below_mq _ _ ?_) | exact Nat.le_refl _) | (simp; done) | (simp; omega) | omega))⟩
                · go_quiet (fail)
                  go_wp2
                  exact ⟨⟨k + 1, _, _, by omega, by go_num, okStep HA.out ⟨c1, c2, fun _ => ⟨by omega, by omega⟩⟩, rfl⟩, by simp [intOf]; omega⟩
            · have g6 : decide ((0 : Int) < (k : Int)) = false := decide_eq_false (by omega)
              go_wp2_with (first
                | (go_at_call 119; refine (l00In_t _ _ _ _ c1).mono ?_; rintro e w' ⟨rfl, rfl⟩)
                | (go_at_call 257; refine (l06Positive_t _ _ c2).mono ?_; rintro e w' ⟨rfl, rfl⟩))
              go_quiet (fail)
              go_wp2
              exact ⟨⟨k + 1, _, _, by omega, by go_num, okStep HA.out ⟨c1, c2, fun h => absurd h (by omega)⟩, rfl⟩, by simp [intOf]; omega⟩
          · go_wp2_with (first
              | (go_at_call 119; refine (l00In_t _ _ _ _ c1).mono ?_; rintro e w' ⟨rfl, rfl⟩)
              | (go_at_call 257; refine (l06Positive_f _ _ c2).mono ?_; rintro e w' ⟨rfl, rfl⟩))
            go_ret
            exact ⟨by rw [vtB_no hlt (fun h => c2 h.2.1)]; rfl, (by repeat' (first | (with_reducible first | assumption | exact Below.refl _ _ | refine Below.drew ?_ | refine Below.alloc ?_ ?_ _ | refine Below.setCell ?_ ?_ _ | refine below_setR ?_ ?_ _ | refine below_dn ?_ _ | refine Below.trans ?_ (below_mo _ _ _ ?_) | refine Below.trans ?_ (below_mq _ _ ?_) | exact Nat.le_refl _) | (simp; done) | (simp; omega) | omega))⟩
        · go_wp2_with (go_at_call 119; refine (l00In_f _ _ _ _ c1).mono ?_; rintro e w' ⟨rfl, rfl⟩)
          go_ret
          exact ⟨by rw [vtB_no hlt (fun h => c1 h.1)]; rfl, (by repeat' (first | (with_reducible first | assumption | exact Below.refl _ _ | refine Below.drew ?_ | refine Below.alloc ?_ ?_ _ | refine Below.setCell ?_ ?_ _ | refine below_setR ?_ ?_ _ | refine below_dn ?_ _ | refine Below.trans ?_ (below_mo _ _ _ ?_) | refine Below.trans ?_ (below_mq _ _ ?_) | exact Nat.le_refl _) | (simp; done) | (simp; omega) | omega))⟩
      · go_wp2
        go_ret
        exact ⟨by rw [vtB_yes hl (fun j hj => HA.out j (by omega))]; rfl, (by repeat' (first | (with_reducible first | assumption | exact Below.refl _ _ | refine Below.drew ?_ | refine Below.alloc ?_ ?_ _ | refine Below.setCell ?_ ?_ _ | refine below_setR ?_ ?_ _ | refine below_dn ?_ _ | refine Below.trans ?_ (below_mo _ _ _ ?_) | refine Below.trans ?_ (below_mq _ _ ?_) | exact Nat.le_refl _) | (simp; done) | (simp; omega) | omega))⟩
  · go_enter Try.func243, Try.ntmps243
    go_wp2
    go_ret
    exact ⟨by rw [vtB_long (by omega)]; rfl, Below.refl _ _⟩
set_option maxHeartbeats 8000000 in
set_option maxRecDepth 100000 in
theorem implValidTotals_any (A : Option Addr) (xs : List (Int × Int)) (n c b1 : Nat) (w : World) (hn : xs.length = n) (hm : n ≤ maxLen) (hb1 : b1 ≤ w.heap.size) (hs : SL w b1 2 e2 A xs) :
    Calls Try.prog 246 #[.slice A n c] w fun e w' => e = .returned (.bool (vtB xs)) ∧ Below w.heap.size w w' := by
  obtain rfl := hn
  unfold maxLen at hm
  by_cases hl : xs.length ≤ 60
  · have hb6 : decide ((60 : Int) < (xs.length : Int)) = false := decide_eq_false (by omega)
    go_enter Try.func246, Try.ntmps246
    go_wp2
    go_loopw [10] (fun i wr => ∃ k : Nat, k ≤ xs.length ∧ i = .int .i64 k ∧ (∀ j : Nat, j < k → okAt xs j) ∧ Below w.heap.size w wr) (fun i _ => xs.length - (intOf i).toNat)
    case atStart => exact ⟨0, Nat.zero_le _, rfl, fun j h => absurd h (by omega), Below.refl _ _⟩
    case round =>
      obtain ⟨k, hk, rfl, hall, hbw0⟩ := hrel
      obtain ⟨os, dn, rfl⟩ := mo_of hbw0
      clear hbw0
      have HA := Lib.hid hall
      clear hall
      by_cases hlt : k < xs.length
      · obtain ⟨b, off, rfl, hb, hc0, hc1⟩ := hs.atT hlt
        have hbw : b < w.heap.size := by omega
        have hbm : b < w.heap.size + os.size := by omega
        have g0 : (0 : Int) ≤ (k : Int) := by omega
        have g1 : (k : Int) < (xs.length : Int) := by omega
        by_cases c1 : 0 ≤ tD xs k ∧ tD xs k ≤ 100000
        · by_cases c2 : 0 ≤ tC xs k ∧ tC xs k ≤ 1000000000000
          · by_cases c3 : 0 < k
            · obtain ⟨b', off', he, hb', hd0, hd1⟩ := hs.atT (k := k - 1) (by omega)
              injection he with he
              injection he with hb2 ho2
              subst hb2 ho2
              have ek : ((k - 1 : Nat) : Int) = (k : Int) - 1 := by omega
              rw [ek] at hd0 hd1
              have g2 : (0 : Int) ≤ (k : Int) - 1 := by omega
              have g3 : (k : Int) - 1 < (xs.length : Int) := by omega
              have g4 : ((k : Int) - 1).toNat = k - 1 := by omega
              have g5 : (0 : Int) < (k : Int) := by omega
              have g6 : decide ((0 : Int) < (k : Int)) = true := decide_eq_true g5
              clear ek
              have g9 : (1 : Int) ≤ (k : Int) := by omega
              by_cases c4 : tD xs k ≤ tD xs ((k : Int) - 1)
              · have g7 : decide (tD xs k ≤ tD xs ((k : Int) - 1)) = true := decide_eq_true c4
                go_wp2
                (refine wp_region_mq (by kernel_rfl) (by kernel_rfl) ?_; (repeat (first | go_big_quiet_step ((first | (go_at_call 116; with_reducible exact quietS (within_t _ _ 100000 _ c1) ) | (go_at_call 116; with_reducible exact quietS (within_t _ _ 1000000000000 _ c2) ))) | quiet_step ((first | (go_at_call 116; with_reducible exact quietS (within_t _ _ 100000 _ c1) ) | (go_at_call 116; with_reducible exact quietS (within_t _ _ 1000000000000 _ c2) ))))); refine wpQuiet_nil ?_; intro _ hq_; obtain ⟨q_, rfl⟩ := hq_)
                go_wp2
                go_ret
                exact ⟨by rw [vtB_no hlt (fun h => by have := (h.2.2 g5).1; omega)]; rfl, (by repeat' (first | (with_reducible first | assumption | exact Below.refl _ _ | refine Below.drew ?_ | refine Below.alloc ?_ ?_ _ | refine Below.setCell ?_ ?_ _ | refine below_setR ?_ ?_ _ | refine below_dn ?_ _ | refine Below.trans ?_ (below_mo _ _ _ ?_) | refine Below.trans ?_ (below_mq _ _ ?_) | exact Nat.le_refl _) | (simp; done) | (simp; omega) | omega))⟩
              · have g7 : decide (tD xs k ≤ tD xs ((k : Int) - 1)) = false := decide_eq_false c4
                by_cases c5 : tC xs k < tC xs ((k : Int) - 1)
                · have g8 : decide (tC xs k < tC xs ((k : Int) - 1)) = true := decide_eq_true c5
                  go_wp2
                  (refine wp_region_mq (by kernel_rfl) (by kernel_rfl) ?_; (repeat (first | go_big_quiet_step ((first | (go_at_call 116; with_reducible exact quietS (within_t _ _ 100000 _ c1) ) | (go_at_call 116; with_reducible exact quietS (within_t _ _ 1000000000000 _ c2) ))) | quiet_step ((first | (go_at_call 116; with_reducible exact quietS (within_t _ _ 100000 _ c1) ) | (go_at_call 116; with_reducible exact quietS (within_t _ _ 1000000000000 _ c2) ))))); refine wpQuiet_nil ?_; intro _ hq_; obtain ⟨q_, rfl⟩ := hq_)
                  go_wp2
                  go_ret
                  exact ⟨by rw [vtB_no hlt (fun h => by have := (h.2.2 g5).2; omega)]; rfl, (by repeat' (first | (with_reducible first | assumption | exact Below.refl _ _ | refine Below.drew ?_ | refine Below.alloc ?_ ?_ _ | refine Below.setCell ?_ ?_ _ | refine below_setR ?_ ?_ _ | refine below_dn ?_ _ | refine Below.trans ?_ (below_mo _ _ _ ?_) | refine Below.trans ?_ (below_mq _ _ ?_) | exact Nat.le_refl _) | (simp; done) | (simp; omega) | omega))⟩
                · have g8 : decide (tC xs k < tC xs ((k : Int) - 1)) = false := decide_eq_false c5
                  go_wp2
                  (refine wp_region_mq (by kernel_rfl) (by kernel_rfl) ?_; (repeat (first | go_big_quiet_step ((first | (go_at_call 116; with_reducible exact quietS (within_t _ _ 100000 _ c1) ) | (go_at_call 116; with_reducible exact quietS (within_t _ _ 1000000000000 _ c2) ))) | quiet_step ((first | (go_at_call 116; with_reducible exact quietS (within_t _ _ 100000 _ c1) ) | (go_at_call 116; with_reducible exact quietS (within_t _ _ 1000000000000 _ c2) ))))); refine wpQuiet_nil ?_; intro _ hq_; obtain ⟨q_, rfl⟩ := hq_)
                  go_wp2
                  exact ⟨⟨k + 1, by omega, by go_num, okStep HA.out ⟨c1, c2, fun _ => ⟨by omega, by omega⟩⟩, (by repeat' (first | (with_reducible first | assumption | exact Below.refl _ _ | refine Below.drew ?_ | refine Below.alloc ?_ ?_ _ | refine Below.setCell ?_ ?_ _ | refine below_setR ?_ ?_ _ | refine below_dn ?_ _ | refine Below.trans ?_ (below_mo _ _ _ ?_) | refine Below.trans ?_ (below_mq _ _ ?_) | exact Nat.le_refl _) | (simp; done) | (simp; omega) | omega))⟩, by simp [intOf]; omega⟩
            · have g6 : decide ((0 : Int) < (k : Int)) = false := decide_eq_false (by omega)
              go_wp2
              (refine wp_region_mq (by kernel_rfl) (by kernel_rfl) ?_; (repeat (first | go_big_quiet_step ((first | (go_at_call 116; with_reducible exact quietS (within_t _ _ 100000 _ c1) ) | (go_at_call 116; with_reducible exact quietS (within_t _ _ 1000000000000 _ c2) ))) | quiet_step ((first | (go_at_call 116; with_reducible exact quietS (within_t _ _ 100000 _ c1) ) | (go_at_call 116; with_reducible exact quietS (within_t _ _ 1000000000000 _ c2) ))))); refine wpQuiet_nil ?_; intro _ hq_; obtain ⟨q_, rfl⟩ := hq_)
              go_wp2
              exact ⟨⟨k + 1, by omega, by go_num, okStep HA.out ⟨c1, c2, fun h => absurd h (by omega)⟩, (by repeat' (first | (with_reducible first | assumption | exact Below.refl _ _ | refine Below.drew ?_ | refine Below.alloc ?_ ?_ _ | refine Below.setCell ?_ ?_ _ | refine below_setR ?_ ?_ _ | refine below_dn ?_ _ | refine Below.trans ?_ (below_mo _ _ _ ?_) | refine Below.trans ?_ (below_mq _ _ ?_) | exact Nat.le_refl _) | (simp; done) | (simp; omega) | omega))⟩, by simp [intOf]; omega⟩
          · have HC := Lib.hid c2
            clear c2
            go_wp2
            (refine wp_region_mq (by kernel_rfl) (by kernel_rfl) ?_; (repeat (first | go_big_quiet_step ((first | (go_at_call 116; with_reducible exact quietS (within_t _ _ 100000 _ c1) ) | (go_at_call 116; with_reducible exact quietS (within_f _ _ 1000000000000 _ HC.out) ))) | quiet_step ((first | (go_at_call 116; with_reducible exact quietS (within_t _ _ 100000 _ c1) ) | (go_at_call 116; with_reducible exact quietS (within_f _ _ 1000000000000 _ HC.out) ))))); refine wpQuiet_nil ?_; intro _ hq_; obtain ⟨q_, rfl⟩ := hq_)
            go_wp2
            go_ret
            exact ⟨by rw [vtB_no hlt (fun h => HC.out h.2.1)]; rfl, (by repeat' (first | (with_reducible first | assumption | exact Below.refl _ _ | refine Below.drew ?_ | refine Below.alloc ?_ ?_ _ | refine Below.setCell ?_ ?_ _ | refine below_setR ?_ ?_ _ | refine below_dn ?_ _ | refine Below.trans ?_ (below_mo _ _ _ ?_) | refine Below.trans ?_ (below_mq _ _ ?_) | exact Nat.le_refl _) | (simp; done) | (simp; omega) | omega))⟩
        · have HC := Lib.hid c1
          clear c1
          go_wp2
          (refine wp_region_mq (by kernel_rfl) (by kernel_rfl) ?_; (repeat (first | go_big_quiet_step ((first | (go_at_call 116; with_reducible exact quietS (within_f _ _ 100000 _ HC.out) ))) | quiet_step ((first | (go_at_call 116; with_reducible exact quietS (within_f _ _ 100000 _ HC.out) ))))); refine wpQuiet_nil ?_; intro _ hq_; obtain ⟨q_, rfl⟩ := hq_)
          go_wp2
          go_ret
          exact ⟨by rw [vtB_no hlt (fun h => HC.out h.1)]; rfl, (by repeat' (first | (with_reducible first | assumption | exact Below.refl _ _ | refine Below.drew ?_ | refine Below.alloc ?_ ?_ _ | refine Below.setCell ?_ ?_ _ | refine below_setR ?_ ?_ _ | refine below_dn ?_ _ | refine Below.trans ?_ (below_mo _ _ _ ?_) | refine Below.trans ?_ (below_mq _ _ ?_) | exact Nat.le_refl _) | (simp; done) | (simp; omega) | omega))⟩
      · go_wp2
        go_ret
        exact ⟨by rw [vtB_yes hl (fun j hj => HA.out j (by omega))]; rfl, below_mo _ _ _ (Nat.le_refl _)⟩
  · go_enter Try.func246, Try.ntmps246
    go_wp2
    go_ret
    exact ⟨by rw [vtB_long (by omega)]; rfl, Below.refl _ _⟩
end Go.Proofs.Ytbihgnmiocfelaa.X
