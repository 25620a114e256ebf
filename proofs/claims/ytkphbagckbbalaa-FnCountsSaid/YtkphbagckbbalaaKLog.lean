/- Readings, logs, flows: which are valid, which counts are possible. Conditions: none. -/
import Derived.Test.YtkphbagckbbalaaKLaws
import Derived.Test.YtkphbagckbbalaaKNum
namespace Go.Proofs.Ytkphbagckbbalaa.X
open Go.RowKit
set_option linter.unusedVariables false
set_option linter.unusedSimpArgs false
set_option maxRecDepth 100000
/-- a reading is valid -/
def okR (xs : List Int) (d v : Int) : Bool := inR d 0 100000 && inR v 0 (sizeTo xs xs.length - 1)
/-- the first k readings are valid -/
def lgTo (xs : List Int) (log : List (Int × Int)) : Nat → Bool
  | 0 => true
  | k + 1 => lgTo xs log k && (okR xs (p1 log k) (p2 log k) && (decide (k = 0) || decide (p1 log ((k : Int) - 1) < p1 log k)))
/-- a log is valid -/
def okL (xs : List Int) (log : List (Int × Int)) : Bool := okS xs && decide (log.length ≤ 40) && lgTo xs log log.length
theorem lgTo_mono {xs : List Int} {log : List (Int × Int)} {k : Nat} (h : lgTo xs log k = false) : ∀ d : Nat, lgTo xs log (k + d) = false
  | 0 => h
  | d + 1 => by
    have := lgTo_mono h d
    show (lgTo xs log (k + d) && _) = false
    rw [this]; rfl
theorem lgTo_no {xs : List Int} {log : List (Int × Int)} {k n : Nat} (hk : k < n) (h : (okR xs (p1 log k) (p2 log k) && (decide (k = 0) || decide (p1 log ((k : Int) - 1) < p1 log k))) = false) : lgTo xs log n = false := by
  have h1 : lgTo xs log (k + 1) = false := by
    show (lgTo xs log k && _) = false
    rw [h, Bool.and_false]
  have := lgTo_mono h1 (n - (k + 1))
  rwa [show k + 1 + (n - (k + 1)) = n by omega] at this
set_option maxHeartbeats 400000 in
theorem readingOK_any {A : Option Addr} {xs : List Int} {W : World} {B : Nat} (hs : Nums .u8 W B A xs) (h8 : b8 xs) (n c : Nat) (hn : xs.length = n) (w : World) (hb : Below B W w) (d v : Int) : Calls Try.prog 164 #[.slice A n c, .agg #[.int .i64 d, .int .i64 v]] w fun e w' => e = .returned (.bool (okR xs d v)) ∧ Below w.heap.size w w' := by
  obtain rfl := hn
  have hB := hs.bsz hb
  cases h1 : inR d 0 100000
  all_goals
    go_enter Try.func164, Try.ntmps164
    go_wp2_with (first | (go_at_call 80; refine (within_ok _ _ _ _).mono ?_; rintro e w' ⟨rfl, rfl⟩) | (go_at_call 128; refine (hasValue_any hs h8 _ _ rfl _ (by repeat' (first | (with_reducible first | assumption | exact Below.refl _ _ | refine Below.drew ?_ | refine Below.alloc ?_ ?_ _ | refine Below.setCell ?_ ?_ _ | refine below_setR ?_ ?_ _ | refine below_dn ?_ _ | refine Below.trans ?_ (below_mo _ _ _ ?_) | refine Below.trans ?_ (below_mq _ _ ?_) | exact Nat.le_refl _) | (simp; done) | (simp; omega) | omega)) _).mono ?_; rintro e w' ⟨rfl, rfl⟩))
    go_ret
    exact ⟨by simp [okR, *], (by repeat' (first | (with_reducible first | assumption | exact Below.refl _ _ | refine Below.drew ?_ | refine Below.alloc ?_ ?_ _ | refine Below.setCell ?_ ?_ _ | refine below_setR ?_ ?_ _ | refine below_dn ?_ _ | refine Below.trans ?_ (below_mo _ _ _ ?_) | refine Below.trans ?_ (below_mq _ _ ?_) | exact Nat.le_refl _) | (simp; done) | (simp; omega) | omega))⟩
set_option maxHeartbeats 400000 in
theorem l04Reading_any {A : Option Addr} {xs : List Int} {W : World} {B : Nat} (hs : Nums .u8 W B A xs) (h8 : b8 xs) (n c : Nat) (hn : xs.length = n) (w : World) (hb : Below B W w) (d v : Int) : Calls Try.prog 166 #[.slice A n c, .agg #[.int .i64 d, .int .i64 v]] w fun e w' => e = .returned (.bool (okR xs d v)) ∧ Below w.heap.size w w' := by
  obtain rfl := hn
  have hB := hs.bsz hb
  have z0 := sizeTo_bd h8 xs.length
  cases h1 : inR d 0 100000
  all_goals
    go_enter Try.func166, Try.ntmps166
    go_wp2
    (refine wp_region_mq (by kernel_rfl) (by kernel_rfl) ?_; (repeat (first | go_big_quiet_step ((first | (go_at_call 85; with_reducible exact quietSb (l00In_ok d _ _ _) h1) | (go_at_call 85; with_reducible exact quietS (l00In_ok v _ _ _) ) | (go_at_call 86; ((with_reducible refine quietS (l01Size_any hs h8 _ _ rfl _ ?_) ) <;> (repeat' (first | (with_reducible first | assumption | exact Below.refl _ _ | refine Below.drew ?_ | refine Below.alloc ?_ ?_ _ | refine Below.setCell ?_ ?_ _ | refine below_setR ?_ ?_ _ | refine below_dn ?_ _ | refine Below.trans ?_ (below_mo _ _ _ ?_) | refine Below.trans ?_ (below_mq _ _ ?_) | exact Nat.le_refl _) | (simp; done) | (simp; omega) | omega)))))) | quiet_step ((first | (go_at_call 85; with_reducible exact quietSb (l00In_ok d _ _ _) h1) | (go_at_call 85; with_reducible exact quietS (l00In_ok v _ _ _) ) | (go_at_call 86; ((with_reducible refine quietS (l01Size_any hs h8 _ _ rfl _ ?_) ) <;> (repeat' (first | (with_reducible first | assumption | exact Below.refl _ _ | refine Below.drew ?_ | refine Below.alloc ?_ ?_ _ | refine Below.setCell ?_ ?_ _ | refine below_setR ?_ ?_ _ | refine below_dn ?_ _ | refine Below.trans ?_ (below_mo _ _ _ ?_) | refine Below.trans ?_ (below_mq _ _ ?_) | exact Nat.le_refl _) | (simp; done) | (simp; omega) | omega)))))))); refine wpQuiet_nil ?_; intro _ hq_; obtain ⟨q_, rfl⟩ := hq_)
    go_wp2
    go_ret
    exact ⟨by simp [okR, *], (by repeat' (first | (with_reducible first | assumption | exact Below.refl _ _ | refine Below.drew ?_ | refine Below.alloc ?_ ?_ _ | refine Below.setCell ?_ ?_ _ | refine below_setR ?_ ?_ _ | refine below_dn ?_ _ | refine Below.trans ?_ (below_mo _ _ _ ?_) | refine Below.trans ?_ (below_mq _ _ ?_) | exact Nat.le_refl _) | (simp; done) | (simp; omega) | omega))⟩
set_option maxHeartbeats 2000000 in
theorem ValidLog_any {A : Option Addr} {xs : List Int} {W : World} {B : Nat} (hs : Nums .u8 W B A xs) (h8 : b8 xs) (n c : Nat) (hn : xs.length = n) (w : World) (hb : Below B W w) {L : Option Addr} {log : List (Int × Int)} {V : World} {C : Nat} (hl : Prs .i64 .i64 V C L log) (cl : Nat) (hv : Below C V w) : Calls Try.prog 79 #[.slice A n c, .slice L log.length cl] w fun e w' => e = .returned (.bool (okL xs log)) ∧ Below w.heap.size w w' := by
  obtain rfl := hn
  have hB := hs.bsz hb
  have hC := hl.bsz hv
  have hll := hl.len
  cases h1 : okS xs
  · go_enter Try.func79, Try.ntmps79
    go_wp2_with (go_at_call 26; refine (ValidStack_any hs h8 _ _ rfl _ (by repeat' (first | (with_reducible first | assumption | exact Below.refl _ _ | refine Below.drew ?_ | refine Below.alloc ?_ ?_ _ | refine Below.setCell ?_ ?_ _ | refine below_setR ?_ ?_ _ | refine below_dn ?_ _ | refine Below.trans ?_ (below_mo _ _ _ ?_) | refine Below.trans ?_ (below_mq _ _ ?_) | exact Nat.le_refl _) | (simp; done) | (simp; omega) | omega))).mono ?_; rintro e w' ⟨rfl, rfl⟩)
    go_ret
    exact ⟨by simp [okL, h1], (by repeat' (first | (with_reducible first | assumption | exact Below.refl _ _ | refine Below.drew ?_ | refine Below.alloc ?_ ?_ _ | refine Below.setCell ?_ ?_ _ | refine below_setR ?_ ?_ _ | refine below_dn ?_ _ | refine Below.trans ?_ (below_mo _ _ _ ?_) | refine Below.trans ?_ (below_mq _ _ ?_) | exact Nat.le_refl _) | (simp; done) | (simp; omega) | omega))⟩
  by_cases h2 : 40 < log.length
  · go_enter Try.func79, Try.ntmps79
    go_wp2_with (go_at_call 26; refine (ValidStack_any hs h8 _ _ rfl _ (by repeat' (first | (with_reducible first | assumption | exact Below.refl _ _ | refine Below.drew ?_ | refine Below.alloc ?_ ?_ _ | refine Below.setCell ?_ ?_ _ | refine below_setR ?_ ?_ _ | refine below_dn ?_ _ | refine Below.trans ?_ (below_mo _ _ _ ?_) | refine Below.trans ?_ (below_mq _ _ ?_) | exact Nat.le_refl _) | (simp; done) | (simp; omega) | omega))).mono ?_; rintro e w' ⟨rfl, rfl⟩)
    go_ret
    exact ⟨by simp [okL, h1]; omega, (by repeat' (first | (with_reducible first | assumption | exact Below.refl _ _ | refine Below.drew ?_ | refine Below.alloc ?_ ?_ _ | refine Below.setCell ?_ ?_ _ | refine below_setR ?_ ?_ _ | refine below_dn ?_ _ | refine Below.trans ?_ (below_mo _ _ _ ?_) | refine Below.trans ?_ (below_mq _ _ ?_) | exact Nat.le_refl _) | (simp; done) | (simp; omega) | omega))⟩
  have HO := Lib.hid h1
  go_enter Try.func79, Try.ntmps79
  go_wp2_with (go_at_call 26; refine (ValidStack_any hs h8 _ _ rfl _ (by repeat' (first | (with_reducible first | assumption | exact Below.refl _ _ | refine Below.drew ?_ | refine Below.alloc ?_ ?_ _ | refine Below.setCell ?_ ?_ _ | refine below_setR ?_ ?_ _ | refine below_dn ?_ _ | refine Below.trans ?_ (below_mo _ _ _ ?_) | refine Below.trans ?_ (below_mq _ _ ?_) | exact Nat.le_refl _) | (simp; done) | (simp; omega) | omega))).mono ?_; rintro e w' ⟨rfl, rfl⟩)
  clear h1
  go_loopw [17] (fun i wr => ∃ k : Nat, k ≤ log.length ∧ i = .int .i64 k ∧ Hid (lgTo xs log k = true) ∧ ∃ os d, wr = mo w os d) (fun i _ => log.length - (intOf i).toNat)
  case atStart => exact ⟨0, Nat.zero_le _, rfl, (rfl : lgTo xs log 0 = true), #[], _, (mo_nil w).symm⟩
  case round =>
    obtain ⟨k, hk, rfl, HA, os, dd, rfl⟩ := hrel
    by_cases hlt : k < log.length
    · obtain ⟨b, off, rfl, hbs, hc0, hc1⟩ := hl.at hv hlt
      cases hr : okR xs (p1 log k) (p2 log k)
      · have HN := Lib.hid (lgTo_no hlt (by rw [hr]; rfl))
        go_wp2
        (refine wp_region_mq (by kernel_rfl) (by kernel_rfl) ?_; (repeat (first | go_big_quiet_step ((first | (go_at_call 164; ((with_reducible refine quietQb (readingOK_any hs h8 _ _ rfl _ ?_ _ _) hr) <;> (repeat' (first | (with_reducible first | assumption | exact Below.refl _ _ | refine Below.drew ?_ | refine Below.alloc ?_ ?_ _ | refine Below.setCell ?_ ?_ _ | refine below_setR ?_ ?_ _ | refine below_dn ?_ _ | refine Below.trans ?_ (below_mo _ _ _ ?_) | refine Below.trans ?_ (below_mq _ _ ?_) | exact Nat.le_refl _) | (simp; done) | (simp; omega) | omega)))))) | quiet_step ((first | (go_at_call 164; ((with_reducible refine quietQb (readingOK_any hs h8 _ _ rfl _ ?_ _ _) hr) <;> (repeat' (first | (with_reducible first | assumption | exact Below.refl _ _ | refine Below.drew ?_ | refine Below.alloc ?_ ?_ _ | refine Below.setCell ?_ ?_ _ | refine below_setR ?_ ?_ _ | refine below_dn ?_ _ | refine Below.trans ?_ (below_mo _ _ _ ?_) | refine Below.trans ?_ (below_mq _ _ ?_) | exact Nat.le_refl _) | (simp; done) | (simp; omega) | omega)))))))); refine wpQuiet_nil ?_; intro _ hq_; obtain ⟨q_, rfl⟩ := hq_)
        go_wp2
        go_ret
        exact ⟨by simp [okL, HN.out], (by repeat' (first | (with_reducible first | assumption | exact Below.refl _ _ | refine Below.drew ?_ | refine Below.alloc ?_ ?_ _ | refine Below.setCell ?_ ?_ _ | refine below_setR ?_ ?_ _ | refine below_dn ?_ _ | refine Below.trans ?_ (below_mo _ _ _ ?_) | refine Below.trans ?_ (below_mq _ _ ?_) | exact Nat.le_refl _) | (simp; done) | (simp; omega) | omega))⟩
      · cases k with
        | zero =>
          simp only [Int.natCast_zero, Nat.zero_mul, Nat.add_zero] at hc0 hc1 hr
          rw [show ((0 : Nat) : Int) = 0 from rfl]
          have HN : Hid (lgTo xs log (0 + 1) = true) := by unfold Hid lgTo; rw [HA.out, show ((0 : Nat) : Int) = 0 from rfl, hr]; rfl
          go_wp2
          (refine wp_region_mq (by kernel_rfl) (by kernel_rfl) ?_; (repeat (first | go_big_quiet_step ((first | (go_at_call 164; ((with_reducible refine quietQb (readingOK_any hs h8 _ _ rfl _ ?_ _ _) hr) <;> (repeat' (first | (with_reducible first | assumption | exact Below.refl _ _ | refine Below.drew ?_ | refine Below.alloc ?_ ?_ _ | refine Below.setCell ?_ ?_ _ | refine below_setR ?_ ?_ _ | refine below_dn ?_ _ | refine Below.trans ?_ (below_mo _ _ _ ?_) | refine Below.trans ?_ (below_mq _ _ ?_) | exact Nat.le_refl _) | (simp; done) | (simp; omega) | omega)))))) | quiet_step ((first | (go_at_call 164; ((with_reducible refine quietQb (readingOK_any hs h8 _ _ rfl _ ?_ _ _) hr) <;> (repeat' (first | (with_reducible first | assumption | exact Below.refl _ _ | refine Below.drew ?_ | refine Below.alloc ?_ ?_ _ | refine Below.setCell ?_ ?_ _ | refine below_setR ?_ ?_ _ | refine below_dn ?_ _ | refine Below.trans ?_ (below_mo _ _ _ ?_) | refine Below.trans ?_ (below_mq _ _ ?_) | exact Nat.le_refl _) | (simp; done) | (simp; omega) | omega)))))))); refine wpQuiet_nil ?_; intro _ hq_; obtain ⟨q_, rfl⟩ := hq_)
          go_wp2
          exact ⟨⟨0 + 1, by omega, by go_num, HN, mo_of (by repeat' (first | (with_reducible first | assumption | exact Below.refl _ _ | refine Below.drew ?_ | refine Below.alloc ?_ ?_ _ | refine Below.setCell ?_ ?_ _ | refine below_setR ?_ ?_ _ | refine below_dn ?_ _ | refine Below.trans ?_ (below_mo _ _ _ ?_) | refine Below.trans ?_ (below_mq _ _ ?_) | exact Nat.le_refl _) | (simp; done) | (simp; omega) | omega))⟩, by simp [intOf]; omega⟩
        | succ j =>
          obtain ⟨b', off', he, _, hd0, hd1⟩ := hl.at hv (k := j) (by omega)
          obtain ⟨rfl, rfl⟩ := addr_same he
          clear he
          have ej : ((j + 1 : Nat) : Int) = (j : Int) + 1 := by omega
          by_cases hd : p1 log j < p1 log ((j + 1 : Nat) : Int)
          · have HN : Hid (lgTo xs log (j + 1 + 1) = true) := by unfold Hid; rw [lgTo, HA.out, hr]; simp [ej]; rw [← ej]; exact hd
            rw [ej] at hd hc0 hc1 hr
            have g0 : (0 : Int) ≤ (j : Int) := by omega
            have g1 : (j : Int) < (log.length : Int) := by omega
            have g2 : (j : Int) + 1 < (log.length : Int) := by omega
            go_wp2
            (refine wp_region_mq (by kernel_rfl) (by kernel_rfl) ?_; (repeat (first | go_big_quiet_step ((first | (go_at_call 164; ((with_reducible refine quietQb (readingOK_any hs h8 _ _ rfl _ ?_ _ _) hr) <;> (repeat' (first | (with_reducible first | assumption | exact Below.refl _ _ | refine Below.drew ?_ | refine Below.alloc ?_ ?_ _ | refine Below.setCell ?_ ?_ _ | refine below_setR ?_ ?_ _ | refine below_dn ?_ _ | refine Below.trans ?_ (below_mo _ _ _ ?_) | refine Below.trans ?_ (below_mq _ _ ?_) | exact Nat.le_refl _) | (simp; done) | (simp; omega) | omega)))))) | quiet_step ((first | (go_at_call 164; ((with_reducible refine quietQb (readingOK_any hs h8 _ _ rfl _ ?_ _ _) hr) <;> (repeat' (first | (with_reducible first | assumption | exact Below.refl _ _ | refine Below.drew ?_ | refine Below.alloc ?_ ?_ _ | refine Below.setCell ?_ ?_ _ | refine below_setR ?_ ?_ _ | refine below_dn ?_ _ | refine Below.trans ?_ (below_mo _ _ _ ?_) | refine Below.trans ?_ (below_mq _ _ ?_) | exact Nat.le_refl _) | (simp; done) | (simp; omega) | omega)))))))); refine wpQuiet_nil ?_; intro _ hq_; obtain ⟨q_, rfl⟩ := hq_)
            go_wp2
            exact ⟨⟨j + 1 + 1, by omega, by go_num, HN, mo_of (by repeat' (first | (with_reducible first | assumption | exact Below.refl _ _ | refine Below.drew ?_ | refine Below.alloc ?_ ?_ _ | refine Below.setCell ?_ ?_ _ | refine below_setR ?_ ?_ _ | refine below_dn ?_ _ | refine Below.trans ?_ (below_mo _ _ _ ?_) | refine Below.trans ?_ (below_mq _ _ ?_) | exact Nat.le_refl _) | (simp; done) | (simp; omega) | omega))⟩, by simp [intOf]; omega⟩
          · have HN := Lib.hid (lgTo_no hlt (by rw [hr]; simp [ej]; rw [← ej]; omega))
            rw [ej] at hd hc0 hc1 hr
            have g0 : (0 : Int) ≤ (j : Int) := by omega
            have g1 : (j : Int) < (log.length : Int) := by omega
            have g2 : (j : Int) + 1 < (log.length : Int) := by omega
            go_wp2
            (refine wp_region_mq (by kernel_rfl) (by kernel_rfl) ?_; (repeat (first | go_big_quiet_step ((first | (go_at_call 164; ((with_reducible refine quietQb (readingOK_any hs h8 _ _ rfl _ ?_ _ _) hr) <;> (repeat' (first | (with_reducible first | assumption | exact Below.refl _ _ | refine Below.drew ?_ | refine Below.alloc ?_ ?_ _ | refine Below.setCell ?_ ?_ _ | refine below_setR ?_ ?_ _ | refine below_dn ?_ _ | refine Below.trans ?_ (below_mo _ _ _ ?_) | refine Below.trans ?_ (below_mq _ _ ?_) | exact Nat.le_refl _) | (simp; done) | (simp; omega) | omega)))))) | quiet_step ((first | (go_at_call 164; ((with_reducible refine quietQb (readingOK_any hs h8 _ _ rfl _ ?_ _ _) hr) <;> (repeat' (first | (with_reducible first | assumption | exact Below.refl _ _ | refine Below.drew ?_ | refine Below.alloc ?_ ?_ _ | refine Below.setCell ?_ ?_ _ | refine below_setR ?_ ?_ _ | refine below_dn ?_ _ | refine Below.trans ?_ (below_mo _ _ _ ?_) | refine Below.trans ?_ (below_mq _ _ ?_) | exact Nat.le_refl _) | (simp; done) | (simp; omega) | omega)))))))); refine wpQuiet_nil ?_; intro _ hq_; obtain ⟨q_, rfl⟩ := hq_)
            go_wp2
            go_ret
            exact ⟨by simp [okL, HN.out], (by repeat' (first | (with_reducible first | assumption | exact Below.refl _ _ | refine Below.drew ?_ | refine Below.alloc ?_ ?_ _ | refine Below.setCell ?_ ?_ _ | refine below_setR ?_ ?_ _ | refine below_dn ?_ _ | refine Below.trans ?_ (below_mo _ _ _ ?_) | refine Below.trans ?_ (below_mq _ _ ?_) | exact Nat.le_refl _) | (simp; done) | (simp; omega) | omega))⟩
    · obtain rfl : k = log.length := by omega
      go_wp2
      go_ret
      exact ⟨by simp [okL, HA.out, HO.out]; omega, (by repeat' (first | (with_reducible first | assumption | exact Below.refl _ _ | refine Below.drew ?_ | refine Below.alloc ?_ ?_ _ | refine Below.setCell ?_ ?_ _ | refine below_setR ?_ ?_ _ | refine below_dn ?_ _ | refine Below.trans ?_ (below_mo _ _ _ ?_) | refine Below.trans ?_ (below_mq _ _ ?_) | exact Nat.le_refl _) | (simp; done) | (simp; omega) | omega))⟩
set_option maxHeartbeats 2000000 in
theorem l04Ok_any {A : Option Addr} {xs : List Int} {W : World} {B : Nat} (hs : Nums .u8 W B A xs) (h8 : b8 xs) (n c : Nat) (hn : xs.length = n) (w : World) (hb : Below B W w) {L : Option Addr} {log : List (Int × Int)} {V : World} {C : Nat} (hl : Prs .i64 .i64 V C L log) (cl : Nat) (hv : Below C V w) : Calls Try.prog 84 #[.slice A n c, .slice L log.length cl] w fun e w' => e = .returned (.bool (okL xs log)) ∧ Below w.heap.size w w' := by
  obtain rfl := hn
  have hB := hs.bsz hb
  have hC := hl.bsz hv
  have hll := hl.len
  cases h1 : okS xs
  · go_enter Try.func84, Try.ntmps84
    go_wp2_with (go_at_call 97; refine (l01Ok_any hs h8 _ _ rfl _ (by repeat' (first | (with_reducible first | assumption | exact Below.refl _ _ | refine Below.drew ?_ | refine Below.alloc ?_ ?_ _ | refine Below.setCell ?_ ?_ _ | refine below_setR ?_ ?_ _ | refine below_dn ?_ _ | refine Below.trans ?_ (below_mo _ _ _ ?_) | refine Below.trans ?_ (below_mq _ _ ?_) | exact Nat.le_refl _) | (simp; done) | (simp; omega) | omega))).mono ?_; rintro e w' ⟨rfl, rfl⟩)
    go_ret
    exact ⟨by simp [okL, h1], (by repeat' (first | (with_reducible first | assumption | exact Below.refl _ _ | refine Below.drew ?_ | refine Below.alloc ?_ ?_ _ | refine Below.setCell ?_ ?_ _ | refine below_setR ?_ ?_ _ | refine below_dn ?_ _ | refine Below.trans ?_ (below_mo _ _ _ ?_) | refine Below.trans ?_ (below_mq _ _ ?_) | exact Nat.le_refl _) | (simp; done) | (simp; omega) | omega))⟩
  by_cases h2 : 40 < log.length
  · go_enter Try.func84, Try.ntmps84
    go_wp2_with (go_at_call 97; refine (l01Ok_any hs h8 _ _ rfl _ (by repeat' (first | (with_reducible first | assumption | exact Below.refl _ _ | refine Below.drew ?_ | refine Below.alloc ?_ ?_ _ | refine Below.setCell ?_ ?_ _ | refine below_setR ?_ ?_ _ | refine below_dn ?_ _ | refine Below.trans ?_ (below_mo _ _ _ ?_) | refine Below.trans ?_ (below_mq _ _ ?_) | exact Nat.le_refl _) | (simp; done) | (simp; omega) | omega))).mono ?_; rintro e w' ⟨rfl, rfl⟩)
    go_ret
    exact ⟨by simp [okL, h1]; omega, (by repeat' (first | (with_reducible first | assumption | exact Below.refl _ _ | refine Below.drew ?_ | refine Below.alloc ?_ ?_ _ | refine Below.setCell ?_ ?_ _ | refine below_setR ?_ ?_ _ | refine below_dn ?_ _ | refine Below.trans ?_ (below_mo _ _ _ ?_) | refine Below.trans ?_ (below_mq _ _ ?_) | exact Nat.le_refl _) | (simp; done) | (simp; omega) | omega))⟩
  have HO := Lib.hid h1
  go_enter Try.func84, Try.ntmps84
  go_wp2_with (go_at_call 97; refine (l01Ok_any hs h8 _ _ rfl _ (by repeat' (first | (with_reducible first | assumption | exact Below.refl _ _ | refine Below.drew ?_ | refine Below.alloc ?_ ?_ _ | refine Below.setCell ?_ ?_ _ | refine below_setR ?_ ?_ _ | refine below_dn ?_ _ | refine Below.trans ?_ (below_mo _ _ _ ?_) | refine Below.trans ?_ (below_mq _ _ ?_) | exact Nat.le_refl _) | (simp; done) | (simp; omega) | omega))).mono ?_; rintro e w' ⟨rfl, rfl⟩)
  clear h1
  go_loopw [5] (fun i wr => ∃ k : Nat, k ≤ log.length ∧ i = .int .i64 k ∧ Hid (lgTo xs log k = true) ∧ ∃ os d, wr = mo w os d) (fun i _ => log.length - (intOf i).toNat)
  case atStart => exact ⟨0, Nat.zero_le _, rfl, (rfl : lgTo xs log 0 = true), #[], _, (mo_nil w).symm⟩
  case round =>
    obtain ⟨k, hk, rfl, HA, os, dd, rfl⟩ := hrel
    by_cases hlt : k < log.length
    · obtain ⟨b, off, rfl, hbs, hc0, hc1⟩ := hl.at hv hlt
      cases hr : okR xs (p1 log k) (p2 log k)
      · have HN := Lib.hid (lgTo_no hlt (by rw [hr]; rfl))
        go_wp2
        (refine wp_region_mq (by kernel_rfl) (by kernel_rfl) ?_; (repeat (first | go_big_quiet_step ((first | (go_at_call 166; ((with_reducible refine quietQb (l04Reading_any hs h8 _ _ rfl _ ?_ _ _) hr) <;> (repeat' (first | (with_reducible first | assumption | exact Below.refl _ _ | refine Below.drew ?_ | refine Below.alloc ?_ ?_ _ | refine Below.setCell ?_ ?_ _ | refine below_setR ?_ ?_ _ | refine below_dn ?_ _ | refine Below.trans ?_ (below_mo _ _ _ ?_) | refine Below.trans ?_ (below_mq _ _ ?_) | exact Nat.le_refl _) | (simp; done) | (simp; omega) | omega)))))) | quiet_step ((first | (go_at_call 166; ((with_reducible refine quietQb (l04Reading_any hs h8 _ _ rfl _ ?_ _ _) hr) <;> (repeat' (first | (with_reducible first | assumption | exact Below.refl _ _ | refine Below.drew ?_ | refine Below.alloc ?_ ?_ _ | refine Below.setCell ?_ ?_ _ | refine below_setR ?_ ?_ _ | refine below_dn ?_ _ | refine Below.trans ?_ (below_mo _ _ _ ?_) | refine Below.trans ?_ (below_mq _ _ ?_) | exact Nat.le_refl _) | (simp; done) | (simp; omega) | omega)))))))); refine wpQuiet_nil ?_; intro _ hq_; obtain ⟨q_, rfl⟩ := hq_)
        go_wp2
        go_ret
        exact ⟨by simp [okL, HN.out], (by repeat' (first | (with_reducible first | assumption | exact Below.refl _ _ | refine Below.drew ?_ | refine Below.alloc ?_ ?_ _ | refine Below.setCell ?_ ?_ _ | refine below_setR ?_ ?_ _ | refine below_dn ?_ _ | refine Below.trans ?_ (below_mo _ _ _ ?_) | refine Below.trans ?_ (below_mq _ _ ?_) | exact Nat.le_refl _) | (simp; done) | (simp; omega) | omega))⟩
      · cases k with
        | zero =>
          simp only [Int.natCast_zero, Nat.zero_mul, Nat.add_zero] at hc0 hc1 hr
          rw [show ((0 : Nat) : Int) = 0 from rfl]
          have HN : Hid (lgTo xs log (0 + 1) = true) := by unfold Hid lgTo; rw [HA.out, show ((0 : Nat) : Int) = 0 from rfl, hr]; rfl
          go_wp2
          (refine wp_region_mq (by kernel_rfl) (by kernel_rfl) ?_; (repeat (first | go_big_quiet_step ((first | (go_at_call 166; ((with_reducible refine quietQb (l04Reading_any hs h8 _ _ rfl _ ?_ _ _) hr) <;> (repeat' (first | (with_reducible first | assumption | exact Below.refl _ _ | refine Below.drew ?_ | refine Below.alloc ?_ ?_ _ | refine Below.setCell ?_ ?_ _ | refine below_setR ?_ ?_ _ | refine below_dn ?_ _ | refine Below.trans ?_ (below_mo _ _ _ ?_) | refine Below.trans ?_ (below_mq _ _ ?_) | exact Nat.le_refl _) | (simp; done) | (simp; omega) | omega)))))) | quiet_step ((first | (go_at_call 166; ((with_reducible refine quietQb (l04Reading_any hs h8 _ _ rfl _ ?_ _ _) hr) <;> (repeat' (first | (with_reducible first | assumption | exact Below.refl _ _ | refine Below.drew ?_ | refine Below.alloc ?_ ?_ _ | refine Below.setCell ?_ ?_ _ | refine below_setR ?_ ?_ _ | refine below_dn ?_ _ | refine Below.trans ?_ (below_mo _ _ _ ?_) | refine Below.trans ?_ (below_mq _ _ ?_) | exact Nat.le_refl _) | (simp; done) | (simp; omega) | omega)))))))); refine wpQuiet_nil ?_; intro _ hq_; obtain ⟨q_, rfl⟩ := hq_)
          go_wp2
          exact ⟨⟨0 + 1, by omega, by go_num, HN, mo_of (by repeat' (first | (with_reducible first | assumption | exact Below.refl _ _ | refine Below.drew ?_ | refine Below.alloc ?_ ?_ _ | refine Below.setCell ?_ ?_ _ | refine below_setR ?_ ?_ _ | refine below_dn ?_ _ | refine Below.trans ?_ (below_mo _ _ _ ?_) | refine Below.trans ?_ (below_mq _ _ ?_) | exact Nat.le_refl _) | (simp; done) | (simp; omega) | omega))⟩, by simp [intOf]; omega⟩
        | succ j =>
          obtain ⟨b', off', he, _, hd0, hd1⟩ := hl.at hv (k := j) (by omega)
          obtain ⟨rfl, rfl⟩ := addr_same he
          clear he
          have ej : ((j + 1 : Nat) : Int) = (j : Int) + 1 := by omega
          by_cases hd : p1 log j < p1 log ((j + 1 : Nat) : Int)
          · have HN : Hid (lgTo xs log (j + 1 + 1) = true) := by unfold Hid; rw [lgTo, HA.out, hr]; simp [ej]; rw [← ej]; exact hd
            rw [ej] at hd hc0 hc1 hr
            have g0 : (0 : Int) ≤ (j : Int) := by omega
            have g1 : (j : Int) < (log.length : Int) := by omega
            have g2 : (j : Int) + 1 < (log.length : Int) := by omega
            go_wp2
            (refine wp_region_mq (by kernel_rfl) (by kernel_rfl) ?_; (repeat (first | go_big_quiet_step ((first | (go_at_call 166; ((with_reducible refine quietQb (l04Reading_any hs h8 _ _ rfl _ ?_ _ _) hr) <;> (repeat' (first | (with_reducible first | assumption | exact Below.refl _ _ | refine Below.drew ?_ | refine Below.alloc ?_ ?_ _ | refine Below.setCell ?_ ?_ _ | refine below_setR ?_ ?_ _ | refine below_dn ?_ _ | refine Below.trans ?_ (below_mo _ _ _ ?_) | refine Below.trans ?_ (below_mq _ _ ?_) | exact Nat.le_refl _) | (simp; done) | (simp; omega) | omega)))))) | quiet_step ((first | (go_at_call 166; ((with_reducible refine quietQb (l04Reading_any hs h8 _ _ rfl _ ?_ _ _) hr) <;> (repeat' (first | (with_reducible first | assumption | exact Below.refl _ _ | refine Below.drew ?_ | refine Below.alloc ?_ ?_ _ | refine Below.setCell ?_ ?_ _ | refine below_setR ?_ ?_ _ | refine below_dn ?_ _ | refine Below.trans ?_ (below_mo _ _ _ ?_) | refine Below.trans ?_ (below_mq _ _ ?_) | exact Nat.le_refl _) | (simp; done) | (simp; omega) | omega)))))))); refine wpQuiet_nil ?_; intro _ hq_; obtain ⟨q_, rfl⟩ := hq_)
            go_wp2
            exact ⟨⟨j + 1 + 1, by omega, by go_num, HN, mo_of (by repeat' (first | (with_reducible first | assumption | exact Below.refl _ _ | refine Below.drew ?_ | refine Below.alloc ?_ ?_ _ | refine Below.setCell ?_ ?_ _ | refine below_setR ?_ ?_ _ | refine below_dn ?_ _ | refine Below.trans ?_ (below_mo _ _ _ ?_) | refine Below.trans ?_ (below_mq _ _ ?_) | exact Nat.le_refl _) | (simp; done) | (simp; omega) | omega))⟩, by simp [intOf]; omega⟩
          · have HN := Lib.hid (lgTo_no hlt (by rw [hr]; simp [ej]; rw [← ej]; omega))
            rw [ej] at hd hc0 hc1 hr
            have g0 : (0 : Int) ≤ (j : Int) := by omega
            have g1 : (j : Int) < (log.length : Int) := by omega
            have g2 : (j : Int) + 1 < (log.length : Int) := by omega
            go_wp2
            (refine wp_region_mq (by kernel_rfl) (by kernel_rfl) ?_; (repeat (first | go_big_quiet_step ((first | (go_at_call 166; ((with_reducible refine quietQb (l04Reading_any hs h8 _ _ rfl _ ?_ _ _) hr) <;> (repeat' (first | (with_reducible first | assumption | exact Below.refl _ _ | refine Below.drew ?_ | refine Below.alloc ?_ ?_ _ | refine Below.setCell ?_ ?_ _ | refine below_setR ?_ ?_ _ | refine below_dn ?_ _ | refine Below.trans ?_ (below_mo _ _ _ ?_) | refine Below.trans ?_ (below_mq _ _ ?_) | exact Nat.le_refl _) | (simp; done) | (simp; omega) | omega)))))) | quiet_step ((first | (go_at_call 166; ((with_reducible refine quietQb (l04Reading_any hs h8 _ _ rfl _ ?_ _ _) hr) <;> (repeat' (first | (with_reducible first | assumption | exact Below.refl _ _ | refine Below.drew ?_ | refine Below.alloc ?_ ?_ _ | refine Below.setCell ?_ ?_ _ | refine below_setR ?_ ?_ _ | refine below_dn ?_ _ | refine Below.trans ?_ (below_mo _ _ _ ?_) | refine Below.trans ?_ (below_mq _ _ ?_) | exact Nat.le_refl _) | (simp; done) | (simp; omega) | omega)))))))); refine wpQuiet_nil ?_; intro _ hq_; obtain ⟨q_, rfl⟩ := hq_)
            go_wp2
            go_ret
            exact ⟨by simp [okL, HN.out], (by repeat' (first | (with_reducible first | assumption | exact Below.refl _ _ | refine Below.drew ?_ | refine Below.alloc ?_ ?_ _ | refine Below.setCell ?_ ?_ _ | refine below_setR ?_ ?_ _ | refine below_dn ?_ _ | refine Below.trans ?_ (below_mo _ _ _ ?_) | refine Below.trans ?_ (below_mq _ _ ?_) | exact Nat.le_refl _) | (simp; done) | (simp; omega) | omega))⟩
    · obtain rfl : k = log.length := by omega
      go_wp2
      go_ret
      exact ⟨by simp [okL, HA.out, HO.out]; omega, (by repeat' (first | (with_reducible first | assumption | exact Below.refl _ _ | refine Below.drew ?_ | refine Below.alloc ?_ ?_ _ | refine Below.setCell ?_ ?_ _ | refine below_setR ?_ ?_ _ | refine below_dn ?_ _ | refine Below.trans ?_ (below_mo _ _ _ ?_) | refine Below.trans ?_ (below_mq _ _ ?_) | exact Nat.le_refl _) | (simp; done) | (simp; omega) | omega))⟩
end Go.Proofs.Ytkphbagckbbalaa.X
