/- What the laws do with stacks and digits: they are copied and compared. Conditions: none. -/
import Derived.Test.YtinjlofefmjolaaKDigits
namespace Go.Proofs.Ytinjlofefmjolaa.X
open Go.RowKit
set_option linter.unusedVariables false
set_option linter.unusedSimpArgs false
set_option maxRecDepth 100000
set_option maxHeartbeats 1000000 in
theorem l01Of_any {A : Option Addr} {xs : List Int} {W : World} {B : Nat} (hs : Nums .u8 W B A xs) (h8 : b8 xs) (n c : Nat) (hn : xs.length = n) (w : World) (hb : Below B W w) (hk : okS xs = true) (v : Int) (hv : 0 ≤ v) (hv2 : v ≤ 9223372036854775807) : Calls Try.prog 99 #[.slice A n c, .int .i64 v] w fun e w' => e = .returned (.agg #[.int .u8 (dg xs v 0), .int .u8 (dg xs v 1), .int .u8 (dg xs v 2), .int .u8 (dg xs v 3), .int .u8 (dg xs v 4), .int .u8 (dg xs v 5), .int .u8 (dg xs v 6), .int .u8 (dg xs v 7)]) ∧ Below w.heap.size w w' := by
  obtain rfl := hn
  have hl := okS_len hk
  have HK := Lib.hid hk
  clear hk
  go_enter Try.func99, Try.ntmps99
  go_wp2
  go_loopw [1, 6] (fun q i wr => ∃ k : Nat, k ≤ xs.length ∧ i = .int .i64 k ∧ q = .int .i64 (qTo xs v k) ∧ wr = (w.alloc (.cells #[.int .u8 0, .int .u8 0, .int .u8 0, .int .u8 0, .int .u8 0, .int .u8 0, .int .u8 0, .int .u8 0] 57)).alloc (.cells #[.int .u8 (dgTo xs v k 0), .int .u8 (dgTo xs v k 1), .int .u8 (dgTo xs v k 2), .int .u8 (dgTo xs v k 3), .int .u8 (dgTo xs v k 4), .int .u8 (dgTo xs v k 5), .int .u8 (dgTo xs v k 6), .int .u8 (dgTo xs v k 7)] 57)) (fun _ i _ => xs.length - (intOf i).toNat)
  case atStart => exact ⟨0, Nat.zero_le _, rfl, rfl, rfl⟩
  case round =>
    obtain ⟨k, hk, rfl, rfl, rfl⟩ := hrel
    by_cases hlt : k < xs.length
    · obtain ⟨b, off, rfl, hbs, hc⟩ := hs.at hb hlt
      obtain ⟨e0, e1⟩ := okS_el HK.out hlt
      obtain ⟨q0, q1⟩ := qTo_bd HK.out hv hk
      have g0 : (0 : Int) ≤ (k : Int) := by omega
      have g1 : (k : Int) < 8 := by omega
      have g2 : (el xs k == 0) = false := beq_eq_false_iff_ne.2 (by omega)
      have m0 : 0 ≤ qTo xs v k % el xs k := Int.emod_nonneg _ (by omega)
      have m1 : qTo xs v k % el xs k < el xs k := Int.emod_lt_of_pos _ (by omega)
      have ha := a8_at .u8 (dgTo xs v k) (k := k) (by omega)
      have HS := Lib.hid ((a8_set .u8 (dgTo xs v k) (qTo xs v k % el xs k) (k := k) (by omega)).trans (by rw [dgTo_succ]))
      go_wp2
      exact ⟨⟨k + 1, by omega, by go_num, rfl, by rw [HS.out]⟩, by simp [intOf]; omega⟩
    · obtain rfl : k = xs.length := by omega
      go_wp2
      exact bodyPost_ret (v := .agg #[.int .u8 (dgTo xs v xs.length 0), .int .u8 (dgTo xs v xs.length 1), .int .u8 (dgTo xs v xs.length 2), .int .u8 (dgTo xs v xs.length 3), .int .u8 (dgTo xs v xs.length 4), .int .u8 (dgTo xs v xs.length 5), .int .u8 (dgTo xs v xs.length 6), .int .u8 (dgTo xs v xs.length 7)]) (by simp [results, Try.results99, go_sem]) rfl ⟨rfl, (by repeat' (first | (with_reducible first | assumption | exact Below.refl _ _ | refine Below.drew ?_ | refine Below.alloc ?_ ?_ _ | refine Below.setCell ?_ ?_ _ | refine below_setR ?_ ?_ _ | refine below_dn ?_ _ | refine Below.trans ?_ (below_mo _ _ _ ?_) | refine Below.trans ?_ (below_mq _ _ ?_) | exact Nat.le_refl _) | (simp; done) | (simp; omega) | omega))⟩
/-- what DigitsOf returns -/
def dgOf (xs : List Int) (v : Int) : (Nat → Int) × Int := if okS xs then if inR v 0 (sizeTo xs xs.length - 1) then (dg xs v, 0) else (fun _ => 0, 2) else (fun _ => 0, 1)
set_option maxHeartbeats 1000000 in
theorem specDigitsOf_any {A : Option Addr} {xs : List Int} {W : World} {B : Nat} (hs : Nums .u8 W B A xs) (h8 : b8 xs) (n c : Nat) (hn : xs.length = n) (w : World) (hb : Below B W w) (v : Int) (hv2 : v ≤ 9223372036854775807) : Calls Try.prog 69 #[.slice A n c, .int .i64 v] w fun e w' => e = .returned (.tuple #[.agg #[.int .u8 ((dgOf xs v).1 0), .int .u8 ((dgOf xs v).1 1), .int .u8 ((dgOf xs v).1 2), .int .u8 ((dgOf xs v).1 3), .int .u8 ((dgOf xs v).1 4), .int .u8 ((dgOf xs v).1 5), .int .u8 ((dgOf xs v).1 6), .int .u8 ((dgOf xs v).1 7)], .int .i64 (dgOf xs v).2]) ∧ Below w.heap.size w w' := by
  obtain rfl := hn
  have hb1 := sizeTo_bd h8 xs.length
  have hB := hs.bsz hb
  cases hk : okS xs
  · have HR : Hid (dgOf xs v = (fun _ => 0, 1)) := by unfold Hid dgOf; rw [hk]; rfl
    go_enter Try.func69, Try.ntmps69
    go_wp2_with (go_at_call 97; refine (l01Ok_any hs h8 _ _ rfl _ (by repeat' (first | (with_reducible first | assumption | exact Below.refl _ _ | refine Below.drew ?_ | refine Below.alloc ?_ ?_ _ | refine Below.setCell ?_ ?_ _ | refine below_setR ?_ ?_ _ | refine below_dn ?_ _ | refine Below.trans ?_ (below_mo _ _ _ ?_) | refine Below.trans ?_ (below_mq _ _ ?_) | exact Nat.le_refl _) | (simp; done) | (simp; omega) | omega))).mono ?_; rintro e w' ⟨rfl, rfl⟩)
    go_returns
    exact ⟨by rw [HR.out], (by repeat' (first | (with_reducible first | assumption | exact Below.refl _ _ | refine Below.drew ?_ | refine Below.alloc ?_ ?_ _ | refine Below.setCell ?_ ?_ _ | refine below_setR ?_ ?_ _ | refine below_dn ?_ _ | refine Below.trans ?_ (below_mo _ _ _ ?_) | refine Below.trans ?_ (below_mq _ _ ?_) | exact Nat.le_refl _) | (simp; done) | (simp; omega) | omega))⟩
  · cases hr : inR v 0 (sizeTo xs xs.length - 1)
    · have HR : Hid (dgOf xs v = (fun _ => 0, 2)) := by unfold Hid dgOf; rw [hk, hr]; rfl
      go_enter Try.func69, Try.ntmps69
      go_wp2_with (first | (go_at_call 97; refine (l01Ok_any hs h8 _ _ rfl _ (by repeat' (first | (with_reducible first | assumption | exact Below.refl _ _ | refine Below.drew ?_ | refine Below.alloc ?_ ?_ _ | refine Below.setCell ?_ ?_ _ | refine below_setR ?_ ?_ _ | refine below_dn ?_ _ | refine Below.trans ?_ (below_mo _ _ _ ?_) | refine Below.trans ?_ (below_mq _ _ ?_) | exact Nat.le_refl _) | (simp; done) | (simp; omega) | omega))).mono ?_; rintro e w' ⟨rfl, rfl⟩) | (go_at_call 98; refine (l01Size_any hs h8 _ _ rfl _ (by repeat' (first | (with_reducible first | assumption | exact Below.refl _ _ | refine Below.drew ?_ | refine Below.alloc ?_ ?_ _ | refine Below.setCell ?_ ?_ _ | refine below_setR ?_ ?_ _ | refine below_dn ?_ _ | refine Below.trans ?_ (below_mo _ _ _ ?_) | refine Below.trans ?_ (below_mq _ _ ?_) | exact Nat.le_refl _) | (simp; done) | (simp; omega) | omega))).mono ?_; rintro e w' ⟨rfl, rfl⟩) | (go_at_call 58; refine (l00In_ok _ _ _ _).mono ?_; rintro e w' ⟨rfl, rfl⟩))
      go_returns
      exact ⟨by rw [HR.out], (by repeat' (first | (with_reducible first | assumption | exact Below.refl _ _ | refine Below.drew ?_ | refine Below.alloc ?_ ?_ _ | refine Below.setCell ?_ ?_ _ | refine below_setR ?_ ?_ _ | refine below_dn ?_ _ | refine Below.trans ?_ (below_mo _ _ _ ?_) | refine Below.trans ?_ (below_mq _ _ ?_) | exact Nat.le_refl _) | (simp; done) | (simp; omega) | omega))⟩
    · have HR : Hid (dgOf xs v = (dg xs v, 0)) := by unfold Hid dgOf; rw [hk, hr]; rfl
      have HK := Lib.hid hk
      have hv := (inR_t.1 hr).1
      go_enter Try.func69, Try.ntmps69
      go_wp2_with (first | (go_at_call 97; refine (l01Ok_any hs h8 _ _ rfl _ (by repeat' (first | (with_reducible first | assumption | exact Below.refl _ _ | refine Below.drew ?_ | refine Below.alloc ?_ ?_ _ | refine Below.setCell ?_ ?_ _ | refine below_setR ?_ ?_ _ | refine below_dn ?_ _ | refine Below.trans ?_ (below_mo _ _ _ ?_) | refine Below.trans ?_ (below_mq _ _ ?_) | exact Nat.le_refl _) | (simp; done) | (simp; omega) | omega))).mono ?_; rintro e w' ⟨rfl, rfl⟩) | (go_at_call 98; refine (l01Size_any hs h8 _ _ rfl _ (by repeat' (first | (with_reducible first | assumption | exact Below.refl _ _ | refine Below.drew ?_ | refine Below.alloc ?_ ?_ _ | refine Below.setCell ?_ ?_ _ | refine below_setR ?_ ?_ _ | refine below_dn ?_ _ | refine Below.trans ?_ (below_mo _ _ _ ?_) | refine Below.trans ?_ (below_mq _ _ ?_) | exact Nat.le_refl _) | (simp; done) | (simp; omega) | omega))).mono ?_; rintro e w' ⟨rfl, rfl⟩) | (go_at_call 58; refine (l00In_ok _ _ _ _).mono ?_; rintro e w' ⟨rfl, rfl⟩) | (go_at_call 99; refine (l01Of_any hs h8 _ _ rfl _ (by repeat' (first | (with_reducible first | assumption | exact Below.refl _ _ | refine Below.drew ?_ | refine Below.alloc ?_ ?_ _ | refine Below.setCell ?_ ?_ _ | refine below_setR ?_ ?_ _ | refine below_dn ?_ _ | refine Below.trans ?_ (below_mo _ _ _ ?_) | refine Below.trans ?_ (below_mq _ _ ?_) | exact Nat.le_refl _) | (simp; done) | (simp; omega) | omega)) HK.out _ hv hv2).mono ?_; rintro e w' ⟨rfl, hb_⟩; obtain ⟨os_, d_, rfl⟩ := mo_of hb_; clear hb_))
      go_returns
      exact ⟨by rw [HR.out], (by repeat' (first | (with_reducible first | assumption | exact Below.refl _ _ | refine Below.drew ?_ | refine Below.alloc ?_ ?_ _ | refine Below.setCell ?_ ?_ _ | refine below_setR ?_ ?_ _ | refine below_dn ?_ _ | refine Below.trans ?_ (below_mo _ _ _ ?_) | refine Below.trans ?_ (below_mq _ _ ?_) | exact Nat.le_refl _) | (simp; done) | (simp; omega) | omega))⟩
end Go.Proofs.Ytinjlofefmjolaa.X
