/- Counts on wheels: ways, digits compared, the next value with a digit, moves. Conditions: none. -/
import Derived.Test.YtkphbagckbbalaaKCntW
namespace Go.Proofs.Ytkphbagckbbalaa.X
open Go.RowKit
set_option linter.unusedVariables false
set_option linter.unusedSimpArgs false
set_option maxRecDepth 100000
set_option maxHeartbeats 4000000 in
theorem specWayC {A : Option Addr} {xs : List Int} {W : World} {B : Nat} (hs : Nums .u8 W B A xs) (h8 : b8 xs) (n c : Nat) (hn : xs.length = n) (w : World) (hb : Below B W w) (hok : okS xs = true) {v u : Int} (hv : 0 ≤ v ∧ v < szS xs) (hu : 0 ≤ u ∧ u < szS xs) : Calls Try.prog 41 #[.slice A n c, .agg #[.int .u8 (dg xs v 0), .int .u8 (dg xs v 1), .int .u8 (dg xs v 2), .int .u8 (dg xs v 3), .int .u8 (dg xs v 4), .int .u8 (dg xs v 5), .int .u8 (dg xs v 6), .int .u8 (dg xs v 7)], .agg #[.int .u8 (dg xs u 0), .int .u8 (dg xs u 1), .int .u8 (dg xs u 2), .int .u8 (dg xs u 3), .int .u8 (dg xs u 4), .int .u8 (dg xs u 5), .int .u8 (dg xs u 6), .int .u8 (dg xs u 7)]] w fun e w' => e = .returned (.tuple #[.int .i64 (wayU (szS xs) v u), .int .i64 (wayB (szS xs) v u), .int .i64 0]) ∧ Below w.heap.size w w' := by
  obtain rfl := hn
  have hB := hs.bsz hb
  have hz := szS_bd hok
  have KO1 := Lib.hid (fun W' (hW : Below B W W') => specValidDigits_any hs h8 _ c rfl W' hW (dg xs v) (dg_d8 hok v))
  have KO2 := Lib.hid (fun W' (hW : Below B W W') => specValidDigits_any hs h8 _ c rfl W' hW (dg xs u) (dg_d8 hok u))
  rw [okD_dg hok] at KO1 KO2
  have KV1 := Lib.hid (fun W' (hW : Below B W W') => l01Value_any hs h8 _ c rfl W' hW hok (dg xs v) (dg_d8 hok v) (valid_dg hok v))
  have KV2 := Lib.hid (fun W' (hW : Below B W W') => l01Value_any hs h8 _ c rfl W' hW hok (dg xs u) (dg_d8 hok u) (valid_dg hok u))
  rw [vl_dg hok hv] at KV1
  rw [vl_dg hok hu] at KV2
  have KS := Lib.hid (fun W' (hW : Below B W W') => l01Size_any hs h8 _ c rfl W' hW)
  rw [show sizeTo xs xs.length = szS xs from rfl] at KS
  have HB : Hid (wayB (szS xs) v u = if wayU (szS xs) v u = 0 then 0 else wayU (szS xs) v u - szS xs) := rfl
  have e1 : IntKind.i64.wrap (u - v) = u - v := IntWalk.i64_in _ ⟨by omega, by omega⟩
  have hway := way_cases hv hu
  generalize wayU (szS xs) v u = X at *
  generalize szS xs = Z at *
  have e2 : IntKind.i64.wrap (u - v - Z) = u - v - Z := IntWalk.i64_in _ ⟨by omega, by omega⟩
  have e3 : IntKind.i64.wrap (u - v + Z) = u - v + Z := IntWalk.i64_in _ ⟨by omega, by omega⟩
  rcases hway with ⟨g1, hx⟩ | ⟨g1, hx⟩ | ⟨g1, hx⟩
  · have HX := Lib.hid hx
    have HB2 : Hid (wayB Z v u = u - v - Z) := by show _ = _; rw [HB.out, if_neg (by omega), hx]
    clear hx HB
    go_enter Try.func41, Try.ntmps41
    (go_wp2_with fail; refine (KO1.out _ (by repeat' (first | (with_reducible first | assumption | exact Below.refl _ _ | refine Below.drew ?_ | refine Below.alloc ?_ ?_ _ | refine Below.setCell ?_ ?_ _ | refine below_setR ?_ ?_ _ | refine below_dn ?_ _ | refine Below.trans ?_ (below_mo _ _ _ ?_) | refine Below.trans ?_ (below_mq _ _ ?_) | exact Nat.le_refl _) | (simp; done) | (simp; omega) | omega))).mono ?_; rintro e w' ⟨rfl, hb_⟩; obtain ⟨os0, d0, rfl⟩ := mo_of hb_; clear hb_)
    (go_wp2_with fail; refine (KO2.out _ (by repeat' (first | (with_reducible first | assumption | exact Below.refl _ _ | refine Below.drew ?_ | refine Below.alloc ?_ ?_ _ | refine Below.setCell ?_ ?_ _ | refine below_setR ?_ ?_ _ | refine below_dn ?_ _ | refine Below.trans ?_ (below_mo _ _ _ ?_) | refine Below.trans ?_ (below_mq _ _ ?_) | exact Nat.le_refl _) | (simp; done) | (simp; omega) | omega))).mono ?_; rintro e w' ⟨rfl, hb_⟩; obtain ⟨os1, d1, rfl⟩ := mo_of hb_; clear hb_)
    go_wp2
    (refine wp_region_mq (by kernel_rfl) (by kernel_rfl) ?_; (repeat (first | go_big_quiet_step ((first | (go_at_call 123; ((with_reducible refine quietQ (KV1.out _ ?_) ) <;> (repeat' (first | (with_reducible first | assumption | exact Below.refl _ _ | refine Below.drew ?_ | refine Below.alloc ?_ ?_ _ | refine Below.setCell ?_ ?_ _ | refine below_setR ?_ ?_ _ | refine below_dn ?_ _ | refine Below.trans ?_ (below_mo _ _ _ ?_) | refine Below.trans ?_ (below_mq _ _ ?_) | exact Nat.le_refl _) | (simp; done) | (simp; omega) | omega)))) | (go_at_call 123; ((with_reducible refine quietQ (KV2.out _ ?_) ) <;> (repeat' (first | (with_reducible first | assumption | exact Below.refl _ _ | refine Below.drew ?_ | refine Below.alloc ?_ ?_ _ | refine Below.setCell ?_ ?_ _ | refine below_setR ?_ ?_ _ | refine below_dn ?_ _ | refine Below.trans ?_ (below_mo _ _ _ ?_) | refine Below.trans ?_ (below_mq _ _ ?_) | exact Nat.le_refl _) | (simp; done) | (simp; omega) | omega)))))) | quiet_step ((first | (go_at_call 123; ((with_reducible refine quietQ (KV1.out _ ?_) ) <;> (repeat' (first | (with_reducible first | assumption | exact Below.refl _ _ | refine Below.drew ?_ | refine Below.alloc ?_ ?_ _ | refine Below.setCell ?_ ?_ _ | refine below_setR ?_ ?_ _ | refine below_dn ?_ _ | refine Below.trans ?_ (below_mo _ _ _ ?_) | refine Below.trans ?_ (below_mq _ _ ?_) | exact Nat.le_refl _) | (simp; done) | (simp; omega) | omega)))) | (go_at_call 123; ((with_reducible refine quietQ (KV2.out _ ?_) ) <;> (repeat' (first | (with_reducible first | assumption | exact Below.refl _ _ | refine Below.drew ?_ | refine Below.alloc ?_ ?_ _ | refine Below.setCell ?_ ?_ _ | refine below_setR ?_ ?_ _ | refine below_dn ?_ _ | refine Below.trans ?_ (below_mo _ _ _ ?_) | refine Below.trans ?_ (below_mq _ _ ?_) | exact Nat.le_refl _) | (simp; done) | (simp; omega) | omega)))))))); refine wpQuiet_nil ?_; intro _ hq_; obtain ⟨q_, rfl⟩ := hq_)
    (go_wp2_with fail; refine (KS.out _ (by repeat' (first | (with_reducible first | assumption | exact Below.refl _ _ | refine Below.drew ?_ | refine Below.alloc ?_ ?_ _ | refine Below.setCell ?_ ?_ _ | refine below_setR ?_ ?_ _ | refine below_dn ?_ _ | refine Below.trans ?_ (below_mo _ _ _ ?_) | refine Below.trans ?_ (below_mq _ _ ?_) | exact Nat.le_refl _) | (simp; done) | (simp; omega) | omega))).mono ?_; rintro e w' ⟨rfl, rfl⟩)
    go_wp2
    go_returns
    exact ⟨by rw [HB2.out, HX.out]; rfl, (by repeat' (first | (with_reducible first | assumption | exact Below.refl _ _ | refine Below.drew ?_ | refine Below.alloc ?_ ?_ _ | refine Below.setCell ?_ ?_ _ | refine below_setR ?_ ?_ _ | refine below_dn ?_ _ | refine Below.trans ?_ (below_mo _ _ _ ?_) | refine Below.trans ?_ (below_mq _ _ ?_) | exact Nat.le_refl _) | (simp; done) | (simp; omega) | omega))⟩
  · have HX := Lib.hid hx
    have HB2 : Hid (wayB Z v u = u - v) := by show _ = _; rw [HB.out, if_neg (by omega), hx]; omega
    have g2 : ¬ 0 < u - v := by omega
    clear hx HB
    go_enter Try.func41, Try.ntmps41
    (go_wp2_with fail; refine (KO1.out _ (by repeat' (first | (with_reducible first | assumption | exact Below.refl _ _ | refine Below.drew ?_ | refine Below.alloc ?_ ?_ _ | refine Below.setCell ?_ ?_ _ | refine below_setR ?_ ?_ _ | refine below_dn ?_ _ | refine Below.trans ?_ (below_mo _ _ _ ?_) | refine Below.trans ?_ (below_mq _ _ ?_) | exact Nat.le_refl _) | (simp; done) | (simp; omega) | omega))).mono ?_; rintro e w' ⟨rfl, hb_⟩; obtain ⟨os0, d0, rfl⟩ := mo_of hb_; clear hb_)
    (go_wp2_with fail; refine (KO2.out _ (by repeat' (first | (with_reducible first | assumption | exact Below.refl _ _ | refine Below.drew ?_ | refine Below.alloc ?_ ?_ _ | refine Below.setCell ?_ ?_ _ | refine below_setR ?_ ?_ _ | refine below_dn ?_ _ | refine Below.trans ?_ (below_mo _ _ _ ?_) | refine Below.trans ?_ (below_mq _ _ ?_) | exact Nat.le_refl _) | (simp; done) | (simp; omega) | omega))).mono ?_; rintro e w' ⟨rfl, hb_⟩; obtain ⟨os1, d1, rfl⟩ := mo_of hb_; clear hb_)
    go_wp2
    (refine wp_region_mq (by kernel_rfl) (by kernel_rfl) ?_; (repeat (first | go_big_quiet_step ((first | (go_at_call 123; ((with_reducible refine quietQ (KV1.out _ ?_) ) <;> (repeat' (first | (with_reducible first | assumption | exact Below.refl _ _ | refine Below.drew ?_ | refine Below.alloc ?_ ?_ _ | refine Below.setCell ?_ ?_ _ | refine below_setR ?_ ?_ _ | refine below_dn ?_ _ | refine Below.trans ?_ (below_mo _ _ _ ?_) | refine Below.trans ?_ (below_mq _ _ ?_) | exact Nat.le_refl _) | (simp; done) | (simp; omega) | omega)))) | (go_at_call 123; ((with_reducible refine quietQ (KV2.out _ ?_) ) <;> (repeat' (first | (with_reducible first | assumption | exact Below.refl _ _ | refine Below.drew ?_ | refine Below.alloc ?_ ?_ _ | refine Below.setCell ?_ ?_ _ | refine below_setR ?_ ?_ _ | refine below_dn ?_ _ | refine Below.trans ?_ (below_mo _ _ _ ?_) | refine Below.trans ?_ (below_mq _ _ ?_) | exact Nat.le_refl _) | (simp; done) | (simp; omega) | omega)))))) | quiet_step ((first | (go_at_call 123; ((with_reducible refine quietQ (KV1.out _ ?_) ) <;> (repeat' (first | (with_reducible first | assumption | exact Below.refl _ _ | refine Below.drew ?_ | refine Below.alloc ?_ ?_ _ | refine Below.setCell ?_ ?_ _ | refine below_setR ?_ ?_ _ | refine below_dn ?_ _ | refine Below.trans ?_ (below_mo _ _ _ ?_) | refine Below.trans ?_ (below_mq _ _ ?_) | exact Nat.le_refl _) | (simp; done) | (simp; omega) | omega)))) | (go_at_call 123; ((with_reducible refine quietQ (KV2.out _ ?_) ) <;> (repeat' (first | (with_reducible first | assumption | exact Below.refl _ _ | refine Below.drew ?_ | refine Below.alloc ?_ ?_ _ | refine Below.setCell ?_ ?_ _ | refine below_setR ?_ ?_ _ | refine below_dn ?_ _ | refine Below.trans ?_ (below_mo _ _ _ ?_) | refine Below.trans ?_ (below_mq _ _ ?_) | exact Nat.le_refl _) | (simp; done) | (simp; omega) | omega)))))))); refine wpQuiet_nil ?_; intro _ hq_; obtain ⟨q_, rfl⟩ := hq_)
    (go_wp2_with fail; refine (KS.out _ (by repeat' (first | (with_reducible first | assumption | exact Below.refl _ _ | refine Below.drew ?_ | refine Below.alloc ?_ ?_ _ | refine Below.setCell ?_ ?_ _ | refine below_setR ?_ ?_ _ | refine below_dn ?_ _ | refine Below.trans ?_ (below_mo _ _ _ ?_) | refine Below.trans ?_ (below_mq _ _ ?_) | exact Nat.le_refl _) | (simp; done) | (simp; omega) | omega))).mono ?_; rintro e w' ⟨rfl, rfl⟩)
    go_wp2
    go_returns
    exact ⟨by rw [HB2.out, HX.out]; rfl, (by repeat' (first | (with_reducible first | assumption | exact Below.refl _ _ | refine Below.drew ?_ | refine Below.alloc ?_ ?_ _ | refine Below.setCell ?_ ?_ _ | refine below_setR ?_ ?_ _ | refine below_dn ?_ _ | refine Below.trans ?_ (below_mo _ _ _ ?_) | refine Below.trans ?_ (below_mq _ _ ?_) | exact Nat.le_refl _) | (simp; done) | (simp; omega) | omega))⟩
  · have HX := Lib.hid hx
    have HB2 : Hid (wayB Z v u = 0) := by show _ = _; rw [HB.out, if_pos hx]
    have g2 : ¬ 0 < u - v := by omega
    have g3 : ¬ u - v < 0 := by omega
    clear hx HB g1
    go_enter Try.func41, Try.ntmps41
    (go_wp2_with fail; refine (KO1.out _ (by repeat' (first | (with_reducible first | assumption | exact Below.refl _ _ | refine Below.drew ?_ | refine Below.alloc ?_ ?_ _ | refine Below.setCell ?_ ?_ _ | refine below_setR ?_ ?_ _ | refine below_dn ?_ _ | refine Below.trans ?_ (below_mo _ _ _ ?_) | refine Below.trans ?_ (below_mq _ _ ?_) | exact Nat.le_refl _) | (simp; done) | (simp; omega) | omega))).mono ?_; rintro e w' ⟨rfl, hb_⟩; obtain ⟨os0, d0, rfl⟩ := mo_of hb_; clear hb_)
    (go_wp2_with fail; refine (KO2.out _ (by repeat' (first | (with_reducible first | assumption | exact Below.refl _ _ | refine Below.drew ?_ | refine Below.alloc ?_ ?_ _ | refine Below.setCell ?_ ?_ _ | refine below_setR ?_ ?_ _ | refine below_dn ?_ _ | refine Below.trans ?_ (below_mo _ _ _ ?_) | refine Below.trans ?_ (below_mq _ _ ?_) | exact Nat.le_refl _) | (simp; done) | (simp; omega) | omega))).mono ?_; rintro e w' ⟨rfl, hb_⟩; obtain ⟨os1, d1, rfl⟩ := mo_of hb_; clear hb_)
    go_wp2
    (refine wp_region_mq (by kernel_rfl) (by kernel_rfl) ?_; (repeat (first | go_big_quiet_step ((first | (go_at_call 123; ((with_reducible refine quietQ (KV1.out _ ?_) ) <;> (repeat' (first | (with_reducible first | assumption | exact Below.refl _ _ | refine Below.drew ?_ | refine Below.alloc ?_ ?_ _ | refine Below.setCell ?_ ?_ _ | refine below_setR ?_ ?_ _ | refine below_dn ?_ _ | refine Below.trans ?_ (below_mo _ _ _ ?_) | refine Below.trans ?_ (below_mq _ _ ?_) | exact Nat.le_refl _) | (simp; done) | (simp; omega) | omega)))) | (go_at_call 123; ((with_reducible refine quietQ (KV2.out _ ?_) ) <;> (repeat' (first | (with_reducible first | assumption | exact Below.refl _ _ | refine Below.drew ?_ | refine Below.alloc ?_ ?_ _ | refine Below.setCell ?_ ?_ _ | refine below_setR ?_ ?_ _ | refine below_dn ?_ _ | refine Below.trans ?_ (below_mo _ _ _ ?_) | refine Below.trans ?_ (below_mq _ _ ?_) | exact Nat.le_refl _) | (simp; done) | (simp; omega) | omega)))))) | quiet_step ((first | (go_at_call 123; ((with_reducible refine quietQ (KV1.out _ ?_) ) <;> (repeat' (first | (with_reducible first | assumption | exact Below.refl _ _ | refine Below.drew ?_ | refine Below.alloc ?_ ?_ _ | refine Below.setCell ?_ ?_ _ | refine below_setR ?_ ?_ _ | refine below_dn ?_ _ | refine Below.trans ?_ (below_mo _ _ _ ?_) | refine Below.trans ?_ (below_mq _ _ ?_) | exact Nat.le_refl _) | (simp; done) | (simp; omega) | omega)))) | (go_at_call 123; ((with_reducible refine quietQ (KV2.out _ ?_) ) <;> (repeat' (first | (with_reducible first | assumption | exact Below.refl _ _ | refine Below.drew ?_ | refine Below.alloc ?_ ?_ _ | refine Below.setCell ?_ ?_ _ | refine below_setR ?_ ?_ _ | refine below_dn ?_ _ | refine Below.trans ?_ (below_mo _ _ _ ?_) | refine Below.trans ?_ (below_mq _ _ ?_) | exact Nat.le_refl _) | (simp; done) | (simp; omega) | omega)))))))); refine wpQuiet_nil ?_; intro _ hq_; obtain ⟨q_, rfl⟩ := hq_)
    go_wp2
    go_returns
    exact ⟨by rw [HB2.out, HX.out]; rfl, (by repeat' (first | (with_reducible first | assumption | exact Below.refl _ _ | refine Below.drew ?_ | refine Below.alloc ?_ ?_ _ | refine Below.setCell ?_ ?_ _ | refine below_setR ?_ ?_ _ | refine below_dn ?_ _ | refine Below.trans ?_ (below_mo _ _ _ ?_) | refine Below.trans ?_ (below_mq _ _ ?_) | exact Nat.le_refl _) | (simp; done) | (simp; omega) | omega))⟩
def sgnC (n : Int) : Int := min (max n (-1)) 1
theorem signC (n : Int) (w : World) : Calls Try.prog 126 #[.int .i64 n] w fun e w' => e = .returned (.int .i64 (sgnC n)) ∧ w = w' := by
  have HV : Hid (sgnC n = min (max n (-1)) 1) := rfl
  go_enter Try.func126, Try.ntmps126
  go_wp2
  all_goals
    go_ret
    exact ⟨congrArg (fun z => Ending.returned (Value.int .i64 z)) (by rw [HV.out]; omega), rfl⟩
set_option maxHeartbeats 4000000 in
theorem CompareC {A : Option Addr} {xs : List Int} {W : World} {B : Nat} (hs : Nums .u8 W B A xs) (h8 : b8 xs) (n c : Nat) (hn : xs.length = n) (w : World) (hb : Below B W w) (hok : okS xs = true) {v u : Int} (hv : 0 ≤ v ∧ v < szS xs) (hu : 0 ≤ u ∧ u < szS xs) : Calls Try.prog 42 #[.slice A n c, .agg #[.int .u8 (dg xs v 0), .int .u8 (dg xs v 1), .int .u8 (dg xs v 2), .int .u8 (dg xs v 3), .int .u8 (dg xs v 4), .int .u8 (dg xs v 5), .int .u8 (dg xs v 6), .int .u8 (dg xs v 7)], .agg #[.int .u8 (dg xs u 0), .int .u8 (dg xs u 1), .int .u8 (dg xs u 2), .int .u8 (dg xs u 3), .int .u8 (dg xs u 4), .int .u8 (dg xs u 5), .int .u8 (dg xs u 6), .int .u8 (dg xs u 7)]] w fun e w' => e = .returned (.tuple #[.int .i64 (sgnC (v - u)), .int .i64 0]) ∧ Below w.heap.size w w' := by
  obtain rfl := hn
  have hB := hs.bsz hb
  have hz := szS_bd hok
  have KO1 := Lib.hid (fun W' (hW : Below B W W') => ValidDigits_any hs h8 _ c rfl W' hW (dg xs v) (dg_d8 hok v))
  have KO2 := Lib.hid (fun W' (hW : Below B W W') => ValidDigits_any hs h8 _ c rfl W' hW (dg xs u) (dg_d8 hok u))
  rw [okD_dg hok] at KO1 KO2
  have KV1 := Lib.hid (fun W' (hW : Below B W W') => value_any hs h8 _ c rfl W' hW hok (dg xs v) (dg_d8 hok v) (valid_dg hok v))
  have KV2 := Lib.hid (fun W' (hW : Below B W W') => value_any hs h8 _ c rfl W' hW hok (dg xs u) (dg_d8 hok u) (valid_dg hok u))
  rw [vl_dg hok hv] at KV1
  rw [vl_dg hok hu] at KV2
  have e1 : IntKind.i64.wrap (v - u) = v - u := IntWalk.i64_in _ ⟨by omega, by omega⟩
  go_enter Try.func42, Try.ntmps42
  (go_wp2_with fail; refine (KO1.out _ (by repeat' (first | (with_reducible first | assumption | exact Below.refl _ _ | refine Below.drew ?_ | refine Below.alloc ?_ ?_ _ | refine Below.setCell ?_ ?_ _ | refine below_setR ?_ ?_ _ | refine below_dn ?_ _ | refine Below.trans ?_ (below_mo _ _ _ ?_) | refine Below.trans ?_ (below_mq _ _ ?_) | exact Nat.le_refl _) | (simp; done) | (simp; omega) | omega))).mono ?_; rintro e w' ⟨rfl, hb_⟩; obtain ⟨os0, d0, rfl⟩ := mo_of hb_; clear hb_)
  (go_wp2_with fail; refine (KO2.out _ (by repeat' (first | (with_reducible first | assumption | exact Below.refl _ _ | refine Below.drew ?_ | refine Below.alloc ?_ ?_ _ | refine Below.setCell ?_ ?_ _ | refine below_setR ?_ ?_ _ | refine below_dn ?_ _ | refine Below.trans ?_ (below_mo _ _ _ ?_) | refine Below.trans ?_ (below_mq _ _ ?_) | exact Nat.le_refl _) | (simp; done) | (simp; omega) | omega))).mono ?_; rintro e w' ⟨rfl, hb_⟩; obtain ⟨os1, d1, rfl⟩ := mo_of hb_; clear hb_)
  go_wp2
  (refine wp_region_mq (by kernel_rfl) (by kernel_rfl) ?_; (repeat (first | go_big_quiet_step ((first | (go_at_call 120; ((with_reducible refine quietQ (KV1.out _ ?_) ) <;> (repeat' (first | (with_reducible first | assumption | exact Below.refl _ _ | refine Below.drew ?_ | refine Below.alloc ?_ ?_ _ | refine Below.setCell ?_ ?_ _ | refine below_setR ?_ ?_ _ | refine below_dn ?_ _ | refine Below.trans ?_ (below_mo _ _ _ ?_) | refine Below.trans ?_ (below_mq _ _ ?_) | exact Nat.le_refl _) | (simp; done) | (simp; omega) | omega)))) | (go_at_call 120; ((with_reducible refine quietQ (KV2.out _ ?_) ) <;> (repeat' (first | (with_reducible first | assumption | exact Below.refl _ _ | refine Below.drew ?_ | refine Below.alloc ?_ ?_ _ | refine Below.setCell ?_ ?_ _ | refine below_setR ?_ ?_ _ | refine below_dn ?_ _ | refine Below.trans ?_ (below_mo _ _ _ ?_) | refine Below.trans ?_ (below_mq _ _ ?_) | exact Nat.le_refl _) | (simp; done) | (simp; omega) | omega)))) | (go_at_call 126; with_reducible exact quietS (signC _ _) ))) | quiet_step ((first | (go_at_call 120; ((with_reducible refine quietQ (KV1.out _ ?_) ) <;> (repeat' (first | (with_reducible first | assumption | exact Below.refl _ _ | refine Below.drew ?_ | refine Below.alloc ?_ ?_ _ | refine Below.setCell ?_ ?_ _ | refine below_setR ?_ ?_ _ | refine below_dn ?_ _ | refine Below.trans ?_ (below_mo _ _ _ ?_) | refine Below.trans ?_ (below_mq _ _ ?_) | exact Nat.le_refl _) | (simp; done) | (simp; omega) | omega)))) | (go_at_call 120; ((with_reducible refine quietQ (KV2.out _ ?_) ) <;> (repeat' (first | (with_reducible first | assumption | exact Below.refl _ _ | refine Below.drew ?_ | refine Below.alloc ?_ ?_ _ | refine Below.setCell ?_ ?_ _ | refine below_setR ?_ ?_ _ | refine below_dn ?_ _ | refine Below.trans ?_ (below_mo _ _ _ ?_) | refine Below.trans ?_ (below_mq _ _ ?_) | exact Nat.le_refl _) | (simp; done) | (simp; omega) | omega)))) | (go_at_call 126; with_reducible exact quietS (signC _ _) ))))); refine wpQuiet_nil ?_; intro _ hq_; obtain ⟨q_, rfl⟩ := hq_)
  go_wp2
  go_returns
  exact ⟨rfl, (by repeat' (first | (with_reducible first | assumption | exact Below.refl _ _ | refine Below.drew ?_ | refine Below.alloc ?_ ?_ _ | refine Below.setCell ?_ ?_ _ | refine below_setR ?_ ?_ _ | refine below_dn ?_ _ | refine Below.trans ?_ (below_mo _ _ _ ?_) | refine Below.trans ?_ (below_mq _ _ ?_) | exact Nat.le_refl _) | (simp; done) | (simp; omega) | omega))⟩
theorem ValueOfC {A : Option Addr} {xs : List Int} {W : World} {B : Nat} (hs : Nums .u8 W B A xs) (h8 : b8 xs) (n c : Nat) (hn : xs.length = n) (w : World) (hb : Below B W w) (hok : okS xs = true) {v : Int} (hv : 0 ≤ v ∧ v < szS xs) : Calls Try.prog 43 #[.slice A n c, .agg #[.int .u8 (dg xs v 0), .int .u8 (dg xs v 1), .int .u8 (dg xs v 2), .int .u8 (dg xs v 3), .int .u8 (dg xs v 4), .int .u8 (dg xs v 5), .int .u8 (dg xs v 6), .int .u8 (dg xs v 7)]] w fun e w' => e = .returned (.tuple #[.int .i64 v, .int .i64 0]) ∧ Below w.heap.size w w' := by
  obtain rfl := hn
  have hB := hs.bsz hb
  have KO1 := Lib.hid (fun W' (hW : Below B W W') => specValidDigits_any hs h8 _ c rfl W' hW (dg xs v) (dg_d8 hok v))
  rw [okD_dg hok] at KO1
  have KV1 := Lib.hid (fun W' (hW : Below B W W') => l01Value_any hs h8 _ c rfl W' hW hok (dg xs v) (dg_d8 hok v) (valid_dg hok v))
  rw [vl_dg hok hv] at KV1
  go_enter Try.func43, Try.ntmps43
  (go_wp2_with fail; refine (KO1.out _ (by repeat' (first | (with_reducible first | assumption | exact Below.refl _ _ | refine Below.drew ?_ | refine Below.alloc ?_ ?_ _ | refine Below.setCell ?_ ?_ _ | refine below_setR ?_ ?_ _ | refine below_dn ?_ _ | refine Below.trans ?_ (below_mo _ _ _ ?_) | refine Below.trans ?_ (below_mq _ _ ?_) | exact Nat.le_refl _) | (simp; done) | (simp; omega) | omega))).mono ?_; rintro e w' ⟨rfl, hb_⟩; obtain ⟨os0, d0, rfl⟩ := mo_of hb_; clear hb_)
  (go_wp2_with fail; refine (KV1.out _ (by repeat' (first | (with_reducible first | assumption | exact Below.refl _ _ | refine Below.drew ?_ | refine Below.alloc ?_ ?_ _ | refine Below.setCell ?_ ?_ _ | refine below_setR ?_ ?_ _ | refine below_dn ?_ _ | refine Below.trans ?_ (below_mo _ _ _ ?_) | refine Below.trans ?_ (below_mq _ _ ?_) | exact Nat.le_refl _) | (simp; done) | (simp; omega) | omega))).mono ?_; rintro e w' ⟨rfl, hb_⟩; obtain ⟨os1, d1, rfl⟩ := mo_of hb_; clear hb_)
  go_wp2
  go_returns
  exact ⟨rfl, (by repeat' (first | (with_reducible first | assumption | exact Below.refl _ _ | refine Below.drew ?_ | refine Below.alloc ?_ ?_ _ | refine Below.setCell ?_ ?_ _ | refine below_setR ?_ ?_ _ | refine below_dn ?_ _ | refine Below.trans ?_ (below_mo _ _ _ ?_) | refine Below.trans ?_ (below_mq _ _ ?_) | exact Nat.le_refl _) | (simp; done) | (simp; omega) | omega))⟩
/-- what NextWith tells -/
def nextV (xs : List Int) (v : Int) (k : Nat) (d : Int) : Int := if dg xs v k = d then 0 else nxW (pr xs k) (el xs (k : Int)) v d
set_option maxHeartbeats 4000000 in
theorem implNextC {A : Option Addr} {xs : List Int} {W : World} {B : Nat} (hs : Nums .u8 W B A xs) (h8 : b8 xs) (c : Nat) (hc : xs.length ≤ c) (hok : okS xs = true) (k : Nat) (hk : k < xs.length) {d v : Int} (hd : 0 ≤ d ∧ d < el xs (k : Int)) (hv : 0 ≤ v ∧ v < szS xs) (w : World) (hb : Below B W w) : Calls Try.prog 44 #[.slice A xs.length c, .agg #[.int .u8 (dg xs v 0), .int .u8 (dg xs v 1), .int .u8 (dg xs v 2), .int .u8 (dg xs v 3), .int .u8 (dg xs v 4), .int .u8 (dg xs v 5), .int .u8 (dg xs v 6), .int .u8 (dg xs v 7)], .int .i64 (k : Int), .int .i64 d] w fun e w' => e = .returned (.tuple #[.int .i64 (nextV xs v k d), .int .i64 0]) ∧ Below w.heap.size w w' := by
  have hB := hs.bsz hb
  have hz := szS_bd hok
  have hl8 := okS_len hok
  have hkb := place_bd hok hk
  have KO1 := Lib.hid (fun W' (hW : Below B W W') => ValidDigits_any hs h8 _ c rfl W' hW (dg xs v) (dg_d8 hok v))
  rw [okD_dg hok] at KO1
  have KV1 := Lib.hid (fun W' (hW : Below B W W') => value_any hs h8 _ c rfl W' hW hok (dg xs v) (dg_d8 hok v) (valid_dg hok v))
  rw [vl_dg hok hv] at KV1
  have KD := Lib.hid (fun W' (hW : Below B W W') => hasDigitC hs c k hk hd (by omega) W' hW)
  have KP := Lib.hid (fun W' (hW : Below B W W') => placeC hs h8 c hc hok k hk W' hW)
  have dgb := dg_bdC hok v hk
  have hd8 := a8_at .u8 (dg xs v) (show k < 8 by omega)
  obtain ⟨b, off, rfl, hbs, hcc⟩ := hs.at hb hk
  have g0 : (0 : Int) ≤ (k : Int) := by omega
  have g1 : (k : Int) < (xs.length : Int) := by omega
  have g2 : (k : Int) < 8 := by omega
  have g3 : k < 8 := by omega
  have e1 : IntKind.i64.wrap (dg xs v k) = dg xs v k := IntWalk.i64_in _ ⟨by omega, by omega⟩
  by_cases hq : dg xs v k = d
  · have HR : Hid (nextV xs v k d = 0) := if_pos hq
    have b1 : (dg xs v k == d) = true := by rw [hq]; exact beq_self_eq_true d
    clear hd
    go_enter Try.func44, Try.ntmps44
    (go_wp2_with fail; refine (KO1.out _ (by repeat' (first | (with_reducible first | assumption | exact Below.refl _ _ | refine Below.drew ?_ | refine Below.alloc ?_ ?_ _ | refine Below.setCell ?_ ?_ _ | refine below_setR ?_ ?_ _ | refine below_dn ?_ _ | refine Below.trans ?_ (below_mo _ _ _ ?_) | refine Below.trans ?_ (below_mq _ _ ?_) | exact Nat.le_refl _) | (simp; done) | (simp; omega) | omega))).mono ?_; rintro e w' ⟨rfl, hb_⟩; obtain ⟨os0, d0, rfl⟩ := mo_of hb_; clear hb_)
    (go_wp2_with fail; refine (KD.out _ (by repeat' (first | (with_reducible first | assumption | exact Below.refl _ _ | refine Below.drew ?_ | refine Below.alloc ?_ ?_ _ | refine Below.setCell ?_ ?_ _ | refine below_setR ?_ ?_ _ | refine below_dn ?_ _ | refine Below.trans ?_ (below_mo _ _ _ ?_) | refine Below.trans ?_ (below_mq _ _ ?_) | exact Nat.le_refl _) | (simp; done) | (simp; omega) | omega))).mono ?_; rintro e w' ⟨rfl, rfl⟩)
    go_wp2
    go_returns
    exact ⟨by rw [HR.out]; rfl, (by repeat' (first | (with_reducible first | assumption | exact Below.refl _ _ | refine Below.drew ?_ | refine Below.alloc ?_ ?_ _ | refine Below.setCell ?_ ?_ _ | refine below_setR ?_ ?_ _ | refine below_dn ?_ _ | refine Below.trans ?_ (below_mo _ _ _ ?_) | refine Below.trans ?_ (below_mq _ _ ?_) | exact Nat.le_refl _) | (simp; done) | (simp; omega) | omega))⟩
  · have HR : Hid (nextV xs v k d = nxW (pr xs k) (el xs (k : Int)) v d) := if_neg hq
    have b1 : (dg xs v k == d) = false := beq_eq_false_iff_ne.2 hq
    have HN : Hid (nxW (pr xs k) (el xs (k : Int)) v d = (d * pr xs k - v) % (pr xs k * el xs (k : Int))) := by
      unfold Hid nxW
      simp
    obtain ⟨⟨p0, p1⟩, ⟨s0, s1⟩, q0, q1⟩ := hkb
    have dp := mul_bdC hd.1 (show d ≤ 100 by omega) (show 0 ≤ pr xs k by omega) p1
    generalize pr xs k = p at *
    have e2 : IntKind.i64.wrap (el xs (k : Int)) = el xs (k : Int) := IntWalk.i64_in _ ⟨by omega, by omega⟩
    generalize hqq : p * el xs (k : Int) = q at *
    have e3 : IntKind.i64.wrap (p * el xs (k : Int)) = q := by rw [hqq]; exact IntWalk.i64_in _ ⟨by omega, by omega⟩
    have m0 := Int.emod_nonneg v (show q ≠ 0 by omega)
    have m1 := Int.emod_lt_of_pos v (show 0 < q by omega)
    have e4 : v.tmod q = v % q := Int.tmod_eq_emod_of_nonneg hv.1
    have e5 : IntKind.i64.wrap (v % q) = v % q := IntWalk.i64_in _ ⟨by omega, by omega⟩
    have e6 : IntKind.i64.wrap (d * p) = d * p := IntWalk.i64_in _ ⟨by omega, by omega⟩
    have e7 : IntKind.i64.wrap (d * p - v % q) = d * p - v % q := IntWalk.i64_in _ ⟨by omega, by omega⟩
    have KW := Lib.hid (fun W' => wrapped_any (d * p - v % q) q W' (by omega) (by omega))
    have z1 : ¬ q = 0 := by omega
    have z2 : (q == 0) = false := beq_eq_false_iff_ne.2 z1
    clear hd dp m0 m1 hqq
    go_enter Try.func44, Try.ntmps44
    (go_wp2_with fail; refine (KO1.out _ (by repeat' (first | (with_reducible first | assumption | exact Below.refl _ _ | refine Below.drew ?_ | refine Below.alloc ?_ ?_ _ | refine Below.setCell ?_ ?_ _ | refine below_setR ?_ ?_ _ | refine below_dn ?_ _ | refine Below.trans ?_ (below_mo _ _ _ ?_) | refine Below.trans ?_ (below_mq _ _ ?_) | exact Nat.le_refl _) | (simp; done) | (simp; omega) | omega))).mono ?_; rintro e w' ⟨rfl, hb_⟩; obtain ⟨os0, d0, rfl⟩ := mo_of hb_; clear hb_)
    (go_wp2_with fail; refine (KD.out _ (by repeat' (first | (with_reducible first | assumption | exact Below.refl _ _ | refine Below.drew ?_ | refine Below.alloc ?_ ?_ _ | refine Below.setCell ?_ ?_ _ | refine below_setR ?_ ?_ _ | refine below_dn ?_ _ | refine Below.trans ?_ (below_mo _ _ _ ?_) | refine Below.trans ?_ (below_mq _ _ ?_) | exact Nat.le_refl _) | (simp; done) | (simp; omega) | omega))).mono ?_; rintro e w' ⟨rfl, rfl⟩)
    (go_wp2_with fail; refine (KP.out _ (by repeat' (first | (with_reducible first | assumption | exact Below.refl _ _ | refine Below.drew ?_ | refine Below.alloc ?_ ?_ _ | refine Below.setCell ?_ ?_ _ | refine below_setR ?_ ?_ _ | refine below_dn ?_ _ | refine Below.trans ?_ (below_mo _ _ _ ?_) | refine Below.trans ?_ (below_mq _ _ ?_) | exact Nat.le_refl _) | (simp; done) | (simp; omega) | omega))).mono ?_; rintro e w' ⟨rfl, rfl⟩)
    (go_wp2_with fail; refine (KV1.out _ (by repeat' (first | (with_reducible first | assumption | exact Below.refl _ _ | refine Below.drew ?_ | refine Below.alloc ?_ ?_ _ | refine Below.setCell ?_ ?_ _ | refine below_setR ?_ ?_ _ | refine below_dn ?_ _ | refine Below.trans ?_ (below_mo _ _ _ ?_) | refine Below.trans ?_ (below_mq _ _ ?_) | exact Nat.le_refl _) | (simp; done) | (simp; omega) | omega))).mono ?_; rintro e w' ⟨rfl, hb_⟩; obtain ⟨os1, d1, rfl⟩ := mo_of hb_; clear hb_)
    (go_wp2_with fail; refine (KW.out _).mono ?_; rintro e w' ⟨rfl, rfl⟩)
    go_wp2
    go_returns
    exact ⟨by rw [HR.out, HN.out]; rfl, (by repeat' (first | (with_reducible first | assumption | exact Below.refl _ _ | refine Below.drew ?_ | refine Below.alloc ?_ ?_ _ | refine Below.setCell ?_ ?_ _ | refine below_setR ?_ ?_ _ | refine below_dn ?_ _ | refine Below.trans ?_ (below_mo _ _ _ ?_) | refine Below.trans ?_ (below_mq _ _ ?_) | exact Nat.le_refl _) | (simp; done) | (simp; omega) | omega))⟩
end Go.Proofs.Ytkphbagckbbalaa.X
