/- Counts are added to digits, in steps too. Conditions: none. -/
import Derived.Test.YtkphbagckbbalaaKAdd
namespace Go.Proofs.Ytkphbagckbbalaa.X
open Go.RowKit
set_option linter.unusedVariables false
set_option linter.unusedSimpArgs false
set_option maxRecDepth 100000
theorem vl_okD {xs : List Int} {f : Nat → Int} (h : okD xs f = true) (hf : d8 f) : okS xs = true ∧ (∀ i : Nat, i < xs.length → f i < el xs i) ∧ 0 ≤ vl xs f ∧ vl xs f ≤ 1000000000000 ∧ 1 ≤ szS xs ∧ szS xs ≤ 1000000000000 := by
  obtain ⟨h1, h2, _⟩ := okD_parts h
  obtain ⟨h3, h4⟩ := vl_lt h hf
  obtain ⟨h5, h6⟩ := szS_bd h1
  exact ⟨h1, h2, h3, by omega, by omega, h6⟩
set_option maxHeartbeats 1000000 in
theorem added_any {A : Option Addr} {xs : List Int} {W : World} {B : Nat} (hs : Nums .u8 W B A xs) (h8 : b8 xs) (n c : Nat) (hn : xs.length = n) (w : World) (hb : Below B W w) (f : Nat → Int) (hf : d8 f) (hk : okD xs f = true) (v : Int) (hv : -1000000000000 ≤ v ∧ v ≤ 1000000000000) : Calls Try.prog 116 #[.slice A n c, .agg #[.int .u8 (f 0), .int .u8 (f 1), .int .u8 (f 2), .int .u8 (f 3), .int .u8 (f 4), .int .u8 (f 5), .int .u8 (f 6), .int .u8 (f 7)], .int .i64 v] w fun e w' => e = .returned (.tuple #[.agg #[.int .u8 (dg xs ((vl xs f + v) % szS xs) 0), .int .u8 (dg xs ((vl xs f + v) % szS xs) 1), .int .u8 (dg xs ((vl xs f + v) % szS xs) 2), .int .u8 (dg xs ((vl xs f + v) % szS xs) 3), .int .u8 (dg xs ((vl xs f + v) % szS xs) 4), .int .u8 (dg xs ((vl xs f + v) % szS xs) 5), .int .u8 (dg xs ((vl xs f + v) % szS xs) 6), .int .u8 (dg xs ((vl xs f + v) % szS xs) 7)], .int .i64 ((vl xs f + v) / szS xs)]) ∧ Below w.heap.size w w' := by
  obtain rfl := hn
  have hB := hs.bsz hb
  obtain ⟨h1, h2, h3, h4, h5, h6⟩ := vl_okD hk hf
  have H1 := Lib.hid h1
  have H2 := Lib.hid h2
  have HF := Lib.hid hf
  obtain ⟨_, m0, m1⟩ := ediv_bd (a := vl xs f + v) (show 0 < szS xs by omega)
  have HS : Hid (szS xs = sizeTo xs xs.length) := rfl
  clear hk hf h1 h2
  go_enter Try.func116, Try.ntmps116
  go_wp2_with (first | (go_at_call 120; refine (value_any hs h8 _ _ rfl _ (by repeat' (first | (with_reducible first | assumption | exact Below.refl _ _ | refine Below.drew ?_ | refine Below.alloc ?_ ?_ _ | refine Below.setCell ?_ ?_ _ | refine below_setR ?_ ?_ _ | refine below_dn ?_ _ | refine Below.trans ?_ (below_mo _ _ _ ?_) | refine Below.trans ?_ (below_mq _ _ ?_) | exact Nat.le_refl _) | (simp; done) | (simp; omega) | omega)) H1.out f HF.out H2.out).mono ?_; rintro e w' ⟨rfl, hb_⟩; obtain ⟨os_, d_, rfl⟩ := mo_of hb_; clear hb_) | (go_at_call 82; refine (size_any hs h8 _ _ rfl _ (by repeat' (first | (with_reducible first | assumption | exact Below.refl _ _ | refine Below.drew ?_ | refine Below.alloc ?_ ?_ _ | refine Below.setCell ?_ ?_ _ | refine below_setR ?_ ?_ _ | refine below_dn ?_ _ | refine Below.trans ?_ (below_mo _ _ _ ?_) | refine Below.trans ?_ (below_mq _ _ ?_) | exact Nat.le_refl _) | (simp; done) | (simp; omega) | omega))).mono ?_; rintro e w' ⟨rfl, rfl⟩) | (go_at_call 81; refine (wrapped_any (vl xs f + v) (szS xs) _ (by omega) (by omega)).mono ?_; rintro e w' ⟨rfl, rfl⟩) | (go_at_call 170; refine (digits_any hs h8 _ _ rfl _ (by repeat' (first | (with_reducible first | assumption | exact Below.refl _ _ | refine Below.drew ?_ | refine Below.alloc ?_ ?_ _ | refine Below.setCell ?_ ?_ _ | refine below_setR ?_ ?_ _ | refine below_dn ?_ _ | refine Below.trans ?_ (below_mo _ _ _ ?_) | refine Below.trans ?_ (below_mq _ _ ?_) | exact Nat.le_refl _) | (simp; done) | (simp; omega) | omega)) H1.out _ m0 (by omega)).mono ?_; rintro e w' ⟨rfl, hb_⟩; obtain ⟨os_, d_, rfl⟩ := mo_of hb_; clear hb_))
  go_returns
  exact ⟨rfl, (by repeat' (first | (with_reducible first | assumption | exact Below.refl _ _ | refine Below.drew ?_ | refine Below.alloc ?_ ?_ _ | refine Below.setCell ?_ ?_ _ | refine below_setR ?_ ?_ _ | refine below_dn ?_ _ | refine Below.trans ?_ (below_mo _ _ _ ?_) | refine Below.trans ?_ (below_mq _ _ ?_) | exact Nat.le_refl _) | (simp; done) | (simp; omega) | omega))⟩
set_option maxHeartbeats 1000000 in
theorem l01Add_any {A : Option Addr} {xs : List Int} {W : World} {B : Nat} (hs : Nums .u8 W B A xs) (h8 : b8 xs) (n c : Nat) (hn : xs.length = n) (w : World) (hb : Below B W w) (f : Nat → Int) (hf : d8 f) (hk : okD xs f = true) (v : Int) (hv : -1000000000000 ≤ v ∧ v ≤ 1000000000000) : Calls Try.prog 119 #[.slice A n c, .agg #[.int .u8 (f 0), .int .u8 (f 1), .int .u8 (f 2), .int .u8 (f 3), .int .u8 (f 4), .int .u8 (f 5), .int .u8 (f 6), .int .u8 (f 7)], .int .i64 v] w fun e w' => e = .returned (.tuple #[.agg #[.int .u8 (dg xs ((vl xs f + v) % szS xs) 0), .int .u8 (dg xs ((vl xs f + v) % szS xs) 1), .int .u8 (dg xs ((vl xs f + v) % szS xs) 2), .int .u8 (dg xs ((vl xs f + v) % szS xs) 3), .int .u8 (dg xs ((vl xs f + v) % szS xs) 4), .int .u8 (dg xs ((vl xs f + v) % szS xs) 5), .int .u8 (dg xs ((vl xs f + v) % szS xs) 6), .int .u8 (dg xs ((vl xs f + v) % szS xs) 7)], .int .i64 ((vl xs f + v) / szS xs)]) ∧ Below w.heap.size w w' := by
  obtain rfl := hn
  have hB := hs.bsz hb
  obtain ⟨h1, h2, h3, h4, h5, h6⟩ := vl_okD hk hf
  have H1 := Lib.hid h1
  have H2 := Lib.hid h2
  have HF := Lib.hid hf
  obtain ⟨hx, m0, m1⟩ := ediv_bd (a := vl xs f + v) (show 0 < szS xs by omega)
  have d4 : -2000000000000 ≤ (vl xs f + v) / szS xs * szS xs := by omega
  have d5 : (vl xs f + v) / szS xs * szS xs ≤ 2000000000000 := by omega
  have d7 : 0 ≤ vl xs f + v - (vl xs f + v) / szS xs * szS xs := by omega
  have d8' : vl xs f + v - (vl xs f + v) / szS xs * szS xs ≤ 1000000000000 := by omega
  have HX := Lib.hid hx
  clear hk hf h1 h2 hx
  go_enter Try.func119, Try.ntmps119
  go_wp2_with (first | (go_at_call 123; refine (l01Value_any hs h8 _ _ rfl _ (by repeat' (first | (with_reducible first | assumption | exact Below.refl _ _ | refine Below.drew ?_ | refine Below.alloc ?_ ?_ _ | refine Below.setCell ?_ ?_ _ | refine below_setR ?_ ?_ _ | refine below_dn ?_ _ | refine Below.trans ?_ (below_mo _ _ _ ?_) | refine Below.trans ?_ (below_mq _ _ ?_) | exact Nat.le_refl _) | (simp; done) | (simp; omega) | omega)) H1.out f HF.out H2.out).mono ?_; rintro e w' ⟨rfl, hb_⟩; obtain ⟨os_, d_, rfl⟩ := mo_of hb_; clear hb_) | (go_at_call 86; refine (l01Size_any hs h8 _ _ rfl _ (by repeat' (first | (with_reducible first | assumption | exact Below.refl _ _ | refine Below.drew ?_ | refine Below.alloc ?_ ?_ _ | refine Below.setCell ?_ ?_ _ | refine below_setR ?_ ?_ _ | refine below_dn ?_ _ | refine Below.trans ?_ (below_mo _ _ _ ?_) | refine Below.trans ?_ (below_mq _ _ ?_) | exact Nat.le_refl _) | (simp; done) | (simp; omega) | omega))).mono ?_; rintro e w' ⟨rfl, rfl⟩; rw [show sizeTo xs xs.length = szS xs from rfl]) | (go_at_call 125; refine (l01Down_any (vl xs f + v) (szS xs) _ (by omega) (by omega)).mono ?_; rintro e w' ⟨rfl, rfl⟩) | (go_at_call 96; rw [HX.out]; refine (l01Of_any hs h8 _ _ rfl _ (by repeat' (first | (with_reducible first | assumption | exact Below.refl _ _ | refine Below.drew ?_ | refine Below.alloc ?_ ?_ _ | refine Below.setCell ?_ ?_ _ | refine below_setR ?_ ?_ _ | refine below_dn ?_ _ | refine Below.trans ?_ (below_mo _ _ _ ?_) | refine Below.trans ?_ (below_mq _ _ ?_) | exact Nat.le_refl _) | (simp; done) | (simp; omega) | omega)) H1.out _ m0 (by omega)).mono ?_; rintro e w' ⟨rfl, hb_⟩; obtain ⟨os_, d_, rfl⟩ := mo_of hb_; clear hb_))
  go_returns
  exact ⟨rfl, (by repeat' (first | (with_reducible first | assumption | exact Below.refl _ _ | refine Below.drew ?_ | refine Below.alloc ?_ ?_ _ | refine Below.setCell ?_ ?_ _ | refine below_setR ?_ ?_ _ | refine below_dn ?_ _ | refine Below.trans ?_ (below_mo _ _ _ ?_) | refine Below.trans ?_ (below_mq _ _ ?_) | exact Nat.le_refl _) | (simp; done) | (simp; omega) | omega))⟩
end Go.Proofs.Ytkphbagckbbalaa.X
