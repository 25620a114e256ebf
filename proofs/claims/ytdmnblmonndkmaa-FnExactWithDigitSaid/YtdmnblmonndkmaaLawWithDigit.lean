/- The law of WithDigit, walked. Conditions: none. -/
import Derived.Test.YtdmnblmonndkmaaKWith
namespace Go.Proofs.Ytdmnblmonndkmaa.X
open Go.RowKit
set_option linter.unusedVariables false
set_option linter.unusedSimpArgs false
set_option maxRecDepth 100000
attribute [local go_sem] a16_zero
def rel1WithDigit (w : World) (f1 : Nat → Int) (R : Nat → Int) (cR : Int) (v : Value) (u : Value) (wx : World) : Prop := ∃ g : Nat, v = .pointer (some ⟨g, 0, none⟩) ∧ u = .int .i64 cR ∧ (isRow16 wx g = true ∧ rowOf wx g = a16 R) ∧ (isRow16 wx (w.heap.size) = true ∧ rowOf wx (w.heap.size) = a16 f1) ∧ w.heap.size + 1 ≤ wx.heap.size ∧ Below w.heap.size w wx
def rel3WithDigit (w : World) (f1 : Nat → Int) (R : Nat → Int) (cR : Int) (g1 : Nat) (w1 : World) (os2 : Array Obj) (dd2 : Nat) (v : Value) (u : Value) (wx : World) : Prop := ∃ g : Nat, v = .pointer (some ⟨g, 0, none⟩) ∧ u = .int .i64 cR ∧ (isRow16 wx g = true ∧ rowOf wx g = a16 R) ∧ (isRow16 wx (w.heap.size) = true ∧ rowOf wx (w.heap.size) = a16 f1 ∧ isRow16 wx g1 = true ∧ rowOf wx g1 = a16 R) ∧ w.heap.size + 1 ≤ wx.heap.size ∧ g1 < wx.heap.size ∧ Below w.heap.size w wx ∧ Below (mo w1 os2 dd2).heap.size (mo w1 os2 dd2) wx
set_option maxHeartbeats 8000000 in
theorem lawExactWithDigit (w : World) {A0 : Option Addr} {xs0 : List Int} (c0 : Nat) (hs0 : SL w w.heap.size 1 (fun x => [Value.int .u8 x]) A0 xs0) (hm0 : xs0.length ≤ maxLen) (h80 : b8 xs0) (f1 : Nat → Int) (hf1 : u16 f1) (a2 : Int) (ha2 : -9223372036854775808 ≤ a2 ∧ a2 ≤ 9223372036854775807) (a3 : Int) (ha3 : -9223372036854775808 ≤ a3 ∧ a3 ≤ 9223372036854775807) (b4 : Bool) :
    Calls Try.prog 8 #[.slice A0 xs0.length c0, .agg (a16 f1), .int .i64 a2, .int .i64 a3, .bool b4] w fun e w' => e = .returned (.bool true) ∧ Below w.heap.size w w' := by
  unfold maxLen at hm0
  by_cases hl0 : 1048576 < xs0.length
  · go_enter Try.func8, Try.ntmps8
    go_wp2
    go_ret
    exact ⟨rfl, (by repeat' (first | (with_reducible first | assumption | exact Below.refl _ _ | refine Below.drew ?_ | refine Below.alloc ?_ ?_ _ | refine Below.setCell ?_ ?_ _ | refine below_setR ?_ ?_ _ | refine below_dn ?_ _ | refine Below.trans ?_ (below_mo _ _ _ ?_) | refine Below.trans ?_ (below_mq _ _ ?_) | exact Nat.le_refl _) | (simp; done) | (simp; omega) | omega))⟩
  have ha0 : Nums .u8 w w.heap.size A0 xs0 := ⟨hs0, by omega, Nat.le_refl _⟩
  clear hs0
  obtain ⟨⟨R, cR⟩, hR_⟩ : ∃ R, (wdV xs0 f1 a2 a3 b4) = R := ⟨_, rfl⟩
  have HR := Lib.hid hR_
  clear hR_
  go_enter Try.func8, Try.ntmps8
  go_upto_region 3 with (fail)
  go_cut [11, 12] (fun v u wx => rel1WithDigit w f1 R cR v u wx)
  case first =>
    go_region_held3 (fun w' => (isRow16 w' (w.heap.size) = true ∧ rowOf w' (w.heap.size) = a16 f1)) (first | (simp [go_sem]; done) | ((repeat' apply And.intro) <;> (first | (simp [go_sem]; done) | (simp [go_sem, *]; done) | ((rw [isRow_other _ _ _ _ (by omega)]); simp [go_sem, *]; done) | ((rw [rowOf_other _ _ _ _ (by omega)]); simp [go_sem, *]; done)))) (first | (go_at_call 16; refine (toStack_any ha0 h80 _ _ rfl _ (by repeat' (first | (with_reducible first | assumption | exact Below.refl _ _ | refine Below.drew ?_ | refine Below.alloc ?_ ?_ _ | refine Below.setCell ?_ ?_ _ | refine below_setR ?_ ?_ _ | refine below_dn ?_ _ | refine Below.trans ?_ (below_mo _ _ _ ?_) | refine Below.trans ?_ (below_mq _ _ ?_) | exact Nat.le_refl _) | (simp; done) | (simp; omega) | omega))).mono ?_; rintro e w' ⟨A1, c1, rfl, F1, hb_⟩; obtain ⟨os_, dd_, rfl⟩ := mo_of hb_; clear hb_) | (go_at_call 21; (with_reducible refine (toPh _ _).mono ?_); rintro e w' ⟨rfl, hb_⟩; obtain ⟨os_, dd_, rfl⟩ := mo_of hb_; clear hb_) | (go_at_call 24; refine (toDigits_any _ _).mono ?_; rintro e w' ⟨rfl, hb_⟩; obtain ⟨os_, dd_, rfl⟩ := mo_of hb_; clear hb_) | (go_at_call 30; (with_reducible refine (specWithL F1 h80 _ _ rfl _ (by repeat' (first | (with_reducible first | assumption | exact Below.refl _ _ | refine Below.drew ?_ | refine Below.alloc ?_ ?_ _ | refine Below.setCell ?_ ?_ _ | refine below_setR ?_ ?_ _ | refine below_dn ?_ _ | refine Below.trans ?_ (below_mo _ _ _ ?_) | refine Below.trans ?_ (below_mq _ _ ?_) | exact Nat.le_refl _) | (simp; done) | (simp; omega) | omega)) f1 a2 a3 b4 HR.out).mono ?_); rintro e w' ⟨rfl, hb_⟩; obtain ⟨os_, dd_, rfl⟩ := mo_of hb_; clear hb_))
    all_goals go_wp2_with fail
    all_goals go_meet
    all_goals unfold rel1WithDigit
    all_goals refine ⟨_, rfl, rfl, ?_, ?_, ?_, ?_⟩
    all_goals first | (first | (simp [go_sem]; done) | ((repeat' apply And.intro) <;> (first | (simp [go_sem]; done) | (simp [go_sem, *]; done) | ((rw [isRow_other _ _ _ _ (by omega)]); simp [go_sem, *]; done) | ((rw [rowOf_other _ _ _ _ (by omega)]); simp [go_sem, *]; done)))) | (simp only [size_mo, World.size_alloc, World.size_drew, setRow_size]; omega) | exact (by repeat' (first | (with_reducible first | assumption | exact Below.refl _ _ | refine Below.drew ?_ | refine Below.alloc ?_ ?_ _ | refine Below.setCell ?_ ?_ _ | refine below_setR ?_ ?_ _ | refine below_dn ?_ _ | refine Below.trans ?_ (below_mo _ _ _ ?_) | refine Below.trans ?_ (below_mq _ _ ?_) | exact Nat.le_refl _) | (simp; done) | (simp; omega) | omega))
  obtain ⟨g1, rfl, rfl, ⟨hg1, hr1⟩, ⟨hx1_0, hx1_1⟩, hz1, hB1⟩ := hcut
  obtain ⟨w1, hw_⟩ : ∃ w1, w1 = wc := ⟨_, rfl⟩
  subst hw_
  have hv1_0 : w.heap.size < w1.heap.size := by omega
  have hy1 := size_some hg1
  (go_wp2_with fail; refine (toStack_any ha0 h80 _ _ rfl _ (by repeat' (first | (with_reducible first | assumption | exact Below.refl _ _ | refine Below.drew ?_ | refine Below.alloc ?_ ?_ _ | refine Below.setCell ?_ ?_ _ | refine below_setR ?_ ?_ _ | refine below_dn ?_ _ | refine Below.trans ?_ (below_mo _ _ _ ?_) | refine Below.trans ?_ (below_mq _ _ ?_) | exact Nat.le_refl _) | (simp; done) | (simp; omega) | omega))).mono ?_; rintro e w' ⟨A2, c2, rfl, F2, hb_⟩; obtain ⟨os2, dd2, rfl⟩ := mo_of hb_; clear hb_)
  go_upto_region 5 with (fail)
  go_cut [14, 15] (fun v u wx => rel3WithDigit w f1 R cR g1 w1 os2 dd2 v u wx)
  case first =>
    go_wp2_with (first | go_meet | (go_at_call 16; refine (toStack_any ha0 h80 _ _ rfl _ (by repeat' (first | (with_reducible first | assumption | exact Below.refl _ _ | refine Below.drew ?_ | refine Below.alloc ?_ ?_ _ | refine Below.setCell ?_ ?_ _ | refine below_setR ?_ ?_ _ | refine below_dn ?_ _ | refine Below.trans ?_ (below_mo _ _ _ ?_) | refine Below.trans ?_ (below_mq _ _ ?_) | exact Nat.le_refl _) | (simp; done) | (simp; omega) | omega))).mono ?_; rintro e w' ⟨A3, c3, rfl, F3, hb_⟩; obtain ⟨os_, dd_, rfl⟩ := mo_of hb_; clear hb_) | (go_at_call 21; (with_reducible refine (toPh _ _).mono ?_); rintro e w' ⟨rfl, hb_⟩; obtain ⟨os_, dd_, rfl⟩ := mo_of hb_; clear hb_) | (go_at_call 24; refine (toDigits_any _ _).mono ?_; rintro e w' ⟨rfl, hb_⟩; obtain ⟨os_, dd_, rfl⟩ := mo_of hb_; clear hb_) | (go_at_call 31; (with_reducible refine (implWithL F2 h80 _ _ rfl _ (by repeat' (first | (with_reducible first | assumption | exact Below.refl _ _ | refine Below.drew ?_ | refine Below.alloc ?_ ?_ _ | refine Below.setCell ?_ ?_ _ | refine below_setR ?_ ?_ _ | refine below_dn ?_ _ | refine Below.trans ?_ (below_mo _ _ _ ?_) | refine Below.trans ?_ (below_mq _ _ ?_) | exact Nat.le_refl _) | (simp; done) | (simp; omega) | omega)) f1 a2 a3 b4 HR.out).mono ?_); rintro e w' ⟨rfl, hb_⟩; obtain ⟨os_, dd_, rfl⟩ := mo_of hb_; clear hb_))
    all_goals unfold rel3WithDigit
    all_goals refine ⟨_, rfl, rfl, ?_, ?_, ?_, ?_, ?_, ?_⟩
    all_goals first | (first | (simp [go_sem]; done) | ((repeat' apply And.intro) <;> (first | (simp [go_sem]; done) | (simp [go_sem, *]; done) | ((rw [isRow_other _ _ _ _ (by omega)]); simp [go_sem, *]; done) | ((rw [rowOf_other _ _ _ _ (by omega)]); simp [go_sem, *]; done)))) | (simp only [size_mo, World.size_alloc, World.size_drew, setRow_size]; omega) | exact (by repeat' (first | (with_reducible first | assumption | exact Below.refl _ _ | refine Below.drew ?_ | refine Below.alloc ?_ ?_ _ | refine Below.setCell ?_ ?_ _ | refine below_setR ?_ ?_ _ | refine below_dn ?_ _ | refine Below.trans ?_ (below_mo _ _ _ ?_) | refine Below.trans ?_ (below_mq _ _ ?_) | exact Nat.le_refl _) | (simp; done) | (simp; omega) | omega))
  obtain ⟨g3, rfl, rfl, ⟨hg3, hr3⟩, ⟨hx3_0, hx3_1, hx3_2, hx3_3⟩, hz3, hz3_g1, hB3, hC3⟩ := hcut
  obtain ⟨w3, hw_⟩ : ∃ w1, w1 = wc := ⟨_, rfl⟩
  subst hw_
  have hv3_0 : w.heap.size < w3.heap.size := by omega
  have hD3 := hC3.size
  simp only [size_mo] at hD3
  have hy3 := size_some hg3
  go_wp2_with (first | (go_at_call 18; (with_reducible refine (eqPh _ _).mono ?_); rintro e w' ⟨rfl, hb_⟩; obtain ⟨os_, dd_, rfl⟩ := mo_of hb_; clear hb_) | (go_at_call 16; refine (toStack_any ha0 h80 _ _ rfl _ (by repeat' (first | (with_reducible first | assumption | exact Below.refl _ _ | refine Below.drew ?_ | refine Below.alloc ?_ ?_ _ | refine Below.setCell ?_ ?_ _ | refine below_setR ?_ ?_ _ | refine below_dn ?_ _ | refine Below.trans ?_ (below_mo _ _ _ ?_) | refine Below.trans ?_ (below_mq _ _ ?_) | exact Nat.le_refl _) | (simp; done) | (simp; omega) | omega))).mono ?_; rintro e w' ⟨A4, c4, rfl, F4, hb_⟩; obtain ⟨os4, dd4, rfl⟩ := mo_of hb_; clear hb_) | (go_at_call 19; refine (eqStack_same F2 F4 _ _ _ rfl _ (by repeat' (first | (with_reducible first | assumption | exact Below.refl _ _ | refine Below.drew ?_ | refine Below.alloc ?_ ?_ _ | refine Below.setCell ?_ ?_ _ | refine below_setR ?_ ?_ _ | refine below_dn ?_ _ | refine Below.trans ?_ (below_mo _ _ _ ?_) | refine Below.trans ?_ (below_mq _ _ ?_) | exact Nat.le_refl _) | (simp; done) | (simp; omega) | omega)) (by repeat' (first | (with_reducible first | assumption | exact Below.refl _ _ | refine Below.drew ?_ | refine Below.alloc ?_ ?_ _ | refine Below.setCell ?_ ?_ _ | refine below_setR ?_ ?_ _ | refine below_dn ?_ _ | refine Below.trans ?_ (below_mo _ _ _ ?_) | refine Below.trans ?_ (below_mq _ _ ?_) | exact Nat.le_refl _) | (simp; done) | (simp; omega) | omega))).mono ?_; rintro e w' ⟨rfl, hb_⟩; obtain ⟨os5, dd5, rfl⟩ := mo_of hb_; clear hb_))
  go_ret
  exact ⟨rfl, (by repeat' (first | (with_reducible first | assumption | exact Below.refl _ _ | refine Below.drew ?_ | refine Below.alloc ?_ ?_ _ | refine Below.setCell ?_ ?_ _ | refine below_setR ?_ ?_ _ | refine below_dn ?_ _ | refine Below.trans ?_ (below_mo _ _ _ ?_) | refine Below.trans ?_ (below_mq _ _ ?_) | exact Nat.le_refl _) | (simp; done) | (simp; omega) | omega))⟩
end Go.Proofs.Ytdmnblmonndkmaa.X
