/- The law of LeastIn, walked. Conditions: none. -/
import Derived.Test.YtbihgnmiocfelaaKLeastD
namespace Go.Proofs.Ytbihgnmiocfelaa.X
open Go.RowKit
set_option linter.unusedVariables false
set_option linter.unusedSimpArgs false
set_option maxRecDepth 100000
attribute [local go_sem] a16_zero
def rel1LeastIn (w : World) (f1 : Nat → Int) (xs0 : List Int) (v : Value) (u : Value) (wx : World) : Prop := v = .int .i64 (liV xs0 f1).1 ∧ u = .int .i64 (liV xs0 f1).2 ∧ (isRow16 wx (w.heap.size) = true ∧ rowOf wx (w.heap.size) = a16 f1) ∧ w.heap.size + 1 ≤ wx.heap.size ∧ Below w.heap.size w wx
def rel3LeastIn (w : World) (f1 : Nat → Int) (xs0 : List Int) (w1 : World) (os2 : Array Obj) (dd2 : Nat) (v : Value) (u : Value) (wx : World) : Prop := v = .int .i64 (liV xs0 f1).1 ∧ u = .int .i64 (liV xs0 f1).2 ∧ (isRow16 wx (w.heap.size) = true ∧ rowOf wx (w.heap.size) = a16 f1) ∧ w.heap.size + 1 ≤ wx.heap.size ∧ Below w.heap.size w wx ∧ Below (mo w1 os2 dd2).heap.size (mo w1 os2 dd2) wx
set_option maxHeartbeats 8000000 in
theorem lawExactLeastIn (w : World) {A0 : Option Addr} {xs0 : List Int} (c0 : Nat) (hs0 : SL w w.heap.size 1 (fun x => [Value.int .u8 x]) A0 xs0) (hm0 : xs0.length ≤ maxLen) (h80 : b8 xs0) (f1 : Nat → Int) (hf1 : u16 f1) :
    Calls Try.prog 4 #[.slice A0 xs0.length c0, .agg (a16 f1)] w fun e w' => e = .returned (.bool true) ∧ Below w.heap.size w w' := by
  unfold maxLen at hm0
  by_cases hl0 : 1048576 < xs0.length
  · go_enter Try.func4, Try.ntmps4
    go_wp2
    go_ret
    exact ⟨rfl, (by repeat' (first | (with_reducible first | assumption | exact Below.refl _ _ | refine Below.drew ?_ | refine Below.alloc ?_ ?_ _ | refine Below.setCell ?_ ?_ _ | refine below_setR ?_ ?_ _ | refine below_dn ?_ _ | refine Below.trans ?_ (below_mo _ _ _ ?_) | refine Below.trans ?_ (below_mq _ _ ?_) | exact Nat.le_refl _) | (simp; done) | (simp; omega) | omega))⟩
  have ha0 : Nums .u8 w w.heap.size A0 xs0 := ⟨hs0, by omega, Nat.le_refl _⟩
  clear hs0
  go_enter Try.func4, Try.ntmps4
  go_upto_region 3 with (fail)
  go_cut [5, 6] (fun v u wx => rel1LeastIn w f1 xs0 v u wx)
  case first =>
    go_region_held3 (fun w' => (isRow16 w' (w.heap.size) = true ∧ rowOf w' (w.heap.size) = a16 f1)) (first | (simp [go_sem]; done) | ((repeat' apply And.intro) <;> (first | (simp [go_sem]; done) | (simp [go_sem, *]; done) | ((rw [isRow_other _ _ _ _ (by omega)]); simp [go_sem, *]; done) | ((rw [rowOf_other _ _ _ _ (by omega)]); simp [go_sem, *]; done)))) (first | (go_at_call 23; refine (toStack_any ha0 h80 _ _ rfl _ (by repeat' (first | (with_reducible first | assumption | exact Below.refl _ _ | refine Below.drew ?_ | refine Below.alloc ?_ ?_ _ | refine Below.setCell ?_ ?_ _ | refine below_setR ?_ ?_ _ | refine below_dn ?_ _ | refine Below.trans ?_ (below_mo _ _ _ ?_) | refine Below.trans ?_ (below_mq _ _ ?_) | exact Nat.le_refl _) | (simp; done) | (simp; omega) | omega))).mono ?_; rintro e w' ⟨A1, c1, rfl, F1, hb_⟩; obtain ⟨os_, dd_, rfl⟩ := mo_of hb_; clear hb_) | (go_at_call 24; (with_reducible refine (toPh _ _).mono ?_); rintro e w' ⟨rfl, hb_⟩; obtain ⟨os_, dd_, rfl⟩ := mo_of hb_; clear hb_) | fail | (go_at_call 22; (with_reducible refine (specLeastIn_any F1 h80 _ _ rfl _ (by repeat' (first | (with_reducible first | assumption | exact Below.refl _ _ | refine Below.drew ?_ | refine Below.alloc ?_ ?_ _ | refine Below.setCell ?_ ?_ _ | refine below_setR ?_ ?_ _ | refine below_dn ?_ _ | refine Below.trans ?_ (below_mo _ _ _ ?_) | refine Below.trans ?_ (below_mq _ _ ?_) | exact Nat.le_refl _) | (simp; done) | (simp; omega) | omega)) f1 hf1).mono ?_); rintro e w' ⟨rfl, hb_⟩; obtain ⟨os_, dd_, rfl⟩ := mo_of hb_; clear hb_))
    all_goals go_wp2_with fail
    all_goals go_meet
    all_goals unfold rel1LeastIn
    all_goals refine ⟨rfl, rfl, ?_, ?_, ?_⟩
    all_goals first | (first | (simp [go_sem]; done) | ((repeat' apply And.intro) <;> (first | (simp [go_sem]; done) | (simp [go_sem, *]; done) | ((rw [isRow_other _ _ _ _ (by omega)]); simp [go_sem, *]; done) | ((rw [rowOf_other _ _ _ _ (by omega)]); simp [go_sem, *]; done)))) | (simp only [size_mo, World.size_alloc, World.size_drew, setRow_size]; omega) | exact (by repeat' (first | (with_reducible first | assumption | exact Below.refl _ _ | refine Below.drew ?_ | refine Below.alloc ?_ ?_ _ | refine Below.setCell ?_ ?_ _ | refine below_setR ?_ ?_ _ | refine below_dn ?_ _ | refine Below.trans ?_ (below_mo _ _ _ ?_) | refine Below.trans ?_ (below_mq _ _ ?_) | exact Nat.le_refl _) | (simp; done) | (simp; omega) | omega))
  obtain ⟨rfl, rfl, ⟨hx1_0, hx1_1⟩, hz1, hB1⟩ := hcut
  obtain ⟨w1, hw_⟩ : ∃ w1, w1 = wc := ⟨_, rfl⟩
  subst hw_
  have hv1_0 : w.heap.size < w1.heap.size := by omega
  (go_wp2_with fail; refine (toStack_any ha0 h80 _ _ rfl _ (by repeat' (first | (with_reducible first | assumption | exact Below.refl _ _ | refine Below.drew ?_ | refine Below.alloc ?_ ?_ _ | refine Below.setCell ?_ ?_ _ | refine below_setR ?_ ?_ _ | refine below_dn ?_ _ | refine Below.trans ?_ (below_mo _ _ _ ?_) | refine Below.trans ?_ (below_mq _ _ ?_) | exact Nat.le_refl _) | (simp; done) | (simp; omega) | omega))).mono ?_; rintro e w' ⟨A2, c2, rfl, F2, hb_⟩; obtain ⟨os2, dd2, rfl⟩ := mo_of hb_; clear hb_)
  go_upto_region 5 with (fail)
  go_cut [8, 9] (fun v u wx => rel3LeastIn w f1 xs0 w1 os2 dd2 v u wx)
  case first =>
    go_wp2_with (first | go_meet | (go_at_call 23; refine (toStack_any ha0 h80 _ _ rfl _ (by repeat' (first | (with_reducible first | assumption | exact Below.refl _ _ | refine Below.drew ?_ | refine Below.alloc ?_ ?_ _ | refine Below.setCell ?_ ?_ _ | refine below_setR ?_ ?_ _ | refine below_dn ?_ _ | refine Below.trans ?_ (below_mo _ _ _ ?_) | refine Below.trans ?_ (below_mq _ _ ?_) | exact Nat.le_refl _) | (simp; done) | (simp; omega) | omega))).mono ?_; rintro e w' ⟨A3, c3, rfl, F3, hb_⟩; obtain ⟨os_, dd_, rfl⟩ := mo_of hb_; clear hb_) | (go_at_call 24; (with_reducible refine (toPh _ _).mono ?_); rintro e w' ⟨rfl, hb_⟩; obtain ⟨os_, dd_, rfl⟩ := mo_of hb_; clear hb_) | fail | (go_at_call 25; (with_reducible refine (implLeastIn_any F2 h80 _ _ rfl _ (by repeat' (first | (with_reducible first | assumption | exact Below.refl _ _ | refine Below.drew ?_ | refine Below.alloc ?_ ?_ _ | refine Below.setCell ?_ ?_ _ | refine below_setR ?_ ?_ _ | refine below_dn ?_ _ | refine Below.trans ?_ (below_mo _ _ _ ?_) | refine Below.trans ?_ (below_mq _ _ ?_) | exact Nat.le_refl _) | (simp; done) | (simp; omega) | omega)) f1 hf1).mono ?_); rintro e w' ⟨rfl, hb_⟩; obtain ⟨os_, dd_, rfl⟩ := mo_of hb_; clear hb_))
    all_goals unfold rel3LeastIn
    all_goals refine ⟨rfl, rfl, ?_, ?_, ?_, ?_⟩
    all_goals first | (first | (simp [go_sem]; done) | ((repeat' apply And.intro) <;> (first | (simp [go_sem]; done) | (simp [go_sem, *]; done) | ((rw [isRow_other _ _ _ _ (by omega)]); simp [go_sem, *]; done) | ((rw [rowOf_other _ _ _ _ (by omega)]); simp [go_sem, *]; done)))) | (simp only [size_mo, World.size_alloc, World.size_drew, setRow_size]; omega) | exact (by repeat' (first | (with_reducible first | assumption | exact Below.refl _ _ | refine Below.drew ?_ | refine Below.alloc ?_ ?_ _ | refine Below.setCell ?_ ?_ _ | refine below_setR ?_ ?_ _ | refine below_dn ?_ _ | refine Below.trans ?_ (below_mo _ _ _ ?_) | refine Below.trans ?_ (below_mq _ _ ?_) | exact Nat.le_refl _) | (simp; done) | (simp; omega) | omega))
  obtain ⟨rfl, rfl, ⟨hx3_0, hx3_1⟩, hz3, hB3, hC3⟩ := hcut
  obtain ⟨w3, hw_⟩ : ∃ w1, w1 = wc := ⟨_, rfl⟩
  subst hw_
  have hv3_0 : w.heap.size < w3.heap.size := by omega
  have hD3 := hC3.size
  simp only [size_mo] at hD3
  go_wp2_with (first | (go_at_call 23; refine (toStack_any ha0 h80 _ _ rfl _ (by repeat' (first | (with_reducible first | assumption | exact Below.refl _ _ | refine Below.drew ?_ | refine Below.alloc ?_ ?_ _ | refine Below.setCell ?_ ?_ _ | refine below_setR ?_ ?_ _ | refine below_dn ?_ _ | refine Below.trans ?_ (below_mo _ _ _ ?_) | refine Below.trans ?_ (below_mq _ _ ?_) | exact Nat.le_refl _) | (simp; done) | (simp; omega) | omega))).mono ?_; rintro e w' ⟨A4, c4, rfl, F4, hb_⟩; obtain ⟨os4, dd4, rfl⟩ := mo_of hb_; clear hb_) | (go_at_call 26; refine (eqStack_same F2 F4 _ _ _ rfl _ (by repeat' (first | (with_reducible first | assumption | exact Below.refl _ _ | refine Below.drew ?_ | refine Below.alloc ?_ ?_ _ | refine Below.setCell ?_ ?_ _ | refine below_setR ?_ ?_ _ | refine below_dn ?_ _ | refine Below.trans ?_ (below_mo _ _ _ ?_) | refine Below.trans ?_ (below_mq _ _ ?_) | exact Nat.le_refl _) | (simp; done) | (simp; omega) | omega)) (by repeat' (first | (with_reducible first | assumption | exact Below.refl _ _ | refine Below.drew ?_ | refine Below.alloc ?_ ?_ _ | refine Below.setCell ?_ ?_ _ | refine below_setR ?_ ?_ _ | refine below_dn ?_ _ | refine Below.trans ?_ (below_mo _ _ _ ?_) | refine Below.trans ?_ (below_mq _ _ ?_) | exact Nat.le_refl _) | (simp; done) | (simp; omega) | omega))).mono ?_; rintro e w' ⟨rfl, hb_⟩; obtain ⟨os5, dd5, rfl⟩ := mo_of hb_; clear hb_))
  go_ret
  exact ⟨rfl, (by repeat' (first | (with_reducible first | assumption | exact Below.refl _ _ | refine Below.drew ?_ | refine Below.alloc ?_ ?_ _ | refine Below.setCell ?_ ?_ _ | refine below_setR ?_ ?_ _ | refine below_dn ?_ _ | refine Below.trans ?_ (below_mo _ _ _ ?_) | refine Below.trans ?_ (below_mq _ _ ?_) | exact Nat.le_refl _) | (simp; done) | (simp; omega) | omega))⟩
end Go.Proofs.Ytbihgnmiocfelaa.X
