/- The law of FindPortion, walked. Conditions: none. -/
import Derived.Test.YtaahfebnbholmaaKFind
import Derived.Test.YtaahfebnbholmaaKA2
namespace Go.Proofs.Ytaahfebnbholmaa.X
open Go.RowKit
set_option linter.unusedVariables false
set_option linter.unusedSimpArgs false
set_option maxRecDepth 100000
set_option maxHeartbeats 4000000 in
theorem lawExactFindPortion (w : World) {A0 : Option Addr} {xs0 : List (Int × Int)} (c0 : Nat) (hs0 : SL w w.heap.size 2 (encP .i64 .i64) A0 xs0) (hm0 : xs0.length ≤ maxLen) :
    Calls Try.prog 13 #[.slice A0 xs0.length c0] w fun e w' => e = .returned (.bool true) ∧ Below w.heap.size w w' := by
  unfold maxLen at hm0
  by_cases hl0 : (1048576 : Int) < xs0.length
  · go_enter Try.func13, Try.ntmps13
    (go_wp2_with fail; refine (szInt64A2S_big _ _ (1048576) (by omega) (by omega) _ hl0 (by omega)).mono ?_; rintro e w' ⟨rfl, rfl⟩)
    go_wp2
    go_ret
    exact ⟨rfl, (by repeat' (first | (with_reducible first | assumption | exact Below.refl _ _ | refine Below.drew ?_ | refine Below.alloc ?_ ?_ _ | refine Below.setCell ?_ ?_ _ | refine below_setR ?_ ?_ _ | refine below_dn ?_ _ | refine Below.trans ?_ (below_mo _ _ _ ?_) | refine Below.trans ?_ (below_mq _ _ ?_) | exact Nat.le_refl _) | (simp; done) | (simp; omega) | omega))⟩
  have ha0 : Prs .i64 .i64 w w.heap.size A0 xs0 := ⟨hs0, by omega, Nat.le_refl _⟩
  clear hs0
  go_enter Try.func13, Try.ntmps13
  (go_wp2_with fail; refine (szInt64A2S_ok _ _ (1048576) (by omega) (by omega) _ (by omega)).mono ?_; rintro e w' ⟨rfl, rfl⟩)
  (go_wp2_with fail; refine (toInt64A2S_any ha0 _ _ (by repeat' (first | (with_reducible first | assumption | exact Below.refl _ _ | refine Below.drew ?_ | refine Below.alloc ?_ ?_ _ | refine Below.setCell ?_ ?_ _ | refine below_setR ?_ ?_ _ | refine below_dn ?_ _ | refine Below.trans ?_ (below_mo _ _ _ ?_) | refine Below.trans ?_ (below_mq _ _ ?_) | exact Nat.le_refl _) | (simp; done) | (simp; omega) | omega))).mono ?_; rintro e w' ⟨A1, c1, rfl, F1, hb_⟩; obtain ⟨os1, dd1, rfl⟩ := mo_of hb_; clear hb_)
  (go_wp2_with fail; refine (specFind_any F1 _ _ (by repeat' (first | (with_reducible first | assumption | exact Below.refl _ _ | refine Below.drew ?_ | refine Below.alloc ?_ ?_ _ | refine Below.setCell ?_ ?_ _ | refine below_setR ?_ ?_ _ | refine below_dn ?_ _ | refine Below.trans ?_ (below_mo _ _ _ ?_) | refine Below.trans ?_ (below_mq _ _ ?_) | exact Nat.le_refl _) | (simp; done) | (simp; omega) | omega))).mono ?_; rintro e w' ⟨rfl, hb_⟩; obtain ⟨os2, dd2, rfl⟩ := mo_of hb_; clear hb_)
  (go_wp2_with fail; refine (toInt64A2S_any ha0 _ _ (by repeat' (first | (with_reducible first | assumption | exact Below.refl _ _ | refine Below.drew ?_ | refine Below.alloc ?_ ?_ _ | refine Below.setCell ?_ ?_ _ | refine below_setR ?_ ?_ _ | refine below_dn ?_ _ | refine Below.trans ?_ (below_mo _ _ _ ?_) | refine Below.trans ?_ (below_mq _ _ ?_) | exact Nat.le_refl _) | (simp; done) | (simp; omega) | omega))).mono ?_; rintro e w' ⟨A3, c3, rfl, F3, hb_⟩; obtain ⟨os3, dd3, rfl⟩ := mo_of hb_; clear hb_)
  (go_wp2_with fail; refine (implFind_any F3 _ _ (by repeat' (first | (with_reducible first | assumption | exact Below.refl _ _ | refine Below.drew ?_ | refine Below.alloc ?_ ?_ _ | refine Below.setCell ?_ ?_ _ | refine below_setR ?_ ?_ _ | refine below_dn ?_ _ | refine Below.trans ?_ (below_mo _ _ _ ?_) | refine Below.trans ?_ (below_mq _ _ ?_) | exact Nat.le_refl _) | (simp; done) | (simp; omega) | omega))).mono ?_; rintro e w' ⟨rfl, hb_⟩; obtain ⟨os4, dd4, rfl⟩ := mo_of hb_; clear hb_)
  (go_wp2_with fail; (with_reducible refine (eqPortion_same _ _ _).mono ?_); rintro e w' ⟨rfl, hb_⟩; obtain ⟨os5, dd5, rfl⟩ := mo_of hb_; clear hb_)
  (go_wp2_with fail; refine (toInt64A2S_any ha0 _ _ (by repeat' (first | (with_reducible first | assumption | exact Below.refl _ _ | refine Below.drew ?_ | refine Below.alloc ?_ ?_ _ | refine Below.setCell ?_ ?_ _ | refine below_setR ?_ ?_ _ | refine below_dn ?_ _ | refine Below.trans ?_ (below_mo _ _ _ ?_) | refine Below.trans ?_ (below_mq _ _ ?_) | exact Nat.le_refl _) | (simp; done) | (simp; omega) | omega))).mono ?_; rintro e w' ⟨A7, c7, rfl, F7, hb_⟩; obtain ⟨os7, dd7, rfl⟩ := mo_of hb_; clear hb_)
  (go_wp2_with fail; refine (eqInt64A2S_same F3 F7 _ _ _ (by repeat' (first | (with_reducible first | assumption | exact Below.refl _ _ | refine Below.drew ?_ | refine Below.alloc ?_ ?_ _ | refine Below.setCell ?_ ?_ _ | refine below_setR ?_ ?_ _ | refine below_dn ?_ _ | refine Below.trans ?_ (below_mo _ _ _ ?_) | refine Below.trans ?_ (below_mq _ _ ?_) | exact Nat.le_refl _) | (simp; done) | (simp; omega) | omega)) (by repeat' (first | (with_reducible first | assumption | exact Below.refl _ _ | refine Below.drew ?_ | refine Below.alloc ?_ ?_ _ | refine Below.setCell ?_ ?_ _ | refine below_setR ?_ ?_ _ | refine below_dn ?_ _ | refine Below.trans ?_ (below_mo _ _ _ ?_) | refine Below.trans ?_ (below_mq _ _ ?_) | exact Nat.le_refl _) | (simp; done) | (simp; omega) | omega))).mono ?_; rintro e w' ⟨rfl, hb_⟩; obtain ⟨os8, dd8, rfl⟩ := mo_of hb_; clear hb_)
  go_wp2
  go_ret
  exact ⟨rfl, (by repeat' (first | (with_reducible first | assumption | exact Below.refl _ _ | refine Below.drew ?_ | refine Below.alloc ?_ ?_ _ | refine Below.setCell ?_ ?_ _ | refine below_setR ?_ ?_ _ | refine below_dn ?_ _ | refine Below.trans ?_ (below_mo _ _ _ ?_) | refine Below.trans ?_ (below_mq _ _ ?_) | exact Nat.le_refl _) | (simp; done) | (simp; omega) | omega))⟩
end Go.Proofs.Ytaahfebnbholmaa.X
