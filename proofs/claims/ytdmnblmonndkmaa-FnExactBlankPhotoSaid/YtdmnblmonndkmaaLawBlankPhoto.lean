/- The law of BlankPhoto, walked. Conditions: none. -/
import Derived.Test.YtdmnblmonndkmaaKMarks3
import Derived.Test.YtdmnblmonndkmaaKMarks4
namespace Go.Proofs.Ytdmnblmonndkmaa.X
open Go.RowKit
set_option linter.unusedVariables false
set_option linter.unusedSimpArgs false
set_option maxRecDepth 100000
set_option maxHeartbeats 4000000 in
theorem lawExactBlankPhoto {A : Option Addr} {xs : List Int} (n c : Nat) (w : World) (hn : xs.length = n) (hm : n ≤ maxLen) (hs : SL w w.heap.size 1 (fun x => [Value.int .u8 x]) A xs) (h8 : b8 xs) :
    Calls Try.prog 3 #[.slice A n c] w fun e w' => e = .returned (.bool true) ∧ Below w.heap.size w w' := by
  obtain rfl := hn
  unfold maxLen at hm
  by_cases hl : 1048576 < xs.length
  · go_enter Try.func3, Try.ntmps3
    go_wp2
    go_ret
    exact ⟨rfl, (by repeat' (first | (with_reducible first | assumption | exact Below.refl _ _ | refine Below.drew ?_ | refine Below.alloc ?_ ?_ _ | refine Below.setCell ?_ ?_ _ | refine below_dn ?_ _ | refine Below.trans ?_ (below_mo _ _ _ ?_) | refine Below.trans ?_ (below_mq _ _ ?_) | exact Nat.le_refl _) | (simp; done) | (simp; omega) | omega))⟩
  have ha : Nums .u8 w w.heap.size A xs := ⟨hs, by omega, Nat.le_refl _⟩
  clear hs
  go_enter Try.func3, Try.ntmps3
  go_wp2_with fail
  refine (toStack_any ha h8 _ _ rfl _ (by repeat' (first | (with_reducible first | assumption | exact Below.refl _ _ | refine Below.drew ?_ | refine Below.alloc ?_ ?_ _ | refine Below.setCell ?_ ?_ _ | refine below_dn ?_ _ | refine Below.trans ?_ (below_mo _ _ _ ?_) | refine Below.trans ?_ (below_mq _ _ ?_) | exact Nat.le_refl _) | (simp; done) | (simp; omega) | omega))).mono ?_
  rintro e w' ⟨A1, c1, rfl, h1, hb_⟩
  obtain ⟨os1, d1, rfl⟩ := mo_of hb_
  clear hb_
  go_wp2_with fail
  refine (specBlankPhoto_any h1 h8 _ _ rfl _ (by repeat' (first | (with_reducible first | assumption | exact Below.refl _ _ | refine Below.drew ?_ | refine Below.alloc ?_ ?_ _ | refine Below.setCell ?_ ?_ _ | refine below_dn ?_ _ | refine Below.trans ?_ (below_mo _ _ _ ?_) | refine Below.trans ?_ (below_mq _ _ ?_) | exact Nat.le_refl _) | (simp; done) | (simp; omega) | omega))).mono ?_
  rintro e w' ⟨rfl, hb_⟩
  obtain ⟨os2, d2, rfl⟩ := mo_of hb_
  clear hb_
  go_wp2_with fail
  refine (toStack_any ha h8 _ _ rfl _ (by repeat' (first | (with_reducible first | assumption | exact Below.refl _ _ | refine Below.drew ?_ | refine Below.alloc ?_ ?_ _ | refine Below.setCell ?_ ?_ _ | refine below_dn ?_ _ | refine Below.trans ?_ (below_mo _ _ _ ?_) | refine Below.trans ?_ (below_mq _ _ ?_) | exact Nat.le_refl _) | (simp; done) | (simp; omega) | omega))).mono ?_
  rintro e w' ⟨A2, c2, rfl, h2, hb_⟩
  obtain ⟨os3, d3, rfl⟩ := mo_of hb_
  clear hb_
  go_wp2_with fail
  refine (implBlankPhoto_any h2 h8 _ _ rfl _ (by repeat' (first | (with_reducible first | assumption | exact Below.refl _ _ | refine Below.drew ?_ | refine Below.alloc ?_ ?_ _ | refine Below.setCell ?_ ?_ _ | refine below_dn ?_ _ | refine Below.trans ?_ (below_mo _ _ _ ?_) | refine Below.trans ?_ (below_mq _ _ ?_) | exact Nat.le_refl _) | (simp; done) | (simp; omega) | omega))).mono ?_
  rintro e w' ⟨rfl, hb_⟩
  obtain ⟨os4, d4, rfl⟩ := mo_of hb_
  clear hb_
  go_wp2_with fail
  refine (eqPhoto_same _ _).mono ?_
  rintro e w' ⟨rfl, hb_⟩
  obtain ⟨os5, d5, rfl⟩ := mo_of hb_
  clear hb_
  go_wp2_with fail
  refine (toStack_any ha h8 _ _ rfl _ (by repeat' (first | (with_reducible first | assumption | exact Below.refl _ _ | refine Below.drew ?_ | refine Below.alloc ?_ ?_ _ | refine Below.setCell ?_ ?_ _ | refine below_dn ?_ _ | refine Below.trans ?_ (below_mo _ _ _ ?_) | refine Below.trans ?_ (below_mq _ _ ?_) | exact Nat.le_refl _) | (simp; done) | (simp; omega) | omega))).mono ?_
  rintro e w' ⟨A3, c3, rfl, h3, hb_⟩
  obtain ⟨os6, d6, rfl⟩ := mo_of hb_
  clear hb_
  go_wp2_with fail
  refine (eqStack_same h2 h3 _ _ _ rfl _ (by repeat' (first | (with_reducible first | assumption | exact Below.refl _ _ | refine Below.drew ?_ | refine Below.alloc ?_ ?_ _ | refine Below.setCell ?_ ?_ _ | refine below_dn ?_ _ | refine Below.trans ?_ (below_mo _ _ _ ?_) | refine Below.trans ?_ (below_mq _ _ ?_) | exact Nat.le_refl _) | (simp; done) | (simp; omega) | omega)) (by repeat' (first | (with_reducible first | assumption | exact Below.refl _ _ | refine Below.drew ?_ | refine Below.alloc ?_ ?_ _ | refine Below.setCell ?_ ?_ _ | refine below_dn ?_ _ | refine Below.trans ?_ (below_mo _ _ _ ?_) | refine Below.trans ?_ (below_mq _ _ ?_) | exact Nat.le_refl _) | (simp; done) | (simp; omega) | omega))).mono ?_
  rintro e w' ⟨rfl, hb_⟩
  obtain ⟨os7, d7, rfl⟩ := mo_of hb_
  clear hb_
  go_wp2_with fail
  go_ret
  exact ⟨rfl, (by repeat' (first | (with_reducible first | assumption | exact Below.refl _ _ | refine Below.drew ?_ | refine Below.alloc ?_ ?_ _ | refine Below.setCell ?_ ?_ _ | refine below_dn ?_ _ | refine Below.trans ?_ (below_mo _ _ _ ?_) | refine Below.trans ?_ (below_mq _ _ ?_) | exact Nat.le_refl _) | (simp; done) | (simp; omega) | omega))⟩
end Go.Proofs.Ytdmnblmonndkmaa.X
