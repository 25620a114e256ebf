/- The law of CountsByDay, walked. Conditions: none. -/
import Derived.Test.YtaahfebnbholmaaKMarkT
import Derived.Test.YtaahfebnbholmaaKMark5
import Derived.Test.YtaahfebnbholmaaKDays
namespace Go.Proofs.Ytaahfebnbholmaa.X
open Go.RowKit
set_option linter.unusedVariables false
set_option linter.unusedSimpArgs false
set_option maxRecDepth 100000
set_option maxHeartbeats 4000000 in
theorem lawExactCountsByDay (w : World) {A1 : Option Addr} {xs1 : List (Int × Int)} (c1 : Nat) (hs1 : SL w w.heap.size 2 (encP .i64 .i64) A1 xs1) (hm1 : xs1.length ≤ maxLen) :
    Calls Try.prog 14 #[.slice A1 xs1.length c1] w fun e w' => e = .returned (.bool true) ∧ Below w.heap.size w w' := by
  unfold maxLen at hm1
  by_cases hl1 : (1048576 : Int) < xs1.length
  · go_enter Try.func14, Try.ntmps14
    (go_wp2_with fail; refine (szTotalS_big _ _ (1048576) (by omega) (by omega) _ hl1 (by omega)).mono ?_; rintro e w' ⟨rfl, rfl⟩)
    go_wp2
    go_ret
    exact ⟨rfl, (by repeat' (first | (with_reducible first | assumption | exact Below.refl _ _ | refine Below.drew ?_ | refine Below.alloc ?_ ?_ _ | refine Below.setCell ?_ ?_ _ | refine below_setR ?_ ?_ _ | refine below_dn ?_ _ | refine Below.trans ?_ (below_mo _ _ _ ?_) | refine Below.trans ?_ (below_mq _ _ ?_) | exact Nat.le_refl _) | (simp; done) | (simp; omega) | omega))⟩
  have ha1 : Prs .i64 .i64 w w.heap.size A1 xs1 := ⟨hs1, by omega, Nat.le_refl _⟩
  have hl1' : xs1.length ≤ 1048576 := by omega
  have hML : (cdL xs1).length ≤ 1048576 := cdL_len xs1
  clear hs1
  go_enter Try.func14, Try.ntmps14
  (go_wp2_with fail; refine (szTotalS_ok _ _ (1048576) (by omega) (by omega) _ (by omega)).mono ?_; rintro e w' ⟨rfl, rfl⟩)
  (go_wp2_with fail; refine (toTotalS_any ha1 _ _ (by repeat' (first | (with_reducible first | assumption | exact Below.refl _ _ | refine Below.drew ?_ | refine Below.alloc ?_ ?_ _ | refine Below.setCell ?_ ?_ _ | refine below_setR ?_ ?_ _ | refine below_dn ?_ _ | refine Below.trans ?_ (below_mo _ _ _ ?_) | refine Below.trans ?_ (below_mq _ _ ?_) | exact Nat.le_refl _) | (simp; done) | (simp; omega) | omega))).mono ?_; rintro e w' ⟨Ap1, cp1, rfl, pF1, hb_⟩; obtain ⟨os2, dd2, rfl⟩ := mo_of hb_; clear hb_)
  (go_wp2_with fail; refine (specDays_any pF1 _ _ (by repeat' (first | (with_reducible first | assumption | exact Below.refl _ _ | refine Below.drew ?_ | refine Below.alloc ?_ ?_ _ | refine Below.setCell ?_ ?_ _ | refine below_setR ?_ ?_ _ | refine below_dn ?_ _ | refine Below.trans ?_ (below_mo _ _ _ ?_) | refine Below.trans ?_ (below_mq _ _ ?_) | exact Nat.le_refl _) | (simp; done) | (simp; omega) | omega))).mono ?_; rintro e w' ⟨v3, rfl, own3, hb_⟩; obtain ⟨os3, dd3, rfl⟩ := mo_of hb_; clear hb_)
  obtain ⟨A3, c3, hv3, N3⟩ := own_nums own3 hML
  subst hv3
  (go_wp2_with fail; refine (toTotalSO ha1 _ _ (by repeat' (first | (with_reducible first | assumption | exact Below.refl _ _ | refine Below.drew ?_ | refine Below.alloc ?_ ?_ _ | refine Below.setCell ?_ ?_ _ | refine below_setR ?_ ?_ _ | refine below_dn ?_ _ | refine Below.trans ?_ (below_mo _ _ _ ?_) | refine Below.trans ?_ (below_mq _ _ ?_) | exact Nat.le_refl _) | (simp; done) | (simp; omega) | omega))).mono ?_; rintro e w' ⟨gL, vl, rfl, oL, xF1, hb_⟩; obtain ⟨os5, dd5, rfl⟩ := mo_of hb_; clear hb_)
  (go_wp2_with fail; refine (implDays_any xF1 _ _ (by repeat' (first | (with_reducible first | assumption | exact Below.refl _ _ | refine Below.drew ?_ | refine Below.alloc ?_ ?_ _ | refine Below.setCell ?_ ?_ _ | refine below_setR ?_ ?_ _ | refine below_dn ?_ _ | refine Below.trans ?_ (below_mo _ _ _ ?_) | refine Below.trans ?_ (below_mq _ _ ?_) | exact Nat.le_refl _) | (simp; done) | (simp; omega) | omega))).mono ?_; rintro e w' ⟨v6, rfl, own6, hb_⟩; obtain ⟨os6, dd6, rfl⟩ := mo_of hb_; clear hb_)
  obtain ⟨A6, c6, hv6, N6⟩ := own_nums own6 hML
  subst hv6
  (go_wp2_with fail; refine (eqInt64S_same N6 N3 _ _ _ rfl _ (by repeat' (first | (with_reducible first | assumption | exact Below.refl _ _ | refine Below.drew ?_ | refine Below.alloc ?_ ?_ _ | refine Below.setCell ?_ ?_ _ | refine below_setR ?_ ?_ _ | refine below_dn ?_ _ | refine Below.trans ?_ (below_mo _ _ _ ?_) | refine Below.trans ?_ (below_mq _ _ ?_) | exact Nat.le_refl _) | (simp; done) | (simp; omega) | omega)) (by repeat' (first | (with_reducible first | assumption | exact Below.refl _ _ | refine Below.drew ?_ | refine Below.alloc ?_ ?_ _ | refine Below.setCell ?_ ?_ _ | refine below_setR ?_ ?_ _ | refine below_dn ?_ _ | refine Below.trans ?_ (below_mo _ _ _ ?_) | refine Below.trans ?_ (below_mq _ _ ?_) | exact Nat.le_refl _) | (simp; done) | (simp; omega) | omega))).mono ?_; rintro e w' ⟨rfl, hb_⟩; obtain ⟨os7, dd7, rfl⟩ := mo_of hb_; clear hb_)
  (go_wp2_with fail; refine (toTotalS_any ha1 _ _ (by repeat' (first | (with_reducible first | assumption | exact Below.refl _ _ | refine Below.drew ?_ | refine Below.alloc ?_ ?_ _ | refine Below.setCell ?_ ?_ _ | refine below_setR ?_ ?_ _ | refine below_dn ?_ _ | refine Below.trans ?_ (below_mo _ _ _ ?_) | refine Below.trans ?_ (below_mq _ _ ?_) | exact Nat.le_refl _) | (simp; done) | (simp; omega) | omega))).mono ?_; rintro e w' ⟨Ar1, cr1, rfl, rF1, hb_⟩; obtain ⟨os10, dd10, rfl⟩ := mo_of hb_; clear hb_)
  (go_wp2_with fail; refine (eqTotalS_same xF1 rF1 _ _ _ (by repeat' (first | (with_reducible first | assumption | exact Below.refl _ _ | refine Below.drew ?_ | refine Below.alloc ?_ ?_ _ | refine Below.setCell ?_ ?_ _ | refine below_setR ?_ ?_ _ | refine below_dn ?_ _ | refine Below.trans ?_ (below_mo _ _ _ ?_) | refine Below.trans ?_ (below_mq _ _ ?_) | exact Nat.le_refl _) | (simp; done) | (simp; omega) | omega)) (by repeat' (first | (with_reducible first | assumption | exact Below.refl _ _ | refine Below.drew ?_ | refine Below.alloc ?_ ?_ _ | refine Below.setCell ?_ ?_ _ | refine below_setR ?_ ?_ _ | refine below_dn ?_ _ | refine Below.trans ?_ (below_mo _ _ _ ?_) | refine Below.trans ?_ (below_mq _ _ ?_) | exact Nat.le_refl _) | (simp; done) | (simp; omega) | omega))).mono ?_; rintro e x ⟨rfl, hx⟩)
  have hbA := fun q h => own3.lt q h
  have hbB := fun q h => own6.lt q h
  have hbD := oL.lt gL rfl
  have hzx := hx.size
  simp only [size_mo, World.size_alloc] at hbA hbB hbD hzx
  have HbA := Lib.hid hbA
  have HbB := Lib.hid hbB
  clear hbA hbB
  have hwx : Below w.heap.size w x := below_step (by repeat' (first | (with_reducible first | assumption | exact Below.refl _ _ | refine Below.drew ?_ | refine Below.alloc ?_ ?_ _ | refine Below.setCell ?_ ?_ _ | refine below_setR ?_ ?_ _ | refine below_dn ?_ _ | refine Below.trans ?_ (below_mo _ _ _ ?_) | refine Below.trans ?_ (below_mq _ _ ?_) | exact Nat.le_refl _) | (simp; done) | (simp; omega) | omega)) hx (by first | (simp; done) | (simp; omega))
  have q3 := own_belowT own3 (below_step (by repeat' (first | (with_reducible first | assumption | exact Below.refl _ _ | refine Below.drew ?_ | refine Below.alloc ?_ ?_ _ | refine Below.setCell ?_ ?_ _ | refine below_setR ?_ ?_ _ | refine below_dn ?_ _ | refine Below.trans ?_ (below_mo _ _ _ ?_) | refine Below.trans ?_ (below_mq _ _ ?_) | exact Nat.le_refl _) | (simp; done) | (simp; omega) | omega)) hx (by first | (simp; done) | (simp; omega)))
  have q6 := own_belowT own6 (below_step (by repeat' (first | (with_reducible first | assumption | exact Below.refl _ _ | refine Below.drew ?_ | refine Below.alloc ?_ ?_ _ | refine Below.setCell ?_ ?_ _ | refine below_setR ?_ ?_ _ | refine below_dn ?_ _ | refine Below.trans ?_ (below_mo _ _ _ ?_) | refine Below.trans ?_ (below_mq _ _ ?_) | exact Nat.le_refl _) | (simp; done) | (simp; omega) | omega)) hx (by first | (simp; done) | (simp; omega)))
  have qL := own_belowT oL (below_step (by repeat' (first | (with_reducible first | assumption | exact Below.refl _ _ | refine Below.drew ?_ | refine Below.alloc ?_ ?_ _ | refine Below.setCell ?_ ?_ _ | refine below_setR ?_ ?_ _ | refine below_dn ?_ _ | refine Below.trans ?_ (below_mo _ _ _ ?_) | refine Below.trans ?_ (below_mq _ _ ?_) | exact Nat.le_refl _) | (simp; done) | (simp; omega) | omega)) hx (by first | (simp; done) | (simp; omega)))
  clear hx own3 own6 oL N3 N6 pF1 xF1 rF1
  (go_wp2_with fail; refine (markTotalSR xs1.length gL _ _ _ hl1' _ vl qL 1 (by omega)).mono ?_; rintro e y ⟨rfl, hg2⟩)
  have cy : Chg x y (fun k => k = gL) := Chg.of_grown hg2 (fun k e => by injection e with e; exact e.symm)
  have r3 := cy.row q3 (far HbA (fun k hk => by subst hk; omega))
  have r6 := cy.row q6 (far HbB (fun k hk => by subst hk; omega))
  have hwy : Below w.heap.size w y := cy.below hwx (by omega) (fun k hk => by subst hk; omega)
  have hzy := cy.size
  clear cy hg2 qL q3 q6 hwx
  have n1 : ¬ 1 + 2 * (xs1.length : Int) < 0 := by omega
  have M3 := own_nums2 r3 hML
  have M6 := own_nums2 r6 hML
  (go_wp2_with fail; refine (eqInt64S_same M6 M3 _ _ _ rfl _ (Below.refl _ _) (Below.refl _ _)).mono ?_; rintro e z ⟨rfl, hz⟩)
  have s3 := own_belowT r3 hz
  have s6 := own_belowT r6 hz
  have hwz : Below w.heap.size w z := below_step hwy hz (by omega)
  have hzz := hz.size
  clear hz M3 M6 r3 r6 hwy
  (go_wp2_with fail; refine (markInt64S_own (cdL xs1) _ _ _ hML _ s6).mono ?_; rintro e v ⟨rfl, p6, hg3⟩)
  have cv : Chg z v (fun k => (Value.slice A6 (cdL xs1).length c6).ownBlock = some k) := Chg.of_grown hg3 (fun k e => e)
  have p3 := cv.row s3 (far HbA (fun k hk => by have := HbB.out k hk; omega))
  have hwv : Below w.heap.size w v := cv.below hwz (by omega) (fun k hk => by have := HbB.out k hk; omega)
  have hzv := cv.size
  clear cv hg3 s3 s6 hwz
  have M6 := own_mks p6 hML
  (go_wp2_with fail; refine (heldInt64S_any _ M6 _ hML _ (Below.refl _ _)).mono ?_; rintro e v' ⟨rfl, rfl⟩)
  have n0 : ¬ ((cdL xs1).length : Int) + 1 < 0 := by omega
  (go_wp2_with fail; refine (toTotalS_any ha1 _ _ (by repeat' (first | (with_reducible first | assumption | exact Below.refl _ _ | refine Below.drew ?_ | refine Below.alloc ?_ ?_ _ | refine Below.setCell ?_ ?_ _ | refine below_setR ?_ ?_ _ | refine below_dn ?_ _ | refine Below.trans ?_ (below_mo _ _ _ ?_) | refine Below.trans ?_ (below_mq _ _ ?_) | exact Nat.le_refl _) | (simp; done) | (simp; omega) | omega))).mono ?_; rintro e w' ⟨Ah1, ch1, rfl, hF1, hb_⟩; obtain ⟨os12, dd12, rfl⟩ := mo_of hb_; clear hb_)
  (go_wp2_with fail; refine (implDays_any hF1 _ _ (by repeat' (first | (with_reducible first | assumption | exact Below.refl _ _ | refine Below.drew ?_ | refine Below.alloc ?_ ?_ _ | refine Below.setCell ?_ ?_ _ | refine below_setR ?_ ?_ _ | refine below_dn ?_ _ | refine Below.trans ?_ (below_mo _ _ _ ?_) | refine Below.trans ?_ (below_mq _ _ ?_) | exact Nat.le_refl _) | (simp; done) | (simp; omega) | omega))).mono ?_; rintro e w' ⟨v8, rfl, own8, hb_⟩; obtain ⟨os13, dd13, rfl⟩ := mo_of hb_; clear hb_)
  obtain ⟨A8, c8, hv8, N8⟩ := own_nums own8 hML
  subst hv8
  have M3 := own_nums2 p3 hML
  (go_wp2_with fail; refine (eqInt64S_same N8 M3 _ _ _ rfl _ (by repeat' (first | (with_reducible first | assumption | exact Below.refl _ _ | refine Below.drew ?_ | refine Below.alloc ?_ ?_ _ | refine Below.setCell ?_ ?_ _ | refine below_setR ?_ ?_ _ | refine below_dn ?_ _ | refine Below.trans ?_ (below_mo _ _ _ ?_) | refine Below.trans ?_ (below_mq _ _ ?_) | exact Nat.le_refl _) | (simp; done) | (simp; omega) | omega)) (by repeat' (first | (with_reducible first | assumption | exact Below.refl _ _ | refine Below.drew ?_ | refine Below.alloc ?_ ?_ _ | refine Below.setCell ?_ ?_ _ | refine below_setR ?_ ?_ _ | refine below_dn ?_ _ | refine Below.trans ?_ (below_mo _ _ _ ?_) | refine Below.trans ?_ (below_mq _ _ ?_) | exact Nat.le_refl _) | (simp; done) | (simp; omega) | omega))).mono ?_; rintro e w' ⟨rfl, hb_⟩; obtain ⟨os14, dd14, rfl⟩ := mo_of hb_; clear hb_)
  (go_wp2_with fail; refine (heldInt64S_any _ M6 _ hML _ (by repeat' (first | (with_reducible first | assumption | exact Below.refl _ _ | refine Below.drew ?_ | refine Below.alloc ?_ ?_ _ | refine Below.setCell ?_ ?_ _ | refine below_setR ?_ ?_ _ | refine below_dn ?_ _ | refine Below.trans ?_ (below_mo _ _ _ ?_) | refine Below.trans ?_ (below_mq _ _ ?_) | exact Nat.le_refl _) | (simp; done) | (simp; omega) | omega))).mono ?_; rintro e v' ⟨rfl, rfl⟩)
  go_wp2
  go_ret
  exact ⟨rfl, (by repeat' (first | (with_reducible first | assumption | exact Below.refl _ _ | refine Below.drew ?_ | refine Below.alloc ?_ ?_ _ | refine Below.setCell ?_ ?_ _ | refine below_setR ?_ ?_ _ | refine below_dn ?_ _ | refine Below.trans ?_ (below_mo _ _ _ ?_) | refine Below.trans ?_ (below_mq _ _ ?_) | exact Nat.le_refl _) | (simp; done) | (simp; omega) | omega))⟩
end Go.Proofs.Ytaahfebnbholmaa.X
