/- The law of WrongWheels, walked: under way. Conditions: none. -/
import Derived.Test.YtcaaljcfdahpaaaKMark5
import Derived.Test.YtcaaljcfdahpaaaKWrong3
import Derived.Test.YtcaaljcfdahpaaaKTail
namespace Go.Proofs.Ytcaaljcfdahpaaa.X
open Go.RowKit
set_option linter.unusedVariables false
set_option linter.unusedSimpArgs false
set_option maxRecDepth 100000
set_option maxHeartbeats 2000000 in
theorem lawExactWrongWheels (w : World) {A0 : Option Addr} {xs0 : List Int} (c0 : Nat) (hs0 : SL w w.heap.size 1 (fun x => [Value.int .u8 x]) A0 xs0) (hm0 : xs0.length ≤ maxLen) (h80 : b8 xs0) {L0 : Option Addr} {js0 : List (Int × Int)} (d0 : Nat) (ks0 : SL w w.heap.size 2 (encP .i8 .i16) L0 js0) (km0 : js0.length ≤ maxLen) (hj0 : j8 js0) (a1 : Int) (ha1 : -9223372036854775808 ≤ a1 ∧ a1 ≤ 9223372036854775807) (a2 : Int) (ha2 : -9223372036854775808 ≤ a2 ∧ a2 ≤ 9223372036854775807) :
    Calls Try.prog 12 #[.agg #[.slice A0 xs0.length c0, .slice L0 js0.length d0], .int .i64 a1, .int .i64 a2] w fun e w' => e = .returned (.bool true) ∧ Below w.heap.size w w' := by
  unfold maxLen at hm0 km0
  by_cases hl0 : szO 1048576 xs0.length js0.length < 0
  · go_enter Try.func12, Try.ntmps12
    (go_wp2_with fail; refine (szMotion_any xs0.length c0 js0.length d0 1048576 (by omega) (by omega) _ (by omega) (by omega)).mono ?_; rintro e w' ⟨rfl, hb_⟩; obtain ⟨oss, ds, rfl⟩ := mo_of hb_; clear hb_)
    go_wp2
    go_ret
    exact ⟨rfl, (by repeat' (first | (with_reducible first | assumption | exact Below.refl _ _ | refine Below.drew ?_ | refine Below.alloc ?_ ?_ _ | refine Below.setCell ?_ ?_ _ | refine below_setR ?_ ?_ _ | refine below_dn ?_ _ | refine Below.trans ?_ (below_mo _ _ _ ?_) | refine Below.trans ?_ (below_mq _ _ ?_) | exact Nat.le_refl _) | (simp; done) | (simp; omega) | omega))⟩
  have hb0 : xs0.length ≤ 1048576 ∧ js0.length ≤ 1048576 := by unfold szO at hl0; split at hl0 <;> (try split at hl0) <;> omega
  have hF0 : Nums .u8 w w.heap.size A0 xs0 := ⟨hs0, by omega, Nat.le_refl _⟩
  have hG0 : Prs .i8 .i16 w w.heap.size L0 js0 := ⟨ks0, by omega, Nat.le_refl _⟩
  have hML := wwL_len xs0 js0 a1 a2 hb0.1
  clear hs0 ks0 hb0
  go_enter Try.func12, Try.ntmps12
  (go_wp2_with fail; refine (szMotion_any xs0.length c0 js0.length d0 1048576 (by omega) (by omega) _ (by omega) (by omega)).mono ?_; rintro e w' ⟨rfl, hb_⟩; obtain ⟨oss, ds, rfl⟩ := mo_of hb_; clear hb_)
  (go_wp2_with fail; refine (toMotion_any hF0 h80 _ hG0 hj0 _ _ (by repeat' (first | (with_reducible first | assumption | exact Below.refl _ _ | refine Below.drew ?_ | refine Below.alloc ?_ ?_ _ | refine Below.setCell ?_ ?_ _ | refine below_setR ?_ ?_ _ | refine below_dn ?_ _ | refine Below.trans ?_ (below_mo _ _ _ ?_) | refine Below.trans ?_ (below_mq _ _ ?_) | exact Nat.le_refl _) | (simp; done) | (simp; omega) | omega)) (by repeat' (first | (with_reducible first | assumption | exact Below.refl _ _ | refine Below.drew ?_ | refine Below.alloc ?_ ?_ _ | refine Below.setCell ?_ ?_ _ | refine below_setR ?_ ?_ _ | refine below_dn ?_ _ | refine Below.trans ?_ (below_mo _ _ _ ?_) | refine Below.trans ?_ (below_mq _ _ ?_) | exact Nat.le_refl _) | (simp; done) | (simp; omega) | omega))).mono ?_; rintro e w' ⟨A1, c1, L1, d1, rfl, F1, G1, hb_⟩; obtain ⟨os1, dd1, rfl⟩ := mo_of hb_; clear hb_)
  (go_wp2_with fail; refine (specWrong_any F1 h80 _ G1 hj0 _ _ (by repeat' (first | (with_reducible first | assumption | exact Below.refl _ _ | refine Below.drew ?_ | refine Below.alloc ?_ ?_ _ | refine Below.setCell ?_ ?_ _ | refine below_setR ?_ ?_ _ | refine below_dn ?_ _ | refine Below.trans ?_ (below_mo _ _ _ ?_) | refine Below.trans ?_ (below_mq _ _ ?_) | exact Nat.le_refl _) | (simp; done) | (simp; omega) | omega)) (by repeat' (first | (with_reducible first | assumption | exact Below.refl _ _ | refine Below.drew ?_ | refine Below.alloc ?_ ?_ _ | refine Below.setCell ?_ ?_ _ | refine below_setR ?_ ?_ _ | refine below_dn ?_ _ | refine Below.trans ?_ (below_mo _ _ _ ?_) | refine Below.trans ?_ (below_mq _ _ ?_) | exact Nat.le_refl _) | (simp; done) | (simp; omega) | omega)) a1 a2).mono ?_; rintro e w' ⟨v2, rfl, own2, hb_⟩; obtain ⟨os2, dd2, rfl⟩ := mo_of hb_; clear hb_)
  obtain ⟨A2, c2, hv2, N2⟩ := own_nums own2 hML
  subst hv2
  (go_wp2_with fail; refine (toMotion_own hF0 h80 _ hG0 hj0 _ _ (by repeat' (first | (with_reducible first | assumption | exact Below.refl _ _ | refine Below.drew ?_ | refine Below.alloc ?_ ?_ _ | refine Below.setCell ?_ ?_ _ | refine below_setR ?_ ?_ _ | refine below_dn ?_ _ | refine Below.trans ?_ (below_mo _ _ _ ?_) | refine Below.trans ?_ (below_mq _ _ ?_) | exact Nat.le_refl _) | (simp; done) | (simp; omega) | omega)) (by repeat' (first | (with_reducible first | assumption | exact Below.refl _ _ | refine Below.drew ?_ | refine Below.alloc ?_ ?_ _ | refine Below.setCell ?_ ?_ _ | refine below_setR ?_ ?_ _ | refine below_dn ?_ _ | refine Below.trans ?_ (below_mo _ _ _ ?_) | refine Below.trans ?_ (below_mq _ _ ?_) | exact Nat.le_refl _) | (simp; done) | (simp; omega) | omega))).mono ?_; rintro e w' ⟨gA, gL, va, vl, rfl, hne, oA, oL, F3, G3, hb_⟩; obtain ⟨os3, dd3, rfl⟩ := mo_of hb_; clear hb_)
  (go_wp2_with fail; refine (implWrong_any F3 h80 _ G3 hj0 _ _ (by repeat' (first | (with_reducible first | assumption | exact Below.refl _ _ | refine Below.drew ?_ | refine Below.alloc ?_ ?_ _ | refine Below.setCell ?_ ?_ _ | refine below_setR ?_ ?_ _ | refine below_dn ?_ _ | refine Below.trans ?_ (below_mo _ _ _ ?_) | refine Below.trans ?_ (below_mq _ _ ?_) | exact Nat.le_refl _) | (simp; done) | (simp; omega) | omega)) (by repeat' (first | (with_reducible first | assumption | exact Below.refl _ _ | refine Below.drew ?_ | refine Below.alloc ?_ ?_ _ | refine Below.setCell ?_ ?_ _ | refine below_setR ?_ ?_ _ | refine below_dn ?_ _ | refine Below.trans ?_ (below_mo _ _ _ ?_) | refine Below.trans ?_ (below_mq _ _ ?_) | exact Nat.le_refl _) | (simp; done) | (simp; omega) | omega)) a1 a2).mono ?_; rintro e w' ⟨v4, rfl, own4, hb_⟩; obtain ⟨os4, dd4, rfl⟩ := mo_of hb_; clear hb_)
  obtain ⟨A4, c4, hv4, N4⟩ := own_nums own4 hML
  subst hv4
  (go_wp2_with fail; refine (eqInt64S_same N4 N2 _ _ _ rfl _ (by repeat' (first | (with_reducible first | assumption | exact Below.refl _ _ | refine Below.drew ?_ | refine Below.alloc ?_ ?_ _ | refine Below.setCell ?_ ?_ _ | refine below_setR ?_ ?_ _ | refine below_dn ?_ _ | refine Below.trans ?_ (below_mo _ _ _ ?_) | refine Below.trans ?_ (below_mq _ _ ?_) | exact Nat.le_refl _) | (simp; done) | (simp; omega) | omega)) (by repeat' (first | (with_reducible first | assumption | exact Below.refl _ _ | refine Below.drew ?_ | refine Below.alloc ?_ ?_ _ | refine Below.setCell ?_ ?_ _ | refine below_setR ?_ ?_ _ | refine below_dn ?_ _ | refine Below.trans ?_ (below_mo _ _ _ ?_) | refine Below.trans ?_ (below_mq _ _ ?_) | exact Nat.le_refl _) | (simp; done) | (simp; omega) | omega))).mono ?_; rintro e w' ⟨rfl, hb_⟩; obtain ⟨os5, dd5, rfl⟩ := mo_of hb_; clear hb_)
  go_wp2
  have hbA := fun q h => own2.lt q h
  have hbB := fun q h => own4.lt q h
  have hbC := oA.lt gA rfl
  have hbD := oL.lt gL rfl
  simp only [size_mo, World.size_alloc] at hbA hbB hbC hbD
  have pw2 := own_base3 (b := w.heap.size + 1) own2 (by first | (simp; done) | (simp; omega))
  have pw4 := own_base3 (b := w.heap.size + 1) own4 (by first | (simp; done) | (simp; omega))
  have pA := own_base3 (b := w.heap.size + 1) oA (by first | (simp; done) | (simp; omega))
  have pL := own_base3 (b := w.heap.size + 1) oL (by first | (simp; done) | (simp; omega))
  have HbA := Lib.hid hbA
  have HbB := Lib.hid hbB
  clear hbA hbB
  have F5 := F3.up (w := mo (mo ((mo (mo (mo (mo (w.alloc (.cells #[.slice A0 xs0.length c0, .slice L0 js0.length d0] 50)) oss ds) os1 dd1) os2 dd2) os3 dd3).alloc (.cells #[.slice (some ⟨gA, 0, none⟩) xs0.length xs0.length, .slice (some ⟨gL, 0, none⟩) js0.length js0.length] 58)) os4 dd4) os5 dd5) (by repeat' (first | (with_reducible first | assumption | exact Below.refl _ _ | refine Below.drew ?_ | refine Below.alloc ?_ ?_ _ | refine Below.setCell ?_ ?_ _ | refine below_setR ?_ ?_ _ | refine below_dn ?_ _ | refine Below.trans ?_ (below_mo _ _ _ ?_) | refine Below.trans ?_ (below_mq _ _ ?_) | exact Nat.le_refl _) | (simp; done) | (simp; omega) | omega))
  have G5 := G3.up (w := mo (mo ((mo (mo (mo (mo (w.alloc (.cells #[.slice A0 xs0.length c0, .slice L0 js0.length d0] 50)) oss ds) os1 dd1) os2 dd2) os3 dd3).alloc (.cells #[.slice (some ⟨gA, 0, none⟩) xs0.length xs0.length, .slice (some ⟨gL, 0, none⟩) js0.length js0.length] 58)) os4 dd4) os5 dd5) (by repeat' (first | (with_reducible first | assumption | exact Below.refl _ _ | refine Below.drew ?_ | refine Below.alloc ?_ ?_ _ | refine Below.setCell ?_ ?_ _ | refine below_setR ?_ ?_ _ | refine below_dn ?_ _ | refine Below.trans ?_ (below_mo _ _ _ ?_) | refine Below.trans ?_ (below_mq _ _ ?_) | exact Nat.le_refl _) | (simp; done) | (simp; omega) | omega))
  have hsz0 : w.heap.size < w.heap.size + 1 + oss.size + os1.size + os2.size + os3.size := by omega
  generalize hg8 : w.heap.size + 1 + oss.size + os1.size + os2.size + os3.size = g8
  refine wp_at (fun u => Below w.heap.size w u ∧ u.cell? ⟨w.heap.size, 0, none⟩ = some (.slice A0 xs0.length c0) ∧ u.cell? ⟨w.heap.size, 1, none⟩ = some (.slice L0 js0.length d0) ∧ u.cell? ⟨g8, 0, none⟩ = some (.slice (some ⟨gA, 0, none⟩) xs0.length xs0.length) ∧ u.cell? ⟨g8, 1, none⟩ = some (.slice (some ⟨gL, 0, none⟩) js0.length js0.length) ∧ u.ownsRow (w.heap.size + 1) 2 1 (.slice A2 (wwL xs0 js0 a1 a2).length c2) (wwL xs0 js0 a1 a2).length ((wwL xs0 js0 a1 a2).map (Value.int .i64)) ∧ u.ownsRow (w.heap.size + 1) 2 1 (.slice A4 (wwL xs0 js0 a1 a2).length c4) (wwL xs0 js0 a1 a2).length ((wwL xs0 js0 a1 a2).map (Value.int .i64)) ∧ u.ownsRow (w.heap.size + 1) 5 1 (.slice (some ⟨gA, 0, none⟩) xs0.length xs0.length) xs0.length va ∧ u.ownsRow (w.heap.size + 1) 158 2 (.slice (some ⟨gL, 0, none⟩) js0.length js0.length) js0.length vl ∧ Nums .u8 u u.heap.size (some ⟨gA, 0, none⟩) xs0 ∧ Prs .i8 .i16 u u.heap.size (some ⟨gL, 0, none⟩) js0) _ ⟨(by repeat' (first | (with_reducible first | assumption | exact Below.refl _ _ | refine Below.drew ?_ | refine Below.alloc ?_ ?_ _ | refine Below.setCell ?_ ?_ _ | refine below_setR ?_ ?_ _ | refine below_dn ?_ _ | refine Below.trans ?_ (below_mo _ _ _ ?_) | refine Below.trans ?_ (below_mq _ _ ?_) | exact Nat.le_refl _) | (simp; done) | (simp; omega) | omega)), (by first | assumption | (simp [go_sem]; done) | (simp [go_sem, *]; done) | (simp [go_sem]; rfl)), (by first | assumption | (simp [go_sem]; done) | (simp [go_sem, *]; done) | (simp [go_sem]; rfl)), by subst hg8; first | (simp [go_sem]; done) | (simp [go_sem, *]; done) | (simp [go_sem]; rfl), by subst hg8; first | (simp [go_sem]; done) | (simp [go_sem, *]; done) | (simp [go_sem]; rfl), (by repeat' (first | (with_reducible exact pw2) | (with_reducible refine own_mo ?_ _ _) | (with_reducible refine World.ownsRow.alloc ?_ _))), (by repeat' (first | (with_reducible exact pw4) | (with_reducible refine own_mo ?_ _ _) | (with_reducible refine World.ownsRow.alloc ?_ _))), (by repeat' (first | (with_reducible exact pA) | (with_reducible refine own_mo ?_ _ _) | (with_reducible refine World.ownsRow.alloc ?_ _))), (by repeat' (first | (with_reducible exact pL) | (with_reducible refine own_mo ?_ _ _) | (with_reducible refine World.ownsRow.alloc ?_ _))), F5, G5⟩ ?_
  clear F5 G5
  rintro u ⟨hu, e0, e1, e8, e9, o2, o4, oA', oL', F5, G5⟩
  have l0 : w.heap.size < u.heap.size := block_lt_of_cell e0
  have l8 : g8 < u.heap.size := block_lt_of_cell e8
  go_region_held3 (fun w' => w'.cell? ⟨w.heap.size, 0, none⟩ = some (.slice A0 xs0.length c0) ∧ w'.cell? ⟨w.heap.size, 1, none⟩ = some (.slice L0 js0.length d0) ∧ w'.cell? ⟨g8, 0, none⟩ = some (.slice (some ⟨gA, 0, none⟩) xs0.length xs0.length) ∧ w'.cell? ⟨g8, 1, none⟩ = some (.slice (some ⟨gL, 0, none⟩) js0.length js0.length) ∧ Below u.heap.size u w') (first | (simp [go_sem]; done) | ((repeat' apply And.intro) <;> (first | assumption | exact (cell_mo u.drew _ _ _ _ l0).trans e0 | exact (cell_mo u.drew _ _ _ _ l0).trans e1 | exact (cell_mo u.drew _ _ _ _ l8).trans e8 | exact (cell_mo u.drew _ _ _ _ l8).trans e9 | (simp [go_sem]; done) | (simp [go_sem, *]; done) | exact (by repeat' (first | (with_reducible first | assumption | exact Below.refl _ _ | refine Below.drew ?_ | refine Below.alloc ?_ ?_ _ | refine Below.setCell ?_ ?_ _ | refine below_setR ?_ ?_ _ | refine below_dn ?_ _ | refine Below.trans ?_ (below_mo _ _ _ ?_) | refine Below.trans ?_ (below_mq _ _ ?_) | exact Nat.le_refl _) | (simp; done) | (simp; omega) | omega))))) (first | (go_at_call 34; refine (toMotion_any hF0 h80 _ hG0 hj0 _ _ (by repeat' (first | (with_reducible first | assumption | exact Below.refl _ _ | refine Below.drew ?_ | refine Below.alloc ?_ ?_ _ | refine Below.setCell ?_ ?_ _ | refine below_setR ?_ ?_ _ | refine below_dn ?_ _ | refine Below.trans ?_ (below_mo _ _ _ ?_) | refine Below.trans ?_ (below_mq _ _ ?_) | exact Nat.le_refl _) | (simp; done) | (simp; omega) | omega)) (by repeat' (first | (with_reducible first | assumption | exact Below.refl _ _ | refine Below.drew ?_ | refine Below.alloc ?_ ?_ _ | refine Below.setCell ?_ ?_ _ | refine below_setR ?_ ?_ _ | refine below_dn ?_ _ | refine Below.trans ?_ (below_mo _ _ _ ?_) | refine Below.trans ?_ (below_mq _ _ ?_) | exact Nat.le_refl _) | (simp; done) | (simp; omega) | omega))).mono ?_; rintro e w' ⟨A6, c6, L6, d6, rfl, F6, G6, hb_⟩; obtain ⟨os6, dd6, rfl⟩ := mo_of hb_; clear hb_) | (go_at_call 37; refine (eqMotion_same F5 F6 G5 G6 _ _ _ _ _ (by repeat' (first | (with_reducible first | assumption | exact Below.refl _ _ | refine Below.drew ?_ | refine Below.alloc ?_ ?_ _ | refine Below.setCell ?_ ?_ _ | refine below_setR ?_ ?_ _ | refine below_dn ?_ _ | refine Below.trans ?_ (below_mo _ _ _ ?_) | refine Below.trans ?_ (below_mq _ _ ?_) | exact Nat.le_refl _) | (simp; done) | (simp; omega) | omega)) (by repeat' (first | (with_reducible first | assumption | exact Below.refl _ _ | refine Below.drew ?_ | refine Below.alloc ?_ ?_ _ | refine Below.setCell ?_ ?_ _ | refine below_setR ?_ ?_ _ | refine below_dn ?_ _ | refine Below.trans ?_ (below_mo _ _ _ ?_) | refine Below.trans ?_ (below_mq _ _ ?_) | exact Nat.le_refl _) | (simp; done) | (simp; omega) | omega)) (by repeat' (first | (with_reducible first | assumption | exact Below.refl _ _ | refine Below.drew ?_ | refine Below.alloc ?_ ?_ _ | refine Below.setCell ?_ ?_ _ | refine below_setR ?_ ?_ _ | refine below_dn ?_ _ | refine Below.trans ?_ (below_mo _ _ _ ?_) | refine Below.trans ?_ (below_mq _ _ ?_) | exact Nat.le_refl _) | (simp; done) | (simp; omega) | omega)) (by repeat' (first | (with_reducible first | assumption | exact Below.refl _ _ | refine Below.drew ?_ | refine Below.alloc ?_ ?_ _ | refine Below.setCell ?_ ?_ _ | refine below_setR ?_ ?_ _ | refine below_dn ?_ _ | refine Below.trans ?_ (below_mo _ _ _ ?_) | refine Below.trans ?_ (below_mq _ _ ?_) | exact Nat.le_refl _) | (simp; done) | (simp; omega) | omega))).mono ?_; rintro e w' ⟨rfl, hb_⟩; obtain ⟨os7, dd7, rfl⟩ := mo_of hb_; clear hb_))
  all_goals
    refine exit_at (fun u' => Below u.heap.size u u') _ (by repeat' (first | (with_reducible first | assumption | exact Below.refl _ _ | refine Below.drew ?_ | refine Below.alloc ?_ ?_ _ | refine Below.setCell ?_ ?_ _ | refine below_setR ?_ ?_ _ | refine below_dn ?_ _ | refine Below.trans ?_ (below_mo _ _ _ ?_) | refine Below.trans ?_ (below_mq _ _ ?_) | exact Nat.le_refl _) | (simp; done) | (simp; omega) | omega)) ?_
    intro x hx
    have cx := Chg.of_below hx (fun _ => False)
    have q2 := cx.row o2 (fun _ _ h => h)
    have q4 := cx.row o4 (fun _ _ h => h)
    have qA := cx.row oA' (fun _ _ h => h)
    have qL := cx.row oL' (fun _ _ h => h)
    have x0 := cx.cell e0 (fun h => h)
    have x1 := cx.cell e1 (fun h => h)
    have x8 := cx.cell e8 (fun h => h)
    have x9 := cx.cell e9 (fun h => h)
    have hwx : Below w.heap.size w x := cx.below hu (by omega) (fun _ h => h.elim)
    have hzx := hx.size
    clear hx cx e0 e1 e8 e9 o2 o4 oA' oL' F5 G5 hu
    (go_wp2_with fail; refine (markMotion_own xs0.length js0.length gA gL _ _ _ _ va vl hF0.len hG0.len hne _ qA qL).mono ?_; rintro e y ⟨rfl, ob, w1, hg1, hg2⟩)
    have cy : Chg x y (fun k => k = gA ∨ k = gL) := ((Chg.of_alloc x ob _).trans (Chg.of_grown hg1 (fun k e => .inl (by injection e with e; exact e.symm)))).trans (Chg.of_grown hg2 (fun k e => .inr (by injection e with e; exact e.symm)))
    have r2 := cy.row q2 (far HbA (fun k hk => by rcases hk with rfl | rfl <;> omega))
    have r4 := cy.row q4 (far HbB (fun k hk => by rcases hk with rfl | rfl <;> omega))
    have y0 := cy.cell x0 (by omega)
    have y1 := cy.cell x1 (by omega)
    have hwy : Below w.heap.size w y := cy.below hwx (by omega) (fun k hk => by rcases hk with rfl | rfl <;> omega)
    have hzy := cy.size
    clear cy hg1 hg2 qA qL x0 x1 x8 x9 q2 q4 hwx w1 ob
    have M2 := own_nums2 r2 hML
    have M4 := own_nums2 r4 hML
    (go_wp2_with fail; refine (eqInt64S_same M4 M2 _ _ _ rfl _ (Below.refl _ _) (Below.refl _ _)).mono ?_; rintro e z ⟨rfl, hz⟩)
    have cz := Chg.of_below hz (fun _ => False)
    have s2 := cz.row r2 (fun _ _ h => h)
    have s4 := cz.row r4 (fun _ _ h => h)
    have z0 := cz.cell y0 (fun h => h)
    have z1 := cz.cell y1 (fun h => h)
    have hwz : Below w.heap.size w z := cz.below hwy (by omega) (fun _ h => h.elim)
    have hzz := cz.size
    clear cz hz M2 M4 r2 r4 y0 y1 hwy
    (go_wp2_with fail; refine (markInt64S_own (wwL xs0 js0 a1 a2) _ _ _ hML _ s4).mono ?_; rintro e v ⟨rfl, p4, hg3⟩)
    have cv : Chg z v (fun k => (Value.slice A4 (wwL xs0 js0 a1 a2).length c4).ownBlock = some k) := Chg.of_grown hg3 (fun k e => e)
    have p2 := cv.row s2 (far HbA (fun k hk => by have := HbB.out k hk; omega))
    have v0 := cv.cell z0 (fun h => by have := HbB.out _ h; omega)
    have v1 := cv.cell z1 (fun h => by have := HbB.out _ h; omega)
    have hwv : Below w.heap.size w v := cv.below hwz (by omega) (fun k hk => by have := HbB.out k hk; omega)
    have hzv := cv.size
    clear cv hg3 s2 s4 z0 z1 hwz
    have M4 := own_mks p4 hML
    (go_wp2_with fail; refine (heldInt64S_any _ M4 _ hML _ (Below.refl _ _)).mono ?_; rintro e v' ⟨rfl, rfl⟩)
    have n0 : ¬ ((wwL xs0 js0 a1 a2).length : Int) + 1 < 0 := by omega
    (go_wp2_with fail; refine (toMotion_any hF0 h80 _ hG0 hj0 _ _ (by repeat' (first | (with_reducible first | assumption | exact Below.refl _ _ | refine Below.drew ?_ | refine Below.alloc ?_ ?_ _ | refine Below.setCell ?_ ?_ _ | refine below_setR ?_ ?_ _ | refine below_dn ?_ _ | refine Below.trans ?_ (below_mo _ _ _ ?_) | refine Below.trans ?_ (below_mq _ _ ?_) | exact Nat.le_refl _) | (simp; done) | (simp; omega) | omega)) (by repeat' (first | (with_reducible first | assumption | exact Below.refl _ _ | refine Below.drew ?_ | refine Below.alloc ?_ ?_ _ | refine Below.setCell ?_ ?_ _ | refine below_setR ?_ ?_ _ | refine below_dn ?_ _ | refine Below.trans ?_ (below_mo _ _ _ ?_) | refine Below.trans ?_ (below_mq _ _ ?_) | exact Nat.le_refl _) | (simp; done) | (simp; omega) | omega))).mono ?_; rintro e w' ⟨A7, c7, L7, d7, rfl, F7, G7, hb_⟩; obtain ⟨os7, dd7, rfl⟩ := mo_of hb_; clear hb_)
    (go_wp2_with fail; refine (implWrong_any F7 h80 _ G7 hj0 _ _ (by repeat' (first | (with_reducible first | assumption | exact Below.refl _ _ | refine Below.drew ?_ | refine Below.alloc ?_ ?_ _ | refine Below.setCell ?_ ?_ _ | refine below_setR ?_ ?_ _ | refine below_dn ?_ _ | refine Below.trans ?_ (below_mo _ _ _ ?_) | refine Below.trans ?_ (below_mq _ _ ?_) | exact Nat.le_refl _) | (simp; done) | (simp; omega) | omega)) (by repeat' (first | (with_reducible first | assumption | exact Below.refl _ _ | refine Below.drew ?_ | refine Below.alloc ?_ ?_ _ | refine Below.setCell ?_ ?_ _ | refine below_setR ?_ ?_ _ | refine below_dn ?_ _ | refine Below.trans ?_ (below_mo _ _ _ ?_) | refine Below.trans ?_ (below_mq _ _ ?_) | exact Nat.le_refl _) | (simp; done) | (simp; omega) | omega)) a1 a2).mono ?_; rintro e w' ⟨v8, rfl, own8, hb_⟩; obtain ⟨os8, dd8, rfl⟩ := mo_of hb_; clear hb_)
    obtain ⟨A8, c8, hv8, N8⟩ := own_nums own8 hML
    subst hv8
    have M2 := own_nums2 p2 hML
    (go_wp2_with fail; refine (eqInt64S_same N8 M2 _ _ _ rfl _ (by repeat' (first | (with_reducible first | assumption | exact Below.refl _ _ | refine Below.drew ?_ | refine Below.alloc ?_ ?_ _ | refine Below.setCell ?_ ?_ _ | refine below_setR ?_ ?_ _ | refine below_dn ?_ _ | refine Below.trans ?_ (below_mo _ _ _ ?_) | refine Below.trans ?_ (below_mq _ _ ?_) | exact Nat.le_refl _) | (simp; done) | (simp; omega) | omega)) (by repeat' (first | (with_reducible first | assumption | exact Below.refl _ _ | refine Below.drew ?_ | refine Below.alloc ?_ ?_ _ | refine Below.setCell ?_ ?_ _ | refine below_setR ?_ ?_ _ | refine below_dn ?_ _ | refine Below.trans ?_ (below_mo _ _ _ ?_) | refine Below.trans ?_ (below_mq _ _ ?_) | exact Nat.le_refl _) | (simp; done) | (simp; omega) | omega))).mono ?_; rintro e w' ⟨rfl, hb_⟩; obtain ⟨os9, dd9, rfl⟩ := mo_of hb_; clear hb_)
    (go_wp2_with fail; refine (heldInt64S_any _ M4 _ hML _ (by repeat' (first | (with_reducible first | assumption | exact Below.refl _ _ | refine Below.drew ?_ | refine Below.alloc ?_ ?_ _ | refine Below.setCell ?_ ?_ _ | refine below_setR ?_ ?_ _ | refine below_dn ?_ _ | refine Below.trans ?_ (below_mo _ _ _ ?_) | refine Below.trans ?_ (below_mq _ _ ?_) | exact Nat.le_refl _) | (simp; done) | (simp; omega) | omega))).mono ?_; rintro e v' ⟨rfl, rfl⟩)
    go_wp2
    go_ret
    exact ⟨rfl, (by repeat' (first | (with_reducible first | assumption | exact Below.refl _ _ | refine Below.drew ?_ | refine Below.alloc ?_ ?_ _ | refine Below.setCell ?_ ?_ _ | refine below_setR ?_ ?_ _ | refine below_dn ?_ _ | refine Below.trans ?_ (below_mo _ _ _ ?_) | refine Below.trans ?_ (below_mq _ _ ?_) | exact Nat.le_refl _) | (simp; done) | (simp; omega) | omega))⟩
end Go.Proofs.Ytcaaljcfdahpaaa.X
