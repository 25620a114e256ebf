/- The law of SuspectsOf, walked. Conditions: none. -/
import Derived.Test.YtcaaljcfdahpaaaKMarkR
import Derived.Test.YtcaaljcfdahpaaaKMark5
import Derived.Test.YtcaaljcfdahpaaaKSus
namespace Go.Proofs.Ytcaaljcfdahpaaa.X
open Go.RowKit
set_option linter.unusedVariables false
set_option linter.unusedSimpArgs false
set_option maxRecDepth 100000
/-- what is known behind a call that returns a list -/
def relSus (w : World) (ys : List Int) (cd x y : Int) (v u : Value) (wx : World) : Prop :=
  ∃ A c, v = .slice A ys.length c ∧ u = .int .i64 cd ∧ wx.ownsRow w.heap.size 2 1 (.slice A ys.length c) ys.length (ys.map (Value.int .i64)) ∧ (wx.cell? ⟨w.heap.size, 0, none⟩ = some (.int .i64 x) ∧ wx.cell? ⟨w.heap.size, 1, none⟩ = some (.int .i64 y)) ∧ w.heap.size < wx.heap.size ∧ Below w.heap.size w wx
set_option maxHeartbeats 4000000 in
theorem lawExactSuspectsOf (w : World) {A0 : Option Addr} {xs0 : List Int} (c0 : Nat) (hs0 : SL w w.heap.size 1 (fun x => [Value.int .u8 x]) A0 xs0) (hm0 : xs0.length ≤ maxLen) (h80 : b8 xs0) {A1 : Option Addr} {xs1 : List (Int × Int)} (c1 : Nat) (hs1 : SL w w.heap.size 2 (encP .i64 .i64) A1 xs1) (hm1 : xs1.length ≤ maxLen) (x2 y2 : Int) :
    Calls Try.prog 6 #[.slice A0 xs0.length c0, .slice A1 xs1.length c1, .agg #[.int .i64 x2, .int .i64 y2]] w fun e w' => e = .returned (.bool true) ∧ Below w.heap.size w w' := by
  unfold maxLen at hm0
  unfold maxLen at hm1
  by_cases hl0 : 1048576 < xs0.length
  · go_enter Try.func6, Try.ntmps6
    go_wp2
    go_ret
    exact ⟨rfl, (by repeat' (first | (with_reducible first | assumption | exact Below.refl _ _ | refine Below.drew ?_ | refine Below.alloc ?_ ?_ _ | refine Below.setCell ?_ ?_ _ | refine below_setR ?_ ?_ _ | refine below_dn ?_ _ | refine Below.trans ?_ (below_mo _ _ _ ?_) | refine Below.trans ?_ (below_mq _ _ ?_) | exact Nat.le_refl _) | (simp; done) | (simp; omega) | omega))⟩
  by_cases hl1 : (1048576 : Int) < xs1.length
  · go_enter Try.func6, Try.ntmps6
    (go_wp2_with fail; refine (szReadingS_big _ _ (1048576) (by omega) (by omega) _ hl1 (by omega)).mono ?_; rintro e w' ⟨rfl, rfl⟩)
    go_wp2
    go_ret
    exact ⟨rfl, (by repeat' (first | (with_reducible first | assumption | exact Below.refl _ _ | refine Below.drew ?_ | refine Below.alloc ?_ ?_ _ | refine Below.setCell ?_ ?_ _ | refine below_setR ?_ ?_ _ | refine below_dn ?_ _ | refine Below.trans ?_ (below_mo _ _ _ ?_) | refine Below.trans ?_ (below_mq _ _ ?_) | exact Nat.le_refl _) | (simp; done) | (simp; omega) | omega))⟩
  have ha0 : Nums .u8 w w.heap.size A0 xs0 := ⟨hs0, by omega, Nat.le_refl _⟩
  have ha1 : Prs .i64 .i64 w w.heap.size A1 xs1 := ⟨hs1, by omega, Nat.le_refl _⟩
  have hl0' : xs0.length ≤ 1048576 := by omega
  have hl1' : xs1.length ≤ 1048576 := by omega
  have hML : (suL xs0 xs1 x2 y2).length ≤ 1048576 := suL_len _ _ _ _ hl1'
  clear hs0 hs1
  go_enter Try.func6, Try.ntmps6
  (go_wp2_with fail; refine (szReadingS_ok _ _ (1048576) (by omega) (by omega) _ (by omega)).mono ?_; rintro e w' ⟨rfl, rfl⟩)
  go_upto_region 7 with (fail)
  go_cut [8, 9] (fun v u wx => relSus w (suL xs0 xs1 x2 y2) (suC xs0 xs1 x2 y2) x2 y2 v u wx)
  case first =>
    go_region_held3 (fun w' => w'.cell? ⟨w.heap.size, 0, none⟩ = some (.int .i64 x2) ∧ w'.cell? ⟨w.heap.size, 1, none⟩ = some (.int .i64 y2)) (first | (simp [go_sem]; done) | ((repeat' apply And.intro) <;> (first | (simp [go_sem]; done) | (simp [go_sem, *]; done)))) (first | (go_at_call 26; refine (toStack_any ha0 h80 _ _ rfl _ (by repeat' (first | (with_reducible first | assumption | exact Below.refl _ _ | refine Below.drew ?_ | refine Below.alloc ?_ ?_ _ | refine Below.setCell ?_ ?_ _ | refine below_setR ?_ ?_ _ | refine below_dn ?_ _ | refine Below.trans ?_ (below_mo _ _ _ ?_) | refine Below.trans ?_ (below_mq _ _ ?_) | exact Nat.le_refl _) | (simp; done) | (simp; omega) | omega))).mono ?_; rintro e w' ⟨Ap0, cp0, rfl, Fp0, hb_⟩; obtain ⟨os_, dd_, rfl⟩ := mo_of hb_; clear hb_) | (go_at_call 27; refine (toReadingS_any ha1 _ _ (by repeat' (first | (with_reducible first | assumption | exact Below.refl _ _ | refine Below.drew ?_ | refine Below.alloc ?_ ?_ _ | refine Below.setCell ?_ ?_ _ | refine below_setR ?_ ?_ _ | refine below_dn ?_ _ | refine Below.trans ?_ (below_mo _ _ _ ?_) | refine Below.trans ?_ (below_mq _ _ ?_) | exact Nat.le_refl _) | (simp; done) | (simp; omega) | omega))).mono ?_; rintro e w' ⟨Ap1, cp1, rfl, Fp1, hb_⟩; obtain ⟨os_, dd_, rfl⟩ := mo_of hb_; clear hb_) | (go_at_call 39; refine (toFlow_any _ _ _).mono ?_; rintro e w' ⟨rfl, hb_⟩; obtain ⟨os_, dd_, rfl⟩ := mo_of hb_; clear hb_) | (go_at_call 38; refine (specSus_any Fp0 h80 _ _ rfl _ (by repeat' (first | (with_reducible first | assumption | exact Below.refl _ _ | refine Below.drew ?_ | refine Below.alloc ?_ ?_ _ | refine Below.setCell ?_ ?_ _ | refine below_setR ?_ ?_ _ | refine below_dn ?_ _ | refine Below.trans ?_ (below_mo _ _ _ ?_) | refine Below.trans ?_ (below_mq _ _ ?_) | exact Nat.le_refl _) | (simp; done) | (simp; omega) | omega)) Fp1 _ (by repeat' (first | (with_reducible first | assumption | exact Below.refl _ _ | refine Below.drew ?_ | refine Below.alloc ?_ ?_ _ | refine Below.setCell ?_ ?_ _ | refine below_setR ?_ ?_ _ | refine below_dn ?_ _ | refine Below.trans ?_ (below_mo _ _ _ ?_) | refine Below.trans ?_ (below_mq _ _ ?_) | exact Nat.le_refl _) | (simp; done) | (simp; omega) | omega)) _ _).mono ?_; rintro e w' ⟨v_, rfl, own_, hb_⟩; obtain ⟨A_, c_, hv_, N_⟩ := own_nums own_ hML; subst hv_; obtain ⟨os_, dd_, rfl⟩ := mo_of hb_; clear hb_ N_))
    all_goals go_wp2_with fail
    all_goals go_meet
    all_goals unfold relSus
    all_goals refine ⟨_, _, rfl, rfl, own_base3 own_ (by first | (simp; done) | (simp; omega)), ?_, ?_, ?_⟩
    all_goals first | ((repeat' apply And.intro) <;> (first | (simp [go_sem]; done) | (simp [go_sem, *]; done))) | (simp only [size_mo, World.size_alloc, World.size_drew]; omega) | exact (by repeat' (first | (with_reducible first | assumption | exact Below.refl _ _ | refine Below.drew ?_ | refine Below.alloc ?_ ?_ _ | refine Below.setCell ?_ ?_ _ | refine below_setR ?_ ?_ _ | refine below_dn ?_ _ | refine Below.trans ?_ (below_mo _ _ _ ?_) | refine Below.trans ?_ (below_mq _ _ ?_) | exact Nat.le_refl _) | (simp; done) | (simp; omega) | omega))
  obtain ⟨A3, c3, rfl, rfl, own3, ⟨k0, k1⟩, lw1, hB1⟩ := hcut
  obtain ⟨w1, hw_⟩ : ∃ w1, w1 = wc := ⟨_, rfl⟩
  subst hw_
  (go_wp2_with fail; refine (toStackO ha0 h80 _ _ rfl _ (by repeat' (first | (with_reducible first | assumption | exact Below.refl _ _ | refine Below.drew ?_ | refine Below.alloc ?_ ?_ _ | refine Below.setCell ?_ ?_ _ | refine below_setR ?_ ?_ _ | refine below_dn ?_ _ | refine Below.trans ?_ (below_mo _ _ _ ?_) | refine Below.trans ?_ (below_mq _ _ ?_) | exact Nat.le_refl _) | (simp; done) | (simp; omega) | omega))).mono ?_; rintro e w' ⟨gA, va, rfl, oA, xF0, hb_⟩; obtain ⟨os4, dd4, rfl⟩ := mo_of hb_; clear hb_)
  (go_wp2_with fail; refine (toReadingSO ha1 _ _ (by repeat' (first | (with_reducible first | assumption | exact Below.refl _ _ | refine Below.drew ?_ | refine Below.alloc ?_ ?_ _ | refine Below.setCell ?_ ?_ _ | refine below_setR ?_ ?_ _ | refine below_dn ?_ _ | refine Below.trans ?_ (below_mo _ _ _ ?_) | refine Below.trans ?_ (below_mq _ _ ?_) | exact Nat.le_refl _) | (simp; done) | (simp; omega) | omega))).mono ?_; rintro e w' ⟨gL, vl, rfl, oL, xF1, hb_⟩; obtain ⟨os5, dd5, rfl⟩ := mo_of hb_; clear hb_)
  (go_wp2_with fail; refine (toFlow_any _ _ _).mono ?_; rintro e w' ⟨rfl, hb_⟩; obtain ⟨os15, dd15, rfl⟩ := mo_of hb_; clear hb_)
  (go_wp2_with fail; refine (implSus_any xF0 h80 _ _ rfl _ (by repeat' (first | (with_reducible first | assumption | exact Below.refl _ _ | refine Below.drew ?_ | refine Below.alloc ?_ ?_ _ | refine Below.setCell ?_ ?_ _ | refine below_setR ?_ ?_ _ | refine below_dn ?_ _ | refine Below.trans ?_ (below_mo _ _ _ ?_) | refine Below.trans ?_ (below_mq _ _ ?_) | exact Nat.le_refl _) | (simp; done) | (simp; omega) | omega)) xF1 _ (by repeat' (first | (with_reducible first | assumption | exact Below.refl _ _ | refine Below.drew ?_ | refine Below.alloc ?_ ?_ _ | refine Below.setCell ?_ ?_ _ | refine below_setR ?_ ?_ _ | refine below_dn ?_ _ | refine Below.trans ?_ (below_mo _ _ _ ?_) | refine Below.trans ?_ (below_mq _ _ ?_) | exact Nat.le_refl _) | (simp; done) | (simp; omega) | omega)) _ _).mono ?_; rintro e w' ⟨v6, rfl, own6, hb_⟩; obtain ⟨os6, dd6, rfl⟩ := mo_of hb_; clear hb_)
  obtain ⟨A6, c6, hv6, N6⟩ := own_nums own6 hML
  have N3 := own_nums2 own3 hML
  subst hv6
  (go_wp2_with fail; refine (eqInt64S_same N6 N3 _ _ _ rfl _ (by repeat' (first | (with_reducible first | assumption | exact Below.refl _ _ | refine Below.drew ?_ | refine Below.alloc ?_ ?_ _ | refine Below.setCell ?_ ?_ _ | refine below_setR ?_ ?_ _ | refine below_dn ?_ _ | refine Below.trans ?_ (below_mo _ _ _ ?_) | refine Below.trans ?_ (below_mq _ _ ?_) | exact Nat.le_refl _) | (simp; done) | (simp; omega) | omega)) (by repeat' (first | (with_reducible first | assumption | exact Below.refl _ _ | refine Below.drew ?_ | refine Below.alloc ?_ ?_ _ | refine Below.setCell ?_ ?_ _ | refine below_setR ?_ ?_ _ | refine below_dn ?_ _ | refine Below.trans ?_ (below_mo _ _ _ ?_) | refine Below.trans ?_ (below_mq _ _ ?_) | exact Nat.le_refl _) | (simp; done) | (simp; omega) | omega))).mono ?_; rintro e w' ⟨rfl, hb_⟩; obtain ⟨os7, dd7, rfl⟩ := mo_of hb_; clear hb_)
  (go_wp2_with fail; refine (toStack_any ha0 h80 _ _ rfl _ (by repeat' (first | (with_reducible first | assumption | exact Below.refl _ _ | refine Below.drew ?_ | refine Below.alloc ?_ ?_ _ | refine Below.setCell ?_ ?_ _ | refine below_setR ?_ ?_ _ | refine below_dn ?_ _ | refine Below.trans ?_ (below_mo _ _ _ ?_) | refine Below.trans ?_ (below_mq _ _ ?_) | exact Nat.le_refl _) | (simp; done) | (simp; omega) | omega))).mono ?_; rintro e w' ⟨Ar0, cr0, rfl, rF0, hb_⟩; obtain ⟨os8, dd8, rfl⟩ := mo_of hb_; clear hb_)
  (go_wp2_with fail; refine (eqStack_same xF0 rF0 _ _ _ rfl _ (by repeat' (first | (with_reducible first | assumption | exact Below.refl _ _ | refine Below.drew ?_ | refine Below.alloc ?_ ?_ _ | refine Below.setCell ?_ ?_ _ | refine below_setR ?_ ?_ _ | refine below_dn ?_ _ | refine Below.trans ?_ (below_mo _ _ _ ?_) | refine Below.trans ?_ (below_mq _ _ ?_) | exact Nat.le_refl _) | (simp; done) | (simp; omega) | omega)) (by repeat' (first | (with_reducible first | assumption | exact Below.refl _ _ | refine Below.drew ?_ | refine Below.alloc ?_ ?_ _ | refine Below.setCell ?_ ?_ _ | refine below_setR ?_ ?_ _ | refine below_dn ?_ _ | refine Below.trans ?_ (below_mo _ _ _ ?_) | refine Below.trans ?_ (below_mq _ _ ?_) | exact Nat.le_refl _) | (simp; done) | (simp; omega) | omega))).mono ?_; rintro e w' ⟨rfl, hb_⟩; obtain ⟨os9, dd9, rfl⟩ := mo_of hb_; clear hb_)
  (go_wp2_with fail; refine (toReadingS_any ha1 _ _ (by repeat' (first | (with_reducible first | assumption | exact Below.refl _ _ | refine Below.drew ?_ | refine Below.alloc ?_ ?_ _ | refine Below.setCell ?_ ?_ _ | refine below_setR ?_ ?_ _ | refine below_dn ?_ _ | refine Below.trans ?_ (below_mo _ _ _ ?_) | refine Below.trans ?_ (below_mq _ _ ?_) | exact Nat.le_refl _) | (simp; done) | (simp; omega) | omega))).mono ?_; rintro e w' ⟨Ar1, cr1, rfl, rF1, hb_⟩; obtain ⟨os10, dd10, rfl⟩ := mo_of hb_; clear hb_)
  (go_wp2_with fail; refine (eqReadingS_same xF1 rF1 _ _ _ (by repeat' (first | (with_reducible first | assumption | exact Below.refl _ _ | refine Below.drew ?_ | refine Below.alloc ?_ ?_ _ | refine Below.setCell ?_ ?_ _ | refine below_setR ?_ ?_ _ | refine below_dn ?_ _ | refine Below.trans ?_ (below_mo _ _ _ ?_) | refine Below.trans ?_ (below_mq _ _ ?_) | exact Nat.le_refl _) | (simp; done) | (simp; omega) | omega)) (by repeat' (first | (with_reducible first | assumption | exact Below.refl _ _ | refine Below.drew ?_ | refine Below.alloc ?_ ?_ _ | refine Below.setCell ?_ ?_ _ | refine below_setR ?_ ?_ _ | refine below_dn ?_ _ | refine Below.trans ?_ (below_mo _ _ _ ?_) | refine Below.trans ?_ (below_mq _ _ ?_) | exact Nat.le_refl _) | (simp; done) | (simp; omega) | omega))).mono ?_; rintro e x ⟨rfl, hx⟩)
  have hbA := fun q h => own3.lt q h
  have hbB := fun q h => own6.lt q h
  have hbC := oA.lt gA rfl
  have hbD := oL.lt gL rfl
  have hzx := hx.size
  simp only [size_mo, World.size_alloc] at hbA hbB hbC hbD hzx
  have HbA := Lib.hid hbA
  have HbB := Lib.hid hbB
  clear hbA hbB
  have x0 : x.cell? ⟨w.heap.size, 0, none⟩ = some (.int .i64 x2) := (hx.cell (p := ⟨w.heap.size, 0, none⟩) (by first | (simp; done) | (simp; omega))).trans (by first | assumption | (simp [go_sem]; done) | (simp [go_sem, *]; done) | (simp [go_sem]; rfl))
  have x1 : x.cell? ⟨w.heap.size, 1, none⟩ = some (.int .i64 y2) := (hx.cell (p := ⟨w.heap.size, 1, none⟩) (by first | (simp; done) | (simp; omega))).trans (by first | assumption | (simp [go_sem]; done) | (simp [go_sem, *]; done) | (simp [go_sem]; rfl))
  have hwx : Below w.heap.size w x := below_step (by repeat' (first | (with_reducible first | assumption | exact Below.refl _ _ | refine Below.drew ?_ | refine Below.alloc ?_ ?_ _ | refine Below.setCell ?_ ?_ _ | refine below_setR ?_ ?_ _ | refine below_dn ?_ _ | refine Below.trans ?_ (below_mo _ _ _ ?_) | refine Below.trans ?_ (below_mq _ _ ?_) | exact Nat.le_refl _) | (simp; done) | (simp; omega) | omega)) hx (by first | (simp; done) | (simp; omega))
  have q3 := own_below own3 (below_step (by repeat' (first | (with_reducible first | assumption | exact Below.refl _ _ | refine Below.drew ?_ | refine Below.alloc ?_ ?_ _ | refine Below.setCell ?_ ?_ _ | refine below_setR ?_ ?_ _ | refine below_dn ?_ _ | refine Below.trans ?_ (below_mo _ _ _ ?_) | refine Below.trans ?_ (below_mq _ _ ?_) | exact Nat.le_refl _) | (simp; done) | (simp; omega) | omega)) hx (by first | (simp; done) | (simp; omega)))
  have q6 := own_below own6 (below_step (by repeat' (first | (with_reducible first | assumption | exact Below.refl _ _ | refine Below.drew ?_ | refine Below.alloc ?_ ?_ _ | refine Below.setCell ?_ ?_ _ | refine below_setR ?_ ?_ _ | refine below_dn ?_ _ | refine Below.trans ?_ (below_mo _ _ _ ?_) | refine Below.trans ?_ (below_mq _ _ ?_) | exact Nat.le_refl _) | (simp; done) | (simp; omega) | omega)) hx (by first | (simp; done) | (simp; omega)))
  have qA := own_below oA (below_step (by repeat' (first | (with_reducible first | assumption | exact Below.refl _ _ | refine Below.drew ?_ | refine Below.alloc ?_ ?_ _ | refine Below.setCell ?_ ?_ _ | refine below_setR ?_ ?_ _ | refine below_dn ?_ _ | refine Below.trans ?_ (below_mo _ _ _ ?_) | refine Below.trans ?_ (below_mq _ _ ?_) | exact Nat.le_refl _) | (simp; done) | (simp; omega) | omega)) hx (by first | (simp; done) | (simp; omega)))
  have qL := own_below oL (below_step (by repeat' (first | (with_reducible first | assumption | exact Below.refl _ _ | refine Below.drew ?_ | refine Below.alloc ?_ ?_ _ | refine Below.setCell ?_ ?_ _ | refine below_setR ?_ ?_ _ | refine below_dn ?_ _ | refine Below.trans ?_ (below_mo _ _ _ ?_) | refine Below.trans ?_ (below_mq _ _ ?_) | exact Nat.le_refl _) | (simp; done) | (simp; omega) | omega)) hx (by first | (simp; done) | (simp; omega)))
  clear hx own3 own6 oA oL N3 N6 xF0 xF1 rF0 rF1
  (go_wp2_with fail; refine (markStackR xs0.length gA _ _ _ hl0' _ va qA 1 (by omega)).mono ?_; rintro e y1 ⟨rfl, hg1⟩)
  have cy1 : Chg x y1 (fun k => k = gA ∨ k = gL) := Chg.of_grown hg1 (fun k e => .inl (by injection e with e; exact e.symm))
  have qL1 := qL.kept hg1 (.inr (by simp [Value.ownBlock]; omega))
  (go_wp2_with fail; refine (markReadingSR xs1.length gL _ _ _ hl1' _ vl qL1 (1 + (xs0.length : Int)) (by omega)).mono ?_; rintro e y ⟨rfl, hg2⟩)
  have cy : Chg x y (fun k => k = gA ∨ k = gL) := cy1.trans (Chg.of_grown hg2 (fun k e => .inr (by injection e with e; exact e.symm)))
  have r3 := cy.row q3 (far HbA (fun k hk => by rcases hk with rfl | rfl <;> omega))
  have r6 := cy.row q6 (far HbB (fun k hk => by rcases hk with rfl | rfl <;> omega))
  have hwy : Below w.heap.size w y := cy.below hwx (by omega) (fun k hk => by rcases hk with rfl | rfl <;> omega)
  have hzy := cy.size
  have y0 := cy.cell x0 (by omega)
  have y1 := cy.cell x1 (by omega)
  clear x0 x1 cy cy1 hg1 hg2 qA qL qL1 q3 q6 hwx
  have n1 : ¬ 1 + (xs0.length : Int) + 2 * (xs1.length : Int) < 0 := by omega
  have M3 := own_nums2 r3 hML
  have M6 := own_nums2 r6 hML
  (go_wp2_with fail; refine (eqInt64S_same M6 M3 _ _ _ rfl _ (Below.refl _ _) (Below.refl _ _)).mono ?_; rintro e z ⟨rfl, hz⟩)
  have s3 := own_below r3 hz
  have s6 := own_below r6 hz
  have hwz : Below w.heap.size w z := below_step hwy hz (by omega)
  have hzz := hz.size
  have z0 := (Chg.of_below hz (fun _ => False)).cell y0 (fun h => h)
  have z1 := (Chg.of_below hz (fun _ => False)).cell y1 (fun h => h)
  clear y0 y1 hz M3 M6 r3 r6 hwy
  (go_wp2_with fail; refine (markInt64S_own (suL xs0 xs1 x2 y2) _ _ _ hML _ s6).mono ?_; rintro e v ⟨rfl, p6, hg3⟩)
  have cv : Chg z v (fun k => (Value.slice A6 (suL xs0 xs1 x2 y2).length c6).ownBlock = some k) := Chg.of_grown hg3 (fun k e => e)
  have p3 := cv.row s3 (far HbA (fun k hk => by have := HbB.out k hk; omega))
  have hwv : Below w.heap.size w v := cv.below hwz (by omega) (fun k hk => by have := HbB.out k hk; omega)
  have hzv := cv.size
  have v0 := cv.cell z0 (fun h => by have := HbB.out _ h; omega)
  have v1 := cv.cell z1 (fun h => by have := HbB.out _ h; omega)
  clear z0 z1 cv hg3 s3 s6 hwz
  have M6 := own_mks p6 hML
  (go_wp2_with fail; refine (heldInt64S_any _ M6 _ hML _ (Below.refl _ _)).mono ?_; rintro e v' ⟨rfl, rfl⟩)
  have n0 : ¬ ((suL xs0 xs1 x2 y2).length : Int) + 1 < 0 := by omega
  have lv : w.heap.size < v.heap.size := block_lt_of_cell v0
  go_upto_region 30 with (fail)
  go_cut [17, 18] (fun v' u wx => relSus w (suL xs0 xs1 x2 y2) (suC xs0 xs1 x2 y2) x2 y2 v' u wx ∧ Below v.heap.size v wx)
  case first =>
    go_region_held3 (fun w' => w'.cell? ⟨w.heap.size, 0, none⟩ = some (.int .i64 x2) ∧ w'.cell? ⟨w.heap.size, 1, none⟩ = some (.int .i64 y2)) (first | (simp [go_sem]; done) | ((repeat' apply And.intro) <;> (first | (simp [go_sem]; done) | (simp [go_sem, *]; done)))) (first | (go_at_call 26; refine (toStack_any ha0 h80 _ _ rfl _ (by repeat' (first | (with_reducible first | assumption | exact Below.refl _ _ | refine Below.drew ?_ | refine Below.alloc ?_ ?_ _ | refine Below.setCell ?_ ?_ _ | refine below_setR ?_ ?_ _ | refine below_dn ?_ _ | refine Below.trans ?_ (below_mo _ _ _ ?_) | refine Below.trans ?_ (below_mq _ _ ?_) | exact Nat.le_refl _) | (simp; done) | (simp; omega) | omega))).mono ?_; rintro e w' ⟨Ah0, ch0, rfl, Fh0, hb_⟩; obtain ⟨os_, dd_, rfl⟩ := mo_of hb_; clear hb_) | (go_at_call 27; refine (toReadingS_any ha1 _ _ (by repeat' (first | (with_reducible first | assumption | exact Below.refl _ _ | refine Below.drew ?_ | refine Below.alloc ?_ ?_ _ | refine Below.setCell ?_ ?_ _ | refine below_setR ?_ ?_ _ | refine below_dn ?_ _ | refine Below.trans ?_ (below_mo _ _ _ ?_) | refine Below.trans ?_ (below_mq _ _ ?_) | exact Nat.le_refl _) | (simp; done) | (simp; omega) | omega))).mono ?_; rintro e w' ⟨Ah1, ch1, rfl, Fh1, hb_⟩; obtain ⟨os_, dd_, rfl⟩ := mo_of hb_; clear hb_) | (go_at_call 39; refine (toFlow_any _ _ _).mono ?_; rintro e w' ⟨rfl, hb_⟩; obtain ⟨os_, dd_, rfl⟩ := mo_of hb_; clear hb_) | (go_at_call 40; refine (implSus_any Fh0 h80 _ _ rfl _ (by repeat' (first | (with_reducible first | assumption | exact Below.refl _ _ | refine Below.drew ?_ | refine Below.alloc ?_ ?_ _ | refine Below.setCell ?_ ?_ _ | refine below_setR ?_ ?_ _ | refine below_dn ?_ _ | refine Below.trans ?_ (below_mo _ _ _ ?_) | refine Below.trans ?_ (below_mq _ _ ?_) | exact Nat.le_refl _) | (simp; done) | (simp; omega) | omega)) Fh1 _ (by repeat' (first | (with_reducible first | assumption | exact Below.refl _ _ | refine Below.drew ?_ | refine Below.alloc ?_ ?_ _ | refine Below.setCell ?_ ?_ _ | refine below_setR ?_ ?_ _ | refine below_dn ?_ _ | refine Below.trans ?_ (below_mo _ _ _ ?_) | refine Below.trans ?_ (below_mq _ _ ?_) | exact Nat.le_refl _) | (simp; done) | (simp; omega) | omega)) _ _).mono ?_; rintro e w' ⟨v_, rfl, own_, hb_⟩; obtain ⟨A_, c_, hv_, N_⟩ := own_nums own_ hML; subst hv_; obtain ⟨os_, dd_, rfl⟩ := mo_of hb_; clear hb_ N_))
    all_goals go_wp2_with fail
    all_goals go_meet
    all_goals unfold relSus
    all_goals refine ⟨⟨_, _, rfl, rfl, own_base3 own_ (by first | (simp; done) | (simp; omega)), ?_, ?_, ?_⟩, (by repeat' (first | (with_reducible first | assumption | exact Below.refl _ _ | refine Below.drew ?_ | refine Below.alloc ?_ ?_ _ | refine Below.setCell ?_ ?_ _ | refine below_setR ?_ ?_ _ | refine below_dn ?_ _ | refine Below.trans ?_ (below_mo _ _ _ ?_) | refine Below.trans ?_ (below_mq _ _ ?_) | exact Nat.le_refl _) | (simp; done) | (simp; omega) | omega))⟩
    all_goals first | ((repeat' apply And.intro) <;> (first | (simp [go_sem]; done) | (simp [go_sem, *]; done))) | (simp only [size_mo, World.size_alloc, World.size_drew]; omega) | exact (by repeat' (first | (with_reducible first | assumption | exact Below.refl _ _ | refine Below.drew ?_ | refine Below.alloc ?_ ?_ _ | refine Below.setCell ?_ ?_ _ | refine below_setR ?_ ?_ _ | refine below_dn ?_ _ | refine Below.trans ?_ (below_mo _ _ _ ?_) | refine Below.trans ?_ (below_mq _ _ ?_) | exact Nat.le_refl _) | (simp; done) | (simp; omega) | omega))
  obtain ⟨⟨A8, c8, rfl, rfl, own8, -, lw3, hB3⟩, hB4⟩ := hcut
  obtain ⟨w3, hw_⟩ : ∃ w1, w1 = wc := ⟨_, rfl⟩
  subst hw_
  have N8 := own_nums2 own8 hML
  have hz4 := hB4.size
  have M3 := own_nums2 p3 hML
  (go_wp2_with fail; refine (eqInt64S_same N8 M3 _ _ _ rfl _ (by repeat' (first | (with_reducible first | assumption | exact Below.refl _ _ | refine Below.drew ?_ | refine Below.alloc ?_ ?_ _ | refine Below.setCell ?_ ?_ _ | refine below_setR ?_ ?_ _ | refine below_dn ?_ _ | refine Below.trans ?_ (below_mo _ _ _ ?_) | refine Below.trans ?_ (below_mq _ _ ?_) | exact Nat.le_refl _) | (simp; done) | (simp; omega) | omega)) (by repeat' (first | (with_reducible first | assumption | exact Below.refl _ _ | refine Below.drew ?_ | refine Below.alloc ?_ ?_ _ | refine Below.setCell ?_ ?_ _ | refine below_setR ?_ ?_ _ | refine below_dn ?_ _ | refine Below.trans ?_ (below_mo _ _ _ ?_) | refine Below.trans ?_ (below_mq _ _ ?_) | exact Nat.le_refl _) | (simp; done) | (simp; omega) | omega))).mono ?_; rintro e w' ⟨rfl, hb_⟩; obtain ⟨os14, dd14, rfl⟩ := mo_of hb_; clear hb_)
  (go_wp2_with fail; refine (heldInt64S_any _ M6 _ hML _ (by repeat' (first | (with_reducible first | assumption | exact Below.refl _ _ | refine Below.drew ?_ | refine Below.alloc ?_ ?_ _ | refine Below.setCell ?_ ?_ _ | refine below_setR ?_ ?_ _ | refine below_dn ?_ _ | refine Below.trans ?_ (below_mo _ _ _ ?_) | refine Below.trans ?_ (below_mq _ _ ?_) | exact Nat.le_refl _) | (simp; done) | (simp; omega) | omega))).mono ?_; rintro e v' ⟨rfl, rfl⟩)
  go_wp2
  go_ret
  exact ⟨rfl, (by repeat' (first | (with_reducible first | assumption | exact Below.refl _ _ | refine Below.drew ?_ | refine Below.alloc ?_ ?_ _ | refine Below.setCell ?_ ?_ _ | refine below_setR ?_ ?_ _ | refine below_dn ?_ _ | refine Below.trans ?_ (below_mo _ _ _ ?_) | refine Below.trans ?_ (below_mq _ _ ?_) | exact Nat.le_refl _) | (simp; done) | (simp; omega) | omega))⟩
end Go.Proofs.Ytcaaljcfdahpaaa.X
