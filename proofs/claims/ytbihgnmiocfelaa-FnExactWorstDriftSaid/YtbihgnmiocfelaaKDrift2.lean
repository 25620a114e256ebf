/- The common days of two lists of totals, and the drifts on them. Conditions: none. -/
import Derived.Test.YtbihgnmiocfelaaKDrift
namespace Go.Proofs.Ytbihgnmiocfelaa.X
open Go.RowKit
set_option linter.unusedVariables false
set_option linter.unusedSimpArgs false
set_option maxRecDepth 100000
/-- the code when both lists are valid -/
theorem wdC_v {xs ys : List (Int × Int)} (h : vtB xs = true) (g : vtB ys = true) : wdC xs ys = if xs.length = 0 ∨ ys.length = 0 then 6 else if cL xs ys < cF xs ys then 6 else if 400 < cL xs ys - cF xs ys + 1 then 3 else 0 := by unfold wdC; rw [if_pos ⟨h, g⟩]
/-- the first cells of a list of totals that is not empty -/
theorem tot_ends {L : Option Addr} {xs : List (Int × Int)} {V w : World} {C : Nat} (hl : Prs .i64 .i64 V C L xs) (hv : Below C V w) (h0 : ¬ xs.length = 0) :
    ∃ b off, L = some ⟨b, off, none⟩ ∧ b < w.heap.size ∧ w.cell? ⟨b, off, none⟩ = some (.int .i64 (tD xs 0)) ∧ w.cell? ⟨b, off + (xs.length - 1) * 2, none⟩ = some (.int .i64 (tD xs ((xs.length : Int) - 1))) := by
  obtain ⟨b, off, rfl, hbs, z0, _⟩ := hl.at hv (k := 0) (by omega)
  obtain ⟨b', off', he, _, y0, _⟩ := hl.at hv (k := xs.length - 1) (by omega)
  obtain ⟨rfl, rfl⟩ := addr_same he
  rw [show ((xs.length - 1 : Nat) : Int) = (xs.length : Int) - 1 by omega] at y0
  rw [show ((0 : Nat) : Int) = 0 from rfl, Nat.zero_mul, Nat.add_zero] at z0
  exact ⟨b, off, rfl, hbs, z0, y0⟩
/-- the common days of valid lists, with a code -/
noncomputable def cdV (xs ys : List (Int × Int)) : Int × Int × Int := if wdC xs ys = 0 then (cF xs ys, cL xs ys, 0) else (0, 0, wdC xs ys)
theorem cdV_0 {xs ys : List (Int × Int)} (h : wdC xs ys = 0) : cdV xs ys = (cF xs ys, cL xs ys, 0) := by unfold cdV; rw [if_pos h]
theorem cdV_6 {xs ys : List (Int × Int)} (h : wdC xs ys = 6) : cdV xs ys = (0, 0, 6) := by unfold cdV; rw [h]; rfl
theorem cdV_3 {xs ys : List (Int × Int)} (h : wdC xs ys = 3) : cdV xs ys = (0, 0, 3) := by unfold cdV; rw [h]; rfl
theorem cdV_1 {xs ys : List (Int × Int)} (h : wdC xs ys = 1) : cdV xs ys = (0, 0, 1) := by unfold cdV; rw [h]; rfl
set_option maxHeartbeats 4000000 in
theorem l06Common_any {A B : Option Addr} {xs ys : List (Int × Int)} {V V2 : World} {C C2 : Nat} (hl : Prs .i64 .i64 V C A xs) (c1 : Nat) (hl2 : Prs .i64 .i64 V2 C2 B ys) (c2 : Nat) (w : World) (hv : Below C V w) (hv2 : Below C2 V2 w) (hx : vtB xs = true) (hy : vtB ys = true) (g : Nat)
    (h0 : w.cell? ⟨g, 0, none⟩ = some (.slice A xs.length c1)) (h1 : w.cell? ⟨g, 1, none⟩ = some (.slice B ys.length c2)) :
    Calls Try.prog 244 #[.slice (some ⟨g, 0, none⟩) 2 2] w fun e w' => e = .returned (.tuple #[.int .i64 (cdV xs ys).1, .int .i64 (cdV xs ys).2.1, .int .i64 (cdV xs ys).2.2]) ∧ Below w.heap.size w w' := by
  have hW := wdC_v hx hy
  have hvx := (vtB_iff xs).1 hx
  have hvy := (vtB_iff ys).1 hy
  by_cases x0 : xs.length = 0
  · rw [if_pos (.inl x0)] at hW
    have HR := Lib.hid (cdV_6 hW)
    have b1 : ((xs.length : Int) == 0) = true := by rw [x0]; rfl
    clear hW hx hy hvx hvy x0
    go_enter Try.func244, Try.ntmps244
    go_wp2
    refine wp_loop_rounds 1 ?_
    rw [rounds_succ]
    go_wp2
    go_returns
    exact ⟨(by first | (rw [HR.out]; done) | (rw [HR.out]; rfl)), (by repeat' (first | (with_reducible first | assumption | exact Below.refl _ _ | refine Below.drew ?_ | refine Below.alloc ?_ ?_ _ | refine Below.setCell ?_ ?_ _ | refine below_setR ?_ ?_ _ | refine below_dn ?_ _ | refine Below.trans ?_ (below_mo _ _ _ ?_) | refine Below.trans ?_ (below_mq _ _ ?_) | exact Nat.le_refl _) | (simp; done) | (simp; omega) | omega))⟩
  obtain ⟨b, off, rfl, hbs, z0, z1⟩ := tot_ends hl hv x0
  have ⟨⟨d0, d1⟩, d2, d3⟩ := day_bd hvx x0
  have b1 : ((xs.length : Int) == 0) = false := beq_eq_false_iff_ne.2 (by omega)
  have q3 : (0 : Int) ≤ (xs.length : Int) - 1 := by omega
  have q4 : (1 : Int) ≤ (xs.length : Int) := by omega
  have q5 : ((xs.length : Int) - 1).toNat = xs.length - 1 := by omega
  have q6 : (0 : Int) < (xs.length : Int) := by omega
  have q7 : (xs.length : Int) - 1 < (xs.length : Int) := by omega
  have hll := hl.len
  have q8 : IntKind.i64.wrap ((xs.length : Int) - 1) = (xs.length : Int) - 1 := IntWalk.i64_in _ ⟨by omega, by omega⟩
  have m1 : max 0 (tD xs 0) = tD xs 0 := by omega
  have m2 : min 100000 (tD xs ((xs.length : Int) - 1)) = tD xs ((xs.length : Int) - 1) := by omega
  have M1 := Lib.hid m1
  have M2 := Lib.hid m2
  clear m1 m2
  by_cases y0 : ys.length = 0
  · rw [if_pos (.inr y0)] at hW
    have HR := Lib.hid (cdV_6 hW)
    have r1 : ((ys.length : Int) == 0) = true := by rw [y0]; rfl
    have X0 := Lib.hid x0
    clear hW hx hy hvx hvy y0 x0
    go_enter Try.func244, Try.ntmps244
    go_wp2
    refine wp_loop_rounds 2 ?_
    rw [rounds_succ]
    (go_wp2_with fail; refine (l00Max_ok _ _ _).mono ?_; rintro e w' ⟨rfl, rfl⟩; rw [M1.out])
    (go_wp2_with fail; refine (l00Min_ok _ _ _).mono ?_; rintro e w' ⟨rfl, rfl⟩; rw [M2.out])
    go_wp2
    rw [rounds_succ]
    go_wp2
    go_returns
    exact ⟨(by first | (rw [HR.out]; done) | (rw [HR.out]; rfl)), (by repeat' (first | (with_reducible first | assumption | exact Below.refl _ _ | refine Below.drew ?_ | refine Below.alloc ?_ ?_ _ | refine Below.setCell ?_ ?_ _ | refine below_setR ?_ ?_ _ | refine below_dn ?_ _ | refine Below.trans ?_ (below_mo _ _ _ ?_) | refine Below.trans ?_ (below_mq _ _ ?_) | exact Nat.le_refl _) | (simp; done) | (simp; omega) | omega))⟩
  rw [if_neg (by omega)] at hW
  obtain ⟨b', off', rfl, hbs', y1, y2⟩ := tot_ends hl2 hv2 y0
  have ⟨⟨d4, d5⟩, d6, d7⟩ := day_bd hvy y0
  have r1 : ((ys.length : Int) == 0) = false := beq_eq_false_iff_ne.2 (by omega)
  have r3 : (0 : Int) ≤ (ys.length : Int) - 1 := by omega
  have r4 : (1 : Int) ≤ (ys.length : Int) := by omega
  have r5 : ((ys.length : Int) - 1).toNat = ys.length - 1 := by omega
  have r6 : (0 : Int) < (ys.length : Int) := by omega
  have r7 : (ys.length : Int) - 1 < (ys.length : Int) := by omega
  have hll2 := hl2.len
  have r8 : IntKind.i64.wrap ((ys.length : Int) - 1) = (ys.length : Int) - 1 := IntWalk.i64_in _ ⟨by omega, by omega⟩
  obtain ⟨F, hF⟩ : ∃ F, F = cF xs ys := ⟨_, rfl⟩
  obtain ⟨L, hL⟩ : ∃ L, L = cL xs ys := ⟨_, rfl⟩
  have cb := com_bd hvx hvy x0 y0
  have M3 : Hid (max (tD xs 0) (tD ys 0) = F) := hF.symm
  have M4 : Hid (min (tD xs ((xs.length : Int) - 1)) (tD ys ((ys.length : Int) - 1)) = L) := hL.symm
  rw [← hF, ← hL] at hW cb
  have e1 : IntKind.i64.wrap (L - F) = L - F := IntWalk.i64_in _ ⟨by omega, by omega⟩
  have e2' : IntKind.i64.wrap (L - F + 1) = L - F + 1 := IntWalk.i64_in _ ⟨by omega, by omega⟩
  have HC : Hid (wdC xs ys = 0 → cdV xs ys = (F, L, 0)) := fun h => by rw [cdV_0 h, hF, hL]
  have X0 := Lib.hid x0
  have Y0 := Lib.hid y0
  clear hF hL cb hx hy hvx hvy x0 y0 d0 d1 d2 d3 d4 d5 d6 d7
  by_cases l1 : L < F
  · rw [if_pos l1] at hW
    have HR := Lib.hid (cdV_6 hW)
    clear hW
    go_enter Try.func244, Try.ntmps244
    go_wp2
    refine wp_loop_rounds 3 ?_
    rw [rounds_succ]
    (go_wp2_with fail; refine (l00Max_ok _ _ _).mono ?_; rintro e w' ⟨rfl, rfl⟩; rw [M1.out])
    (go_wp2_with fail; refine (l00Min_ok _ _ _).mono ?_; rintro e w' ⟨rfl, rfl⟩; rw [M2.out])
    go_wp2
    rw [rounds_succ]
    (go_wp2_with fail; refine (l00Max_ok _ _ _).mono ?_; rintro e w' ⟨rfl, rfl⟩; rw [M3.out])
    (go_wp2_with fail; refine (l00Min_ok _ _ _).mono ?_; rintro e w' ⟨rfl, rfl⟩; rw [M4.out])
    go_wp2
    rw [rounds_succ]
    go_wp2
    go_returns
    exact ⟨(by first | (rw [HR.out]; done) | (rw [HR.out]; rfl)), (by repeat' (first | (with_reducible first | assumption | exact Below.refl _ _ | refine Below.drew ?_ | refine Below.alloc ?_ ?_ _ | refine Below.setCell ?_ ?_ _ | refine below_setR ?_ ?_ _ | refine below_dn ?_ _ | refine Below.trans ?_ (below_mo _ _ _ ?_) | refine Below.trans ?_ (below_mq _ _ ?_) | exact Nat.le_refl _) | (simp; done) | (simp; omega) | omega))⟩
  rw [if_neg l1] at hW
  by_cases l2 : 400 < L - F + 1
  · rw [if_pos l2] at hW
    have HR := Lib.hid (cdV_3 hW)
    clear hW
    go_enter Try.func244, Try.ntmps244
    go_wp2
    refine wp_loop_rounds 3 ?_
    rw [rounds_succ]
    (go_wp2_with fail; refine (l00Max_ok _ _ _).mono ?_; rintro e w' ⟨rfl, rfl⟩; rw [M1.out])
    (go_wp2_with fail; refine (l00Min_ok _ _ _).mono ?_; rintro e w' ⟨rfl, rfl⟩; rw [M2.out])
    go_wp2
    rw [rounds_succ]
    (go_wp2_with fail; refine (l00Max_ok _ _ _).mono ?_; rintro e w' ⟨rfl, rfl⟩; rw [M3.out])
    (go_wp2_with fail; refine (l00Min_ok _ _ _).mono ?_; rintro e w' ⟨rfl, rfl⟩; rw [M4.out])
    go_wp2
    rw [rounds_succ]
    go_wp2
    go_returns
    exact ⟨(by first | (rw [HR.out]; done) | (rw [HR.out]; rfl)), (by repeat' (first | (with_reducible first | assumption | exact Below.refl _ _ | refine Below.drew ?_ | refine Below.alloc ?_ ?_ _ | refine Below.setCell ?_ ?_ _ | refine below_setR ?_ ?_ _ | refine below_dn ?_ _ | refine Below.trans ?_ (below_mo _ _ _ ?_) | refine Below.trans ?_ (below_mq _ _ ?_) | exact Nat.le_refl _) | (simp; done) | (simp; omega) | omega))⟩
  · rw [if_neg l2] at hW
    have HR := Lib.hid (HC.out hW)
    clear hW
    go_enter Try.func244, Try.ntmps244
    go_wp2
    refine wp_loop_rounds 3 ?_
    rw [rounds_succ]
    (go_wp2_with fail; refine (l00Max_ok _ _ _).mono ?_; rintro e w' ⟨rfl, rfl⟩; rw [M1.out])
    (go_wp2_with fail; refine (l00Min_ok _ _ _).mono ?_; rintro e w' ⟨rfl, rfl⟩; rw [M2.out])
    go_wp2
    rw [rounds_succ]
    (go_wp2_with fail; refine (l00Max_ok _ _ _).mono ?_; rintro e w' ⟨rfl, rfl⟩; rw [M3.out])
    (go_wp2_with fail; refine (l00Min_ok _ _ _).mono ?_; rintro e w' ⟨rfl, rfl⟩; rw [M4.out])
    go_wp2
    rw [rounds_succ]
    go_wp2
    go_returns
    exact ⟨(by first | (rw [HR.out]; done) | (rw [HR.out]; rfl)), (by repeat' (first | (with_reducible first | assumption | exact Below.refl _ _ | refine Below.drew ?_ | refine Below.alloc ?_ ?_ _ | refine Below.setCell ?_ ?_ _ | refine below_setR ?_ ?_ _ | refine below_dn ?_ _ | refine Below.trans ?_ (below_mo _ _ _ ?_) | refine Below.trans ?_ (below_mq _ _ ?_) | exact Nat.le_refl _) | (simp; done) | (simp; omega) | omega))⟩
set_option maxHeartbeats 2000000 in
theorem l06Both_any {A B : Option Addr} {xs ys : List (Int × Int)} {V V2 : World} {C C2 : Nat} (hl : Prs .i64 .i64 V C A xs) (c1 : Nat) (hl2 : Prs .i64 .i64 V2 C2 B ys) (c2 : Nat) (w : World) (hv : Below C V w) (hv2 : Below C2 V2 w) :
    Calls Try.prog 139 #[.slice A xs.length c1, .slice B ys.length c2] w fun e w' => e = .returned (.tuple #[.int .i64 (cdV xs ys).1, .int .i64 (cdV xs ys).2.1, .int .i64 (cdV xs ys).2.2]) ∧ Below w.heap.size w w' := by
  have hC := hl.bsz hv
  have hC2 := hl2.bsz hv2
  have hll := hl.len
  have hll2 := hl2.len
  have KX := Lib.hid (fun W (hW : Below C V W) => l06Totals_any A xs xs.length c1 C W rfl (by unfold maxLen; omega) (hl.bsz hW) (tot_sl hl hW))
  have KY := Lib.hid (fun W (hW : Below C2 V2 W) => l06Totals_any B ys ys.length c2 C2 W rfl (by unfold maxLen; omega) (hl2.bsz hW) (tot_sl hl2 hW))
  cases hx : vtB xs
  · have HR := Lib.hid (cdV_1 (ys := ys) (wdC_1 (fun h => by rw [hx] at h; exact absurd h.1 (by simp))))
    rw [hx] at KX
    go_enter Try.func139, Try.ntmps139
    (go_wp2_with fail; refine (KX.out _ (by repeat' (first | (with_reducible first | assumption | exact Below.refl _ _ | refine Below.drew ?_ | refine Below.alloc ?_ ?_ _ | refine Below.setCell ?_ ?_ _ | refine below_setR ?_ ?_ _ | refine below_dn ?_ _ | refine Below.trans ?_ (below_mo _ _ _ ?_) | refine Below.trans ?_ (below_mq _ _ ?_) | exact Nat.le_refl _) | (simp; done) | (simp; omega) | omega))).mono ?_; rintro e w' ⟨rfl, hb_⟩; obtain ⟨os1, d1, rfl⟩ := mo_of hb_; clear hb_)
    go_wp2
    go_returns
    exact ⟨(by first | (rw [HR.out]; done) | (rw [HR.out]; rfl)), (by repeat' (first | (with_reducible first | assumption | exact Below.refl _ _ | refine Below.drew ?_ | refine Below.alloc ?_ ?_ _ | refine Below.setCell ?_ ?_ _ | refine below_setR ?_ ?_ _ | refine below_dn ?_ _ | refine Below.trans ?_ (below_mo _ _ _ ?_) | refine Below.trans ?_ (below_mq _ _ ?_) | exact Nat.le_refl _) | (simp; done) | (simp; omega) | omega))⟩
  cases hy : vtB ys
  · have HR := Lib.hid (cdV_1 (xs := xs) (wdC_1 (fun h => by rw [hy] at h; exact absurd h.2 (by simp))))
    rw [hx] at KX
    rw [hy] at KY
    go_enter Try.func139, Try.ntmps139
    (go_wp2_with fail; refine (KX.out _ (by repeat' (first | (with_reducible first | assumption | exact Below.refl _ _ | refine Below.drew ?_ | refine Below.alloc ?_ ?_ _ | refine Below.setCell ?_ ?_ _ | refine below_setR ?_ ?_ _ | refine below_dn ?_ _ | refine Below.trans ?_ (below_mo _ _ _ ?_) | refine Below.trans ?_ (below_mq _ _ ?_) | exact Nat.le_refl _) | (simp; done) | (simp; omega) | omega))).mono ?_; rintro e w' ⟨rfl, hb_⟩; obtain ⟨os1, d1, rfl⟩ := mo_of hb_; clear hb_)
    (go_wp2_with fail; refine (KY.out _ (by repeat' (first | (with_reducible first | assumption | exact Below.refl _ _ | refine Below.drew ?_ | refine Below.alloc ?_ ?_ _ | refine Below.setCell ?_ ?_ _ | refine below_setR ?_ ?_ _ | refine below_dn ?_ _ | refine Below.trans ?_ (below_mo _ _ _ ?_) | refine Below.trans ?_ (below_mq _ _ ?_) | exact Nat.le_refl _) | (simp; done) | (simp; omega) | omega))).mono ?_; rintro e w' ⟨rfl, hb_⟩; obtain ⟨os2, d2, rfl⟩ := mo_of hb_; clear hb_)
    go_wp2
    go_returns
    exact ⟨(by first | (rw [HR.out]; done) | (rw [HR.out]; rfl)), (by repeat' (first | (with_reducible first | assumption | exact Below.refl _ _ | refine Below.drew ?_ | refine Below.alloc ?_ ?_ _ | refine Below.setCell ?_ ?_ _ | refine below_setR ?_ ?_ _ | refine below_dn ?_ _ | refine Below.trans ?_ (below_mo _ _ _ ?_) | refine Below.trans ?_ (below_mq _ _ ?_) | exact Nat.le_refl _) | (simp; done) | (simp; omega) | omega))⟩
  · have KC := Lib.hid (fun W (h1 : Below C V W) (h2 : Below C2 V2 W) (g : Nat) (a : W.cell? ⟨g, 0, none⟩ = some (.slice A xs.length c1)) (b : W.cell? ⟨g, 1, none⟩ = some (.slice B ys.length c2)) => l06Common_any hl c1 hl2 c2 W h1 h2 hx hy g a b)
    rw [hx] at KX
    rw [hy] at KY
    go_enter Try.func139, Try.ntmps139
    (go_wp2_with fail; refine (KX.out _ (by repeat' (first | (with_reducible first | assumption | exact Below.refl _ _ | refine Below.drew ?_ | refine Below.alloc ?_ ?_ _ | refine Below.setCell ?_ ?_ _ | refine below_setR ?_ ?_ _ | refine below_dn ?_ _ | refine Below.trans ?_ (below_mo _ _ _ ?_) | refine Below.trans ?_ (below_mq _ _ ?_) | exact Nat.le_refl _) | (simp; done) | (simp; omega) | omega))).mono ?_; rintro e w' ⟨rfl, hb_⟩; obtain ⟨os1, d1, rfl⟩ := mo_of hb_; clear hb_)
    (go_wp2_with fail; refine (KY.out _ (by repeat' (first | (with_reducible first | assumption | exact Below.refl _ _ | refine Below.drew ?_ | refine Below.alloc ?_ ?_ _ | refine Below.setCell ?_ ?_ _ | refine below_setR ?_ ?_ _ | refine below_dn ?_ _ | refine Below.trans ?_ (below_mo _ _ _ ?_) | refine Below.trans ?_ (below_mq _ _ ?_) | exact Nat.le_refl _) | (simp; done) | (simp; omega) | omega))).mono ?_; rintro e w' ⟨rfl, hb_⟩; obtain ⟨os2, d2, rfl⟩ := mo_of hb_; clear hb_)
    (go_wp2_with fail; refine (KC.out _ (by repeat' (first | (with_reducible first | assumption | exact Below.refl _ _ | refine Below.drew ?_ | refine Below.alloc ?_ ?_ _ | refine Below.setCell ?_ ?_ _ | refine below_setR ?_ ?_ _ | refine below_dn ?_ _ | refine Below.trans ?_ (below_mo _ _ _ ?_) | refine Below.trans ?_ (below_mq _ _ ?_) | exact Nat.le_refl _) | (simp; done) | (simp; omega) | omega)) (by repeat' (first | (with_reducible first | assumption | exact Below.refl _ _ | refine Below.drew ?_ | refine Below.alloc ?_ ?_ _ | refine Below.setCell ?_ ?_ _ | refine below_setR ?_ ?_ _ | refine below_dn ?_ _ | refine Below.trans ?_ (below_mo _ _ _ ?_) | refine Below.trans ?_ (below_mq _ _ ?_) | exact Nat.le_refl _) | (simp; done) | (simp; omega) | omega)) _ (by first | (simp [go_sem]; done) | (simp [go_sem]; rfl)) (by first | (simp [go_sem]; done) | (simp [go_sem]; rfl))).mono ?_; rintro e w' ⟨rfl, hb_⟩; obtain ⟨os3, d3, rfl⟩ := mo_of hb_; clear hb_)
    go_wp2
    go_returns
    exact ⟨rfl, (by repeat' (first | (with_reducible first | assumption | exact Below.refl _ _ | refine Below.drew ?_ | refine Below.alloc ?_ ?_ _ | refine Below.setCell ?_ ?_ _ | refine below_setR ?_ ?_ _ | refine below_dn ?_ _ | refine Below.trans ?_ (below_mo _ _ _ ?_) | refine Below.trans ?_ (below_mq _ _ ?_) | exact Nat.le_refl _) | (simp; done) | (simp; omega) | omega))⟩
set_option maxHeartbeats 2000000 in
theorem l06Drift_any {A B : Option Addr} {xs ys : List (Int × Int)} {V V2 : World} {C C2 : Nat} (hl : Prs .i64 .i64 V C A xs) (c1 : Nat) (hl2 : Prs .i64 .i64 V2 C2 B ys) (c2 : Nat) (w : World) (hv : Below C V w) (hv2 : Below C2 V2 w) (hx : vt xs) (hy : vt ys) (d : Int) (h1 : Cov xs d) (h2 : Cov ys d) (hd : 0 ≤ d ∧ d ≤ 100000) :
    Calls Try.prog 140 #[.slice A xs.length c1, .slice B ys.length c2, .int .i64 d] w fun e w' => e = .returned (.int .i64 (onV xs d - onV ys d)) ∧ Below w.heap.size w w' := by
  have hC := hl.bsz hv
  have hC2 := hl2.bsz hv2
  have b0 := onV_bd hx h1
  have b1 := onV_bd hy h2
  have e1 : IntKind.i64.wrap (onV xs d - onV ys d) = onV xs d - onV ys d := IntWalk.i64_in _ ⟨by omega, by omega⟩
  have KX := Lib.hid (fun W (hW : Below C V W) => l06On_cov A xs xs.length c1 C d W rfl (hl.bsz hW) (tot_sl hl hW) hx h1 hd)
  have KY := Lib.hid (fun W (hW : Below C2 V2 W) => l06On_cov B ys ys.length c2 C2 d W rfl (hl2.bsz hW) (tot_sl hl2 hW) hy h2 hd)
  clear hx hy h1 h2 hd b0 b1
  go_enter Try.func140, Try.ntmps140
  (go_wp2_with fail; refine (KX.out _ (by repeat' (first | (with_reducible first | assumption | exact Below.refl _ _ | refine Below.drew ?_ | refine Below.alloc ?_ ?_ _ | refine Below.setCell ?_ ?_ _ | refine below_setR ?_ ?_ _ | refine below_dn ?_ _ | refine Below.trans ?_ (below_mo _ _ _ ?_) | refine Below.trans ?_ (below_mq _ _ ?_) | exact Nat.le_refl _) | (simp; done) | (simp; omega) | omega))).mono ?_; rintro e w' ⟨rfl, hb_⟩; obtain ⟨os1, d1, rfl⟩ := mo_of hb_; clear hb_)
  (go_wp2_with fail; refine (KY.out _ (by repeat' (first | (with_reducible first | assumption | exact Below.refl _ _ | refine Below.drew ?_ | refine Below.alloc ?_ ?_ _ | refine Below.setCell ?_ ?_ _ | refine below_setR ?_ ?_ _ | refine below_dn ?_ _ | refine Below.trans ?_ (below_mo _ _ _ ?_) | refine Below.trans ?_ (below_mq _ _ ?_) | exact Nat.le_refl _) | (simp; done) | (simp; omega) | omega))).mono ?_; rintro e w' ⟨rfl, hb_⟩; obtain ⟨os2, d2, rfl⟩ := mo_of hb_; clear hb_)
  go_wp2
  go_ret
  exact ⟨rfl, (by repeat' (first | (with_reducible first | assumption | exact Below.refl _ _ | refine Below.drew ?_ | refine Below.alloc ?_ ?_ _ | refine Below.setCell ?_ ?_ _ | refine below_setR ?_ ?_ _ | refine below_dn ?_ _ | refine Below.trans ?_ (below_mo _ _ _ ?_) | refine Below.trans ?_ (below_mq _ _ ?_) | exact Nat.le_refl _) | (simp; done) | (simp; omega) | omega))⟩
theorem wdC_eq {xs ys : List (Int × Int)} (h : ¬ wdC xs ys = 0) : cdV xs ys = (0, 0, wdC xs ys) := by unfold cdV; rw [if_neg h]
theorem wd_parts {xs ys : List (Int × Int)} (h : wdC xs ys = 0) : vt xs ∧ vt ys ∧ ¬ xs.length = 0 ∧ ¬ ys.length = 0 ∧ cF xs ys ≤ cL xs ys ∧ cL xs ys - cF xs ys ≤ 399 := by
  unfold wdC at h
  by_cases a : vtB xs = true ∧ vtB ys = true
  · rw [if_pos a] at h
    by_cases b : xs.length = 0 ∨ ys.length = 0
    · rw [if_pos b] at h; omega
    · rw [if_neg b] at h
      by_cases c : cL xs ys < cF xs ys
      · rw [if_pos c] at h; omega
      · rw [if_neg c] at h
        by_cases d : 400 < cL xs ys - cF xs ys + 1
        · rw [if_pos d] at h; omega
        · exact ⟨(vtB_iff xs).1 a.1, (vtB_iff ys).1 a.2, by omega, by omega, by omega, by omega⟩
  · rw [if_neg a] at h; omega
set_option maxHeartbeats 4000000 in
theorem specWorst_any {A B : Option Addr} {xs ys : List (Int × Int)} {V V2 : World} {C C2 : Nat} (hl : Prs .i64 .i64 V C A xs) (c1 : Nat) (hl2 : Prs .i64 .i64 V2 C2 B ys) (c2 : Nat) (w : World) (hv : Below C V w) (hv2 : Below C2 V2 w) :
    Calls Try.prog 33 #[.slice A xs.length c1, .slice B ys.length c2] w fun e w' => e = .returned (.tuple #[.int .i64 (wdV xs ys).1, .int .i64 (wdV xs ys).2, .int .i64 (wdC xs ys)]) ∧ Below w.heap.size w w' := by
  have hC := hl.bsz hv
  have hC2 := hl2.bsz hv2
  have KB := Lib.hid (fun W (h1 : Below C V W) (h2 : Below C2 V2 W) => l06Both_any hl c1 hl2 c2 W h1 h2)
  by_cases h0 : wdC xs ys = 0
  · obtain ⟨vx, vy, x0, y0, fl, le⟩ := wd_parts h0
    rw [cdV_0 h0] at KB
    have cb := com_bd vx vy x0 y0
    have HR := Lib.hid (wdV_0 h0)
    have H0 := Lib.hid h0
    obtain ⟨n, hn⟩ : ∃ n : Nat, (cL xs ys - cF xs ys).toNat = n := ⟨_, rfl⟩
    rw [hn] at HR
    have hLn : cL xs ys = cF xs ys + (n : Int) := by omega
    have KD : Hid (∀ k : Nat, k ≤ n → ∀ W, Below C V W → Below C2 V2 W → Calls Try.prog 140 #[.slice A xs.length c1, .slice B ys.length c2, .int .i64 (cF xs ys + (k : Int))] W fun e w' => e = .returned (.int .i64 (drF xs ys k)) ∧ Below W.heap.size W w') := fun k hk W h1 h2 =>
      l06Drift_any hl c1 hl2 c2 W h1 h2 vx vy _ (com_cov x0 y0 (by omega)).1 (com_cov x0 y0 (by omega)).2 ⟨by omega, by omega⟩
    have KE : Hid (∀ k : Nat, k ≤ n → -200000000000000000 ≤ drF xs ys k ∧ drF xs ys k ≤ 200000000000000000) := fun k hk => drF_bd vx vy x0 y0 (by omega)
    obtain ⟨F, hF⟩ : ∃ F, F = cF xs ys := ⟨_, rfl⟩
    rw [hLn, ← hF] at KB
    rw [← hF] at KD HR cb
    have hF0 : 0 ≤ F ∧ F ≤ 100000 := cb.1
    have hn4 : n ≤ 399 := by omega
    have KD0 : Hid (∀ W, Below C V W → Below C2 V2 W → Calls Try.prog 140 #[.slice A xs.length c1, .slice B ys.length c2, .int .i64 F] W fun e w' => e = .returned (.int .i64 (drF xs ys 0)) ∧ Below W.heap.size W w') := fun W h1 h2 => by
      have := KD.out 0 (Nat.zero_le _) W h1 h2
      rwa [show F + ((0 : Nat) : Int) = F by omega] at this
    have e0 : IntKind.i64.wrap (F + 1) = F + 1 := IntWalk.i64_in _ ⟨by omega, by omega⟩
    clear vx vy x0 y0 fl le cb h0 hn hLn hF
    go_enter Try.func33, Try.ntmps33
    (go_wp2_with fail; refine (KB.out _ (by repeat' (first | (with_reducible first | assumption | exact Below.refl _ _ | refine Below.drew ?_ | refine Below.alloc ?_ ?_ _ | refine Below.setCell ?_ ?_ _ | refine below_setR ?_ ?_ _ | refine below_dn ?_ _ | refine Below.trans ?_ (below_mo _ _ _ ?_) | refine Below.trans ?_ (below_mq _ _ ?_) | exact Nat.le_refl _) | (simp; done) | (simp; omega) | omega)) (by repeat' (first | (with_reducible first | assumption | exact Below.refl _ _ | refine Below.drew ?_ | refine Below.alloc ?_ ?_ _ | refine Below.setCell ?_ ?_ _ | refine below_setR ?_ ?_ _ | refine below_dn ?_ _ | refine Below.trans ?_ (below_mo _ _ _ ?_) | refine Below.trans ?_ (below_mq _ _ ?_) | exact Nat.le_refl _) | (simp; done) | (simp; omega) | omega))).mono ?_; rintro e w' ⟨rfl, hb_⟩; obtain ⟨os1, d1, rfl⟩ := mo_of hb_; clear hb_)
    (go_wp2_with fail; refine (KD0.out _ (by repeat' (first | (with_reducible first | assumption | exact Below.refl _ _ | refine Below.drew ?_ | refine Below.alloc ?_ ?_ _ | refine Below.setCell ?_ ?_ _ | refine below_setR ?_ ?_ _ | refine below_dn ?_ _ | refine Below.trans ?_ (below_mo _ _ _ ?_) | refine Below.trans ?_ (below_mq _ _ ?_) | exact Nat.le_refl _) | (simp; done) | (simp; omega) | omega)) (by repeat' (first | (with_reducible first | assumption | exact Below.refl _ _ | refine Below.drew ?_ | refine Below.alloc ?_ ?_ _ | refine Below.setCell ?_ ?_ _ | refine below_setR ?_ ?_ _ | refine below_dn ?_ _ | refine Below.trans ?_ (below_mo _ _ _ ?_) | refine Below.trans ?_ (below_mq _ _ ?_) | exact Nat.le_refl _) | (simp; done) | (simp; omega) | omega))).mono ?_; rintro e w' ⟨rfl, hb_⟩; obtain ⟨os2, d2, rfl⟩ := mo_of hb_; clear hb_)
    go_wp2
    go_loopw [10, 11, 12] (fun a u v wr => ∃ (k : Nat) (os : Array Obj) (dn : Nat), k ≤ n ∧ a = .int .i64 (F + (wb (drF xs ys) k : Int)) ∧ u = .int .i64 (drF xs ys (wb (drF xs ys) k)) ∧ v = .int .i64 (F + ((k : Int) + 1)) ∧ wr = mo w os dn) (fun _ _ v _ => (F + (n : Int) + 1 - intOf v).toNat)
    case atStart => exact ⟨0, _, _, Nat.zero_le _, by rw [show wb (drF xs ys) 0 = 0 from rfl]; simp, rfl, by simp, by first | rfl | exact mo_mo _ _ _ _ _⟩
    case round =>
      obtain ⟨k, os, dn, hk, rfl, rfl, rfl, rfl⟩ := hrel
      by_cases hlt : k + 1 ≤ n
      · have g0 : F + ((k : Int) + 1) ≤ F + (n : Int) := by omega
        have hw := wb_le (drF xs ys) k
        have ⟨a0, a1⟩ := KE.out (k + 1) hlt
        have ⟨a2, a3⟩ := KE.out (wb (drF xs ys) k) (by omega)
        have HD := Lib.hid (KD.out (k + 1) hlt)
        rw [show ((k + 1 : Nat) : Int) = (k : Int) + 1 by omega] at HD
        have HW1 : Hid (abI (drF xs ys (wb (drF xs ys) k)) < abI (drF xs ys (k + 1)) → wb (drF xs ys) (k + 1) = k + 1) := fun h => wb_yes h
        have HW2 : Hid (¬ abI (drF xs ys (wb (drF xs ys) k)) < abI (drF xs ys (k + 1)) → wb (drF xs ys) (k + 1) = wb (drF xs ys) k) := fun h => wb_no h
        obtain ⟨x, hx⟩ : ∃ x, x = drF xs ys (k + 1) := ⟨_, rfl⟩
        obtain ⟨y, hy⟩ : ∃ y, y = drF xs ys (wb (drF xs ys) k) := ⟨_, rfl⟩
        rw [← hx] at HD a0 a1 HW1 HW2
        rw [← hy] at a2 a3 HW1 HW2
        rw [← hy]
        have HX := Lib.hid hx
        have HY := Lib.hid hy
        have e1 : IntKind.i64.wrap (-x) = -x := IntWalk.i64_in _ ⟨by omega, by omega⟩
        have e2 : IntKind.i64.wrap (-y) = -y := IntWalk.i64_in _ ⟨by omega, by omega⟩
        have e3 : IntKind.i64.wrap (F + ((k : Int) + 1) + 1) = F + ((k : Int) + 1 + 1) := (IntWalk.i64_in _ ⟨by omega, by omega⟩).trans (by omega)
        have en : ((k + 1 : Nat) : Int) = (k : Int) + 1 := by omega
        have EN := Lib.hid en
        clear en
        obtain ⟨ax, hax⟩ : ∃ a, max x (-x) = a := ⟨_, rfl⟩
        obtain ⟨ay, hay⟩ : ∃ a, max y (-y) = a := ⟨_, rfl⟩
        have AX := Lib.hid hax
        have AY := Lib.hid hay
        unfold abI at HW1 HW2
        rw [hax, hay] at HW1 HW2
        clear hx hy hw a0 a1 a2 a3 hax hay
        (go_wp2_with fail; refine (HD.out _ (by repeat' (first | (with_reducible first | assumption | exact Below.refl _ _ | refine Below.drew ?_ | refine Below.alloc ?_ ?_ _ | refine Below.setCell ?_ ?_ _ | refine below_setR ?_ ?_ _ | refine below_dn ?_ _ | refine Below.trans ?_ (below_mo _ _ _ ?_) | refine Below.trans ?_ (below_mq _ _ ?_) | exact Nat.le_refl _) | (simp; done) | (simp; omega) | omega)) (by repeat' (first | (with_reducible first | assumption | exact Below.refl _ _ | refine Below.drew ?_ | refine Below.alloc ?_ ?_ _ | refine Below.setCell ?_ ?_ _ | refine below_setR ?_ ?_ _ | refine below_dn ?_ _ | refine Below.trans ?_ (below_mo _ _ _ ?_) | refine Below.trans ?_ (below_mq _ _ ?_) | exact Nat.le_refl _) | (simp; done) | (simp; omega) | omega))).mono ?_; rintro e w' ⟨rfl, hb_⟩; obtain ⟨os3, d3, rfl⟩ := mo_of hb_; clear hb_)
        (go_wp2_with fail; refine (l00Max_ok _ _ _).mono ?_; rintro e w' ⟨rfl, rfl⟩; rw [AX.out])
        (go_wp2_with fail; refine (l00Max_ok _ _ _).mono ?_; rintro e w' ⟨rfl, rfl⟩; rw [AY.out])
        by_cases hc : ay < ax
        · have HN := Lib.hid (HW1.out hc)
          go_wp2
          exact ⟨⟨k + 1, _, _, hlt, by rw [HN.out, EN.out], by rw [HN.out, HX.out], by rw [EN.out], by first | rfl | exact mo_mo _ _ _ _ _⟩, by simp [intOf]; omega⟩
        · have HN := Lib.hid (HW2.out (by omega))
          go_wp2
          exact ⟨⟨k + 1, _, _, hlt, by rw [HN.out], by rw [HN.out, HY.out], by rw [EN.out], by first | rfl | exact mo_mo _ _ _ _ _⟩, by simp [intOf]; omega⟩
      · obtain rfl : k = n := by omega
        have g0 : ¬ F + ((k : Int) + 1) ≤ F + (k : Int) := by omega
        go_wp2
        go_returns
        exact ⟨by rw [HR.out, H0.out]; rfl, (by repeat' (first | (with_reducible first | assumption | exact Below.refl _ _ | refine Below.drew ?_ | refine Below.alloc ?_ ?_ _ | refine Below.setCell ?_ ?_ _ | refine below_setR ?_ ?_ _ | refine below_dn ?_ _ | refine Below.trans ?_ (below_mo _ _ _ ?_) | refine Below.trans ?_ (below_mq _ _ ?_) | exact Nat.le_refl _) | (simp; done) | (simp; omega) | omega))⟩
  · have HR := Lib.hid (wdV_no h0)
    rw [wdC_eq h0] at KB
    have b0 : (wdC xs ys != 0) = true := bne_iff_ne.2 h0
    have b1 : (wdC xs ys == 0) = false := beq_eq_false_iff_ne.2 h0
    go_enter Try.func33, Try.ntmps33
    (go_wp2_with fail; refine (KB.out _ (by repeat' (first | (with_reducible first | assumption | exact Below.refl _ _ | refine Below.drew ?_ | refine Below.alloc ?_ ?_ _ | refine Below.setCell ?_ ?_ _ | refine below_setR ?_ ?_ _ | refine below_dn ?_ _ | refine Below.trans ?_ (below_mo _ _ _ ?_) | refine Below.trans ?_ (below_mq _ _ ?_) | exact Nat.le_refl _) | (simp; done) | (simp; omega) | omega)) (by repeat' (first | (with_reducible first | assumption | exact Below.refl _ _ | refine Below.drew ?_ | refine Below.alloc ?_ ?_ _ | refine Below.setCell ?_ ?_ _ | refine below_setR ?_ ?_ _ | refine below_dn ?_ _ | refine Below.trans ?_ (below_mo _ _ _ ?_) | refine Below.trans ?_ (below_mq _ _ ?_) | exact Nat.le_refl _) | (simp; done) | (simp; omega) | omega))).mono ?_; rintro e w' ⟨rfl, hb_⟩; obtain ⟨os1, d1, rfl⟩ := mo_of hb_; clear hb_)
    go_wp2
    go_returns
    exact ⟨(by first | (rw [HR.out]; done) | (rw [HR.out]; rfl)), (by repeat' (first | (with_reducible first | assumption | exact Below.refl _ _ | refine Below.drew ?_ | refine Below.alloc ?_ ?_ _ | refine Below.setCell ?_ ?_ _ | refine below_setR ?_ ?_ _ | refine below_dn ?_ _ | refine Below.trans ?_ (below_mo _ _ _ ?_) | refine Below.trans ?_ (below_mq _ _ ?_) | exact Nat.le_refl _) | (simp; done) | (simp; omega) | omega))⟩
theorem absolute_any (x : Int) (hx : -1000000000000000000 ≤ x ∧ x ≤ 1000000000000000000) (w : World) : Calls Try.prog 143 #[.int .i64 x] w fun e w' => e = .returned (.int .i64 (abI x)) ∧ w = w' := by
  have e1 : IntKind.i64.wrap (-x) = -x := IntWalk.i64_in _ ⟨by omega, by omega⟩
  have HX : Hid (abI x = max x (-x)) := rfl
  by_cases h : x < -x
  · have H := Lib.hid (show max x (-x) = -x by omega)
    go_enter Try.func143, Try.ntmps143
    go_wp2
    go_ret
    exact ⟨by rw [HX.out, H.out]; rfl, rfl⟩
  · have H := Lib.hid (show max x (-x) = x by omega)
    go_enter Try.func143, Try.ntmps143
    go_wp2
    go_ret
    exact ⟨by rw [HX.out, H.out]; rfl, rfl⟩
/-- the common days, as the program tells them -/
def coD (xs ys : List (Int × Int)) : Int × Int := if xs.length = 0 ∨ ys.length = 0 then (0, -1) else (cF xs ys, cL xs ys)
set_option maxHeartbeats 4000000 in
theorem commonDays_any {A B : Option Addr} {xs ys : List (Int × Int)} {V V2 : World} {C C2 : Nat} (hl : Prs .i64 .i64 V C A xs) (c1 : Nat) (hl2 : Prs .i64 .i64 V2 C2 B ys) (c2 : Nat) (w : World) (hv : Below C V w) (hv2 : Below C2 V2 w) (hx : vtB xs = true) (hy : vtB ys = true) (g : Nat)
    (h0 : w.cell? ⟨g, 0, none⟩ = some (.slice A xs.length c1)) (h1 : w.cell? ⟨g, 1, none⟩ = some (.slice B ys.length c2)) :
    Calls Try.prog 247 #[.slice (some ⟨g, 0, none⟩) 2 2] w fun e w' => e = .returned (.tuple #[.int .i64 (coD xs ys).1, .int .i64 (coD xs ys).2]) ∧ Below w.heap.size w w' := by
  have hvx := (vtB_iff xs).1 hx
  have hvy := (vtB_iff ys).1 hy
  by_cases x0 : xs.length = 0
  · have HR : Hid (coD xs ys = (0, -1)) := by unfold Hid coD; rw [if_pos (.inl x0)]
    have b1 : ((xs.length : Int) == 0) = true := by rw [x0]; rfl
    clear hx hy hvx hvy x0
    go_enter Try.func247, Try.ntmps247
    go_wp2
    refine wp_loop_rounds 1 ?_
    rw [rounds_succ]
    go_wp2
    go_returns
    exact ⟨(by first | (rw [HR.out]; done) | (rw [HR.out]; rfl)), (by repeat' (first | (with_reducible first | assumption | exact Below.refl _ _ | refine Below.drew ?_ | refine Below.alloc ?_ ?_ _ | refine Below.setCell ?_ ?_ _ | refine below_setR ?_ ?_ _ | refine below_dn ?_ _ | refine Below.trans ?_ (below_mo _ _ _ ?_) | refine Below.trans ?_ (below_mq _ _ ?_) | exact Nat.le_refl _) | (simp; done) | (simp; omega) | omega))⟩
  obtain ⟨b, off, rfl, hbs, z0, z1⟩ := tot_ends hl hv x0
  have ⟨⟨d0, d1⟩, d2, d3⟩ := day_bd hvx x0
  have b1 : ((xs.length : Int) == 0) = false := beq_eq_false_iff_ne.2 (by omega)
  have q3 : (0 : Int) ≤ (xs.length : Int) - 1 := by omega
  have q4 : (1 : Int) ≤ (xs.length : Int) := by omega
  have q5 : ((xs.length : Int) - 1).toNat = xs.length - 1 := by omega
  have q6 : (0 : Int) < (xs.length : Int) := by omega
  have q7 : (xs.length : Int) - 1 < (xs.length : Int) := by omega
  have hll := hl.len
  have q8 : IntKind.i64.wrap ((xs.length : Int) - 1) = (xs.length : Int) - 1 := IntWalk.i64_in _ ⟨by omega, by omega⟩
  obtain ⟨p, hp⟩ : ∃ p, p = tD xs 0 := ⟨_, rfl⟩
  obtain ⟨q, hq⟩ : ∃ q, q = tD xs ((xs.length : Int) - 1) := ⟨_, rfl⟩
  rw [← hp] at z0 d0 d1
  rw [← hq] at z1 d2 d3
  have m1 : (if (0 : Int) < p then p else 0) = p := by split <;> omega
  have m2 : (if q < 100000 then q else 100000) = q := by split <;> omega
  have HP := Lib.hid hp
  have HQ := Lib.hid hq
  clear hp hq
  by_cases y0 : ys.length = 0
  · have HR : Hid (coD xs ys = (0, -1)) := by unfold Hid coD; rw [if_pos (.inr y0)]
    have r1 : ((ys.length : Int) == 0) = true := by rw [y0]; rfl
    have X0 := Lib.hid x0
    clear hx hy hvx hvy y0 x0
    go_enter Try.func247, Try.ntmps247
    go_wp2
    refine wp_loop_rounds 2 ?_
    rw [rounds_succ]
    go_wp2
    go_quiet (fail)
    go_wp2
    rw [rounds_succ]
    go_wp2
    go_returns
    exact ⟨(by first | (rw [HR.out]; done) | (rw [HR.out]; rfl)), (by repeat' (first | (with_reducible first | assumption | exact Below.refl _ _ | refine Below.drew ?_ | refine Below.alloc ?_ ?_ _ | refine Below.setCell ?_ ?_ _ | refine below_setR ?_ ?_ _ | refine below_dn ?_ _ | refine Below.trans ?_ (below_mo _ _ _ ?_) | refine Below.trans ?_ (below_mq _ _ ?_) | exact Nat.le_refl _) | (simp; done) | (simp; omega) | omega))⟩
  obtain ⟨b', off', rfl, hbs', y1, y2⟩ := tot_ends hl2 hv2 y0
  have ⟨⟨d4, d5⟩, d6, d7⟩ := day_bd hvy y0
  have r1 : ((ys.length : Int) == 0) = false := beq_eq_false_iff_ne.2 (by omega)
  have r3 : (0 : Int) ≤ (ys.length : Int) - 1 := by omega
  have r4 : (1 : Int) ≤ (ys.length : Int) := by omega
  have r5 : ((ys.length : Int) - 1).toNat = ys.length - 1 := by omega
  have r6 : (0 : Int) < (ys.length : Int) := by omega
  have r7 : (ys.length : Int) - 1 < (ys.length : Int) := by omega
  have hll2 := hl2.len
  have r8 : IntKind.i64.wrap ((ys.length : Int) - 1) = (ys.length : Int) - 1 := IntWalk.i64_in _ ⟨by omega, by omega⟩
  obtain ⟨p', hp'⟩ : ∃ p, p = tD ys 0 := ⟨_, rfl⟩
  obtain ⟨q', hq'⟩ : ∃ q, q = tD ys ((ys.length : Int) - 1) := ⟨_, rfl⟩
  rw [← hp'] at y1 d4 d5
  rw [← hq'] at y2 d6 d7
  obtain ⟨F, hF⟩ : ∃ F, F = cF xs ys := ⟨_, rfl⟩
  obtain ⟨L, hL⟩ : ∃ L, L = cL xs ys := ⟨_, rfl⟩
  have m3 : (if p < p' then p' else p) = F := by
    rw [hF]; unfold cF; rw [← HP.out, ← hp']; split <;> omega
  have m4 : (if q' < q then q' else q) = L := by
    rw [hL]; unfold cL; rw [← HQ.out, ← hq']; split <;> omega
  have HR : Hid (coD xs ys = (F, L)) := by unfold Hid coD; rw [if_neg (by omega), hF, hL]
  have X0 := Lib.hid x0
  have Y0 := Lib.hid y0
  clear hF hL hx hy hvx hvy x0 y0 hp' hq' d0 d1 d2 d3 d4 d5 d6 d7
  go_enter Try.func247, Try.ntmps247
  go_wp2
  refine wp_loop_rounds 3 ?_
  rw [rounds_succ]
  go_wp2
  go_quiet (fail)
  go_wp2
  rw [rounds_succ]
  go_wp2
  go_quiet (fail)
  go_wp2
  rw [rounds_succ]
  go_wp2
  go_returns
  exact ⟨(by first | (rw [HR.out]; done) | (rw [HR.out]; rfl)), (by repeat' (first | (with_reducible first | assumption | exact Below.refl _ _ | refine Below.drew ?_ | refine Below.alloc ?_ ?_ _ | refine Below.setCell ?_ ?_ _ | refine below_setR ?_ ?_ _ | refine below_dn ?_ _ | refine Below.trans ?_ (below_mo _ _ _ ?_) | refine Below.trans ?_ (below_mq _ _ ?_) | exact Nat.le_refl _) | (simp; done) | (simp; omega) | omega))⟩
end Go.Proofs.Ytbihgnmiocfelaa.X
