/- FindPortion, both answers. Conditions: none. -/
import Derived.Test.YtbihgnmiocfelaaKBoundsS
namespace Go.Proofs.Ytbihgnmiocfelaa.X
open Go.RowKit
set_option linter.unusedVariables false
set_option linter.unusedSimpArgs false
set_option maxRecDepth 100000
theorem pbV_ok {xs : List (Int × Int)} (h : (pbV xs).2.2 = 0) : (0 ≤ (pbV xs).1.1 ∧ (pbV xs).1.1 ≤ 1000000000) ∧ (1 ≤ (pbV xs).1.2 ∧ (pbV xs).1.2 ≤ 100000) ∧ (0 ≤ (pbV xs).2.1.1 ∧ (pbV xs).2.1.1 ≤ 1000000000) ∧ (1 ≤ (pbV xs).2.1.2 ∧ (pbV xs).2.1.2 ≤ 100000) ∧ (pbV xs).1.1 * (pbV xs).2.1.2 < (pbV xs).2.1.1 * (pbV xs).1.2 := by
  cases h1 : (inR xs.length 1 60 && prTo xs xs.length)
  · rw [pbV_r h1] at h; simp at h
  · by_cases h2 : (plo xs xs.length).1 * (phi xs xs.length).2 < (phi xs xs.length).1 * (plo xs xs.length).2
    · rw [pbV_0 h1 h2]
      obtain ⟨-, h3⟩ := (Bool.and_eq_true _ _).mp h1
      have a := plo_bd (prTo_pOK h3) xs.length (Nat.le_refl _)
      have b := phi_bd (prTo_pOK h3) xs.length (Nat.le_refl _)
      have c := red_bd a.1.1 a.2.1
      have d := red_bd (show 0 ≤ (phi xs xs.length).1 by omega) b.2.1
      refine ⟨⟨c.1.1, ?_⟩, ⟨c.2.1, ?_⟩, ⟨d.1.1, ?_⟩, ⟨d.2.1, ?_⟩, (red_lt a.2.1 b.2.1).2 h2⟩
      · show (red _ _).1 ≤ _; omega
      · show (red _ _).2 ≤ _; omega
      · show (red _ _).1 ≤ _; omega
      · show (red _ _).2 ≤ _; omega
    · rw [pbV_n h1 h2] at h; simp at h
/-- what FindPortion returns -/
def fpV (xs : List (Int × Int)) : (Int × Int) × Int :=
  if (pbV xs).2.2 = 0 then ((sceil (pbV xs).1.1 (pbV xs).1.2 (sQ (pbV xs).1.1 (pbV xs).1.2 (pbV xs).2.1.1 (pbV xs).2.1.2), sQ (pbV xs).1.1 (pbV xs).1.2 (pbV xs).2.1.1 (pbV xs).2.1.2), 0) else ((0, 0), (pbV xs).2.2)
theorem fpV_0 {xs : List (Int × Int)} (h : (pbV xs).2.2 = 0) : fpV xs = ((sceil (pbV xs).1.1 (pbV xs).1.2 (sQ (pbV xs).1.1 (pbV xs).1.2 (pbV xs).2.1.1 (pbV xs).2.1.2), sQ (pbV xs).1.1 (pbV xs).1.2 (pbV xs).2.1.1 (pbV xs).2.1.2), 0) := by unfold fpV; rw [if_pos h]
theorem fpV_1 {xs : List (Int × Int)} (h : ¬ (pbV xs).2.2 = 0) : fpV xs = ((0, 0), (pbV xs).2.2) := by unfold fpV; rw [if_neg h]
set_option maxHeartbeats 2000000 in
theorem implFind_any {L : Option Addr} {xs : List (Int × Int)} {V : World} {C : Nat} (hl : Prs .i64 .i64 V C L xs) (cl : Nat) (w : World) (hv : Below C V w) : Calls Try.prog 19 #[.slice L xs.length cl] w fun e w' => e = .returned (.tuple #[.agg #[.int .i64 (fpV xs).1.1, .int .i64 (fpV xs).1.2], .int .i64 (fpV xs).2]) ∧ Below w.heap.size w w' := by
  have hC := hl.bsz hv
  have K0 := Lib.hid (fun W (hW : Below C V W) => implBounds_any hl cl W hW)
  by_cases h0 : (pbV xs).2.2 = 0
  · have HR := Lib.hid (fpV_0 h0)
    obtain ⟨h1, h2, h3, h4, h5⟩ := pbV_ok h0
    have K1 := Lib.hid (fun W => simplest_any _ _ _ _ W h1 h2 h3 h4 h5)
    have H0 := Lib.hid h0
    clear h0 h1 h2 h3 h4 h5
    go_enter Try.func19, Try.ntmps19
    (go_wp2_with fail; refine (K0.out _ (by repeat' (first | (with_reducible first | assumption | exact Below.refl _ _ | refine Below.drew ?_ | refine Below.alloc ?_ ?_ _ | refine Below.setCell ?_ ?_ _ | refine below_setR ?_ ?_ _ | refine below_dn ?_ _ | refine Below.trans ?_ (below_mo _ _ _ ?_) | refine Below.trans ?_ (below_mq _ _ ?_) | exact Nat.le_refl _) | (simp; done) | (simp; omega) | omega))).mono ?_; rintro e w' ⟨rfl, hb_⟩; obtain ⟨os0, d0, rfl⟩ := mo_of hb_; clear hb_)
    rw [H0.out]
    (go_wp2_with fail; refine (K1.out _).mono ?_; rintro e w' ⟨rfl, hb_⟩; obtain ⟨os1, d1, rfl⟩ := mo_of hb_; clear hb_)
    go_wp2
    go_returns
    exact ⟨(by first | (rw [HR.out]; done) | (rw [HR.out]; rfl)), (by repeat' (first | (with_reducible first | assumption | exact Below.refl _ _ | refine Below.drew ?_ | refine Below.alloc ?_ ?_ _ | refine Below.setCell ?_ ?_ _ | refine below_setR ?_ ?_ _ | refine below_dn ?_ _ | refine Below.trans ?_ (below_mo _ _ _ ?_) | refine Below.trans ?_ (below_mq _ _ ?_) | exact Nat.le_refl _) | (simp; done) | (simp; omega) | omega))⟩
  · have HR := Lib.hid (fpV_1 h0)
    have b1 : ((pbV xs).2.2 != 0) = true := by simp [bne, h0]
    have b2 : ((pbV xs).2.2 == 0) = false := by simp [h0]
    go_enter Try.func19, Try.ntmps19
    (go_wp2_with fail; refine (K0.out _ (by repeat' (first | (with_reducible first | assumption | exact Below.refl _ _ | refine Below.drew ?_ | refine Below.alloc ?_ ?_ _ | refine Below.setCell ?_ ?_ _ | refine below_setR ?_ ?_ _ | refine below_dn ?_ _ | refine Below.trans ?_ (below_mo _ _ _ ?_) | refine Below.trans ?_ (below_mq _ _ ?_) | exact Nat.le_refl _) | (simp; done) | (simp; omega) | omega))).mono ?_; rintro e w' ⟨rfl, hb_⟩; obtain ⟨os0, d0, rfl⟩ := mo_of hb_; clear hb_)
    go_wp2
    go_returns
    exact ⟨(by first | (rw [HR.out]; done) | (rw [HR.out]; rfl)), (by repeat' (first | (with_reducible first | assumption | exact Below.refl _ _ | refine Below.drew ?_ | refine Below.alloc ?_ ?_ _ | refine Below.setCell ?_ ?_ _ | refine below_setR ?_ ?_ _ | refine below_dn ?_ _ | refine Below.trans ?_ (below_mo _ _ _ ?_) | refine Below.trans ?_ (below_mq _ _ ?_) | exact Nat.le_refl _) | (simp; done) | (simp; omega) | omega))⟩
set_option maxHeartbeats 2000000 in
theorem specFind_any {L : Option Addr} {xs : List (Int × Int)} {V : World} {C : Nat} (hl : Prs .i64 .i64 V C L xs) (cl : Nat) (w : World) (hv : Below C V w) : Calls Try.prog 20 #[.slice L xs.length cl] w fun e w' => e = .returned (.tuple #[.agg #[.int .i64 (fpV xs).1.1, .int .i64 (fpV xs).1.2], .int .i64 (fpV xs).2]) ∧ Below w.heap.size w w' := by
  have hC := hl.bsz hv
  have K0 := Lib.hid (fun W (hW : Below C V W) => specBounds_any hl cl W hW)
  by_cases h0 : (pbV xs).2.2 = 0
  · have HR := Lib.hid (fpV_0 h0)
    obtain ⟨h1, h2, h3, h4, h5⟩ := pbV_ok h0
    have K1 := Lib.hid (fun W => l06Simplest_any _ _ _ _ W h1 h2 h3 h4 h5)
    have H0 := Lib.hid h0
    clear h0 h1 h2 h3 h4 h5
    go_enter Try.func20, Try.ntmps20
    (go_wp2_with fail; refine (K0.out _ (by repeat' (first | (with_reducible first | assumption | exact Below.refl _ _ | refine Below.drew ?_ | refine Below.alloc ?_ ?_ _ | refine Below.setCell ?_ ?_ _ | refine below_setR ?_ ?_ _ | refine below_dn ?_ _ | refine Below.trans ?_ (below_mo _ _ _ ?_) | refine Below.trans ?_ (below_mq _ _ ?_) | exact Nat.le_refl _) | (simp; done) | (simp; omega) | omega))).mono ?_; rintro e w' ⟨rfl, hb_⟩; obtain ⟨os0, d0, rfl⟩ := mo_of hb_; clear hb_)
    rw [H0.out]
    (go_wp2_with fail; refine (K1.out _).mono ?_; rintro e w' ⟨rfl, hb_⟩; obtain ⟨os1, d1, rfl⟩ := mo_of hb_; clear hb_)
    go_wp2
    go_returns
    exact ⟨(by first | (rw [HR.out]; done) | (rw [HR.out]; rfl)), (by repeat' (first | (with_reducible first | assumption | exact Below.refl _ _ | refine Below.drew ?_ | refine Below.alloc ?_ ?_ _ | refine Below.setCell ?_ ?_ _ | refine below_setR ?_ ?_ _ | refine below_dn ?_ _ | refine Below.trans ?_ (below_mo _ _ _ ?_) | refine Below.trans ?_ (below_mq _ _ ?_) | exact Nat.le_refl _) | (simp; done) | (simp; omega) | omega))⟩
  · have HR := Lib.hid (fpV_1 h0)
    have b1 : ((pbV xs).2.2 != 0) = true := by simp [bne, h0]
    have b2 : ((pbV xs).2.2 == 0) = false := by simp [h0]
    go_enter Try.func20, Try.ntmps20
    (go_wp2_with fail; refine (K0.out _ (by repeat' (first | (with_reducible first | assumption | exact Below.refl _ _ | refine Below.drew ?_ | refine Below.alloc ?_ ?_ _ | refine Below.setCell ?_ ?_ _ | refine below_setR ?_ ?_ _ | refine below_dn ?_ _ | refine Below.trans ?_ (below_mo _ _ _ ?_) | refine Below.trans ?_ (below_mq _ _ ?_) | exact Nat.le_refl _) | (simp; done) | (simp; omega) | omega))).mono ?_; rintro e w' ⟨rfl, hb_⟩; obtain ⟨os0, d0, rfl⟩ := mo_of hb_; clear hb_)
    go_wp2
    go_returns
    exact ⟨(by first | (rw [HR.out]; done) | (rw [HR.out]; rfl)), (by repeat' (first | (with_reducible first | assumption | exact Below.refl _ _ | refine Below.drew ?_ | refine Below.alloc ?_ ?_ _ | refine Below.setCell ?_ ?_ _ | refine below_setR ?_ ?_ _ | refine below_dn ?_ _ | refine Below.trans ?_ (below_mo _ _ _ ?_) | refine Below.trans ?_ (below_mq _ _ ?_) | exact Nat.le_refl _) | (simp; done) | (simp; omega) | omega))⟩
end Go.Proofs.Ytbihgnmiocfelaa.X
