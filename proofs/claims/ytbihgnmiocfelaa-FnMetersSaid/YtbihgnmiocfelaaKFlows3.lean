/- FlowsFor of the reference. Conditions: none. -/
import Derived.Test.YtbihgnmiocfelaaKFlows2
namespace Go.Proofs.Ytbihgnmiocfelaa.X
open Go.RowKit
set_option linter.unusedVariables false
set_option linter.unusedSimpArgs false
set_option maxRecDepth 100000
theorem wr64 (n : Int) (h : -9223372036854775808 ≤ n ∧ n ≤ 9223372036854775807) : wrap64 n = n := by unfold wrap64; omega
set_option maxHeartbeats 4000000 in
theorem specFlowsFor_any {A : Option Addr} {xs : List Int} {W : World} {B : Nat} (hs : Nums .u8 W B A xs) (h8 : b8 xs) (c : Nat) (p q s : Int) (w : World) (hb : Below B W w) (r v : Int) : Calls Try.prog 57 #[.agg #[.slice A xs.length c, .int .i64 p, .int .i64 q, .int .i64 s], .int .i64 r, .int .i64 v] w fun e w' => e = .returned (.tuple #[.int .i64 (flV xs p q s r v).1, .int .i64 (flV xs p q s r v).2.1, .int .i64 (flV xs p q s r v).2.2]) ∧ Below w.heap.size w w' := by
  have hB := hs.bsz hb
  cases h1 : okM xs p q s
  · have HR := Lib.hid (flV_1 r v h1)
    have HA : askM xs p q s r = 1 := by unfold askM; rw [h1]; rfl
    go_enter Try.func57, Try.ntmps57
    go_wp2_with (go_at_call 167; refine (l06Asked_any hs h8 _ _ _ _ _ (by repeat' (first | (with_reducible first | assumption | exact Below.refl _ _ | refine Below.drew ?_ | refine Below.alloc ?_ ?_ _ | refine Below.setCell ?_ ?_ _ | refine below_setR ?_ ?_ _ | refine below_dn ?_ _ | refine Below.trans ?_ (below_mo _ _ _ ?_) | refine Below.trans ?_ (below_mq _ _ ?_) | exact Nat.le_refl _) | (simp; done) | (simp; omega) | omega)) r _ (by first | (simp [go_sem]; done) | (simp [go_sem]; rfl)) (by first | (simp [go_sem]; done) | (simp [go_sem]; rfl)) (by first | (simp [go_sem]; done) | (simp [go_sem]; rfl)) (by first | (simp [go_sem]; done) | (simp [go_sem]; rfl))).mono ?_; rintro e w' ⟨rfl, hb_⟩; obtain ⟨os_, d_, rfl⟩ := mo_of hb_; clear hb_)
    go_returns
    exact ⟨(by first | (rw [HR.out]; done) | (rw [HR.out]; rfl)), (by repeat' (first | (with_reducible first | assumption | exact Below.refl _ _ | refine Below.drew ?_ | refine Below.alloc ?_ ?_ _ | refine Below.setCell ?_ ?_ _ | refine below_setR ?_ ?_ _ | refine below_dn ?_ _ | refine Below.trans ?_ (below_mo _ _ _ ?_) | refine Below.trans ?_ (below_mq _ _ ?_) | exact Nat.le_refl _) | (simp; done) | (simp; omega) | omega))⟩
  obtain ⟨hS, hp, hq, s0, s1⟩ := okM_parts h1
  have HS : Hid (szS xs = sizeTo xs xs.length) := rfl
  obtain ⟨z0, z1⟩ := szS_bd hS
  cases h2 : inR r 0 1000000000000
  · have HR := Lib.hid (flV_2 h1 (Or.inl h2) (v := v))
    have HA : askM xs p q s r = 2 := by unfold askM; rw [h1, h2]; rfl
    go_enter Try.func57, Try.ntmps57
    go_wp2_with (go_at_call 167; refine (l06Asked_any hs h8 _ _ _ _ _ (by repeat' (first | (with_reducible first | assumption | exact Below.refl _ _ | refine Below.drew ?_ | refine Below.alloc ?_ ?_ _ | refine Below.setCell ?_ ?_ _ | refine below_setR ?_ ?_ _ | refine below_dn ?_ _ | refine Below.trans ?_ (below_mo _ _ _ ?_) | refine Below.trans ?_ (below_mq _ _ ?_) | exact Nat.le_refl _) | (simp; done) | (simp; omega) | omega)) r _ (by first | (simp [go_sem]; done) | (simp [go_sem]; rfl)) (by first | (simp [go_sem]; done) | (simp [go_sem]; rfl)) (by first | (simp [go_sem]; done) | (simp [go_sem]; rfl)) (by first | (simp [go_sem]; done) | (simp [go_sem]; rfl))).mono ?_; rintro e w' ⟨rfl, hb_⟩; obtain ⟨os_, d_, rfl⟩ := mo_of hb_; clear hb_)
    go_returns
    exact ⟨(by first | (rw [HR.out]; done) | (rw [HR.out]; rfl)), (by repeat' (first | (with_reducible first | assumption | exact Below.refl _ _ | refine Below.drew ?_ | refine Below.alloc ?_ ?_ _ | refine Below.setCell ?_ ?_ _ | refine below_setR ?_ ?_ _ | refine below_dn ?_ _ | refine Below.trans ?_ (below_mo _ _ _ ?_) | refine Below.trans ?_ (below_mq _ _ ?_) | exact Nat.le_refl _) | (simp; done) | (simp; omega) | omega))⟩
  have HA : askM xs p q s r = 0 := by unfold askM; rw [h1, h2]; rfl
  cases h3 : inR v 0 (szS xs - 1)
  · have HR := Lib.hid (flV_2 h1 (Or.inr h3) (r := r))
    go_enter Try.func57, Try.ntmps57
    go_wp2_with (first | (go_at_call 167; refine (l06Asked_any hs h8 _ _ _ _ _ (by repeat' (first | (with_reducible first | assumption | exact Below.refl _ _ | refine Below.drew ?_ | refine Below.alloc ?_ ?_ _ | refine Below.setCell ?_ ?_ _ | refine below_setR ?_ ?_ _ | refine below_dn ?_ _ | refine Below.trans ?_ (below_mo _ _ _ ?_) | refine Below.trans ?_ (below_mq _ _ ?_) | exact Nat.le_refl _) | (simp; done) | (simp; omega) | omega)) r _ (by first | (simp [go_sem]; done) | (simp [go_sem]; rfl)) (by first | (simp [go_sem]; done) | (simp [go_sem]; rfl)) (by first | (simp [go_sem]; done) | (simp [go_sem]; rfl)) (by first | (simp [go_sem]; done) | (simp [go_sem]; rfl))).mono ?_; rintro e w' ⟨rfl, hb_⟩; obtain ⟨os_, d_, rfl⟩ := mo_of hb_; clear hb_) | (go_at_call 147; refine (l01Size_any hs h8 _ _ rfl _ (by repeat' (first | (with_reducible first | assumption | exact Below.refl _ _ | refine Below.drew ?_ | refine Below.alloc ?_ ?_ _ | refine Below.setCell ?_ ?_ _ | refine below_setR ?_ ?_ _ | refine below_dn ?_ _ | refine Below.trans ?_ (below_mo _ _ _ ?_) | refine Below.trans ?_ (below_mq _ _ ?_) | exact Nat.le_refl _) | (simp; done) | (simp; omega) | omega))).mono ?_; rintro e w' ⟨rfl, rfl⟩; rw [← HS.out]) | (go_at_call 119; refine (l00In_ok _ _ _ _).mono ?_; rintro e w' ⟨rfl, rfl⟩))
    go_returns
    exact ⟨(by first | (rw [HR.out]; done) | (rw [HR.out]; rfl)), (by repeat' (first | (with_reducible first | assumption | exact Below.refl _ _ | refine Below.drew ?_ | refine Below.alloc ?_ ?_ _ | refine Below.setCell ?_ ?_ _ | refine below_setR ?_ ?_ _ | refine below_dn ?_ _ | refine Below.trans ?_ (below_mo _ _ _ ?_) | refine Below.trans ?_ (below_mq _ _ ?_) | exact Nat.le_refl _) | (simp; done) | (simp; omega) | omega))⟩
  obtain ⟨r0, r1⟩ := inR_t.1 h2
  obtain ⟨v0, v1⟩ := inR_t.1 h3
  obtain ⟨m0, m1, m2⟩ := fl_most hp hq
  obtain ⟨u0, u1, _, _⟩ := flow_bd (v := 1000000000000) (by omega) hp hq
  have HM : mostM p q = 1000000000000 * p / q := rfl
  have zz : (szS xs == 0) = false := beq_eq_false_iff_ne.2 (by omega)
  have qz : (q == 0) = false := beq_eq_false_iff_ne.2 (by omega)
  have pz : (p == 0) = false := beq_eq_false_iff_ne.2 (by omega)
  have q0 : 0 ≤ (mostM p q + s) / szS xs := Int.ediv_nonneg (by omega) (by omega)
  have q1 : (mostM p q + s) / szS xs ≤ mostM p q + s := Int.ediv_le_self _ (by omega)
  have hc : s + mostM p q = mostM p q + s := Int.add_comm _ _
  rw [← hc] at q0 q1
  by_cases h4 : (mostM p q + s) / szS xs < r
  · have HR := Lib.hid (flV_3 h1 h2 h3 h4)
    rw [← hc] at h4
    rw [HM] at h4 q0 q1 m0 m1
    clear hc HM m2
    go_enter Try.func57, Try.ntmps57
    go_wp2_with (first | (go_at_call 167; refine (l06Asked_any hs h8 _ _ _ _ _ (by repeat' (first | (with_reducible first | assumption | exact Below.refl _ _ | refine Below.drew ?_ | refine Below.alloc ?_ ?_ _ | refine Below.setCell ?_ ?_ _ | refine below_setR ?_ ?_ _ | refine below_dn ?_ _ | refine Below.trans ?_ (below_mo _ _ _ ?_) | refine Below.trans ?_ (below_mq _ _ ?_) | exact Nat.le_refl _) | (simp; done) | (simp; omega) | omega)) r _ (by first | (simp [go_sem]; done) | (simp [go_sem]; rfl)) (by first | (simp [go_sem]; done) | (simp [go_sem]; rfl)) (by first | (simp [go_sem]; done) | (simp [go_sem]; rfl)) (by first | (simp [go_sem]; done) | (simp [go_sem]; rfl))).mono ?_; rintro e w' ⟨rfl, hb_⟩; obtain ⟨os_, d_, rfl⟩ := mo_of hb_; clear hb_) | (go_at_call 147; refine (l01Size_any hs h8 _ _ rfl _ (by repeat' (first | (with_reducible first | assumption | exact Below.refl _ _ | refine Below.drew ?_ | refine Below.alloc ?_ ?_ _ | refine Below.setCell ?_ ?_ _ | refine below_setR ?_ ?_ _ | refine below_dn ?_ _ | refine Below.trans ?_ (below_mo _ _ _ ?_) | refine Below.trans ?_ (below_mq _ _ ?_) | exact Nat.le_refl _) | (simp; done) | (simp; omega) | omega))).mono ?_; rintro e w' ⟨rfl, rfl⟩; rw [← HS.out]) | (go_at_call 119; refine (l00In_ok _ _ _ _).mono ?_; rintro e w' ⟨rfl, rfl⟩))
    go_returns
    exact ⟨(by first | (rw [HR.out]; done) | (rw [HR.out]; rfl)), (by repeat' (first | (with_reducible first | assumption | exact Below.refl _ _ | refine Below.drew ?_ | refine Below.alloc ?_ ?_ _ | refine Below.setCell ?_ ?_ _ | refine below_setR ?_ ?_ _ | refine below_dn ?_ _ | refine Below.trans ?_ (below_mo _ _ _ ?_) | refine Below.trans ?_ (below_mq _ _ ?_) | exact Nat.le_refl _) | (simp; done) | (simp; omega) | omega))⟩
  have e0 := Int.mul_nonneg r0 (show 0 ≤ szS xs by omega)
  have e1 := div_le (show 0 < szS xs by omega) (show r ≤ (mostM p q + s) / szS xs by omega)
  obtain ⟨k, hk⟩ : ∃ k, k = r * szS xs + v - s := ⟨_, rfl⟩
  have hk2 : fCnt xs s r v = k := hk.symm
  have HK := Lib.hid hk
  cases h5 : inR k 0 (mostM p q)
  · have HR := Lib.hid (flV_4 h1 h2 h3 h4 (by rw [hk2]; exact h5))
    rw [← hc] at h4
    rw [HM] at h4 h5 q0 q1 m0 m1 e1
    clear hk hk2 hc HM m2
    go_enter Try.func57, Try.ntmps57
    go_wp2_with (first | (go_at_call 119; rw [← HK.out]; refine (l00In_ok _ _ _ _).mono ?_; rintro e w' ⟨rfl, rfl⟩) | (go_at_call 167; refine (l06Asked_any hs h8 _ _ _ _ _ (by repeat' (first | (with_reducible first | assumption | exact Below.refl _ _ | refine Below.drew ?_ | refine Below.alloc ?_ ?_ _ | refine Below.setCell ?_ ?_ _ | refine below_setR ?_ ?_ _ | refine below_dn ?_ _ | refine Below.trans ?_ (below_mo _ _ _ ?_) | refine Below.trans ?_ (below_mq _ _ ?_) | exact Nat.le_refl _) | (simp; done) | (simp; omega) | omega)) r _ (by first | (simp [go_sem]; done) | (simp [go_sem]; rfl)) (by first | (simp [go_sem]; done) | (simp [go_sem]; rfl)) (by first | (simp [go_sem]; done) | (simp [go_sem]; rfl)) (by first | (simp [go_sem]; done) | (simp [go_sem]; rfl))).mono ?_; rintro e w' ⟨rfl, hb_⟩; obtain ⟨os_, d_, rfl⟩ := mo_of hb_; clear hb_) | (go_at_call 147; refine (l01Size_any hs h8 _ _ rfl _ (by repeat' (first | (with_reducible first | assumption | exact Below.refl _ _ | refine Below.drew ?_ | refine Below.alloc ?_ ?_ _ | refine Below.setCell ?_ ?_ _ | refine below_setR ?_ ?_ _ | refine below_dn ?_ _ | refine Below.trans ?_ (below_mo _ _ _ ?_) | refine Below.trans ?_ (below_mq _ _ ?_) | exact Nat.le_refl _) | (simp; done) | (simp; omega) | omega))).mono ?_; rintro e w' ⟨rfl, rfl⟩; rw [← HS.out]) | (go_at_call 119; refine (l00In_ok _ _ _ _).mono ?_; rintro e w' ⟨rfl, rfl⟩))
    go_returns
    exact ⟨(by first | (rw [HR.out]; done) | (rw [HR.out]; rfl)), (by repeat' (first | (with_reducible first | assumption | exact Below.refl _ _ | refine Below.drew ?_ | refine Below.alloc ?_ ?_ _ | refine Below.setCell ?_ ?_ _ | refine below_setR ?_ ?_ _ | refine below_dn ?_ _ | refine Below.trans ?_ (below_mo _ _ _ ?_) | refine Below.trans ?_ (below_mq _ _ ?_) | exact Nat.le_refl _) | (simp; done) | (simp; omega) | omega))⟩
  obtain ⟨k0, k1⟩ := inR_t.1 h5
  obtain ⟨c0, c1, c2⟩ := fl_cnt hp hq k0 k1
  have c3 : 0 ≤ (k * q + p - 1) / p := Int.ediv_nonneg (by omega) (by omega)
  have c4 : (k * q + p - 1) / p ≤ k * q + p - 1 := Int.ediv_le_self _ (by omega)
  have c5 : 0 ≤ (k + 1) * q := by omega
  have c6 : (k + 1) * q ≤ 1000000000001000 := by omega
  have c7 : 0 ≤ ((k + 1) * q - 1) / p := Int.ediv_nonneg (by omega) (by omega)
  have c8 : ((k + 1) * q - 1) / p ≤ (k + 1) * q - 1 := Int.ediv_le_self _ (by omega)
  have HW := Lib.hid (show wrap64 ((wrap64 (wrap64 (wrap64 (k + 1) * q) - 1)).tdiv p) = ((k + 1) * q - 1) / p by
    rw [wr64 (k + 1) (by omega), wr64 ((k + 1) * q) (by omega), wr64 ((k + 1) * q - 1) (by omega), Int.tdiv_eq_ediv_of_nonneg (by omega), wr64 _ (by omega)])
  clear c2 hk
  rw [← hc] at h4
  by_cases h6 : fHi p q k < fLo p q k
  · have HR := Lib.hid (flV_5 h1 h2 h3 (by rw [← hc]; exact h4) (by rw [hk2]; exact h5) (by rw [hk2]; exact h6))
    have h9 : min (((k + 1) * q - 1) / p) 1000000000000 < (k * q + p - 1) / p := h6
    rw [HM] at h4 h5 q0 q1 m0 m1 e1
    clear h6 hk2 hc HM m2 k1
    go_enter Try.func57, Try.ntmps57
    go_wp2_with (first | (go_at_call 158; rw [HW.out]; refine (l00Min_ok _ _ _).mono ?_; rintro e w' ⟨rfl, rfl⟩) | (go_at_call 119; rw [← HK.out]; refine (l00In_ok _ _ _ _).mono ?_; rintro e w' ⟨rfl, rfl⟩) | (go_at_call 167; refine (l06Asked_any hs h8 _ _ _ _ _ (by repeat' (first | (with_reducible first | assumption | exact Below.refl _ _ | refine Below.drew ?_ | refine Below.alloc ?_ ?_ _ | refine Below.setCell ?_ ?_ _ | refine below_setR ?_ ?_ _ | refine below_dn ?_ _ | refine Below.trans ?_ (below_mo _ _ _ ?_) | refine Below.trans ?_ (below_mq _ _ ?_) | exact Nat.le_refl _) | (simp; done) | (simp; omega) | omega)) r _ (by first | (simp [go_sem]; done) | (simp [go_sem]; rfl)) (by first | (simp [go_sem]; done) | (simp [go_sem]; rfl)) (by first | (simp [go_sem]; done) | (simp [go_sem]; rfl)) (by first | (simp [go_sem]; done) | (simp [go_sem]; rfl))).mono ?_; rintro e w' ⟨rfl, hb_⟩; obtain ⟨os_, d_, rfl⟩ := mo_of hb_; clear hb_) | (go_at_call 147; refine (l01Size_any hs h8 _ _ rfl _ (by repeat' (first | (with_reducible first | assumption | exact Below.refl _ _ | refine Below.drew ?_ | refine Below.alloc ?_ ?_ _ | refine Below.setCell ?_ ?_ _ | refine below_setR ?_ ?_ _ | refine below_dn ?_ _ | refine Below.trans ?_ (below_mo _ _ _ ?_) | refine Below.trans ?_ (below_mq _ _ ?_) | exact Nat.le_refl _) | (simp; done) | (simp; omega) | omega))).mono ?_; rintro e w' ⟨rfl, rfl⟩; rw [← HS.out]) | (go_at_call 119; refine (l00In_ok _ _ _ _).mono ?_; rintro e w' ⟨rfl, rfl⟩))
    go_returns
    exact ⟨(by first | (rw [HR.out]; done) | (rw [HR.out]; rfl)), (by repeat' (first | (with_reducible first | assumption | exact Below.refl _ _ | refine Below.drew ?_ | refine Below.alloc ?_ ?_ _ | refine Below.setCell ?_ ?_ _ | refine below_setR ?_ ?_ _ | refine below_dn ?_ _ | refine Below.trans ?_ (below_mo _ _ _ ?_) | refine Below.trans ?_ (below_mq _ _ ?_) | exact Nat.le_refl _) | (simp; done) | (simp; omega) | omega))⟩
  · have HR := Lib.hid ((flV_6 h1 h2 h3 (by rw [← hc]; exact h4) (by rw [hk2]; exact h5) (by rw [hk2]; exact h6)).trans (by rw [hk2]; rfl : _ = ((k * q + p - 1) / p, min (((k + 1) * q - 1) / p) 1000000000000, (0 : Int))))
    have h9 : ¬ min (((k + 1) * q - 1) / p) 1000000000000 < (k * q + p - 1) / p := h6
    rw [HM] at h4 h5 q0 q1 m0 m1 e1
    clear h6 hk2 hc HM m2 k1
    go_enter Try.func57, Try.ntmps57
    go_wp2_with (first | (go_at_call 158; rw [HW.out]; refine (l00Min_ok _ _ _).mono ?_; rintro e w' ⟨rfl, rfl⟩) | (go_at_call 119; rw [← HK.out]; refine (l00In_ok _ _ _ _).mono ?_; rintro e w' ⟨rfl, rfl⟩) | (go_at_call 167; refine (l06Asked_any hs h8 _ _ _ _ _ (by repeat' (first | (with_reducible first | assumption | exact Below.refl _ _ | refine Below.drew ?_ | refine Below.alloc ?_ ?_ _ | refine Below.setCell ?_ ?_ _ | refine below_setR ?_ ?_ _ | refine below_dn ?_ _ | refine Below.trans ?_ (below_mo _ _ _ ?_) | refine Below.trans ?_ (below_mq _ _ ?_) | exact Nat.le_refl _) | (simp; done) | (simp; omega) | omega)) r _ (by first | (simp [go_sem]; done) | (simp [go_sem]; rfl)) (by first | (simp [go_sem]; done) | (simp [go_sem]; rfl)) (by first | (simp [go_sem]; done) | (simp [go_sem]; rfl)) (by first | (simp [go_sem]; done) | (simp [go_sem]; rfl))).mono ?_; rintro e w' ⟨rfl, hb_⟩; obtain ⟨os_, d_, rfl⟩ := mo_of hb_; clear hb_) | (go_at_call 147; refine (l01Size_any hs h8 _ _ rfl _ (by repeat' (first | (with_reducible first | assumption | exact Below.refl _ _ | refine Below.drew ?_ | refine Below.alloc ?_ ?_ _ | refine Below.setCell ?_ ?_ _ | refine below_setR ?_ ?_ _ | refine below_dn ?_ _ | refine Below.trans ?_ (below_mo _ _ _ ?_) | refine Below.trans ?_ (below_mq _ _ ?_) | exact Nat.le_refl _) | (simp; done) | (simp; omega) | omega))).mono ?_; rintro e w' ⟨rfl, rfl⟩; rw [← HS.out]) | (go_at_call 119; refine (l00In_ok _ _ _ _).mono ?_; rintro e w' ⟨rfl, rfl⟩))
    go_returns
    exact ⟨(by first | (rw [HR.out]; done) | (rw [HR.out]; rfl)), (by repeat' (first | (with_reducible first | assumption | exact Below.refl _ _ | refine Below.drew ?_ | refine Below.alloc ?_ ?_ _ | refine Below.setCell ?_ ?_ _ | refine below_setR ?_ ?_ _ | refine below_dn ?_ _ | refine Below.trans ?_ (below_mo _ _ _ ?_) | refine Below.trans ?_ (below_mq _ _ ?_) | exact Nat.le_refl _) | (simp; done) | (simp; omega) | omega))⟩
end Go.Proofs.Ytbihgnmiocfelaa.X
