/- PortionBounds, both answers. Conditions: none. -/
import Derived.Test.YtbihgnmiocfelaaKPairs
import Derived.Deep.RegionHeld3
namespace Go.Proofs.Ytbihgnmiocfelaa.X
open Go.RowKit
set_option linter.unusedVariables false
set_option linter.unusedSimpArgs false
set_option maxRecDepth 100000
/-- what PortionBounds returns -/
def pbV (xs : List (Int × Int)) : (Int × Int) × (Int × Int) × Int :=
  if inR xs.length 1 60 && prTo xs xs.length then
    if (plo xs xs.length).1 * (phi xs xs.length).2 < (phi xs xs.length).1 * (plo xs xs.length).2 then (red (plo xs xs.length).1 (plo xs xs.length).2, red (phi xs xs.length).1 (phi xs xs.length).2, 0) else ((0, 0), (0, 0), 6)
  else ((0, 0), (0, 0), 2)
theorem pbV_r {xs : List (Int × Int)} (h : (inR xs.length 1 60 && prTo xs xs.length) = false) : pbV xs = ((0, 0), (0, 0), 2) := by unfold pbV; rw [h]; rfl
theorem pbV_n {xs : List (Int × Int)} (h : (inR xs.length 1 60 && prTo xs xs.length) = true) (g : ¬ (plo xs xs.length).1 * (phi xs xs.length).2 < (phi xs xs.length).1 * (plo xs xs.length).2) : pbV xs = ((0, 0), (0, 0), 6) := by unfold pbV; rw [h, if_pos rfl, if_neg g]
theorem pbV_0 {xs : List (Int × Int)} (h : (inR xs.length 1 60 && prTo xs xs.length) = true) (g : (plo xs xs.length).1 * (phi xs xs.length).2 < (phi xs xs.length).1 * (plo xs xs.length).2) : pbV xs = (red (plo xs xs.length).1 (plo xs xs.length).2, red (phi xs xs.length).1 (phi xs xs.length).2, 0) := by unfold pbV; rw [h, if_pos rfl, if_pos g]
theorem bigb {a b : Int} (ha : 0 ≤ a ∧ a ≤ 100001) (hb : 0 ≤ b ∧ b ≤ 100001) : 0 ≤ a * b ∧ a * b ≤ 1000000000000000000 := by
  have := mul_bd ha hb
  omega
theorem rel_up {w : World} {xs : List (Int × Int)} {os0 : Array Obj} {d0 : Nat} (k : Nat) (W : World) (h : ∃ os d, W = mo (((mo ((w.alloc (.cells #[.int .i64 0, .int .i64 0] 28)).alloc (.cells #[.int .i64 0, .int .i64 0] 28)) os0 d0).alloc (.cells #[.int .i64 (plo xs (k + 1)).1, .int .i64 (plo xs (k + 1)).2] 28)).alloc (.cells #[.int .i64 (phi xs (k + 1)).1, .int .i64 (phi xs (k + 1)).2] 28)) os d) (hlt : k < xs.length) : ∃ (k' : Nat) (os : Array Obj) (d : Nat), k' ≤ xs.length ∧ Value.int .i64 ((k : Int) + 1) = .int .i64 (k' : Int) ∧ W = mo (((mo ((w.alloc (.cells #[.int .i64 0, .int .i64 0] 28)).alloc (.cells #[.int .i64 0, .int .i64 0] 28)) os0 d0).alloc (.cells #[.int .i64 (plo xs k').1, .int .i64 (plo xs k').2] 28)).alloc (.cells #[.int .i64 (phi xs k').1, .int .i64 (phi xs k').2] 28)) os d := by
  obtain ⟨os, d, e⟩ := h
  exact ⟨k + 1, os, d, hlt, by rw [Int.natCast_succ], e⟩
set_option maxHeartbeats 4000000 in
theorem implBounds_any {L : Option Addr} {xs : List (Int × Int)} {V : World} {C : Nat} (hl : Prs .i64 .i64 V C L xs) (cl : Nat) (w : World) (hv : Below C V w) : Calls Try.prog 17 #[.slice L xs.length cl] w fun e w' => e = .returned (.tuple #[.agg #[.int .i64 (pbV xs).1.1, .int .i64 (pbV xs).1.2], .agg #[.int .i64 (pbV xs).2.1.1, .int .i64 (pbV xs).2.1.2], .int .i64 (pbV xs).2.2]) ∧ Below w.heap.size w w' := by
  have hC := hl.bsz hv
  have hll := hl.len
  cases h1 : prTo xs xs.length
  · have HR : Hid (pbV xs = ((0, 0), (0, 0), 2)) := pbV_r (by rw [h1, Bool.and_false])
    go_enter Try.func17, Try.ntmps17
    (go_wp2_with fail; refine (hasPair_any hl _ _ (by repeat' (first | (with_reducible first | assumption | exact Below.refl _ _ | refine Below.drew ?_ | refine Below.alloc ?_ ?_ _ | refine Below.setCell ?_ ?_ _ | refine below_setR ?_ ?_ _ | refine below_dn ?_ _ | refine Below.trans ?_ (below_mo _ _ _ ?_) | refine Below.trans ?_ (below_mq _ _ ?_) | exact Nat.le_refl _) | (simp; done) | (simp; omega) | omega))).mono ?_; rintro e w' ⟨rfl, hb_⟩; obtain ⟨os0, d0, rfl⟩ := mo_of hb_; clear hb_)
    rw [h1]
    go_wp2_with (go_at_call 116; refine (within_ok _ _ _ _).mono ?_; rintro e w' ⟨rfl, rfl⟩)
    all_goals go_returns
    all_goals exact ⟨(by first | (rw [HR.out]; done) | (rw [HR.out]; rfl)), (by repeat' (first | (with_reducible first | assumption | exact Below.refl _ _ | refine Below.drew ?_ | refine Below.alloc ?_ ?_ _ | refine Below.setCell ?_ ?_ _ | refine below_setR ?_ ?_ _ | refine below_dn ?_ _ | refine Below.trans ?_ (below_mo _ _ _ ?_) | refine Below.trans ?_ (below_mq _ _ ?_) | exact Nat.le_refl _) | (simp; done) | (simp; omega) | omega))⟩
  cases h2 : inR xs.length 1 60
  · have HR : Hid (pbV xs = ((0, 0), (0, 0), 2)) := pbV_r (by rw [h2]; rfl)
    have HK := Lib.hid h1
    clear h1
    go_enter Try.func17, Try.ntmps17
    (go_wp2_with fail; refine (hasPair_any hl _ _ (by repeat' (first | (with_reducible first | assumption | exact Below.refl _ _ | refine Below.drew ?_ | refine Below.alloc ?_ ?_ _ | refine Below.setCell ?_ ?_ _ | refine below_setR ?_ ?_ _ | refine below_dn ?_ _ | refine Below.trans ?_ (below_mo _ _ _ ?_) | refine Below.trans ?_ (below_mq _ _ ?_) | exact Nat.le_refl _) | (simp; done) | (simp; omega) | omega))).mono ?_; rintro e w' ⟨rfl, hb_⟩; obtain ⟨os0, d0, rfl⟩ := mo_of hb_; clear hb_)
    rw [HK.out]
    go_wp2_with (go_at_call 116; refine (within_ok _ _ _ _).mono ?_; rintro e w' ⟨rfl, rfl⟩)
    go_returns
    exact ⟨(by first | (rw [HR.out]; done) | (rw [HR.out]; rfl)), (by repeat' (first | (with_reducible first | assumption | exact Below.refl _ _ | refine Below.drew ?_ | refine Below.alloc ?_ ?_ _ | refine Below.setCell ?_ ?_ _ | refine below_setR ?_ ?_ _ | refine below_dn ?_ _ | refine Below.trans ?_ (below_mo _ _ _ ?_) | refine Below.trans ?_ (below_mq _ _ ?_) | exact Nat.le_refl _) | (simp; done) | (simp; omega) | omega))⟩
  · have HO := Lib.hid (show (inR xs.length 1 60 && prTo xs xs.length) = true by rw [h1, h2]; rfl)
    have hn := inR_t.1 h2
    have HP := Lib.hid (prTo_pOK h1)
    have HL := Lib.hid (plo_bd (prTo_pOK h1))
    have HH := Lib.hid (phi_bd (prTo_pOK h1))
    have HK := Lib.hid h1
    clear h1
    go_enter Try.func17, Try.ntmps17
    (go_wp2_with fail; refine (hasPair_any hl _ _ (by repeat' (first | (with_reducible first | assumption | exact Below.refl _ _ | refine Below.drew ?_ | refine Below.alloc ?_ ?_ _ | refine Below.setCell ?_ ?_ _ | refine below_setR ?_ ?_ _ | refine below_dn ?_ _ | refine Below.trans ?_ (below_mo _ _ _ ?_) | refine Below.trans ?_ (below_mq _ _ ?_) | exact Nat.le_refl _) | (simp; done) | (simp; omega) | omega))).mono ?_; rintro e w' ⟨rfl, hb_⟩; obtain ⟨os0, d0, rfl⟩ := mo_of hb_; clear hb_)
    rw [HK.out]
    go_wp2_with (go_at_call 116; refine (within_ok _ _ _ _).mono ?_; rintro e w' ⟨rfl, rfl⟩)
    go_loopw [27] (fun i wr => ∃ (k : Nat) (os : Array Obj) (d : Nat), k ≤ xs.length ∧ i = .int .i64 (k : Int) ∧ wr = mo (((mo ((w.alloc (.cells #[.int .i64 0, .int .i64 0] 28)).alloc (.cells #[.int .i64 0, .int .i64 0] 28)) os0 d0).alloc (.cells #[.int .i64 (plo xs k).1, .int .i64 (plo xs k).2] 28)).alloc (.cells #[.int .i64 (phi xs k).1, .int .i64 (phi xs k).2] 28)) os d) (fun i _ => xs.length - (intOf i).toNat)
    case atStart => exact ⟨0, #[], _, Nat.zero_le _, rfl, (mo_nil _).symm⟩
    case round =>
      obtain ⟨k, os, d, hk, rfl, rfl⟩ := hrel
      obtain ⟨⟨a0, a1⟩, a2, a3⟩ := HL.out k hk
      obtain ⟨⟨b0, b1⟩, b2, b3⟩ := HH.out k hk
      by_cases hlt : k < xs.length
      · obtain ⟨b, off, rfl, hbs, hc0, hc1⟩ := hl.at hv hlt
        obtain ⟨⟨c0, c1⟩, c2, c3⟩ := HP.out k hlt
        have g0 : (0 : Int) ≤ (k : Int) := by omega
        have g1 : (k : Int) < (xs.length : Int) := by omega
        have ew : IntKind.i64.wrap (p2 xs k + 1) = p2 xs k + 1 := IntWalk.i64_in _ ⟨by omega, by omega⟩
        by_cases hA : (plo xs k).1 * p1 xs k < p2 xs k * (plo xs k).2
        all_goals by_cases hB : (p2 xs k + 1) * (phi xs k).2 < (phi xs k).1 * p1 xs k
        · have HN1 := Lib.hid (plo_yes hA)
          have HN2 := Lib.hid (phi_yes hB)
          have K1 := Lib.hid (fun W => portionLess_t _ _ _ _ W (bigb ⟨a0, by omega⟩ ⟨by omega, by omega⟩) (bigb ⟨c2, by omega⟩ ⟨by omega, by omega⟩) hA)
          have K2 := Lib.hid (fun W => portionLess_t _ _ _ _ W (bigb ⟨by omega, by omega⟩ ⟨by omega, by omega⟩) (bigb ⟨by omega, by omega⟩ ⟨by omega, by omega⟩) hB)
          clear hA hB
          (go_wp2_with fail; refine (K1.out _).mono ?_; rintro e w' ⟨rfl, hb_⟩; obtain ⟨os1, d1, rfl⟩ := mo_of hb_; clear hb_)
          (go_wp2_with fail; refine (K2.out _).mono ?_; rintro e w' ⟨rfl, hb_⟩; obtain ⟨os2, d2, rfl⟩ := mo_of hb_; clear hb_)
          go_wp2
          exact ⟨rel_up k _ (by rw [HN1.out, HN2.out]; exact mo_of (by repeat' (first | (with_reducible first | assumption | exact Below.refl _ _ | refine Below.drew ?_ | refine Below.alloc ?_ ?_ _ | refine Below.setCell ?_ ?_ _ | refine below_setR ?_ ?_ _ | refine below_dn ?_ _ | refine Below.trans ?_ (below_mo _ _ _ ?_) | refine Below.trans ?_ (below_mq _ _ ?_) | exact Nat.le_refl _) | (simp; done) | (simp; omega) | omega))) hlt, by simp [intOf]; omega⟩
        · have HN1 := Lib.hid (plo_yes hA)
          have HN2 := Lib.hid (phi_no hB)
          have K1 := Lib.hid (fun W => portionLess_t _ _ _ _ W (bigb ⟨a0, by omega⟩ ⟨by omega, by omega⟩) (bigb ⟨c2, by omega⟩ ⟨by omega, by omega⟩) hA)
          have K2 := Lib.hid (fun W => portionLess_f _ _ _ _ W (bigb ⟨by omega, by omega⟩ ⟨by omega, by omega⟩) (bigb ⟨by omega, by omega⟩ ⟨by omega, by omega⟩) hB)
          clear hA hB
          (go_wp2_with fail; refine (K1.out _).mono ?_; rintro e w' ⟨rfl, hb_⟩; obtain ⟨os1, d1, rfl⟩ := mo_of hb_; clear hb_)
          (go_wp2_with fail; refine (K2.out _).mono ?_; rintro e w' ⟨rfl, hb_⟩; obtain ⟨os2, d2, rfl⟩ := mo_of hb_; clear hb_)
          go_wp2
          exact ⟨rel_up k _ (by rw [HN1.out, HN2.out]; exact mo_of (by repeat' (first | (with_reducible first | assumption | exact Below.refl _ _ | refine Below.drew ?_ | refine Below.alloc ?_ ?_ _ | refine Below.setCell ?_ ?_ _ | refine below_setR ?_ ?_ _ | refine below_dn ?_ _ | refine Below.trans ?_ (below_mo _ _ _ ?_) | refine Below.trans ?_ (below_mq _ _ ?_) | exact Nat.le_refl _) | (simp; done) | (simp; omega) | omega))) hlt, by simp [intOf]; omega⟩
        · have HN1 := Lib.hid (plo_no hA)
          have HN2 := Lib.hid (phi_yes hB)
          have K1 := Lib.hid (fun W => portionLess_f _ _ _ _ W (bigb ⟨a0, by omega⟩ ⟨by omega, by omega⟩) (bigb ⟨c2, by omega⟩ ⟨by omega, by omega⟩) hA)
          have K2 := Lib.hid (fun W => portionLess_t _ _ _ _ W (bigb ⟨by omega, by omega⟩ ⟨by omega, by omega⟩) (bigb ⟨by omega, by omega⟩ ⟨by omega, by omega⟩) hB)
          clear hA hB
          (go_wp2_with fail; refine (K1.out _).mono ?_; rintro e w' ⟨rfl, hb_⟩; obtain ⟨os1, d1, rfl⟩ := mo_of hb_; clear hb_)
          (go_wp2_with fail; refine (K2.out _).mono ?_; rintro e w' ⟨rfl, hb_⟩; obtain ⟨os2, d2, rfl⟩ := mo_of hb_; clear hb_)
          go_wp2
          exact ⟨rel_up k _ (by rw [HN1.out, HN2.out]; exact mo_of (by repeat' (first | (with_reducible first | assumption | exact Below.refl _ _ | refine Below.drew ?_ | refine Below.alloc ?_ ?_ _ | refine Below.setCell ?_ ?_ _ | refine below_setR ?_ ?_ _ | refine below_dn ?_ _ | refine Below.trans ?_ (below_mo _ _ _ ?_) | refine Below.trans ?_ (below_mq _ _ ?_) | exact Nat.le_refl _) | (simp; done) | (simp; omega) | omega))) hlt, by simp [intOf]; omega⟩
        · have HN1 := Lib.hid (plo_no hA)
          have HN2 := Lib.hid (phi_no hB)
          have K1 := Lib.hid (fun W => portionLess_f _ _ _ _ W (bigb ⟨a0, by omega⟩ ⟨by omega, by omega⟩) (bigb ⟨c2, by omega⟩ ⟨by omega, by omega⟩) hA)
          have K2 := Lib.hid (fun W => portionLess_f _ _ _ _ W (bigb ⟨by omega, by omega⟩ ⟨by omega, by omega⟩) (bigb ⟨by omega, by omega⟩ ⟨by omega, by omega⟩) hB)
          clear hA hB
          (go_wp2_with fail; refine (K1.out _).mono ?_; rintro e w' ⟨rfl, hb_⟩; obtain ⟨os1, d1, rfl⟩ := mo_of hb_; clear hb_)
          (go_wp2_with fail; refine (K2.out _).mono ?_; rintro e w' ⟨rfl, hb_⟩; obtain ⟨os2, d2, rfl⟩ := mo_of hb_; clear hb_)
          go_wp2
          exact ⟨rel_up k _ (by rw [HN1.out, HN2.out]; exact mo_of (by repeat' (first | (with_reducible first | assumption | exact Below.refl _ _ | refine Below.drew ?_ | refine Below.alloc ?_ ?_ _ | refine Below.setCell ?_ ?_ _ | refine below_setR ?_ ?_ _ | refine below_dn ?_ _ | refine Below.trans ?_ (below_mo _ _ _ ?_) | refine Below.trans ?_ (below_mq _ _ ?_) | exact Nat.le_refl _) | (simp; done) | (simp; omega) | omega))) hlt, by simp [intOf]; omega⟩
      · obtain rfl : k = xs.length := by omega
        by_cases hA : (plo xs xs.length).1 * (phi xs xs.length).2 < (phi xs xs.length).1 * (plo xs xs.length).2
        · have HR := Lib.hid (pbV_0 HO.out hA)
          have K1 := Lib.hid (fun W => portionLess_t _ _ _ _ W (bigb ⟨a0, by omega⟩ ⟨by omega, by omega⟩) (bigb ⟨by omega, by omega⟩ ⟨by omega, by omega⟩) hA)
          have l1 : 0 ≤ (plo xs xs.length).1 ∧ (plo xs xs.length).1 ≤ 1000000000 := by omega
          have l2 : 1 ≤ (plo xs xs.length).2 ∧ (plo xs xs.length).2 ≤ 1000000000 := by omega
          have l3 : 0 ≤ (phi xs xs.length).1 ∧ (phi xs xs.length).1 ≤ 1000000000 := by omega
          have l4 : 1 ≤ (phi xs xs.length).2 ∧ (phi xs xs.length).2 ≤ 1000000000 := by omega
          have K3 := Lib.hid (fun W => lowest_any _ _ l1 l2 W)
          have K4 := Lib.hid (fun W => lowest_any _ _ l3 l4 W)
          clear hA
          (go_wp2_with fail; refine (K1.out _).mono ?_; rintro e w' ⟨rfl, hb_⟩; obtain ⟨os1, d1, rfl⟩ := mo_of hb_; clear hb_)
          go_wp2
          go_region_held3 (fun w' => w'.cell? ⟨w.heap.size + 1 + 1 + os0.size, 0, none⟩ = some (.int .i64 (plo xs xs.length).1) ∧ w'.cell? ⟨w.heap.size + 1 + 1 + os0.size, 1, none⟩ = some (.int .i64 (plo xs xs.length).2) ∧ w'.cell? ⟨w.heap.size + 1 + 1 + os0.size + 1, 0, none⟩ = some (.int .i64 (phi xs xs.length).1) ∧ w'.cell? ⟨w.heap.size + 1 + 1 + os0.size + 1, 1, none⟩ = some (.int .i64 (phi xs xs.length).2)) (first | (simp [go_sem]; done) | ((repeat' apply And.intro) <;> (first | (simp [go_sem]; done) | (simp [go_sem, *]; done)))) (first | (go_at_call 118; (with_reducible refine (K3.out _).mono ?_); rintro e w' ⟨rfl, hb_⟩; obtain ⟨os3, d3, rfl⟩ := mo_of hb_; clear hb_) | (go_at_call 118; (with_reducible refine (K4.out _).mono ?_); rintro e w' ⟨rfl, hb_⟩; obtain ⟨os4, d4, rfl⟩ := mo_of hb_; clear hb_))
          all_goals go_wp2
          all_goals go_returns
          all_goals exact ⟨(by first | (rw [HR.out]; done) | (rw [HR.out]; rfl)), (by repeat' (first | (with_reducible first | assumption | exact Below.refl _ _ | refine Below.drew ?_ | refine Below.alloc ?_ ?_ _ | refine Below.setCell ?_ ?_ _ | refine below_setR ?_ ?_ _ | refine below_dn ?_ _ | refine Below.trans ?_ (below_mo _ _ _ ?_) | refine Below.trans ?_ (below_mq _ _ ?_) | exact Nat.le_refl _) | (simp; done) | (simp; omega) | omega))⟩
        · have HR := Lib.hid (pbV_n HO.out hA)
          have K1 := Lib.hid (fun W => portionLess_f _ _ _ _ W (bigb ⟨a0, by omega⟩ ⟨by omega, by omega⟩) (bigb ⟨by omega, by omega⟩ ⟨by omega, by omega⟩) hA)
          clear hA
          (go_wp2_with fail; refine (K1.out _).mono ?_; rintro e w' ⟨rfl, hb_⟩; obtain ⟨os1, d1, rfl⟩ := mo_of hb_; clear hb_)
          go_wp2
          go_returns
          exact ⟨(by first | (rw [HR.out]; done) | (rw [HR.out]; rfl)), (by repeat' (first | (with_reducible first | assumption | exact Below.refl _ _ | refine Below.drew ?_ | refine Below.alloc ?_ ?_ _ | refine Below.setCell ?_ ?_ _ | refine below_setR ?_ ?_ _ | refine below_dn ?_ _ | refine Below.trans ?_ (below_mo _ _ _ ?_) | refine Below.trans ?_ (below_mq _ _ ?_) | exact Nat.le_refl _) | (simp; done) | (simp; omega) | omega))⟩
end Go.Proofs.Ytbihgnmiocfelaa.X
