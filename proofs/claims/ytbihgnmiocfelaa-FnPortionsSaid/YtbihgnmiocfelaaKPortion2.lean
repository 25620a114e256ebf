/- SimplestPortion of the reference and of the program, and the law. Conditions: none. -/
import Derived.Test.YtbihgnmiocfelaaKPortion
namespace Go.Proofs.Ytbihgnmiocfelaa.X
open Go.RowKit
set_option linter.unusedVariables false
set_option linter.unusedSimpArgs false
set_option maxRecDepth 100000
/-- what SimplestPortion returns -/
def simpV (lp lq hp hq : Int) : Int × Int × Int := if okPo lp lq ∧ okPo hp hq then if lq ≤ 100000 ∧ hq ≤ 100000 then if lp * hq < hp * lq then (sceil lp lq (sQ lp lq hp hq), sQ lp lq hp hq, 0) else (0, 0, 4) else (0, 0, 2) else (0, 0, 1)
set_option maxHeartbeats 4000000 in
theorem implSimplestPortion_any (lp lq hp hq : Int) (w : World) :
    Calls Try.prog 21 #[.agg #[.int .i64 lp, .int .i64 lq], .agg #[.int .i64 hp, .int .i64 hq]] w fun e w' => e = .returned (.tuple #[.agg #[.int .i64 (simpV lp lq hp hq).1, .int .i64 (simpV lp lq hp hq).2.1], .int .i64 (simpV lp lq hp hq).2.2]) ∧ Below w.heap.size w w' := by
  by_cases o1 : okPo lp lq
  · by_cases o2 : okPo hp hq
    · by_cases b1 : lq ≤ 100000
      · by_cases b2 : hq ≤ 100000
        · have hl1 : 0 ≤ lp ∧ lp ≤ 1000000000 := o1.1
          have hl2 : 1 ≤ lq ∧ lq ≤ 100000 := ⟨o1.2.1, b1⟩
          have hl3 : 0 ≤ hp ∧ hp ≤ 1000000000 := o2.1
          have hl4 : 1 ≤ hq ∧ hq ≤ 100000 := ⟨o2.2.1, b2⟩
          have m1 := mul_bd hl1 (⟨by omega, b2⟩ : 0 ≤ hq ∧ hq ≤ 100000)
          have m2 := mul_bd hl3 (⟨by omega, b1⟩ : 0 ≤ lq ∧ lq ≤ 100000)
          by_cases hc : lp * hq < hp * lq
          · have HR : Hid (simpV lp lq hp hq = (sceil lp lq (sQ lp lq hp hq), sQ lp lq hp hq, 0)) := by unfold Hid simpV; rw [if_pos ⟨o1, o2⟩, if_pos ⟨b1, b2⟩, if_pos hc]
            have HO1 := Lib.hid o1
            have HO2 := Lib.hid o2
            have HC := Lib.hid hc
            have M1 := Lib.hid m1
            have M2 := Lib.hid m2
            have HL1 := Lib.hid hl1
            have HL2 := Lib.hid hl2
            have HL3 := Lib.hid hl3
            have HL4 := Lib.hid hl4
            clear o1 o2 hc m1 m2 hl1 hl2 hl3 hl4
            go_enter Try.func21, Try.ntmps21
            go_wp2_with fail
            refine (portionOK_t _ _ _ HO1.out).mono ?_
            rintro e w' ⟨rfl, hb_⟩
            obtain ⟨os1, d1, rfl⟩ := mo_of hb_
            clear hb_
            go_wp2_with fail
            refine (portionOK_t _ _ _ HO2.out).mono ?_
            rintro e w' ⟨rfl, hb_⟩
            obtain ⟨os2, d2, rfl⟩ := mo_of hb_
            clear hb_
            go_wp2_with fail
            refine (portionLess_t lp lq hp hq _ ⟨M1.out.1, by have := M1.out.2; omega⟩ ⟨M2.out.1, by have := M2.out.2; omega⟩ HC.out).mono ?_
            rintro e w' ⟨rfl, hb_⟩
            obtain ⟨os3, d3, rfl⟩ := mo_of hb_
            clear hb_
            go_wp2_with fail
            refine (simplest_any lp lq hp hq _ HL1.out HL2.out HL3.out HL4.out HC.out).mono ?_
            rintro e w' ⟨rfl, hb_⟩
            obtain ⟨os4, d4, rfl⟩ := mo_of hb_
            clear hb_
            go_wp2
            refine bodyPost_ret (v := .tuple #[.agg #[.int .i64 (sceil lp lq (sQ lp lq hp hq)), .int .i64 (sQ lp lq hp hq)], .int .i64 0]) ?_ rfl ⟨by rw [HR.out], (by repeat' (first | (with_reducible first | assumption | exact Below.refl _ _ | refine Below.drew ?_ | refine Below.alloc ?_ ?_ _ | refine Below.setCell ?_ ?_ _ | refine below_setR ?_ ?_ _ | refine below_dn ?_ _ | refine Below.trans ?_ (below_mo _ _ _ ?_) | refine Below.trans ?_ (below_mq _ _ ?_) | exact Nat.le_refl _) | (simp; done) | (simp; omega) | omega))⟩
            simp [results, Try.results21, go_sem]
          · have HR : Hid (simpV lp lq hp hq = (0, 0, 4)) := by unfold Hid simpV; rw [if_pos ⟨o1, o2⟩, if_pos ⟨b1, b2⟩, if_neg hc]
            have HO1 := Lib.hid o1
            have HO2 := Lib.hid o2
            have HC := Lib.hid hc
            have M1 := Lib.hid m1
            have M2 := Lib.hid m2
            clear o1 o2 hc m1 m2 hl1 hl2 hl3 hl4
            go_enter Try.func21, Try.ntmps21
            go_wp2_with fail
            refine (portionOK_t _ _ _ HO1.out).mono ?_
            rintro e w' ⟨rfl, hb_⟩
            obtain ⟨os1, d1, rfl⟩ := mo_of hb_
            clear hb_
            go_wp2_with fail
            refine (portionOK_t _ _ _ HO2.out).mono ?_
            rintro e w' ⟨rfl, hb_⟩
            obtain ⟨os2, d2, rfl⟩ := mo_of hb_
            clear hb_
            go_wp2_with fail
            refine (portionLess_f lp lq hp hq _ ⟨M1.out.1, by have := M1.out.2; omega⟩ ⟨M2.out.1, by have := M2.out.2; omega⟩ (Int.not_lt.2 HC.out)).mono ?_
            rintro e w' ⟨rfl, hb_⟩
            obtain ⟨os3, d3, rfl⟩ := mo_of hb_
            clear hb_
            go_wp2
            refine bodyPost_ret (v := .tuple #[.agg #[.int .i64 0, .int .i64 0], .int .i64 4]) ?_ rfl ⟨by rw [HR.out], (by repeat' (first | (with_reducible first | assumption | exact Below.refl _ _ | refine Below.drew ?_ | refine Below.alloc ?_ ?_ _ | refine Below.setCell ?_ ?_ _ | refine below_setR ?_ ?_ _ | refine below_dn ?_ _ | refine Below.trans ?_ (below_mo _ _ _ ?_) | refine Below.trans ?_ (below_mq _ _ ?_) | exact Nat.le_refl _) | (simp; done) | (simp; omega) | omega))⟩
            simp [results, Try.results21, go_sem]
        · have HR : Hid (simpV lp lq hp hq = (0, 0, 2)) := by unfold Hid simpV; rw [if_pos ⟨o1, o2⟩, if_neg (fun h => b2 h.2)]
          have HO1 := Lib.hid o1
          have HO2 := Lib.hid o2
          have b3 : 100000 < hq := by omega
          clear o1 o2 b2
          go_enter Try.func21, Try.ntmps21
          go_wp2_with fail
          refine (portionOK_t _ _ _ HO1.out).mono ?_
          rintro e w' ⟨rfl, hb_⟩
          obtain ⟨os1, d1, rfl⟩ := mo_of hb_
          clear hb_
          go_wp2_with fail
          refine (portionOK_t _ _ _ HO2.out).mono ?_
          rintro e w' ⟨rfl, hb_⟩
          obtain ⟨os2, d2, rfl⟩ := mo_of hb_
          clear hb_
          go_wp2
          refine bodyPost_ret (v := .tuple #[.agg #[.int .i64 0, .int .i64 0], .int .i64 2]) ?_ rfl ⟨by rw [HR.out], (by repeat' (first | (with_reducible first | assumption | exact Below.refl _ _ | refine Below.drew ?_ | refine Below.alloc ?_ ?_ _ | refine Below.setCell ?_ ?_ _ | refine below_setR ?_ ?_ _ | refine below_dn ?_ _ | refine Below.trans ?_ (below_mo _ _ _ ?_) | refine Below.trans ?_ (below_mq _ _ ?_) | exact Nat.le_refl _) | (simp; done) | (simp; omega) | omega))⟩
          simp [results, Try.results21, go_sem]
      · have HR : Hid (simpV lp lq hp hq = (0, 0, 2)) := by unfold Hid simpV; rw [if_pos ⟨o1, o2⟩, if_neg (fun h => b1 h.1)]
        have HO1 := Lib.hid o1
        have HO2 := Lib.hid o2
        have b3 : 100000 < lq := by omega
        clear o1 o2 b1
        go_enter Try.func21, Try.ntmps21
        go_wp2_with fail
        refine (portionOK_t _ _ _ HO1.out).mono ?_
        rintro e w' ⟨rfl, hb_⟩
        obtain ⟨os1, d1, rfl⟩ := mo_of hb_
        clear hb_
        go_wp2_with fail
        refine (portionOK_t _ _ _ HO2.out).mono ?_
        rintro e w' ⟨rfl, hb_⟩
        obtain ⟨os2, d2, rfl⟩ := mo_of hb_
        clear hb_
        go_wp2
        refine bodyPost_ret (v := .tuple #[.agg #[.int .i64 0, .int .i64 0], .int .i64 2]) ?_ rfl ⟨by rw [HR.out], (by repeat' (first | (with_reducible first | assumption | exact Below.refl _ _ | refine Below.drew ?_ | refine Below.alloc ?_ ?_ _ | refine Below.setCell ?_ ?_ _ | refine below_setR ?_ ?_ _ | refine below_dn ?_ _ | refine Below.trans ?_ (below_mo _ _ _ ?_) | refine Below.trans ?_ (below_mq _ _ ?_) | exact Nat.le_refl _) | (simp; done) | (simp; omega) | omega))⟩
        simp [results, Try.results21, go_sem]
    · have HR : Hid (simpV lp lq hp hq = (0, 0, 1)) := by unfold Hid simpV; rw [if_neg (fun h => o2 h.2)]
      have HO1 := Lib.hid o1
      have HO2 := Lib.hid o2
      clear o1 o2
      go_enter Try.func21, Try.ntmps21
      go_wp2_with fail
      refine (portionOK_t _ _ _ HO1.out).mono ?_
      rintro e w' ⟨rfl, hb_⟩
      obtain ⟨os1, d1, rfl⟩ := mo_of hb_
      clear hb_
      go_wp2_with fail
      refine (portionOK_f _ _ _ HO2.out).mono ?_
      rintro e w' ⟨rfl, hb_⟩
      obtain ⟨os2, d2, rfl⟩ := mo_of hb_
      clear hb_
      go_wp2
      refine bodyPost_ret (v := .tuple #[.agg #[.int .i64 0, .int .i64 0], .int .i64 1]) ?_ rfl ⟨by rw [HR.out], (by repeat' (first | (with_reducible first | assumption | exact Below.refl _ _ | refine Below.drew ?_ | refine Below.alloc ?_ ?_ _ | refine Below.setCell ?_ ?_ _ | refine below_setR ?_ ?_ _ | refine below_dn ?_ _ | refine Below.trans ?_ (below_mo _ _ _ ?_) | refine Below.trans ?_ (below_mq _ _ ?_) | exact Nat.le_refl _) | (simp; done) | (simp; omega) | omega))⟩
      simp [results, Try.results21, go_sem]
  · have HR : Hid (simpV lp lq hp hq = (0, 0, 1)) := by unfold Hid simpV; rw [if_neg (fun h => o1 h.1)]
    have HO1 := Lib.hid o1
    clear o1
    go_enter Try.func21, Try.ntmps21
    go_wp2_with fail
    refine (portionOK_f _ _ _ HO1.out).mono ?_
    rintro e w' ⟨rfl, hb_⟩
    obtain ⟨os1, d1, rfl⟩ := mo_of hb_
    clear hb_
    go_wp2
    refine bodyPost_ret (v := .tuple #[.agg #[.int .i64 0, .int .i64 0], .int .i64 1]) ?_ rfl ⟨by rw [HR.out], (by repeat' (first | (with_reducible first | assumption | exact Below.refl _ _ | refine Below.drew ?_ | refine Below.alloc ?_ ?_ _ | refine Below.setCell ?_ ?_ _ | refine below_setR ?_ ?_ _ | refine below_dn ?_ _ | refine Below.trans ?_ (below_mo _ _ _ ?_) | refine Below.trans ?_ (below_mq _ _ ?_) | exact Nat.le_refl _) | (simp; done) | (simp; omega) | omega))⟩
    simp [results, Try.results21, go_sem]
end Go.Proofs.Ytbihgnmiocfelaa.X
