/- WrongWheels and WorstRead, both answers. Conditions: none. -/
import Derived.Test.YtinjlofefmjolaaKWrong2
namespace Go.Proofs.Ytinjlofefmjolaa.X
open Go.RowKit
set_option linter.unusedVariables false
set_option linter.unusedSimpArgs false
set_option maxRecDepth 100000
theorem isEye_any (eye : Int) (w : World) : Calls Try.prog 79 #[.int .i64 eye] w fun e w' => e = .returned (.bool (inR eye 0 1)) ∧ w = w' := by
  by_cases h0 : eye = 0
  · subst h0
    go_enter Try.func79, Try.ntmps79
    go_wp2
    go_ret
    exact ⟨rfl, rfl⟩
  · by_cases h1 : eye = 1
    · subst h1
      go_enter Try.func79, Try.ntmps79
      go_wp2
      go_ret
      exact ⟨rfl, rfl⟩
    · have HR : Hid (inR eye 0 1 = false) := inR_f.2 (by omega)
      have b0 : (eye == 0) = false := beq_eq_false_iff_ne.2 h0
      have b1 : (eye == 1) = false := beq_eq_false_iff_ne.2 h1
      go_enter Try.func79, Try.ntmps79
      go_wp2
      go_ret
      exact ⟨by rw [HR.out]; rfl, rfl⟩
theorem l02Eye_any (eye : Int) (w : World) : Calls Try.prog 81 #[.int .i64 eye] w fun e w' => e = .returned (.bool (inR eye 0 1)) ∧ w = w' := by
  go_enter Try.func81, Try.ntmps81
  go_wp2_with (go_at_call 58; refine (l00In_ok _ _ _ _).mono ?_; rintro e w' ⟨rfl, rfl⟩)
  go_ret
  exact ⟨rfl, rfl⟩
def wwC (xs : List Int) (js : List (Int × Int)) (t eye : Int) : Int := if askO xs js t = 0 then if inR eye 0 1 then 0 else 2 else askO xs js t
def wwL (xs : List Int) (js : List (Int × Int)) (t eye : Int) : List Int := if wwC xs js t eye = 0 then flt (wrF xs js t eye) xs.length else []
theorem wwC_a {xs : List Int} {js : List (Int × Int)} {t eye : Int} (h : ¬ askO xs js t = 0) : wwC xs js t eye = askO xs js t := by unfold wwC; rw [if_neg h]
theorem wwC_e {xs : List Int} {js : List (Int × Int)} {t eye : Int} (h : askO xs js t = 0) (g : inR eye 0 1 = false) : wwC xs js t eye = 2 := by unfold wwC; rw [if_pos h, g]; rfl
theorem wwC_0 {xs : List Int} {js : List (Int × Int)} {t eye : Int} (h : askO xs js t = 0) (g : inR eye 0 1 = true) : wwC xs js t eye = 0 := by unfold wwC; rw [if_pos h, g]; rfl
theorem wwL_no {xs : List Int} {js : List (Int × Int)} {t eye : Int} (h : ¬ wwC xs js t eye = 0) : wwL xs js t eye = [] := by unfold wwL; rw [if_neg h]
theorem wwL_0 {xs : List Int} {js : List (Int × Int)} {t eye : Int} (h : wwC xs js t eye = 0) : wwL xs js t eye = flt (wrF xs js t eye) xs.length := by unfold wwL; rw [if_pos h]
theorem wwL_len (xs : List Int) (js : List (Int × Int)) (t eye : Int) (h : xs.length ≤ 1048576) : (wwL xs js t eye).length ≤ 1048576 := by
  unfold wwL
  split
  · exact Nat.le_trans (flt_len _ _) h
  · exact Nat.zero_le _
set_option maxHeartbeats 2000000 in
theorem implWrong_any {A : Option Addr} {xs : List Int} {W : World} {B : Nat} (hs : Nums .u8 W B A xs) (h8 : b8 xs) (c : Nat) {L : Option Addr} {js : List (Int × Int)} {V : World} {C : Nat} (hl : Prs .i8 .i16 V C L js) (hj : j8 js) (cl : Nat) (w : World) (hb : Below B W w) (hv : Below C V w) (t eye : Int) : Calls Try.prog 38 #[.agg #[.slice A xs.length c, .slice L js.length cl], .int .i64 t, .int .i64 eye] w (RetL (wwL xs js t eye) (wwC xs js t eye) w) := by
  have hB := hs.bsz hb
  have hC := hl.bsz hv
  cases h1 : okO xs js
  · have HR : Hid (wwC xs js t eye = 1) := by unfold Hid; rw [wwC_a (by rw [askO_1 h1]; omega), askO_1 h1]
    have HV := Lib.hid (wwL_no (eye := eye) (t := t) (show ¬ wwC xs js t eye = 0 by rw [HR.out]; omega))
    go_enter Try.func38, Try.ntmps38
    go_wp2_with (go_at_call 70; refine (ValidMotion_any hs h8 _ hl hj _ _ (by repeat' (first | (with_reducible first | assumption | exact Below.refl _ _ | refine Below.drew ?_ | refine Below.alloc ?_ ?_ _ | refine Below.setCell ?_ ?_ _ | refine below_setR ?_ ?_ _ | refine below_dn ?_ _ | refine Below.trans ?_ (below_mo _ _ _ ?_) | refine Below.trans ?_ (below_mq _ _ ?_) | exact Nat.le_refl _) | (simp; done) | (simp; omega) | omega)) (by repeat' (first | (with_reducible first | assumption | exact Below.refl _ _ | refine Below.drew ?_ | refine Below.alloc ?_ ?_ _ | refine Below.setCell ?_ ?_ _ | refine below_setR ?_ ?_ _ | refine below_dn ?_ _ | refine Below.trans ?_ (below_mo _ _ _ ?_) | refine Below.trans ?_ (below_mq _ _ ?_) | exact Nat.le_refl _) | (simp; done) | (simp; omega) | omega))).mono ?_; rintro e w' ⟨rfl, hb_⟩; obtain ⟨os_, d_, rfl⟩ := mo_of hb_; clear hb_)
    go_returns
    exact ⟨.slice none 0 0, by rw [HR.out]; rfl, by rw [HV.out]; exact World.ownsRow_nil _ _ _ _, (by repeat' (first | (with_reducible first | assumption | exact Below.refl _ _ | refine Below.drew ?_ | refine Below.alloc ?_ ?_ _ | refine Below.setCell ?_ ?_ _ | refine below_setR ?_ ?_ _ | refine below_dn ?_ _ | refine Below.trans ?_ (below_mo _ _ _ ?_) | refine Below.trans ?_ (below_mq _ _ ?_) | exact Nat.le_refl _) | (simp; done) | (simp; omega) | omega))⟩
  · cases h2 : inR t 0 (szS xs * 1000 - 1)
    · have HR : Hid (wwC xs js t eye = 2) := by unfold Hid; rw [wwC_a (by rw [askO_2 h1 h2]; omega), askO_2 h1 h2]
      have HV := Lib.hid (wwL_no (eye := eye) (t := t) (show ¬ wwC xs js t eye = 0 by rw [HR.out]; omega))
      go_enter Try.func38, Try.ntmps38
      go_wp2_with (first | (go_at_call 70; refine (ValidMotion_any hs h8 _ hl hj _ _ (by repeat' (first | (with_reducible first | assumption | exact Below.refl _ _ | refine Below.drew ?_ | refine Below.alloc ?_ ?_ _ | refine Below.setCell ?_ ?_ _ | refine below_setR ?_ ?_ _ | refine below_dn ?_ _ | refine Below.trans ?_ (below_mo _ _ _ ?_) | refine Below.trans ?_ (below_mq _ _ ?_) | exact Nat.le_refl _) | (simp; done) | (simp; omega) | omega)) (by repeat' (first | (with_reducible first | assumption | exact Below.refl _ _ | refine Below.drew ?_ | refine Below.alloc ?_ ?_ _ | refine Below.setCell ?_ ?_ _ | refine below_setR ?_ ?_ _ | refine below_dn ?_ _ | refine Below.trans ?_ (below_mo _ _ _ ?_) | refine Below.trans ?_ (below_mq _ _ ?_) | exact Nat.le_refl _) | (simp; done) | (simp; omega) | omega))).mono ?_; rintro e w' ⟨rfl, hb_⟩; obtain ⟨os_, d_, rfl⟩ := mo_of hb_; clear hb_) | (go_at_call 83; refine (hasTurn_any hs h8 c hl hj cl _ (by repeat' (first | (with_reducible first | assumption | exact Below.refl _ _ | refine Below.drew ?_ | refine Below.alloc ?_ ?_ _ | refine Below.setCell ?_ ?_ _ | refine below_setR ?_ ?_ _ | refine below_dn ?_ _ | refine Below.trans ?_ (below_mo _ _ _ ?_) | refine Below.trans ?_ (below_mq _ _ ?_) | exact Nat.le_refl _) | (simp; done) | (simp; omega) | omega)) (by repeat' (first | (with_reducible first | assumption | exact Below.refl _ _ | refine Below.drew ?_ | refine Below.alloc ?_ ?_ _ | refine Below.setCell ?_ ?_ _ | refine below_setR ?_ ?_ _ | refine below_dn ?_ _ | refine Below.trans ?_ (below_mo _ _ _ ?_) | refine Below.trans ?_ (below_mq _ _ ?_) | exact Nat.le_refl _) | (simp; done) | (simp; omega) | omega)) _ (by first | assumption | (simp [go_sem]; done) | (simp [go_sem, *]; done) | (simp [go_sem]; rfl)) (by first | assumption | (simp [go_sem]; done) | (simp [go_sem, *]; done) | (simp [go_sem]; rfl)) _).mono ?_; rintro e w' ⟨rfl, rfl⟩))
      go_returns
      exact ⟨.slice none 0 0, by rw [HR.out]; rfl, by rw [HV.out]; exact World.ownsRow_nil _ _ _ _, (by repeat' (first | (with_reducible first | assumption | exact Below.refl _ _ | refine Below.drew ?_ | refine Below.alloc ?_ ?_ _ | refine Below.setCell ?_ ?_ _ | refine below_setR ?_ ?_ _ | refine below_dn ?_ _ | refine Below.trans ?_ (below_mo _ _ _ ?_) | refine Below.trans ?_ (below_mq _ _ ?_) | exact Nat.le_refl _) | (simp; done) | (simp; omega) | omega))⟩
    · cases h3 : inR eye 0 1
      · have HR : Hid (wwC xs js t eye = 2) := wwC_e (askO_0 h1 h2) h3
        have HV := Lib.hid (wwL_no (eye := eye) (t := t) (show ¬ wwC xs js t eye = 0 by rw [HR.out]; omega))
        go_enter Try.func38, Try.ntmps38
        go_wp2_with (first | (go_at_call 70; refine (ValidMotion_any hs h8 _ hl hj _ _ (by repeat' (first | (with_reducible first | assumption | exact Below.refl _ _ | refine Below.drew ?_ | refine Below.alloc ?_ ?_ _ | refine Below.setCell ?_ ?_ _ | refine below_setR ?_ ?_ _ | refine below_dn ?_ _ | refine Below.trans ?_ (below_mo _ _ _ ?_) | refine Below.trans ?_ (below_mq _ _ ?_) | exact Nat.le_refl _) | (simp; done) | (simp; omega) | omega)) (by repeat' (first | (with_reducible first | assumption | exact Below.refl _ _ | refine Below.drew ?_ | refine Below.alloc ?_ ?_ _ | refine Below.setCell ?_ ?_ _ | refine below_setR ?_ ?_ _ | refine below_dn ?_ _ | refine Below.trans ?_ (below_mo _ _ _ ?_) | refine Below.trans ?_ (below_mq _ _ ?_) | exact Nat.le_refl _) | (simp; done) | (simp; omega) | omega))).mono ?_; rintro e w' ⟨rfl, hb_⟩; obtain ⟨os_, d_, rfl⟩ := mo_of hb_; clear hb_) | (go_at_call 83; refine (hasTurn_any hs h8 c hl hj cl _ (by repeat' (first | (with_reducible first | assumption | exact Below.refl _ _ | refine Below.drew ?_ | refine Below.alloc ?_ ?_ _ | refine Below.setCell ?_ ?_ _ | refine below_setR ?_ ?_ _ | refine below_dn ?_ _ | refine Below.trans ?_ (below_mo _ _ _ ?_) | refine Below.trans ?_ (below_mq _ _ ?_) | exact Nat.le_refl _) | (simp; done) | (simp; omega) | omega)) (by repeat' (first | (with_reducible first | assumption | exact Below.refl _ _ | refine Below.drew ?_ | refine Below.alloc ?_ ?_ _ | refine Below.setCell ?_ ?_ _ | refine below_setR ?_ ?_ _ | refine below_dn ?_ _ | refine Below.trans ?_ (below_mo _ _ _ ?_) | refine Below.trans ?_ (below_mq _ _ ?_) | exact Nat.le_refl _) | (simp; done) | (simp; omega) | omega)) _ (by first | assumption | (simp [go_sem]; done) | (simp [go_sem, *]; done) | (simp [go_sem]; rfl)) (by first | assumption | (simp [go_sem]; done) | (simp [go_sem, *]; done) | (simp [go_sem]; rfl)) _).mono ?_; rintro e w' ⟨rfl, rfl⟩) | (go_at_call 79; refine (isEye_any _ _).mono ?_; rintro e w' ⟨rfl, rfl⟩))
        go_returns
        exact ⟨.slice none 0 0, by rw [HR.out]; rfl, by rw [HV.out]; exact World.ownsRow_nil _ _ _ _, (by repeat' (first | (with_reducible first | assumption | exact Below.refl _ _ | refine Below.drew ?_ | refine Below.alloc ?_ ?_ _ | refine Below.setCell ?_ ?_ _ | refine below_setR ?_ ?_ _ | refine below_dn ?_ _ | refine Below.trans ?_ (below_mo _ _ _ ?_) | refine Below.trans ?_ (below_mq _ _ ?_) | exact Nat.le_refl _) | (simp; done) | (simp; omega) | omega))⟩
      · have HR : Hid (wwC xs js t eye = 0) := wwC_0 (askO_0 h1 h2) h3
        have HV := Lib.hid (wwL_0 HR.out)
        have HK := Lib.hid h1
        have HI := Lib.hid h2
        go_enter Try.func38, Try.ntmps38
        go_wp2_with (first | (go_at_call 70; refine (ValidMotion_any hs h8 _ hl hj _ _ (by repeat' (first | (with_reducible first | assumption | exact Below.refl _ _ | refine Below.drew ?_ | refine Below.alloc ?_ ?_ _ | refine Below.setCell ?_ ?_ _ | refine below_setR ?_ ?_ _ | refine below_dn ?_ _ | refine Below.trans ?_ (below_mo _ _ _ ?_) | refine Below.trans ?_ (below_mq _ _ ?_) | exact Nat.le_refl _) | (simp; done) | (simp; omega) | omega)) (by repeat' (first | (with_reducible first | assumption | exact Below.refl _ _ | refine Below.drew ?_ | refine Below.alloc ?_ ?_ _ | refine Below.setCell ?_ ?_ _ | refine below_setR ?_ ?_ _ | refine below_dn ?_ _ | refine Below.trans ?_ (below_mo _ _ _ ?_) | refine Below.trans ?_ (below_mq _ _ ?_) | exact Nat.le_refl _) | (simp; done) | (simp; omega) | omega))).mono ?_; rintro e w' ⟨rfl, hb_⟩; obtain ⟨os_, d_, rfl⟩ := mo_of hb_; clear hb_) | (go_at_call 83; refine (hasTurn_any hs h8 c hl hj cl _ (by repeat' (first | (with_reducible first | assumption | exact Below.refl _ _ | refine Below.drew ?_ | refine Below.alloc ?_ ?_ _ | refine Below.setCell ?_ ?_ _ | refine below_setR ?_ ?_ _ | refine below_dn ?_ _ | refine Below.trans ?_ (below_mo _ _ _ ?_) | refine Below.trans ?_ (below_mq _ _ ?_) | exact Nat.le_refl _) | (simp; done) | (simp; omega) | omega)) (by repeat' (first | (with_reducible first | assumption | exact Below.refl _ _ | refine Below.drew ?_ | refine Below.alloc ?_ ?_ _ | refine Below.setCell ?_ ?_ _ | refine below_setR ?_ ?_ _ | refine below_dn ?_ _ | refine Below.trans ?_ (below_mo _ _ _ ?_) | refine Below.trans ?_ (below_mq _ _ ?_) | exact Nat.le_refl _) | (simp; done) | (simp; omega) | omega)) _ (by first | assumption | (simp [go_sem]; done) | (simp [go_sem, *]; done) | (simp [go_sem]; rfl)) (by first | assumption | (simp [go_sem]; done) | (simp [go_sem, *]; done) | (simp [go_sem]; rfl)) _).mono ?_; rintro e w' ⟨rfl, rfl⟩) | (go_at_call 79; refine (isEye_any _ _).mono ?_; rintro e w' ⟨rfl, rfl⟩))
        refine (wrong_any hs h8 c hl hj cl _ (by repeat' (first | (with_reducible first | assumption | exact Below.refl _ _ | refine Below.drew ?_ | refine Below.alloc ?_ ?_ _ | refine Below.setCell ?_ ?_ _ | refine below_setR ?_ ?_ _ | refine below_dn ?_ _ | refine Below.trans ?_ (below_mo _ _ _ ?_) | refine Below.trans ?_ (below_mq _ _ ?_) | exact Nat.le_refl _) | (simp; done) | (simp; omega) | omega)) (by repeat' (first | (with_reducible first | assumption | exact Below.refl _ _ | refine Below.drew ?_ | refine Below.alloc ?_ ?_ _ | refine Below.setCell ?_ ?_ _ | refine below_setR ?_ ?_ _ | refine below_dn ?_ _ | refine Below.trans ?_ (below_mo _ _ _ ?_) | refine Below.trans ?_ (below_mq _ _ ?_) | exact Nat.le_refl _) | (simp; done) | (simp; omega) | omega)) _ (by first | assumption | (simp [go_sem]; done) | (simp [go_sem, *]; done) | (simp [go_sem]; rfl)) (by first | assumption | (simp [go_sem]; done) | (simp [go_sem, *]; done) | (simp [go_sem]; rfl)) t eye HK.out HI.out).mono ?_
        rintro e w' ⟨v, rfl, own, hb_⟩
        have hz := hb_.size
        simp at hz
        go_wp2
        go_returns
        exact ⟨v, by rw [HR.out]; rfl, by rw [HV.out]; exact own_base own (by first | (simp; done) | (simp; omega)), below_step (by repeat' (first | (with_reducible first | assumption | exact Below.refl _ _ | refine Below.drew ?_ | refine Below.alloc ?_ ?_ _ | refine Below.setCell ?_ ?_ _ | refine below_setR ?_ ?_ _ | refine below_dn ?_ _ | refine Below.trans ?_ (below_mo _ _ _ ?_) | refine Below.trans ?_ (below_mq _ _ ?_) | exact Nat.le_refl _) | (simp; done) | (simp; omega) | omega)) hb_ (by first | (simp; done) | (simp; omega))⟩
end Go.Proofs.Ytinjlofefmjolaa.X
