/- Turns of motions; the right digits. Conditions: none. -/
import Derived.Test.YtinjlofefmjolaaKMot
namespace Go.Proofs.Ytinjlofefmjolaa.X
open Go.RowKit
set_option linter.unusedVariables false
set_option linter.unusedSimpArgs false
set_option maxRecDepth 100000
/-- the code of a motion and a turn -/
def askO (xs : List Int) (js : List (Int × Int)) (t : Int) : Int := if okO xs js then if inR t 0 (szS xs * 1000 - 1) then 0 else 2 else 1
theorem askO_1 {xs : List Int} {js : List (Int × Int)} {t : Int} (h : okO xs js = false) : askO xs js t = 1 := by unfold askO; rw [h]; rfl
theorem askO_2 {xs : List Int} {js : List (Int × Int)} {t : Int} (h : okO xs js = true) (g : inR t 0 (szS xs * 1000 - 1) = false) : askO xs js t = 2 := by unfold askO; rw [h, g]; rfl
theorem askO_0 {xs : List Int} {js : List (Int × Int)} {t : Int} (h : okO xs js = true) (g : inR t 0 (szS xs * 1000 - 1) = true) : askO xs js t = 0 := by unfold askO; rw [h, g]; rfl
theorem turn_bd {xs : List Int} {js : List (Int × Int)} {t : Int} (h : okO xs js = true) (g : inR t 0 (szS xs * 1000 - 1) = true) : (0 ≤ t ∧ t ≤ 1000000000000000) ∧ 0 ≤ t / 1000 ∧ t / 1000 ≤ szS xs - 1 := by
  have h1 := inR_t.1 g
  have h2 := szS_bd (okO_parts h).1
  omega
theorem span_any {A : Option Addr} {xs : List Int} {W : World} {B : Nat} (hs : Nums .u8 W B A xs) (h8 : b8 xs) (c : Nat) {L : Option Addr} {js : List (Int × Int)} {V : World} {C : Nat} (hl : Prs .i8 .i16 V C L js) (hj : j8 js) (cl : Nat) (w : World) (hb : Below B W w) (hv : Below C V w) (g : Nat) (k0 : w.cell? ⟨g, 0, none⟩ = some (.slice A xs.length c)) (k1 : w.cell? ⟨g, 1, none⟩ = some (.slice L js.length cl)) : Calls Try.prog 106 #[.pointer (some ⟨g, 0, none⟩)] w fun e w' => e = .returned (.int .i64 (szS xs * 1000)) ∧ w = w' := by
  have hB := hs.bsz hb
  have z0 := sizeTo_bd h8 xs.length
  go_enter Try.func106, Try.ntmps106
  go_wp2_with (go_at_call 112; refine (size_any hs h8 _ _ rfl _ (by repeat' (first | (with_reducible first | assumption | exact Below.refl _ _ | refine Below.drew ?_ | refine Below.alloc ?_ ?_ _ | refine Below.setCell ?_ ?_ _ | refine below_setR ?_ ?_ _ | refine below_dn ?_ _ | refine Below.trans ?_ (below_mo _ _ _ ?_) | refine Below.trans ?_ (below_mq _ _ ?_) | exact Nat.le_refl _) | (simp; done) | (simp; omega) | omega))).mono ?_; rintro e w' ⟨rfl, rfl⟩)
  go_ret
  exact ⟨rfl, rfl⟩
theorem hasTurn_any {A : Option Addr} {xs : List Int} {W : World} {B : Nat} (hs : Nums .u8 W B A xs) (h8 : b8 xs) (c : Nat) {L : Option Addr} {js : List (Int × Int)} {V : World} {C : Nat} (hl : Prs .i8 .i16 V C L js) (hj : j8 js) (cl : Nat) (w : World) (hb : Below B W w) (hv : Below C V w) (g : Nat) (k0 : w.cell? ⟨g, 0, none⟩ = some (.slice A xs.length c)) (k1 : w.cell? ⟨g, 1, none⟩ = some (.slice L js.length cl)) (t : Int) : Calls Try.prog 83 #[.pointer (some ⟨g, 0, none⟩), .int .i64 t] w fun e w' => e = .returned (.bool (inR t 0 (szS xs * 1000 - 1))) ∧ w = w' := by
  have hB := hs.bsz hb
  have z0 : 0 ≤ szS xs ∧ szS xs ≤ 1000000000001 := sizeTo_bd h8 xs.length
  go_enter Try.func83, Try.ntmps83
  go_wp2_with (first | (go_at_call 106; refine (span_any hs h8 _ hl hj _ _ hb hv _ k0 k1).mono ?_; rintro e w' ⟨rfl, rfl⟩) | (go_at_call 44; refine (within_ok _ _ _ _).mono ?_; rintro e w' ⟨rfl, rfl⟩))
  go_ret
  exact ⟨rfl, rfl⟩
theorem l02Span_any {A : Option Addr} {xs : List Int} {W : World} {B : Nat} (hs : Nums .u8 W B A xs) (h8 : b8 xs) (c : Nat) {L : Option Addr} {js : List (Int × Int)} {V : World} {C : Nat} (hl : Prs .i8 .i16 V C L js) (hj : j8 js) (cl : Nat) (w : World) (hb : Below B W w) (hv : Below C V w) (g : Nat) (k0 : w.cell? ⟨g, 0, none⟩ = some (.slice A xs.length c)) (k1 : w.cell? ⟨g, 1, none⟩ = some (.slice L js.length cl)) (hk : okS xs = true) : Calls Try.prog 65 #[.pointer (some ⟨g, 0, none⟩)] w fun e w' => e = .returned (.int .i64 (szS xs * 1000)) ∧ w = w' := by
  have hB := hs.bsz hb
  have z0 := sizeTo_bd h8 xs.length
  have HK := Lib.hid hk
  clear hk
  go_enter Try.func65, Try.ntmps65
  go_wp2_with (go_at_call 95; refine (specSizeOf_any hs h8 _ _ rfl _ (by repeat' (first | (with_reducible first | assumption | exact Below.refl _ _ | refine Below.drew ?_ | refine Below.alloc ?_ ?_ _ | refine Below.setCell ?_ ?_ _ | refine below_setR ?_ ?_ _ | refine below_dn ?_ _ | refine Below.trans ?_ (below_mo _ _ _ ?_) | refine Below.trans ?_ (below_mq _ _ ?_) | exact Nat.le_refl _) | (simp; done) | (simp; omega) | omega)) HK.out).mono ?_; rintro e w' ⟨rfl, rfl⟩)
  go_ret
  exact ⟨rfl, rfl⟩
set_option maxHeartbeats 1000000 in
theorem l02Asked_any {A : Option Addr} {xs : List Int} {W : World} {B : Nat} (hs : Nums .u8 W B A xs) (h8 : b8 xs) (c : Nat) {L : Option Addr} {js : List (Int × Int)} {V : World} {C : Nat} (hl : Prs .i8 .i16 V C L js) (hj : j8 js) (cl : Nat) (w : World) (hb : Below B W w) (hv : Below C V w) (g : Nat) (k0 : w.cell? ⟨g, 0, none⟩ = some (.slice A xs.length c)) (k1 : w.cell? ⟨g, 1, none⟩ = some (.slice L js.length cl)) (t : Int) : Calls Try.prog 67 #[.pointer (some ⟨g, 0, none⟩), .int .i64 t] w fun e w' => e = .returned (.int .i64 (askO xs js t)) ∧ Below w.heap.size w w' := by
  have hB := hs.bsz hb
  have hC := hl.bsz hv
  have hg : g < w.heap.size := block_lt_of_cell k0
  have z0 : 0 ≤ szS xs ∧ szS xs ≤ 1000000000001 := sizeTo_bd h8 xs.length
  cases h1 : okO xs js
  · have HR := Lib.hid (askO_1 (t := t) h1)
    go_enter Try.func67, Try.ntmps67
    go_wp2_with (go_at_call 75; refine (l02Ok_any hs h8 c hl hj cl _ (by repeat' (first | (with_reducible first | assumption | exact Below.refl _ _ | refine Below.drew ?_ | refine Below.alloc ?_ ?_ _ | refine Below.setCell ?_ ?_ _ | refine below_setR ?_ ?_ _ | refine below_dn ?_ _ | refine Below.trans ?_ (below_mo _ _ _ ?_) | refine Below.trans ?_ (below_mq _ _ ?_) | exact Nat.le_refl _) | (simp; done) | (simp; omega) | omega)) (by repeat' (first | (with_reducible first | assumption | exact Below.refl _ _ | refine Below.drew ?_ | refine Below.alloc ?_ ?_ _ | refine Below.setCell ?_ ?_ _ | refine below_setR ?_ ?_ _ | refine below_dn ?_ _ | refine Below.trans ?_ (below_mo _ _ _ ?_) | refine Below.trans ?_ (below_mq _ _ ?_) | exact Nat.le_refl _) | (simp; done) | (simp; omega) | omega)) _ (by first | assumption | (simp [go_sem]; done) | (simp [go_sem, *]; done) | (simp [go_sem]; rfl)) (by first | assumption | (simp [go_sem]; done) | (simp [go_sem, *]; done) | (simp [go_sem]; rfl))).mono ?_; rintro e w' ⟨rfl, hb_⟩; obtain ⟨os_, d_, rfl⟩ := mo_of hb_; clear hb_)
    go_ret
    exact ⟨(by first | (rw [HR.out]; done) | (rw [HR.out]; rfl)), (by repeat' (first | (with_reducible first | assumption | exact Below.refl _ _ | refine Below.drew ?_ | refine Below.alloc ?_ ?_ _ | refine Below.setCell ?_ ?_ _ | refine below_setR ?_ ?_ _ | refine below_dn ?_ _ | refine Below.trans ?_ (below_mo _ _ _ ?_) | refine Below.trans ?_ (below_mq _ _ ?_) | exact Nat.le_refl _) | (simp; done) | (simp; omega) | omega))⟩
  · have HK := Lib.hid (okO_parts h1).1
    cases h2 : inR t 0 (szS xs * 1000 - 1)
    · have HR := Lib.hid (askO_2 h1 h2)
      go_enter Try.func67, Try.ntmps67
      go_wp2_with (first | (go_at_call 75; refine (l02Ok_any hs h8 c hl hj cl _ (by repeat' (first | (with_reducible first | assumption | exact Below.refl _ _ | refine Below.drew ?_ | refine Below.alloc ?_ ?_ _ | refine Below.setCell ?_ ?_ _ | refine below_setR ?_ ?_ _ | refine below_dn ?_ _ | refine Below.trans ?_ (below_mo _ _ _ ?_) | refine Below.trans ?_ (below_mq _ _ ?_) | exact Nat.le_refl _) | (simp; done) | (simp; omega) | omega)) (by repeat' (first | (with_reducible first | assumption | exact Below.refl _ _ | refine Below.drew ?_ | refine Below.alloc ?_ ?_ _ | refine Below.setCell ?_ ?_ _ | refine below_setR ?_ ?_ _ | refine below_dn ?_ _ | refine Below.trans ?_ (below_mo _ _ _ ?_) | refine Below.trans ?_ (below_mq _ _ ?_) | exact Nat.le_refl _) | (simp; done) | (simp; omega) | omega)) _ (by first | assumption | (simp [go_sem]; done) | (simp [go_sem, *]; done) | (simp [go_sem]; rfl)) (by first | assumption | (simp [go_sem]; done) | (simp [go_sem, *]; done) | (simp [go_sem]; rfl))).mono ?_; rintro e w' ⟨rfl, hb_⟩; obtain ⟨os_, d_, rfl⟩ := mo_of hb_; clear hb_) | (go_at_call 65; refine (l02Span_any hs h8 c hl hj cl _ (by repeat' (first | (with_reducible first | assumption | exact Below.refl _ _ | refine Below.drew ?_ | refine Below.alloc ?_ ?_ _ | refine Below.setCell ?_ ?_ _ | refine below_setR ?_ ?_ _ | refine below_dn ?_ _ | refine Below.trans ?_ (below_mo _ _ _ ?_) | refine Below.trans ?_ (below_mq _ _ ?_) | exact Nat.le_refl _) | (simp; done) | (simp; omega) | omega)) (by repeat' (first | (with_reducible first | assumption | exact Below.refl _ _ | refine Below.drew ?_ | refine Below.alloc ?_ ?_ _ | refine Below.setCell ?_ ?_ _ | refine below_setR ?_ ?_ _ | refine below_dn ?_ _ | refine Below.trans ?_ (below_mo _ _ _ ?_) | refine Below.trans ?_ (below_mq _ _ ?_) | exact Nat.le_refl _) | (simp; done) | (simp; omega) | omega)) _ (by first | assumption | (simp [go_sem]; done) | (simp [go_sem, *]; done) | (simp [go_sem]; rfl)) (by first | assumption | (simp [go_sem]; done) | (simp [go_sem, *]; done) | (simp [go_sem]; rfl)) HK.out).mono ?_; rintro e w' ⟨rfl, rfl⟩) | (go_at_call 58; refine (l00In_ok _ _ _ _).mono ?_; rintro e w' ⟨rfl, rfl⟩))
      go_ret
      exact ⟨(by first | (rw [HR.out]; done) | (rw [HR.out]; rfl)), (by repeat' (first | (with_reducible first | assumption | exact Below.refl _ _ | refine Below.drew ?_ | refine Below.alloc ?_ ?_ _ | refine Below.setCell ?_ ?_ _ | refine below_setR ?_ ?_ _ | refine below_dn ?_ _ | refine Below.trans ?_ (below_mo _ _ _ ?_) | refine Below.trans ?_ (below_mq _ _ ?_) | exact Nat.le_refl _) | (simp; done) | (simp; omega) | omega))⟩
    · have HR := Lib.hid (askO_0 h1 h2)
      go_enter Try.func67, Try.ntmps67
      go_wp2_with (first | (go_at_call 75; refine (l02Ok_any hs h8 c hl hj cl _ (by repeat' (first | (with_reducible first | assumption | exact Below.refl _ _ | refine Below.drew ?_ | refine Below.alloc ?_ ?_ _ | refine Below.setCell ?_ ?_ _ | refine below_setR ?_ ?_ _ | refine below_dn ?_ _ | refine Below.trans ?_ (below_mo _ _ _ ?_) | refine Below.trans ?_ (below_mq _ _ ?_) | exact Nat.le_refl _) | (simp; done) | (simp; omega) | omega)) (by repeat' (first | (with_reducible first | assumption | exact Below.refl _ _ | refine Below.drew ?_ | refine Below.alloc ?_ ?_ _ | refine Below.setCell ?_ ?_ _ | refine below_setR ?_ ?_ _ | refine below_dn ?_ _ | refine Below.trans ?_ (below_mo _ _ _ ?_) | refine Below.trans ?_ (below_mq _ _ ?_) | exact Nat.le_refl _) | (simp; done) | (simp; omega) | omega)) _ (by first | assumption | (simp [go_sem]; done) | (simp [go_sem, *]; done) | (simp [go_sem]; rfl)) (by first | assumption | (simp [go_sem]; done) | (simp [go_sem, *]; done) | (simp [go_sem]; rfl))).mono ?_; rintro e w' ⟨rfl, hb_⟩; obtain ⟨os_, d_, rfl⟩ := mo_of hb_; clear hb_) | (go_at_call 65; refine (l02Span_any hs h8 c hl hj cl _ (by repeat' (first | (with_reducible first | assumption | exact Below.refl _ _ | refine Below.drew ?_ | refine Below.alloc ?_ ?_ _ | refine Below.setCell ?_ ?_ _ | refine below_setR ?_ ?_ _ | refine below_dn ?_ _ | refine Below.trans ?_ (below_mo _ _ _ ?_) | refine Below.trans ?_ (below_mq _ _ ?_) | exact Nat.le_refl _) | (simp; done) | (simp; omega) | omega)) (by repeat' (first | (with_reducible first | assumption | exact Below.refl _ _ | refine Below.drew ?_ | refine Below.alloc ?_ ?_ _ | refine Below.setCell ?_ ?_ _ | refine below_setR ?_ ?_ _ | refine below_dn ?_ _ | refine Below.trans ?_ (below_mo _ _ _ ?_) | refine Below.trans ?_ (below_mq _ _ ?_) | exact Nat.le_refl _) | (simp; done) | (simp; omega) | omega)) _ (by first | assumption | (simp [go_sem]; done) | (simp [go_sem, *]; done) | (simp [go_sem]; rfl)) (by first | assumption | (simp [go_sem]; done) | (simp [go_sem, *]; done) | (simp [go_sem]; rfl)) HK.out).mono ?_; rintro e w' ⟨rfl, rfl⟩) | (go_at_call 58; refine (l00In_ok _ _ _ _).mono ?_; rintro e w' ⟨rfl, rfl⟩))
      go_ret
      exact ⟨(by first | (rw [HR.out]; done) | (rw [HR.out]; rfl)), (by repeat' (first | (with_reducible first | assumption | exact Below.refl _ _ | refine Below.drew ?_ | refine Below.alloc ?_ ?_ _ | refine Below.setCell ?_ ?_ _ | refine below_setR ?_ ?_ _ | refine below_dn ?_ _ | refine Below.trans ?_ (below_mo _ _ _ ?_) | refine Below.trans ?_ (below_mq _ _ ?_) | exact Nat.le_refl _) | (simp; done) | (simp; omega) | omega))⟩
/-- what RightDigits returns -/
def rdV (xs : List Int) (js : List (Int × Int)) (t : Int) : (Nat → Int) × Int := if askO xs js t = 0 then (dg xs (t / 1000), 0) else (fun _ => 0, askO xs js t)
theorem rdV_1 {xs : List Int} {js : List (Int × Int)} {t : Int} (h : ¬ askO xs js t = 0) : rdV xs js t = (fun _ => 0, askO xs js t) := by unfold rdV; rw [if_neg h]
theorem rdV_0 {xs : List Int} {js : List (Int × Int)} {t : Int} (h : askO xs js t = 0) : rdV xs js t = (dg xs (t / 1000), 0) := by unfold rdV; rw [if_pos h]
theorem dgOf_in {xs : List Int} {v : Int} (h : okS xs = true) (g : 0 ≤ v ∧ v ≤ szS xs - 1) : dgOf xs v = (dg xs v, 0) := by
  unfold dgOf
  rw [h, show inR v 0 (sizeTo xs xs.length - 1) = true from inR_t.2 g]; rfl
theorem askO_in {xs : List Int} {js : List (Int × Int)} {t : Int} (h : askO xs js t = 0) : okO xs js = true ∧ inR t 0 (szS xs * 1000 - 1) = true := by
  unfold askO at h
  cases h1 : okO xs js
  · rw [h1] at h; simp at h
  · rw [h1] at h
    cases h2 : inR t 0 (szS xs * 1000 - 1)
    · rw [h2] at h; simp at h
    · exact ⟨rfl, rfl⟩
set_option maxHeartbeats 2000000 in
theorem specRight_any {A : Option Addr} {xs : List Int} {W : World} {B : Nat} (hs : Nums .u8 W B A xs) (h8 : b8 xs) (c : Nat) {L : Option Addr} {js : List (Int × Int)} {V : World} {C : Nat} (hl : Prs .i8 .i16 V C L js) (hj : j8 js) (cl : Nat) (w : World) (hb : Below B W w) (hv : Below C V w) (t : Int) : Calls Try.prog 28 #[.agg #[.slice A xs.length c, .slice L js.length cl], .int .i64 t] w fun e w' => e = .returned (.tuple #[.agg #[.int .u8 ((rdV xs js t).1 0), .int .u8 ((rdV xs js t).1 1), .int .u8 ((rdV xs js t).1 2), .int .u8 ((rdV xs js t).1 3), .int .u8 ((rdV xs js t).1 4), .int .u8 ((rdV xs js t).1 5), .int .u8 ((rdV xs js t).1 6), .int .u8 ((rdV xs js t).1 7)], .int .i64 (rdV xs js t).2]) ∧ Below w.heap.size w w' := by
  have hB := hs.bsz hb
  have hC := hl.bsz hv
  by_cases h1 : askO xs js t = 0
  · obtain ⟨h2, h3⟩ := askO_in h1
    obtain ⟨⟨t0, t1⟩, t2, t3⟩ := turn_bd h2 h3
    have HR : Hid (rdV xs js t = (dg xs (t / 1000), 0)) := rdV_0 h1
    have HD := Lib.hid (dgOf_in (okO_parts h2).1 ⟨t2, t3⟩)
    have t4 : t / 1000 ≤ 9223372036854775807 := by omega
    have HT4 := Lib.hid t4
    have b1 : (askO xs js t != 0) = false := by rw [h1]; rfl
    go_enter Try.func28, Try.ntmps28
    go_wp2_with (first | (go_at_call 67; refine (l02Asked_any hs h8 c hl hj cl _ (by repeat' (first | (with_reducible first | assumption | exact Below.refl _ _ | refine Below.drew ?_ | refine Below.alloc ?_ ?_ _ | refine Below.setCell ?_ ?_ _ | refine below_setR ?_ ?_ _ | refine below_dn ?_ _ | refine Below.trans ?_ (below_mo _ _ _ ?_) | refine Below.trans ?_ (below_mq _ _ ?_) | exact Nat.le_refl _) | (simp; done) | (simp; omega) | omega)) (by repeat' (first | (with_reducible first | assumption | exact Below.refl _ _ | refine Below.drew ?_ | refine Below.alloc ?_ ?_ _ | refine Below.setCell ?_ ?_ _ | refine below_setR ?_ ?_ _ | refine below_dn ?_ _ | refine Below.trans ?_ (below_mo _ _ _ ?_) | refine Below.trans ?_ (below_mq _ _ ?_) | exact Nat.le_refl _) | (simp; done) | (simp; omega) | omega)) _ (by first | assumption | (simp [go_sem]; done) | (simp [go_sem, *]; done) | (simp [go_sem]; rfl)) (by first | assumption | (simp [go_sem]; done) | (simp [go_sem, *]; done) | (simp [go_sem]; rfl)) _).mono ?_; rintro e w' ⟨rfl, hb_⟩; obtain ⟨os_, d_, rfl⟩ := mo_of hb_; clear hb_) | (go_at_call 69; refine (specDigitsOf_any hs h8 _ _ rfl _ (by repeat' (first | (with_reducible first | assumption | exact Below.refl _ _ | refine Below.drew ?_ | refine Below.alloc ?_ ?_ _ | refine Below.setCell ?_ ?_ _ | refine below_setR ?_ ?_ _ | refine below_dn ?_ _ | refine Below.trans ?_ (below_mo _ _ _ ?_) | refine Below.trans ?_ (below_mq _ _ ?_) | exact Nat.le_refl _) | (simp; done) | (simp; omega) | omega)) _ HT4.out).mono ?_; rintro e w' ⟨rfl, hb_⟩; obtain ⟨os_, d_, rfl⟩ := mo_of hb_; clear hb_))
    go_returns
    exact ⟨by rw [HR.out, HD.out], (by repeat' (first | (with_reducible first | assumption | exact Below.refl _ _ | refine Below.drew ?_ | refine Below.alloc ?_ ?_ _ | refine Below.setCell ?_ ?_ _ | refine below_setR ?_ ?_ _ | refine below_dn ?_ _ | refine Below.trans ?_ (below_mo _ _ _ ?_) | refine Below.trans ?_ (below_mq _ _ ?_) | exact Nat.le_refl _) | (simp; done) | (simp; omega) | omega))⟩
  · have HR := Lib.hid (rdV_1 h1)
    have b1 : (askO xs js t != 0) = true := by simp [bne, h1]
    go_enter Try.func28, Try.ntmps28
    go_wp2_with (first | (go_at_call 67; refine (l02Asked_any hs h8 c hl hj cl _ (by repeat' (first | (with_reducible first | assumption | exact Below.refl _ _ | refine Below.drew ?_ | refine Below.alloc ?_ ?_ _ | refine Below.setCell ?_ ?_ _ | refine below_setR ?_ ?_ _ | refine below_dn ?_ _ | refine Below.trans ?_ (below_mo _ _ _ ?_) | refine Below.trans ?_ (below_mq _ _ ?_) | exact Nat.le_refl _) | (simp; done) | (simp; omega) | omega)) (by repeat' (first | (with_reducible first | assumption | exact Below.refl _ _ | refine Below.drew ?_ | refine Below.alloc ?_ ?_ _ | refine Below.setCell ?_ ?_ _ | refine below_setR ?_ ?_ _ | refine below_dn ?_ _ | refine Below.trans ?_ (below_mo _ _ _ ?_) | refine Below.trans ?_ (below_mq _ _ ?_) | exact Nat.le_refl _) | (simp; done) | (simp; omega) | omega)) _ (by first | assumption | (simp [go_sem]; done) | (simp [go_sem, *]; done) | (simp [go_sem]; rfl)) (by first | assumption | (simp [go_sem]; done) | (simp [go_sem, *]; done) | (simp [go_sem]; rfl)) _).mono ?_; rintro e w' ⟨rfl, hb_⟩; obtain ⟨os_, d_, rfl⟩ := mo_of hb_; clear hb_))
    go_returns
    exact ⟨by rw [HR.out], (by repeat' (first | (with_reducible first | assumption | exact Below.refl _ _ | refine Below.drew ?_ | refine Below.alloc ?_ ?_ _ | refine Below.setCell ?_ ?_ _ | refine below_setR ?_ ?_ _ | refine below_dn ?_ _ | refine Below.trans ?_ (below_mo _ _ _ ?_) | refine Below.trans ?_ (below_mq _ _ ?_) | exact Nat.le_refl _) | (simp; done) | (simp; omega) | omega))⟩
end Go.Proofs.Ytinjlofefmjolaa.X
