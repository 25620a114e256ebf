/- Where a wheel first moves: the two searches. Conditions: none. -/
import Derived.Test.YtcaaljcfdahpaaaKFirst
namespace Go.Proofs.Ytcaaljcfdahpaaa.X
open Go.RowKit
set_option linter.unusedVariables false
set_option linter.unusedSimpArgs false
set_option maxRecDepth 100000
theorem lt8k {k : Nat} (h : k < 8) : k = 0 ∨ k = 1 ∨ k = 2 ∨ k = 3 ∨ k = 4 ∨ k = 5 ∨ k = 6 ∨ k = 7 := by omega
theorem idxPa (f : Nat → Int) {k : Nat} (h : k < 8) (W : World) : (Instr.index 74 (.agg #[.int .i64 (f 0), .int .i64 (f 1), .int .i64 (f 2), .int .i64 (f 3), .int .i64 (f 4), .int .i64 (f 5), .int .i64 (f 6), .int .i64 (f 7)]) (.int .i64 (k : Int))).run Try.prog W = .ok (.int .i64 (f k)) W := by
  rcases lt8k h with rfl | rfl | rfl | rfl | rfl | rfl | rfl | rfl
  all_goals kernel_rfl
set_option maxHeartbeats 1500000 in
theorem implFirst_any {A : Option Addr} {xs : List Int} {W : World} {B : Nat} (hs : Nums .u8 W B A xs) (h8 : b8 xs) (c : Nat) {L : Option Addr} {js : List (Int × Int)} {V : World} {C : Nat} (hl : Prs .i8 .i16 V C L js) (hj : j8 js) (cl : Nat) (w : World) (hb : Below B W w) (hv : Below C V w) (hcap : xs.length ≤ c) (t : Int) : Calls Try.prog 50 #[.agg #[.slice A xs.length c, .slice L js.length cl], .int .i64 t] w fun e w' => e = .returned (.tuple #[.int .i64 (fmV xs js t).1, .int .i64 (fmV xs js t).2]) ∧ Below w.heap.size w w' := by
  have hB := hs.bsz hb
  have hC := hl.bsz hv
  have hn := hs.len
  cases h1 : okO xs js
  · have HR : Hid (fmV xs js t = (0, 1)) := by unfold Hid; rw [fmV_1 (by rw [askW_1 h1]; omega), askW_1 h1]
    go_enter Try.func50, Try.ntmps50
    go_wp2_with (go_at_call 95; refine (ValidMotion_any hs h8 _ hl hj _ _ (by repeat' (first | (with_reducible first | assumption | exact Below.refl _ _ | refine Below.drew ?_ | refine Below.alloc ?_ ?_ _ | refine Below.setCell ?_ ?_ _ | refine below_setR ?_ ?_ _ | refine below_dn ?_ _ | refine Below.trans ?_ (below_mo _ _ _ ?_) | refine Below.trans ?_ (below_mq _ _ ?_) | exact Nat.le_refl _) | (simp; done) | (simp; omega) | omega)) (by repeat' (first | (with_reducible first | assumption | exact Below.refl _ _ | refine Below.drew ?_ | refine Below.alloc ?_ ?_ _ | refine Below.setCell ?_ ?_ _ | refine below_setR ?_ ?_ _ | refine below_dn ?_ _ | refine Below.trans ?_ (below_mo _ _ _ ?_) | refine Below.trans ?_ (below_mq _ _ ?_) | exact Nat.le_refl _) | (simp; done) | (simp; omega) | omega))).mono ?_; rintro e w' ⟨rfl, hb_⟩; obtain ⟨os_, d_, rfl⟩ := mo_of hb_; clear hb_)
    go_returns
    exact ⟨(by first | (rw [HR.out]; done) | (rw [HR.out]; rfl)), (by repeat' (first | (with_reducible first | assumption | exact Below.refl _ _ | refine Below.drew ?_ | refine Below.alloc ?_ ?_ _ | refine Below.setCell ?_ ?_ _ | refine below_setR ?_ ?_ _ | refine below_dn ?_ _ | refine Below.trans ?_ (below_mo _ _ _ ?_) | refine Below.trans ?_ (below_mq _ _ ?_) | exact Nat.le_refl _) | (simp; done) | (simp; omega) | omega))⟩
  · cases h2 : inR t 0 (xs.length - 1)
    · have HR : Hid (fmV xs js t = (0, 2)) := by unfold Hid; rw [fmV_1 (by rw [askW_2 h1 h2]; omega), askW_2 h1 h2]
      go_enter Try.func50, Try.ntmps50
      go_wp2_with (first | (go_at_call 95; refine (ValidMotion_any hs h8 _ hl hj _ _ (by repeat' (first | (with_reducible first | assumption | exact Below.refl _ _ | refine Below.drew ?_ | refine Below.alloc ?_ ?_ _ | refine Below.setCell ?_ ?_ _ | refine below_setR ?_ ?_ _ | refine below_dn ?_ _ | refine Below.trans ?_ (below_mo _ _ _ ?_) | refine Below.trans ?_ (below_mq _ _ ?_) | exact Nat.le_refl _) | (simp; done) | (simp; omega) | omega)) (by repeat' (first | (with_reducible first | assumption | exact Below.refl _ _ | refine Below.drew ?_ | refine Below.alloc ?_ ?_ _ | refine Below.setCell ?_ ?_ _ | refine below_setR ?_ ?_ _ | refine below_dn ?_ _ | refine Below.trans ?_ (below_mo _ _ _ ?_) | refine Below.trans ?_ (below_mq _ _ ?_) | exact Nat.le_refl _) | (simp; done) | (simp; omega) | omega))).mono ?_; rintro e w' ⟨rfl, hb_⟩; obtain ⟨os_, d_, rfl⟩ := mo_of hb_; clear hb_) | (go_at_call 105; refine (hasWheel_any _ _ _ _ hn _).mono ?_; rintro e w' ⟨rfl, rfl⟩))
      go_returns
      exact ⟨(by first | (rw [HR.out]; done) | (rw [HR.out]; rfl)), (by repeat' (first | (with_reducible first | assumption | exact Below.refl _ _ | refine Below.drew ?_ | refine Below.alloc ?_ ?_ _ | refine Below.setCell ?_ ?_ _ | refine below_setR ?_ ?_ _ | refine below_dn ?_ _ | refine Below.trans ?_ (below_mo _ _ _ ?_) | refine Below.trans ?_ (below_mq _ _ ?_) | exact Nat.le_refl _) | (simp; done) | (simp; omega) | omega))⟩
    · obtain ⟨t0, t1⟩ := inR_t.1 h2
      obtain ⟨k, rfl⟩ : ∃ k : Nat, t = (k : Int) := ⟨t.toNat, by omega⟩
      have hk : k < xs.length := by omega
      have h8l := (okS_len (okO_parts h1).1).2
      have HR : Hid (fmV xs js k = (srB (mvP xs js k) (fmH xs k).toNat 0 (fmH xs k), 0)) := fmV_0 (askW_0 h1 h2)
      have HK := Lib.hid h1
      have hz := size_eq (okO_parts h1).1 (k := k) (by omega)
      obtain ⟨z1, z2, z3, z4⟩ := fmH_bd (okO_parts h1).1 hk
      have HZ := Lib.hid z2
      have ew : IntKind.i64.wrap (sizeTo xs k * 1000) = fmH xs k := (IntWalk.i64_in _ ⟨by rw [hz.1]; unfold fmH at z1; omega, by rw [hz.1]; omega⟩).trans (by rw [hz.1]; rfl)
      have k1 : (k : Int) < 8 := by omega
      have k2 : k < 8 := by omega
      have z5 : fmH xs k ≤ 1000000000000000 := by omega
      clear hz z2 h1
      go_enter Try.func50, Try.ntmps50
      (go_wp2_with fail; refine (ValidMotion_any hs h8 _ hl hj _ _ (by repeat' (first | (with_reducible first | assumption | exact Below.refl _ _ | refine Below.drew ?_ | refine Below.alloc ?_ ?_ _ | refine Below.setCell ?_ ?_ _ | refine below_setR ?_ ?_ _ | refine below_dn ?_ _ | refine Below.trans ?_ (below_mo _ _ _ ?_) | refine Below.trans ?_ (below_mq _ _ ?_) | exact Nat.le_refl _) | (simp; done) | (simp; omega) | omega)) (by repeat' (first | (with_reducible first | assumption | exact Below.refl _ _ | refine Below.drew ?_ | refine Below.alloc ?_ ?_ _ | refine Below.setCell ?_ ?_ _ | refine below_setR ?_ ?_ _ | refine below_dn ?_ _ | refine Below.trans ?_ (below_mo _ _ _ ?_) | refine Below.trans ?_ (below_mq _ _ ?_) | exact Nat.le_refl _) | (simp; done) | (simp; omega) | omega))).mono ?_; rintro e w' ⟨rfl, hb_⟩; obtain ⟨os0, d0, rfl⟩ := mo_of hb_; clear hb_)
      rw [HK.out]
      go_wp2_with (first | (go_at_call 105; refine (hasWheel_any _ _ _ _ hn _).mono ?_; rintro e w' ⟨rfl, rfl⟩) | (go_at_call 106; refine (place_any hs h8 _ hcap k hk _ (by repeat' (first | (with_reducible first | assumption | exact Below.refl _ _ | refine Below.drew ?_ | refine Below.alloc ?_ ?_ _ | refine Below.setCell ?_ ?_ _ | refine below_setR ?_ ?_ _ | refine below_dn ?_ _ | refine Below.trans ?_ (below_mo _ _ _ ?_) | refine Below.trans ?_ (below_mq _ _ ?_) | exact Nat.le_refl _) | (simp; done) | (simp; omega) | omega))).mono ?_; rintro e w' ⟨rfl, rfl⟩))
      go_loopw [6, 7] (fun lo hi wr => ∃ (l h : Int) (n : Nat) (os : Array Obj) (d : Nat), (0 ≤ l ∧ l < h ∧ h ≤ fmH xs k ∧ h - l ≤ (n : Int)) ∧ Hid (srB (mvP xs js k) n l h = srB (mvP xs js k) (fmH xs k).toNat 0 (fmH xs k)) ∧ lo = .int .i64 l ∧ hi = .int .i64 h ∧ wr = mo (w.alloc (.cells #[.slice A xs.length c, .slice L js.length cl] 58)) os d) (fun lo hi _ => (intOf hi - intOf lo).toNat)
      case atStart => exact ⟨0, fmH xs k, (fmH xs k).toNat, os0, _, ⟨by omega, by omega, by omega, by omega⟩, rfl, rfl, rfl, rfl⟩
      case round =>
        obtain ⟨l, h, n, os, d, ⟨l0, l1, l2, l3⟩, HL, rfl, rfl, rfl⟩ := hrel
        have e1 : IntKind.i64.wrap (l + 1) = l + 1 := IntWalk.i64_in _ ⟨by omega, by omega⟩
        by_cases hlt : l + 1 < h
        · have e2 : IntKind.i64.wrap (l + h) = l + h := IntWalk.i64_in _ ⟨by omega, by omega⟩
          have e3 : 0 ≤ l + h := by omega
          obtain ⟨m, hm⟩ : ∃ m, (l + h) / 2 = m := ⟨_, rfl⟩
          have hm2 : (l + h).tdiv 2 = m := by rw [Int.tdiv_eq_ediv_of_nonneg e3, hm]
          have m1 : l < m := by omega
          have m2 : m < h := by omega
          have m0 : 0 ≤ m := by omega
          have HI : Hid (inR m 0 (szS xs * 1000 - 1) = true) := by have := HZ.out; exact inR_t.2 ⟨m0, by omega⟩
          have ep : paTo xs js m xs.length k = ptV xs js m k := by unfold paTo; rw [if_pos hk]
          have hix := fun W1 => (idxPa (paTo xs js m xs.length) k2 W1).trans (by rw [ep])
          obtain ⟨n', rfl⟩ : ∃ n', n = n' + 1 := ⟨n - 1, by omega⟩
          have HM := Lib.hid hm
          by_cases hp : ptV xs js m k = 0
          · have HP : Hid (mvP xs js k m = false) := by unfold Hid mvP; rw [hp]; rfl
            go_wp2_with fail
            refine (parts_any hs h8 _ hl hj _ _ (by repeat' (first | (with_reducible first | assumption | exact Below.refl _ _ | refine Below.drew ?_ | refine Below.alloc ?_ ?_ _ | refine Below.setCell ?_ ?_ _ | refine below_setR ?_ ?_ _ | refine below_dn ?_ _ | refine Below.trans ?_ (below_mo _ _ _ ?_) | refine Below.trans ?_ (below_mq _ _ ?_) | exact Nat.le_refl _) | (simp; done) | (simp; omega) | omega)) (by repeat' (first | (with_reducible first | assumption | exact Below.refl _ _ | refine Below.drew ?_ | refine Below.alloc ?_ ?_ _ | refine Below.setCell ?_ ?_ _ | refine below_setR ?_ ?_ _ | refine below_dn ?_ _ | refine Below.trans ?_ (below_mo _ _ _ ?_) | refine Below.trans ?_ (below_mq _ _ ?_) | exact Nat.le_refl _) | (simp; done) | (simp; omega) | omega)) _ (by first | assumption | (simp [go_sem]; done) | (simp [go_sem, *]; done) | (simp [go_sem]; rfl)) (by first | assumption | (simp [go_sem]; done) | (simp [go_sem, *]; done) | (simp [go_sem]; rfl)) m HK.out HI.out).mono ?_
            rintro e w' ⟨rfl, hb_⟩
            obtain ⟨os1, d1, rfl⟩ := mo_of hb_
            clear hb_
            go_wp2
            exact ⟨⟨m, h, n', _, _, ⟨m0, m2, l2, by omega⟩, Lib.hid ((srB_no hlt HM.out HP.out).symm.trans HL.out), rfl, rfl, mo_mo _ _ _ _ _⟩, by simp [intOf]; omega⟩
          · have HP : Hid (mvP xs js k m = true) := by unfold Hid mvP; exact decide_eq_true hp
            have hp2 : (ptV xs js m k == 0) = false := beq_eq_false_iff_ne.2 hp
            go_wp2_with fail
            refine (parts_any hs h8 _ hl hj _ _ (by repeat' (first | (with_reducible first | assumption | exact Below.refl _ _ | refine Below.drew ?_ | refine Below.alloc ?_ ?_ _ | refine Below.setCell ?_ ?_ _ | refine below_setR ?_ ?_ _ | refine below_dn ?_ _ | refine Below.trans ?_ (below_mo _ _ _ ?_) | refine Below.trans ?_ (below_mq _ _ ?_) | exact Nat.le_refl _) | (simp; done) | (simp; omega) | omega)) (by repeat' (first | (with_reducible first | assumption | exact Below.refl _ _ | refine Below.drew ?_ | refine Below.alloc ?_ ?_ _ | refine Below.setCell ?_ ?_ _ | refine below_setR ?_ ?_ _ | refine below_dn ?_ _ | refine Below.trans ?_ (below_mo _ _ _ ?_) | refine Below.trans ?_ (below_mq _ _ ?_) | exact Nat.le_refl _) | (simp; done) | (simp; omega) | omega)) _ (by first | assumption | (simp [go_sem]; done) | (simp [go_sem, *]; done) | (simp [go_sem]; rfl)) (by first | assumption | (simp [go_sem]; done) | (simp [go_sem, *]; done) | (simp [go_sem]; rfl)) m HK.out HI.out).mono ?_
            rintro e w' ⟨rfl, hb_⟩
            obtain ⟨os1, d1, rfl⟩ := mo_of hb_
            clear hb_
            go_wp2
            exact ⟨⟨l, m, n', _, _, ⟨l0, m1, by omega, by omega⟩, Lib.hid ((srB_yes hlt HM.out HP.out).symm.trans HL.out), rfl, rfl, mo_mo _ _ _ _ _⟩, by simp [intOf]; omega⟩
        · have HE := Lib.hid ((srB_end (P := mvP xs js k) (n := n) hlt).symm.trans HL.out)
          go_wp2
          go_returns
          exact ⟨by rw [HR.out, HE.out]; rfl, (by repeat' (first | (with_reducible first | assumption | exact Below.refl _ _ | refine Below.drew ?_ | refine Below.alloc ?_ ?_ _ | refine Below.setCell ?_ ?_ _ | refine below_setR ?_ ?_ _ | refine below_dn ?_ _ | refine Below.trans ?_ (below_mo _ _ _ ?_) | refine Below.trans ?_ (below_mq _ _ ?_) | exact Nat.le_refl _) | (simp; done) | (simp; omega) | omega))⟩
set_option maxHeartbeats 1500000 in
theorem specFirst_any {A : Option Addr} {xs : List Int} {W : World} {B : Nat} (hs : Nums .u8 W B A xs) (h8 : b8 xs) (c : Nat) {L : Option Addr} {js : List (Int × Int)} {V : World} {C : Nat} (hl : Prs .i8 .i16 V C L js) (hj : j8 js) (cl : Nat) (w : World) (hb : Below B W w) (hv : Below C V w) (t : Int) : Calls Try.prog 49 #[.agg #[.slice A xs.length c, .slice L js.length cl], .int .i64 t] w fun e w' => e = .returned (.tuple #[.int .i64 (fmV xs js t).1, .int .i64 (fmV xs js t).2]) ∧ Below w.heap.size w w' := by
  have hB := hs.bsz hb
  have hC := hl.bsz hv
  have hn := hs.len
  by_cases h0 : askW xs js t = 0
  · obtain ⟨h1, h2⟩ := askW_in h0
    obtain ⟨t0, t1⟩ := inR_t.1 h2
    obtain ⟨k, rfl⟩ : ∃ k : Nat, t = (k : Int) := ⟨t.toNat, by omega⟩
    have hk : k < xs.length := by omega
    have h8l := (okS_len (okO_parts h1).1).2
    have HA := Lib.hid h0
    have HR : Hid (fmV xs js k = (srB (mvP xs js k) (fmH xs k).toNat 0 (fmH xs k), 0)) := fmV_0 h0
    have HK := Lib.hid h1
    have HS := Lib.hid (okO_parts h1).1
    obtain ⟨z1, z2, z3, z4⟩ := fmH_bd (okO_parts h1).1 hk
    have HZ := Lib.hid z2
    have k1 : (k : Int) < 8 := by omega
    have k2 : k < 8 := by omega
    have z5 : fmH xs k ≤ 1000000000000000 := by omega
    clear z2 h1 h2 h0
    go_enter Try.func49, Try.ntmps49
    (go_wp2_with fail; refine (l02Wheel_any hs h8 c hl hj cl _ (by repeat' (first | (with_reducible first | assumption | exact Below.refl _ _ | refine Below.drew ?_ | refine Below.alloc ?_ ?_ _ | refine Below.setCell ?_ ?_ _ | refine below_setR ?_ ?_ _ | refine below_dn ?_ _ | refine Below.trans ?_ (below_mo _ _ _ ?_) | refine Below.trans ?_ (below_mq _ _ ?_) | exact Nat.le_refl _) | (simp; done) | (simp; omega) | omega)) (by repeat' (first | (with_reducible first | assumption | exact Below.refl _ _ | refine Below.drew ?_ | refine Below.alloc ?_ ?_ _ | refine Below.setCell ?_ ?_ _ | refine below_setR ?_ ?_ _ | refine below_dn ?_ _ | refine Below.trans ?_ (below_mo _ _ _ ?_) | refine Below.trans ?_ (below_mq _ _ ?_) | exact Nat.le_refl _) | (simp; done) | (simp; omega) | omega)) _ (by first | assumption | (simp [go_sem]; done) | (simp [go_sem, *]; done) | (simp [go_sem]; rfl)) (by first | assumption | (simp [go_sem]; done) | (simp [go_sem, *]; done) | (simp [go_sem]; rfl)) _).mono ?_; rintro e w' ⟨rfl, hb_⟩; obtain ⟨os0, d0, rfl⟩ := mo_of hb_; clear hb_)
    rw [HA.out]
    go_wp2
    go_loopw [8, 9] (fun p i wr => ∃ j : Nat, j ≤ k ∧ i = .int .i64 (j : Int) ∧ p = .int .i64 (1000 * pr xs j) ∧ wr = mo (w.alloc (.cells #[.slice A xs.length c, .slice L js.length cl] 58)) os0 d0) (fun _ i _ => k - (intOf i).toNat)
    case atStart => exact ⟨0, Nat.zero_le _, rfl, rfl, rfl⟩
    case round =>
      obtain ⟨j, hjk, rfl, rfl, rfl⟩ := hrel
      by_cases hlt : j < k
      · have hjl : j < xs.length := by omega
        obtain ⟨b, off, rfl, hbs, hc⟩ := hs.at hb hjl
        obtain ⟨x0, x1⟩ := okS_el HS.out hjl
        have y0 := pr_pos HS.out (k := j) (by omega)
        have y1 := (size_eq HS.out (k := j + 1) (by omega)).2
        have y2 : pr xs (j + 1) = pr xs j * el xs j := rfl
        have y3 := pr_pos HS.out (k := j + 1) (by omega)
        have y4 : 1000 * pr xs j * el xs j = 1000 * pr xs (j + 1) := by rw [y2, Int.mul_assoc]
        have e1 : IntKind.i64.wrap (1000 * pr xs j * el xs j) = 1000 * pr xs (j + 1) := (IntWalk.i64_in _ ⟨by omega, by omega⟩).trans y4
        have g0 : (0 : Int) ≤ (j : Int) := by omega
        have g1 : (j : Int) < (k : Int) := by omega
        have g2 : (j : Int) < (xs.length : Int) := by omega
        clear y2 y4
        go_wp2
        exact ⟨⟨j + 1, by omega, by go_num, rfl, trivial⟩, by simp [intOf]; omega⟩
      · obtain rfl : j = k := by omega
        have eh : 1000 * pr xs j = fmH xs j := Int.mul_comm _ _
        rw [eh]
        go_wp2
        go_loopw [7, 8] (fun lo hi wr => ∃ (l h : Int) (n : Nat) (os : Array Obj) (d : Nat), (0 ≤ l ∧ l < h ∧ h ≤ fmH xs j ∧ h - l ≤ (n : Int)) ∧ Hid (srB (mvP xs js j) n l h = srB (mvP xs js j) (fmH xs j).toNat 0 (fmH xs j)) ∧ lo = .int .i64 l ∧ hi = .int .i64 h ∧ wr = mo (w.alloc (.cells #[.slice A xs.length c, .slice L js.length cl] 58)) os d) (fun lo hi _ => (intOf hi - intOf lo).toNat)
        case atStart => exact ⟨0, fmH xs j, (fmH xs j).toNat, os0, _, ⟨by omega, by omega, by omega, by omega⟩, rfl, rfl, rfl, rfl⟩
        case round =>
          obtain ⟨l, h, n, os, d, ⟨l0, l1, l2, l3⟩, HL, rfl, rfl, rfl⟩ := hrel
          have e1 : IntKind.i64.wrap (h - l) = h - l := IntWalk.i64_in _ ⟨by omega, by omega⟩
          by_cases hlt : l + 1 < h
          · have hgt : 1 < h - l := by omega
            have e2 : IntKind.i64.wrap (l + h) = l + h := IntWalk.i64_in _ ⟨by omega, by omega⟩
            have e3 : 0 ≤ l + h := by omega
            obtain ⟨m, hm⟩ : ∃ m, (l + h) / 2 = m := ⟨_, rfl⟩
            have hm2 : (l + h).tdiv 2 = m := by rw [Int.tdiv_eq_ediv_of_nonneg e3, hm]
            have m1 : l < m := by omega
            have m2 : m < h := by omega
            have m0 : 0 ≤ m := by omega
            have HI : Hid (inR m 0 (szS xs * 1000 - 1) = true) := by have := HZ.out; exact inR_t.2 ⟨m0, by omega⟩
            have q1 := a8_at .i64 (paTo xs js m xs.length) (k := j) k2
            have ep : paTo xs js m xs.length j = ptV xs js m j := by unfold paTo; rw [if_pos hk]
            rw [ep] at q1
            obtain ⟨n', rfl⟩ : ∃ n', n = n' + 1 := ⟨n - 1, by omega⟩
            have HM := Lib.hid hm
            have hp0 := (ptV_bd (t := m) HK.out j hk).1
            by_cases hp : ptV xs js m j = 0
            · have HP : Hid (mvP xs js j m = false) := by unfold Hid mvP; rw [hp]; rfl
              go_wp2_with fail
              refine (l02Parts_any hs h8 _ hl hj _ _ (by repeat' (first | (with_reducible first | assumption | exact Below.refl _ _ | refine Below.drew ?_ | refine Below.alloc ?_ ?_ _ | refine Below.setCell ?_ ?_ _ | refine below_setR ?_ ?_ _ | refine below_dn ?_ _ | refine Below.trans ?_ (below_mo _ _ _ ?_) | refine Below.trans ?_ (below_mq _ _ ?_) | exact Nat.le_refl _) | (simp; done) | (simp; omega) | omega)) (by repeat' (first | (with_reducible first | assumption | exact Below.refl _ _ | refine Below.drew ?_ | refine Below.alloc ?_ ?_ _ | refine Below.setCell ?_ ?_ _ | refine below_setR ?_ ?_ _ | refine below_dn ?_ _ | refine Below.trans ?_ (below_mo _ _ _ ?_) | refine Below.trans ?_ (below_mq _ _ ?_) | exact Nat.le_refl _) | (simp; done) | (simp; omega) | omega)) _ (by first | assumption | (simp [go_sem]; done) | (simp [go_sem, *]; done) | (simp [go_sem]; rfl)) (by first | assumption | (simp [go_sem]; done) | (simp [go_sem, *]; done) | (simp [go_sem]; rfl)) m HK.out HI.out).mono ?_
              rintro e w' ⟨rfl, hb_⟩
              obtain ⟨os1, d1, rfl⟩ := mo_of hb_
              clear hb_
              go_wp2
              exact ⟨⟨m, h, n', _, _, ⟨m0, m2, l2, by omega⟩, Lib.hid ((srB_no hlt HM.out HP.out).symm.trans HL.out), rfl, rfl, by rw [mo_mo, mo_alloc]⟩, by simp [intOf]; omega⟩
            · have HP : Hid (mvP xs js j m = true) := by unfold Hid mvP; exact decide_eq_true hp
              have hp2 : 0 < ptV xs js m j := by omega
              go_wp2_with fail
              refine (l02Parts_any hs h8 _ hl hj _ _ (by repeat' (first | (with_reducible first | assumption | exact Below.refl _ _ | refine Below.drew ?_ | refine Below.alloc ?_ ?_ _ | refine Below.setCell ?_ ?_ _ | refine below_setR ?_ ?_ _ | refine below_dn ?_ _ | refine Below.trans ?_ (below_mo _ _ _ ?_) | refine Below.trans ?_ (below_mq _ _ ?_) | exact Nat.le_refl _) | (simp; done) | (simp; omega) | omega)) (by repeat' (first | (with_reducible first | assumption | exact Below.refl _ _ | refine Below.drew ?_ | refine Below.alloc ?_ ?_ _ | refine Below.setCell ?_ ?_ _ | refine below_setR ?_ ?_ _ | refine below_dn ?_ _ | refine Below.trans ?_ (below_mo _ _ _ ?_) | refine Below.trans ?_ (below_mq _ _ ?_) | exact Nat.le_refl _) | (simp; done) | (simp; omega) | omega)) _ (by first | assumption | (simp [go_sem]; done) | (simp [go_sem, *]; done) | (simp [go_sem]; rfl)) (by first | assumption | (simp [go_sem]; done) | (simp [go_sem, *]; done) | (simp [go_sem]; rfl)) m HK.out HI.out).mono ?_
              rintro e w' ⟨rfl, hb_⟩
              obtain ⟨os1, d1, rfl⟩ := mo_of hb_
              clear hb_
              go_wp2
              exact ⟨⟨l, m, n', _, _, ⟨l0, m1, by omega, by omega⟩, Lib.hid ((srB_yes hlt HM.out HP.out).symm.trans HL.out), rfl, rfl, by rw [mo_mo, mo_alloc]⟩, by simp [intOf]; omega⟩
          · have hgt : ¬ 1 < h - l := by omega
            have HE := Lib.hid ((srB_end (P := mvP xs js j) (n := n) hlt).symm.trans HL.out)
            go_wp2
            go_returns
            exact ⟨by rw [HR.out, HE.out]; rfl, (by repeat' (first | (with_reducible first | assumption | exact Below.refl _ _ | refine Below.drew ?_ | refine Below.alloc ?_ ?_ _ | refine Below.setCell ?_ ?_ _ | refine below_setR ?_ ?_ _ | refine below_dn ?_ _ | refine Below.trans ?_ (below_mo _ _ _ ?_) | refine Below.trans ?_ (below_mq _ _ ?_) | exact Nat.le_refl _) | (simp; done) | (simp; omega) | omega))⟩
  · have HR := Lib.hid (fmV_1 h0)
    have b1 : (askW xs js t != 0) = true := by simp [bne, h0]
    go_enter Try.func49, Try.ntmps49
    go_wp2_with (first | (go_at_call 104; refine (l02Wheel_any hs h8 c hl hj cl _ (by repeat' (first | (with_reducible first | assumption | exact Below.refl _ _ | refine Below.drew ?_ | refine Below.alloc ?_ ?_ _ | refine Below.setCell ?_ ?_ _ | refine below_setR ?_ ?_ _ | refine below_dn ?_ _ | refine Below.trans ?_ (below_mo _ _ _ ?_) | refine Below.trans ?_ (below_mq _ _ ?_) | exact Nat.le_refl _) | (simp; done) | (simp; omega) | omega)) (by repeat' (first | (with_reducible first | assumption | exact Below.refl _ _ | refine Below.drew ?_ | refine Below.alloc ?_ ?_ _ | refine Below.setCell ?_ ?_ _ | refine below_setR ?_ ?_ _ | refine below_dn ?_ _ | refine Below.trans ?_ (below_mo _ _ _ ?_) | refine Below.trans ?_ (below_mq _ _ ?_) | exact Nat.le_refl _) | (simp; done) | (simp; omega) | omega)) _ (by first | assumption | (simp [go_sem]; done) | (simp [go_sem, *]; done) | (simp [go_sem]; rfl)) (by first | assumption | (simp [go_sem]; done) | (simp [go_sem, *]; done) | (simp [go_sem]; rfl)) _).mono ?_; rintro e w' ⟨rfl, hb_⟩; obtain ⟨os_, d_, rfl⟩ := mo_of hb_; clear hb_))
    go_returns
    exact ⟨by rw [HR.out]; rfl, (by repeat' (first | (with_reducible first | assumption | exact Below.refl _ _ | refine Below.drew ?_ | refine Below.alloc ?_ ?_ _ | refine Below.setCell ?_ ?_ _ | refine below_setR ?_ ?_ _ | refine below_dn ?_ _ | refine Below.trans ?_ (below_mo _ _ _ ?_) | refine Below.trans ?_ (below_mq _ _ ?_) | exact Nat.le_refl _) | (simp; done) | (simp; omega) | omega))⟩
end Go.Proofs.Ytcaaljcfdahpaaa.X
