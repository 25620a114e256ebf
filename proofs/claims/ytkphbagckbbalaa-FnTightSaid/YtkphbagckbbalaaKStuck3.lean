/- StuckSince, the program's answer. Conditions: none. -/
import Derived.Test.YtkphbagckbbalaaKStuck2
namespace Go.Proofs.Ytkphbagckbbalaa.X
open Go.RowKit
set_option linter.unusedVariables false
set_option linter.unusedSimpArgs false
set_option maxRecDepth 100000
theorem hasWheelS_any (wh : Int) (n c : Nat) (A : Option Addr) (hn : n ≤ 1048576) (w : World) : Calls Try.prog 93 #[.slice A n c, .int .i64 wh] w fun e w' => e = .returned (.bool (inR wh 0 ((n : Int) - 1))) ∧ w = w' := by
  go_enter Try.func93, Try.ntmps93
  go_wp2_with (first | (go_at_call 101; refine (wheels_any _ _ _ _ hn).mono ?_; rintro e w' ⟨rfl, rfl⟩) | (go_at_call 80; refine (within_ok _ _ _ _).mono ?_; rintro e w' ⟨rfl, rfl⟩))
  go_ret
  exact ⟨rfl, rfl⟩
theorem l01WheelS_any (wh : Int) (n c : Nat) (A : Option Addr) (hn : n ≤ 1048576) (w : World) : Calls Try.prog 95 #[.slice A n c, .int .i64 wh] w fun e w' => e = .returned (.bool (inR wh 0 ((n : Int) - 1))) ∧ w = w' := by
  go_enter Try.func95, Try.ntmps95
  go_wp2_with (go_at_call 85; refine (l00In_ok _ _ _ _).mono ?_; rintro e w' ⟨rfl, rfl⟩)
  go_ret
  exact ⟨rfl, rfl⟩
/-- what StuckSince returns -/
noncomputable def ssV (xs : List Int) (log : List (Int × Int)) (wh : Int) : Int × Int := if okL xs log then if inR wh 0 ((xs.length : Int) - 1) then ssR xs log wh.toNat else (0, 2) else (0, 1)
theorem rel_so {xs : List Int} {log : List (Int × Int)} {wh : Nat} {X W : World} {i : Nat} (hlt : i + 1 < log.length) (h : Hid (∀ k, k < i → ¬ QP xs log wh k)) (hi : ¬ QP xs log wh i) (hw : ∃ os d, W = mo X os d) : ∃ (k' : Nat) (os : Array Obj) (d : Nat), (k' + 1 ≤ log.length ∨ k' = 0) ∧ Value.int .i64 ((i : Int) + 1) = .int .i64 (k' : Int) ∧ Hid (∀ k, k < k' → ¬ QP xs log wh k) ∧ W = mo X os d := by
  obtain ⟨os, d, e⟩ := hw
  refine ⟨i + 1, os, d, .inl (by omega), by rw [Int.natCast_succ], fun k hk => ?_, e⟩
  by_cases c : k = i
  · rw [c]; exact hi
  · exact h.out k (by omega)
theorem rel_sw {xs : List Int} {log : List (Int × Int)} {wn i : Nat} {X W : World} (h : wn < xs.length) (hw : ∃ os d, W = mo X os d) : ∃ (u : Nat) (os : Array Obj) (d : Nat), wn < u ∧ u ≤ xs.length ∧ Value.int .i64 ((wn : Int) + 1) = .int .i64 (u : Int) ∧ Hid (∀ j, wn < j → j < u → SyP xs log i j) ∧ W = mo X os d := by
  obtain ⟨os, d, e⟩ := hw
  exact ⟨wn + 1, os, d, by omega, h, by rw [Int.natCast_succ], fun j h1 h2 => absurd h2 (by omega), e⟩
theorem rel_sv {xs : List Int} {log : List (Int × Int)} {wn i u : Nat} {X W : World} (hu : wn < u) (h : u < xs.length) (HJ : Hid (∀ j, wn < j → j < u → SyP xs log i j)) (hs : SyP xs log i u) (hw : ∃ os d, W = mo X os d) : ∃ (u' : Nat) (os : Array Obj) (d : Nat), wn < u' ∧ u' ≤ xs.length ∧ Value.int .i64 ((u : Int) + 1) = .int .i64 (u' : Int) ∧ Hid (∀ j, wn < j → j < u' → SyP xs log i j) ∧ W = mo X os d := by
  obtain ⟨os, d, e⟩ := hw
  refine ⟨u + 1, os, d, by omega, h, by rw [Int.natCast_succ], fun j h1 h2 => ?_, e⟩
  by_cases c : j = u
  · rw [c]; exact hs
  · exact HJ.out j h1 (by omega)
set_option maxHeartbeats 4000000 in
theorem implStuck_any {A : Option Addr} {xs : List Int} {W : World} {B : Nat} (hs : Nums .u8 W B A xs) (h8 : b8 xs) (n c : Nat) (hn : xs.length = n) (w : World) (hb : Below B W w) {L : Option Addr} {log : List (Int × Int)} {V : World} {C : Nat} (hl : Prs .i64 .i64 V C L log) (cl : Nat) (hv : Below C V w) (wh : Int) (hcl : log.length ≤ cl) : Calls Try.prog 17 #[.slice A n c, .slice L log.length cl, .int .i64 wh] w fun e w' => e = .returned (.tuple #[.int .i64 (ssV xs log wh).1, .int .i64 (ssV xs log wh).2]) ∧ Below w.heap.size w w' := by
  obtain rfl := hn
  have hB := hs.bsz hb
  have hC := hl.bsz hv
  have hxl := hs.len
  cases h1 : okL xs log
  · have HR : Hid (ssV xs log wh = (0, 1)) := by unfold Hid ssV; rw [h1]; rfl
    go_enter Try.func17, Try.ntmps17
    (go_wp2_with fail; refine (ValidLog_any hs h8 _ _ rfl _ (by repeat' (first | (with_reducible first | assumption | exact Below.refl _ _ | refine Below.drew ?_ | refine Below.alloc ?_ ?_ _ | refine Below.setCell ?_ ?_ _ | refine below_setR ?_ ?_ _ | refine below_dn ?_ _ | refine Below.trans ?_ (below_mo _ _ _ ?_) | refine Below.trans ?_ (below_mq _ _ ?_) | exact Nat.le_refl _) | (simp; done) | (simp; omega) | omega)) hl _ (by repeat' (first | (with_reducible first | assumption | exact Below.refl _ _ | refine Below.drew ?_ | refine Below.alloc ?_ ?_ _ | refine Below.setCell ?_ ?_ _ | refine below_setR ?_ ?_ _ | refine below_dn ?_ _ | refine Below.trans ?_ (below_mo _ _ _ ?_) | refine Below.trans ?_ (below_mq _ _ ?_) | exact Nat.le_refl _) | (simp; done) | (simp; omega) | omega))).mono ?_; rintro e w' ⟨rfl, hb_⟩; obtain ⟨os0, d0, rfl⟩ := mo_of hb_; clear hb_)
    rw [h1]
    go_wp2
    go_returns
    exact ⟨(by first | (rw [HR.out]; done) | (rw [HR.out]; rfl)), (by repeat' (first | (with_reducible first | assumption | exact Below.refl _ _ | refine Below.drew ?_ | refine Below.alloc ?_ ?_ _ | refine Below.setCell ?_ ?_ _ | refine below_setR ?_ ?_ _ | refine below_dn ?_ _ | refine Below.trans ?_ (below_mo _ _ _ ?_) | refine Below.trans ?_ (below_mq _ _ ?_) | exact Nat.le_refl _) | (simp; done) | (simp; omega) | omega))⟩
  cases h2 : inR wh 0 ((xs.length : Int) - 1)
  · have HR : Hid (ssV xs log wh = (0, 2)) := by unfold Hid ssV; rw [h1, h2]; rfl
    have HK := Lib.hid h1
    clear h1
    go_enter Try.func17, Try.ntmps17
    (go_wp2_with fail; refine (ValidLog_any hs h8 _ _ rfl _ (by repeat' (first | (with_reducible first | assumption | exact Below.refl _ _ | refine Below.drew ?_ | refine Below.alloc ?_ ?_ _ | refine Below.setCell ?_ ?_ _ | refine below_setR ?_ ?_ _ | refine below_dn ?_ _ | refine Below.trans ?_ (below_mo _ _ _ ?_) | refine Below.trans ?_ (below_mq _ _ ?_) | exact Nat.le_refl _) | (simp; done) | (simp; omega) | omega)) hl _ (by repeat' (first | (with_reducible first | assumption | exact Below.refl _ _ | refine Below.drew ?_ | refine Below.alloc ?_ ?_ _ | refine Below.setCell ?_ ?_ _ | refine below_setR ?_ ?_ _ | refine below_dn ?_ _ | refine Below.trans ?_ (below_mo _ _ _ ?_) | refine Below.trans ?_ (below_mq _ _ ?_) | exact Nat.le_refl _) | (simp; done) | (simp; omega) | omega))).mono ?_; rintro e w' ⟨rfl, hb_⟩; obtain ⟨os0, d0, rfl⟩ := mo_of hb_; clear hb_)
    rw [HK.out]
    go_wp2_with (go_at_call 93; refine (hasWheelS_any _ _ _ _ hxl _).mono ?_; rintro e w' ⟨rfl, rfl⟩)
    go_returns
    exact ⟨(by first | (rw [HR.out]; done) | (rw [HR.out]; rfl)), (by repeat' (first | (with_reducible first | assumption | exact Below.refl _ _ | refine Below.drew ?_ | refine Below.alloc ?_ ?_ _ | refine Below.setCell ?_ ?_ _ | refine below_setR ?_ ?_ _ | refine below_dn ?_ _ | refine Below.trans ?_ (below_mo _ _ _ ?_) | refine Below.trans ?_ (below_mq _ _ ?_) | exact Nat.le_refl _) | (simp; done) | (simp; omega) | omega))⟩
  obtain ⟨a0, a1⟩ := inR_t.1 h2
  obtain ⟨wn, rfl⟩ := Int.eq_ofNat_of_zero_le a0
  have HR : Hid (ssV xs log (wn : Int) = ssR xs log wn) := by unfold Hid ssV; rw [h1, h2, Int.toNat_natCast]; rfl
  obtain ⟨o1, o2, o3⟩ := okL_parts h1
  have hx8 := (okS_len o1).2
  have HK := Lib.hid h1
  have H2 := Lib.hid h2
  have hall : ∀ k : Nat, k < log.length → 0 ≤ p2 log k ∧ p2 log k ≤ szS xs - 1 := fun k hk => (okL_at h1 hk).2
  have HSY : Hid (∀ (i : Nat), i < log.length → ∀ (b off : Nat), L = some ⟨b, off, none⟩ → ∀ (w2 : Nat), w2 < 8 → ∀ W', Below B W W' → Below C V W' → Calls Try.prog 94 #[.slice A xs.length c, .slice (some ⟨b, off + i * 2, none⟩) (log.length - i) (cl - i), .int .i64 (w2 : Int)] W' fun e w' => e = .returned (.bool (syTo xs (log.drop i) w2 (log.drop i).length)) ∧ Below W'.heap.size W' w') := by
    unfold Hid
    intro i hi b off hL w2 hw2 W' hW hV
    subst hL
    have := stays_any hs h8 c (hl.drop i) (cl - i) W' hW hV w2 o1 hw2 (fun k hk => by
      rw [p2_drop]
      exact hall (i + k) (by rw [List.length_drop] at hk; omega))
    rw [List.length_drop] at this
    rw [List.length_drop]
    exact this
  clear h1 h2 hall o1 o3
  go_enter Try.func17, Try.ntmps17
  (go_wp2_with fail; refine (ValidLog_any hs h8 _ _ rfl _ (by repeat' (first | (with_reducible first | assumption | exact Below.refl _ _ | refine Below.drew ?_ | refine Below.alloc ?_ ?_ _ | refine Below.setCell ?_ ?_ _ | refine below_setR ?_ ?_ _ | refine below_dn ?_ _ | refine Below.trans ?_ (below_mo _ _ _ ?_) | refine Below.trans ?_ (below_mq _ _ ?_) | exact Nat.le_refl _) | (simp; done) | (simp; omega) | omega)) hl _ (by repeat' (first | (with_reducible first | assumption | exact Below.refl _ _ | refine Below.drew ?_ | refine Below.alloc ?_ ?_ _ | refine Below.setCell ?_ ?_ _ | refine below_setR ?_ ?_ _ | refine below_dn ?_ _ | refine Below.trans ?_ (below_mo _ _ _ ?_) | refine Below.trans ?_ (below_mq _ _ ?_) | exact Nat.le_refl _) | (simp; done) | (simp; omega) | omega))).mono ?_; rintro e w' ⟨rfl, hb_⟩; obtain ⟨os0, d0, rfl⟩ := mo_of hb_; clear hb_)
  rw [HK.out]
  (go_wp2_with fail; refine (hasWheelS_any _ _ _ _ hxl _).mono ?_; rintro e w' ⟨rfl, rfl⟩; rw [H2.out])
  go_wp2
  go_loopw [8] (fun i wr => ∃ (k : Nat) (os : Array Obj) (d : Nat), (k + 1 ≤ log.length ∨ k = 0) ∧ i = .int .i64 (k : Int) ∧ Hid (∀ j, j < k → ¬ QP xs log wn j) ∧ wr = mo w os d) (fun i _ => log.length - (intOf i).toNat)
  case atStart => exact ⟨0, _, _, .inr rfl, rfl, (fun j hj => absurd hj (by omega) : ∀ j, j < 0 → ¬ QP xs log wn j), rfl⟩
  case round =>
    obtain ⟨i, os, d, hk, rfl, HQ, rfl⟩ := hrel
    have e1 : IntKind.i64.wrap ((i : Int) + 1) = (i : Int) + 1 := IntWalk.i64_in _ ⟨by omega, by omega⟩
    by_cases hlt : (i : Int) + 1 < (log.length : Int)
    · have hin : i < log.length := by omega
      obtain ⟨b, off, hL, hbs, hc0, hc1⟩ := hl.at hv hin
      have S1 := Lib.hid (fun w2 hw2 W' hW hV => HSY.out i hin b off hL w2 hw2 W' hW hV)
      subst hL
      have g0 : (0 : Int) ≤ (i : Int) := by omega
      have g1 : (i : Int) ≤ (log.length : Int) := by omega
      have g2 : i ≤ log.length := by omega
      have g3 : (log.length : Int) ≤ (cl : Int) := by omega
      cases hS : syTo xs (log.drop i) wn (log.drop i).length
      · have HN : Hid (¬ QP xs log wn i) := fun hq => by
          have := (syTo_SyP hin).2 hq.2.1
          rw [hS] at this; cases this
        have HSF := Lib.hid hS
        clear hS
        (go_wp2_with fail; refine (S1.out wn (by omega) _ (by repeat' (first | (with_reducible first | assumption | exact Below.refl _ _ | refine Below.drew ?_ | refine Below.alloc ?_ ?_ _ | refine Below.setCell ?_ ?_ _ | refine below_setR ?_ ?_ _ | refine below_dn ?_ _ | refine Below.trans ?_ (below_mo _ _ _ ?_) | refine Below.trans ?_ (below_mq _ _ ?_) | exact Nat.le_refl _) | (simp; done) | (simp; omega) | omega)) (by repeat' (first | (with_reducible first | assumption | exact Below.refl _ _ | refine Below.drew ?_ | refine Below.alloc ?_ ?_ _ | refine Below.setCell ?_ ?_ _ | refine below_setR ?_ ?_ _ | refine below_dn ?_ _ | refine Below.trans ?_ (below_mo _ _ _ ?_) | refine Below.trans ?_ (below_mq _ _ ?_) | exact Nat.le_refl _) | (simp; done) | (simp; omega) | omega))).mono ?_; rintro e w' ⟨rfl, hb_⟩; rw [HSF.out]; obtain ⟨os_, d_, rfl⟩ := mo_of hb_; clear hb_)
        go_wp2
        exact ⟨rel_so (by omega) HQ HN.out (mo_of (by repeat' (first | (with_reducible first | assumption | exact Below.refl _ _ | refine Below.drew ?_ | refine Below.alloc ?_ ?_ _ | refine Below.setCell ?_ ?_ _ | refine below_setR ?_ ?_ _ | refine below_dn ?_ _ | refine Below.trans ?_ (below_mo _ _ _ ?_) | refine Below.trans ?_ (below_mq _ _ ?_) | exact Nat.le_refl _) | (simp; done) | (simp; omega) | omega))), by simp [intOf]; omega⟩
      · have HSW := Lib.hid ((syTo_SyP hin).1 hS)
        have HSF := Lib.hid hS
        have e2 : IntKind.i64.wrap ((wn : Int) + 1) = (wn : Int) + 1 := IntWalk.i64_in _ ⟨by omega, by omega⟩
        clear hS
        (go_wp2_with fail; refine (S1.out wn (by omega) _ (by repeat' (first | (with_reducible first | assumption | exact Below.refl _ _ | refine Below.drew ?_ | refine Below.alloc ?_ ?_ _ | refine Below.setCell ?_ ?_ _ | refine below_setR ?_ ?_ _ | refine below_dn ?_ _ | refine Below.trans ?_ (below_mo _ _ _ ?_) | refine Below.trans ?_ (below_mq _ _ ?_) | exact Nat.le_refl _) | (simp; done) | (simp; omega) | omega)) (by repeat' (first | (with_reducible first | assumption | exact Below.refl _ _ | refine Below.drew ?_ | refine Below.alloc ?_ ?_ _ | refine Below.setCell ?_ ?_ _ | refine below_setR ?_ ?_ _ | refine below_dn ?_ _ | refine Below.trans ?_ (below_mo _ _ _ ?_) | refine Below.trans ?_ (below_mq _ _ ?_) | exact Nat.le_refl _) | (simp; done) | (simp; omega) | omega))).mono ?_; rintro e w' ⟨rfl, hb_⟩; rw [HSF.out]; obtain ⟨os_, d_, rfl⟩ := mo_of hb_; clear hb_)
        go_wp2
        go_loopw [9] (fun v wr => ∃ (u : Nat) (os : Array Obj) (d : Nat), wn < u ∧ u ≤ xs.length ∧ v = .int .i64 (u : Int) ∧ Hid (∀ j, wn < j → j < u → SyP xs log i j) ∧ wr = mo w os d) (fun v _ => xs.length - (intOf v).toNat)
        case atStart => exact rel_sw (by omega) (mo_of (by repeat' (first | (with_reducible first | assumption | exact Below.refl _ _ | refine Below.drew ?_ | refine Below.alloc ?_ ?_ _ | refine Below.setCell ?_ ?_ _ | refine below_setR ?_ ?_ _ | refine below_dn ?_ _ | refine Below.trans ?_ (below_mo _ _ _ ?_) | refine Below.trans ?_ (below_mq _ _ ?_) | exact Nat.le_refl _) | (simp; done) | (simp; omega) | omega)))
        case round =>
          obtain ⟨u, os, d, hu1, hu2, rfl, HJ, rfl⟩ := hrel
          by_cases hlt2 : u < xs.length
          · have g4 : (u : Int) < (xs.length : Int) := by omega
            have e3 : IntKind.i64.wrap ((u : Int) + 1) = (u : Int) + 1 := IntWalk.i64_in _ ⟨by omega, by omega⟩
            cases hT : syTo xs (log.drop i) u (log.drop i).length
            · have HV := Lib.hid (ssR_at (xs := xs) (log := log) (wh := wn) (i := i) ⟨by omega, HSW.out, u, hu1, hlt2, fun hs' => by
                have := (syTo_SyP hin).2 hs'
                rw [hT] at this; cases this⟩ HQ.out)
              have HTF := Lib.hid hT
              clear hT
              (go_wp2_with fail; refine (S1.out u (by omega) _ (by repeat' (first | (with_reducible first | assumption | exact Below.refl _ _ | refine Below.drew ?_ | refine Below.alloc ?_ ?_ _ | refine Below.setCell ?_ ?_ _ | refine below_setR ?_ ?_ _ | refine below_dn ?_ _ | refine Below.trans ?_ (below_mo _ _ _ ?_) | refine Below.trans ?_ (below_mq _ _ ?_) | exact Nat.le_refl _) | (simp; done) | (simp; omega) | omega)) (by repeat' (first | (with_reducible first | assumption | exact Below.refl _ _ | refine Below.drew ?_ | refine Below.alloc ?_ ?_ _ | refine Below.setCell ?_ ?_ _ | refine below_setR ?_ ?_ _ | refine below_dn ?_ _ | refine Below.trans ?_ (below_mo _ _ _ ?_) | refine Below.trans ?_ (below_mq _ _ ?_) | exact Nat.le_refl _) | (simp; done) | (simp; omega) | omega))).mono ?_; rintro e w' ⟨rfl, hb_⟩; rw [HTF.out]; obtain ⟨os_, d_, rfl⟩ := mo_of hb_; clear hb_)
              go_wp2
              go_returns
              exact ⟨by rw [HR.out, HV.out]; first | done | rfl, (by repeat' (first | (with_reducible first | assumption | exact Below.refl _ _ | refine Below.drew ?_ | refine Below.alloc ?_ ?_ _ | refine Below.setCell ?_ ?_ _ | refine below_setR ?_ ?_ _ | refine below_dn ?_ _ | refine Below.trans ?_ (below_mo _ _ _ ?_) | refine Below.trans ?_ (below_mq _ _ ?_) | exact Nat.le_refl _) | (simp; done) | (simp; omega) | omega))⟩
            · have HTS := Lib.hid ((syTo_SyP hin).1 hT)
              have HTF := Lib.hid hT
              clear hT
              (go_wp2_with fail; refine (S1.out u (by omega) _ (by repeat' (first | (with_reducible first | assumption | exact Below.refl _ _ | refine Below.drew ?_ | refine Below.alloc ?_ ?_ _ | refine Below.setCell ?_ ?_ _ | refine below_setR ?_ ?_ _ | refine below_dn ?_ _ | refine Below.trans ?_ (below_mo _ _ _ ?_) | refine Below.trans ?_ (below_mq _ _ ?_) | exact Nat.le_refl _) | (simp; done) | (simp; omega) | omega)) (by repeat' (first | (with_reducible first | assumption | exact Below.refl _ _ | refine Below.drew ?_ | refine Below.alloc ?_ ?_ _ | refine Below.setCell ?_ ?_ _ | refine below_setR ?_ ?_ _ | refine below_dn ?_ _ | refine Below.trans ?_ (below_mo _ _ _ ?_) | refine Below.trans ?_ (below_mq _ _ ?_) | exact Nat.le_refl _) | (simp; done) | (simp; omega) | omega))).mono ?_; rintro e w' ⟨rfl, hb_⟩; rw [HTF.out]; obtain ⟨os_, d_, rfl⟩ := mo_of hb_; clear hb_)
              go_wp2
              exact ⟨rel_sv hu1 hlt2 HJ HTS.out (mo_of (by repeat' (first | (with_reducible first | assumption | exact Below.refl _ _ | refine Below.drew ?_ | refine Below.alloc ?_ ?_ _ | refine Below.setCell ?_ ?_ _ | refine below_setR ?_ ?_ _ | refine below_dn ?_ _ | refine Below.trans ?_ (below_mo _ _ _ ?_) | refine Below.trans ?_ (below_mq _ _ ?_) | exact Nat.le_refl _) | (simp; done) | (simp; omega) | omega))), by simp [intOf]; omega⟩
          · have HN : Hid (¬ QP xs log wn i) := fun hq => by
              obtain ⟨_, _, w2, h3, h4, h5⟩ := hq
              exact h5 (HJ.out w2 h3 (by omega))
            have g4 : ¬ (u : Int) < (xs.length : Int) := by omega
            go_wp2
            exact ⟨rel_so (by omega) HQ HN.out (mo_of (by repeat' (first | (with_reducible first | assumption | exact Below.refl _ _ | refine Below.drew ?_ | refine Below.alloc ?_ ?_ _ | refine Below.setCell ?_ ?_ _ | refine below_setR ?_ ?_ _ | refine below_dn ?_ _ | refine Below.trans ?_ (below_mo _ _ _ ?_) | refine Below.trans ?_ (below_mq _ _ ?_) | exact Nat.le_refl _) | (simp; done) | (simp; omega) | omega))), by simp [intOf]; omega⟩
    · have HV := Lib.hid (ssR_none (xs := xs) (log := log) (wh := wn) (fun k hq => by
        have := hq.1
        exact HQ.out k (by omega) hq))
      go_wp2
      go_returns
      exact ⟨by rw [HR.out, HV.out]; first | done | rfl, (by repeat' (first | (with_reducible first | assumption | exact Below.refl _ _ | refine Below.drew ?_ | refine Below.alloc ?_ ?_ _ | refine Below.setCell ?_ ?_ _ | refine below_setR ?_ ?_ _ | refine below_dn ?_ _ | refine Below.trans ?_ (below_mo _ _ _ ?_) | refine Below.trans ?_ (below_mq _ _ ?_) | exact Nat.le_refl _) | (simp; done) | (simp; omega) | omega))⟩
end Go.Proofs.Ytkphbagckbbalaa.X
