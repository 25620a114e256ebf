/- The nearest ratio, as the program finds it. Conditions: none. -/
import Derived.Test.YtinjlofefmjolaaKNearS
namespace Go.Proofs.Ytinjlofefmjolaa.X
open Go.RowKit
set_option linter.unusedVariables false
set_option linter.unusedSimpArgs false
set_option maxRecDepth 100000
theorem cnd_cases (P Q m q k : Int) (hm : 1 ≤ m) : ∃ mx, (if P * q / Q + k < 1 then 1 else P * q / Q + k) = mx ∧ (if m < mx then m else mx) = cnd P Q m q k := by
  refine ⟨_, rfl, ?_⟩
  unfold cnd
  split <;> split <;> omega
set_option maxHeartbeats 8000000 in
theorem implNearest_ok {r : Int × Int} (hr : RtOK r) {m : Int} (hm : 1 ≤ m ∧ m ≤ 1000) (w : World) :
    Calls Try.prog 20 #[.agg #[.int .i64 r.1, .int .i64 r.2], .int .i64 m] w fun e w' => e = .returned (.tuple #[.agg #[.int .i64 (bstN r.1 r.2 m m.toNat).1, .int .i64 (bstN r.1 r.2 m m.toNat).2], .int .i64 0]) ∧ Below w.heap.size w w' := by
  have KO := Lib.hid (fun W => ValidRatio_ok hr W)
  have hP := hr.p
  have hQ := hr.q
  clear hr
  obtain ⟨P, Q⟩ := r
  simp only at *
  have HM := Lib.hid (inMost hm)
  have HP := Lib.hid hP
  have HQ := Lib.hid hQ
  have HS := Lib.hid (fun (n j : Nat) (hn : (n : Int) < m) (hj : j < 2) => bJ_step (P := P) (Q := Q) (by omega) hQ.1 hm hn hj)
  obtain ⟨m0, m1⟩ := hm
  go_enter Try.func20, Try.ntmps20
  (go_wp2_with fail; refine (KO.out _).mono ?_; rintro e w' ⟨rfl, hb_⟩; obtain ⟨os0, d0, rfl⟩ := mo_of hb_; clear hb_)
  (go_wp2_with fail; refine (within_ok _ _ _ _).mono ?_; rintro e w' ⟨rfl, rfl⟩; rw [HM.out])
  go_wp2
  go_loopw [7] (fun i wr => ∃ (n : Nat) (os : Array Obj) (d : Nat), (n : Int) ≤ m ∧ i = .int .i64 ((n : Int) + 1) ∧ wr = mo ((mo ((w.alloc (.cells #[.int .i64 P, .int .i64 Q] 25)).alloc (.cells #[.int .i64 0, .int .i64 0] 25)) os0 d0).alloc (.cells #[.int .i64 (bJ P Q m n 0).1, .int .i64 (bJ P Q m n 0).2] 25)) os d) (fun i _ => (m + 1 - intOf i).toNat)
  case atStart => exact ⟨0, #[], _, by omega, rfl, (mo_nil _).symm⟩
  case round =>
    obtain ⟨n, os, d, hn, rfl, rfl⟩ := hrel
    by_cases hlt : (n : Int) < m
    · have g0 : (n : Int) + 1 ≤ m := by omega
      have hP' := HP.out
      have hQ' := HQ.out
      have x1 := mul_bdG (show 0 ≤ P ∧ P ≤ 1000000000 by omega) (show 0 ≤ (n : Int) + 1 ∧ (n : Int) + 1 ≤ 1000 by omega)
      obtain ⟨x2, x3, x4⟩ := fl_bd (P := P) (Q := Q) (q := (n : Int) + 1) (by omega) hQ'.1 (by omega)
      have x5 : P * ((n : Int) + 1) / Q ≤ P * ((n : Int) + 1) := Int.ediv_le_self _ x1.1
      have e1 : IntKind.i64.wrap (P * ((n : Int) + 1)) = P * ((n : Int) + 1) := IntWalk.i64_in _ ⟨by omega, by omega⟩
      have e2 : (P * ((n : Int) + 1)).tdiv Q = P * ((n : Int) + 1) / Q := Int.tdiv_eq_ediv_of_nonneg x1.1
      have e3 : IntKind.i64.wrap (P * ((n : Int) + 1) / Q) = P * ((n : Int) + 1) / Q := IntWalk.i64_in _ ⟨by omega, by omega⟩
      have z1 : ¬ Q = 0 := by omega
      have z2 : (Q == 0) = false := beq_eq_false_iff_ne.2 z1
      have HCC := Lib.hid (fun (k : Int) => cnd_cases P Q m ((n : Int) + 1) k m0)
      have hxb : 0 ≤ P * ((n : Int) + 1) / Q ∧ P * ((n : Int) + 1) / Q ≤ 1000000000000 := by omega
      clear x1 x2 x3 x4 x5
      generalize hX : P * ((n : Int) + 1) / Q = X at *
      have HX := Lib.hid hX
      clear hX
      have e6 : IntKind.i64.wrap (X + 1) = X + 1 := IntWalk.i64_in _ ⟨by omega, by omega⟩
      go_wp2
      go_loopw [9] (fun i wr => ∃ (j : Nat) (y : Int), y = X + (j : Int) ∧ j ≤ 2 ∧ i = .int .i64 y ∧ ∃ (os : Array Obj) (d : Nat), wr = mo ((mo ((w.alloc (.cells #[.int .i64 P, .int .i64 Q] 25)).alloc (.cells #[.int .i64 0, .int .i64 0] 25)) os0 d0).alloc (.cells #[.int .i64 (bJ P Q m n j).1, .int .i64 (bJ P Q m n j).2] 25)) os d) (fun i _ => (X + 2 - intOf i).toNat)
      case atStart => exact ⟨0, X, by simp, by omega, rfl, os, d, rfl⟩
      case round =>
        obtain ⟨j, y, hy, hj, rfl, ps, dm, rfl⟩ := hrel
        have e7 : IntKind.i64.wrap (y + 1) = y + 1 := IntWalk.i64_in _ ⟨by omega, by omega⟩
        by_cases hj2 : j < 2
        · have g1 : y ≤ X + 1 := by omega
          obtain ⟨⟨s1, s2⟩, hstep⟩ := HS.out n j hlt hj2
          obtain ⟨c0, c1⟩ := cnd_bd (P := P) (Q := Q) (m := m) (q := (n : Int) + 1) (k := j) m0
          obtain ⟨mx, k1, k2⟩ := HCC.out (j : Int)
          rw [← hy] at k1
          generalize cnd P Q m ((n : Int) + 1) (j : Int) = c at *
          generalize hb : bJ P Q m n j = b at *
          generalize hb' : bJ P Q m n (j + 1) = b' at *
          have q1 : 1 ≤ (n : Int) + 1 ∧ (n : Int) + 1 ≤ 1000 := by omega
          have HY := Lib.hid hy
          have HB := Lib.hid hb'
          clear hy hb hb'
          rcases hstep with ⟨s3, rfl⟩ | ⟨s3, rfl⟩
          · have KN := Lib.hid (fun W => nearer_ok (P := P) (Q := Q) (a := c) (b := (n : Int) + 1) (c := b.1) (d := b.2) hP' hQ' ⟨c0, by omega⟩ q1 s1 s2 W)
            have n1 : nrV P Q c ((n : Int) + 1) b.1 b.2 < 0 := nrV_lt.2 s3
            clear s1 s2 s3
            (go_wp2_with fail; refine (KN.out _).mono ?_; rintro e w' ⟨rfl, hb_⟩; obtain ⟨os3, d3, rfl⟩ := mo_of hb_; clear hb_)
            go_wp2
            exact ⟨⟨j + 1, y + 1, by have := HY.out; omega, by omega, rfl, by rw [HB.out]; exact mo_of (by repeat' (first | (with_reducible first | assumption | exact Below.refl _ _ | refine Below.drew ?_ | refine Below.alloc ?_ ?_ _ | refine Below.setCell ?_ ?_ _ | refine below_setR ?_ ?_ _ | refine below_dn ?_ _ | refine Below.trans ?_ (below_mo _ _ _ ?_) | refine Below.trans ?_ (below_mq _ _ ?_) | exact Nat.le_refl _) | (simp; done) | (simp; omega) | omega))⟩, by simp [intOf]; omega⟩
          · have KN := Lib.hid (fun W => nearer_ok (P := P) (Q := Q) (a := c) (b := (n : Int) + 1) (c := b'.1) (d := b'.2) hP' hQ' ⟨c0, by omega⟩ q1 s1 s2 W)
            have n1 : ¬ nrV P Q c ((n : Int) + 1) b'.1 b'.2 < 0 := fun h => s3 (nrV_lt.1 h)
            clear s1 s2 s3
            (go_wp2_with fail; refine (KN.out _).mono ?_; rintro e w' ⟨rfl, hb_⟩; obtain ⟨os3, d3, rfl⟩ := mo_of hb_; clear hb_)
            go_wp2
            exact ⟨⟨j + 1, y + 1, by have := HY.out; omega, by omega, rfl, by rw [HB.out]; exact mo_of (by repeat' (first | (with_reducible first | assumption | exact Below.refl _ _ | refine Below.drew ?_ | refine Below.alloc ?_ ?_ _ | refine Below.setCell ?_ ?_ _ | refine below_setR ?_ ?_ _ | refine below_dn ?_ _ | refine Below.trans ?_ (below_mo _ _ _ ?_) | refine Below.trans ?_ (below_mq _ _ ?_) | exact Nat.le_refl _) | (simp; done) | (simp; omega) | omega))⟩, by simp [intOf]; omega⟩
        · obtain rfl : j = 2 := by omega
          have g1 : ¬ y ≤ X + 1 := by omega
          have e5 : IntKind.i64.wrap ((n : Int) + 1 + 1) = (n : Int) + 1 + 1 := IntWalk.i64_in _ ⟨by omega, by omega⟩
          go_wp2
          exact ⟨⟨n + 1, _, _, by omega, by go_num, rfl⟩, by simp [intOf]; omega⟩
    · obtain rfl : m = (n : Int) := by omega
      have g0 : ¬ (n : Int) + 1 ≤ (n : Int) := by omega
      have HV : Hid (bJ P Q (n : Int) n 0 = bstN P Q (n : Int) n) := rfl
      go_wp2
      go_returns
      exact ⟨by rw [HV.out], (by repeat' (first | (with_reducible first | assumption | exact Below.refl _ _ | refine Below.drew ?_ | refine Below.alloc ?_ ?_ _ | refine Below.setCell ?_ ?_ _ | refine below_setR ?_ ?_ _ | refine below_dn ?_ _ | refine Below.trans ?_ (below_mo _ _ _ ?_) | refine Below.trans ?_ (below_mq _ _ ?_) | exact Nat.le_refl _) | (simp; done) | (simp; omega) | omega))⟩
end Go.Proofs.Ytinjlofefmjolaa.X
