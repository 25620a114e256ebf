/- The nearest ratio, as the reference finds it. Conditions: none. -/
import Derived.Test.YtinjlofefmjolaaKNearW
namespace Go.Proofs.Ytinjlofefmjolaa.X
open Go.RowKit
set_option linter.unusedVariables false
set_option linter.unusedSimpArgs false
set_option maxRecDepth 100000
theorem inMost {m : Int} (h : 1 ≤ m ∧ m ≤ 1000) : inR m 1 1000 = true := inR_t.2 h
set_option maxHeartbeats 8000000 in
theorem specNearest_ok {r : Int × Int} (hr : RtOK r) {m : Int} (hm : 1 ≤ m ∧ m ≤ 1000) (w : World) :
    Calls Try.prog 21 #[.agg #[.int .i64 r.1, .int .i64 r.2], .int .i64 m] w fun e w' => e = .returned (.tuple #[.agg #[.int .i64 (bstN r.1 r.2 m m.toNat).1, .int .i64 (bstN r.1 r.2 m m.toNat).2], .int .i64 0]) ∧ Below w.heap.size w w' := by
  have KO := Lib.hid (fun W => l03Ok_ok hr W)
  have hP := hr.p
  have hQ := hr.q
  clear hr
  obtain ⟨P, Q⟩ := r
  simp only at *
  have HM := Lib.hid (inMost hm)
  have HP := Lib.hid hP
  have HQ := Lib.hid hQ
  have HM2 := Lib.hid hm
  have HB := Lib.hid (fun (n : Nat) (hn : (n : Int) ≤ m) => bst_sm (P := P) (Q := Q) (by omega) hQ.1 hm hn)
  have HS := Lib.hid (fun (n j : Nat) (hn : (n : Int) < m) (hj : j < 2) => bI_step (P := P) (Q := Q) (by omega) hQ.1 hm hn hj)
  obtain ⟨m0, m1⟩ := hm
  go_enter Try.func21, Try.ntmps21
  (go_wp2_with fail; refine (KO.out _).mono ?_; rintro e w' ⟨rfl, hb_⟩; obtain ⟨os0, d0, rfl⟩ := mo_of hb_; clear hb_)
  (go_wp2_with fail; refine (l00In_ok _ _ _ _).mono ?_; rintro e w' ⟨rfl, rfl⟩; rw [HM.out])
  go_wp2
  go_loopw [7] (fun i wr => ∃ (n : Nat) (os : Array Obj) (d : Nat), (n : Int) ≤ m ∧ i = .int .i64 ((n : Int) + 1) ∧ wr = mo ((mo ((w.alloc (.cells #[.int .i64 P, .int .i64 Q] 25)).alloc (.cells #[.int .i64 0, .int .i64 0] 25)) os0 d0).alloc (.cells #[.int .i64 (bI P Q m n 0).1, .int .i64 (bI P Q m n 0).2] 25)) os d) (fun i _ => (m + 1 - intOf i).toNat)
  case atStart => exact ⟨0, #[], _, by omega, rfl, (mo_nil _).symm⟩
  case round =>
    obtain ⟨n, os, d, hn, rfl, rfl⟩ := hrel
    by_cases hlt : (n : Int) < m
    · have g0 : (n : Int) + 1 ≤ m := by omega
      go_wp2
      go_loopw [8] (fun i wr => ∃ (j : Nat) (os : Array Obj) (d : Nat), j ≤ 2 ∧ i = .int .i64 (j : Int) ∧ wr = mo ((mo ((w.alloc (.cells #[.int .i64 P, .int .i64 Q] 25)).alloc (.cells #[.int .i64 0, .int .i64 0] 25)) os0 d0).alloc (.cells #[.int .i64 (bI P Q m n j).1, .int .i64 (bI P Q m n j).2] 25)) os d) (fun i _ => 2 - (intOf i).toNat)
      case atStart => exact ⟨0, os, d, by omega, rfl, rfl⟩
      case round =>
        obtain ⟨j, ps, dm, hj, rfl, rfl⟩ := hrel
        by_cases hj2 : j < 2
        · have hstep := HS.out n j hlt hj2
          have KX : ∀ W, Calls Try.prog 59 #[.int .i64 1, .int .i64 (min m (P * ((n : Int) + 1) / Q + (j : Int)))] W fun e w' => e = .returned (.int .i64 (cnd P Q m ((n : Int) + 1) j)) ∧ W = w' := fun W => l00Max_ok _ _ W
          obtain ⟨c0, c1⟩ := cnd_bd (P := P) (Q := Q) (m := m) (q := (n : Int) + 1) (k := j) m0
          have hP' := HP.out
          have hQ' := HQ.out
          have x1 := mul_bdG (show 0 ≤ P ∧ P ≤ 1000000000 by omega) (show 0 ≤ (n : Int) + 1 ∧ (n : Int) + 1 ≤ 1000 by omega)
          obtain ⟨x2, x3, x4⟩ := fl_bd (P := P) (Q := Q) (q := (n : Int) + 1) (by omega) hQ'.1 (by omega)
          have x5 : P * ((n : Int) + 1) / Q ≤ P * ((n : Int) + 1) := Int.ediv_le_self _ x1.1
          have e1 : IntKind.i64.wrap (P * ((n : Int) + 1)) = P * ((n : Int) + 1) := IntWalk.i64_in _ ⟨by omega, by omega⟩
          have e2 : (P * ((n : Int) + 1)).tdiv Q = P * ((n : Int) + 1) / Q := Int.tdiv_eq_ediv_of_nonneg x1.1
          have e3 : IntKind.i64.wrap (P * ((n : Int) + 1) / Q) = P * ((n : Int) + 1) / Q := IntWalk.i64_in _ ⟨by omega, by omega⟩
          have e4 : IntKind.i64.wrap (P * ((n : Int) + 1) / Q + (j : Int)) = P * ((n : Int) + 1) / Q + (j : Int) := IntWalk.i64_in _ ⟨by omega, by omega⟩
          have e5 : IntKind.i64.wrap ((j : Int) + 1) = (j : Int) + 1 := IntWalk.i64_in _ ⟨by omega, by omega⟩
          have z1 : ¬ Q = 0 := by omega
          have z2 : (Q == 0) = false := beq_eq_false_iff_ne.2 z1
          have z3 : (j : Int) < 2 := by omega
          generalize cnd P Q m ((n : Int) + 1) (j : Int) = c at *
          generalize hb : bI P Q m n j = b at *
          generalize hb' : bI P Q m n (j + 1) = b' at *
          clear x1 x2 x3 x4 x5
          have q1 : 1 ≤ (n : Int) + 1 ∧ (n : Int) + 1 ≤ 1000 := by omega
          have HX := Lib.hid KX
          clear KX
          rcases hstep with ⟨rfl, rfl⟩ | ⟨⟨s1, s2⟩, ⟨s3, rfl⟩ | ⟨s3, rfl⟩⟩
          · have HE := Lib.hid hb'
            clear hb hb'
            (go_wp2_with fail; refine (l00Min_ok _ _ _).mono ?_; rintro e w' ⟨rfl, rfl⟩)
            (go_wp2_with fail; refine (HX.out _).mono ?_; rintro e w' ⟨rfl, rfl⟩)
            go_wp2
            exact ⟨⟨j + 1, _, _, by omega, by go_num, by rw [HE.out]⟩, by simp [intOf]; omega⟩
          · have HE := Lib.hid hb'
            have KN := Lib.hid (fun W => l03Nearer_ok (P := P) (Q := Q) (a := c) (b := (n : Int) + 1) (c := b.1) (d := b.2) hP' hQ' ⟨c0, by omega⟩ q1 s1 s2 W)
            have n1 : nrV P Q c ((n : Int) + 1) b.1 b.2 < 0 := nrV_lt.2 s3
            have z4 : (b.2 == 0) = false := beq_eq_false_iff_ne.2 (by have := s2.1; omega)
            have z5 : ¬ b.2 = 0 := by have := s2.1; omega
            clear hb hb' s1 s2 s3
            (go_wp2_with fail; refine (l00Min_ok _ _ _).mono ?_; rintro e w' ⟨rfl, rfl⟩)
            (go_wp2_with fail; refine (HX.out _).mono ?_; rintro e w' ⟨rfl, rfl⟩)
            (go_wp2_with fail; refine (KN.out _).mono ?_; rintro e w' ⟨rfl, hb_⟩; obtain ⟨os3, d3, rfl⟩ := mo_of hb_; clear hb_)
            go_wp2
            exact ⟨⟨j + 1, _, _, by omega, by go_num, by rw [HE.out]; exact mo_mo _ _ _ _ _⟩, by simp [intOf]; omega⟩
          · have HE := Lib.hid hb'
            have KN := Lib.hid (fun W => l03Nearer_ok (P := P) (Q := Q) (a := c) (b := (n : Int) + 1) (c := b'.1) (d := b'.2) hP' hQ' ⟨c0, by omega⟩ q1 s1 s2 W)
            have n1 : ¬ nrV P Q c ((n : Int) + 1) b'.1 b'.2 < 0 := fun h => s3 (nrV_lt.1 h)
            have z4 : (b'.2 == 0) = false := beq_eq_false_iff_ne.2 (by have := s2.1; omega)
            have z5 : ¬ b'.2 = 0 := by have := s2.1; omega
            clear hb hb' s1 s2 s3
            (go_wp2_with fail; refine (l00Min_ok _ _ _).mono ?_; rintro e w' ⟨rfl, rfl⟩)
            (go_wp2_with fail; refine (HX.out _).mono ?_; rintro e w' ⟨rfl, rfl⟩)
            (go_wp2_with fail; refine (KN.out _).mono ?_; rintro e w' ⟨rfl, hb_⟩; obtain ⟨os3, d3, rfl⟩ := mo_of hb_; clear hb_)
            go_wp2
            exact ⟨⟨j + 1, _, _, by omega, by go_num, by rw [HE.out]; exact mo_mo _ _ _ _ _⟩, by simp [intOf]; omega⟩
        · obtain rfl : j = 2 := by omega
          have e5 : IntKind.i64.wrap ((n : Int) + 1 + 1) = (n : Int) + 1 + 1 := IntWalk.i64_in _ ⟨by omega, by omega⟩
          go_wp2
          exact ⟨⟨n + 1, _, _, by omega, by go_num, rfl⟩, by simp [intOf]; omega⟩
    · obtain rfl : m = (n : Int) := by omega
      have g0 : ¬ (n : Int) + 1 ≤ (n : Int) := by omega
      have HV : Hid (bI P Q (n : Int) n 0 = bstN P Q (n : Int) n) := if_neg (by omega)
      go_wp2
      go_returns
      exact ⟨by rw [HV.out], (by repeat' (first | (with_reducible first | assumption | exact Below.refl _ _ | refine Below.drew ?_ | refine Below.alloc ?_ ?_ _ | refine Below.setCell ?_ ?_ _ | refine below_setR ?_ ?_ _ | refine below_dn ?_ _ | refine Below.trans ?_ (below_mo _ _ _ ?_) | refine Below.trans ?_ (below_mq _ _ ?_) | exact Nat.le_refl _) | (simp; done) | (simp; omega) | omega))⟩
end Go.Proofs.Ytinjlofefmjolaa.X
