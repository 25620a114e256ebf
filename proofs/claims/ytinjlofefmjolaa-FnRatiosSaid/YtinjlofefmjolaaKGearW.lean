/- Ratios and trains: what the program and the reference compute. Conditions: none. -/
import Derived.Test.YtinjlofefmjolaaKGearL
import Derived.Test.YtinjlofefmjolaaKStack
namespace Go.Proofs.Ytinjlofefmjolaa.X
open Go.RowKit
set_option linter.unusedVariables false
set_option linter.unusedSimpArgs false
set_option maxRecDepth 100000
theorem gcd_step {a b : Int} (ha : 0 ≤ a) (hb : 0 ≤ b) : Int.gcd b (a % b) = Int.gcd a b := by
  obtain ⟨x, rfl⟩ := Int.eq_ofNat_of_zero_le ha
  obtain ⟨y, rfl⟩ := Int.eq_ofNat_of_zero_le hb
  rw [← Int.natCast_emod]
  show Nat.gcd y (x % y) = Nat.gcd x y
  rw [Nat.gcd_comm y, ← Nat.gcd_rec, Nat.gcd_comm]
theorem gcd_end {x p q : Int} (hx : 0 ≤ x) (h : Int.gcd x 0 = Int.gcd p q) : x = gI p q := by
  unfold gI
  rw [← h, Int.gcd_zero_right]
  omega
set_option maxHeartbeats 1000000 in
theorem gcd_any (p q : Int) (hp : 0 ≤ p ∧ p ≤ 4611686018427387904) (hq : 0 ≤ q ∧ q ≤ 4611686018427387904) (w : World) : Calls Try.prog 50 #[.int .i64 p, .int .i64 q] w fun e w' => e = .returned (.int .i64 (gI p q)) ∧ Below w.heap.size w w' := by
  go_enter Try.func50, Try.ntmps50
  go_wp2
  go_loopw [0, 1] (fun a b wr => ∃ (x y : Int) (os : Array Obj) (dn : Nat), a = .int .i64 x ∧ b = .int .i64 y ∧ (0 ≤ x ∧ x ≤ 4611686018427387904) ∧ (0 ≤ y ∧ y ≤ 4611686018427387904) ∧ Hid (Int.gcd x y = Int.gcd p q) ∧ wr = mo w os dn) (fun _ b _ => (intOf b).toNat)
  case atStart => exact ⟨p, q, #[], _, rfl, rfl, hp, hq, (rfl : Int.gcd p q = Int.gcd p q), (mo_nil _).symm⟩
  case round =>
    obtain ⟨x, y, os, dn, rfl, rfl, ⟨x0, x1⟩, ⟨y0, y1⟩, HG, rfl⟩ := hrel
    by_cases hy : y = 0
    · subst hy
      have HR := Lib.hid (gcd_end x0 HG.out)
      go_wp2
      go_ret
      exact ⟨congrArg (fun z => Ending.returned (Value.int .i64 z)) HR.out, (by repeat' (first | (with_reducible first | assumption | exact Below.refl _ _ | refine Below.drew ?_ | refine Below.alloc ?_ ?_ _ | refine Below.setCell ?_ ?_ _ | refine below_setR ?_ ?_ _ | refine below_dn ?_ _ | refine Below.trans ?_ (below_mo _ _ _ ?_) | refine Below.trans ?_ (below_mq _ _ ?_) | exact Nat.le_refl _) | (simp; done) | (simp; omega) | omega))⟩
    · have z1 : (y == 0) = false := beq_eq_false_iff_ne.2 hy
      have m0 := Int.emod_nonneg x hy
      have m1 := Int.emod_lt_of_pos x (show 0 < y by omega)
      have e1 : x.tmod y = x % y := Int.tmod_eq_emod_of_nonneg x0
      have e2 : IntKind.i64.wrap (x % y) = x % y := IntWalk.i64_in _ ⟨by omega, by omega⟩
      go_wp2
      go_quiet (fail)
      go_wp2
      exact ⟨⟨y, x % y, _, _, rfl, rfl, ⟨y0, y1⟩, ⟨m0, by omega⟩, (gcd_step x0 y0).trans HG.out, by first | rfl | exact mo_drewN _ _ _ _⟩, by simp [intOf]; omega⟩
set_option maxHeartbeats 1000000 in
theorem l03Gcd_any (p q : Int) (hp : 0 ≤ p ∧ p ≤ 4611686018427387904) (hq : 0 ≤ q ∧ q ≤ 4611686018427387904) (w : World) : Calls Try.prog 87 #[.int .i64 p, .int .i64 q] w fun e w' => e = .returned (.int .i64 (gI p q)) ∧ w = w' := by
  go_enter Try.func87, Try.ntmps87
  go_wp2
  go_loop [0, 1] (fun a b => ∃ x y : Int, a = .int .i64 x ∧ b = .int .i64 y ∧ (0 ≤ x ∧ x ≤ 4611686018427387904) ∧ (0 ≤ y ∧ y ≤ 4611686018427387904) ∧ Hid (Int.gcd x y = Int.gcd p q)) (fun _ b => (intOf b).toNat)
  case atStart => exact ⟨p, q, rfl, rfl, hp, hq, (rfl : Int.gcd p q = Int.gcd p q)⟩
  case round =>
    obtain ⟨x, y, rfl, rfl, ⟨x0, x1⟩, ⟨y0, y1⟩, HG⟩ := hrel
    by_cases hy : y = 0
    · subst hy
      have HR := Lib.hid (gcd_end x0 HG.out)
      go_wp2
      go_ret
      exact ⟨congrArg (fun z => Ending.returned (Value.int .i64 z)) HR.out, rfl⟩
    · have z1 : (y == 0) = false := beq_eq_false_iff_ne.2 hy
      have m0 := Int.emod_nonneg x hy
      have m1 := Int.emod_lt_of_pos x (show 0 < y by omega)
      have e1 : x.tmod y = x % y := Int.tmod_eq_emod_of_nonneg x0
      have e2 : IntKind.i64.wrap (x % y) = x % y := IntWalk.i64_in _ ⟨by omega, by omega⟩
      go_wp2
      exact ⟨⟨y, x % y, rfl, rfl, ⟨y0, y1⟩, ⟨m0, by omega⟩, (gcd_step x0 y0).trans HG.out⟩, by simp [intOf]; omega⟩
theorem inG {n : Int} (h : 1 ≤ n ∧ n ≤ 1000000000) : inR n 1 1000000000 = true := inR_t.2 h
set_option maxHeartbeats 1000000 in
theorem ValidRatio_ok {r : Int × Int} (h : RtOK r) (w : World) : Calls Try.prog 14 #[.agg #[.int .i64 r.1, .int .i64 r.2]] w fun e w' => e = .returned (.bool true) ∧ Below w.heap.size w w' := by
  obtain ⟨p, q⟩ := r
  have H1 := Lib.hid (inG h.p)
  have H2 := Lib.hid (inG h.q)
  have K := Lib.hid (gcd_any p q ⟨by have := h.p; simp only at this; omega, by have := h.p; simp only at this; omega⟩ ⟨by have := h.q; simp only at this; omega, by have := h.q; simp only at this; omega⟩)
  rw [gI_one h.g] at K
  go_enter Try.func14, Try.ntmps14
  (go_wp2_with fail; refine (within_ok _ _ _ _).mono ?_; rintro e w' ⟨rfl, rfl⟩; rw [H1.out])
  (go_wp2_with fail; refine (within_ok _ _ _ _).mono ?_; rintro e w' ⟨rfl, rfl⟩; rw [H2.out])
  (go_wp2_with fail; refine (K.out _).mono ?_; rintro e w' ⟨rfl, hb_⟩; obtain ⟨os0, d0, rfl⟩ := mo_of hb_; clear hb_)
  go_wp2
  go_ret
  exact ⟨rfl, (by repeat' (first | (with_reducible first | assumption | exact Below.refl _ _ | refine Below.drew ?_ | refine Below.alloc ?_ ?_ _ | refine Below.setCell ?_ ?_ _ | refine below_setR ?_ ?_ _ | refine below_dn ?_ _ | refine Below.trans ?_ (below_mo _ _ _ ?_) | refine Below.trans ?_ (below_mq _ _ ?_) | exact Nat.le_refl _) | (simp; done) | (simp; omega) | omega))⟩
set_option maxHeartbeats 1000000 in
theorem l03Ok_ok {r : Int × Int} (h : RtOK r) (w : World) : Calls Try.prog 42 #[.agg #[.int .i64 r.1, .int .i64 r.2]] w fun e w' => e = .returned (.bool true) ∧ Below w.heap.size w w' := by
  obtain ⟨p, q⟩ := r
  have H1 := Lib.hid (inG h.p)
  have H2 := Lib.hid (inG h.q)
  have K := Lib.hid (l03Gcd_any p q ⟨by have := h.p; simp only at this; omega, by have := h.p; simp only at this; omega⟩ ⟨by have := h.q; simp only at this; omega, by have := h.q; simp only at this; omega⟩)
  rw [gI_one h.g] at K
  go_enter Try.func42, Try.ntmps42
  (go_wp2_with fail; refine (l00In_ok _ _ _ _).mono ?_; rintro e w' ⟨rfl, rfl⟩; rw [H1.out])
  (go_wp2_with fail; refine (l00In_ok _ _ _ _).mono ?_; rintro e w' ⟨rfl, rfl⟩; rw [H2.out])
  (go_wp2_with fail; refine (K.out _).mono ?_; rintro e w' ⟨rfl, rfl⟩)
  go_wp2
  go_ret
  exact ⟨rfl, (by repeat' (first | (with_reducible first | assumption | exact Below.refl _ _ | refine Below.drew ?_ | refine Below.alloc ?_ ?_ _ | refine Below.setCell ?_ ?_ _ | refine below_setR ?_ ?_ _ | refine below_dn ?_ _ | refine Below.trans ?_ (below_mo _ _ _ ?_) | refine Below.trans ?_ (below_mq _ _ ?_) | exact Nat.le_refl _) | (simp; done) | (simp; omega) | omega))⟩
theorem div_gI {p q : Int} (hp : 1 ≤ p) (hq : 1 ≤ q) : (¬ gI p q = 0 ∧ (gI p q == 0) = false) ∧ p.tdiv (gI p q) = (red p q).1 ∧ q.tdiv (gI p q) = (red p q).2 := by
  have g := gI_pos (p := p) hq
  exact ⟨⟨by omega, beq_eq_false_iff_ne.2 (by omega)⟩, Int.tdiv_eq_ediv_of_nonneg (by omega), Int.tdiv_eq_ediv_of_nonneg (by omega)⟩
/-- numbers that can be made a ratio -/
structure MkOK (p q : Int) : Prop where
  p : 1 ≤ p ∧ p ≤ 4611686018427387904
  q : 1 ≤ q ∧ q ≤ 4611686018427387904
theorem MkOK.rt {p q : Int} (h : MkOK p q) (h1 : (red p q).1 ≤ 1000000000) (h2 : (red p q).2 ≤ 1000000000) : RtOK (red p q) := by
  have := red_pos h.p.1 h.q.1
  exact ⟨⟨this.1.1, h1⟩, ⟨this.2.1, h2⟩, red_cop h.q.1⟩
set_option maxHeartbeats 2000000 in
theorem l03Made_ok {p q : Int} (h : MkOK p q) (hr : RtOK (red p q)) (w : World) : Calls Try.prog 53 #[.int .i64 p, .int .i64 q] w fun e w' => e = .returned (.tuple #[.agg #[.int .i64 (red p q).1, .int .i64 (red p q).2], .int .i64 0]) ∧ Below w.heap.size w w' := by
  obtain ⟨p0, p1⟩ := h.p
  obtain ⟨q0, q1⟩ := h.q
  obtain ⟨⟨z0, z1⟩, e1, e2⟩ := div_gI p0 q0
  obtain ⟨r0, r1⟩ := hr.p
  obtain ⟨r2, r3⟩ := hr.q
  have K := Lib.hid (l03Ok_ok hr)
  have G := Lib.hid (l03Gcd_any p q ⟨by omega, p1⟩ ⟨by omega, q1⟩)
  have e3 : IntKind.i64.wrap (red p q).1 = (red p q).1 := IntWalk.i64_in _ ⟨by omega, by omega⟩
  have e4 : IntKind.i64.wrap (red p q).2 = (red p q).2 := IntWalk.i64_in _ ⟨by omega, by omega⟩
  clear h hr
  generalize (red p q).1 = a at *
  generalize (red p q).2 = b at *
  generalize gI p q = g at *
  go_enter Try.func53, Try.ntmps53
  (go_wp2_with fail; refine (G.out _).mono ?_; rintro e w' ⟨rfl, rfl⟩)
  go_wp2
  go_region_with (fail)
  (go_wp2_with fail; refine (K.out _).mono ?_; rintro e w' ⟨rfl, hb_⟩; obtain ⟨os0, d0, rfl⟩ := mo_of hb_; clear hb_)
  go_wp2
  go_returns
  exact ⟨rfl, (by repeat' (first | (with_reducible first | assumption | exact Below.refl _ _ | refine Below.drew ?_ | refine Below.alloc ?_ ?_ _ | refine Below.setCell ?_ ?_ _ | refine below_setR ?_ ?_ _ | refine below_dn ?_ _ | refine Below.trans ?_ (below_mo _ _ _ ?_) | refine Below.trans ?_ (below_mq _ _ ?_) | exact Nat.le_refl _) | (simp; done) | (simp; omega) | omega))⟩
set_option maxHeartbeats 2000000 in
theorem reduced_ok {p q : Int} (h : MkOK p q) (w : World) : Calls Try.prog 62 #[.int .i64 p, .int .i64 q] w fun e w' => e = .returned (.agg #[.int .i64 (red p q).1, .int .i64 (red p q).2]) ∧ Below w.heap.size w w' := by
  obtain ⟨p0, p1⟩ := h.p
  obtain ⟨q0, q1⟩ := h.q
  obtain ⟨⟨z0, z1⟩, e1, e2⟩ := div_gI p0 q0
  obtain ⟨⟨r0, r1⟩, r2, r3⟩ := red_pos p0 q0
  have G := Lib.hid (gcd_any p q ⟨by omega, p1⟩ ⟨by omega, q1⟩)
  have e3 : IntKind.i64.wrap (red p q).1 = (red p q).1 := IntWalk.i64_in _ ⟨by omega, by omega⟩
  have e4 : IntKind.i64.wrap (red p q).2 = (red p q).2 := IntWalk.i64_in _ ⟨by omega, by omega⟩
  clear h
  generalize (red p q).1 = a at *
  generalize (red p q).2 = b at *
  generalize gI p q = g at *
  go_enter Try.func62, Try.ntmps62
  (go_wp2_with fail; refine (G.out _).mono ?_; rintro e w' ⟨rfl, hb_⟩; obtain ⟨os0, d0, rfl⟩ := mo_of hb_; clear hb_)
  go_wp2
  go_region_with (fail)
  go_wp2
  go_returns
  exact ⟨rfl, (by repeat' (first | (with_reducible first | assumption | exact Below.refl _ _ | refine Below.drew ?_ | refine Below.alloc ?_ ?_ _ | refine Below.setCell ?_ ?_ _ | refine below_setR ?_ ?_ _ | refine below_dn ?_ _ | refine Below.trans ?_ (below_mo _ _ _ ?_) | refine Below.trans ?_ (below_mq _ _ ?_) | exact Nat.le_refl _) | (simp; done) | (simp; omega) | omega))⟩
end Go.Proofs.Ytinjlofefmjolaa.X
