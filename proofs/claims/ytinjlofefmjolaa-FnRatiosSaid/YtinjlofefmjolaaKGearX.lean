/- Products of ratios, trains: what the program and the reference compute. Conditions: none. -/
import Derived.Test.YtinjlofefmjolaaKGearW
import Derived.Deep.RegionHeld3
namespace Go.Proofs.Ytinjlofefmjolaa.X
open Go.RowKit
set_option linter.unusedVariables false
set_option linter.unusedSimpArgs false
set_option maxRecDepth 100000
theorem mul_bdG {a b A B : Int} (ha : 0 ≤ a ∧ a ≤ A) (hb : 0 ≤ b ∧ b ≤ B) : 0 ≤ a * b ∧ a * b ≤ A * B :=
  ⟨Int.mul_nonneg ha.1 hb.1, Int.mul_le_mul ha.2 hb.2 hb.1 (Int.le_trans ha.1 ha.2)⟩
theorem mk_of {r s : Int × Int} (hr : RtOK r) (hs : RtOK s) : MkOK r.1 s.2 := ⟨⟨hr.p.1, by have := hr.p; omega⟩, ⟨hs.q.1, by have := hs.q; omega⟩⟩
set_option maxHeartbeats 4000000 in
theorem times_ok {r s : Int × Int} (hr : RtOK r) (hs : RtOK s) (w : World) : Calls Try.prog 54 #[.agg #[.int .i64 r.1, .int .i64 r.2], .agg #[.int .i64 s.1, .int .i64 s.2]] w fun e w' => e = .returned (.agg #[.int .i64 (tmR r s).1, .int .i64 (tmR r s).2]) ∧ Below w.heap.size w w' := by
  have K1 := Lib.hid (reduced_ok (mk_of hr hs))
  have K2 := Lib.hid (reduced_ok (mk_of hs hr))
  obtain ⟨⟨a0, a1⟩, a2, a3⟩ := red_pos (mk_of hr hs).p.1 (mk_of hr hs).q.1
  obtain ⟨⟨b0, b1⟩, b2, b3⟩ := red_pos (mk_of hs hr).p.1 (mk_of hs hr).q.1
  have r1 := hr.p
  have r2 := hr.q
  have r3 := hs.p
  have r4 := hs.q
  have HT1 : Hid ((tmR r s).1 = (red r.1 s.2).1 * (red s.1 r.2).1) := rfl
  have HT2 : Hid ((tmR r s).2 = (red r.1 s.2).2 * (red s.1 r.2).2) := rfl
  obtain ⟨p, q⟩ := r
  obtain ⟨u, v⟩ := s
  simp only at *
  generalize (red p v).1 = x1 at *
  generalize (red p v).2 = x2 at *
  generalize (red u q).1 = y1 at *
  generalize (red u q).2 = y2 at *
  have m1 := mul_bdG (show 0 ≤ x1 ∧ x1 ≤ 1000000000 by omega) (show 0 ≤ y1 ∧ y1 ≤ 1000000000 by omega)
  have m2 := mul_bdG (show 0 ≤ x2 ∧ x2 ≤ 1000000000 by omega) (show 0 ≤ y2 ∧ y2 ≤ 1000000000 by omega)
  have e1 : IntKind.i64.wrap (x1 * y1) = x1 * y1 := IntWalk.i64_in _ ⟨by omega, by omega⟩
  have e2 : IntKind.i64.wrap (x2 * y2) = x2 * y2 := IntWalk.i64_in _ ⟨by omega, by omega⟩
  clear hr hs
  go_enter Try.func54, Try.ntmps54
  go_wp2
  go_region_held3 (fun w' => w'.cell? ⟨w.heap.size, 0, none⟩ = some (.int .i64 p) ∧ w'.cell? ⟨w.heap.size, 1, none⟩ = some (.int .i64 q) ∧ w'.cell? ⟨w.heap.size + 1, 0, none⟩ = some (.int .i64 u) ∧ w'.cell? ⟨w.heap.size + 1, 1, none⟩ = some (.int .i64 v)) (first | (simp [go_sem]; done) | ((repeat' apply And.intro) <;> (first | (simp [go_sem]; done) | (simp [go_sem, *]; done)))) (first | (go_at_call 62; (with_reducible refine (K1.out _).mono ?_); rintro e w' ⟨rfl, hb_⟩; obtain ⟨os3, d3, rfl⟩ := mo_of hb_; clear hb_) | (go_at_call 62; (with_reducible refine (K2.out _).mono ?_); rintro e w' ⟨rfl, hb_⟩; obtain ⟨os4, d4, rfl⟩ := mo_of hb_; clear hb_))
  all_goals go_wp2
  all_goals go_returns
  all_goals exact ⟨by rw [HT1.out, HT2.out], (by repeat' (first | (with_reducible first | assumption | exact Below.refl _ _ | refine Below.drew ?_ | refine Below.alloc ?_ ?_ _ | refine Below.setCell ?_ ?_ _ | refine below_setR ?_ ?_ _ | refine below_dn ?_ _ | refine Below.trans ?_ (below_mo _ _ _ ?_) | refine Below.trans ?_ (below_mq _ _ ?_) | exact Nat.le_refl _) | (simp; done) | (simp; omega) | omega))⟩
set_option maxHeartbeats 4000000 in
theorem l03Times_ok {r s : Int × Int} (hr : RtOK r) (hs : RtOK s) (ht : (tmR r s).1 ≤ 1000000000 ∧ (tmR r s).2 ≤ 1000000000) (w : World) : Calls Try.prog 56 #[.agg #[.int .i64 r.1, .int .i64 r.2], .agg #[.int .i64 s.1, .int .i64 s.2]] w fun e w' => e = .returned (.tuple #[.agg #[.int .i64 (tmR r s).1, .int .i64 (tmR r s).2], .int .i64 0]) ∧ Below w.heap.size w w' := by
  have h1 := mk_of hr hs
  have h2 := mk_of hs hr
  obtain ⟨⟨a0, a1⟩, a2, a3⟩ := red_pos h1.p.1 h1.q.1
  obtain ⟨⟨b0, b1⟩, b2, b3⟩ := red_pos h2.p.1 h2.q.1
  obtain ⟨⟨z0, z1⟩, d1, d2⟩ := div_gI h1.p.1 h1.q.1
  obtain ⟨⟨z2, z3⟩, d3, d4⟩ := div_gI h2.p.1 h2.q.1
  have G1 := Lib.hid (l03Gcd_any r.1 s.2 ⟨by have := h1.p; omega, h1.p.2⟩ ⟨by have := h1.q; omega, h1.q.2⟩)
  have G2 := Lib.hid (l03Gcd_any s.1 r.2 ⟨by have := h2.p; omega, h2.p.2⟩ ⟨by have := h2.q; omega, h2.q.2⟩)
  have hbd := tmR_bd (r := r) (s := s) hr.p.1 hr.q.1 hs.p.1 hs.q.1
  have hcop := tmR_cop hr.q.1 hs.q.1 hr.g hs.g
  have hmk : MkOK (tmR r s).1 (tmR r s).2 := ⟨⟨hbd.1.1, by omega⟩, ⟨hbd.2.1, by omega⟩⟩
  have K := Lib.hid (l03Made_ok hmk (by rw [red_one hcop]; exact ⟨⟨hbd.1.1, ht.1⟩, ⟨hbd.2.1, ht.2⟩, hcop⟩))
  rw [red_one hcop] at K
  have r1 := hr.p
  have r2 := hr.q
  have r3 := hs.p
  have r4 := hs.q
  have f1 : (tmR r s).1 = (red r.1 s.2).1 * (red s.1 r.2).1 := rfl
  have f2 : (tmR r s).2 = (red s.1 r.2).2 * (red r.1 s.2).2 := Int.mul_comm _ _
  clear h1 h2 hbd hcop hmk ht hr hs
  obtain ⟨p, q⟩ := r
  obtain ⟨u, v⟩ := s
  simp only at *
  generalize (red p v).1 = x1 at *
  generalize (red p v).2 = x2 at *
  generalize (red u q).1 = y1 at *
  generalize (red u q).2 = y2 at *
  generalize gI p v = g at *
  generalize gI u q = k at *
  generalize (tmR (p, q) (u, v)).1 = t1 at *
  generalize (tmR (p, q) (u, v)).2 = t2 at *
  subst f1 f2
  have m1 := mul_bdG (show 0 ≤ x1 ∧ x1 ≤ 1000000000 by omega) (show 0 ≤ y1 ∧ y1 ≤ 1000000000 by omega)
  have m2 := mul_bdG (show 0 ≤ y2 ∧ y2 ≤ 1000000000 by omega) (show 0 ≤ x2 ∧ x2 ≤ 1000000000 by omega)
  have e1 : IntKind.i64.wrap (x1 * y1) = x1 * y1 := IntWalk.i64_in _ ⟨by omega, by omega⟩
  have e2 : IntKind.i64.wrap (y2 * x2) = y2 * x2 := IntWalk.i64_in _ ⟨by omega, by omega⟩
  have e3 : IntKind.i64.wrap x1 = x1 := IntWalk.i64_in _ ⟨by omega, by omega⟩
  have e4 : IntKind.i64.wrap x2 = x2 := IntWalk.i64_in _ ⟨by omega, by omega⟩
  have e5 : IntKind.i64.wrap y1 = y1 := IntWalk.i64_in _ ⟨by omega, by omega⟩
  have e6 : IntKind.i64.wrap y2 = y2 := IntWalk.i64_in _ ⟨by omega, by omega⟩
  clear m1 m2
  go_enter Try.func56, Try.ntmps56
  (go_wp2_with fail; refine (G1.out _).mono ?_; rintro e w' ⟨rfl, rfl⟩)
  (go_wp2_with fail; refine (G2.out _).mono ?_; rintro e w' ⟨rfl, rfl⟩)
  go_wp2
  go_region_held3 (fun w' => w'.cell? ⟨w.heap.size, 0, none⟩ = some (.int .i64 p) ∧ w'.cell? ⟨w.heap.size, 1, none⟩ = some (.int .i64 q) ∧ w'.cell? ⟨w.heap.size + 1, 0, none⟩ = some (.int .i64 u) ∧ w'.cell? ⟨w.heap.size + 1, 1, none⟩ = some (.int .i64 v)) (first | (simp [go_sem]; done) | ((repeat' apply And.intro) <;> (first | (simp [go_sem]; done) | (simp [go_sem, *]; done)))) (first | (go_at_call 53; (with_reducible refine (K.out _).mono ?_); rintro e w' ⟨rfl, hb_⟩; obtain ⟨os3, d3, rfl⟩ := mo_of hb_; clear hb_))
  all_goals go_wp2
  all_goals go_returns
  all_goals exact ⟨rfl, (by repeat' (first | (with_reducible first | assumption | exact Below.refl _ _ | refine Below.drew ?_ | refine Below.alloc ?_ ?_ _ | refine Below.setCell ?_ ?_ _ | refine below_setR ?_ ?_ _ | refine below_dn ?_ _ | refine Below.trans ?_ (below_mo _ _ _ ?_) | refine Below.trans ?_ (below_mq _ _ ?_) | exact Nat.le_refl _) | (simp; done) | (simp; omega) | omega))⟩
end Go.Proofs.Ytinjlofefmjolaa.X
