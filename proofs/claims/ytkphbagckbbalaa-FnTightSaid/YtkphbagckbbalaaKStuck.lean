/- Whether a wheel stays: the program's way. Conditions: none. -/
import Derived.Test.YtkphbagckbbalaaKLog
import Derived.Test.YtkphbagckbbalaaKLogF
namespace Go.Proofs.Ytkphbagckbbalaa.X
open Go.RowKit
set_option linter.unusedVariables false
set_option linter.unusedSimpArgs false
set_option maxRecDepth 100000
/-- the first k readings show the wheel's digit of the first one -/
def syTo (xs : List Int) (lg : List (Int × Int)) (wh : Nat) : Nat → Bool
  | 0 => true
  | k + 1 => syTo xs lg wh k && decide (dg xs (p2 lg k) wh = dg xs (p2 lg 0) wh)
theorem syTo_no {xs : List Int} {lg : List (Int × Int)} {wh k n : Nat} (hk : k < n) (h : ¬ dg xs (p2 lg k) wh = dg xs (p2 lg 0) wh) : syTo xs lg wh n = false := by
  induction n with
  | zero => omega
  | succ n ih =>
    unfold syTo
    by_cases e : k = n
    · rw [← e, decide_eq_false h, Bool.and_false]
    · rw [ih (by omega)]; rfl
theorem syTo_up {xs : List Int} {lg : List (Int × Int)} {wh k : Nat} (h : syTo xs lg wh k = true) (g : dg xs (p2 lg k) wh = dg xs (p2 lg 0) wh) : syTo xs lg wh (k + 1) = true := by unfold syTo; rw [h, decide_eq_true g]; rfl
theorem idx8 (f : Nat → Int) {k : Nat} (h : k < 8) (W : World) : (Instr.index 43 (.agg #[.int .u8 (f 0), .int .u8 (f 1), .int .u8 (f 2), .int .u8 (f 3), .int .u8 (f 4), .int .u8 (f 5), .int .u8 (f 6), .int .u8 (f 7)]) (.int .i64 (k : Int))).run Try.prog W = .ok (.int .u8 (f k)) W := by
  rcases lt8 h with rfl | rfl | rfl | rfl | rfl | rfl | rfl | rfl <;> kernel_rfl
set_option maxHeartbeats 2000000 in
theorem stays1_any {A : Option Addr} {xs : List Int} {W0 : World} {B : Nat} (hs : Nums .u8 W0 B A xs) (h8 : b8 xs) (c : Nat) {L : Option Addr} {lg : List (Int × Int)} {V : World} {C : Nat} (hl : Prs .i64 .i64 V C L lg) (cl : Nat) (w : World) (hb : Below B W0 w) (hv : Below C V w) (g1 g2 g3 wh : Nat) (k1 : w.cell? ⟨g1, 0, none⟩ = some (.slice A xs.length c)) (k2 : w.cell? ⟨g2, 0, none⟩ = some (.int .i64 (wh : Int))) (k3 : w.cell? ⟨g3, 0, none⟩ = some (.slice L lg.length cl)) (hok : okS xs = true) (hwh : wh < 8) (j : Nat) (hj : j < lg.length) (hall : ∀ i : Nat, i < lg.length → 0 ≤ p2 lg i ∧ p2 lg i ≤ szS xs - 1) (dy : Int) :
    Calls Try.prog 169 #[.agg #[.int .i64 dy, .int .i64 (p2 lg j)], .pointer (some ⟨g1, 0, none⟩), .pointer (some ⟨g2, 0, none⟩), .pointer (some ⟨g3, 0, none⟩)] w fun e w' => e = .returned (.bool (decide (¬ dg xs (p2 lg j) wh = dg xs (p2 lg 0) wh))) ∧ Below w.heap.size w w' := by
  have hB := hs.bsz hb
  have hC := hl.bsz hv
  have s1 : g1 < w.heap.size := block_lt_of_cell k1
  have s2 : g2 < w.heap.size := block_lt_of_cell k2
  have s3 : g3 < w.heap.size := block_lt_of_cell k3
  obtain ⟨z0, z1⟩ := szS_bd hok
  obtain ⟨a0, a1⟩ := hall j hj
  have hall0 := hall 0 (by omega)
  rw [show ((0 : Nat) : Int) = 0 from rfl] at hall0
  obtain ⟨c0, c1⟩ := hall0
  obtain ⟨b, off, rfl, hbs, _, hc1_⟩ := hl.at hv (k := 0) (by omega)
  have hc1 : w.cell? ⟨b, off + 1, none⟩ = some (.int .i64 (p2 lg 0)) := by
    rw [Nat.zero_mul, Nat.add_zero] at hc1_
    exact hc1_
  have D1 := Lib.hid (fun W (hW : Below B W0 W) => digits_any hs h8 _ c rfl W hW hok (p2 lg j) a0 (by omega))
  have D2 := Lib.hid (fun W (hW : Below B W0 W) => digits_any hs h8 _ c rfl W hW hok (p2 lg 0) c0 (by omega))
  have i1 := fun W => idx8 (dg xs (p2 lg j)) hwh W
  have i2 := fun W => idx8 (dg xs (p2 lg 0)) hwh W
  have q0 : 0 < lg.length := by omega
  have q1 : (0 : Int) < (lg.length : Int) := by omega
  have q2 : (0 : Int) ≤ (wh : Int) := by omega
  have q3 : (wh : Int) < 8 := by omega
  clear hc1_ hall
  go_enter Try.func169, Try.ntmps169
  go_wp2
  (refine wp_region_mq (by kernel_rfl) (by kernel_rfl) ?_; (repeat (first | go_big_quiet_step ((first | (go_at_call 170; ((with_reducible refine quietQ (D1.out _ ?_) ) <;> (repeat' (first | (with_reducible first | assumption | exact Below.refl _ _ | refine Below.drew ?_ | refine Below.alloc ?_ ?_ _ | refine Below.setCell ?_ ?_ _ | refine below_setR ?_ ?_ _ | refine below_dn ?_ _ | refine Below.trans ?_ (below_mo _ _ _ ?_) | refine Below.trans ?_ (below_mq _ _ ?_) | exact Nat.le_refl _) | (simp; done) | (simp; omega) | omega)))) | (go_at_call 170; ((with_reducible refine quietQ (D2.out _ ?_) ) <;> (repeat' (first | (with_reducible first | assumption | exact Below.refl _ _ | refine Below.drew ?_ | refine Below.alloc ?_ ?_ _ | refine Below.setCell ?_ ?_ _ | refine below_setR ?_ ?_ _ | refine below_dn ?_ _ | refine Below.trans ?_ (below_mo _ _ _ ?_) | refine Below.trans ?_ (below_mq _ _ ?_) | exact Nat.le_refl _) | (simp; done) | (simp; omega) | omega)))))) | quiet_step ((first | (go_at_call 170; ((with_reducible refine quietQ (D1.out _ ?_) ) <;> (repeat' (first | (with_reducible first | assumption | exact Below.refl _ _ | refine Below.drew ?_ | refine Below.alloc ?_ ?_ _ | refine Below.setCell ?_ ?_ _ | refine below_setR ?_ ?_ _ | refine below_dn ?_ _ | refine Below.trans ?_ (below_mo _ _ _ ?_) | refine Below.trans ?_ (below_mq _ _ ?_) | exact Nat.le_refl _) | (simp; done) | (simp; omega) | omega)))) | (go_at_call 170; ((with_reducible refine quietQ (D2.out _ ?_) ) <;> (repeat' (first | (with_reducible first | assumption | exact Below.refl _ _ | refine Below.drew ?_ | refine Below.alloc ?_ ?_ _ | refine Below.setCell ?_ ?_ _ | refine below_setR ?_ ?_ _ | refine below_dn ?_ _ | refine Below.trans ?_ (below_mo _ _ _ ?_) | refine Below.trans ?_ (below_mq _ _ ?_) | exact Nat.le_refl _) | (simp; done) | (simp; omega) | omega)))))))); refine wpQuiet_nil ?_; intro _ hq_; obtain ⟨q_, rfl⟩ := hq_)
  go_wp2
  go_ret
  exact ⟨by rw [decide_not]; rfl, (by repeat' (first | (with_reducible first | assumption | exact Below.refl _ _ | refine Below.drew ?_ | refine Below.alloc ?_ ?_ _ | refine Below.setCell ?_ ?_ _ | refine below_setR ?_ ?_ _ | refine below_dn ?_ _ | refine Below.trans ?_ (below_mo _ _ _ ?_) | refine Below.trans ?_ (below_mq _ _ ?_) | exact Nat.le_refl _) | (simp; done) | (simp; omega) | omega))⟩
def IdxAnsS (p : Bool) (w : World) (e : Ending) (w' : World) : Prop := ∃ r : Int, e = .returned (.int .i64 r) ∧ (decide (0 ≤ r)) = p ∧ Below w.heap.size w w'
set_option maxHeartbeats 2000000 in
theorem idxStay_any {A : Option Addr} {xs : List Int} {W0 : World} {B : Nat} (hs : Nums .u8 W0 B A xs) (h8 : b8 xs) (c : Nat) {L : Option Addr} {lg : List (Int × Int)} {V : World} {C : Nat} (hl : Prs .i64 .i64 V C L lg) (cl : Nat) (w : World) (hb : Below B W0 w) (hv : Below C V w) (g1 g2 g3 wh : Nat) (k1 : w.cell? ⟨g1, 0, none⟩ = some (.slice A xs.length c)) (k2 : w.cell? ⟨g2, 0, none⟩ = some (.int .i64 (wh : Int))) (k3 : w.cell? ⟨g3, 0, none⟩ = some (.slice L lg.length cl)) (hok : okS xs = true) (hwh : wh < 8) (hall : ∀ i : Nat, i < lg.length → 0 ≤ p2 lg i ∧ p2 lg i ≤ szS xs - 1) : Calls Try.prog 193 #[.slice L lg.length cl, (.func (.func 169) #[] #[.pointer (some ⟨g1, 0, none⟩), .pointer (some ⟨g2, 0, none⟩), .pointer (some ⟨g3, 0, none⟩)])] w (IdxAnsS (!syTo xs lg wh lg.length) w) := by
  have hll := hl.len
  have hC := hl.bsz hv
  have hB := hs.bsz hb
  have s1 : g1 < w.heap.size := block_lt_of_cell k1
  have s2 : g2 < w.heap.size := block_lt_of_cell k2
  have s3 : g3 < w.heap.size := block_lt_of_cell k3
  have HALL := Lib.hid hall
  have HOK := Lib.hid hok
  clear hall hok
  go_enter Try.func193, Try.ntmps193
  go_wp2
  go_loopw [8] (fun i wr => ∃ (k : Nat) (os : Array Obj) (d : Nat), k ≤ lg.length ∧ i = .int .i64 k ∧ Hid (syTo xs lg wh k = true) ∧ wr = mo w os d) (fun i _ => lg.length - (intOf i).toNat)
  case atStart => exact ⟨0, #[], _, Nat.zero_le _, rfl, (rfl : syTo xs lg wh 0 = true), (mo_nil _).symm⟩
  case round =>
    obtain ⟨k, os, d, hk, rfl, HA, rfl⟩ := hrel
    by_cases hlt : k < lg.length
    · have K1 := Lib.hid (fun W (hW : Below B W0 W) (hV : Below C V W) a1 a2 a3 => stays1_any hs h8 c hl cl W hW hV g1 g2 g3 wh a1 a2 a3 HOK.out hwh k hlt HALL.out (p1 lg k))
      obtain ⟨b, off, rfl, hbs, hc0, hc1⟩ := hl.at hv hlt
      have g0 : (0 : Int) ≤ (k : Int) := by omega
      have g4 : (k : Int) < (lg.length : Int) := by omega
      by_cases ho : dg xs (p2 lg k) wh = dg xs (p2 lg 0) wh
      · have HN := Lib.hid (syTo_up HA.out ho)
        have HD : Hid (decide (¬ dg xs (p2 lg k) wh = dg xs (p2 lg 0) wh) = false) := decide_eq_false (fun h => h ho)
        clear ho
        (go_wp2_with fail; refine (K1.out _ (by repeat' (first | (with_reducible first | assumption | exact Below.refl _ _ | refine Below.drew ?_ | refine Below.alloc ?_ ?_ _ | refine Below.setCell ?_ ?_ _ | refine below_setR ?_ ?_ _ | refine below_dn ?_ _ | refine Below.trans ?_ (below_mo _ _ _ ?_) | refine Below.trans ?_ (below_mq _ _ ?_) | exact Nat.le_refl _) | (simp; done) | (simp; omega) | omega)) (by repeat' (first | (with_reducible first | assumption | exact Below.refl _ _ | refine Below.drew ?_ | refine Below.alloc ?_ ?_ _ | refine Below.setCell ?_ ?_ _ | refine below_setR ?_ ?_ _ | refine below_dn ?_ _ | refine Below.trans ?_ (below_mo _ _ _ ?_) | refine Below.trans ?_ (below_mq _ _ ?_) | exact Nat.le_refl _) | (simp; done) | (simp; omega) | omega)) (by first | assumption | (simp [go_sem]; done) | (simp [go_sem, *]; done) | (simp [go_sem]; rfl)) (by first | assumption | (simp [go_sem]; done) | (simp [go_sem, *]; done) | (simp [go_sem]; rfl)) (by first | assumption | (simp [go_sem]; done) | (simp [go_sem, *]; done) | (simp [go_sem]; rfl))).mono ?_; rintro e w' ⟨rfl, hb_⟩; rw [HD.out]; obtain ⟨os_, d_, rfl⟩ := mo_of hb_; clear hb_)
        go_wp2
        exact ⟨⟨k + 1, _, _, by omega, by go_num, HN, mo_mo _ _ _ _ _⟩, by simp [intOf]; omega⟩
      · have HN := Lib.hid (syTo_no hlt ho)
        have HD : Hid (decide (¬ dg xs (p2 lg k) wh = dg xs (p2 lg 0) wh) = true) := decide_eq_true ho
        clear ho
        (go_wp2_with fail; refine (K1.out _ (by repeat' (first | (with_reducible first | assumption | exact Below.refl _ _ | refine Below.drew ?_ | refine Below.alloc ?_ ?_ _ | refine Below.setCell ?_ ?_ _ | refine below_setR ?_ ?_ _ | refine below_dn ?_ _ | refine Below.trans ?_ (below_mo _ _ _ ?_) | refine Below.trans ?_ (below_mq _ _ ?_) | exact Nat.le_refl _) | (simp; done) | (simp; omega) | omega)) (by repeat' (first | (with_reducible first | assumption | exact Below.refl _ _ | refine Below.drew ?_ | refine Below.alloc ?_ ?_ _ | refine Below.setCell ?_ ?_ _ | refine below_setR ?_ ?_ _ | refine below_dn ?_ _ | refine Below.trans ?_ (below_mo _ _ _ ?_) | refine Below.trans ?_ (below_mq _ _ ?_) | exact Nat.le_refl _) | (simp; done) | (simp; omega) | omega)) (by first | assumption | (simp [go_sem]; done) | (simp [go_sem, *]; done) | (simp [go_sem]; rfl)) (by first | assumption | (simp [go_sem]; done) | (simp [go_sem, *]; done) | (simp [go_sem]; rfl)) (by first | assumption | (simp [go_sem]; done) | (simp [go_sem, *]; done) | (simp [go_sem]; rfl))).mono ?_; rintro e w' ⟨rfl, hb_⟩; rw [HD.out]; obtain ⟨os_, d_, rfl⟩ := mo_of hb_; clear hb_)
        go_wp2
        go_ret
        exact ⟨k, rfl, by rw [HN.out]; simp, (by repeat' (first | (with_reducible first | assumption | exact Below.refl _ _ | refine Below.drew ?_ | refine Below.alloc ?_ ?_ _ | refine Below.setCell ?_ ?_ _ | refine below_setR ?_ ?_ _ | refine below_dn ?_ _ | refine Below.trans ?_ (below_mo _ _ _ ?_) | refine Below.trans ?_ (below_mq _ _ ?_) | exact Nat.le_refl _) | (simp; done) | (simp; omega) | omega))⟩
    · obtain rfl : k = lg.length := by omega
      go_wp2
      go_ret
      exact ⟨-1, rfl, by rw [HA.out]; rfl, (by repeat' (first | (with_reducible first | assumption | exact Below.refl _ _ | refine Below.drew ?_ | refine Below.alloc ?_ ?_ _ | refine Below.setCell ?_ ?_ _ | refine below_setR ?_ ?_ _ | refine below_dn ?_ _ | refine Below.trans ?_ (below_mo _ _ _ ?_) | refine Below.trans ?_ (below_mq _ _ ?_) | exact Nat.le_refl _) | (simp; done) | (simp; omega) | omega))⟩
set_option maxHeartbeats 2000000 in
theorem stays_any {A : Option Addr} {xs : List Int} {W0 : World} {B : Nat} (hs : Nums .u8 W0 B A xs) (h8 : b8 xs) (c : Nat) {L : Option Addr} {lg : List (Int × Int)} {V : World} {C : Nat} (hl : Prs .i64 .i64 V C L lg) (cl : Nat) (w : World) (hb : Below B W0 w) (hv : Below C V w) (wh : Nat) (hok : okS xs = true) (hwh : wh < 8) (hall : ∀ i : Nat, i < lg.length → 0 ≤ p2 lg i ∧ p2 lg i ≤ szS xs - 1) : Calls Try.prog 94 #[.slice A xs.length c, .slice L lg.length cl, .int .i64 (wh : Int)] w fun e w' => e = .returned (.bool (syTo xs lg wh lg.length)) ∧ Below w.heap.size w w' := by
  have hC := hl.bsz hv
  have hB := hs.bsz hb
  have K1 : Hid (∀ (W : World) (g1 g2 g3 : Nat), Below B W0 W → Below C V W → W.cell? ⟨g1, 0, none⟩ = some (.slice A xs.length c) → W.cell? ⟨g2, 0, none⟩ = some (.int .i64 (wh : Int)) → W.cell? ⟨g3, 0, none⟩ = some (.slice L lg.length cl) → Calls Try.prog 168 #[.slice L lg.length cl, (.func (.func 169) #[] #[.pointer (some ⟨g1, 0, none⟩), .pointer (some ⟨g2, 0, none⟩), .pointer (some ⟨g3, 0, none⟩)])] W fun e w' => e = .returned (.bool (!syTo xs lg wh lg.length)) ∧ Below W.heap.size W w') := by
    unfold Hid
    intro W g1 g2 g3 hW hV a1 a2 a3
    have I1 := Lib.hid (idxStay_any hs h8 c hl cl W hW hV g1 g2 g3 wh a1 a2 a3 hok hwh hall)
    clear hall
    go_enter Try.func168, Try.ntmps168
    (go_wp2_with fail; refine I1.out.mono ?_; rintro e w' ⟨r, rfl, hr, hb_⟩; obtain ⟨os_, d_, rfl⟩ := mo_of hb_; clear hb_)
    go_wp2
    go_ret
    exact ⟨by rw [← hr]; rfl, (by repeat' (first | (with_reducible first | assumption | exact Below.refl _ _ | refine Below.drew ?_ | refine Below.alloc ?_ ?_ _ | refine Below.setCell ?_ ?_ _ | refine below_setR ?_ ?_ _ | refine below_dn ?_ _ | refine Below.trans ?_ (below_mo _ _ _ ?_) | refine Below.trans ?_ (below_mq _ _ ?_) | exact Nat.le_refl _) | (simp; done) | (simp; omega) | omega))⟩
  clear hall hok
  go_enter Try.func94, Try.ntmps94
  (go_wp2_with fail; refine (K1.out _ _ _ _ (by repeat' (first | (with_reducible first | assumption | exact Below.refl _ _ | refine Below.drew ?_ | refine Below.alloc ?_ ?_ _ | refine Below.setCell ?_ ?_ _ | refine below_setR ?_ ?_ _ | refine below_dn ?_ _ | refine Below.trans ?_ (below_mo _ _ _ ?_) | refine Below.trans ?_ (below_mq _ _ ?_) | exact Nat.le_refl _) | (simp; done) | (simp; omega) | omega)) (by repeat' (first | (with_reducible first | assumption | exact Below.refl _ _ | refine Below.drew ?_ | refine Below.alloc ?_ ?_ _ | refine Below.setCell ?_ ?_ _ | refine below_setR ?_ ?_ _ | refine below_dn ?_ _ | refine Below.trans ?_ (below_mo _ _ _ ?_) | refine Below.trans ?_ (below_mq _ _ ?_) | exact Nat.le_refl _) | (simp; done) | (simp; omega) | omega)) (by first | assumption | (simp [go_sem]; done) | (simp [go_sem, *]; done) | (simp [go_sem]; rfl)) (by first | assumption | (simp [go_sem]; done) | (simp [go_sem, *]; done) | (simp [go_sem]; rfl)) (by first | assumption | (simp [go_sem]; done) | (simp [go_sem, *]; done) | (simp [go_sem]; rfl))).mono ?_; rintro e w' ⟨rfl, hb_⟩; obtain ⟨os_, d_, rfl⟩ := mo_of hb_; clear hb_)
  go_wp2
  go_ret
  exact ⟨by simp, (by repeat' (first | (with_reducible first | assumption | exact Below.refl _ _ | refine Below.drew ?_ | refine Below.alloc ?_ ?_ _ | refine Below.setCell ?_ ?_ _ | refine below_setR ?_ ?_ _ | refine below_dn ?_ _ | refine Below.trans ?_ (below_mo _ _ _ ?_) | refine Below.trans ?_ (below_mq _ _ ?_) | exact Nat.le_refl _) | (simp; done) | (simp; omega) | omega))⟩
end Go.Proofs.Ytkphbagckbbalaa.X
