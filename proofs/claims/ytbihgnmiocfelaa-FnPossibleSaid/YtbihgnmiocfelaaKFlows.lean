/- ShowsAfter, FlowsFor of the program and of the reference. Conditions: none. -/
import Derived.Test.YtbihgnmiocfelaaKMeter2
namespace Go.Proofs.Ytbihgnmiocfelaa.X
open Go.RowKit
set_option linter.unusedVariables false
set_option linter.unusedSimpArgs false
set_option maxRecDepth 100000
def mostM (p q : Int) : Int := 1000000000000 * p / q
def fCnt (xs : List Int) (s r v : Int) : Int := r * szS xs + v - s
def fLo (p q c : Int) : Int := (c * q + p - 1) / p
def fHi (p q c : Int) : Int := min (((c + 1) * q - 1) / p) 1000000000000
/-- what FlowsFor returns -/
def flV (xs : List Int) (p q s r v : Int) : Int × Int × Int :=
  if okM xs p q s then
    if inR r 0 1000000000000 && inR v 0 (szS xs - 1) then
      if (mostM p q + s) / szS xs < r then (0, 0, 6)
      else if inR (fCnt xs s r v) 0 (mostM p q) then if fHi p q (fCnt xs s r v) < fLo p q (fCnt xs s r v) then (0, 0, 6) else (fLo p q (fCnt xs s r v), fHi p q (fCnt xs s r v), 0)
      else (0, 0, 6)
    else (0, 0, 2)
  else (0, 0, 1)
theorem fl_most {p q : Int} (hp : 1 ≤ p ∧ p ≤ 1000) (hq : 1 ≤ q ∧ q ≤ 1000) : 0 ≤ mostM p q ∧ mostM p q ≤ 1000000000000000 ∧ mostM p q * q ≤ 1000000000000 * p := by
  obtain ⟨_, _, h3, h4⟩ := flow_bd (v := 1000000000000) (by omega) hp hq
  refine ⟨h3, h4, ?_⟩
  have := Int.ediv_mul_le (1000000000000 * p) (show q ≠ 0 by omega)
  exact this
theorem fl_cnt {p q c : Int} (hp : 1 ≤ p ∧ p ≤ 1000) (hq : 1 ≤ q ∧ q ≤ 1000) (h0 : 0 ≤ c) (h1 : c ≤ mostM p q) : 0 ≤ c * q ∧ c * q ≤ 1000000000000000 ∧ (c + 1) * q = c * q + q := by
  obtain ⟨m0, m1, m2⟩ := fl_most hp hq
  have e1 := Int.mul_nonneg h0 (show 0 ≤ q by omega)
  have e2 := Int.mul_le_mul_of_nonneg_right h1 (show 0 ≤ q by omega)
  exact ⟨e1, by omega, by rw [Int.add_mul, Int.one_mul]⟩
theorem ceil_less {x p : Int} (hp : 1 ≤ p) : (x + p - 1) / p - 1 = (x - 1) / p := by
  have e : x + p - 1 = (x - 1) + 1 * p := by omega
  rw [e, Int.add_mul_ediv_right _ _ (by omega)]
  omega
theorem div_le {a b r : Int} (hb : 0 < b) (h : r ≤ a / b) : r * b ≤ a := (Int.le_ediv_iff_mul_le hb).1 h
theorem ceil_any (a b : Int) (w : World) (ha : 0 ≤ a ∧ a ≤ 1000000000000000000) (hb : 1 ≤ b ∧ b ≤ 1000000000) : Calls Try.prog 169 #[.int .i64 a, .int .i64 b] w fun e w' => e = .returned (.int .i64 ((a + b - 1) / b)) ∧ w = w' := by
  obtain ⟨h1, h2⟩ := ha
  obtain ⟨h3, h4⟩ := hb
  have qz : (b == 0) = false := beq_eq_false_iff_ne.2 (by omega)
  go_enter Try.func169, Try.ntmps169
  go_wp2
  go_ret
  exact ⟨rfl, rfl⟩
set_option maxHeartbeats 2000000 in
theorem implShowsAfter_any {A : Option Addr} {xs : List Int} {W : World} {B : Nat} (hs : Nums .u8 W B A xs) (h8 : b8 xs) (c : Nat) (p q s : Int) (w : World) (hb : Below B W w) (v : Int) : Calls Try.prog 54 #[.agg #[.slice A xs.length c, .int .i64 p, .int .i64 q, .int .i64 s], .int .i64 v] w fun e w' => e = .returned (.tuple #[.int .i64 (shV xs p q s v).1, .int .i64 (shV xs p q s v).2.1, .int .i64 (shV xs p q s v).2.2]) ∧ Below w.heap.size w w' := by
  have hB := hs.bsz hb
  cases h1 : okM xs p q s
  · have HR := Lib.hid (shV_1 (v := v) h1)
    go_enter Try.func54, Try.ntmps54
    go_wp2_with (go_at_call 58; refine (ValidMeter_any hs h8 _ _ _ _ _ (by repeat' (first | (with_reducible first | assumption | exact Below.refl _ _ | refine Below.drew ?_ | refine Below.alloc ?_ ?_ _ | refine Below.setCell ?_ ?_ _ | refine below_setR ?_ ?_ _ | refine below_dn ?_ _ | refine Below.trans ?_ (below_mo _ _ _ ?_) | refine Below.trans ?_ (below_mq _ _ ?_) | exact Nat.le_refl _) | (simp; done) | (simp; omega) | omega))).mono ?_; rintro e w' ⟨rfl, hb_⟩; obtain ⟨os_, d_, rfl⟩ := mo_of hb_; clear hb_)
    go_returns
    exact ⟨(by first | (rw [HR.out]; done) | (rw [HR.out]; rfl)), (by repeat' (first | (with_reducible first | assumption | exact Below.refl _ _ | refine Below.drew ?_ | refine Below.alloc ?_ ?_ _ | refine Below.setCell ?_ ?_ _ | refine below_setR ?_ ?_ _ | refine below_dn ?_ _ | refine Below.trans ?_ (below_mo _ _ _ ?_) | refine Below.trans ?_ (below_mq _ _ ?_) | exact Nat.le_refl _) | (simp; done) | (simp; omega) | omega))⟩
  · obtain ⟨hS, hp, hq, s0, s1⟩ := okM_parts h1
    have hsz := szS_bd hS
    cases h2 : inR v 0 1000000000000
    · have HR := Lib.hid (shV_2 h1 h2)
      go_enter Try.func54, Try.ntmps54
      go_wp2_with (first | (go_at_call 58; refine (ValidMeter_any hs h8 _ _ _ _ _ (by repeat' (first | (with_reducible first | assumption | exact Below.refl _ _ | refine Below.drew ?_ | refine Below.alloc ?_ ?_ _ | refine Below.setCell ?_ ?_ _ | refine below_setR ?_ ?_ _ | refine below_dn ?_ _ | refine Below.trans ?_ (below_mo _ _ _ ?_) | refine Below.trans ?_ (below_mq _ _ ?_) | exact Nat.le_refl _) | (simp; done) | (simp; omega) | omega))).mono ?_; rintro e w' ⟨rfl, hb_⟩; obtain ⟨os_, d_, rfl⟩ := mo_of hb_; clear hb_) | (go_at_call 116; refine (within_ok _ _ _ _).mono ?_; rintro e w' ⟨rfl, rfl⟩))
      go_returns
      exact ⟨(by first | (rw [HR.out]; done) | (rw [HR.out]; rfl)), (by repeat' (first | (with_reducible first | assumption | exact Below.refl _ _ | refine Below.drew ?_ | refine Below.alloc ?_ ?_ _ | refine Below.setCell ?_ ?_ _ | refine below_setR ?_ ?_ _ | refine below_dn ?_ _ | refine Below.trans ?_ (below_mo _ _ _ ?_) | refine Below.trans ?_ (below_mq _ _ ?_) | exact Nat.le_refl _) | (simp; done) | (simp; omega) | omega))⟩
    · have HR := Lib.hid (shV_3 h1 h2)
      have hv := inR_t.1 h2
      obtain ⟨b1, b2, b3, b4⟩ := flow_bd hv hp hq
      have HS : Hid (szS xs = sizeTo xs xs.length) := rfl
      go_enter Try.func54, Try.ntmps54
      go_wp2_with (first | (go_at_call 58; refine (ValidMeter_any hs h8 _ _ _ _ _ (by repeat' (first | (with_reducible first | assumption | exact Below.refl _ _ | refine Below.drew ?_ | refine Below.alloc ?_ ?_ _ | refine Below.setCell ?_ ?_ _ | refine below_setR ?_ ?_ _ | refine below_dn ?_ _ | refine Below.trans ?_ (below_mo _ _ _ ?_) | refine Below.trans ?_ (below_mq _ _ ?_) | exact Nat.le_refl _) | (simp; done) | (simp; omega) | omega))).mono ?_; rintro e w' ⟨rfl, hb_⟩; obtain ⟨os_, d_, rfl⟩ := mo_of hb_; clear hb_) | (go_at_call 116; refine (within_ok _ _ _ _).mono ?_; rintro e w' ⟨rfl, rfl⟩))
      (refine wp_region_mq (by kernel_rfl) (by kernel_rfl) ?_; (repeat (first | go_big_quiet_step ((first | (go_at_call 166; with_reducible exact quietQ (count_any p q v _ hv hp hq _ (by first | (simp [go_sem]; done) | (simp [go_sem]; rfl)) (by first | (simp [go_sem]; done) | (simp [go_sem]; rfl))) ) | (go_at_call 154; ((with_reducible refine quietS (HS.out ▸ size_any hs h8 _ _ rfl _ ?_) ) <;> (repeat' (first | (with_reducible first | assumption | exact Below.refl _ _ | refine Below.drew ?_ | refine Below.alloc ?_ ?_ _ | refine Below.setCell ?_ ?_ _ | refine below_setR ?_ ?_ _ | refine below_dn ?_ _ | refine Below.trans ?_ (below_mo _ _ _ ?_) | refine Below.trans ?_ (below_mq _ _ ?_) | exact Nat.le_refl _) | (simp; done) | (simp; omega) | omega)))) | (go_at_call 153; with_reducible exact quietS (wrapped_any (s + v * p / q) (szS xs) _ (by omega) (by omega)) ))) | quiet_step ((first | (go_at_call 166; with_reducible exact quietQ (count_any p q v _ hv hp hq _ (by first | (simp [go_sem]; done) | (simp [go_sem]; rfl)) (by first | (simp [go_sem]; done) | (simp [go_sem]; rfl))) ) | (go_at_call 154; ((with_reducible refine quietS (HS.out ▸ size_any hs h8 _ _ rfl _ ?_) ) <;> (repeat' (first | (with_reducible first | assumption | exact Below.refl _ _ | refine Below.drew ?_ | refine Below.alloc ?_ ?_ _ | refine Below.setCell ?_ ?_ _ | refine below_setR ?_ ?_ _ | refine below_dn ?_ _ | refine Below.trans ?_ (below_mo _ _ _ ?_) | refine Below.trans ?_ (below_mq _ _ ?_) | exact Nat.le_refl _) | (simp; done) | (simp; omega) | omega)))) | (go_at_call 153; with_reducible exact quietS (wrapped_any (s + v * p / q) (szS xs) _ (by omega) (by omega)) ))))); refine wpQuiet_nil ?_; intro _ hq_; obtain ⟨q_, rfl⟩ := hq_)
      go_wp2
      go_returns
      exact ⟨(by first | (rw [HR.out]; done) | (rw [HR.out]; rfl)), (by repeat' (first | (with_reducible first | assumption | exact Below.refl _ _ | refine Below.drew ?_ | refine Below.alloc ?_ ?_ _ | refine Below.setCell ?_ ?_ _ | refine below_setR ?_ ?_ _ | refine below_dn ?_ _ | refine Below.trans ?_ (below_mo _ _ _ ?_) | refine Below.trans ?_ (below_mq _ _ ?_) | exact Nat.le_refl _) | (simp; done) | (simp; omega) | omega))⟩
set_option maxHeartbeats 2000000 in
theorem specShowsAfter_any {A : Option Addr} {xs : List Int} {W : World} {B : Nat} (hs : Nums .u8 W B A xs) (h8 : b8 xs) (c : Nat) (p q s : Int) (w : World) (hb : Below B W w) (v : Int) : Calls Try.prog 55 #[.agg #[.slice A xs.length c, .int .i64 p, .int .i64 q, .int .i64 s], .int .i64 v] w fun e w' => e = .returned (.tuple #[.int .i64 (shV xs p q s v).1, .int .i64 (shV xs p q s v).2.1, .int .i64 (shV xs p q s v).2.2]) ∧ Below w.heap.size w w' := by
  have hB := hs.bsz hb
  cases h1 : okM xs p q s
  · have HR := Lib.hid (shV_1 (v := v) h1)
    have HA : askM xs p q s v = 1 := by unfold askM; rw [h1]; rfl
    go_enter Try.func55, Try.ntmps55
    go_wp2_with (go_at_call 167; refine (l06Asked_any hs h8 _ _ _ _ _ (by repeat' (first | (with_reducible first | assumption | exact Below.refl _ _ | refine Below.drew ?_ | refine Below.alloc ?_ ?_ _ | refine Below.setCell ?_ ?_ _ | refine below_setR ?_ ?_ _ | refine below_dn ?_ _ | refine Below.trans ?_ (below_mo _ _ _ ?_) | refine Below.trans ?_ (below_mq _ _ ?_) | exact Nat.le_refl _) | (simp; done) | (simp; omega) | omega)) v _ (by first | (simp [go_sem]; done) | (simp [go_sem]; rfl)) (by first | (simp [go_sem]; done) | (simp [go_sem]; rfl)) (by first | (simp [go_sem]; done) | (simp [go_sem]; rfl)) (by first | (simp [go_sem]; done) | (simp [go_sem]; rfl))).mono ?_; rintro e w' ⟨rfl, hb_⟩; obtain ⟨os_, d_, rfl⟩ := mo_of hb_; clear hb_)
    go_returns
    exact ⟨(by first | (rw [HR.out]; done) | (rw [HR.out]; rfl)), (by repeat' (first | (with_reducible first | assumption | exact Below.refl _ _ | refine Below.drew ?_ | refine Below.alloc ?_ ?_ _ | refine Below.setCell ?_ ?_ _ | refine below_setR ?_ ?_ _ | refine below_dn ?_ _ | refine Below.trans ?_ (below_mo _ _ _ ?_) | refine Below.trans ?_ (below_mq _ _ ?_) | exact Nat.le_refl _) | (simp; done) | (simp; omega) | omega))⟩
  · obtain ⟨hS, hp, hq, s0, s1⟩ := okM_parts h1
    have hsz := szS_bd hS
    cases h2 : inR v 0 1000000000000
    · have HR := Lib.hid (shV_2 h1 h2)
      have HA : askM xs p q s v = 2 := by unfold askM; rw [h1, h2]; rfl
      go_enter Try.func55, Try.ntmps55
      go_wp2_with (go_at_call 167; refine (l06Asked_any hs h8 _ _ _ _ _ (by repeat' (first | (with_reducible first | assumption | exact Below.refl _ _ | refine Below.drew ?_ | refine Below.alloc ?_ ?_ _ | refine Below.setCell ?_ ?_ _ | refine below_setR ?_ ?_ _ | refine below_dn ?_ _ | refine Below.trans ?_ (below_mo _ _ _ ?_) | refine Below.trans ?_ (below_mq _ _ ?_) | exact Nat.le_refl _) | (simp; done) | (simp; omega) | omega)) v _ (by first | (simp [go_sem]; done) | (simp [go_sem]; rfl)) (by first | (simp [go_sem]; done) | (simp [go_sem]; rfl)) (by first | (simp [go_sem]; done) | (simp [go_sem]; rfl)) (by first | (simp [go_sem]; done) | (simp [go_sem]; rfl))).mono ?_; rintro e w' ⟨rfl, hb_⟩; obtain ⟨os_, d_, rfl⟩ := mo_of hb_; clear hb_)
      go_returns
      exact ⟨(by first | (rw [HR.out]; done) | (rw [HR.out]; rfl)), (by repeat' (first | (with_reducible first | assumption | exact Below.refl _ _ | refine Below.drew ?_ | refine Below.alloc ?_ ?_ _ | refine Below.setCell ?_ ?_ _ | refine below_setR ?_ ?_ _ | refine below_dn ?_ _ | refine Below.trans ?_ (below_mo _ _ _ ?_) | refine Below.trans ?_ (below_mq _ _ ?_) | exact Nat.le_refl _) | (simp; done) | (simp; omega) | omega))⟩
    · have HR := Lib.hid (shV_3 h1 h2)
      have HA : askM xs p q s v = 0 := by unfold askM; rw [h1, h2]; rfl
      have hv := inR_t.1 h2
      obtain ⟨b1, b2, b3, b4⟩ := flow_bd hv hp hq
      have qz : (q == 0) = false := beq_eq_false_iff_ne.2 (by omega)
      obtain ⟨q0, q1⟩ := hq
      obtain ⟨z0, z1⟩ := hsz
      have sz : (szS xs == 0) = false := beq_eq_false_iff_ne.2 (by omega)
      have HS : Hid (szS xs = sizeTo xs xs.length) := rfl
      go_enter Try.func55, Try.ntmps55
      go_wp2_with (first | (go_at_call 167; refine (l06Asked_any hs h8 _ _ _ _ _ (by repeat' (first | (with_reducible first | assumption | exact Below.refl _ _ | refine Below.drew ?_ | refine Below.alloc ?_ ?_ _ | refine Below.setCell ?_ ?_ _ | refine below_setR ?_ ?_ _ | refine below_dn ?_ _ | refine Below.trans ?_ (below_mo _ _ _ ?_) | refine Below.trans ?_ (below_mq _ _ ?_) | exact Nat.le_refl _) | (simp; done) | (simp; omega) | omega)) v _ (by first | (simp [go_sem]; done) | (simp [go_sem]; rfl)) (by first | (simp [go_sem]; done) | (simp [go_sem]; rfl)) (by first | (simp [go_sem]; done) | (simp [go_sem]; rfl)) (by first | (simp [go_sem]; done) | (simp [go_sem]; rfl))).mono ?_; rintro e w' ⟨rfl, hb_⟩; obtain ⟨os_, d_, rfl⟩ := mo_of hb_; clear hb_) | (go_at_call 147; refine (l01Size_any hs h8 _ _ rfl _ (by repeat' (first | (with_reducible first | assumption | exact Below.refl _ _ | refine Below.drew ?_ | refine Below.alloc ?_ ?_ _ | refine Below.setCell ?_ ?_ _ | refine below_setR ?_ ?_ _ | refine below_dn ?_ _ | refine Below.trans ?_ (below_mo _ _ _ ?_) | refine Below.trans ?_ (below_mq _ _ ?_) | exact Nat.le_refl _) | (simp; done) | (simp; omega) | omega))).mono ?_; rintro e w' ⟨rfl, rfl⟩; rw [← HS.out]))
      go_quiet (fail)
      go_wp2
      go_quiet (fail)
      go_wp2
      go_returns
      exact ⟨(by first | (rw [HR.out]; done) | (rw [HR.out]; rfl)), (by repeat' (first | (with_reducible first | assumption | exact Below.refl _ _ | refine Below.drew ?_ | refine Below.alloc ?_ ?_ _ | refine Below.setCell ?_ ?_ _ | refine below_setR ?_ ?_ _ | refine below_dn ?_ _ | refine Below.trans ?_ (below_mo _ _ _ ?_) | refine Below.trans ?_ (below_mq _ _ ?_) | exact Nat.le_refl _) | (simp; done) | (simp; omega) | omega))⟩
end Go.Proofs.Ytbihgnmiocfelaa.X
