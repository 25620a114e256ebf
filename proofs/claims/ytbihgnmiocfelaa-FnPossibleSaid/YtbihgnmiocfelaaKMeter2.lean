/- What meters count and show. Conditions: none. -/
import Derived.Test.YtbihgnmiocfelaaKMeter
namespace Go.Proofs.Ytbihgnmiocfelaa.X
open Go.RowKit
set_option linter.unusedVariables false
set_option linter.unusedSimpArgs false
set_option maxRecDepth 100000
theorem flow_bd {v p q : Int} (hv : 0 ≤ v ∧ v ≤ 1000000000000) (hp : 1 ≤ p ∧ p ≤ 1000) (hq : 1 ≤ q ∧ q ≤ 1000) : 0 ≤ v * p ∧ v * p ≤ 1000000000000000 ∧ 0 ≤ v * p / q ∧ v * p / q ≤ 1000000000000000 := by
  have h1 := Int.mul_nonneg hv.1 (show 0 ≤ p by omega)
  have h2 := Int.mul_le_mul hv.2 hp.2 (show 0 ≤ p by omega) (by omega)
  have h3 := Int.ediv_nonneg h1 (show 0 ≤ q by omega)
  have h4 := Int.ediv_le_self q h1
  omega
/-- what CountAfter returns -/
def cntV (xs : List Int) (p q s v : Int) : Int × Int := if okM xs p q s then if inR v 0 1000000000000 then (v * p / q, 0) else (0, 2) else (0, 1)
theorem cntV_1 {xs : List Int} {p q s v : Int} (h : okM xs p q s = false) : cntV xs p q s v = (0, 1) := by unfold cntV; rw [h]; rfl
theorem cntV_2 {xs : List Int} {p q s v : Int} (h : okM xs p q s = true) (g : inR v 0 1000000000000 = false) : cntV xs p q s v = (0, 2) := by unfold cntV; rw [h, g]; rfl
theorem cntV_3 {xs : List Int} {p q s v : Int} (h : okM xs p q s = true) (g : inR v 0 1000000000000 = true) : cntV xs p q s v = (v * p / q, 0) := by unfold cntV; rw [h, g]; rfl
/-- what ShowsAfter returns -/
def shV (xs : List Int) (p q s v : Int) : Int × Int × Int := if okM xs p q s then if inR v 0 1000000000000 then ((s + v * p / q) % szS xs, (s + v * p / q) / szS xs, 0) else (0, 0, 2) else (0, 0, 1)
theorem shV_1 {xs : List Int} {p q s v : Int} (h : okM xs p q s = false) : shV xs p q s v = (0, 0, 1) := by unfold shV; rw [h]; rfl
theorem shV_2 {xs : List Int} {p q s v : Int} (h : okM xs p q s = true) (g : inR v 0 1000000000000 = false) : shV xs p q s v = (0, 0, 2) := by unfold shV; rw [h, g]; rfl
theorem shV_3 {xs : List Int} {p q s v : Int} (h : okM xs p q s = true) (g : inR v 0 1000000000000 = true) : shV xs p q s v = ((s + v * p / q) % szS xs, (s + v * p / q) / szS xs, 0) := by unfold shV; rw [h, g]; rfl
set_option maxHeartbeats 400000 in
theorem count_any (p q v : Int) (w : World) (hv : 0 ≤ v ∧ v ≤ 1000000000000) (hp : 1 ≤ p ∧ p ≤ 1000) (hq : 1 ≤ q ∧ q ≤ 1000) (g : Nat) (c1 : w.cell? ⟨g, 1, none⟩ = some (.int .i64 p)) (c2 : w.cell? ⟨g, 2, none⟩ = some (.int .i64 q)) :
    Calls Try.prog 166 #[.pointer (some ⟨g, 0, none⟩), .int .i64 v] w fun e w' => e = .returned (.int .i64 (v * p / q)) ∧ Below w.heap.size w w' := by
  obtain ⟨b1, b2, b3, b4⟩ := flow_bd hv hp hq
  obtain ⟨v0, v1⟩ := hv
  obtain ⟨p0, p1⟩ := hp
  obtain ⟨q0, q1⟩ := hq
  have hg : g < w.heap.size := block_lt_of_cell c1
  have qz : (q == 0) = false := beq_eq_false_iff_ne.2 (by omega)
  go_enter Try.func166, Try.ntmps166
  go_wp2
  go_quiet (fail)
  go_wp2
  go_ret
  exact ⟨rfl, (by repeat' (first | (with_reducible first | assumption | exact Below.refl _ _ | refine Below.drew ?_ | refine Below.alloc ?_ ?_ _ | refine Below.setCell ?_ ?_ _ | refine below_setR ?_ ?_ _ | refine below_dn ?_ _ | refine Below.trans ?_ (below_mo _ _ _ ?_) | refine Below.trans ?_ (below_mq _ _ ?_) | exact Nat.le_refl _) | (simp; done) | (simp; omega) | omega))⟩
theorem l06Positive_any (v : Int) (w : World) : Calls Try.prog 257 #[.int .i64 v] w fun e w' => e = .returned (.bool (inR v 0 1000000000000)) ∧ w = w' := by
  go_enter Try.func257, Try.ntmps257
  go_wp2_with (go_at_call 119; refine (l00In_ok _ _ _ _).mono ?_; rintro e w' ⟨rfl, rfl⟩)
  go_ret
  exact ⟨rfl, rfl⟩
/-- the code of a meter and a flow -/
def askM (xs : List Int) (p q s v : Int) : Int := if okM xs p q s then if inR v 0 1000000000000 then 0 else 2 else 1
set_option maxHeartbeats 1000000 in
theorem l06Asked_any {A : Option Addr} {xs : List Int} {W : World} {B : Nat} (hs : Nums .u8 W B A xs) (h8 : b8 xs) (c : Nat) (p q s : Int) (w : World) (hb : Below B W w) (v : Int) (g : Nat) (c0 : w.cell? ⟨g, 0, none⟩ = some (.slice A xs.length c)) (c1 : w.cell? ⟨g, 1, none⟩ = some (.int .i64 p)) (c2 : w.cell? ⟨g, 2, none⟩ = some (.int .i64 q)) (c3 : w.cell? ⟨g, 3, none⟩ = some (.int .i64 s)) :
    Calls Try.prog 167 #[.pointer (some ⟨g, 0, none⟩), .int .i64 v] w fun e w' => e = .returned (.int .i64 (askM xs p q s v)) ∧ Below w.heap.size w w' := by
  have hB := hs.bsz hb
  cases h1 : okM xs p q s <;> cases h2 : inR v 0 1000000000000
  all_goals
    go_enter Try.func167, Try.ntmps167
    go_wp2_with (first | (go_at_call 256; refine (l06Ok_any hs h8 _ _ _ _ _ (by repeat' (first | (with_reducible first | assumption | exact Below.refl _ _ | refine Below.drew ?_ | refine Below.alloc ?_ ?_ _ | refine Below.setCell ?_ ?_ _ | refine below_setR ?_ ?_ _ | refine below_dn ?_ _ | refine Below.trans ?_ (below_mo _ _ _ ?_) | refine Below.trans ?_ (below_mq _ _ ?_) | exact Nat.le_refl _) | (simp; done) | (simp; omega) | omega)) _ c0 c1 c2 c3).mono ?_; rintro e w' ⟨rfl, hb_⟩; obtain ⟨os_, d_, rfl⟩ := mo_of hb_; clear hb_) | (go_at_call 257; refine (l06Positive_any _ _).mono ?_; rintro e w' ⟨rfl, rfl⟩))
    go_ret
    exact ⟨by simp [askM, *], (by repeat' (first | (with_reducible first | assumption | exact Below.refl _ _ | refine Below.drew ?_ | refine Below.alloc ?_ ?_ _ | refine Below.setCell ?_ ?_ _ | refine below_setR ?_ ?_ _ | refine below_dn ?_ _ | refine Below.trans ?_ (below_mo _ _ _ ?_) | refine Below.trans ?_ (below_mq _ _ ?_) | exact Nat.le_refl _) | (simp; done) | (simp; omega) | omega))⟩
set_option maxHeartbeats 1000000 in
theorem implCountAfter_any {A : Option Addr} {xs : List Int} {W : World} {B : Nat} (hs : Nums .u8 W B A xs) (h8 : b8 xs) (c : Nat) (p q s : Int) (w : World) (hb : Below B W w) (v : Int) : Calls Try.prog 53 #[.agg #[.slice A xs.length c, .int .i64 p, .int .i64 q, .int .i64 s], .int .i64 v] w fun e w' => e = .returned (.tuple #[.int .i64 (cntV xs p q s v).1, .int .i64 (cntV xs p q s v).2]) ∧ Below w.heap.size w w' := by
  have hB := hs.bsz hb
  cases h1 : okM xs p q s
  · have HR := Lib.hid (cntV_1 (v := v) h1)
    go_enter Try.func53, Try.ntmps53
    go_wp2_with (go_at_call 58; refine (ValidMeter_any hs h8 _ _ _ _ _ (by repeat' (first | (with_reducible first | assumption | exact Below.refl _ _ | refine Below.drew ?_ | refine Below.alloc ?_ ?_ _ | refine Below.setCell ?_ ?_ _ | refine below_setR ?_ ?_ _ | refine below_dn ?_ _ | refine Below.trans ?_ (below_mo _ _ _ ?_) | refine Below.trans ?_ (below_mq _ _ ?_) | exact Nat.le_refl _) | (simp; done) | (simp; omega) | omega))).mono ?_; rintro e w' ⟨rfl, hb_⟩; obtain ⟨os_, d_, rfl⟩ := mo_of hb_; clear hb_)
    go_returns
    exact ⟨(by first | (rw [HR.out]; done) | (rw [HR.out]; rfl)), (by repeat' (first | (with_reducible first | assumption | exact Below.refl _ _ | refine Below.drew ?_ | refine Below.alloc ?_ ?_ _ | refine Below.setCell ?_ ?_ _ | refine below_setR ?_ ?_ _ | refine below_dn ?_ _ | refine Below.trans ?_ (below_mo _ _ _ ?_) | refine Below.trans ?_ (below_mq _ _ ?_) | exact Nat.le_refl _) | (simp; done) | (simp; omega) | omega))⟩
  · obtain ⟨_, hp, hq, _⟩ := okM_parts h1
    cases h2 : inR v 0 1000000000000
    · have HR := Lib.hid (cntV_2 h1 h2)
      go_enter Try.func53, Try.ntmps53
      go_wp2_with (first | (go_at_call 58; refine (ValidMeter_any hs h8 _ _ _ _ _ (by repeat' (first | (with_reducible first | assumption | exact Below.refl _ _ | refine Below.drew ?_ | refine Below.alloc ?_ ?_ _ | refine Below.setCell ?_ ?_ _ | refine below_setR ?_ ?_ _ | refine below_dn ?_ _ | refine Below.trans ?_ (below_mo _ _ _ ?_) | refine Below.trans ?_ (below_mq _ _ ?_) | exact Nat.le_refl _) | (simp; done) | (simp; omega) | omega))).mono ?_; rintro e w' ⟨rfl, hb_⟩; obtain ⟨os_, d_, rfl⟩ := mo_of hb_; clear hb_) | (go_at_call 116; refine (within_ok _ _ _ _).mono ?_; rintro e w' ⟨rfl, rfl⟩))
      go_returns
      exact ⟨(by first | (rw [HR.out]; done) | (rw [HR.out]; rfl)), (by repeat' (first | (with_reducible first | assumption | exact Below.refl _ _ | refine Below.drew ?_ | refine Below.alloc ?_ ?_ _ | refine Below.setCell ?_ ?_ _ | refine below_setR ?_ ?_ _ | refine below_dn ?_ _ | refine Below.trans ?_ (below_mo _ _ _ ?_) | refine Below.trans ?_ (below_mq _ _ ?_) | exact Nat.le_refl _) | (simp; done) | (simp; omega) | omega))⟩
    · have HR := Lib.hid (cntV_3 h1 h2)
      have hv := inR_t.1 h2
      go_enter Try.func53, Try.ntmps53
      go_wp2_with (first | (go_at_call 58; refine (ValidMeter_any hs h8 _ _ _ _ _ (by repeat' (first | (with_reducible first | assumption | exact Below.refl _ _ | refine Below.drew ?_ | refine Below.alloc ?_ ?_ _ | refine Below.setCell ?_ ?_ _ | refine below_setR ?_ ?_ _ | refine below_dn ?_ _ | refine Below.trans ?_ (below_mo _ _ _ ?_) | refine Below.trans ?_ (below_mq _ _ ?_) | exact Nat.le_refl _) | (simp; done) | (simp; omega) | omega))).mono ?_; rintro e w' ⟨rfl, hb_⟩; obtain ⟨os_, d_, rfl⟩ := mo_of hb_; clear hb_) | (go_at_call 116; refine (within_ok _ _ _ _).mono ?_; rintro e w' ⟨rfl, rfl⟩) | (go_at_call 166; refine (count_any p q v _ hv hp hq _ (by first | (simp [go_sem]; done) | (simp [go_sem]; rfl)) (by first | (simp [go_sem]; done) | (simp [go_sem]; rfl))).mono ?_; rintro e w' ⟨rfl, hb_⟩; obtain ⟨os_, d_, rfl⟩ := mo_of hb_; clear hb_))
      go_returns
      exact ⟨(by first | (rw [HR.out]; done) | (rw [HR.out]; rfl)), (by repeat' (first | (with_reducible first | assumption | exact Below.refl _ _ | refine Below.drew ?_ | refine Below.alloc ?_ ?_ _ | refine Below.setCell ?_ ?_ _ | refine below_setR ?_ ?_ _ | refine below_dn ?_ _ | refine Below.trans ?_ (below_mo _ _ _ ?_) | refine Below.trans ?_ (below_mq _ _ ?_) | exact Nat.le_refl _) | (simp; done) | (simp; omega) | omega))⟩
end Go.Proofs.Ytbihgnmiocfelaa.X
