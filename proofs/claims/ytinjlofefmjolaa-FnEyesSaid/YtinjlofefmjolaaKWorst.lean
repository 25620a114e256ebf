/- WorstRead, both answers. Conditions: none. -/
import Derived.Test.YtinjlofefmjolaaKWrong3
namespace Go.Proofs.Ytinjlofefmjolaa.X
open Go.RowKit
set_option linter.unusedVariables false
set_option linter.unusedSimpArgs false
set_option maxRecDepth 100000
/-- the worst of the first k turns from low on -/
def wst (f : Nat → Int) (low : Int) : Nat → Int × Int
  | 0 => (low, -1)
  | k + 1 => if (wst f low k).2 < f k then (low + k, f k) else wst f low k
theorem wst_up {f : Nat → Int} {low : Int} {k : Nat} (h : (wst f low k).2 < f k) : wst f low (k + 1) = (low + k, f k) := by
  show (if _ then _ else _) = _
  rw [if_pos h]
theorem wst_no {f : Nat → Int} {low : Int} {k : Nat} (h : ¬ (wst f low k).2 < f k) : wst f low (k + 1) = wst f low k := by
  show (if _ then _ else _) = _
  rw [if_neg h]
/-- how many wheels an eye reads wrong at turn low + j -/
def wrN (xs : List Int) (js : List (Int × Int)) (eye low : Int) (j : Nat) : Int := ((flt (wrF xs js (low + j) eye) xs.length).length : Int)
theorem wrN_bd (xs : List Int) (js : List (Int × Int)) (eye low : Int) (j : Nat) : 0 ≤ wrN xs js eye low j ∧ wrN xs js eye low j ≤ xs.length := by
  have := flt_len (wrF xs js (low + j) eye) xs.length
  unfold wrN
  omega
def wdV (xs : List Int) (js : List (Int × Int)) (low high eye : Int) : Int × Int × Int :=
  if askO xs js low = 0 then
    if inR high low (szS xs * 1000 - 1) && decide (high - low ≤ 10000) && inR eye 0 1 then ((wst (wrN xs js eye low) low (high - low + 1).toNat).1, (wst (wrN xs js eye low) low (high - low + 1).toNat).2, 0) else (0, 0, 2)
  else (0, 0, askO xs js low)
theorem wdV_a {xs : List Int} {js : List (Int × Int)} {low high eye : Int} (h : ¬ askO xs js low = 0) : wdV xs js low high eye = (0, 0, askO xs js low) := by unfold wdV; rw [if_neg h]
theorem wdV_r {xs : List Int} {js : List (Int × Int)} {low high eye : Int} (h : askO xs js low = 0) (g : (inR high low (szS xs * 1000 - 1) && decide (high - low ≤ 10000) && inR eye 0 1) = false) : wdV xs js low high eye = (0, 0, 2) := by unfold wdV; rw [if_pos h, g]; rfl
theorem wdV_0 {xs : List Int} {js : List (Int × Int)} {low high eye : Int} (h : askO xs js low = 0) (g : (inR high low (szS xs * 1000 - 1) && decide (high - low ≤ 10000) && inR eye 0 1) = true) : wdV xs js low high eye = ((wst (wrN xs js eye low) low (high - low + 1).toNat).1, (wst (wrN xs js eye low) low (high - low + 1).toNat).2, 0) := by unfold wdV; rw [if_pos h, g]; rfl
theorem wst_bd (f : Nat → Int) (low : Int) (h : ∀ j, 0 ≤ f j ∧ f j ≤ 1048576) : ∀ k, -1 ≤ (wst f low k).2 ∧ (wst f low k).2 ≤ 1048576
  | 0 => by unfold wst; omega
  | k + 1 => by
    have ih := wst_bd f low h k
    have hk := h k
    by_cases c : (wst f low k).2 < f k
    · rw [wst_up c]; omega
    · rw [wst_no c]; exact ih
set_option maxHeartbeats 4000000 in
theorem implWorst_any {A : Option Addr} {xs : List Int} {W : World} {B : Nat} (hs : Nums .u8 W B A xs) (h8 : b8 xs) (c : Nat) {L : Option Addr} {js : List (Int × Int)} {V : World} {C : Nat} (hl : Prs .i8 .i16 V C L js) (hj : j8 js) (cl : Nat) (w : World) (hb : Below B W w) (hv : Below C V w) (low high eye : Int) (hlow : -9223372036854775808 ≤ low ∧ low ≤ 9223372036854775807) (hhigh : -9223372036854775808 ≤ high ∧ high ≤ 9223372036854775807) : Calls Try.prog 36 #[.agg #[.slice A xs.length c, .slice L js.length cl], .int .i64 low, .int .i64 high, .int .i64 eye] w fun e w' => e = .returned (.tuple #[.int .i64 (wdV xs js low high eye).1, .int .i64 (wdV xs js low high eye).2.1, .int .i64 (wdV xs js low high eye).2.2]) ∧ Below w.heap.size w w' := by
  have hB := hs.bsz hb
  have hC := hl.bsz hv
  cases h1 : okO xs js
  · have HR : Hid (wdV xs js low high eye = (0, 0, 1)) := by unfold Hid; rw [wdV_a (by rw [askO_1 h1]; omega), askO_1 h1]
    go_enter Try.func36, Try.ntmps36
    go_wp2_with (go_at_call 70; refine (ValidMotion_any hs h8 _ hl hj _ _ (by repeat' (first | (with_reducible first | assumption | exact Below.refl _ _ | refine Below.drew ?_ | refine Below.alloc ?_ ?_ _ | refine Below.setCell ?_ ?_ _ | refine below_setR ?_ ?_ _ | refine below_dn ?_ _ | refine Below.trans ?_ (below_mo _ _ _ ?_) | refine Below.trans ?_ (below_mq _ _ ?_) | exact Nat.le_refl _) | (simp; done) | (simp; omega) | omega)) (by repeat' (first | (with_reducible first | assumption | exact Below.refl _ _ | refine Below.drew ?_ | refine Below.alloc ?_ ?_ _ | refine Below.setCell ?_ ?_ _ | refine below_setR ?_ ?_ _ | refine below_dn ?_ _ | refine Below.trans ?_ (below_mo _ _ _ ?_) | refine Below.trans ?_ (below_mq _ _ ?_) | exact Nat.le_refl _) | (simp; done) | (simp; omega) | omega))).mono ?_; rintro e w' ⟨rfl, hb_⟩; obtain ⟨os_, d_, rfl⟩ := mo_of hb_; clear hb_)
    go_returns
    exact ⟨(by first | (rw [HR.out]; done) | (rw [HR.out]; rfl)), (by repeat' (first | (with_reducible first | assumption | exact Below.refl _ _ | refine Below.drew ?_ | refine Below.alloc ?_ ?_ _ | refine Below.setCell ?_ ?_ _ | refine below_setR ?_ ?_ _ | refine below_dn ?_ _ | refine Below.trans ?_ (below_mo _ _ _ ?_) | refine Below.trans ?_ (below_mq _ _ ?_) | exact Nat.le_refl _) | (simp; done) | (simp; omega) | omega))⟩
  cases h2 : inR low 0 (szS xs * 1000 - 1)
  · have HR : Hid (wdV xs js low high eye = (0, 0, 2)) := by unfold Hid; rw [wdV_a (by rw [askO_2 h1 h2]; omega), askO_2 h1 h2]
    go_enter Try.func36, Try.ntmps36
    go_wp2_with (first | (go_at_call 70; refine (ValidMotion_any hs h8 _ hl hj _ _ (by repeat' (first | (with_reducible first | assumption | exact Below.refl _ _ | refine Below.drew ?_ | refine Below.alloc ?_ ?_ _ | refine Below.setCell ?_ ?_ _ | refine below_setR ?_ ?_ _ | refine below_dn ?_ _ | refine Below.trans ?_ (below_mo _ _ _ ?_) | refine Below.trans ?_ (below_mq _ _ ?_) | exact Nat.le_refl _) | (simp; done) | (simp; omega) | omega)) (by repeat' (first | (with_reducible first | assumption | exact Below.refl _ _ | refine Below.drew ?_ | refine Below.alloc ?_ ?_ _ | refine Below.setCell ?_ ?_ _ | refine below_setR ?_ ?_ _ | refine below_dn ?_ _ | refine Below.trans ?_ (below_mo _ _ _ ?_) | refine Below.trans ?_ (below_mq _ _ ?_) | exact Nat.le_refl _) | (simp; done) | (simp; omega) | omega))).mono ?_; rintro e w' ⟨rfl, hb_⟩; obtain ⟨os_, d_, rfl⟩ := mo_of hb_; clear hb_) | (go_at_call 83; refine (hasTurn_any hs h8 c hl hj cl _ (by repeat' (first | (with_reducible first | assumption | exact Below.refl _ _ | refine Below.drew ?_ | refine Below.alloc ?_ ?_ _ | refine Below.setCell ?_ ?_ _ | refine below_setR ?_ ?_ _ | refine below_dn ?_ _ | refine Below.trans ?_ (below_mo _ _ _ ?_) | refine Below.trans ?_ (below_mq _ _ ?_) | exact Nat.le_refl _) | (simp; done) | (simp; omega) | omega)) (by repeat' (first | (with_reducible first | assumption | exact Below.refl _ _ | refine Below.drew ?_ | refine Below.alloc ?_ ?_ _ | refine Below.setCell ?_ ?_ _ | refine below_setR ?_ ?_ _ | refine below_dn ?_ _ | refine Below.trans ?_ (below_mo _ _ _ ?_) | refine Below.trans ?_ (below_mq _ _ ?_) | exact Nat.le_refl _) | (simp; done) | (simp; omega) | omega)) _ (by first | assumption | (simp [go_sem]; done) | (simp [go_sem, *]; done) | (simp [go_sem]; rfl)) (by first | assumption | (simp [go_sem]; done) | (simp [go_sem, *]; done) | (simp [go_sem]; rfl)) _).mono ?_; rintro e w' ⟨rfl, rfl⟩))
    go_returns
    exact ⟨(by first | (rw [HR.out]; done) | (rw [HR.out]; rfl)), (by repeat' (first | (with_reducible first | assumption | exact Below.refl _ _ | refine Below.drew ?_ | refine Below.alloc ?_ ?_ _ | refine Below.setCell ?_ ?_ _ | refine below_setR ?_ ?_ _ | refine below_dn ?_ _ | refine Below.trans ?_ (below_mo _ _ _ ?_) | refine Below.trans ?_ (below_mq _ _ ?_) | exact Nat.le_refl _) | (simp; done) | (simp; omega) | omega))⟩
  have h20 := inR_t.1 h2
  cases h3 : inR high 0 (szS xs * 1000 - 1)
  · have HR : Hid (wdV xs js low high eye = (0, 0, 2)) := wdV_r (askO_0 h1 h2) (by
      have : inR high low (szS xs * 1000 - 1) = false := by have := inR_f.1 h3; exact inR_f.2 (by omega)
      rw [this]; rfl)
    clear h20
    go_enter Try.func36, Try.ntmps36
    go_wp2_with (first | (go_at_call 70; refine (ValidMotion_any hs h8 _ hl hj _ _ (by repeat' (first | (with_reducible first | assumption | exact Below.refl _ _ | refine Below.drew ?_ | refine Below.alloc ?_ ?_ _ | refine Below.setCell ?_ ?_ _ | refine below_setR ?_ ?_ _ | refine below_dn ?_ _ | refine Below.trans ?_ (below_mo _ _ _ ?_) | refine Below.trans ?_ (below_mq _ _ ?_) | exact Nat.le_refl _) | (simp; done) | (simp; omega) | omega)) (by repeat' (first | (with_reducible first | assumption | exact Below.refl _ _ | refine Below.drew ?_ | refine Below.alloc ?_ ?_ _ | refine Below.setCell ?_ ?_ _ | refine below_setR ?_ ?_ _ | refine below_dn ?_ _ | refine Below.trans ?_ (below_mo _ _ _ ?_) | refine Below.trans ?_ (below_mq _ _ ?_) | exact Nat.le_refl _) | (simp; done) | (simp; omega) | omega))).mono ?_; rintro e w' ⟨rfl, hb_⟩; obtain ⟨os_, d_, rfl⟩ := mo_of hb_; clear hb_) | (go_at_call 83; refine (hasTurn_any hs h8 c hl hj cl _ (by repeat' (first | (with_reducible first | assumption | exact Below.refl _ _ | refine Below.drew ?_ | refine Below.alloc ?_ ?_ _ | refine Below.setCell ?_ ?_ _ | refine below_setR ?_ ?_ _ | refine below_dn ?_ _ | refine Below.trans ?_ (below_mo _ _ _ ?_) | refine Below.trans ?_ (below_mq _ _ ?_) | exact Nat.le_refl _) | (simp; done) | (simp; omega) | omega)) (by repeat' (first | (with_reducible first | assumption | exact Below.refl _ _ | refine Below.drew ?_ | refine Below.alloc ?_ ?_ _ | refine Below.setCell ?_ ?_ _ | refine below_setR ?_ ?_ _ | refine below_dn ?_ _ | refine Below.trans ?_ (below_mo _ _ _ ?_) | refine Below.trans ?_ (below_mq _ _ ?_) | exact Nat.le_refl _) | (simp; done) | (simp; omega) | omega)) _ (by first | assumption | (simp [go_sem]; done) | (simp [go_sem, *]; done) | (simp [go_sem]; rfl)) (by first | assumption | (simp [go_sem]; done) | (simp [go_sem, *]; done) | (simp [go_sem]; rfl)) _).mono ?_; rintro e w' ⟨rfl, rfl⟩))
    go_returns
    exact ⟨(by first | (rw [HR.out]; done) | (rw [HR.out]; rfl)), (by repeat' (first | (with_reducible first | assumption | exact Below.refl _ _ | refine Below.drew ?_ | refine Below.alloc ?_ ?_ _ | refine Below.setCell ?_ ?_ _ | refine below_setR ?_ ?_ _ | refine below_dn ?_ _ | refine Below.trans ?_ (below_mo _ _ _ ?_) | refine Below.trans ?_ (below_mq _ _ ?_) | exact Nat.le_refl _) | (simp; done) | (simp; omega) | omega))⟩
  have h30 := inR_t.1 h3
  by_cases h4 : high < low
  · have HR : Hid (wdV xs js low high eye = (0, 0, 2)) := wdV_r (askO_0 h1 h2) (by
      have : inR high low (szS xs * 1000 - 1) = false := inR_f.2 (by omega)
      rw [this]; rfl)
    clear h20 h30
    go_enter Try.func36, Try.ntmps36
    go_wp2_with (first | (go_at_call 70; refine (ValidMotion_any hs h8 _ hl hj _ _ (by repeat' (first | (with_reducible first | assumption | exact Below.refl _ _ | refine Below.drew ?_ | refine Below.alloc ?_ ?_ _ | refine Below.setCell ?_ ?_ _ | refine below_setR ?_ ?_ _ | refine below_dn ?_ _ | refine Below.trans ?_ (below_mo _ _ _ ?_) | refine Below.trans ?_ (below_mq _ _ ?_) | exact Nat.le_refl _) | (simp; done) | (simp; omega) | omega)) (by repeat' (first | (with_reducible first | assumption | exact Below.refl _ _ | refine Below.drew ?_ | refine Below.alloc ?_ ?_ _ | refine Below.setCell ?_ ?_ _ | refine below_setR ?_ ?_ _ | refine below_dn ?_ _ | refine Below.trans ?_ (below_mo _ _ _ ?_) | refine Below.trans ?_ (below_mq _ _ ?_) | exact Nat.le_refl _) | (simp; done) | (simp; omega) | omega))).mono ?_; rintro e w' ⟨rfl, hb_⟩; obtain ⟨os_, d_, rfl⟩ := mo_of hb_; clear hb_) | (go_at_call 83; refine (hasTurn_any hs h8 c hl hj cl _ (by repeat' (first | (with_reducible first | assumption | exact Below.refl _ _ | refine Below.drew ?_ | refine Below.alloc ?_ ?_ _ | refine Below.setCell ?_ ?_ _ | refine below_setR ?_ ?_ _ | refine below_dn ?_ _ | refine Below.trans ?_ (below_mo _ _ _ ?_) | refine Below.trans ?_ (below_mq _ _ ?_) | exact Nat.le_refl _) | (simp; done) | (simp; omega) | omega)) (by repeat' (first | (with_reducible first | assumption | exact Below.refl _ _ | refine Below.drew ?_ | refine Below.alloc ?_ ?_ _ | refine Below.setCell ?_ ?_ _ | refine below_setR ?_ ?_ _ | refine below_dn ?_ _ | refine Below.trans ?_ (below_mo _ _ _ ?_) | refine Below.trans ?_ (below_mq _ _ ?_) | exact Nat.le_refl _) | (simp; done) | (simp; omega) | omega)) _ (by first | assumption | (simp [go_sem]; done) | (simp [go_sem, *]; done) | (simp [go_sem]; rfl)) (by first | assumption | (simp [go_sem]; done) | (simp [go_sem, *]; done) | (simp [go_sem]; rfl)) _).mono ?_; rintro e w' ⟨rfl, rfl⟩))
    go_returns
    exact ⟨(by first | (rw [HR.out]; done) | (rw [HR.out]; rfl)), (by repeat' (first | (with_reducible first | assumption | exact Below.refl _ _ | refine Below.drew ?_ | refine Below.alloc ?_ ?_ _ | refine Below.setCell ?_ ?_ _ | refine below_setR ?_ ?_ _ | refine below_dn ?_ _ | refine Below.trans ?_ (below_mo _ _ _ ?_) | refine Below.trans ?_ (below_mq _ _ ?_) | exact Nat.le_refl _) | (simp; done) | (simp; omega) | omega))⟩
  obtain ⟨⟨b0, b1⟩, -, -⟩ := turn_bd h1 h2
  obtain ⟨⟨b2, b3⟩, -, -⟩ := turn_bd h1 h3
  have h5 : low ≤ high := by omega
  have ew : IntKind.i64.wrap (high - low) = high - low := IntWalk.i64_in _ ⟨by omega, by omega⟩
  have hr : inR high low (szS xs * 1000 - 1) = true := inR_t.2 ⟨h5, h30.2⟩
  by_cases h6 : 10000 < high - low
  · have HR : Hid (wdV xs js low high eye = (0, 0, 2)) := wdV_r (askO_0 h1 h2) (by rw [show decide (high - low ≤ 10000) = false from decide_eq_false (by omega), hr]; rfl)
    clear h20 h30
    go_enter Try.func36, Try.ntmps36
    go_wp2_with (first | (go_at_call 70; refine (ValidMotion_any hs h8 _ hl hj _ _ (by repeat' (first | (with_reducible first | assumption | exact Below.refl _ _ | refine Below.drew ?_ | refine Below.alloc ?_ ?_ _ | refine Below.setCell ?_ ?_ _ | refine below_setR ?_ ?_ _ | refine below_dn ?_ _ | refine Below.trans ?_ (below_mo _ _ _ ?_) | refine Below.trans ?_ (below_mq _ _ ?_) | exact Nat.le_refl _) | (simp; done) | (simp; omega) | omega)) (by repeat' (first | (with_reducible first | assumption | exact Below.refl _ _ | refine Below.drew ?_ | refine Below.alloc ?_ ?_ _ | refine Below.setCell ?_ ?_ _ | refine below_setR ?_ ?_ _ | refine below_dn ?_ _ | refine Below.trans ?_ (below_mo _ _ _ ?_) | refine Below.trans ?_ (below_mq _ _ ?_) | exact Nat.le_refl _) | (simp; done) | (simp; omega) | omega))).mono ?_; rintro e w' ⟨rfl, hb_⟩; obtain ⟨os_, d_, rfl⟩ := mo_of hb_; clear hb_) | (go_at_call 83; refine (hasTurn_any hs h8 c hl hj cl _ (by repeat' (first | (with_reducible first | assumption | exact Below.refl _ _ | refine Below.drew ?_ | refine Below.alloc ?_ ?_ _ | refine Below.setCell ?_ ?_ _ | refine below_setR ?_ ?_ _ | refine below_dn ?_ _ | refine Below.trans ?_ (below_mo _ _ _ ?_) | refine Below.trans ?_ (below_mq _ _ ?_) | exact Nat.le_refl _) | (simp; done) | (simp; omega) | omega)) (by repeat' (first | (with_reducible first | assumption | exact Below.refl _ _ | refine Below.drew ?_ | refine Below.alloc ?_ ?_ _ | refine Below.setCell ?_ ?_ _ | refine below_setR ?_ ?_ _ | refine below_dn ?_ _ | refine Below.trans ?_ (below_mo _ _ _ ?_) | refine Below.trans ?_ (below_mq _ _ ?_) | exact Nat.le_refl _) | (simp; done) | (simp; omega) | omega)) _ (by first | assumption | (simp [go_sem]; done) | (simp [go_sem, *]; done) | (simp [go_sem]; rfl)) (by first | assumption | (simp [go_sem]; done) | (simp [go_sem, *]; done) | (simp [go_sem]; rfl)) _).mono ?_; rintro e w' ⟨rfl, rfl⟩))
    go_returns
    exact ⟨(by first | (rw [HR.out]; done) | (rw [HR.out]; rfl)), (by repeat' (first | (with_reducible first | assumption | exact Below.refl _ _ | refine Below.drew ?_ | refine Below.alloc ?_ ?_ _ | refine Below.setCell ?_ ?_ _ | refine below_setR ?_ ?_ _ | refine below_dn ?_ _ | refine Below.trans ?_ (below_mo _ _ _ ?_) | refine Below.trans ?_ (below_mq _ _ ?_) | exact Nat.le_refl _) | (simp; done) | (simp; omega) | omega))⟩
  have h7 : high - low ≤ 10000 := by omega
  cases h8' : inR eye 0 1
  · have HR : Hid (wdV xs js low high eye = (0, 0, 2)) := wdV_r (askO_0 h1 h2) (by rw [h8', Bool.and_false])
    clear h20 h30
    go_enter Try.func36, Try.ntmps36
    go_wp2_with (first | (go_at_call 70; refine (ValidMotion_any hs h8 _ hl hj _ _ (by repeat' (first | (with_reducible first | assumption | exact Below.refl _ _ | refine Below.drew ?_ | refine Below.alloc ?_ ?_ _ | refine Below.setCell ?_ ?_ _ | refine below_setR ?_ ?_ _ | refine below_dn ?_ _ | refine Below.trans ?_ (below_mo _ _ _ ?_) | refine Below.trans ?_ (below_mq _ _ ?_) | exact Nat.le_refl _) | (simp; done) | (simp; omega) | omega)) (by repeat' (first | (with_reducible first | assumption | exact Below.refl _ _ | refine Below.drew ?_ | refine Below.alloc ?_ ?_ _ | refine Below.setCell ?_ ?_ _ | refine below_setR ?_ ?_ _ | refine below_dn ?_ _ | refine Below.trans ?_ (below_mo _ _ _ ?_) | refine Below.trans ?_ (below_mq _ _ ?_) | exact Nat.le_refl _) | (simp; done) | (simp; omega) | omega))).mono ?_; rintro e w' ⟨rfl, hb_⟩; obtain ⟨os_, d_, rfl⟩ := mo_of hb_; clear hb_) | (go_at_call 83; refine (hasTurn_any hs h8 c hl hj cl _ (by repeat' (first | (with_reducible first | assumption | exact Below.refl _ _ | refine Below.drew ?_ | refine Below.alloc ?_ ?_ _ | refine Below.setCell ?_ ?_ _ | refine below_setR ?_ ?_ _ | refine below_dn ?_ _ | refine Below.trans ?_ (below_mo _ _ _ ?_) | refine Below.trans ?_ (below_mq _ _ ?_) | exact Nat.le_refl _) | (simp; done) | (simp; omega) | omega)) (by repeat' (first | (with_reducible first | assumption | exact Below.refl _ _ | refine Below.drew ?_ | refine Below.alloc ?_ ?_ _ | refine Below.setCell ?_ ?_ _ | refine below_setR ?_ ?_ _ | refine below_dn ?_ _ | refine Below.trans ?_ (below_mo _ _ _ ?_) | refine Below.trans ?_ (below_mq _ _ ?_) | exact Nat.le_refl _) | (simp; done) | (simp; omega) | omega)) _ (by first | assumption | (simp [go_sem]; done) | (simp [go_sem, *]; done) | (simp [go_sem]; rfl)) (by first | assumption | (simp [go_sem]; done) | (simp [go_sem, *]; done) | (simp [go_sem]; rfl)) _).mono ?_; rintro e w' ⟨rfl, rfl⟩) | (go_at_call 79; refine (isEye_any _ _).mono ?_; rintro e w' ⟨rfl, rfl⟩))
    go_returns
    exact ⟨(by first | (rw [HR.out]; done) | (rw [HR.out]; rfl)), (by repeat' (first | (with_reducible first | assumption | exact Below.refl _ _ | refine Below.drew ?_ | refine Below.alloc ?_ ?_ _ | refine Below.setCell ?_ ?_ _ | refine below_setR ?_ ?_ _ | refine below_dn ?_ _ | refine Below.trans ?_ (below_mo _ _ _ ?_) | refine Below.trans ?_ (below_mq _ _ ?_) | exact Nat.le_refl _) | (simp; done) | (simp; omega) | omega))⟩
  · have HR : Hid (wdV xs js low high eye = _) := wdV_0 (askO_0 h1 h2) (by rw [h8', hr, decide_eq_true h7]; rfl)
    have HK := Lib.hid h1
    have HT := Lib.hid (And.intro h20 h30)
    have HW := Lib.hid (wst_bd (wrN xs js eye low) low (fun j => by have := wrN_bd xs js eye low j; have := hs.len; omega))
    clear h20 h30 hr
    go_enter Try.func36, Try.ntmps36
    go_wp2_with (first | (go_at_call 70; refine (ValidMotion_any hs h8 _ hl hj _ _ (by repeat' (first | (with_reducible first | assumption | exact Below.refl _ _ | refine Below.drew ?_ | refine Below.alloc ?_ ?_ _ | refine Below.setCell ?_ ?_ _ | refine below_setR ?_ ?_ _ | refine below_dn ?_ _ | refine Below.trans ?_ (below_mo _ _ _ ?_) | refine Below.trans ?_ (below_mq _ _ ?_) | exact Nat.le_refl _) | (simp; done) | (simp; omega) | omega)) (by repeat' (first | (with_reducible first | assumption | exact Below.refl _ _ | refine Below.drew ?_ | refine Below.alloc ?_ ?_ _ | refine Below.setCell ?_ ?_ _ | refine below_setR ?_ ?_ _ | refine below_dn ?_ _ | refine Below.trans ?_ (below_mo _ _ _ ?_) | refine Below.trans ?_ (below_mq _ _ ?_) | exact Nat.le_refl _) | (simp; done) | (simp; omega) | omega))).mono ?_; rintro e w' ⟨rfl, hb_⟩; obtain ⟨os_, d_, rfl⟩ := mo_of hb_; clear hb_) | (go_at_call 83; refine (hasTurn_any hs h8 c hl hj cl _ (by repeat' (first | (with_reducible first | assumption | exact Below.refl _ _ | refine Below.drew ?_ | refine Below.alloc ?_ ?_ _ | refine Below.setCell ?_ ?_ _ | refine below_setR ?_ ?_ _ | refine below_dn ?_ _ | refine Below.trans ?_ (below_mo _ _ _ ?_) | refine Below.trans ?_ (below_mq _ _ ?_) | exact Nat.le_refl _) | (simp; done) | (simp; omega) | omega)) (by repeat' (first | (with_reducible first | assumption | exact Below.refl _ _ | refine Below.drew ?_ | refine Below.alloc ?_ ?_ _ | refine Below.setCell ?_ ?_ _ | refine below_setR ?_ ?_ _ | refine below_dn ?_ _ | refine Below.trans ?_ (below_mo _ _ _ ?_) | refine Below.trans ?_ (below_mq _ _ ?_) | exact Nat.le_refl _) | (simp; done) | (simp; omega) | omega)) _ (by first | assumption | (simp [go_sem]; done) | (simp [go_sem, *]; done) | (simp [go_sem]; rfl)) (by first | assumption | (simp [go_sem]; done) | (simp [go_sem, *]; done) | (simp [go_sem]; rfl)) _).mono ?_; rintro e w' ⟨rfl, rfl⟩) | (go_at_call 79; refine (isEye_any _ _).mono ?_; rintro e w' ⟨rfl, rfl⟩))
    go_loopw [11, 12, 13] (fun at_ mo_ i wr => ∃ (k : Nat) (os : Array Obj) (d : Nat), (k : Int) ≤ high - low + 1 ∧ i = .int .i64 (low + k) ∧ at_ = .int .i64 (wst (wrN xs js eye low) low k).1 ∧ mo_ = .int .i64 (wst (wrN xs js eye low) low k).2 ∧ wr = mo (w.alloc (.cells #[.slice A xs.length c, .slice L js.length cl] 49)) os d) (fun _ _ i _ => (high + 1 - intOf i).toNat)
    case atStart => exact ⟨0, _, _, by omega, by simp, rfl, rfl, rfl⟩
    case round =>
      obtain ⟨k, os, d, hk, rfl, rfl, rfl, rfl⟩ := hrel
      obtain ⟨w0, w1⟩ := HW.out k
      have en : IntKind.i64.wrap (low + (k : Int) + 1) = low + (k : Int) + 1 := IntWalk.i64_in _ ⟨by omega, by omega⟩
      by_cases hlt : low + (k : Int) ≤ high
      · have HI : Hid (inR (low + (k : Int)) 0 (szS xs * 1000 - 1) = true) := inR_t.2 (by have := HT.out; omega)
        have HN : Hid (wrN xs js eye low k = ((flt (wrF xs js (low + (k : Int)) eye) xs.length).length : Int)) := rfl
        have HL := flt_len (wrF xs js (low + (k : Int)) eye) xs.length
        have HL2 := hs.len
        go_wp2_with fail
        refine (wrong_any hs h8 c hl hj cl _ (by repeat' (first | (with_reducible first | assumption | exact Below.refl _ _ | refine Below.drew ?_ | refine Below.alloc ?_ ?_ _ | refine Below.setCell ?_ ?_ _ | refine below_setR ?_ ?_ _ | refine below_dn ?_ _ | refine Below.trans ?_ (below_mo _ _ _ ?_) | refine Below.trans ?_ (below_mq _ _ ?_) | exact Nat.le_refl _) | (simp; done) | (simp; omega) | omega)) (by repeat' (first | (with_reducible first | assumption | exact Below.refl _ _ | refine Below.drew ?_ | refine Below.alloc ?_ ?_ _ | refine Below.setCell ?_ ?_ _ | refine below_setR ?_ ?_ _ | refine below_dn ?_ _ | refine Below.trans ?_ (below_mo _ _ _ ?_) | refine Below.trans ?_ (below_mq _ _ ?_) | exact Nat.le_refl _) | (simp; done) | (simp; omega) | omega)) _ (by first | assumption | (simp [go_sem]; done) | (simp [go_sem, *]; done) | (simp [go_sem]; rfl)) (by first | assumption | (simp [go_sem]; done) | (simp [go_sem, *]; done) | (simp [go_sem]; rfl)) (low + (k : Int)) eye HK.out HI.out).mono ?_
        rintro e w' ⟨v, rfl, own, hb_⟩
        obtain ⟨A5, c5, rfl, N5⟩ := own_nums own (by omega)
        clear own N5
        obtain ⟨os_, d_, rfl⟩ := mo_of hb_
        clear hb_
        by_cases hgt : (wst (wrN xs js eye low) low k).2 < ((flt (wrF xs js (low + (k : Int)) eye) xs.length).length : Int)
        · have HU := Lib.hid (wst_up (f := wrN xs js eye low) (low := low) (k := k) (by rw [HN.out]; exact hgt))
          go_wp2
          exact ⟨⟨k + 1, _, _, by omega, by go_num, by rw [HU.out]; first | done | rfl, by rw [HU.out]; first | done | rfl, mo_mo _ _ _ _ _⟩, by simp [intOf]; omega⟩
        · have HU := Lib.hid (wst_no (f := wrN xs js eye low) (low := low) (k := k) (by rw [HN.out]; exact hgt))
          go_wp2
          exact ⟨⟨k + 1, _, _, by omega, by go_num, by rw [HU.out]; first | done | rfl, by rw [HU.out]; first | done | rfl, mo_mo _ _ _ _ _⟩, by simp [intOf]; omega⟩
      · have HE : Hid ((high - low + 1).toNat = k) := by unfold Hid; omega
        go_wp2
        go_returns
        exact ⟨by rw [HR.out, HE.out]; rfl, (by repeat' (first | (with_reducible first | assumption | exact Below.refl _ _ | refine Below.drew ?_ | refine Below.alloc ?_ ?_ _ | refine Below.setCell ?_ ?_ _ | refine below_setR ?_ ?_ _ | refine below_dn ?_ _ | refine Below.trans ?_ (below_mo _ _ _ ?_) | refine Below.trans ?_ (below_mq _ _ ?_) | exact Nat.le_refl _) | (simp; done) | (simp; omega) | omega))⟩
set_option maxHeartbeats 4000000 in
theorem specWorst_any {A : Option Addr} {xs : List Int} {W : World} {B : Nat} (hs : Nums .u8 W B A xs) (h8 : b8 xs) (c : Nat) {L : Option Addr} {js : List (Int × Int)} {V : World} {C : Nat} (hl : Prs .i8 .i16 V C L js) (hj : j8 js) (cl : Nat) (w : World) (hb : Below B W w) (hv : Below C V w) (low high eye : Int) (hlow : -9223372036854775808 ≤ low ∧ low ≤ 9223372036854775807) (hhigh : -9223372036854775808 ≤ high ∧ high ≤ 9223372036854775807) : Calls Try.prog 37 #[.agg #[.slice A xs.length c, .slice L js.length cl], .int .i64 low, .int .i64 high, .int .i64 eye] w fun e w' => e = .returned (.tuple #[.int .i64 (wdV xs js low high eye).1, .int .i64 (wdV xs js low high eye).2.1, .int .i64 (wdV xs js low high eye).2.2]) ∧ Below w.heap.size w w' := by
  have hB := hs.bsz hb
  have hC := hl.bsz hv
  have z0 : 0 ≤ szS xs ∧ szS xs ≤ 1000000000001 := sizeTo_bd h8 xs.length
  have es : IntKind.i64.wrap (szS xs * 1000 - 1) = szS xs * 1000 - 1 := IntWalk.i64_in _ ⟨by omega, by omega⟩
  by_cases h0 : askO xs js low = 0
  case neg =>
    have HR : Hid (wdV xs js low high eye = (0, 0, askO xs js low)) := wdV_a h0
    have b1 : (askO xs js low != 0) = true := by simp [bne, h0]
    have b2 : (askO xs js low == 0) = false := by simp [h0]
    go_enter Try.func37, Try.ntmps37
    (go_wp2_with fail; refine (l02Asked_any hs h8 c hl hj cl _ (by repeat' (first | (with_reducible first | assumption | exact Below.refl _ _ | refine Below.drew ?_ | refine Below.alloc ?_ ?_ _ | refine Below.setCell ?_ ?_ _ | refine below_setR ?_ ?_ _ | refine below_dn ?_ _ | refine Below.trans ?_ (below_mo _ _ _ ?_) | refine Below.trans ?_ (below_mq _ _ ?_) | exact Nat.le_refl _) | (simp; done) | (simp; omega) | omega)) (by repeat' (first | (with_reducible first | assumption | exact Below.refl _ _ | refine Below.drew ?_ | refine Below.alloc ?_ ?_ _ | refine Below.setCell ?_ ?_ _ | refine below_setR ?_ ?_ _ | refine below_dn ?_ _ | refine Below.trans ?_ (below_mo _ _ _ ?_) | refine Below.trans ?_ (below_mq _ _ ?_) | exact Nat.le_refl _) | (simp; done) | (simp; omega) | omega)) _ (by first | assumption | (simp [go_sem]; done) | (simp [go_sem, *]; done) | (simp [go_sem]; rfl)) (by first | assumption | (simp [go_sem]; done) | (simp [go_sem, *]; done) | (simp [go_sem]; rfl)) _).mono ?_; rintro e w' ⟨rfl, hb_⟩; obtain ⟨os0, d0, rfl⟩ := mo_of hb_; clear hb_)
    go_wp2
    go_returns
    exact ⟨(by first | (rw [HR.out]; done) | (rw [HR.out]; rfl)), (by repeat' (first | (with_reducible first | assumption | exact Below.refl _ _ | refine Below.drew ?_ | refine Below.alloc ?_ ?_ _ | refine Below.setCell ?_ ?_ _ | refine below_setR ?_ ?_ _ | refine below_dn ?_ _ | refine Below.trans ?_ (below_mo _ _ _ ?_) | refine Below.trans ?_ (below_mq _ _ ?_) | exact Nat.le_refl _) | (simp; done) | (simp; omega) | omega))⟩
  obtain ⟨h1, h2⟩ := askO_in h0
  have h20 := inR_t.1 h2
  have HS := Lib.hid (okO_parts h1).1
  obtain ⟨⟨b0, b1⟩, -, -⟩ := turn_bd h1 h2
  have HA := Lib.hid h0
  cases h3 : inR high low (szS xs * 1000 - 1)
  · have HR : Hid (wdV xs js low high eye = (0, 0, 2)) := wdV_r h0 (by rw [h3]; rfl)
    clear h20 h0 h1 h2
    go_enter Try.func37, Try.ntmps37
    (go_wp2_with fail; refine (l02Asked_any hs h8 c hl hj cl _ (by repeat' (first | (with_reducible first | assumption | exact Below.refl _ _ | refine Below.drew ?_ | refine Below.alloc ?_ ?_ _ | refine Below.setCell ?_ ?_ _ | refine below_setR ?_ ?_ _ | refine below_dn ?_ _ | refine Below.trans ?_ (below_mo _ _ _ ?_) | refine Below.trans ?_ (below_mq _ _ ?_) | exact Nat.le_refl _) | (simp; done) | (simp; omega) | omega)) (by repeat' (first | (with_reducible first | assumption | exact Below.refl _ _ | refine Below.drew ?_ | refine Below.alloc ?_ ?_ _ | refine Below.setCell ?_ ?_ _ | refine below_setR ?_ ?_ _ | refine below_dn ?_ _ | refine Below.trans ?_ (below_mo _ _ _ ?_) | refine Below.trans ?_ (below_mq _ _ ?_) | exact Nat.le_refl _) | (simp; done) | (simp; omega) | omega)) _ (by first | assumption | (simp [go_sem]; done) | (simp [go_sem, *]; done) | (simp [go_sem]; rfl)) (by first | assumption | (simp [go_sem]; done) | (simp [go_sem, *]; done) | (simp [go_sem]; rfl)) _).mono ?_; rintro e w' ⟨rfl, hb_⟩; obtain ⟨os0, d0, rfl⟩ := mo_of hb_; clear hb_)
    rw [HA.out]
    go_wp2_with (first | (go_at_call 65; refine (l02Span_any hs h8 c hl hj cl _ (by repeat' (first | (with_reducible first | assumption | exact Below.refl _ _ | refine Below.drew ?_ | refine Below.alloc ?_ ?_ _ | refine Below.setCell ?_ ?_ _ | refine below_setR ?_ ?_ _ | refine below_dn ?_ _ | refine Below.trans ?_ (below_mo _ _ _ ?_) | refine Below.trans ?_ (below_mq _ _ ?_) | exact Nat.le_refl _) | (simp; done) | (simp; omega) | omega)) (by repeat' (first | (with_reducible first | assumption | exact Below.refl _ _ | refine Below.drew ?_ | refine Below.alloc ?_ ?_ _ | refine Below.setCell ?_ ?_ _ | refine below_setR ?_ ?_ _ | refine below_dn ?_ _ | refine Below.trans ?_ (below_mo _ _ _ ?_) | refine Below.trans ?_ (below_mq _ _ ?_) | exact Nat.le_refl _) | (simp; done) | (simp; omega) | omega)) _ (by first | assumption | (simp [go_sem]; done) | (simp [go_sem, *]; done) | (simp [go_sem]; rfl)) (by first | assumption | (simp [go_sem]; done) | (simp [go_sem, *]; done) | (simp [go_sem]; rfl)) HS.out).mono ?_; rintro e w' ⟨rfl, rfl⟩) | (go_at_call 58; refine (l00In_ok _ _ _ _).mono ?_; rintro e w' ⟨rfl, rfl⟩))
    go_returns
    exact ⟨(by first | (rw [HR.out]; done) | (rw [HR.out]; rfl)), (by repeat' (first | (with_reducible first | assumption | exact Below.refl _ _ | refine Below.drew ?_ | refine Below.alloc ?_ ?_ _ | refine Below.setCell ?_ ?_ _ | refine below_setR ?_ ?_ _ | refine below_dn ?_ _ | refine Below.trans ?_ (below_mo _ _ _ ?_) | refine Below.trans ?_ (below_mq _ _ ?_) | exact Nat.le_refl _) | (simp; done) | (simp; omega) | omega))⟩
  have h30 := inR_t.1 h3
  have h3' : inR high 0 (szS xs * 1000 - 1) = true := inR_t.2 (by omega)
  obtain ⟨⟨b2, b3⟩, -, -⟩ := turn_bd h1 h3'
  have h5 : low ≤ high := by omega
  have ew : IntKind.i64.wrap (high - low) = high - low := IntWalk.i64_in _ ⟨by omega, by omega⟩
  by_cases h6 : 10000 < high - low
  · have HR : Hid (wdV xs js low high eye = (0, 0, 2)) := wdV_r h0 (by rw [show decide (high - low ≤ 10000) = false from decide_eq_false (by omega), h3]; rfl)
    clear h20 h0 h1 h2 h30 h3'
    go_enter Try.func37, Try.ntmps37
    (go_wp2_with fail; refine (l02Asked_any hs h8 c hl hj cl _ (by repeat' (first | (with_reducible first | assumption | exact Below.refl _ _ | refine Below.drew ?_ | refine Below.alloc ?_ ?_ _ | refine Below.setCell ?_ ?_ _ | refine below_setR ?_ ?_ _ | refine below_dn ?_ _ | refine Below.trans ?_ (below_mo _ _ _ ?_) | refine Below.trans ?_ (below_mq _ _ ?_) | exact Nat.le_refl _) | (simp; done) | (simp; omega) | omega)) (by repeat' (first | (with_reducible first | assumption | exact Below.refl _ _ | refine Below.drew ?_ | refine Below.alloc ?_ ?_ _ | refine Below.setCell ?_ ?_ _ | refine below_setR ?_ ?_ _ | refine below_dn ?_ _ | refine Below.trans ?_ (below_mo _ _ _ ?_) | refine Below.trans ?_ (below_mq _ _ ?_) | exact Nat.le_refl _) | (simp; done) | (simp; omega) | omega)) _ (by first | assumption | (simp [go_sem]; done) | (simp [go_sem, *]; done) | (simp [go_sem]; rfl)) (by first | assumption | (simp [go_sem]; done) | (simp [go_sem, *]; done) | (simp [go_sem]; rfl)) _).mono ?_; rintro e w' ⟨rfl, hb_⟩; obtain ⟨os0, d0, rfl⟩ := mo_of hb_; clear hb_)
    rw [HA.out]
    go_wp2_with (first | (go_at_call 65; refine (l02Span_any hs h8 c hl hj cl _ (by repeat' (first | (with_reducible first | assumption | exact Below.refl _ _ | refine Below.drew ?_ | refine Below.alloc ?_ ?_ _ | refine Below.setCell ?_ ?_ _ | refine below_setR ?_ ?_ _ | refine below_dn ?_ _ | refine Below.trans ?_ (below_mo _ _ _ ?_) | refine Below.trans ?_ (below_mq _ _ ?_) | exact Nat.le_refl _) | (simp; done) | (simp; omega) | omega)) (by repeat' (first | (with_reducible first | assumption | exact Below.refl _ _ | refine Below.drew ?_ | refine Below.alloc ?_ ?_ _ | refine Below.setCell ?_ ?_ _ | refine below_setR ?_ ?_ _ | refine below_dn ?_ _ | refine Below.trans ?_ (below_mo _ _ _ ?_) | refine Below.trans ?_ (below_mq _ _ ?_) | exact Nat.le_refl _) | (simp; done) | (simp; omega) | omega)) _ (by first | assumption | (simp [go_sem]; done) | (simp [go_sem, *]; done) | (simp [go_sem]; rfl)) (by first | assumption | (simp [go_sem]; done) | (simp [go_sem, *]; done) | (simp [go_sem]; rfl)) HS.out).mono ?_; rintro e w' ⟨rfl, rfl⟩) | (go_at_call 58; refine (l00In_ok _ _ _ _).mono ?_; rintro e w' ⟨rfl, rfl⟩))
    go_returns
    exact ⟨(by first | (rw [HR.out]; done) | (rw [HR.out]; rfl)), (by repeat' (first | (with_reducible first | assumption | exact Below.refl _ _ | refine Below.drew ?_ | refine Below.alloc ?_ ?_ _ | refine Below.setCell ?_ ?_ _ | refine below_setR ?_ ?_ _ | refine below_dn ?_ _ | refine Below.trans ?_ (below_mo _ _ _ ?_) | refine Below.trans ?_ (below_mq _ _ ?_) | exact Nat.le_refl _) | (simp; done) | (simp; omega) | omega))⟩
  have h7 : high - low ≤ 10000 := by omega
  cases h8' : inR eye 0 1
  · have HR : Hid (wdV xs js low high eye = (0, 0, 2)) := wdV_r h0 (by rw [h8', Bool.and_false])
    clear h20 h0 h1 h2 h30 h3'
    go_enter Try.func37, Try.ntmps37
    (go_wp2_with fail; refine (l02Asked_any hs h8 c hl hj cl _ (by repeat' (first | (with_reducible first | assumption | exact Below.refl _ _ | refine Below.drew ?_ | refine Below.alloc ?_ ?_ _ | refine Below.setCell ?_ ?_ _ | refine below_setR ?_ ?_ _ | refine below_dn ?_ _ | refine Below.trans ?_ (below_mo _ _ _ ?_) | refine Below.trans ?_ (below_mq _ _ ?_) | exact Nat.le_refl _) | (simp; done) | (simp; omega) | omega)) (by repeat' (first | (with_reducible first | assumption | exact Below.refl _ _ | refine Below.drew ?_ | refine Below.alloc ?_ ?_ _ | refine Below.setCell ?_ ?_ _ | refine below_setR ?_ ?_ _ | refine below_dn ?_ _ | refine Below.trans ?_ (below_mo _ _ _ ?_) | refine Below.trans ?_ (below_mq _ _ ?_) | exact Nat.le_refl _) | (simp; done) | (simp; omega) | omega)) _ (by first | assumption | (simp [go_sem]; done) | (simp [go_sem, *]; done) | (simp [go_sem]; rfl)) (by first | assumption | (simp [go_sem]; done) | (simp [go_sem, *]; done) | (simp [go_sem]; rfl)) _).mono ?_; rintro e w' ⟨rfl, hb_⟩; obtain ⟨os0, d0, rfl⟩ := mo_of hb_; clear hb_)
    rw [HA.out]
    go_wp2_with (first | (go_at_call 65; refine (l02Span_any hs h8 c hl hj cl _ (by repeat' (first | (with_reducible first | assumption | exact Below.refl _ _ | refine Below.drew ?_ | refine Below.alloc ?_ ?_ _ | refine Below.setCell ?_ ?_ _ | refine below_setR ?_ ?_ _ | refine below_dn ?_ _ | refine Below.trans ?_ (below_mo _ _ _ ?_) | refine Below.trans ?_ (below_mq _ _ ?_) | exact Nat.le_refl _) | (simp; done) | (simp; omega) | omega)) (by repeat' (first | (with_reducible first | assumption | exact Below.refl _ _ | refine Below.drew ?_ | refine Below.alloc ?_ ?_ _ | refine Below.setCell ?_ ?_ _ | refine below_setR ?_ ?_ _ | refine below_dn ?_ _ | refine Below.trans ?_ (below_mo _ _ _ ?_) | refine Below.trans ?_ (below_mq _ _ ?_) | exact Nat.le_refl _) | (simp; done) | (simp; omega) | omega)) _ (by first | assumption | (simp [go_sem]; done) | (simp [go_sem, *]; done) | (simp [go_sem]; rfl)) (by first | assumption | (simp [go_sem]; done) | (simp [go_sem, *]; done) | (simp [go_sem]; rfl)) HS.out).mono ?_; rintro e w' ⟨rfl, rfl⟩) | (go_at_call 58; refine (l00In_ok _ _ _ _).mono ?_; rintro e w' ⟨rfl, rfl⟩) | (go_at_call 81; refine (l02Eye_any _ _).mono ?_; rintro e w' ⟨rfl, rfl⟩))
    go_returns
    exact ⟨(by first | (rw [HR.out]; done) | (rw [HR.out]; rfl)), (by repeat' (first | (with_reducible first | assumption | exact Below.refl _ _ | refine Below.drew ?_ | refine Below.alloc ?_ ?_ _ | refine Below.setCell ?_ ?_ _ | refine below_setR ?_ ?_ _ | refine below_dn ?_ _ | refine Below.trans ?_ (below_mo _ _ _ ?_) | refine Below.trans ?_ (below_mq _ _ ?_) | exact Nat.le_refl _) | (simp; done) | (simp; omega) | omega))⟩
  · have HR : Hid (wdV xs js low high eye = _) := wdV_0 h0 (by rw [h8', h3, decide_eq_true h7]; rfl)
    have HK := Lib.hid h1
    have HT := Lib.hid (And.intro h20 h30)
    have HW := Lib.hid (wst_bd (wrN xs js eye low) low (fun j => by have := wrN_bd xs js eye low j; have := hs.len; omega))
    clear h20 h0 h1 h2 h30 h3'
    go_enter Try.func37, Try.ntmps37
    (go_wp2_with fail; refine (l02Asked_any hs h8 c hl hj cl _ (by repeat' (first | (with_reducible first | assumption | exact Below.refl _ _ | refine Below.drew ?_ | refine Below.alloc ?_ ?_ _ | refine Below.setCell ?_ ?_ _ | refine below_setR ?_ ?_ _ | refine below_dn ?_ _ | refine Below.trans ?_ (below_mo _ _ _ ?_) | refine Below.trans ?_ (below_mq _ _ ?_) | exact Nat.le_refl _) | (simp; done) | (simp; omega) | omega)) (by repeat' (first | (with_reducible first | assumption | exact Below.refl _ _ | refine Below.drew ?_ | refine Below.alloc ?_ ?_ _ | refine Below.setCell ?_ ?_ _ | refine below_setR ?_ ?_ _ | refine below_dn ?_ _ | refine Below.trans ?_ (below_mo _ _ _ ?_) | refine Below.trans ?_ (below_mq _ _ ?_) | exact Nat.le_refl _) | (simp; done) | (simp; omega) | omega)) _ (by first | assumption | (simp [go_sem]; done) | (simp [go_sem, *]; done) | (simp [go_sem]; rfl)) (by first | assumption | (simp [go_sem]; done) | (simp [go_sem, *]; done) | (simp [go_sem]; rfl)) _).mono ?_; rintro e w' ⟨rfl, hb_⟩; obtain ⟨os0, d0, rfl⟩ := mo_of hb_; clear hb_)
    rw [HA.out]
    go_wp2_with (first | (go_at_call 65; refine (l02Span_any hs h8 c hl hj cl _ (by repeat' (first | (with_reducible first | assumption | exact Below.refl _ _ | refine Below.drew ?_ | refine Below.alloc ?_ ?_ _ | refine Below.setCell ?_ ?_ _ | refine below_setR ?_ ?_ _ | refine below_dn ?_ _ | refine Below.trans ?_ (below_mo _ _ _ ?_) | refine Below.trans ?_ (below_mq _ _ ?_) | exact Nat.le_refl _) | (simp; done) | (simp; omega) | omega)) (by repeat' (first | (with_reducible first | assumption | exact Below.refl _ _ | refine Below.drew ?_ | refine Below.alloc ?_ ?_ _ | refine Below.setCell ?_ ?_ _ | refine below_setR ?_ ?_ _ | refine below_dn ?_ _ | refine Below.trans ?_ (below_mo _ _ _ ?_) | refine Below.trans ?_ (below_mq _ _ ?_) | exact Nat.le_refl _) | (simp; done) | (simp; omega) | omega)) _ (by first | assumption | (simp [go_sem]; done) | (simp [go_sem, *]; done) | (simp [go_sem]; rfl)) (by first | assumption | (simp [go_sem]; done) | (simp [go_sem, *]; done) | (simp [go_sem]; rfl)) HS.out).mono ?_; rintro e w' ⟨rfl, rfl⟩) | (go_at_call 58; refine (l00In_ok _ _ _ _).mono ?_; rintro e w' ⟨rfl, rfl⟩) | (go_at_call 81; refine (l02Eye_any _ _).mono ?_; rintro e w' ⟨rfl, rfl⟩))
    go_loopw [12, 13, 14] (fun at_ mo_ i wr => ∃ (k : Nat) (os : Array Obj) (d : Nat), (k : Int) ≤ high - low + 1 ∧ i = .int .i64 (low + k) ∧ at_ = .int .i64 (wst (wrN xs js eye low) low k).1 ∧ mo_ = .int .i64 (wst (wrN xs js eye low) low k).2 ∧ wr = mo (w.alloc (.cells #[.slice A xs.length c, .slice L js.length cl] 49)) os d) (fun _ _ i _ => (high + 1 - intOf i).toNat)
    case atStart => exact ⟨0, _, _, by omega, by simp, rfl, rfl, rfl⟩
    case round =>
      obtain ⟨k, os, d, hk, rfl, rfl, rfl, rfl⟩ := hrel
      obtain ⟨w0, w1⟩ := HW.out k
      have en : IntKind.i64.wrap (low + (k : Int) + 1) = low + (k : Int) + 1 := IntWalk.i64_in _ ⟨by omega, by omega⟩
      by_cases hlt : low + (k : Int) ≤ high
      · have HI : Hid (inR (low + (k : Int)) 0 (szS xs * 1000 - 1) = true) := inR_t.2 (by have := HT.out; omega)
        have HN : Hid (wrN xs js eye low k = ((flt (wrF xs js (low + (k : Int)) eye) xs.length).length : Int)) := rfl
        have HL := flt_len (wrF xs js (low + (k : Int)) eye) xs.length
        have HL2 := hs.len
        go_wp2_with fail
        refine (l02Wrong_any hs h8 c hl hj cl _ (by repeat' (first | (with_reducible first | assumption | exact Below.refl _ _ | refine Below.drew ?_ | refine Below.alloc ?_ ?_ _ | refine Below.setCell ?_ ?_ _ | refine below_setR ?_ ?_ _ | refine below_dn ?_ _ | refine Below.trans ?_ (below_mo _ _ _ ?_) | refine Below.trans ?_ (below_mq _ _ ?_) | exact Nat.le_refl _) | (simp; done) | (simp; omega) | omega)) (by repeat' (first | (with_reducible first | assumption | exact Below.refl _ _ | refine Below.drew ?_ | refine Below.alloc ?_ ?_ _ | refine Below.setCell ?_ ?_ _ | refine below_setR ?_ ?_ _ | refine below_dn ?_ _ | refine Below.trans ?_ (below_mo _ _ _ ?_) | refine Below.trans ?_ (below_mq _ _ ?_) | exact Nat.le_refl _) | (simp; done) | (simp; omega) | omega)) _ (by first | assumption | (simp [go_sem]; done) | (simp [go_sem, *]; done) | (simp [go_sem]; rfl)) (by first | assumption | (simp [go_sem]; done) | (simp [go_sem, *]; done) | (simp [go_sem]; rfl)) (low + (k : Int)) eye HK.out HI.out).mono ?_
        rintro e w' ⟨v, rfl, own, hb_⟩
        obtain ⟨A5, c5, rfl, N5⟩ := own_nums own (by omega)
        clear own N5
        obtain ⟨os_, d_, rfl⟩ := mo_of hb_
        clear hb_
        by_cases hgt : (wst (wrN xs js eye low) low k).2 < ((flt (wrF xs js (low + (k : Int)) eye) xs.length).length : Int)
        · have HU := Lib.hid (wst_up (f := wrN xs js eye low) (low := low) (k := k) (by rw [HN.out]; exact hgt))
          go_wp2
          exact ⟨⟨k + 1, _, _, by omega, by go_num, by rw [HU.out]; first | done | rfl, by rw [HU.out]; first | done | rfl, mo_mo _ _ _ _ _⟩, by simp [intOf]; omega⟩
        · have HU := Lib.hid (wst_no (f := wrN xs js eye low) (low := low) (k := k) (by rw [HN.out]; exact hgt))
          go_wp2
          exact ⟨⟨k + 1, _, _, by omega, by go_num, by rw [HU.out]; first | done | rfl, by rw [HU.out]; first | done | rfl, mo_mo _ _ _ _ _⟩, by simp [intOf]; omega⟩
      · have HE : Hid ((high - low + 1).toNat = k) := by unfold Hid; omega
        go_wp2
        go_returns
        exact ⟨by rw [HR.out, HE.out]; rfl, (by repeat' (first | (with_reducible first | assumption | exact Below.refl _ _ | refine Below.drew ?_ | refine Below.alloc ?_ ?_ _ | refine Below.setCell ?_ ?_ _ | refine below_setR ?_ ?_ _ | refine below_dn ?_ _ | refine Below.trans ?_ (below_mo _ _ _ ?_) | refine Below.trans ?_ (below_mq _ _ ?_) | exact Nat.le_refl _) | (simp; done) | (simp; omega) | omega))⟩
end Go.Proofs.Ytinjlofefmjolaa.X
