/- Where a wheel first moves. Conditions: none. -/
import Derived.Test.YtcaaljcfdahpaaaKMot5
namespace Go.Proofs.Ytcaaljcfdahpaaa.X
open Go.RowKit
set_option linter.unusedVariables false
set_option linter.unusedSimpArgs false
set_option maxRecDepth 100000
theorem el_take (xs : List Int) (k : Nat) {i : Nat} (h : i < k) : el (xs.take k) (i : Int) = el xs (i : Int) := by
  unfold el
  rw [Int.toNat_natCast, List.getD_eq_getElem?_getD, List.getD_eq_getElem?_getD, List.getElem?_take, if_pos h]
theorem sizeTo_take (xs : List Int) (k : Nat) : ∀ j : Nat, j ≤ k → sizeTo (xs.take k) j = sizeTo xs j
  | 0, _ => rfl
  | j + 1, h => by
    unfold sizeTo
    rw [sizeTo_take xs k j (by omega), el_take xs k (by omega)]
theorem b8_take {xs : List Int} (h : b8 xs) (k : Nat) : b8 (xs.take k) := by
  intro i
  have h1 := h i
  unfold el at h1 ⊢
  rw [List.getD_eq_getElem?_getD] at h1 ⊢
  rw [List.getElem?_take]
  split
  · exact h1
  · exact ⟨by simp, by simp⟩
/-- the halving search -/
def srB (P : Int → Bool) : Nat → Int → Int → Int
  | 0, _, hi => hi
  | n + 1, lo, hi => if lo + 1 < hi then (if P ((lo + hi) / 2) then srB P n lo ((lo + hi) / 2) else srB P n ((lo + hi) / 2) hi) else hi
theorem srB_end {P : Int → Bool} {n : Nat} {lo hi : Int} (h : ¬ lo + 1 < hi) : srB P n lo hi = hi := by
  cases n
  · rfl
  · unfold srB; rw [if_neg h]
theorem srB_yes {P : Int → Bool} {n : Nat} {lo hi m : Int} (h : lo + 1 < hi) (hm : (lo + hi) / 2 = m) (hp : P m = true) : srB P (n + 1) lo hi = srB P n lo m := by
  show (if lo + 1 < hi then _ else _) = _
  rw [if_pos h, hm, hp, if_pos rfl]
theorem srB_no {P : Int → Bool} {n : Nat} {lo hi m : Int} (h : lo + 1 < hi) (hm : (lo + hi) / 2 = m) (hp : P m = false) : srB P (n + 1) lo hi = srB P n m hi := by
  show (if lo + 1 < hi then _ else _) = _
  rw [if_pos h, hm, hp, if_neg (by simp)]
/-- has wheel k moved at a turn -/
def mvP (xs : List Int) (js : List (Int × Int)) (k : Nat) (t : Int) : Bool := decide (¬ ptV xs js t k = 0)
def fmH (xs : List Int) (k : Nat) : Int := pr xs k * 1000
def askW (xs : List Int) (js : List (Int × Int)) (wh : Int) : Int := if okO xs js then if inR wh 0 (xs.length - 1) then 0 else 2 else 1
theorem askW_1 {xs : List Int} {js : List (Int × Int)} {t : Int} (h : okO xs js = false) : askW xs js t = 1 := by unfold askW; rw [h]; rfl
theorem askW_2 {xs : List Int} {js : List (Int × Int)} {t : Int} (h : okO xs js = true) (g : inR t 0 (xs.length - 1) = false) : askW xs js t = 2 := by unfold askW; rw [h, g]; rfl
theorem askW_0 {xs : List Int} {js : List (Int × Int)} {t : Int} (h : okO xs js = true) (g : inR t 0 (xs.length - 1) = true) : askW xs js t = 0 := by unfold askW; rw [h, g]; rfl
theorem askW_in {xs : List Int} {js : List (Int × Int)} {t : Int} (h : askW xs js t = 0) : okO xs js = true ∧ inR t 0 (xs.length - 1) = true := by
  unfold askW at h
  cases h1 : okO xs js
  · rw [h1] at h; simp at h
  · rw [h1] at h
    cases h2 : inR t 0 (xs.length - 1)
    · rw [h2] at h; simp at h
    · exact ⟨rfl, rfl⟩
/-- what FirstMove returns -/
def fmV (xs : List Int) (js : List (Int × Int)) (wh : Int) : Int × Int := if askW xs js wh = 0 then (srB (mvP xs js wh.toNat) (fmH xs wh.toNat).toNat 0 (fmH xs wh.toNat), 0) else (0, askW xs js wh)
theorem fmV_1 {xs : List Int} {js : List (Int × Int)} {t : Int} (h : ¬ askW xs js t = 0) : fmV xs js t = (0, askW xs js t) := by unfold fmV; rw [if_neg h]
theorem fmV_0 {xs : List Int} {js : List (Int × Int)} {k : Nat} (h : askW xs js k = 0) : fmV xs js k = (srB (mvP xs js k) (fmH xs k).toNat 0 (fmH xs k), 0) := by unfold fmV; rw [if_pos h, Int.toNat_natCast]
theorem fmH_bd {xs : List Int} (h : okS xs = true) {k : Nat} (hk : k < xs.length) : 1000 ≤ fmH xs k ∧ fmH xs k ≤ szS xs * 1000 ∧ szS xs ≤ 1000000000000 ∧ pr xs k ≤ 1000000000000 := by
  have h1 := pr_pos h (k := k) (by omega)
  have h2 := pr_all h
  have h3 := pr_le h (j := k) (xs.length - k) (by omega)
  rw [show k + (xs.length - k) = xs.length by omega] at h3
  unfold fmH szS
  omega
theorem hasWheel_any (wh : Int) (n c : Nat) (A : Option Addr) (hn : n ≤ 1048576) (w : World) : Calls Try.prog 105 #[.slice A n c, .int .i64 wh] w fun e w' => e = .returned (.bool (inR wh 0 (n - 1))) ∧ w = w' := by
  go_enter Try.func105, Try.ntmps105
  go_wp2_with (first | (go_at_call 140; refine (wheels_any _ _ _ _ hn).mono ?_; rintro e w' ⟨rfl, rfl⟩) | (go_at_call 89; refine (within_ok _ _ _ _).mono ?_; rintro e w' ⟨rfl, rfl⟩))
  go_ret
  exact ⟨rfl, rfl⟩
theorem place_any {A : Option Addr} {xs : List Int} {W : World} {B : Nat} (hs : Nums .u8 W B A xs) (h8 : b8 xs) (c : Nat) (hc : xs.length ≤ c) (k : Nat) (hk : k < xs.length) (w : World) (hb : Below B W w) : Calls Try.prog 106 #[.slice A xs.length c, .int .i64 (k : Int)] w fun e w' => e = .returned (.int .i64 (sizeTo xs k)) ∧ w = w' := by
  have hB := hs.bsz hb
  have hn := hs.len
  obtain ⟨b, off, rfl, hbs, hcc⟩ := hs.at hb hk
  have g0 : (0 : Int) ≤ (k : Int) := by omega
  have g1 : (k : Int) ≤ (c : Int) := by omega
  have g2 : k ≤ c := by omega
  have g3 : ¬ (c : Int) < (k : Int) := by omega
  go_enter Try.func106, Try.ntmps106
  go_wp2_with (go_at_call 81; refine (size_any (hs.take k) (b8_take h8 k) _ _ (List.length_take_of_le (Nat.le_of_lt hk)) _ hb).mono ?_; rintro e w' ⟨rfl, rfl⟩)
  go_ret
  exact ⟨by rw [sizeTo_take xs k k (Nat.le_refl _)]; rfl, rfl⟩
theorem l02Wheel_any {A : Option Addr} {xs : List Int} {W : World} {B : Nat} (hs : Nums .u8 W B A xs) (h8 : b8 xs) (c : Nat) {L : Option Addr} {js : List (Int × Int)} {V : World} {C : Nat} (hl : Prs .i8 .i16 V C L js) (hj : j8 js) (cl : Nat) (w : World) (hb : Below B W w) (hv : Below C V w) (g : Nat) (k0 : w.cell? ⟨g, 0, none⟩ = some (.slice A xs.length c)) (k1 : w.cell? ⟨g, 1, none⟩ = some (.slice L js.length cl)) (t : Int) : Calls Try.prog 104 #[.pointer (some ⟨g, 0, none⟩), .int .i64 t] w fun e w' => e = .returned (.int .i64 (askW xs js t)) ∧ Below w.heap.size w w' := by
  have hB := hs.bsz hb
  have hC := hl.bsz hv
  have hn := hs.len
  have hg : g < w.heap.size := block_lt_of_cell k0
  cases h1 : okO xs js
  · have HR := Lib.hid (askW_1 (t := t) h1)
    go_enter Try.func104, Try.ntmps104
    go_wp2_with (go_at_call 130; refine (l02Ok_any hs h8 c hl hj cl _ (by repeat' (first | (with_reducible first | assumption | exact Below.refl _ _ | refine Below.drew ?_ | refine Below.alloc ?_ ?_ _ | refine Below.setCell ?_ ?_ _ | refine below_setR ?_ ?_ _ | refine below_dn ?_ _ | refine Below.trans ?_ (below_mo _ _ _ ?_) | refine Below.trans ?_ (below_mq _ _ ?_) | exact Nat.le_refl _) | (simp; done) | (simp; omega) | omega)) (by repeat' (first | (with_reducible first | assumption | exact Below.refl _ _ | refine Below.drew ?_ | refine Below.alloc ?_ ?_ _ | refine Below.setCell ?_ ?_ _ | refine below_setR ?_ ?_ _ | refine below_dn ?_ _ | refine Below.trans ?_ (below_mo _ _ _ ?_) | refine Below.trans ?_ (below_mq _ _ ?_) | exact Nat.le_refl _) | (simp; done) | (simp; omega) | omega)) _ (by first | assumption | (simp [go_sem]; done) | (simp [go_sem, *]; done) | (simp [go_sem]; rfl)) (by first | assumption | (simp [go_sem]; done) | (simp [go_sem, *]; done) | (simp [go_sem]; rfl))).mono ?_; rintro e w' ⟨rfl, hb_⟩; obtain ⟨os_, d_, rfl⟩ := mo_of hb_; clear hb_)
    go_ret
    exact ⟨(by first | (rw [HR.out]; done) | (rw [HR.out]; rfl)), (by repeat' (first | (with_reducible first | assumption | exact Below.refl _ _ | refine Below.drew ?_ | refine Below.alloc ?_ ?_ _ | refine Below.setCell ?_ ?_ _ | refine below_setR ?_ ?_ _ | refine below_dn ?_ _ | refine Below.trans ?_ (below_mo _ _ _ ?_) | refine Below.trans ?_ (below_mq _ _ ?_) | exact Nat.le_refl _) | (simp; done) | (simp; omega) | omega))⟩
  · have HK := Lib.hid (okO_parts h1).1
    cases h2 : inR t 0 (xs.length - 1)
    · have HR := Lib.hid (askW_2 h1 h2)
      go_enter Try.func104, Try.ntmps104
      go_wp2_with (first | (go_at_call 130; refine (l02Ok_any hs h8 c hl hj cl _ (by repeat' (first | (with_reducible first | assumption | exact Below.refl _ _ | refine Below.drew ?_ | refine Below.alloc ?_ ?_ _ | refine Below.setCell ?_ ?_ _ | refine below_setR ?_ ?_ _ | refine below_dn ?_ _ | refine Below.trans ?_ (below_mo _ _ _ ?_) | refine Below.trans ?_ (below_mq _ _ ?_) | exact Nat.le_refl _) | (simp; done) | (simp; omega) | omega)) (by repeat' (first | (with_reducible first | assumption | exact Below.refl _ _ | refine Below.drew ?_ | refine Below.alloc ?_ ?_ _ | refine Below.setCell ?_ ?_ _ | refine below_setR ?_ ?_ _ | refine below_dn ?_ _ | refine Below.trans ?_ (below_mo _ _ _ ?_) | refine Below.trans ?_ (below_mq _ _ ?_) | exact Nat.le_refl _) | (simp; done) | (simp; omega) | omega)) _ (by first | assumption | (simp [go_sem]; done) | (simp [go_sem, *]; done) | (simp [go_sem]; rfl)) (by first | assumption | (simp [go_sem]; done) | (simp [go_sem, *]; done) | (simp [go_sem]; rfl))).mono ?_; rintro e w' ⟨rfl, hb_⟩; obtain ⟨os_, d_, rfl⟩ := mo_of hb_; clear hb_) | (go_at_call 84; refine (l00In_ok _ _ _ _).mono ?_; rintro e w' ⟨rfl, rfl⟩))
      go_ret
      exact ⟨(by first | (rw [HR.out]; done) | (rw [HR.out]; rfl)), (by repeat' (first | (with_reducible first | assumption | exact Below.refl _ _ | refine Below.drew ?_ | refine Below.alloc ?_ ?_ _ | refine Below.setCell ?_ ?_ _ | refine below_setR ?_ ?_ _ | refine below_dn ?_ _ | refine Below.trans ?_ (below_mo _ _ _ ?_) | refine Below.trans ?_ (below_mq _ _ ?_) | exact Nat.le_refl _) | (simp; done) | (simp; omega) | omega))⟩
    · have HR := Lib.hid (askW_0 h1 h2)
      go_enter Try.func104, Try.ntmps104
      go_wp2_with (first | (go_at_call 130; refine (l02Ok_any hs h8 c hl hj cl _ (by repeat' (first | (with_reducible first | assumption | exact Below.refl _ _ | refine Below.drew ?_ | refine Below.alloc ?_ ?_ _ | refine Below.setCell ?_ ?_ _ | refine below_setR ?_ ?_ _ | refine below_dn ?_ _ | refine Below.trans ?_ (below_mo _ _ _ ?_) | refine Below.trans ?_ (below_mq _ _ ?_) | exact Nat.le_refl _) | (simp; done) | (simp; omega) | omega)) (by repeat' (first | (with_reducible first | assumption | exact Below.refl _ _ | refine Below.drew ?_ | refine Below.alloc ?_ ?_ _ | refine Below.setCell ?_ ?_ _ | refine below_setR ?_ ?_ _ | refine below_dn ?_ _ | refine Below.trans ?_ (below_mo _ _ _ ?_) | refine Below.trans ?_ (below_mq _ _ ?_) | exact Nat.le_refl _) | (simp; done) | (simp; omega) | omega)) _ (by first | assumption | (simp [go_sem]; done) | (simp [go_sem, *]; done) | (simp [go_sem]; rfl)) (by first | assumption | (simp [go_sem]; done) | (simp [go_sem, *]; done) | (simp [go_sem]; rfl))).mono ?_; rintro e w' ⟨rfl, hb_⟩; obtain ⟨os_, d_, rfl⟩ := mo_of hb_; clear hb_) | (go_at_call 84; refine (l00In_ok _ _ _ _).mono ?_; rintro e w' ⟨rfl, rfl⟩))
      go_ret
      exact ⟨(by first | (rw [HR.out]; done) | (rw [HR.out]; rfl)), (by repeat' (first | (with_reducible first | assumption | exact Below.refl _ _ | refine Below.drew ?_ | refine Below.alloc ?_ ?_ _ | refine Below.setCell ?_ ?_ _ | refine below_setR ?_ ?_ _ | refine below_dn ?_ _ | refine Below.trans ?_ (below_mo _ _ _ ?_) | refine Below.trans ?_ (below_mq _ _ ?_) | exact Nat.le_refl _) | (simp; done) | (simp; omega) | omega))⟩
end Go.Proofs.Ytcaaljcfdahpaaa.X
