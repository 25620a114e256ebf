/- Counts on wheels: the reference's next value with a digit; moves. Conditions: none. -/
import Derived.Test.YtkphbagckbbalaaKCntX
namespace Go.Proofs.Ytkphbagckbbalaa.X
open Go.RowKit
set_option linter.unusedVariables false
set_option linter.unusedSimpArgs false
set_option maxRecDepth 100000
/-- what is left of v below wheel k, above wheel j -/
def lowV (xs : List Int) (v : Int) (k j : Nat) : Int := v % pr xs k / pr xs j
theorem lowV_end {xs : List Int} (h : okS xs = true) (v : Int) {k : Nat} (hk : k ≤ xs.length) : lowV xs v k k = 0 := by
  have p := pr_pos h hk
  exact Int.ediv_eq_zero_of_lt (Int.emod_nonneg _ (by omega)) (Int.emod_lt_of_pos _ (by omega))
theorem lowV_0 (xs : List Int) (v : Int) (k : Nat) : lowV xs v k 0 = v % pr xs k := by
  show v % pr xs k / 1 = _
  rw [Int.ediv_one]
theorem lowV_step {xs : List Int} (h : okS xs = true) (v : Int) {k j : Nat} (hk : k ≤ xs.length) (hj : j < k) : lowV xs v k j = lowV xs v k (j + 1) * el xs (j : Int) + dg xs v j := by
  have p := pr_pos h (k := j) (by omega)
  have s := okS_el h (k := j) (by omega)
  have hd : pr xs j * el xs (j : Int) ∣ pr xs k := by
    have := pr_dvd (xs := xs) (j := j + 1) (k - (j + 1))
    rw [show j + 1 + (k - (j + 1)) = k by omega] at this
    exact this
  rw [dg_eq h v (by omega), ← div_mod_place (n := v) (by omega) (by omega) hd]
  unfold lowV
  rw [show pr xs (j + 1) = pr xs j * el xs (j : Int) from rfl, ← Int.ediv_ediv_of_nonneg (by omega)]
  have := Int.mul_ediv_add_emod (v % pr xs k / pr xs j) (el xs (j : Int))
  rw [Int.mul_comm] at this
  omega
theorem lowV_bd {xs : List Int} (h : okS xs = true) (v : Int) {k : Nat} (hk : k ≤ xs.length) {j : Nat} (hj : j ≤ xs.length) : 0 ≤ lowV xs v k j ∧ lowV xs v k j ≤ 1000000000000 := by
  have p := pr_pos h hk
  have q := (size_eq h hk).2
  have r := pr_pos h hj
  have a := Int.emod_nonneg v (show pr xs k ≠ 0 by omega)
  have b := Int.emod_lt_of_pos v (show 0 < pr xs k by omega)
  have c := Int.ediv_le_self (pr xs j) a
  exact ⟨Int.ediv_nonneg a (by omega), by unfold lowV; omega⟩
set_option maxHeartbeats 2000000 in
theorem l01ValueT {A : Option Addr} {xs : List Int} {W : World} {B : Nat} (hs : Nums .u8 W B A xs) (h8 : b8 xs) (c : Nat) (hok : okS xs = true) (k : Nat) (hk : k < xs.length) (v : Int) (w : World) (hb : Below B W w) : Calls Try.prog 123 #[.slice A k c, .agg #[.int .u8 (dg xs v 0), .int .u8 (dg xs v 1), .int .u8 (dg xs v 2), .int .u8 (dg xs v 3), .int .u8 (dg xs v 4), .int .u8 (dg xs v 5), .int .u8 (dg xs v 6), .int .u8 (dg xs v 7)]] w fun e w' => e = .returned (.int .i64 (v % pr xs k)) ∧ Below w.heap.size w w' := by
  have hl := okS_len hok
  have HF := Lib.hid (dg_d8 hok v)
  have HST := Lib.hid (fun j (hj : j < k) => lowV_step hok v (Nat.le_of_lt hk) hj)
  have HBD := Lib.hid (fun j (hj : j ≤ k) => lowV_bd hok v (Nat.le_of_lt hk) (j := j) (by omega))
  have HEND := Lib.hid (lowV_end hok v (Nat.le_of_lt hk))
  have H0 := Lib.hid (lowV_0 xs v k)
  clear hok
  go_enter Try.func123, Try.ntmps123
  go_wp2
  go_loopw [5, 6] (fun t i wr => ∃ m : Nat, m ≤ k ∧ i = .int .i64 ((m : Int) - 1) ∧ t = .int .i64 (lowV xs v k m) ∧ ∃ d, wr = (w.alloc (.cells #[.int .u8 (dg xs v 0), .int .u8 (dg xs v 1), .int .u8 (dg xs v 2), .int .u8 (dg xs v 3), .int .u8 (dg xs v 4), .int .u8 (dg xs v 5), .int .u8 (dg xs v 6), .int .u8 (dg xs v 7)] 43)).drewN d) (fun _ i _ => (intOf i + 1).toNat)
  case atStart => exact ⟨k, Nat.le_refl _, rfl, by rw [HEND.out], 0, rfl⟩
  case round =>
    obtain ⟨m, hm, rfl, rfl, d, rfl⟩ := hrel
    by_cases hlt : 0 < m
    · obtain ⟨j, rfl⟩ : ∃ j, m = j + 1 := ⟨m - 1, by omega⟩
      obtain ⟨b, off, rfl, hbs, hc⟩ := hs.at hb (k := j) (by omega)
      have ej : ((j + 1 : Nat) : Int) - 1 = (j : Int) := by omega
      have hj8 : j < 8 := by omega
      obtain ⟨b1, b2⟩ := HBD.out (j + 1) (by omega)
      obtain ⟨b3, b4⟩ := HBD.out j (by omega)
      have hst := HST.out j (by omega)
      obtain ⟨f0, f1⟩ := HF.out j
      obtain ⟨e0, e1⟩ := h8 j
      obtain ⟨m0, m1⟩ := mul_le_255 ⟨b1, by omega⟩ ⟨e0, e1⟩
      have ha := a8_at .u8 (dg xs v) hj8
      rw [ej]
      have g0 : (0 : Int) ≤ (j : Int) := by omega
      have g1 : (j : Int) < 8 := by omega
      have g2 : (j : Int) < (k : Int) := by omega
      have g3 : j < k := by omega
      have HST2 := Lib.hid hst
      rw [hst] at b3 b4
      clear ej hst
      go_wp2
      go_quiet (fail)
      go_wp2
      exact ⟨⟨j, by omega, rfl, by rw [HST2.out], _, rfl⟩, by simp [intOf]⟩
    · obtain rfl : m = 0 := by omega
      go_wp2
      go_ret
      exact ⟨by rw [← H0.out]; rfl, (by repeat' (first | (with_reducible first | assumption | exact Below.refl _ _ | refine Below.drew ?_ | refine Below.alloc ?_ ?_ _ | refine Below.setCell ?_ ?_ _ | refine below_setR ?_ ?_ _ | refine below_dn ?_ _ | refine Below.trans ?_ (below_mo _ _ _ ?_) | refine Below.trans ?_ (below_mq _ _ ?_) | exact Nat.le_refl _) | (simp; done) | (simp; omega) | omega))⟩
set_option maxHeartbeats 4000000 in
theorem specNextC {A : Option Addr} {xs : List Int} {W : World} {B : Nat} (hs : Nums .u8 W B A xs) (h8 : b8 xs) (c : Nat) (hc : xs.length ≤ c) (hok : okS xs = true) (k : Nat) (hk : k < xs.length) {d v : Int} (hd : 0 ≤ d ∧ d < el xs (k : Int)) (hv : 0 ≤ v ∧ v < szS xs) (w : World) (hb : Below B W w) : Calls Try.prog 45 #[.slice A xs.length c, .agg #[.int .u8 (dg xs v 0), .int .u8 (dg xs v 1), .int .u8 (dg xs v 2), .int .u8 (dg xs v 3), .int .u8 (dg xs v 4), .int .u8 (dg xs v 5), .int .u8 (dg xs v 6), .int .u8 (dg xs v 7)], .int .i64 (k : Int), .int .i64 d] w fun e w' => e = .returned (.tuple #[.int .i64 (nextV xs v k d), .int .i64 0]) ∧ Below w.heap.size w w' := by
  have hB := hs.bsz hb
  have hz := szS_bd hok
  have hl8 := okS_len hok
  have hkb := place_bd hok hk
  have KO1 := Lib.hid (fun W' (hW : Below B W W') => specValidDigits_any hs h8 _ c rfl W' hW (dg xs v) (dg_d8 hok v))
  rw [okD_dg hok] at KO1
  have KV1 := Lib.hid (fun W' (hW : Below B W W') => l01ValueT hs h8 c hok k hk v W' hW)
  have KD := Lib.hid (fun W' => l01WheelC (A := A) c hk hs.len W')
  have KI := Lib.hid (inDigit hd)
  have KP := Lib.hid (fun W' (hW : Below B W W') => l01PlaceC hs h8 c hc hok k hk W' hW)
  have dgb := dg_bdC hok v hk
  have hd8 := a8_at .u8 (dg xs v) (show k < 8 by omega)
  have hdq : dg xs v k = v / pr xs k % el xs (k : Int) := dg_eq hok v hk
  have hsp := fun h => nx_spec2 (p := pr xs k) (s := el xs (k : Int)) (v := v) (d := d) (by omega) (by omega) hd h
  rw [← hdq] at hsp
  obtain ⟨b, off, rfl, hbs, hcc⟩ := hs.at hb hk
  have g0 : (0 : Int) ≤ (k : Int) := by omega
  have g1 : (k : Int) < (xs.length : Int) := by omega
  have g2 : (k : Int) < 8 := by omega
  have g3 : k < 8 := by omega
  have g4 : (k : Int) ≤ (c : Int) := by omega
  have g5 : k ≤ c := by omega
  have g6 : ¬ (c : Int) < (k : Int) := by omega
  have e1 : IntKind.i64.wrap (dg xs v k) = dg xs v k := IntWalk.i64_in _ ⟨by omega, by omega⟩
  have e2 : IntKind.i64.wrap (el xs (k : Int)) = el xs (k : Int) := IntWalk.i64_in _ ⟨by omega, by omega⟩
  have e3 : IntKind.i64.wrap (el xs (k : Int) - 1) = el xs (k : Int) - 1 := IntWalk.i64_in _ ⟨by omega, by omega⟩
  clear hdq
  by_cases hq : dg xs v k = d
  · have HR : Hid (nextV xs v k d = 0) := if_pos hq
    have b1 : (dg xs v k == d) = true := by rw [hq]; exact beq_self_eq_true d
    clear hsp hd
    go_enter Try.func45, Try.ntmps45
    (go_wp2_with fail; refine (KO1.out _ (by repeat' (first | (with_reducible first | assumption | exact Below.refl _ _ | refine Below.drew ?_ | refine Below.alloc ?_ ?_ _ | refine Below.setCell ?_ ?_ _ | refine below_setR ?_ ?_ _ | refine below_dn ?_ _ | refine Below.trans ?_ (below_mo _ _ _ ?_) | refine Below.trans ?_ (below_mq _ _ ?_) | exact Nat.le_refl _) | (simp; done) | (simp; omega) | omega))).mono ?_; rintro e w' ⟨rfl, hb_⟩; obtain ⟨os0, d0, rfl⟩ := mo_of hb_; clear hb_)
    (go_wp2_with fail; refine (KD.out _).mono ?_; rintro e w' ⟨rfl, rfl⟩)
    (go_wp2_with fail; refine (l00In_ok _ _ _ _).mono ?_; rintro e w' ⟨rfl, rfl⟩; rw [KI.out])
    go_wp2
    go_returns
    exact ⟨by rw [HR.out]; rfl, (by repeat' (first | (with_reducible first | assumption | exact Below.refl _ _ | refine Below.drew ?_ | refine Below.alloc ?_ ?_ _ | refine Below.setCell ?_ ?_ _ | refine below_setR ?_ ?_ _ | refine below_dn ?_ _ | refine Below.trans ?_ (below_mo _ _ _ ?_) | refine Below.trans ?_ (below_mq _ _ ?_) | exact Nat.le_refl _) | (simp; done) | (simp; omega) | omega))⟩
  · have HR : Hid (nextV xs v k d = nxW (pr xs k) (el xs (k : Int)) v d) := if_neg hq
    have b1 : (dg xs v k == d) = false := beq_eq_false_iff_ne.2 hq
    have HN := Lib.hid (hsp hq)
    obtain ⟨⟨p0, p1⟩, ⟨s0, s1⟩, q0, q1⟩ := hkb
    have vb0 := Int.emod_nonneg v (show pr xs k ≠ 0 by omega)
    have vb1 := Int.emod_lt_of_pos v (show 0 < pr xs k by omega)
    have e4 : IntKind.i64.wrap (d - dg xs v k) = d - dg xs v k := IntWalk.i64_in _ ⟨by omega, by omega⟩
    have e5 : IntKind.i64.wrap (d - dg xs v k + el xs (k : Int)) = d - dg xs v k + el xs (k : Int) := IntWalk.i64_in _ ⟨by omega, by omega⟩
    clear hsp
    by_cases hneg : d - dg xs v k < 0
    · have hn2 := HN.out
      rw [if_pos hneg] at hn2
      have HN2 := Lib.hid hn2
      have t0 := mul_bdC (show 0 ≤ d - dg xs v k + el xs (k : Int) by omega) (show d - dg xs v k + el xs (k : Int) ≤ 100 by omega) (show 0 ≤ pr xs k by omega) p1
      have e6 : IntKind.i64.wrap ((d - dg xs v k + el xs (k : Int)) * pr xs k) = (d - dg xs v k + el xs (k : Int)) * pr xs k := IntWalk.i64_in _ ⟨by omega, by omega⟩
      have e7 : IntKind.i64.wrap ((d - dg xs v k + el xs (k : Int)) * pr xs k - v % pr xs k) = (d - dg xs v k + el xs (k : Int)) * pr xs k - v % pr xs k := IntWalk.i64_in _ ⟨by omega, by omega⟩
      clear hn2 HN t0 hd
      go_enter Try.func45, Try.ntmps45
      (go_wp2_with fail; refine (KO1.out _ (by repeat' (first | (with_reducible first | assumption | exact Below.refl _ _ | refine Below.drew ?_ | refine Below.alloc ?_ ?_ _ | refine Below.setCell ?_ ?_ _ | refine below_setR ?_ ?_ _ | refine below_dn ?_ _ | refine Below.trans ?_ (below_mo _ _ _ ?_) | refine Below.trans ?_ (below_mq _ _ ?_) | exact Nat.le_refl _) | (simp; done) | (simp; omega) | omega))).mono ?_; rintro e w' ⟨rfl, hb_⟩; obtain ⟨os0, d0, rfl⟩ := mo_of hb_; clear hb_)
      (go_wp2_with fail; refine (KD.out _).mono ?_; rintro e w' ⟨rfl, rfl⟩)
      (go_wp2_with fail; refine (l00In_ok _ _ _ _).mono ?_; rintro e w' ⟨rfl, rfl⟩; rw [KI.out])
      (go_wp2_with fail; refine (KP.out _ (by repeat' (first | (with_reducible first | assumption | exact Below.refl _ _ | refine Below.drew ?_ | refine Below.alloc ?_ ?_ _ | refine Below.setCell ?_ ?_ _ | refine below_setR ?_ ?_ _ | refine below_dn ?_ _ | refine Below.trans ?_ (below_mo _ _ _ ?_) | refine Below.trans ?_ (below_mq _ _ ?_) | exact Nat.le_refl _) | (simp; done) | (simp; omega) | omega))).mono ?_; rintro e w' ⟨rfl, rfl⟩)
      go_wp2
      (refine wp_region_mq (by kernel_rfl) (by kernel_rfl) ?_; (repeat (first | go_big_quiet_step ((first | (go_at_call 123; ((with_reducible refine quietQ (KV1.out _ ?_) ) <;> (repeat' (first | (with_reducible first | assumption | exact Below.refl _ _ | refine Below.drew ?_ | refine Below.alloc ?_ ?_ _ | refine Below.setCell ?_ ?_ _ | refine below_setR ?_ ?_ _ | refine below_dn ?_ _ | refine Below.trans ?_ (below_mo _ _ _ ?_) | refine Below.trans ?_ (below_mq _ _ ?_) | exact Nat.le_refl _) | (simp; done) | (simp; omega) | omega)))))) | quiet_step ((first | (go_at_call 123; ((with_reducible refine quietQ (KV1.out _ ?_) ) <;> (repeat' (first | (with_reducible first | assumption | exact Below.refl _ _ | refine Below.drew ?_ | refine Below.alloc ?_ ?_ _ | refine Below.setCell ?_ ?_ _ | refine below_setR ?_ ?_ _ | refine below_dn ?_ _ | refine Below.trans ?_ (below_mo _ _ _ ?_) | refine Below.trans ?_ (below_mq _ _ ?_) | exact Nat.le_refl _) | (simp; done) | (simp; omega) | omega)))))))); refine wpQuiet_nil ?_; intro _ hq_; obtain ⟨q_, rfl⟩ := hq_)
      go_wp2
      go_returns
      exact ⟨by rw [HR.out, HN2.out]; rfl, (by repeat' (first | (with_reducible first | assumption | exact Below.refl _ _ | refine Below.drew ?_ | refine Below.alloc ?_ ?_ _ | refine Below.setCell ?_ ?_ _ | refine below_setR ?_ ?_ _ | refine below_dn ?_ _ | refine Below.trans ?_ (below_mo _ _ _ ?_) | refine Below.trans ?_ (below_mq _ _ ?_) | exact Nat.le_refl _) | (simp; done) | (simp; omega) | omega))⟩
    · have hn2 := HN.out
      rw [if_neg hneg] at hn2
      have HN2 := Lib.hid hn2
      have t0 := mul_bdC (show 0 ≤ d - dg xs v k by omega) (show d - dg xs v k ≤ 100 by omega) (show 0 ≤ pr xs k by omega) p1
      have e6 : IntKind.i64.wrap ((d - dg xs v k) * pr xs k) = (d - dg xs v k) * pr xs k := IntWalk.i64_in _ ⟨by omega, by omega⟩
      have e7 : IntKind.i64.wrap ((d - dg xs v k) * pr xs k - v % pr xs k) = (d - dg xs v k) * pr xs k - v % pr xs k := IntWalk.i64_in _ ⟨by omega, by omega⟩
      clear hn2 HN t0 hd
      go_enter Try.func45, Try.ntmps45
      (go_wp2_with fail; refine (KO1.out _ (by repeat' (first | (with_reducible first | assumption | exact Below.refl _ _ | refine Below.drew ?_ | refine Below.alloc ?_ ?_ _ | refine Below.setCell ?_ ?_ _ | refine below_setR ?_ ?_ _ | refine below_dn ?_ _ | refine Below.trans ?_ (below_mo _ _ _ ?_) | refine Below.trans ?_ (below_mq _ _ ?_) | exact Nat.le_refl _) | (simp; done) | (simp; omega) | omega))).mono ?_; rintro e w' ⟨rfl, hb_⟩; obtain ⟨os0, d0, rfl⟩ := mo_of hb_; clear hb_)
      (go_wp2_with fail; refine (KD.out _).mono ?_; rintro e w' ⟨rfl, rfl⟩)
      (go_wp2_with fail; refine (l00In_ok _ _ _ _).mono ?_; rintro e w' ⟨rfl, rfl⟩; rw [KI.out])
      (go_wp2_with fail; refine (KP.out _ (by repeat' (first | (with_reducible first | assumption | exact Below.refl _ _ | refine Below.drew ?_ | refine Below.alloc ?_ ?_ _ | refine Below.setCell ?_ ?_ _ | refine below_setR ?_ ?_ _ | refine below_dn ?_ _ | refine Below.trans ?_ (below_mo _ _ _ ?_) | refine Below.trans ?_ (below_mq _ _ ?_) | exact Nat.le_refl _) | (simp; done) | (simp; omega) | omega))).mono ?_; rintro e w' ⟨rfl, rfl⟩)
      go_wp2
      (refine wp_region_mq (by kernel_rfl) (by kernel_rfl) ?_; (repeat (first | go_big_quiet_step ((first | (go_at_call 123; ((with_reducible refine quietQ (KV1.out _ ?_) ) <;> (repeat' (first | (with_reducible first | assumption | exact Below.refl _ _ | refine Below.drew ?_ | refine Below.alloc ?_ ?_ _ | refine Below.setCell ?_ ?_ _ | refine below_setR ?_ ?_ _ | refine below_dn ?_ _ | refine Below.trans ?_ (below_mo _ _ _ ?_) | refine Below.trans ?_ (below_mq _ _ ?_) | exact Nat.le_refl _) | (simp; done) | (simp; omega) | omega)))))) | quiet_step ((first | (go_at_call 123; ((with_reducible refine quietQ (KV1.out _ ?_) ) <;> (repeat' (first | (with_reducible first | assumption | exact Below.refl _ _ | refine Below.drew ?_ | refine Below.alloc ?_ ?_ _ | refine Below.setCell ?_ ?_ _ | refine below_setR ?_ ?_ _ | refine below_dn ?_ _ | refine Below.trans ?_ (below_mo _ _ _ ?_) | refine Below.trans ?_ (below_mq _ _ ?_) | exact Nat.le_refl _) | (simp; done) | (simp; omega) | omega)))))))); refine wpQuiet_nil ?_; intro _ hq_; obtain ⟨q_, rfl⟩ := hq_)
      go_wp2
      go_returns
      exact ⟨by rw [HR.out, HN2.out]; rfl, (by repeat' (first | (with_reducible first | assumption | exact Below.refl _ _ | refine Below.drew ?_ | refine Below.alloc ?_ ?_ _ | refine Below.setCell ?_ ?_ _ | refine below_setR ?_ ?_ _ | refine below_dn ?_ _ | refine Below.trans ?_ (below_mo _ _ _ ?_) | refine Below.trans ?_ (below_mq _ _ ?_) | exact Nat.le_refl _) | (simp; done) | (simp; omega) | omega))⟩
end Go.Proofs.Ytkphbagckbbalaa.X
