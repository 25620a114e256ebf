/- Counts on wheels: moves of the wheels. Conditions: none. -/
import Derived.Test.YtkphbagckbbalaaKCntY
import Derived.Test.YtkphbagckbbalaaKTight
namespace Go.Proofs.Ytkphbagckbbalaa.X
open Go.RowKit
set_option linter.unusedVariables false
set_option linter.unusedSimpArgs false
set_option maxRecDepth 100000
def mvT (xs : List Int) (v a : Int) (m k : Nat) : Int := if k < m then (v + a) / pr xs k - v / pr xs k else 0
theorem mvT_succ (xs : List Int) (v a : Int) (k : Nat) : upd (mvT xs v a k) k ((v + a) / pr xs k - v / pr xs k) = mvT xs v a (k + 1) := by
  funext i
  unfold upd mvT
  by_cases e : i = k
  · subst e; simp
  · simp only [e, if_false]
    by_cases e2 : i < k
    · rw [if_pos e2, if_pos (by omega)]
    · rw [if_neg e2, if_neg (by omega)]
theorem mvT_end (xs : List Int) (v a : Int) : mvT xs v a xs.length = mvW xs v a := rfl
theorem div_bdC {n p : Int} (hp : 1 ≤ p) (h : -2000000000000 ≤ n ∧ n ≤ 2000000000000) : -2000000000001 ≤ n / p ∧ n / p ≤ 2000000000000 := by
  have h1 := Int.mul_ediv_add_emod n p
  have m0 := Int.emod_nonneg n (show p ≠ 0 by omega)
  have m1 := Int.emod_lt_of_pos n (show 0 < p by omega)
  by_cases hn : 0 ≤ n
  · have := Int.ediv_nonneg hn (show 0 ≤ p by omega)
    have := Int.ediv_le_self p hn
    omega
  · have h2 : n / p < 0 := Int.ediv_neg_of_neg_of_pos (by omega) (by omega)
    have h3 := Int.mul_le_mul_of_nonneg_right (show 1 ≤ p by omega) (show 0 ≤ -(n / p) - 1 by omega)
    rw [Int.one_mul, Int.mul_sub, Int.mul_one, Int.mul_neg] at h3
    omega
set_option maxHeartbeats 4000000 in
theorem implMovesC {A : Option Addr} {xs : List Int} {W : World} {B : Nat} (hs : Nums .u8 W B A xs) (h8 : b8 xs) (c : Nat) (hc : xs.length ≤ c) (hok : okS xs = true) {v a : Int} (hv : 0 ≤ v ∧ v < szS xs) (ha : -1000000000000 ≤ a ∧ a ≤ 1000000000000) (w : World) (hb : Below B W w) : Calls Try.prog 37 #[.slice A xs.length c, .agg #[.int .u8 (dg xs v 0), .int .u8 (dg xs v 1), .int .u8 (dg xs v 2), .int .u8 (dg xs v 3), .int .u8 (dg xs v 4), .int .u8 (dg xs v 5), .int .u8 (dg xs v 6), .int .u8 (dg xs v 7)], .int .i64 a] w fun e w' => e = .returned (.tuple #[.agg #[.int .i64 (mvW xs v a 0), .int .i64 (mvW xs v a 1), .int .i64 (mvW xs v a 2), .int .i64 (mvW xs v a 3), .int .i64 (mvW xs v a 4), .int .i64 (mvW xs v a 5), .int .i64 (mvW xs v a 6), .int .i64 (mvW xs v a 7)], .int .i64 0]) ∧ Below w.heap.size w w' := by
  have hB := hs.bsz hb
  have hz := szS_bd hok
  have hl8 := okS_len hok
  have KO1 := Lib.hid (fun W' (hW : Below B W W') => ValidDigits_any hs h8 _ c rfl W' hW (dg xs v) (dg_d8 hok v))
  rw [okD_dg hok] at KO1
  have KI : Hid (inR a (-1000000000000) 1000000000000 = true) := inR_t.2 ha
  have KV1 := Lib.hid (fun W' (hW : Below B W W') => value_any hs h8 _ c rfl W' hW hok (dg xs v) (dg_d8 hok v) (valid_dg hok v))
  rw [vl_dg hok hv] at KV1
  have HP := Lib.hid (fun k (hk : k < xs.length) => (place_bd hok hk).1)
  have KP := Lib.hid (fun k (hk : k < xs.length) W' (hW : Below B W W') => placeC hs h8 c hc hok k hk W' hW)
  have hlen := hs.len
  have e1 : IntKind.i64.wrap (v + a) = v + a := IntWalk.i64_in _ ⟨by omega, by omega⟩
  have hb2 : 0 ≤ v ∧ v ≤ 1000000000000 := by omega
  clear hok
  go_enter Try.func37, Try.ntmps37
  (go_wp2_with fail; refine (KO1.out _ (by repeat' (first | (with_reducible first | assumption | exact Below.refl _ _ | refine Below.drew ?_ | refine Below.alloc ?_ ?_ _ | refine Below.setCell ?_ ?_ _ | refine below_setR ?_ ?_ _ | refine below_dn ?_ _ | refine Below.trans ?_ (below_mo _ _ _ ?_) | refine Below.trans ?_ (below_mq _ _ ?_) | exact Nat.le_refl _) | (simp; done) | (simp; omega) | omega))).mono ?_; rintro e w' ⟨rfl, hb_⟩; obtain ⟨os0, d0, rfl⟩ := mo_of hb_; clear hb_)
  (go_wp2_with fail; refine (within_ok _ _ _ _).mono ?_; rintro e w' ⟨rfl, rfl⟩; rw [KI.out])
  (go_wp2_with fail; refine (KV1.out _ (by repeat' (first | (with_reducible first | assumption | exact Below.refl _ _ | refine Below.drew ?_ | refine Below.alloc ?_ ?_ _ | refine Below.setCell ?_ ?_ _ | refine below_setR ?_ ?_ _ | refine below_dn ?_ _ | refine Below.trans ?_ (below_mo _ _ _ ?_) | refine Below.trans ?_ (below_mq _ _ ?_) | exact Nat.le_refl _) | (simp; done) | (simp; omega) | omega))).mono ?_; rintro e w' ⟨rfl, hb_⟩; obtain ⟨os1, d1, rfl⟩ := mo_of hb_; clear hb_)
  go_wp2
  go_loopw [29] (fun i wr => ∃ (k : Nat) (os : Array Obj) (d : Nat), k ≤ xs.length ∧ i = .int .i64 k ∧ wr = mo ((mo (mo ((w.alloc (.cells #[.int .u8 (dg xs v 0), .int .u8 (dg xs v 1), .int .u8 (dg xs v 2), .int .u8 (dg xs v 3), .int .u8 (dg xs v 4), .int .u8 (dg xs v 5), .int .u8 (dg xs v 6), .int .u8 (dg xs v 7)] 43)).alloc (.cells #[.int .i64 0, .int .i64 0, .int .i64 0, .int .i64 0, .int .i64 0, .int .i64 0, .int .i64 0, .int .i64 0] 67)) os0 d0) os1 d1).alloc (.cells #[.int .i64 (mvT xs v a k 0), .int .i64 (mvT xs v a k 1), .int .i64 (mvT xs v a k 2), .int .i64 (mvT xs v a k 3), .int .i64 (mvT xs v a k 4), .int .i64 (mvT xs v a k 5), .int .i64 (mvT xs v a k 6), .int .i64 (mvT xs v a k 7)] 67)) os d) (fun i _ => xs.length - (intOf i).toNat)
  case atStart => exact ⟨0, #[], _, Nat.zero_le _, rfl, (mo_nil _).symm⟩
  case round =>
    obtain ⟨k, os, d, hk, rfl, rfl⟩ := hrel
    by_cases hlt : k < xs.length
    · obtain ⟨p0, p1⟩ := HP.out k hlt
      have K2 := Lib.hid (KP.out k hlt)
      have g0 : (0 : Int) ≤ (k : Int) := by omega
      have g1 : (k : Int) < 8 := by omega
      have hk8 : k < 8 := by omega
      have HS := Lib.hid ((a8_set .i64 (mvT xs v a k) ((v + a) / pr xs k - v / pr xs k) hk8).trans (by rw [mvT_succ]))
      have b0 := div_bdC (n := v + a) p0 (by omega)
      have b1 := div_bdC (n := v) p0 (by omega)
      generalize pr xs k = p at *
      have HF := Lib.hid (fun (W' : World) => (floor_any (v + a) p W' (by omega) (by omega)).mono fun (e : Ending) (w'' : World) (h : e = .returned (.int .i64 ((v + a) / p)) ∧ W' = w'') => (show e = .returned (.int .i64 ((v + a) / p)) ∧ w'' = W' from ⟨h.1, h.2.symm⟩))
      have z1 : ¬ p = 0 := by omega
      have z2 : (p == 0) = false := beq_eq_false_iff_ne.2 z1
      have e2 : v.tdiv p = v / p := Int.tdiv_eq_ediv_of_nonneg hb2.1
      have e3 : IntKind.i64.wrap (v / p) = v / p := IntWalk.i64_in _ ⟨by omega, by omega⟩
      have e4 : IntKind.i64.wrap ((v + a) / p - v / p) = (v + a) / p - v / p := IntWalk.i64_in _ ⟨by omega, by omega⟩
      (go_wp2_with fail; refine (K2.out _ (by repeat' (first | (with_reducible first | assumption | exact Below.refl _ _ | refine Below.drew ?_ | refine Below.alloc ?_ ?_ _ | refine Below.setCell ?_ ?_ _ | refine below_setR ?_ ?_ _ | refine below_dn ?_ _ | refine Below.trans ?_ (below_mo _ _ _ ?_) | refine Below.trans ?_ (below_mq _ _ ?_) | exact Nat.le_refl _) | (simp; done) | (simp; omega) | omega))).mono ?_; rintro e w' ⟨rfl, rfl⟩)
      go_wp2
      (refine still_tail2 11 (by kernel_rfl) (by kernel_rfl) ?_; (simp only [List.take_succ_cons, List.take_zero, List.drop_succ_cons, List.drop_zero]); (repeat first | still_step | still_call (HF.out _)); refine wpStill_nil ?_)
      go_wp2
      exact ⟨⟨k + 1, _, _, by omega, by go_num, by rw [HS.out]; rfl⟩, by simp [intOf]; omega⟩
    · obtain rfl : k = xs.length := by omega
      go_wp2
      go_returns
      exact ⟨rfl, (by repeat' (first | (with_reducible first | assumption | exact Below.refl _ _ | refine Below.drew ?_ | refine Below.alloc ?_ ?_ _ | refine Below.setCell ?_ ?_ _ | refine below_setR ?_ ?_ _ | refine below_dn ?_ _ | refine Below.trans ?_ (below_mo _ _ _ ?_) | refine Below.trans ?_ (below_mq _ _ ?_) | exact Nat.le_refl _) | (simp; done) | (simp; omega) | omega))⟩
set_option maxHeartbeats 4000000 in
theorem specMovesC {A : Option Addr} {xs : List Int} {W : World} {B : Nat} (hs : Nums .u8 W B A xs) (h8 : b8 xs) (c : Nat) (hc : xs.length ≤ c) (hok : okS xs = true) {v a : Int} (hv : 0 ≤ v ∧ v < szS xs) (ha : -1000000000000 ≤ a ∧ a ≤ 1000000000000) (w : World) (hb : Below B W w) : Calls Try.prog 38 #[.slice A xs.length c, .agg #[.int .u8 (dg xs v 0), .int .u8 (dg xs v 1), .int .u8 (dg xs v 2), .int .u8 (dg xs v 3), .int .u8 (dg xs v 4), .int .u8 (dg xs v 5), .int .u8 (dg xs v 6), .int .u8 (dg xs v 7)], .int .i64 a] w fun e w' => e = .returned (.tuple #[.agg #[.int .i64 (mvW xs v a 0), .int .i64 (mvW xs v a 1), .int .i64 (mvW xs v a 2), .int .i64 (mvW xs v a 3), .int .i64 (mvW xs v a 4), .int .i64 (mvW xs v a 5), .int .i64 (mvW xs v a 6), .int .i64 (mvW xs v a 7)], .int .i64 0]) ∧ Below w.heap.size w w' := by
  have hB := hs.bsz hb
  have hz := szS_bd hok
  have hl8 := okS_len hok
  have KO1 := Lib.hid (fun W' (hW : Below B W W') => specValidDigits_any hs h8 _ c rfl W' hW (dg xs v) (dg_d8 hok v))
  rw [okD_dg hok] at KO1
  have KI : Hid (inR a (-1000000000000) 1000000000000 = true) := inR_t.2 ha
  have KV1 := Lib.hid (fun W' (hW : Below B W W') => l01Value_any hs h8 _ c rfl W' hW hok (dg xs v) (dg_d8 hok v) (valid_dg hok v))
  rw [vl_dg hok hv] at KV1
  have HP := Lib.hid (fun k (hk : k < xs.length) => (place_bd hok hk).1)
  have KP := Lib.hid (fun k (hk : k < xs.length) W' (hW : Below B W W') => l01PlaceC hs h8 c hc hok k hk W' hW)
  have hlen := hs.len
  have e1 : IntKind.i64.wrap (v + a) = v + a := IntWalk.i64_in _ ⟨by omega, by omega⟩
  have hb2 : 0 ≤ v ∧ v ≤ 1000000000000 := by omega
  clear hok
  go_enter Try.func38, Try.ntmps38
  (go_wp2_with fail; refine (KO1.out _ (by repeat' (first | (with_reducible first | assumption | exact Below.refl _ _ | refine Below.drew ?_ | refine Below.alloc ?_ ?_ _ | refine Below.setCell ?_ ?_ _ | refine below_setR ?_ ?_ _ | refine below_dn ?_ _ | refine Below.trans ?_ (below_mo _ _ _ ?_) | refine Below.trans ?_ (below_mq _ _ ?_) | exact Nat.le_refl _) | (simp; done) | (simp; omega) | omega))).mono ?_; rintro e w' ⟨rfl, hb_⟩; obtain ⟨os0, d0, rfl⟩ := mo_of hb_; clear hb_)
  (go_wp2_with fail; refine (l01Count_any _ _).mono ?_; rintro e w' ⟨rfl, rfl⟩; rw [KI.out])
  (go_wp2_with fail; refine (KV1.out _ (by repeat' (first | (with_reducible first | assumption | exact Below.refl _ _ | refine Below.drew ?_ | refine Below.alloc ?_ ?_ _ | refine Below.setCell ?_ ?_ _ | refine below_setR ?_ ?_ _ | refine below_dn ?_ _ | refine Below.trans ?_ (below_mo _ _ _ ?_) | refine Below.trans ?_ (below_mq _ _ ?_) | exact Nat.le_refl _) | (simp; done) | (simp; omega) | omega))).mono ?_; rintro e w' ⟨rfl, hb_⟩; obtain ⟨os1, d1, rfl⟩ := mo_of hb_; clear hb_)
  go_wp2
  go_loopw [10] (fun i wr => ∃ (k : Nat) (os : Array Obj) (d : Nat), k ≤ xs.length ∧ i = .int .i64 k ∧ wr = mo (((w.alloc (.cells #[.int .u8 (dg xs v 0), .int .u8 (dg xs v 1), .int .u8 (dg xs v 2), .int .u8 (dg xs v 3), .int .u8 (dg xs v 4), .int .u8 (dg xs v 5), .int .u8 (dg xs v 6), .int .u8 (dg xs v 7)] 43)).alloc (.cells #[.int .i64 0, .int .i64 0, .int .i64 0, .int .i64 0, .int .i64 0, .int .i64 0, .int .i64 0, .int .i64 0] 67)).alloc (.cells #[.int .i64 (mvT xs v a k 0), .int .i64 (mvT xs v a k 1), .int .i64 (mvT xs v a k 2), .int .i64 (mvT xs v a k 3), .int .i64 (mvT xs v a k 4), .int .i64 (mvT xs v a k 5), .int .i64 (mvT xs v a k 6), .int .i64 (mvT xs v a k 7)] 67)) os d) (fun i _ => xs.length - (intOf i).toNat)
  case atStart => exact ⟨0, _, _, Nat.zero_le _, rfl, mo_mo _ _ _ _ _⟩
  case round =>
    obtain ⟨k, os, d, hk, rfl, rfl⟩ := hrel
    by_cases hlt : k < xs.length
    · obtain ⟨p0, p1⟩ := HP.out k hlt
      have K2 := Lib.hid (KP.out k hlt)
      have g0 : (0 : Int) ≤ (k : Int) := by omega
      have g1 : (k : Int) < 8 := by omega
      have hk8 : k < 8 := by omega
      have HS := Lib.hid ((a8_set .i64 (mvT xs v a k) ((v + a) / pr xs k - v / pr xs k) hk8).trans (by rw [mvT_succ]))
      have b0 := div_bdC (n := v + a) p0 (by omega)
      have b1 := div_bdC (n := v) p0 (by omega)
      generalize pr xs k = p at *
      have HF := Lib.hid (fun W' => l01Down_any (v + a) p W' (by omega) (by omega))
      have HF2 := Lib.hid (fun W' => l01Down_any v p W' (by omega) (by omega))
      have e4 : IntKind.i64.wrap ((v + a) / p - v / p) = (v + a) / p - v / p := IntWalk.i64_in _ ⟨by omega, by omega⟩
      (go_wp2_with fail; refine (K2.out _ (by repeat' (first | (with_reducible first | assumption | exact Below.refl _ _ | refine Below.drew ?_ | refine Below.alloc ?_ ?_ _ | refine Below.setCell ?_ ?_ _ | refine below_setR ?_ ?_ _ | refine below_dn ?_ _ | refine Below.trans ?_ (below_mo _ _ _ ?_) | refine Below.trans ?_ (below_mq _ _ ?_) | exact Nat.le_refl _) | (simp; done) | (simp; omega) | omega))).mono ?_; rintro e w' ⟨rfl, rfl⟩)
      (go_wp2_with fail; refine (HF.out _).mono ?_; rintro e w' ⟨rfl, rfl⟩)
      (go_wp2_with fail; refine (HF2.out _).mono ?_; rintro e w' ⟨rfl, rfl⟩)
      go_wp2
      exact ⟨⟨k + 1, _, _, by omega, by go_num, by rw [HS.out]⟩, by simp [intOf]; omega⟩
    · obtain rfl : k = xs.length := by omega
      go_wp2
      go_returns
      exact ⟨rfl, (by repeat' (first | (with_reducible first | assumption | exact Below.refl _ _ | refine Below.drew ?_ | refine Below.alloc ?_ ?_ _ | refine Below.setCell ?_ ?_ _ | refine below_setR ?_ ?_ _ | refine below_dn ?_ _ | refine Below.trans ?_ (below_mo _ _ _ ?_) | refine Below.trans ?_ (below_mq _ _ ?_) | exact Nat.le_refl _) | (simp; done) | (simp; omega) | omega))⟩
end Go.Proofs.Ytkphbagckbbalaa.X
