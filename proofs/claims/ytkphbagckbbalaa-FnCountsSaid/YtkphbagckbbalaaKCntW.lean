/- Counts on wheels: places, wheels that are asked, values that are counted. Conditions: none. -/
import Derived.Test.YtkphbagckbbalaaKCntL
namespace Go.Proofs.Ytkphbagckbbalaa.X
open Go.RowKit
set_option linter.unusedVariables false
set_option linter.unusedSimpArgs false
set_option maxRecDepth 100000
theorem el_take {xs : List Int} {k j : Nat} (h : j < k) : el (xs.take k) (j : Int) = el xs (j : Int) := by
  unfold el
  rw [Int.toNat_natCast, List.getD_eq_getElem?_getD, List.getD_eq_getElem?_getD, List.getElem?_take, if_pos h]
theorem size_takeQ {xs : List Int} (k : Nat) : ∀ {j : Nat}, j ≤ k → sizeTo (xs.take k) j = sizeTo xs j
  | 0, _ => rfl
  | j + 1, h => by
    unfold sizeTo
    rw [size_takeQ k (j := j) (by omega), el_take (by omega)]
theorem b8_take {xs : List Int} (h : b8 xs) (k : Nat) : b8 (xs.take k) := by
  intro i
  unfold el
  rw [List.getD_eq_getElem?_getD, List.getElem?_take]
  split
  · have := h i
    unfold el at this
    rw [List.getD_eq_getElem?_getD] at this
    exact this
  · decide
theorem place_bd {xs : List Int} (h : okS xs = true) {k : Nat} (hk : k < xs.length) : (1 ≤ pr xs k ∧ pr xs k ≤ 1000000000000) ∧ (2 ≤ el xs (k : Int) ∧ el xs (k : Int) ≤ 100) ∧ 1 ≤ pr xs k * el xs (k : Int) ∧ pr xs k * el xs (k : Int) ≤ 1000000000000 := by
  have a := pr_pos h (k := k) (by omega)
  have b := (size_eq h (k := k) (by omega)).2
  have c := okS_el h hk
  have d := pr_pos h (k := k + 1) (by omega)
  have e := (size_eq h (k := k + 1) (by omega)).2
  exact ⟨⟨a, b⟩, c, d, e⟩
theorem mul_bdC {a b X Y : Int} (h0 : 0 ≤ a) (h1 : a ≤ X) (h2 : 0 ≤ b) (h3 : b ≤ Y) : 0 ≤ a * b ∧ a * b ≤ X * Y := ⟨Int.mul_nonneg h0 h2, Int.mul_le_mul h1 h3 h2 (Int.le_trans h0 h1)⟩
theorem cntB_bd {p s v d : Int} (hp : 1 ≤ p ∧ p ≤ 1000000000000) (hs : 1 ≤ s) (hv : 0 ≤ v ∧ v ≤ 1000000000000) : 0 ≤ cntB p s v d ∧ cntB p s v d ≤ 4000000000000 := by
  have hq := Int.mul_le_mul_of_nonneg_left hs (show 0 ≤ p by omega)
  have v0 := Int.ediv_nonneg hv.1 (show 0 ≤ p * s by omega)
  have h1 := Int.mul_ediv_add_emod v (p * s)
  have m0 := Int.emod_nonneg v (show p * s ≠ 0 by omega)
  have h2 := Int.mul_le_mul_of_nonneg_left (show p ≤ p * s by omega) v0
  have h3 := Int.mul_nonneg v0 (show 0 ≤ p by omega)
  rw [Int.mul_comm (p * s)] at h1
  unfold cntB
  omega
/-- a wheel of a stack that is at hand -/
theorem inWheel {L k : Nat} (h : k < L) : inR (k : Int) 0 ((L : Int) - 1) = true := inR_t.2 ⟨by omega, by omega⟩
theorem inDigit {d s : Int} (h : 0 ≤ d ∧ d < s) : inR d 0 (s - 1) = true := inR_t.2 ⟨by omega, by omega⟩
set_option maxHeartbeats 1000000 in
theorem placeC {A : Option Addr} {xs : List Int} {W : World} {B : Nat} (hs : Nums .u8 W B A xs) (h8 : b8 xs) (c : Nat) (hc : xs.length ≤ c) (hok : okS xs = true) (k : Nat) (hk : k < xs.length) (w : World) (hb : Below B W w) : Calls Try.prog 121 #[.slice A xs.length c, .int .i64 (k : Int)] w fun e w' => e = .returned (.int .i64 (pr xs k)) ∧ w = w' := by
  have hn := hs.len
  have K := Lib.hid (fun c' => size_any (hs.take k) (b8_take h8 k) k c' (List.length_take_of_le (Nat.le_of_lt hk)) w hb)
  rw [size_takeQ k (Nat.le_refl _), (size_eq hok (k := k) (by omega)).1] at K
  obtain ⟨b, off, rfl, hbs, hcc⟩ := hs.at hb hk
  have g0 : (0 : Int) ≤ (k : Int) := by omega
  have g1 : (k : Int) ≤ (c : Int) := by omega
  have g2 : k ≤ c := by omega
  have g3 : ¬ (c : Int) < (k : Int) := by omega
  go_enter Try.func121, Try.ntmps121
  (go_wp2_with fail; refine (K.out _).mono ?_; rintro e w' ⟨rfl, rfl⟩)
  go_wp2
  go_ret
  exact ⟨rfl, rfl⟩
set_option maxHeartbeats 1000000 in
theorem l01PlaceC {A : Option Addr} {xs : List Int} {W : World} {B : Nat} (hs : Nums .u8 W B A xs) (h8 : b8 xs) (c : Nat) (hc : xs.length ≤ c) (hok : okS xs = true) (k : Nat) (hk : k < xs.length) (w : World) (hb : Below B W w) : Calls Try.prog 124 #[.slice A xs.length c, .int .i64 (k : Int)] w fun e w' => e = .returned (.int .i64 (pr xs k)) ∧ w = w' := by
  have hn := hs.len
  have K := Lib.hid (fun c' => l01Size_any (hs.take k) (b8_take h8 k) k c' (List.length_take_of_le (Nat.le_of_lt hk)) w hb)
  rw [size_takeQ k (Nat.le_refl _), (size_eq hok (k := k) (by omega)).1] at K
  obtain ⟨b, off, rfl, hbs, hcc⟩ := hs.at hb hk
  have g0 : (0 : Int) ≤ (k : Int) := by omega
  have g1 : (k : Int) ≤ (c : Int) := by omega
  have g2 : k ≤ c := by omega
  have g3 : ¬ (c : Int) < (k : Int) := by omega
  go_enter Try.func124, Try.ntmps124
  (go_wp2_with fail; refine (K.out _).mono ?_; rintro e w' ⟨rfl, rfl⟩)
  go_wp2
  go_ret
  exact ⟨rfl, rfl⟩
theorem hasWheelC {A : Option Addr} {k n : Nat} (c : Nat) (h : k < n) (hn : n ≤ 1048576) (w : World) : Calls Try.prog 93 #[.slice A n c, .int .i64 (k : Int)] w fun e w' => e = .returned (.bool true) ∧ w = w' := by
  have H := Lib.hid (inWheel h)
  go_enter Try.func93, Try.ntmps93
  (go_wp2_with fail; refine (wheels_any _ _ _ _ hn).mono ?_; rintro e w' ⟨rfl, rfl⟩)
  (go_wp2_with fail; refine (within_ok _ _ _ _).mono ?_; rintro e w' ⟨rfl, rfl⟩; rw [H.out])
  go_wp2
  go_ret
  exact ⟨rfl, rfl⟩
theorem l01WheelC {A : Option Addr} {k n : Nat} (c : Nat) (h : k < n) (hn : n ≤ 1048576) (w : World) : Calls Try.prog 95 #[.slice A n c, .int .i64 (k : Int)] w fun e w' => e = .returned (.bool true) ∧ w = w' := by
  have H := Lib.hid (inWheel h)
  go_enter Try.func95, Try.ntmps95
  (go_wp2_with fail; refine (l00In_ok _ _ _ _).mono ?_; rintro e w' ⟨rfl, rfl⟩; rw [H.out])
  go_wp2
  go_ret
  exact ⟨rfl, rfl⟩
set_option maxHeartbeats 1000000 in
theorem hasDigitC {A : Option Addr} {xs : List Int} {W : World} {B : Nat} (hs : Nums .u8 W B A xs) (c : Nat) (k : Nat) (hk : k < xs.length) {d : Int} (hd : 0 ≤ d ∧ d < el xs (k : Int)) (he : el xs (k : Int) ≤ 255) (w : World) (hb : Below B W w) : Calls Try.prog 127 #[.slice A xs.length c, .int .i64 (k : Int), .int .i64 d] w fun e w' => e = .returned (.bool true) ∧ w = w' := by
  have hn := hs.len
  have H := Lib.hid (inDigit hd)
  obtain ⟨b, off, rfl, hbs, hcc⟩ := hs.at hb hk
  have g0 : (0 : Int) ≤ (k : Int) := by omega
  have g1 : (k : Int) < (xs.length : Int) := by omega
  have e1 : IntKind.i64.wrap (el xs (k : Int)) = el xs (k : Int) := IntWalk.i64_in _ ⟨by omega, by omega⟩
  have e2 : IntKind.i64.wrap (el xs (k : Int) - 1) = el xs (k : Int) - 1 := IntWalk.i64_in _ ⟨by omega, by omega⟩
  clear hd
  go_enter Try.func127, Try.ntmps127
  (go_wp2_with fail; refine (hasWheelC _ hk hn _).mono ?_; rintro e w' ⟨rfl, rfl⟩)
  (go_wp2_with fail; refine (within_ok _ _ _ _).mono ?_; rintro e w' ⟨rfl, rfl⟩; rw [H.out])
  go_wp2
  go_ret
  exact ⟨rfl, rfl⟩
set_option maxHeartbeats 2000000 in
theorem countBelowC {A : Option Addr} {xs : List Int} {W : World} {B : Nat} (hs : Nums .u8 W B A xs) (h8 : b8 xs) (c : Nat) (hc : xs.length ≤ c) (hok : okS xs = true) (k : Nat) (hk : k < xs.length) {d v : Int} (hd : 0 ≤ d ∧ d < el xs (k : Int)) (hv : 0 ≤ v ∧ v ≤ 1000000000000) (w : World) (hb : Below B W w) : Calls Try.prog 129 #[.slice A xs.length c, .int .i64 v, .int .i64 (k : Int), .int .i64 d] w fun e w' => e = .returned (.int .i64 (cntB (pr xs k) (el xs (k : Int)) v d)) ∧ Below w.heap.size w w' := by
  have hn := hs.len
  have K := Lib.hid (fun W' (hW : Below B W W') => placeC hs h8 c hc hok k hk W' hW)
  obtain ⟨⟨p0, p1⟩, ⟨s0, s1⟩, q0, q1⟩ := place_bd hok hk
  obtain ⟨b, off, rfl, hbs, hcc⟩ := hs.at hb hk
  have g0 : (0 : Int) ≤ (k : Int) := by omega
  have g1 : (k : Int) < (xs.length : Int) := by omega
  have HV : Hid (cntB (pr xs k) (el xs (k : Int)) v d = v / (pr xs k * el xs (k : Int)) * pr xs k + min (max (v % (pr xs k * el xs (k : Int)) - d * pr xs k) 0) (pr xs k)) := rfl
  generalize pr xs k = p at *
  generalize el xs (k : Int) = s at *
  have dp := mul_bdC hd.1 (show d ≤ 100 by omega) (show 0 ≤ p by omega) p1
  generalize hq : p * s = q at *
  have m0 := Int.emod_nonneg v (show q ≠ 0 by omega)
  have m1 := Int.emod_lt_of_pos v (show 0 < q by omega)
  have v0 := Int.ediv_nonneg hv.1 (show 0 ≤ q by omega)
  have v1 := Int.ediv_le_self q hv.1
  have vq : v / q * p ≤ v := by
    have h1 := Int.mul_ediv_add_emod v q
    have h2 := Int.mul_le_mul_of_nonneg_left (show p ≤ q by rw [← hq]; have := Int.mul_le_mul_of_nonneg_left (show 1 ≤ s by omega) (show 0 ≤ p by omega); omega) v0
    rw [Int.mul_comm q] at h1
    omega
  have vq0 := Int.mul_nonneg v0 (show 0 ≤ p by omega)
  have e1 : IntKind.i64.wrap s = s := IntWalk.i64_in _ ⟨by omega, by omega⟩
  have e2 : IntKind.i64.wrap (p * s) = q := by rw [hq]; exact IntWalk.i64_in _ ⟨by omega, by omega⟩
  have e3 : v.tdiv q = v / q := Int.tdiv_eq_ediv_of_nonneg hv.1
  have e4 : v.tmod q = v % q := Int.tmod_eq_emod_of_nonneg hv.1
  have e5 : IntKind.i64.wrap (v / q) = v / q := IntWalk.i64_in _ ⟨by omega, by omega⟩
  have e6 : IntKind.i64.wrap (v % q) = v % q := IntWalk.i64_in _ ⟨by omega, by omega⟩
  have e7 : IntKind.i64.wrap (v / q * p) = v / q * p := IntWalk.i64_in _ ⟨by omega, by omega⟩
  have e8 : IntKind.i64.wrap (d * p) = d * p := IntWalk.i64_in _ ⟨by omega, by omega⟩
  have e9 : IntKind.i64.wrap (v % q - d * p) = v % q - d * p := IntWalk.i64_in _ ⟨by omega, by omega⟩
  have z1 : ¬ q = 0 := by omega
  have z2 : (q == 0) = false := beq_eq_false_iff_ne.2 z1
  obtain ⟨M, hM⟩ : ∃ M, M = min (max (v % q - d * p) 0) p := ⟨_, rfl⟩
  have e10 : IntKind.i64.wrap (v / q * p + M) = v / q * p + M := IntWalk.i64_in _ ⟨by omega, by omega⟩
  rw [← hM] at HV
  have hM2 : (v % q - d * p < 0 ∧ M = 0) ∨ (¬ v % q - d * p < 0 ∧ p < v % q - d * p ∧ M = p) ∨ (¬ v % q - d * p < 0 ∧ ¬ p < v % q - d * p ∧ M = v % q - d * p) := by omega
  clear dp m0 m1 v0 v1 vq vq0 hq hM hd
  go_enter Try.func129, Try.ntmps129
  (go_wp2_with fail; refine (K.out _ hb).mono ?_; rintro e w' ⟨rfl, rfl⟩)
  rcases hM2 with ⟨k1, k2⟩ | ⟨k1, k2, k3⟩ | ⟨k1, k2, k3⟩
  · subst k2
    go_wp2
    go_quiet (fail)
    go_wp2
    go_ret
    exact ⟨congrArg (fun z => Ending.returned (Value.int .i64 z)) (by have := HV.out; omega), (by repeat' (first | (with_reducible first | assumption | exact Below.refl _ _ | refine Below.drew ?_ | refine Below.alloc ?_ ?_ _ | refine Below.setCell ?_ ?_ _ | refine below_setR ?_ ?_ _ | refine below_dn ?_ _ | refine Below.trans ?_ (below_mo _ _ _ ?_) | refine Below.trans ?_ (below_mq _ _ ?_) | exact Nat.le_refl _) | (simp; done) | (simp; omega) | omega))⟩
  · subst k3
    go_wp2
    go_quiet (fail)
    go_wp2
    go_ret
    exact ⟨congrArg (fun z => Ending.returned (Value.int .i64 z)) (by have := HV.out; omega), (by repeat' (first | (with_reducible first | assumption | exact Below.refl _ _ | refine Below.drew ?_ | refine Below.alloc ?_ ?_ _ | refine Below.setCell ?_ ?_ _ | refine below_setR ?_ ?_ _ | refine below_dn ?_ _ | refine Below.trans ?_ (below_mo _ _ _ ?_) | refine Below.trans ?_ (below_mq _ _ ?_) | exact Nat.le_refl _) | (simp; done) | (simp; omega) | omega))⟩
  · subst k3
    go_wp2
    go_quiet (fail)
    go_wp2
    go_ret
    exact ⟨congrArg (fun z => Ending.returned (Value.int .i64 z)) (by have := HV.out; omega), (by repeat' (first | (with_reducible first | assumption | exact Below.refl _ _ | refine Below.drew ?_ | refine Below.alloc ?_ ?_ _ | refine Below.setCell ?_ ?_ _ | refine below_setR ?_ ?_ _ | refine below_dn ?_ _ | refine Below.trans ?_ (below_mo _ _ _ ?_) | refine Below.trans ?_ (below_mq _ _ ?_) | exact Nat.le_refl _) | (simp; done) | (simp; omega) | omega))⟩
set_option maxHeartbeats 2000000 in
theorem CountWithC {A : Option Addr} {xs : List Int} {W : World} {B : Nat} (hs : Nums .u8 W B A xs) (h8 : b8 xs) (c : Nat) (hc : xs.length ≤ c) (hok : okS xs = true) (k : Nat) (hk : k < xs.length) {d v u : Int} (hd : 0 ≤ d ∧ d < el xs (k : Int)) (hv : 0 ≤ v ∧ v ≤ u) (hu : u < szS xs) (w : World) (hb : Below B W w) : Calls Try.prog 46 #[.slice A xs.length c, .int .i64 v, .int .i64 u, .int .i64 (k : Int), .int .i64 d] w fun e w' => e = .returned (.tuple #[.int .i64 (cntB (pr xs k) (el xs (k : Int)) (u + 1) d - cntB (pr xs k) (el xs (k : Int)) v d), .int .i64 0]) ∧ Below w.heap.size w w' := by
  have hB := hs.bsz hb
  have hz := szS_bd hok
  have hkb := place_bd hok hk
  have H1 : Hid (inR v 0 (szS xs - 1) = true) := inR_t.2 ⟨by omega, by omega⟩
  have H2 : Hid (inR u 0 (szS xs - 1) = true) := inR_t.2 ⟨by omega, by omega⟩
  have KO := Lib.hid (fun W' (hW : Below B W W') => ValidStack_any hs h8 _ c rfl W' hW)
  rw [hok] at KO
  have KD := Lib.hid (fun W' (hW : Below B W W') => hasDigitC hs c k hk hd (by omega) W' hW)
  have KA := Lib.hid (fun W' (hW : Below B W W') (v : Int) => hasValue_any hs h8 _ c rfl W' hW v)
  rw [show sizeTo xs xs.length - 1 = szS xs - 1 from rfl] at KA
  have KC := Lib.hid (fun W' (hW : Below B W W') => countBelowC hs h8 c hc hok k hk hd (v := u + 1) (by omega) W' hW)
  have KE := Lib.hid (fun W' (hW : Below B W W') => countBelowC hs h8 c hc hok k hk hd (v := v) (by omega) W' hW)
  have hb1 : 0 ≤ cntB (pr xs k) (el xs (k : Int)) (u + 1) d ∧ cntB (pr xs k) (el xs (k : Int)) (u + 1) d ≤ 4000000000000 := cntB_bd (by omega) (by omega) (by omega)
  have hb2 : 0 ≤ cntB (pr xs k) (el xs (k : Int)) v d ∧ cntB (pr xs k) (el xs (k : Int)) v d ≤ 4000000000000 := cntB_bd (by omega) (by omega) (by omega)
  generalize cntB (pr xs k) (el xs (k : Int)) (u + 1) d = X at *
  generalize cntB (pr xs k) (el xs (k : Int)) v d = Y at *
  have e1 : IntKind.i64.wrap (u + 1) = u + 1 := IntWalk.i64_in _ ⟨by omega, by omega⟩
  have e2 : IntKind.i64.wrap (X - Y) = X - Y := IntWalk.i64_in _ ⟨by omega, by omega⟩
  have g1 : ¬ u < v := by omega
  clear hd hkb
  go_enter Try.func46, Try.ntmps46
  (go_wp2_with fail; refine (KO.out _ hb).mono ?_; rintro e w' ⟨rfl, rfl⟩)
  (go_wp2_with fail; refine (KD.out _ hb).mono ?_; rintro e w' ⟨rfl, rfl⟩)
  (go_wp2_with fail; refine (KA.out _ hb v).mono ?_; rintro e w' ⟨rfl, rfl⟩; rw [H1.out])
  (go_wp2_with fail; refine (KA.out _ hb u).mono ?_; rintro e w' ⟨rfl, rfl⟩; rw [H2.out])
  (go_wp2_with fail; refine (KC.out _ hb).mono ?_; rintro e w' ⟨rfl, hb_⟩; obtain ⟨os0, d0, rfl⟩ := mo_of hb_; clear hb_)
  (go_wp2_with fail; refine (KE.out _ (by repeat' (first | (with_reducible first | assumption | exact Below.refl _ _ | refine Below.drew ?_ | refine Below.alloc ?_ ?_ _ | refine Below.setCell ?_ ?_ _ | refine below_setR ?_ ?_ _ | refine below_dn ?_ _ | refine Below.trans ?_ (below_mo _ _ _ ?_) | refine Below.trans ?_ (below_mq _ _ ?_) | exact Nat.le_refl _) | (simp; done) | (simp; omega) | omega))).mono ?_; rintro e w' ⟨rfl, hb_⟩; obtain ⟨os1, d1, rfl⟩ := mo_of hb_; clear hb_)
  go_wp2
  go_returns
  exact ⟨rfl, (by repeat' (first | (with_reducible first | assumption | exact Below.refl _ _ | refine Below.drew ?_ | refine Below.alloc ?_ ?_ _ | refine Below.setCell ?_ ?_ _ | refine below_setR ?_ ?_ _ | refine below_dn ?_ _ | refine Below.trans ?_ (below_mo _ _ _ ?_) | refine Below.trans ?_ (below_mq _ _ ?_) | exact Nat.le_refl _) | (simp; done) | (simp; omega) | omega))⟩
/-- digits of a value, as an argument -/
theorem valid_dg {xs : List Int} (h : okS xs = true) (v : Int) : (∀ i : Nat, i < xs.length → dg xs v i < el xs i) := fun i hi => (dg_bdC h v hi).2
def wayB (z v u : Int) : Int := if wayU z v u = 0 then 0 else wayU z v u - z
set_option maxHeartbeats 4000000 in
theorem implWayC {A : Option Addr} {xs : List Int} {W : World} {B : Nat} (hs : Nums .u8 W B A xs) (h8 : b8 xs) (n c : Nat) (hn : xs.length = n) (w : World) (hb : Below B W w) (hok : okS xs = true) {v u : Int} (hv : 0 ≤ v ∧ v < szS xs) (hu : 0 ≤ u ∧ u < szS xs) : Calls Try.prog 40 #[.slice A n c, .agg #[.int .u8 (dg xs v 0), .int .u8 (dg xs v 1), .int .u8 (dg xs v 2), .int .u8 (dg xs v 3), .int .u8 (dg xs v 4), .int .u8 (dg xs v 5), .int .u8 (dg xs v 6), .int .u8 (dg xs v 7)], .agg #[.int .u8 (dg xs u 0), .int .u8 (dg xs u 1), .int .u8 (dg xs u 2), .int .u8 (dg xs u 3), .int .u8 (dg xs u 4), .int .u8 (dg xs u 5), .int .u8 (dg xs u 6), .int .u8 (dg xs u 7)]] w fun e w' => e = .returned (.tuple #[.int .i64 (wayU (szS xs) v u), .int .i64 (wayB (szS xs) v u), .int .i64 0]) ∧ Below w.heap.size w w' := by
  obtain rfl := hn
  have hB := hs.bsz hb
  have hz := szS_bd hok
  have KO1 := Lib.hid (fun W' (hW : Below B W W') => ValidDigits_any hs h8 _ c rfl W' hW (dg xs v) (dg_d8 hok v))
  have KO2 := Lib.hid (fun W' (hW : Below B W W') => ValidDigits_any hs h8 _ c rfl W' hW (dg xs u) (dg_d8 hok u))
  rw [okD_dg hok] at KO1 KO2
  have KV1 := Lib.hid (fun W' (hW : Below B W W') => value_any hs h8 _ c rfl W' hW hok (dg xs v) (dg_d8 hok v) (valid_dg hok v))
  have KV2 := Lib.hid (fun W' (hW : Below B W W') => value_any hs h8 _ c rfl W' hW hok (dg xs u) (dg_d8 hok u) (valid_dg hok u))
  rw [vl_dg hok hv] at KV1
  rw [vl_dg hok hu] at KV2
  have KS := Lib.hid (fun W' (hW : Below B W W') => size_any hs h8 _ c rfl W' hW)
  rw [show sizeTo xs xs.length = szS xs from rfl] at KS
  have KW := Lib.hid (fun W' => wrapped_any (u - v) (szS xs) W' (by omega) (by omega))
  rw [show (u - v) % szS xs = wayU (szS xs) v u from rfl] at KW
  have hway := way_cases hv hu
  have HB : Hid (wayB (szS xs) v u = if wayU (szS xs) v u = 0 then 0 else wayU (szS xs) v u - szS xs) := rfl
  generalize wayU (szS xs) v u = X at *
  have e1 : IntKind.i64.wrap (u - v) = u - v := IntWalk.i64_in _ ⟨by omega, by omega⟩
  have e2 : IntKind.i64.wrap (X - szS xs) = X - szS xs := IntWalk.i64_in _ ⟨by omega, by omega⟩
  generalize szS xs = Z at *
  by_cases hx : X = 0
  · subst hx
    rw [if_pos rfl] at HB
    clear hway
    go_enter Try.func40, Try.ntmps40
    (go_wp2_with fail; refine (KO1.out _ (by repeat' (first | (with_reducible first | assumption | exact Below.refl _ _ | refine Below.drew ?_ | refine Below.alloc ?_ ?_ _ | refine Below.setCell ?_ ?_ _ | refine below_setR ?_ ?_ _ | refine below_dn ?_ _ | refine Below.trans ?_ (below_mo _ _ _ ?_) | refine Below.trans ?_ (below_mq _ _ ?_) | exact Nat.le_refl _) | (simp; done) | (simp; omega) | omega))).mono ?_; rintro e w' ⟨rfl, hb_⟩; obtain ⟨os0, d0, rfl⟩ := mo_of hb_; clear hb_)
    (go_wp2_with fail; refine (KO2.out _ (by repeat' (first | (with_reducible first | assumption | exact Below.refl _ _ | refine Below.drew ?_ | refine Below.alloc ?_ ?_ _ | refine Below.setCell ?_ ?_ _ | refine below_setR ?_ ?_ _ | refine below_dn ?_ _ | refine Below.trans ?_ (below_mo _ _ _ ?_) | refine Below.trans ?_ (below_mq _ _ ?_) | exact Nat.le_refl _) | (simp; done) | (simp; omega) | omega))).mono ?_; rintro e w' ⟨rfl, hb_⟩; obtain ⟨os1, d1, rfl⟩ := mo_of hb_; clear hb_)
    go_wp2
    (refine wp_region_mq (by kernel_rfl) (by kernel_rfl) ?_; (repeat (first | go_big_quiet_step ((first | (go_at_call 120; ((with_reducible refine quietQ (KV1.out _ ?_) ) <;> (repeat' (first | (with_reducible first | assumption | exact Below.refl _ _ | refine Below.drew ?_ | refine Below.alloc ?_ ?_ _ | refine Below.setCell ?_ ?_ _ | refine below_setR ?_ ?_ _ | refine below_dn ?_ _ | refine Below.trans ?_ (below_mo _ _ _ ?_) | refine Below.trans ?_ (below_mq _ _ ?_) | exact Nat.le_refl _) | (simp; done) | (simp; omega) | omega)))) | (go_at_call 120; ((with_reducible refine quietQ (KV2.out _ ?_) ) <;> (repeat' (first | (with_reducible first | assumption | exact Below.refl _ _ | refine Below.drew ?_ | refine Below.alloc ?_ ?_ _ | refine Below.setCell ?_ ?_ _ | refine below_setR ?_ ?_ _ | refine below_dn ?_ _ | refine Below.trans ?_ (below_mo _ _ _ ?_) | refine Below.trans ?_ (below_mq _ _ ?_) | exact Nat.le_refl _) | (simp; done) | (simp; omega) | omega)))) | (go_at_call 82; ((with_reducible refine quietS (KS.out _ ?_) ) <;> (repeat' (first | (with_reducible first | assumption | exact Below.refl _ _ | refine Below.drew ?_ | refine Below.alloc ?_ ?_ _ | refine Below.setCell ?_ ?_ _ | refine below_setR ?_ ?_ _ | refine below_dn ?_ _ | refine Below.trans ?_ (below_mo _ _ _ ?_) | refine Below.trans ?_ (below_mq _ _ ?_) | exact Nat.le_refl _) | (simp; done) | (simp; omega) | omega)))) | (go_at_call 81; with_reducible exact quietS (KW.out _) ))) | quiet_step ((first | (go_at_call 120; ((with_reducible refine quietQ (KV1.out _ ?_) ) <;> (repeat' (first | (with_reducible first | assumption | exact Below.refl _ _ | refine Below.drew ?_ | refine Below.alloc ?_ ?_ _ | refine Below.setCell ?_ ?_ _ | refine below_setR ?_ ?_ _ | refine below_dn ?_ _ | refine Below.trans ?_ (below_mo _ _ _ ?_) | refine Below.trans ?_ (below_mq _ _ ?_) | exact Nat.le_refl _) | (simp; done) | (simp; omega) | omega)))) | (go_at_call 120; ((with_reducible refine quietQ (KV2.out _ ?_) ) <;> (repeat' (first | (with_reducible first | assumption | exact Below.refl _ _ | refine Below.drew ?_ | refine Below.alloc ?_ ?_ _ | refine Below.setCell ?_ ?_ _ | refine below_setR ?_ ?_ _ | refine below_dn ?_ _ | refine Below.trans ?_ (below_mo _ _ _ ?_) | refine Below.trans ?_ (below_mq _ _ ?_) | exact Nat.le_refl _) | (simp; done) | (simp; omega) | omega)))) | (go_at_call 82; ((with_reducible refine quietS (KS.out _ ?_) ) <;> (repeat' (first | (with_reducible first | assumption | exact Below.refl _ _ | refine Below.drew ?_ | refine Below.alloc ?_ ?_ _ | refine Below.setCell ?_ ?_ _ | refine below_setR ?_ ?_ _ | refine below_dn ?_ _ | refine Below.trans ?_ (below_mo _ _ _ ?_) | refine Below.trans ?_ (below_mq _ _ ?_) | exact Nat.le_refl _) | (simp; done) | (simp; omega) | omega)))) | (go_at_call 81; with_reducible exact quietS (KW.out _) ))))); refine wpQuiet_nil ?_; intro _ hq_; obtain ⟨q_, rfl⟩ := hq_)
    go_wp2
    go_returns
    exact ⟨by rw [HB.out]; rfl, (by repeat' (first | (with_reducible first | assumption | exact Below.refl _ _ | refine Below.drew ?_ | refine Below.alloc ?_ ?_ _ | refine Below.setCell ?_ ?_ _ | refine below_setR ?_ ?_ _ | refine below_dn ?_ _ | refine Below.trans ?_ (below_mo _ _ _ ?_) | refine Below.trans ?_ (below_mq _ _ ?_) | exact Nat.le_refl _) | (simp; done) | (simp; omega) | omega))⟩
  · rw [if_neg hx] at HB
    have b1 : (X == 0) = false := beq_eq_false_iff_ne.2 hx
    clear hway
    go_enter Try.func40, Try.ntmps40
    (go_wp2_with fail; refine (KO1.out _ (by repeat' (first | (with_reducible first | assumption | exact Below.refl _ _ | refine Below.drew ?_ | refine Below.alloc ?_ ?_ _ | refine Below.setCell ?_ ?_ _ | refine below_setR ?_ ?_ _ | refine below_dn ?_ _ | refine Below.trans ?_ (below_mo _ _ _ ?_) | refine Below.trans ?_ (below_mq _ _ ?_) | exact Nat.le_refl _) | (simp; done) | (simp; omega) | omega))).mono ?_; rintro e w' ⟨rfl, hb_⟩; obtain ⟨os0, d0, rfl⟩ := mo_of hb_; clear hb_)
    (go_wp2_with fail; refine (KO2.out _ (by repeat' (first | (with_reducible first | assumption | exact Below.refl _ _ | refine Below.drew ?_ | refine Below.alloc ?_ ?_ _ | refine Below.setCell ?_ ?_ _ | refine below_setR ?_ ?_ _ | refine below_dn ?_ _ | refine Below.trans ?_ (below_mo _ _ _ ?_) | refine Below.trans ?_ (below_mq _ _ ?_) | exact Nat.le_refl _) | (simp; done) | (simp; omega) | omega))).mono ?_; rintro e w' ⟨rfl, hb_⟩; obtain ⟨os1, d1, rfl⟩ := mo_of hb_; clear hb_)
    go_wp2
    (refine wp_region_mq (by kernel_rfl) (by kernel_rfl) ?_; (repeat (first | go_big_quiet_step ((first | (go_at_call 120; ((with_reducible refine quietQ (KV1.out _ ?_) ) <;> (repeat' (first | (with_reducible first | assumption | exact Below.refl _ _ | refine Below.drew ?_ | refine Below.alloc ?_ ?_ _ | refine Below.setCell ?_ ?_ _ | refine below_setR ?_ ?_ _ | refine below_dn ?_ _ | refine Below.trans ?_ (below_mo _ _ _ ?_) | refine Below.trans ?_ (below_mq _ _ ?_) | exact Nat.le_refl _) | (simp; done) | (simp; omega) | omega)))) | (go_at_call 120; ((with_reducible refine quietQ (KV2.out _ ?_) ) <;> (repeat' (first | (with_reducible first | assumption | exact Below.refl _ _ | refine Below.drew ?_ | refine Below.alloc ?_ ?_ _ | refine Below.setCell ?_ ?_ _ | refine below_setR ?_ ?_ _ | refine below_dn ?_ _ | refine Below.trans ?_ (below_mo _ _ _ ?_) | refine Below.trans ?_ (below_mq _ _ ?_) | exact Nat.le_refl _) | (simp; done) | (simp; omega) | omega)))) | (go_at_call 82; ((with_reducible refine quietS (KS.out _ ?_) ) <;> (repeat' (first | (with_reducible first | assumption | exact Below.refl _ _ | refine Below.drew ?_ | refine Below.alloc ?_ ?_ _ | refine Below.setCell ?_ ?_ _ | refine below_setR ?_ ?_ _ | refine below_dn ?_ _ | refine Below.trans ?_ (below_mo _ _ _ ?_) | refine Below.trans ?_ (below_mq _ _ ?_) | exact Nat.le_refl _) | (simp; done) | (simp; omega) | omega)))) | (go_at_call 81; with_reducible exact quietS (KW.out _) ))) | quiet_step ((first | (go_at_call 120; ((with_reducible refine quietQ (KV1.out _ ?_) ) <;> (repeat' (first | (with_reducible first | assumption | exact Below.refl _ _ | refine Below.drew ?_ | refine Below.alloc ?_ ?_ _ | refine Below.setCell ?_ ?_ _ | refine below_setR ?_ ?_ _ | refine below_dn ?_ _ | refine Below.trans ?_ (below_mo _ _ _ ?_) | refine Below.trans ?_ (below_mq _ _ ?_) | exact Nat.le_refl _) | (simp; done) | (simp; omega) | omega)))) | (go_at_call 120; ((with_reducible refine quietQ (KV2.out _ ?_) ) <;> (repeat' (first | (with_reducible first | assumption | exact Below.refl _ _ | refine Below.drew ?_ | refine Below.alloc ?_ ?_ _ | refine Below.setCell ?_ ?_ _ | refine below_setR ?_ ?_ _ | refine below_dn ?_ _ | refine Below.trans ?_ (below_mo _ _ _ ?_) | refine Below.trans ?_ (below_mq _ _ ?_) | exact Nat.le_refl _) | (simp; done) | (simp; omega) | omega)))) | (go_at_call 82; ((with_reducible refine quietS (KS.out _ ?_) ) <;> (repeat' (first | (with_reducible first | assumption | exact Below.refl _ _ | refine Below.drew ?_ | refine Below.alloc ?_ ?_ _ | refine Below.setCell ?_ ?_ _ | refine below_setR ?_ ?_ _ | refine below_dn ?_ _ | refine Below.trans ?_ (below_mo _ _ _ ?_) | refine Below.trans ?_ (below_mq _ _ ?_) | exact Nat.le_refl _) | (simp; done) | (simp; omega) | omega)))) | (go_at_call 81; with_reducible exact quietS (KW.out _) ))))); refine wpQuiet_nil ?_; intro _ hq_; obtain ⟨q_, rfl⟩ := hq_)
    (go_wp2_with fail; refine (KS.out _ (by repeat' (first | (with_reducible first | assumption | exact Below.refl _ _ | refine Below.drew ?_ | refine Below.alloc ?_ ?_ _ | refine Below.setCell ?_ ?_ _ | refine below_setR ?_ ?_ _ | refine below_dn ?_ _ | refine Below.trans ?_ (below_mo _ _ _ ?_) | refine Below.trans ?_ (below_mq _ _ ?_) | exact Nat.le_refl _) | (simp; done) | (simp; omega) | omega))).mono ?_; rintro e w' ⟨rfl, rfl⟩)
    go_wp2
    go_returns
    exact ⟨by rw [HB.out]; rfl, (by repeat' (first | (with_reducible first | assumption | exact Below.refl _ _ | refine Below.drew ?_ | refine Below.alloc ?_ ?_ _ | refine Below.setCell ?_ ?_ _ | refine below_setR ?_ ?_ _ | refine below_dn ?_ _ | refine Below.trans ?_ (below_mo _ _ _ ?_) | refine Below.trans ?_ (below_mq _ _ ?_) | exact Nat.le_refl _) | (simp; done) | (simp; omega) | omega))⟩
end Go.Proofs.Ytkphbagckbbalaa.X
