/- Which counts are possible between two readings. Conditions: none. -/
import Derived.Test.YtkphbagckbbalaaKLog
namespace Go.Proofs.Ytkphbagckbbalaa.X
open Go.RowKit
set_option linter.unusedVariables false
set_option linter.unusedSimpArgs false
set_option maxRecDepth 100000
/-- a flow is valid -/
def okF (fl fh : Int) : Bool := decide (0 ≤ fl) && decide (fl ≤ fh) && decide (fh ≤ 1000000)
theorem okF_t {fl fh : Int} (h : okF fl fh = true) : 0 ≤ fl ∧ fl ≤ fh ∧ fh ≤ 1000000 := by
  unfold okF at h
  simp only [Bool.and_eq_true, decide_eq_true_eq] at h
  omega
theorem okR_t {xs : List Int} {d v : Int} (h : okR xs d v = true) : (0 ≤ d ∧ d ≤ 100000) ∧ 0 ≤ v ∧ v ≤ szS xs - 1 := by
  unfold okR at h
  simp only [Bool.and_eq_true] at h
  exact ⟨inR_t.1 h.1, inR_t.1 h.2⟩
/-- what two readings and a flow are as they must be for a count -/
structure Fine (xs : List Int) (ad av bd bv fl fh : Int) : Prop where
  s : okS xs = true
  a : 0 ≤ av ∧ av ≤ szS xs - 1
  b : 0 ≤ bv ∧ bv ≤ szS xs - 1
  d0 : 0 ≤ ad ∧ ad ≤ 100000
  d1 : 0 ≤ bd ∧ bd ≤ 100000
  d : ad ≤ bd
  f : 0 ≤ fl ∧ fl ≤ fh ∧ fh ≤ 1000000
def cUp (xs : List Int) (ad av bd bv fl : Int) : Int := (bv - av - fl * (bd - ad)) % szS xs
def cDown (xs : List Int) (ad av bd bv fh : Int) : Int := (fh * (bd - ad) - (bv - av)) % szS xs
def cLow (xs : List Int) (ad av bd bv fl : Int) : Int := fl * (bd - ad) + cUp xs ad av bd bv fl
def cHigh (xs : List Int) (ad av bd bv fh : Int) : Int := fh * (bd - ad) - cDown xs ad av bd bv fh
def cOk (xs : List Int) (ad av bd bv fl fh : Int) : Bool := decide (cLow xs ad av bd bv fl ≤ fh * (bd - ad))
theorem Fine.bd {xs : List Int} {ad av bd bv fl fh : Int} (h : Fine xs ad av bd bv fl fh) : (0 ≤ fl * (bd - ad) ∧ fl * (bd - ad) ≤ 100000000000) ∧ (0 ≤ fh * (bd - ad) ∧ fh * (bd - ad) ≤ 100000000000) ∧ fl * (bd - ad) ≤ fh * (bd - ad) ∧ (2 ≤ szS xs ∧ szS xs ≤ 1000000000000) := by
  have h1 := h.d0
  have h2 := h.d1
  have h3 := h.d
  have h4 := h.f
  have e1 := Int.mul_nonneg (show 0 ≤ fl by omega) (show 0 ≤ bd - ad by omega)
  have e2 := Int.mul_le_mul (show fl ≤ 1000000 by omega) (show bd - ad ≤ 100000 by omega) (show 0 ≤ bd - ad by omega) (by omega)
  have e3 := Int.mul_nonneg (show 0 ≤ fh by omega) (show 0 ≤ bd - ad by omega)
  have e4 := Int.mul_le_mul (show fh ≤ 1000000 by omega) (show bd - ad ≤ 100000 by omega) (show 0 ≤ bd - ad by omega) (by omega)
  have e5 := Int.mul_le_mul_of_nonneg_right h4.2.1 (show 0 ≤ bd - ad by omega)
  exact ⟨⟨e1, by omega⟩, ⟨e3, by omega⟩, e5, szS_bd h.s⟩
theorem Fine.cs {xs : List Int} {ad av bd bv fl fh : Int} (h : Fine xs ad av bd bv fl fh) : (0 ≤ cUp xs ad av bd bv fl ∧ cUp xs ad av bd bv fl ≤ 1000000000000) ∧ (0 ≤ cDown xs ad av bd bv fh ∧ cDown xs ad av bd bv fh ≤ 1000000000000) := by
  obtain ⟨_, _, _, h1, h2⟩ := h.bd
  have e1 := Int.emod_nonneg (bv - av - fl * (bd - ad)) (show szS xs ≠ 0 by omega)
  have e2 := Int.emod_lt_of_pos (bv - av - fl * (bd - ad)) (show 0 < szS xs by omega)
  have e3 := Int.emod_nonneg (fh * (bd - ad) - (bv - av)) (show szS xs ≠ 0 by omega)
  have e4 := Int.emod_lt_of_pos (fh * (bd - ad) - (bv - av)) (show 0 < szS xs by omega)
  unfold cUp cDown
  omega
theorem emod_le_self {y m : Int} (hy : 0 ≤ y) : y % m ≤ y := by
  rcases Int.lt_trichotomy m 0 with h | h | h
  · rw [← Int.emod_neg]
    have := Int.emod_add_mul_ediv y (-m)
    have h2 := Int.mul_nonneg (show 0 ≤ -m by omega) (Int.ediv_nonneg hy (show 0 ≤ -m by omega))
    omega
  · subst h; simp
  · have := Int.emod_add_mul_ediv y m
    have h2 := Int.mul_nonneg (show 0 ≤ m by omega) (Int.ediv_nonneg hy (show 0 ≤ m by omega))
    omega
theorem Fine.high {xs : List Int} {ad av bd bv fl fh : Int} (h : Fine xs ad av bd bv fl fh) (ho : cOk xs ad av bd bv fl fh = true) : cLow xs ad av bd bv fl ≤ cHigh xs ad av bd bv fh := by
  have ho := of_decide_eq_true ho
  have h1 := Int.emod_add_mul_ediv (bv - av - fl * (bd - ad)) (szS xs)
  have h2 : (fh * (bd - ad) - cLow xs ad av bd bv fl) % szS xs = cDown xs ad av bd bv fh := by
    unfold cLow cUp cDown
    have e : fh * (bd - ad) - (fl * (bd - ad) + (bv - av - fl * (bd - ad)) % szS xs) = fh * (bd - ad) - (bv - av) + szS xs * ((bv - av - fl * (bd - ad)) / szS xs) := by omega
    rw [e, Int.add_mul_emod_self_left]
  have h3 := emod_le_self (y := fh * (bd - ad) - cLow xs ad av bd bv fl) (m := szS xs) (by omega)
  unfold cHigh
  omega
theorem gap_low (g d s : Int) : (g % s - d) % s = (g - d) % s := Int.emod_sub_emod _ _ _
theorem gap_high (g d s : Int) : (d - g % s) % s = (d - g) % s := by
  have h1 := Int.emod_add_mul_ediv g s
  have e : d - g % s = d - g + s * (g / s) := by omega
  rw [e, Int.add_mul_emod_self_left]
set_option maxHeartbeats 400000 in
theorem ValidFlow_any (fl fh : Int) (w : World) : Calls Try.prog 167 #[.agg #[.int .i64 fl, .int .i64 fh]] w fun e w' => e = .returned (.bool (okF fl fh)) ∧ Below w.heap.size w w' := by
  by_cases h1 : 0 ≤ fl
  all_goals by_cases h2 : fl ≤ fh
  all_goals
    go_enter Try.func167, Try.ntmps167
    go_wp2
    go_ret
    exact ⟨by first | (simp [okF, *]; done) | (simp [okF, *]; omega), (by repeat' (first | (with_reducible first | assumption | exact Below.refl _ _ | refine Below.drew ?_ | refine Below.alloc ?_ ?_ _ | refine Below.setCell ?_ ?_ _ | refine below_setR ?_ ?_ _ | refine below_dn ?_ _ | refine Below.trans ?_ (below_mo _ _ _ ?_) | refine Below.trans ?_ (below_mq _ _ ?_) | exact Nat.le_refl _) | (simp; done) | (simp; omega) | omega))⟩
set_option maxHeartbeats 400000 in
theorem bounds_any {xs : List Int} (ad av bd bv fl fh : Int) (h : Fine xs ad av bd bv fl fh) (w : World) : Calls Try.prog 165 #[.agg #[.int .i64 fl, .int .i64 fh], .agg #[.int .i64 ad, .int .i64 av], .agg #[.int .i64 bd, .int .i64 bv]] w fun e w' => e = .returned (.tuple #[.int .i64 (fl * (bd - ad)), .int .i64 (fh * (bd - ad))]) ∧ Below w.heap.size w w' := by
  obtain ⟨⟨h1, h2⟩, ⟨h3, h4⟩, _, _⟩ := h.bd
  obtain ⟨d1, d2⟩ := h.d0
  obtain ⟨d3, d4⟩ := h.d1
  have d5 := h.d
  clear h
  go_enter Try.func165, Try.ntmps165
  go_wp2
  go_quiet (fail)
  go_wp2
  go_returns
  exact ⟨rfl, (by repeat' (first | (with_reducible first | assumption | exact Below.refl _ _ | refine Below.drew ?_ | refine Below.alloc ?_ ?_ _ | refine Below.setCell ?_ ?_ _ | refine below_setR ?_ ?_ _ | refine below_dn ?_ _ | refine Below.trans ?_ (below_mo _ _ _ ?_) | refine Below.trans ?_ (below_mq _ _ ?_) | exact Nat.le_refl _) | (simp; done) | (simp; omega) | omega))⟩
set_option maxHeartbeats 1000000 in
theorem counts_any {A : Option Addr} {xs : List Int} {W : World} {B : Nat} (hs : Nums .u8 W B A xs) (h8 : b8 xs) (n c : Nat) (hn : xs.length = n) (w : World) (hb : Below B W w) (ad av bd bv fl fh : Int) (h : Fine xs ad av bd bv fl fh) : Calls Try.prog 83 #[.slice A n c, .agg #[.int .i64 ad, .int .i64 av], .agg #[.int .i64 bd, .int .i64 bv], .agg #[.int .i64 fl, .int .i64 fh]] w fun e w' => e = .returned (.tuple #[.int .i64 (cLow xs ad av bd bv fl), .int .i64 (cHigh xs ad av bd bv fh), .bool (cOk xs ad av bd bv fl fh)]) ∧ Below w.heap.size w w' := by
  obtain rfl := hn
  have hB := hs.bsz hb
  obtain ⟨⟨h1, h2⟩, ⟨h3, h4⟩, h5, h6, h7⟩ := h.bd
  obtain ⟨⟨u0, u1⟩, u2, u3⟩ := h.cs
  obtain ⟨a0, a1⟩ := h.a
  obtain ⟨b0, b1⟩ := h.b
  have H := Lib.hid h
  clear h
  have HS : Hid (szS xs = sizeTo xs xs.length) := rfl
  have k0 : 0 ≤ fl * (bd - ad) + cUp xs ad av bd bv fl := by omega
  unfold cUp at u0 u1 k0
  unfold cDown at u2 u3
  go_enter Try.func83, Try.ntmps83
  go_wp2_with (first | (go_at_call 165; refine (bounds_any ad av bd bv fl fh H.out _).mono ?_; rintro e w' ⟨rfl, hb_⟩; obtain ⟨os_, d_, rfl⟩ := mo_of hb_; clear hb_) | (go_at_call 82; refine (size_any hs h8 _ _ rfl _ (by repeat' (first | (with_reducible first | assumption | exact Below.refl _ _ | refine Below.drew ?_ | refine Below.alloc ?_ ?_ _ | refine Below.setCell ?_ ?_ _ | refine below_setR ?_ ?_ _ | refine below_dn ?_ _ | refine Below.trans ?_ (below_mo _ _ _ ?_) | refine Below.trans ?_ (below_mq _ _ ?_) | exact Nat.le_refl _) | (simp; done) | (simp; omega) | omega))).mono ?_; rintro e w' ⟨rfl, rfl⟩; rw [← HS.out]) | (go_at_call 81; with_reducible refine (wrapped_any (bv - av - fl * (bd - ad)) (szS xs) _ ⟨?_, ?_⟩ ⟨?_, ?_⟩).mono ?_; omega; omega; omega; omega; rintro e w' ⟨rfl, rfl⟩) | (go_at_call 81; with_reducible refine (wrapped_any (fh * (bd - ad) - (bv - av)) (szS xs) _ ⟨?_, ?_⟩ ⟨?_, ?_⟩).mono ?_; omega; omega; omega; omega; rintro e w' ⟨rfl, rfl⟩))
  go_returns
  exact ⟨rfl, (by repeat' (first | (with_reducible first | assumption | exact Below.refl _ _ | refine Below.drew ?_ | refine Below.alloc ?_ ?_ _ | refine Below.setCell ?_ ?_ _ | refine below_setR ?_ ?_ _ | refine below_dn ?_ _ | refine Below.trans ?_ (below_mo _ _ _ ?_) | refine Below.trans ?_ (below_mq _ _ ?_) | exact Nat.le_refl _) | (simp; done) | (simp; omega) | omega))⟩
set_option maxHeartbeats 1000000 in
theorem l04Counts_any {A : Option Addr} {xs : List Int} {W : World} {B : Nat} (hs : Nums .u8 W B A xs) (h8 : b8 xs) (n c : Nat) (hn : xs.length = n) (w : World) (hb : Below B W w) (ad av bd bv fl fh : Int) (h : Fine xs ad av bd bv fl fh) : Calls Try.prog 89 #[.slice A n c, .agg #[.int .i64 ad, .int .i64 av], .agg #[.int .i64 bd, .int .i64 bv], .agg #[.int .i64 fl, .int .i64 fh]] w fun e w' => e = .returned (if cOk xs ad av bd bv fl fh then .tuple #[.int .i64 (cLow xs ad av bd bv fl), .int .i64 (cHigh xs ad av bd bv fh), .bool true] else .tuple #[.int .i64 0, .int .i64 0, .bool false]) ∧ Below w.heap.size w w' := by
  obtain rfl := hn
  have hB := hs.bsz hb
  obtain ⟨⟨h1, h2⟩, ⟨h3, h4⟩, h5, h6, h7⟩ := h.bd
  obtain ⟨⟨u0, u1⟩, u2, u3⟩ := h.cs
  obtain ⟨a0, a1⟩ := h.a
  obtain ⟨b0, b1⟩ := h.b
  obtain ⟨d1, d2⟩ := h.d0
  obtain ⟨d3, d4⟩ := h.d1
  have d5 := h.d
  clear h
  have HS : Hid (szS xs = sizeTo xs xs.length) := rfl
  obtain ⟨_, g0, g1⟩ := ediv_bd (a := bv - av) (show 0 < szS xs by omega)
  have HG1 := Lib.hid (gap_low (bv - av) (fl * (bd - ad)) (szS xs))
  have HG2 := Lib.hid (gap_high (bv - av) (fh * (bd - ad)) (szS xs))
  have e1 : (bv - av - fl * (bd - ad)) % szS xs = cUp xs ad av bd bv fl := rfl
  have e2 : (fh * (bd - ad) - (bv - av)) % szS xs = cDown xs ad av bd bv fh := rfl
  cases ho : cOk xs ad av bd bv fl fh
  · have hx : fh * (bd - ad) < fl * (bd - ad) + cUp xs ad av bd bv fl := by have := of_decide_eq_false ho; unfold cLow at this; omega
    have E1 := Lib.hid e1
    clear e1 e2 ho
    go_enter Try.func89, Try.ntmps89
    go_wp2_with fail
    refine (l01Size_any hs h8 _ _ rfl _ (by repeat' (first | (with_reducible first | assumption | exact Below.refl _ _ | refine Below.drew ?_ | refine Below.alloc ?_ ?_ _ | refine Below.setCell ?_ ?_ _ | refine below_setR ?_ ?_ _ | refine below_dn ?_ _ | refine Below.trans ?_ (below_mo _ _ _ ?_) | refine Below.trans ?_ (below_mq _ _ ?_) | exact Nat.le_refl _) | (simp; done) | (simp; omega) | omega))).mono ?_
    rintro e w' ⟨rfl, rfl⟩
    rw [← HS.out]
    go_wp2_with fail
    refine (l04Mod_any (bv - av) (szS xs) _ (by omega) (by omega)).mono ?_
    rintro e w' ⟨rfl, rfl⟩
    go_wp2_with fail
    refine (l04Mod_any ((bv - av) % szS xs - fl * (bd - ad)) (szS xs) _ (by omega) (by omega)).mono ?_
    rintro e w' ⟨rfl, rfl⟩
    rw [HG1.out, E1.out]
    go_wp2
    go_returns
    exact ⟨rfl, (by repeat' (first | (with_reducible first | assumption | exact Below.refl _ _ | refine Below.drew ?_ | refine Below.alloc ?_ ?_ _ | refine Below.setCell ?_ ?_ _ | refine below_setR ?_ ?_ _ | refine below_dn ?_ _ | refine Below.trans ?_ (below_mo _ _ _ ?_) | refine Below.trans ?_ (below_mq _ _ ?_) | exact Nat.le_refl _) | (simp; done) | (simp; omega) | omega))⟩
  · have hx : fl * (bd - ad) + cUp xs ad av bd bv fl ≤ fh * (bd - ad) := by have := of_decide_eq_true ho; unfold cLow at this; omega
    have E1 := Lib.hid e1
    have E2 := Lib.hid e2
    clear e1 e2 ho
    go_enter Try.func89, Try.ntmps89
    go_wp2_with fail
    refine (l01Size_any hs h8 _ _ rfl _ (by repeat' (first | (with_reducible first | assumption | exact Below.refl _ _ | refine Below.drew ?_ | refine Below.alloc ?_ ?_ _ | refine Below.setCell ?_ ?_ _ | refine below_setR ?_ ?_ _ | refine below_dn ?_ _ | refine Below.trans ?_ (below_mo _ _ _ ?_) | refine Below.trans ?_ (below_mq _ _ ?_) | exact Nat.le_refl _) | (simp; done) | (simp; omega) | omega))).mono ?_
    rintro e w' ⟨rfl, rfl⟩
    rw [← HS.out]
    go_wp2_with fail
    refine (l04Mod_any (bv - av) (szS xs) _ (by omega) (by omega)).mono ?_
    rintro e w' ⟨rfl, rfl⟩
    go_wp2_with fail
    refine (l04Mod_any ((bv - av) % szS xs - fl * (bd - ad)) (szS xs) _ (by omega) (by omega)).mono ?_
    rintro e w' ⟨rfl, rfl⟩
    rw [HG1.out, E1.out]
    go_wp2_with fail
    refine (l04Mod_any (fh * (bd - ad) - (bv - av) % szS xs) (szS xs) _ (by omega) (by omega)).mono ?_
    rintro e w' ⟨rfl, rfl⟩
    rw [HG2.out, E2.out]
    go_wp2
    go_returns
    exact ⟨rfl, (by repeat' (first | (with_reducible first | assumption | exact Below.refl _ _ | refine Below.drew ?_ | refine Below.alloc ?_ ?_ _ | refine Below.setCell ?_ ?_ _ | refine below_setR ?_ ?_ _ | refine below_dn ?_ _ | refine Below.trans ?_ (below_mo _ _ _ ?_) | refine Below.trans ?_ (below_mq _ _ ?_) | exact Nat.le_refl _) | (simp; done) | (simp; omega) | omega))⟩
end Go.Proofs.Ytkphbagckbbalaa.X
