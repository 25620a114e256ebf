/- Which counts are possible between two readings. Conditions: none. -/
import Derived.Test.YtinjlofefmjolaaKLog
namespace Go.Proofs.Ytinjlofefmjolaa.X
open Go.RowKit
set_option linter.unusedVariables false
set_option linter.unusedSimpArgs false
set_option maxRecDepth 100000
/-- a flow is valid -/
def okF (fl fh : Int) : Bool := decide (0 ≤ fl) && decide (fl ≤ fh) && decide (fh ≤ 1000000)
theorem okF_t {fl fh : Int} (h : okF fl fh = true) : 0 ≤ fl ∧ fl ≤ fh ∧ fh ≤ 1000000 := by
  unfold okF at h
  simp only [Bool.and_eq_true, decide_eq_true_eq] at h
  omega
theorem okR_t {xs : List Int} {d v : Int} (h : okR xs d v = true) : (0 ≤ d ∧ d ≤ 100000) ∧ 0 ≤ v ∧ v ≤ szS xs - 1 := by
  unfold okR at h
  simp only [Bool.and_eq_true] at h
  exact ⟨inR_t.1 h.1, inR_t.1 h.2⟩
/-- what two readings and a flow are as they must be for a count -/
structure Fine (xs : List Int) (ad av bd bv fl fh : Int) : Prop where
  s : okS xs = true
  a : 0 ≤ av ∧ av ≤ szS xs - 1
  b : 0 ≤ bv ∧ bv ≤ szS xs - 1
  d0 : 0 ≤ ad ∧ ad ≤ 100000
  d1 : 0 ≤ bd ∧ bd ≤ 100000
  d : ad ≤ bd
  f : 0 ≤ fl ∧ fl ≤ fh ∧ fh ≤ 1000000
def cUp (xs : List Int) (ad av bd bv fl : Int) : Int := (bv - av - fl * (bd - ad)) % szS xs
def cDown (xs : List Int) (ad av bd bv fh : Int) : Int := (fh * (bd - ad) - (bv - av)) % szS xs
def cLow (xs : List Int) (ad av bd bv fl : Int) : Int := fl * (bd - ad) + cUp xs ad av bd bv fl
def cHigh (xs : List Int) (ad av bd bv fh : Int) : Int := fh * (bd - ad) - cDown xs ad av bd bv fh
def cOk (xs : List Int) (ad av bd bv fl fh : Int) : Bool := decide (cLow xs ad av bd bv fl ≤ fh * (bd - ad))
theorem Fine.bd {xs : List Int} {ad av bd bv fl fh : Int} (h : Fine xs ad av bd bv fl fh) : (0 ≤ fl * (bd - ad) ∧ fl * (bd - ad) ≤ 100000000000) ∧ (0 ≤ fh * (bd - ad) ∧ fh * (bd - ad) ≤ 100000000000) ∧ fl * (bd - ad) ≤ fh * (bd - ad) ∧ (2 ≤ szS xs ∧ szS xs ≤ 1000000000000) := by
  have h1 := h.d0
  have h2 := h.d1
  have h3 := h.d
  have h4 := h.f
  have e1 := Int.mul_nonneg (show 0 ≤ fl by omega) (show 0 ≤ bd - ad by omega)
  have e2 := Int.mul_le_mul (show fl ≤ 1000000 by omega) (show bd - ad ≤ 100000 by omega) (show 0 ≤ bd - ad by omega) (by omega)
  have e3 := Int.mul_nonneg (show 0 ≤ fh by omega) (show 0 ≤ bd - ad by omega)
  have e4 := Int.mul_le_mul (show fh ≤ 1000000 by omega) (show bd - ad ≤ 100000 by omega) (show 0 ≤ bd - ad by omega) (by omega)
  have e5 := Int.mul_le_mul_of_nonneg_right h4.2.1 (show 0 ≤ bd - ad by omega)
  exact ⟨⟨e1, by omega⟩, ⟨e3, by omega⟩, e5, szS_bd h.s⟩
theorem Fine.cs {xs : List Int} {ad av bd bv fl fh : Int} (h : Fine xs ad av bd bv fl fh) : (0 ≤ cUp xs ad av bd bv fl ∧ cUp xs ad av bd bv fl ≤ 1000000000000) ∧ (0 ≤ cDown xs ad av bd bv fh ∧ cDown xs ad av bd bv fh ≤ 1000000000000) := by
  obtain ⟨_, _, _, h1, h2⟩ := h.bd
  have e1 := Int.emod_nonneg (bv - av - fl * (bd - ad)) (show szS xs ≠ 0 by omega)
  have e2 := Int.emod_lt_of_pos (bv - av - fl * (bd - ad)) (show 0 < szS xs by omega)
  have e3 := Int.emod_nonneg (fh * (bd - ad) - (bv - av)) (show szS xs ≠ 0 by omega)
  have e4 := Int.emod_lt_of_pos (fh * (bd - ad) - (bv - av)) (show 0 < szS xs by omega)
  unfold cUp cDown
  omega
theorem emod_le_self {y m : Int} (hy : 0 ≤ y) : y % m ≤ y := by
  rcases Int.lt_trichotomy m 0 with h | h | h
  · rw [← Int.emod_neg]
    have := Int.emod_add_mul_ediv y (-m)
    have h2 := Int.mul_nonneg (show 0 ≤ -m by omega) (Int.ediv_nonneg hy (show 0 ≤ -m by omega))
    omega
  · subst h; simp
  · have := Int.emod_add_mul_ediv y m
    have h2 := Int.mul_nonneg (show 0 ≤ m by omega) (Int.ediv_nonneg hy (show 0 ≤ m by omega))
    omega
theorem Fine.high {xs : List Int} {ad av bd bv fl fh : Int} (h : Fine xs ad av bd bv fl fh) (ho : cOk xs ad av bd bv fl fh = true) : cLow xs ad av bd bv fl ≤ cHigh xs ad av bd bv fh := by
  have ho := of_decide_eq_true ho
  have h1 := Int.emod_add_mul_ediv (bv - av - fl * (bd - ad)) (szS xs)
  have h2 : (fh * (bd - ad) - cLow xs ad av bd bv fl) % szS xs = cDown xs ad av bd bv fh := by
    unfold cLow cUp cDown
    have e : fh * (bd - ad) - (fl * (bd - ad) + (bv - av - fl * (bd - ad)) % szS xs) = fh * (bd - ad) - (bv - av) + szS xs * ((bv - av - fl * (bd - ad)) / szS xs) := by omega
    rw [e, Int.add_mul_emod_self_left]
  have h3 := emod_le_self (y := fh * (bd - ad) - cLow xs ad av bd bv fl) (m := szS xs) (by omega)
  unfold cHigh
  omega
theorem gap_low (g d s : Int) : (g % s - d) % s = (g - d) % s := Int.emod_sub_emod _ _ _
theorem gap_high (g d s : Int) : (d - g % s) % s = (d - g) % s := by
  have h1 := Int.emod_add_mul_ediv g s
  have e : d - g % s = d - g + s * (g / s) := by omega
  rw [e, Int.add_mul_emod_self_left]
end Go.Proofs.Ytinjlofefmjolaa.X
