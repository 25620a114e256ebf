/- Meters and the flows that show the same: the plain law of FnMeters. Conditions: none. -/
import Derived.Test.YtinjlofefmjolaaKFlows
namespace Go.Proofs.Ytinjlofefmjolaa.X
open Go.RowKit
set_option linter.unusedVariables false
set_option linter.unusedSimpArgs false
set_option maxRecDepth 100000
/-- what is known of a flow f that counts c, and of the edges lo and hi of the flows that do so -/
structure Edges (p q f c lo hi : Int) : Prop where
  c0 : 0 ≤ c ∧ c ≤ 11475
  l0 : 0 ≤ lo ∧ lo ≤ f
  h0 : f ≤ hi ∧ hi ≤ 200000
  lc : lo * p / q = c
  hc : hi * p / q = c
  ld : 1 ≤ lo → (lo - 1) * p / q < c
  hd : c < (hi + 1) * p / q
  m1 : c * q ≤ f * p
  m2 : f * p < (c + 1) * q
theorem edges {p q f : Int} (hp : 1 ≤ p ∧ p ≤ 9) (hq : 1 ≤ q ∧ q ≤ 9) (hf : 0 ≤ f ∧ f ≤ 1275) : Edges p q f (f * p / q) (fLo p q (f * p / q)) (fHi p q (f * p / q)) := by
  have p0 : 0 < p := by omega
  have q0 : 0 < q := by omega
  obtain ⟨c, hc⟩ : ∃ c, c = f * p / q := ⟨_, rfl⟩
  have b0 := Int.mul_nonneg hf.1 (show 0 ≤ p by omega)
  have b1 := Int.mul_le_mul hf.2 hp.2 (show 0 ≤ p by omega) (by omega)
  have c0 := Int.ediv_nonneg b0 (show 0 ≤ q by omega)
  have c1 := Int.ediv_le_self q b0
  have m1 := Int.ediv_mul_le (f * p) (show q ≠ 0 by omega)
  have m2 := Int.lt_ediv_add_one_mul_self (f * p) q0
  rw [← hc] at c0 c1 m1 m2 ⊢
  have a0 := Int.mul_nonneg c0 (show 0 ≤ q by omega)
  have a1 := Int.mul_le_mul (show c ≤ 11475 by omega) hq.2 (show 0 ≤ q by omega) (by omega)
  have m2' : (c + 1) * q = c * q + q := by rw [Int.add_mul, Int.one_mul]
  -- lo
  have lo1 := Int.ediv_mul_le (c * q + p - 1) (show p ≠ 0 by omega)
  have lo2 := Int.lt_ediv_add_one_mul_self (c * q + p - 1) p0
  obtain ⟨lo, hlo⟩ : ∃ lo, lo = (c * q + p - 1) / p := ⟨_, rfl⟩
  have e1 : fLo p q c = lo := hlo.symm
  have lo0 := Int.ediv_nonneg (show 0 ≤ c * q + p - 1 by omega) (show 0 ≤ p by omega)
  rw [← hlo] at lo1 lo2 lo0
  rw [Int.add_mul, Int.one_mul] at lo2
  -- hi
  have hi1 := Int.ediv_mul_le ((c + 1) * q - 1) (show p ≠ 0 by omega)
  have hi2 := Int.lt_ediv_add_one_mul_self ((c + 1) * q - 1) p0
  have hi3 := Int.ediv_le_self p (show 0 ≤ (c + 1) * q - 1 by omega)
  obtain ⟨hi, hhi⟩ : ∃ hi, hi = ((c + 1) * q - 1) / p := ⟨_, rfl⟩
  rw [← hhi] at hi1 hi2 hi3
  have e2 : fHi p q c = hi := by unfold fHi; rw [← hhi]; omega
  rw [Int.add_mul hi 1 p, Int.one_mul] at hi2
  rw [e1, e2]
  have hfl : lo ≤ f := by
    rcases Int.lt_or_le f lo with h | h
    · have := Int.mul_le_mul_of_nonneg_right (show f + 1 ≤ lo from h) (show 0 ≤ p by omega)
      rw [Int.add_mul, Int.one_mul] at this
      omega
    · exact h
  have hfh : f ≤ hi := by
    rcases Int.lt_or_le hi f with h | h
    · have := Int.mul_le_mul_of_nonneg_right (show hi + 1 ≤ f from h) (show 0 ≤ p by omega)
      rw [Int.add_mul, Int.one_mul] at this
      omega
    · exact h
  have lof := Int.mul_le_mul_of_nonneg_right hfl (show 0 ≤ p by omega)
  have hif := Int.mul_le_mul_of_nonneg_right hfh (show 0 ≤ p by omega)
  have dv : ∀ y : Int, c * q ≤ y → y < (c + 1) * q → y / q = c := fun y h1 h2 => by
    have := (Int.le_ediv_iff_mul_le q0).2 h1
    have := (Int.ediv_lt_iff_lt_mul q0).2 h2
    omega
  refine ⟨⟨c0, by omega⟩, ⟨lo0, hfl⟩, ⟨hfh, by omega⟩, dv _ (by omega) (by omega), dv _ (by omega) (by omega), fun h => ?_, ?_, m1, m2⟩
  · rw [Int.sub_mul, Int.one_mul]
    exact (Int.ediv_lt_iff_lt_mul q0).2 (by omega)
  · have : c + 1 ≤ (hi + 1) * p / q := (Int.le_ediv_iff_mul_le q0).2 (by rw [Int.add_mul hi 1 p, Int.one_mul]; omega)
    omega
/-- a meter as it is drawn -/
structure MtrOK (xs : List Int) (p q s : Int) : Prop where
  st : xs = [10, 10] ∨ xs = [6, 4, 3]
  p0 : 1 ≤ p ∧ p ≤ 9
  q0 : 1 ≤ q ∧ q ≤ 9
  s0 : 0 ≤ s ∧ s < szS xs
theorem MtrOK.stk {xs : List Int} {p q s : Int} (h : MtrOK xs p q s) : okS xs = true ∧ b8 xs ∧ (72 ≤ szS xs ∧ szS xs ≤ 100) ∧ sizeTo xs xs.length = szS xs := by
  rcases h.st with e | e
  · subst e
    refine ⟨by decide, fun k => ?_, by decide, by decide⟩
    unfold el
    rcases (show k.toNat = 0 ∨ k.toNat = 1 ∨ 2 ≤ k.toNat by omega) with h | h | h
    · rw [h]; decide
    · rw [h]; decide
    · rw [List.getD_eq_getElem?_getD, List.getElem?_eq_none (by simpa using h)]; decide
  · subst e
    refine ⟨by decide, fun k => ?_, by decide, by decide⟩
    unfold el
    rcases (show k.toNat = 0 ∨ k.toNat = 1 ∨ k.toNat = 2 ∨ 3 ≤ k.toNat by omega) with h | h | h | h
    · rw [h]; decide
    · rw [h]; decide
    · rw [h]; decide
    · rw [List.getD_eq_getElem?_getD, List.getElem?_eq_none (by simpa using h)]; decide
theorem MtrOK.okm {xs : List Int} {p q s : Int} (h : MtrOK xs p q s) : okM xs p q s = true := by
  obtain ⟨k1, k2, k3, k4⟩ := h.stk
  unfold okM
  have hp := h.p0
  have hq := h.q0
  have hs := h.s0
  rw [k1, k4, inR_t.2 ⟨hp.1, by omega⟩, inR_t.2 ⟨hq.1, by omega⟩, inR_t.2 ⟨hs.1, by omega⟩]; rfl
theorem MtrOK.cnt {xs : List Int} {p q s : Int} (h : MtrOK xs p q s) {v : Int} (hv : 0 ≤ v ∧ v ≤ 1000000000000) : cntV xs p q s v = (v * p / q, 0) := cntV_3 h.okm (inR_t.2 hv)
theorem MtrOK.sh {xs : List Int} {p q s : Int} (h : MtrOK xs p q s) {v : Int} (hv : 0 ≤ v ∧ v ≤ 1000000000000) : shV xs p q s v = ((s + v * p / q) % szS xs, (s + v * p / q) / szS xs, 0) := shV_3 h.okm (inR_t.2 hv)
theorem MtrOK.fl {xs : List Int} {p q s : Int} (h : MtrOK xs p q s) {f : Int} (hf : 0 ≤ f ∧ f ≤ 1275) : flV xs p q s ((s + f * p / q) / szS xs) ((s + f * p / q) % szS xs) = (fLo p q (f * p / q), fHi p q (f * p / q), 0) := by
  obtain ⟨k1, k2, k3, k4⟩ := h.stk
  have hp := h.p0
  have hq := h.q0
  have hs := h.s0
  have E := edges hp hq hf
  obtain ⟨c, hc⟩ : ∃ c, c = f * p / q := ⟨_, rfl⟩
  rw [← hc] at E ⊢
  have c0 := E.c0
  have z0 : szS xs ≠ 0 := by omega
  have r0 := Int.ediv_nonneg (show 0 ≤ s + c by omega) (show 0 ≤ szS xs by omega)
  have r1 := Int.ediv_le_self (szS xs) (show 0 ≤ s + c by omega)
  have v0 := Int.emod_nonneg (s + c) z0
  have v1 := Int.emod_lt_of_pos (s + c) (show 0 < szS xs by omega)
  have ec : fCnt xs s ((s + c) / szS xs) ((s + c) % szS xs) = c := by
    unfold fCnt
    have := Int.mul_ediv_add_emod (s + c) (szS xs)
    rw [Int.mul_comm] at this
    omega
  have mm : c ≤ mostM p q := by
    unfold mostM
    rw [hc]
    exact Int.ediv_le_ediv (show 0 < q by omega) (Int.mul_le_mul_of_nonneg_right (by omega) (by omega))
  have rr : (s + c) / szS xs ≤ (mostM p q + s) / szS xs := Int.ediv_le_ediv (by omega) (by omega)
  unfold flV
  rw [h.okm, if_pos rfl, ec, inR_t.2 ⟨r0, by omega⟩, inR_t.2 ⟨v0, by omega⟩]
  have l0 := E.l0
  have h0 := E.h0
  rw [if_pos (show (true && true) = true from rfl), if_neg (by omega), if_pos (inR_t.2 ⟨c0.1, mm⟩), if_neg (by omega)]
/-- two counts that differ do not show the same in the same round -/
theorem sh_ne {s c d z : Int} (hz : 0 < z) (h : c ≠ d) : ¬ ((s + d) % z = (s + c) % z ∧ (s + d) / z = (s + c) / z) := fun ⟨h1, h2⟩ => by
  have a := Int.mul_ediv_add_emod (s + c) z
  have b := Int.mul_ediv_add_emod (s + d) z
  rw [h1, h2] at b
  omega
end Go.Proofs.Ytinjlofefmjolaa.X
