/- Bumped wheels: the plain law. Conditions: none. -/
import Derived.Test.YtinjlofefmjolaaKCntZ
import Derived.Test.YtinjlofefmjolaaKWorst
import Derived.Test.YtinjlofefmjolaaKMot5
namespace Go.Proofs.Ytinjlofefmjolaa.X
open Go.RowKit
set_option linter.unusedVariables false
set_option linter.unusedSimpArgs false
set_option maxRecDepth 100000
/-- a wheel is bumped -/
def bpV (xs : List Int) (p : Nat → Int) (k : Nat) (b : Int) : Int := (p k + b) % (el xs (k : Int) * 1000)
def bpP (xs : List Int) (p : Nat → Int) (k : Nat) (b : Int) : Nat → Int := upd p k (bpV xs p k b)
/-- the digit and the parts that a wheel should have, told from the parts of all -/
def rfQ (xs : List Int) (js : List (Int × Int)) (p : Nat → Int) : Nat → Int × Int
  | 0 => (p 0 / 1000, p 0)
  | i + 1 => ((p (i + 1) - byd (el xs (i : Int)) (p1 js (i : Int)) (p2 js (i : Int)) (rfQ xs js p i).2 + 500) / 1000 % el xs ((i + 1 : Nat) : Int), (p (i + 1) - byd (el xs (i : Int)) (p1 js (i : Int)) (p2 js (i : Int)) (rfQ xs js p i).2 + 500) / 1000 % el xs ((i + 1 : Nat) : Int) * 1000 + byd (el xs (i : Int)) (p1 js (i : Int)) (p2 js (i : Int)) (rfQ xs js p i).2)
def rfTo (xs : List Int) (js : List (Int × Int)) (p : Nat → Int) (k : Nat) : Nat → Int := fun i => if i < k then (rfQ xs js p i).1 else 0
theorem rfTo_succ (xs : List Int) (js : List (Int × Int)) (p : Nat → Int) (k : Nat) : upd (rfTo xs js p k) k (rfQ xs js p k).1 = rfTo xs js p (k + 1) := by
  funext i
  unfold upd rfTo
  by_cases e : i = k
  · subst e; rw [if_pos rfl, if_pos (by omega)]
  · rw [if_neg e]
    by_cases e2 : i < k
    · rw [if_pos e2, if_pos (by omega)]
    · rw [if_neg e2, if_neg (by omega)]
/-- parts that are at hand -/
def okP2 (xs : List Int) (p : Nat → Int) : Prop := (∀ i : Nat, i < xs.length → 0 ≤ p i ∧ p i < el xs (i : Int) * 1000) ∧ ∀ i : Nat, xs.length ≤ i → i < 8 → p i = 0
theorem rfQ_bd {xs : List Int} {js : List (Int × Int)} {p : Nat → Int} (h : okO xs js = true) (hp : okP2 xs p) : ∀ i : Nat, i < xs.length → (0 ≤ (rfQ xs js p i).1 ∧ (rfQ xs js p i).1 < el xs (i : Int)) ∧ 0 ≤ (rfQ xs js p i).2 ∧ (rfQ xs js p i).2 < el xs (i : Int) * 1000
  | 0, hi => by
    have h1 := okS_el (okO_parts h).1 hi
    have h2 := hp.1 0 hi
    show (0 ≤ p 0 / 1000 ∧ p 0 / 1000 < el xs ((0 : Nat) : Int)) ∧ 0 ≤ p 0 ∧ p 0 < el xs ((0 : Nat) : Int) * 1000
    omega
  | i + 1, hi => by
    obtain ⟨h1, h2, h3⟩ := okO_parts h
    have ih := (rfQ_bd h hp i (by omega)).2
    have h4 := okS_el h1 (k := i) (by omega)
    have h5 := okS_el h1 hi
    have h6 := byd_bd h4 (h3 i (by omega)) ih
    have m0 := Int.emod_nonneg ((p (i + 1) - byd (el xs (i : Int)) (p1 js (i : Int)) (p2 js (i : Int)) (rfQ xs js p i).2 + 500) / 1000) (show el xs ((i + 1 : Nat) : Int) ≠ 0 by omega)
    have m1 := Int.emod_lt_of_pos ((p (i + 1) - byd (el xs (i : Int)) (p1 js (i : Int)) (p2 js (i : Int)) (rfQ xs js p i).2 + 500) / 1000) (show 0 < el xs ((i + 1 : Nat) : Int) by omega)
    unfold rfQ
    dsimp only
    omega
/-- the digit of a wheel that is bumped less than half a digit -/
theorem near_digit {d s f b : Int} (hd : 0 ≤ d ∧ d < s) (hb : -500 ≤ b ∧ b < 500) : ((d * 1000 + f + b) % (s * 1000) - f + 500) / 1000 % s = d := by
  have h1 := Int.mul_ediv_add_emod (d * 1000 + f + b) (s * 1000)
  generalize (d * 1000 + f + b) / (s * 1000) = m at *
  have e : (d * 1000 + f + b) % (s * 1000) - f + 500 = (b + 500) + (d + (-m) * s) * 1000 := by
    have : s * 1000 * m = m * s * 1000 := by ac_rfl
    rw [Int.add_mul, Int.neg_mul, Int.neg_mul]
    omega
  rw [e, Int.add_mul_ediv_right _ _ (by decide), show (b + 500) / 1000 = 0 by omega, Int.zero_add, Int.add_mul_emod_self_right, Int.emod_eq_of_lt hd.1 hd.2]
/-- bumped parts: all but the first wheel, each less than half a digit -/
def bumped (xs : List Int) (js : List (Int × Int)) (t : Int) (p : Nat → Int) : Prop := p 0 = ptV xs js t 0 ∧ ∀ i : Nat, i + 1 < xs.length → ∃ b : Int, (-500 ≤ b ∧ b < 500) ∧ p (i + 1) = (ptV xs js t (i + 1) + b) % (el xs ((i + 1 : Nat) : Int) * 1000)
theorem first_digit {t s : Int} (hs : 0 < s) : t % (s * 1000) / 1000 = t / 1000 % s := by
  have h := mod_mul (p := 1000) (s := s) (v := t) (by decide) hs
  rw [Int.mul_comm 1000 s] at h
  have := Int.emod_nonneg t (show (1000 : Int) ≠ 0 by decide)
  have := Int.emod_lt_of_pos t (show (0 : Int) < 1000 by decide)
  omega
/-- the digits told from bumped parts are right -/
theorem right_from {xs : List Int} {js : List (Int × Int)} {t : Int} {p : Nat → Int} (h : okO xs js = true) (hb : bumped xs js t p) : ∀ i : Nat, i < xs.length → rfQ xs js p i = (dg xs (t / 1000) i, ptV xs js t i)
  | 0, hi => by
    have h1 := okS_el (okO_parts h).1 hi
    show (p 0 / 1000, p 0) = _
    rw [hb.1, dg_eq (okO_parts h).1 _ hi]
    refine Prod.ext ?_ rfl
    show t % (el xs 0 * 1000) / 1000 = t / 1000 / 1 % el xs 0
    rw [Int.ediv_one]
    exact first_digit (by have := h1.1; show (0 : Int) < el xs ((0 : Nat) : Int); omega)
  | i + 1, hi => by
    have ih := right_from h hb i (by omega)
    obtain ⟨b, hbb, e⟩ := hb.2 i hi
    have d := dg_bd (v := t / 1000) (okO_parts h).1 hi
    have hp : ptV xs js t (i + 1) = dg xs (t / 1000) (i + 1) * 1000 + byd (el xs (i : Int)) (p1 js (i : Int)) (p2 js (i : Int)) (ptV xs js t i) := rfl
    unfold rfQ
    rw [ih, e, hp, near_digit d hbb]
theorem right_all {xs : List Int} {js : List (Int × Int)} {t : Int} {p : Nat → Int} (h : okO xs js = true) (hb : bumped xs js t p) : rfTo xs js p xs.length = dg xs (t / 1000) := by
  funext i
  unfold rfTo
  by_cases e : i < xs.length
  · rw [if_pos e, right_from h hb i e]
  · rw [if_neg e, dg_out _ (by omega)]
/-- the worst of some turns is the first of the worst -/
theorem wst_ok (f : Nat → Int) (low : Int) (h : ∀ j, 0 ≤ f j) : ∀ k : Nat, 0 < k → ∃ a : Nat, a < k ∧ (wst f low k).1 = low + a ∧ (wst f low k).2 = f a ∧ ∀ j : Nat, j < k → f j ≤ f a ∧ (j < a → f j < f a)
  | 0, hk => absurd hk (by omega)
  | 1, _ => by
    have e := wst_up (f := f) (low := low) (k := 0) (show (-1 : Int) < f 0 by have := h 0; omega)
    refine ⟨0, by omega, by rw [e], by rw [e], fun j hj => ?_⟩
    obtain rfl : j = 0 := by omega
    exact ⟨Int.le_refl _, fun h => absurd h (by omega)⟩
  | k + 2, _ => by
    obtain ⟨a, ha, e1, e2, hall⟩ := wst_ok f low h (k + 1) (by omega)
    by_cases c : (wst f low (k + 1)).2 < f (k + 1)
    · rw [wst_up c]
      rw [e2] at c
      refine ⟨k + 1, by omega, rfl, rfl, fun j hj => ?_⟩
      by_cases hjk : j = k + 1
      · subst hjk; exact ⟨Int.le_refl _, fun h => absurd h (by omega)⟩
      · have := (hall j (by omega)).1
        exact ⟨by omega, fun _ => by omega⟩
    · rw [wst_no c]
      rw [e2] at c
      refine ⟨a, by omega, e1, e2, fun j hj => ?_⟩
      by_cases hjk : j = k + 1
      · subst hjk; exact ⟨by omega, fun h => absurd h (by omega)⟩
      · exact hall j (by omega)
end Go.Proofs.Ytinjlofefmjolaa.X
