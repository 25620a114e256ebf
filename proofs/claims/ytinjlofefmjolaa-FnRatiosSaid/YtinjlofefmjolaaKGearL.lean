/- Ratios and trains: the plain law. Conditions: none. -/
import Derived.Test.YtinjlofefmjolaaKGcd
namespace Go.Proofs.Ytinjlofefmjolaa.X
open Go.RowKit
set_option linter.unusedVariables false
set_option linter.unusedSimpArgs false
set_option maxRecDepth 100000
theorem cop_dvd {a x y : Int} (h : a ∣ x) (g : Int.gcd x y = 1) : Int.gcd a y = 1 := Int.gcd_eq_one_iff.2 fun c c1 c2 => Int.gcd_eq_one_iff.1 g c (Int.dvd_trans c1 h) c2
theorem red_cop {p q : Int} (hq : 1 ≤ q) : Int.gcd (red p q).1 (red p q).2 = 1 := Int.gcd_ediv_gcd_ediv_gcd (Int.gcd_pos_of_ne_zero_right p (by omega))
theorem red_d1 (p q : Int) : (red p q).1 ∣ p := ⟨gI p q, by rw [Int.mul_comm]; exact (gI_left p q).symm⟩
theorem red_d2 (p q : Int) : (red p q).2 ∣ q := ⟨gI p q, by rw [Int.mul_comm]; exact (gI_right p q).symm⟩
theorem gI_comm (p q : Int) : gI p q = gI q p := by unfold gI; rw [Int.gcd_comm]
theorem gI_one {p q : Int} (h : Int.gcd p q = 1) : gI p q = 1 := by unfold gI; rw [h]; rfl
theorem red_one {p q : Int} (h : Int.gcd p q = 1) : red p q = (p, q) := by unfold red; rw [gI_one h, Int.ediv_one, Int.ediv_one]
theorem red_pos {p q : Int} (hp : 1 ≤ p) (hq : 1 ≤ q) : (1 ≤ (red p q).1 ∧ (red p q).1 ≤ p) ∧ 1 ≤ (red p q).2 ∧ (red p q).2 ≤ q := by
  have h := red_bd (p := p) (by omega) hq
  refine ⟨⟨?_, h.1.2⟩, h.2⟩
  have h1 := gI_left p q
  have h2 : (red p q).1 = p / gI p q := rfl
  rcases Int.lt_or_le 0 (red p q).1 with g | g
  · omega
  · have : p / gI p q = 0 := by have := h.1.1; omega
    rw [this] at h1
    omega
theorem cop_mul {a b c d : Int} (h1 : Int.gcd a c = 1) (h2 : Int.gcd a d = 1) (h3 : Int.gcd b c = 1) (h4 : Int.gcd b d = 1) : Int.gcd (a * b) (c * d) = 1 := by
  have e1 : Int.gcd (a * b) c = 1 := (Int.gcd_mul_right_left_of_gcd_eq_one h1).trans h3
  have e2 : Int.gcd (a * b) d = 1 := (Int.gcd_mul_right_left_of_gcd_eq_one h2).trans h4
  exact (Int.gcd_mul_right_right_of_gcd_eq_one e1).trans e2
/-- two ratios without common divisors that are equal have the same numbers -/
theorem cop_uniq {a b c d : Int} (ha : 0 < a) (hb : 0 < b) (hc : 0 < c) (hd : 0 < d) (h1 : Int.gcd a b = 1) (h2 : Int.gcd c d = 1) (h : a * d = c * b) : a = c ∧ b = d := by
  have e1 : Int.gcd b (a * d) = Int.gcd b d := Int.gcd_mul_right_right_of_gcd_eq_one (by rw [Int.gcd_comm]; exact h1)
  have e2 : Int.gcd d (c * b) = Int.gcd d b := Int.gcd_mul_right_right_of_gcd_eq_one (by rw [Int.gcd_comm]; exact h2)
  rw [h, Int.gcd_mul_left_right] at e1
  rw [← h, Int.gcd_mul_left_right, Int.gcd_comm d b] at e2
  have e3 : b = d := by omega
  subst e3
  exact ⟨Int.eq_of_mul_eq_mul_right (by omega) h, rfl⟩
/-- a ratio is right -/
structure RtOK (r : Int × Int) : Prop where
  p : 1 ≤ r.1 ∧ r.1 ≤ 1000000000
  q : 1 ≤ r.2 ∧ r.2 ≤ 1000000000
  g : Int.gcd r.1 r.2 = 1
/-- the product of ratios -/
def tmR (r s : Int × Int) : Int × Int := ((red r.1 s.2).1 * (red s.1 r.2).1, (red r.1 s.2).2 * (red s.1 r.2).2)
theorem tmR_cop {r s : Int × Int} (hr : 1 ≤ r.2) (hs : 1 ≤ s.2) (gr : Int.gcd r.1 r.2 = 1) (gs : Int.gcd s.1 s.2 = 1) : Int.gcd (tmR r s).1 (tmR r s).2 = 1 := by
  refine cop_mul (red_cop hs) ?_ ?_ (red_cop hr)
  · exact cop_dvd (red_d1 ..) (by rw [Int.gcd_comm]; exact cop_dvd (red_d2 ..) (by rw [Int.gcd_comm]; exact gr))
  · exact cop_dvd (red_d1 ..) (by rw [Int.gcd_comm]; exact cop_dvd (red_d2 ..) (by rw [Int.gcd_comm]; exact gs))
theorem tmR_eq (r s : Int × Int) : (tmR r s).1 * (r.2 * s.2) = (r.1 * s.1) * (tmR r s).2 := by
  have h1 := gI_left r.1 s.2
  have h2 := gI_right r.1 s.2
  have h3 := gI_left s.1 r.2
  have h4 := gI_right s.1 r.2
  show (r.1 / gI r.1 s.2 * (s.1 / gI s.1 r.2)) * (r.2 * s.2) = (r.1 * s.1) * (s.2 / gI r.1 s.2 * (r.2 / gI s.1 r.2))
  obtain ⟨a1, e1⟩ : ∃ a, a = r.1 / gI r.1 s.2 := ⟨_, rfl⟩
  obtain ⟨a2, e2⟩ : ∃ a, a = s.2 / gI r.1 s.2 := ⟨_, rfl⟩
  obtain ⟨b1, e3⟩ : ∃ a, a = s.1 / gI s.1 r.2 := ⟨_, rfl⟩
  obtain ⟨b2, e4⟩ : ∃ a, a = r.2 / gI s.1 r.2 := ⟨_, rfl⟩
  rw [← e1] at h1
  rw [← e2] at h2
  rw [← e3] at h3
  rw [← e4] at h4
  rw [← e1, ← e2, ← e3, ← e4]
  obtain ⟨g, e5⟩ : ∃ a, gI r.1 s.2 = a := ⟨_, rfl⟩
  obtain ⟨k, e6⟩ : ∃ a, gI s.1 r.2 = a := ⟨_, rfl⟩
  rw [e5] at h1 h2
  rw [e6] at h3 h4
  rw [← h1, ← h2, ← h3, ← h4]
  ac_rfl
theorem tmR_bd {r s : Int × Int} (h1 : 1 ≤ r.1) (h2 : 1 ≤ r.2) (h3 : 1 ≤ s.1) (h4 : 1 ≤ s.2) : (1 ≤ (tmR r s).1 ∧ (tmR r s).1 ≤ r.1 * s.1) ∧ 1 ≤ (tmR r s).2 ∧ (tmR r s).2 ≤ r.2 * s.2 := by
  have a := red_pos h1 h4
  have b := red_pos h3 h2
  have e1 := Int.mul_le_mul a.1.1 b.1.1 (by omega) (by omega)
  have e2 := Int.mul_le_mul a.1.2 b.1.2 (by omega) (by omega)
  have e3 := Int.mul_le_mul a.2.1 b.2.1 (by omega) (by omega)
  have e4 := Int.mul_le_mul b.2.2 a.2.2 (by omega) (by omega)
  rw [Int.mul_comm (red s.1 r.2).2] at e4
  exact ⟨⟨by have : 1 ≤ (red r.1 s.2).1 * (red s.1 r.2).1 := by omega
             exact this, e2⟩, by have : 1 ≤ (red r.1 s.2).2 * (red s.1 r.2).2 := by omega
                                 exact this, e4⟩
/-- the ratio of the first k pairs of a train -/
def rtT (ts : List (Int × Int)) : Nat → Int × Int
  | 0 => (1, 1)
  | k + 1 => tmR (rtT ts k) (red (p1 ts (k : Int)) (p2 ts (k : Int)))
/-- a train is right -/
structure TrOK (ts : List (Int × Int)) : Prop where
  len : 1 ≤ ts.length ∧ ts.length ≤ 4
  el : ∀ k : Nat, k < ts.length → (8 ≤ p1 ts (k : Int) ∧ p1 ts (k : Int) ≤ 120) ∧ 8 ≤ p2 ts (k : Int) ∧ p2 ts (k : Int) ≤ 120
def pw120 : Nat → Int
  | 0 => 1
  | k + 1 => pw120 k * 120
theorem pw120_bd {k : Nat} (h : k ≤ 4) : 1 ≤ pw120 k ∧ pw120 k ≤ 207360000 := by
  rcases (show k = 0 ∨ k = 1 ∨ k = 2 ∨ k = 3 ∨ k = 4 by omega) with rfl | rfl | rfl | rfl | rfl <;> decide
theorem rtT_bd {ts : List (Int × Int)} (h : TrOK ts) : ∀ k : Nat, k ≤ ts.length → ((1 ≤ (rtT ts k).1 ∧ (rtT ts k).1 ≤ pw120 k) ∧ 1 ≤ (rtT ts k).2 ∧ (rtT ts k).2 ≤ pw120 k) ∧ Int.gcd (rtT ts k).1 (rtT ts k).2 = 1
  | 0, _ => by refine ⟨?_, by unfold rtT; decide⟩; simp [rtT, pw120]
  | k + 1, hk => by
    obtain ⟨⟨⟨a1, a2⟩, a3, a4⟩, a5⟩ := rtT_bd h k (by omega)
    obtain ⟨b1, b2⟩ := h.el k (by omega)
    have c := red_pos (p := p1 ts (k : Int)) (q := p2 ts (k : Int)) (by omega) (by omega)
    have d := tmR_bd (s := red (p1 ts (k : Int)) (p2 ts (k : Int))) a1 a3 c.1.1 c.2.1
    have e1 := Int.mul_le_mul a2 (show (red (p1 ts (k : Int)) (p2 ts (k : Int))).1 ≤ 120 by omega) (by omega) (by omega)
    have e2 := Int.mul_le_mul a4 (show (red (p1 ts (k : Int)) (p2 ts (k : Int))).2 ≤ 120 by omega) (by omega) (by omega)
    refine ⟨⟨⟨d.1.1, Int.le_trans d.1.2 e1⟩, d.2.1, Int.le_trans d.2.2 e2⟩, tmR_cop a3 c.2.1 a5 (red_cop (by omega))⟩
/-- the ratio of a train -/
def rtO (ts : List (Int × Int)) : Int × Int := rtT ts ts.length
theorem rtO_ok {ts : List (Int × Int)} (h : TrOK ts) : RtOK (rtO ts) := by
  obtain ⟨⟨⟨a1, a2⟩, a3, a4⟩, a5⟩ := rtT_bd h ts.length (Nat.le_refl _)
  have := pw120_bd h.len.2
  exact ⟨⟨a1, by show (rtT ts ts.length).1 ≤ _; omega⟩, ⟨a3, by show (rtT ts ts.length).2 ≤ _; omega⟩, a5⟩
end Go.Proofs.Ytinjlofefmjolaa.X
