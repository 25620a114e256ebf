/- The nearest ratio: the plain law. Conditions: none. -/
import Derived.Test.YtinjlofefmjolaaKBase
namespace Go.Proofs.Ytinjlofefmjolaa.X
open Go.RowKit
set_option linter.unusedVariables false
set_option linter.unusedSimpArgs false
set_option maxRecDepth 100000
/-- fractions a / b, compared -/
theorem fr_le_le {a b c d e f : Int} (hb : 0 < b) (hd : 0 < d) (hf : 0 < f) (h1 : a * d ≤ c * b) (h2 : c * f ≤ e * d) : a * f ≤ e * b := by
  have h3 := Int.mul_le_mul_of_nonneg_right h1 (Int.le_of_lt hf)
  have h4 := Int.mul_le_mul_of_nonneg_right h2 (Int.le_of_lt hb)
  refine Int.le_of_mul_le_mul_right (a := d) ?_ hd
  rw [show a * d * f = a * f * d by ac_rfl, show c * b * f = c * f * b by ac_rfl] at h3
  rw [show e * d * b = e * b * d by ac_rfl] at h4
  omega
theorem fr_lt_le {a b c d e f : Int} (hb : 0 < b) (hd : 0 < d) (hf : 0 < f) (h1 : a * d < c * b) (h2 : c * f ≤ e * d) : a * f < e * b := by
  have h3 := Int.mul_lt_mul_of_pos_right h1 hf
  have h4 := Int.mul_le_mul_of_nonneg_right h2 (Int.le_of_lt hb)
  refine Int.lt_of_mul_lt_mul_right (a := d) ?_ (Int.le_of_lt hd)
  rw [show a * d * f = a * f * d by ac_rfl, show c * b * f = c * f * b by ac_rfl] at h3
  rw [show e * d * b = e * b * d by ac_rfl] at h4
  omega
/-- by how much p / q is off P / Q, times q and Q -/
def dI (P Q p q : Int) : Int := max (p * Q - P * q) (-(p * Q - P * q))
theorem dI_nn (P Q p q : Int) : 0 ≤ dI P Q p q := by unfold dI; omega
theorem dI_bd {P Q p q M : Int} (h1 : 0 ≤ p * Q ∧ p * Q ≤ M) (h2 : 0 ≤ P * q ∧ P * q ≤ M) : dI P Q p q ≤ M := by unfold dI; omega
/-- a is nearer than b -/
def nlt (P Q : Int) (a b : Int × Int) : Prop := dI P Q a.1 a.2 * b.2 < dI P Q b.1 b.2 * a.2
instance (P Q : Int) (a b : Int × Int) : Decidable (nlt P Q a b) := by unfold nlt; infer_instance
def stp (P Q : Int) (b c : Int × Int) : Int × Int := if nlt P Q c b then c else b
theorem stp_yes {P Q : Int} {b c : Int × Int} (h : nlt P Q c b) : stp P Q b c = c := if_pos h
theorem stp_no {P Q : Int} {b c : Int × Int} (h : ¬ nlt P Q c b) : stp P Q b c = b := if_neg h
def cnd (P Q m q k : Int) : Int := max 1 (min m (P * q / Q + k))
/-- the nearest one with denominators to n -/
def bstN (P Q m : Int) : Nat → Int × Int
  | 0 => (1, 1)
  | n + 1 => stp P Q (stp P Q (bstN P Q m n) (cnd P Q m ((n : Int) + 1) 0, (n : Int) + 1)) (cnd P Q m ((n : Int) + 1) 1, (n : Int) + 1)
theorem cnd_bd {P Q m q k : Int} (hm : 1 ≤ m) : 1 ≤ cnd P Q m q k ∧ cnd P Q m q k ≤ m := by unfold cnd; omega
theorem fl_bd {P Q q : Int} (hP : 0 ≤ P) (hQ : 1 ≤ Q) (hq : 1 ≤ q) : 0 ≤ P * q / Q ∧ P * q / Q * Q ≤ P * q ∧ P * q < P * q / Q * Q + Q := by
  have h0 := Int.mul_nonneg hP (show 0 ≤ q by omega)
  have h1 := Int.ediv_nonneg h0 (show 0 ≤ Q by omega)
  have h2 := Int.mul_ediv_add_emod (P * q) Q
  have h3 := Int.emod_nonneg (P * q) (show Q ≠ 0 by omega)
  have h4 := Int.emod_lt_of_pos (P * q) (show 0 < Q by omega)
  rw [Int.mul_comm] at h2
  omega
theorem mul_step {a b Q : Int} (hQ : 1 ≤ Q) (h : a < b) : a * Q + Q ≤ b * Q := by
  have := Int.mul_le_mul_of_nonneg_right (show a + 1 ≤ b by omega) (show 0 ≤ Q by omega)
  rw [Int.add_mul] at this
  omega
theorem cnd_near {P Q m q p : Int} (hP : 0 ≤ P) (hQ : 1 ≤ Q) (hq : 1 ≤ q) (h1 : 1 ≤ p) (h2 : p ≤ m) :
    (dI P Q (cnd P Q m q 0) q ≤ dI P Q p q ∧ (dI P Q (cnd P Q m q 0) q = dI P Q p q → p = cnd P Q m q 0)) ∨ (dI P Q (cnd P Q m q 1) q ≤ dI P Q p q ∧ cnd P Q m q 0 ≤ p ∧ cnd P Q m q 1 ≤ p) := by
  obtain ⟨x0, x1, x2⟩ := fl_bd hP hQ hq
  obtain ⟨N, hN⟩ : ∃ N, P * q = N := ⟨_, rfl⟩
  obtain ⟨x, hx⟩ : ∃ x, N / Q = x := ⟨_, rfl⟩
  unfold cnd dI
  rw [hN, hx] at x0 x1 x2 ⊢
  rcases Int.lt_or_le x p with h | h
  · right
    have e : max 1 (min m (x + 1)) = x + 1 := by omega
    rw [e]
    have h3 : (x + 1) * Q ≤ p * Q := Int.mul_le_mul_of_nonneg_right (by omega) (by omega)
    have h4 : (x + 1) * Q = x * Q + Q := by rw [Int.add_mul]; omega
    omega
  · left
    obtain ⟨c, hc⟩ : ∃ c, c = max 1 (min m (x + 0)) := ⟨_, rfl⟩
    rw [← hc]
    have h3 : p ≤ c := by omega
    have h4 : c ≤ x := by omega
    have h5 : c * Q ≤ x * Q := Int.mul_le_mul_of_nonneg_right h4 (by omega)
    have h6 : p * Q ≤ c * Q := Int.mul_le_mul_of_nonneg_right h3 (by omega)
    refine ⟨by omega, fun he => ?_⟩
    rcases Int.lt_or_le p c with g | g
    · have := mul_step hQ g
      omega
    · omega
/-- the nearest one with denominators to n, the least of several -/
structure Best (P Q m : Int) (n : Nat) (b : Int × Int) : Prop where
  p : 1 ≤ b.1 ∧ b.1 ≤ m
  q : 1 ≤ b.2 ∧ (b.2 ≤ (n : Int) ∨ b = (1, 1))
  le : ∀ p q : Int, 1 ≤ p → p ≤ m → 1 ≤ q → q ≤ (n : Int) → dI P Q b.1 b.2 * q ≤ dI P Q p q * b.2 ∧ (dI P Q b.1 b.2 * q = dI P Q p q * b.2 → b.2 < q ∨ b.2 = q ∧ b.1 ≤ p)
theorem best_0 {P Q m : Int} (hm : 1 ≤ m) : Best P Q m 0 (1, 1) := ⟨⟨Int.le_refl _, hm⟩, ⟨Int.le_refl _, .inr rfl⟩, fun p q _ _ h3 h4 => by omega⟩
theorem best_s {P Q m : Int} (hP : 0 ≤ P) (hQ : 1 ≤ Q) (hm : 1 ≤ m) {n : Nat} {b : Int × Int} (h : Best P Q m n b) :
    Best P Q m (n + 1) (stp P Q (stp P Q b (cnd P Q m ((n : Int) + 1) 0, (n : Int) + 1)) (cnd P Q m ((n : Int) + 1) 1, (n : Int) + 1)) := by
  obtain ⟨k, hk⟩ : ∃ k, k = (n : Int) + 1 := ⟨_, rfl⟩
  have hk1 : ((n + 1 : Nat) : Int) = k := by omega
  rw [← hk]
  have b0 := cnd_bd (P := P) (Q := Q) (q := k) (k := 0) hm
  have b1 := cnd_bd (P := P) (Q := Q) (q := k) (k := 1) hm
  have near := fun p (h1 : 1 ≤ p) (h2 : p ≤ m) => cnd_near (P := P) (Q := Q) (q := k) hP hQ (by omega) h1 h2
  obtain ⟨c0, h0⟩ : ∃ c, cnd P Q m k 0 = c := ⟨_, rfl⟩
  obtain ⟨c1, h1⟩ : ∃ c, cnd P Q m k 1 = c := ⟨_, rfl⟩
  rw [h0] at b0 ⊢
  rw [h1] at b1 ⊢
  rw [h0, h1] at near
  have key : ∀ N : Int × Int, (N = b ∨ (N = (c0, k) ∧ nlt P Q N b) ∨ (N = (c1, k) ∧ nlt P Q N b ∧ nlt P Q N (c0, k))) → ¬ nlt P Q b N → ¬ nlt P Q (c0, k) N → ¬ nlt P Q (c1, k) N → Best P Q m (n + 1) N := by
    rintro N hN l0 l1 l2
    have pN : 1 ≤ N.1 ∧ N.1 ≤ m := by
      rcases hN with rfl | ⟨rfl, -⟩ | ⟨rfl, -⟩
      · exact h.p
      · exact b0
      · exact b1
    have qN : 1 ≤ N.2 ∧ (N.2 ≤ ((n + 1 : Nat) : Int) ∨ N = (1, 1)) := by
      rcases hN with rfl | ⟨rfl, -⟩ | ⟨rfl, -⟩
      · exact ⟨h.q.1, h.q.2.elim (fun g => .inl (by omega)) .inr⟩
      · exact ⟨by show 1 ≤ k; omega, .inl (by show k ≤ _; omega)⟩
      · exact ⟨by show 1 ≤ k; omega, .inl (by show k ≤ _; omega)⟩
    refine ⟨pN, qN, fun p q p1 p2 q1 q2 => ?_⟩
    have q0 : 0 < N.2 := by omega
    have qb : 0 < b.2 := by have := h.q.1; omega
    by_cases hq : q ≤ (n : Int)
    · obtain ⟨i1, i2⟩ := h.le p q p1 p2 q1 hq
      refine ⟨fr_le_le q0 qb (by omega) (Int.not_lt.1 l0) i1, fun he => ?_⟩
      rcases hN with rfl | ⟨-, g⟩ | ⟨-, g, -⟩
      · exact i2 he
      · have := fr_lt_le q0 qb (show 0 < q by omega) g i1
        omega
      · have := fr_lt_le q0 qb (show 0 < q by omega) g i1
        omega
    · obtain rfl : q = k := by omega
      rcases near p p1 p2 with ⟨e1, e2⟩ | ⟨e1, e2, e3⟩
      · have f1 : dI P Q c0 q * q ≤ dI P Q p q * q := Int.mul_le_mul_of_nonneg_right e1 (by omega)
        refine ⟨fr_le_le q0 (show 0 < q by omega) (show 0 < q by omega) (Int.not_lt.1 l1) f1, fun he => ?_⟩
        rcases hN with rfl | ⟨rfl, g⟩ | ⟨rfl, g, g2⟩
        · rcases h.q.2 with z | z
          · left; omega
          · rw [z]
            show (1 : Int) < q ∨ (1 : Int) = q ∧ 1 ≤ p
            omega
        · right
          have : dI P Q c0 q = dI P Q p q := Int.eq_of_mul_eq_mul_right (by omega) he
          exact ⟨rfl, by rw [e2 this]; exact Int.le_refl _⟩
        · have := fr_lt_le q0 (show 0 < q by omega) (show 0 < q by omega) g2 f1
          omega
      · have f1 : dI P Q c1 q * q ≤ dI P Q p q * q := Int.mul_le_mul_of_nonneg_right e1 (by omega)
        refine ⟨fr_le_le q0 (show 0 < q by omega) (show 0 < q by omega) (Int.not_lt.1 l2) f1, fun he => ?_⟩
        rcases hN with rfl | ⟨rfl, g⟩ | ⟨rfl, g, g2⟩
        · rcases h.q.2 with z | z
          · left; omega
          · rw [z]
            show (1 : Int) < q ∨ (1 : Int) = q ∧ 1 ≤ p
            omega
        · exact .inr ⟨rfl, e2⟩
        · exact .inr ⟨rfl, e3⟩
  have qb : 0 < b.2 := by have := h.q.1; omega
  have qk : 0 < k := by omega
  by_cases s1 : nlt P Q (c0, k) b
  · rw [stp_yes s1]
    by_cases s2 : nlt P Q (c1, k) (c0, k)
    · rw [stp_yes s2]
      have s3 : nlt P Q (c1, k) b := fr_lt_le qk qk qb s2 (Int.le_of_lt s1)
      exact key _ (.inr (.inr ⟨rfl, s3, s2⟩)) (Int.not_lt.2 (Int.le_of_lt s3)) (Int.not_lt.2 (Int.le_of_lt s2)) (Int.lt_irrefl _)
    · rw [stp_no s2]
      exact key _ (.inr (.inl ⟨rfl, s1⟩)) (Int.not_lt.2 (Int.le_of_lt s1)) (Int.lt_irrefl _) s2
  · rw [stp_no s1]
    by_cases s2 : nlt P Q (c1, k) b
    · rw [stp_yes s2]
      have s3 : nlt P Q (c1, k) (c0, k) := fr_lt_le qk qb qk s2 (Int.not_lt.1 s1)
      exact key _ (.inr (.inr ⟨rfl, s2, s3⟩)) (Int.not_lt.2 (Int.le_of_lt s2)) (Int.not_lt.2 (Int.le_of_lt s3)) (Int.lt_irrefl _)
    · rw [stp_no s2]
      exact key _ (.inl rfl) (Int.lt_irrefl _) s1 s2
theorem best_n {P Q m : Int} (hP : 0 ≤ P) (hQ : 1 ≤ Q) (hm : 1 ≤ m) : ∀ n : Nat, Best P Q m n (bstN P Q m n)
  | 0 => best_0 hm
  | n + 1 => best_s hP hQ hm (best_n hP hQ hm n)
/-- the nearest one has no common divisors -/
theorem best_red {P Q m : Int} {n : Nat} {b : Int × Int} (h : Best P Q m n b) (hn : 1 ≤ n) : Int.gcd b.1 b.2 = 1 := by
  obtain ⟨g, hg⟩ : ∃ g, g = Int.gcd b.1 b.2 := ⟨_, rfl⟩
  rw [← hg]
  obtain ⟨x, hx⟩ : ((g : Nat) : Int) ∣ b.1 := by rw [hg]; exact Int.gcd_dvd_left ..
  obtain ⟨y, hy⟩ : ((g : Nat) : Int) ∣ b.2 := by rw [hg]; exact Int.gcd_dvd_right ..
  have p0 := h.p
  have q0 := h.q
  have q1 : b.2 ≤ (n : Int) := by
    rcases q0.2 with z | z
    · exact z
    · rw [z]; show (1 : Int) ≤ n; omega
  have g0 : 1 ≤ (g : Int) := by
    rcases Nat.eq_zero_or_pos g with z | z
    · rw [z] at hx; simp at hx; omega
    · omega
  have x0 : 1 ≤ x := by
    rcases Int.lt_or_le 0 x with z | z
    · omega
    · have := Int.mul_le_mul_of_nonneg_left z (show 0 ≤ (g : Int) by omega); omega
  have y0 : 1 ≤ y := by
    rcases Int.lt_or_le 0 y with z | z
    · omega
    · have := Int.mul_le_mul_of_nonneg_left z (show 0 ≤ (g : Int) by omega); omega
  have x1 : x ≤ b.1 := by rw [hx]; have := Int.mul_le_mul_of_nonneg_right g0 (show 0 ≤ x by omega); omega
  have y1 : y ≤ b.2 := by rw [hy]; have := Int.mul_le_mul_of_nonneg_right g0 (show 0 ≤ y by omega); omega
  obtain ⟨-, e⟩ := h.le x y x0 (by omega) y0 (by omega)
  have hd : dI P Q b.1 b.2 = (g : Int) * dI P Q x y := by
    have e1 : b.1 * Q - P * b.2 = (g : Int) * (x * Q - P * y) := by
      rw [hx, hy, Int.mul_sub]
      congr 1
      · ac_rfl
      · ac_rfl
    unfold dI
    rw [e1, ← Int.mul_neg]
    rcases Int.le_total 0 (x * Q - P * y) with z | z
    · have := Int.mul_nonneg (show 0 ≤ (g : Int) by omega) z
      rw [show max (x * Q - P * y) (-(x * Q - P * y)) = x * Q - P * y by omega, Int.mul_neg]
      omega
    · have := Int.mul_nonneg (show 0 ≤ (g : Int) by omega) (show 0 ≤ -(x * Q - P * y) by omega)
      rw [show max (x * Q - P * y) (-(x * Q - P * y)) = -(x * Q - P * y) by omega]
      rw [Int.mul_neg] at this ⊢
      omega
  have := e (by rw [hd]; conv => { rhs; rw [hy] }; ac_rfl)
  have hyy : b.2 = y := by omega
  rw [hyy] at hy
  rcases Int.lt_or_le 1 (g : Int) with z | z
  · have := mul_step (show 1 ≤ y by omega) z
    omega
  · omega
end Go.Proofs.Ytinjlofefmjolaa.X
