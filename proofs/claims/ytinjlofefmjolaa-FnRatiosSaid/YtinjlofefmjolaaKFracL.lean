/- Continued fractions: the plain law. Conditions: none. -/
import Derived.Test.YtinjlofefmjolaaKGearL
namespace Go.Proofs.Ytinjlofefmjolaa.X
open Go.RowKit
set_option linter.unusedVariables false
set_option linter.unusedSimpArgs false
set_option maxRecDepth 100000
/-- what is left of P / Q behind n terms -/
def pqS (P Q : Int) : Nat → Int × Int
  | 0 => (P, Q)
  | n + 1 => ((pqS P Q n).2, (pqS P Q n).1 % (pqS P Q n).2)
/-- the n-th term -/
def aT (P Q : Int) (n : Nat) : Int := (pqS P Q n).1 / (pqS P Q n).2
/-- the convergents: two ahead, then behind each term -/
def hS (P Q : Int) : Nat → Int × Int
  | 0 => (0, 1)
  | 1 => (1, 0)
  | n + 2 => (aT P Q n * (hS P Q (n + 1)).1 + (hS P Q n).1, aT P Q n * (hS P Q (n + 1)).2 + (hS P Q n).2)
def sg : Nat → Int
  | 0 => 1
  | n + 1 => - sg n
theorem sg_one (n : Nat) : sg n = 1 ∨ sg n = -1 := by
  induction n with
  | zero => left; rfl
  | succ n ih => unfold sg; omega
/-- a ratio's terms: there are N -/
structure CF (P Q : Int) (N : Nat) : Prop where
  p : 1 ≤ P ∧ P ≤ 65536
  q : 1 ≤ Q ∧ Q ≤ 65536
  g : Int.gcd P Q = 1
  n : 1 ≤ N ∧ N ≤ 34
  pos : ∀ n, n < N → 0 < (pqS P Q n).2
  zero : (pqS P Q N).2 = 0
theorem pq_bd {P Q : Int} (hP : 1 ≤ P ∧ P ≤ 65536) (hQ : 1 ≤ Q ∧ Q ≤ 65536) : ∀ n : Nat, (0 ≤ (pqS P Q n).1 ∧ (pqS P Q n).1 ≤ 65536) ∧ 0 ≤ (pqS P Q n).2 ∧ (pqS P Q n).2 ≤ 65536
  | 0 => by unfold pqS; omega
  | n + 1 => by
    have ih := pq_bd hP hQ n
    unfold pqS
    by_cases c : (pqS P Q n).2 = 0
    · rw [c, Int.emod_zero]
      exact ⟨⟨Int.le_refl _, by show (0 : Int) ≤ 65536; decide⟩, ih.1⟩
    · have a := Int.emod_nonneg (pqS P Q n).1 c
      have b := Int.emod_lt_of_pos (pqS P Q n).1 (show 0 < (pqS P Q n).2 by omega)
      exact ⟨ih.2, a, by show _ % _ ≤ _; omega⟩
theorem pq_half {P Q : Int} (hP : 1 ≤ P ∧ P ≤ 65536) (hQ : 1 ≤ Q ∧ Q ≤ 65536) {n : Nat} (h0 : 0 < (pqS P Q n).2) (h1 : 0 < (pqS P Q (n + 1)).2) : 2 * (pqS P Q (n + 2)).2 < (pqS P Q n).2 := by
  have ih := pq_bd hP hQ n
  have e1 : (pqS P Q (n + 1)).1 = (pqS P Q n).2 := rfl
  have e2 : (pqS P Q (n + 1)).2 = (pqS P Q n).1 % (pqS P Q n).2 := rfl
  have e3 : (pqS P Q (n + 2)).2 = (pqS P Q (n + 1)).1 % (pqS P Q (n + 1)).2 := rfl
  have l1 := Int.emod_lt_of_pos (pqS P Q n).1 h0
  have l2 := Int.emod_lt_of_pos (pqS P Q (n + 1)).1 h1
  have m := Int.mul_ediv_add_emod (pqS P Q (n + 1)).1 (pqS P Q (n + 1)).2
  have d : 1 ≤ (pqS P Q (n + 1)).1 / (pqS P Q (n + 1)).2 := (Int.le_ediv_iff_mul_le h1).2 (by omega)
  have := Int.mul_le_mul_of_nonneg_left d (show 0 ≤ (pqS P Q (n + 1)).2 by omega)
  omega
def pw2 : Nat → Int
  | 0 => 1
  | k + 1 => 2 * pw2 k
theorem pw2_pos (k : Nat) : 1 ≤ pw2 k := by
  induction k with
  | zero => decide
  | succ k ih => unfold pw2; omega
theorem pq_pw {P Q : Int} (hP : 1 ≤ P ∧ P ≤ 65536) (hQ : 1 ≤ Q ∧ Q ≤ 65536) : ∀ m : Nat, (∀ n, n ≤ 2 * m → 0 < (pqS P Q n).2) → pw2 m * (pqS P Q (2 * m)).2 ≤ Q
  | 0, _ => by show 1 * Q ≤ Q; omega
  | m + 1, h => by
    have ih := pq_pw hP hQ m (fun n hn => h n (by omega))
    have a := pq_half hP hQ (n := 2 * m) (h _ (by omega)) (h _ (by omega))
    have b := pw2_pos m
    have c := Int.mul_le_mul_of_nonneg_left (show 2 * (pqS P Q (2 * m + 2)).2 ≤ (pqS P Q (2 * m)).2 by omega) (show 0 ≤ pw2 m by omega)
    show 2 * pw2 m * (pqS P Q (2 * m + 2)).2 ≤ Q
    rw [show 2 * pw2 m * (pqS P Q (2 * m + 2)).2 = pw2 m * (2 * (pqS P Q (2 * m + 2)).2) by ac_rfl]
    omega
theorem cf_of {P Q : Int} (hP : 1 ≤ P ∧ P ≤ 65536) (hQ : 1 ≤ Q ∧ Q ≤ 65536) (hg : Int.gcd P Q = 1) : ∃ N, CF P Q N := by
  have key : ∀ k : Nat, (∀ n, n ≤ k → 0 < (pqS P Q n).2) ∨ ∃ N, 1 ≤ N ∧ N ≤ k ∧ (pqS P Q N).2 = 0 ∧ ∀ n, n < N → 0 < (pqS P Q n).2 := by
    intro k
    induction k with
    | zero => left; intro n hn; obtain rfl : n = 0 := by omega
              show 0 < Q; omega
    | succ k ih =>
      rcases ih with h | ⟨N, h0, h1, h2, h3⟩
      · by_cases c : (pqS P Q (k + 1)).2 = 0
        · right; exact ⟨k + 1, by omega, Nat.le_refl _, c, fun n hn => h n (by omega)⟩
        · left
          intro n hn
          by_cases e : n = k + 1
          · subst e
            have := (pq_bd hP hQ (k + 1)).2.1
            omega
          · exact h n (by omega)
      · right; exact ⟨N, h0, by omega, h2, h3⟩
  rcases key 34 with h | ⟨N, h0, h1, h2, h3⟩
  · exfalso
    have a := pq_pw hP hQ 17 h
    have b := h 34 (by omega)
    have c : pw2 17 = 131072 := by decide
    have e : (pqS P Q (2 * 17)).2 = (pqS P Q 34).2 := rfl
    rw [c, e] at a
    omega
  · exact ⟨N, hP, hQ, hg, ⟨h0, h1⟩, h3, h2⟩
section
variable {P Q : Int} {N : Nat} (C : CF P Q N)
include C
theorem CF.bd (n : Nat) (hn : n ≤ N) : (1 ≤ (pqS P Q n).1 ∧ (pqS P Q n).1 ≤ 65536) ∧ 0 ≤ (pqS P Q n).2 ∧ (pqS P Q n).2 ≤ 65536 := by
  have a := pq_bd C.p C.q n
  refine ⟨⟨?_, a.1.2⟩, a.2⟩
  match n with
  | 0 => exact C.p.1
  | n + 1 => exact C.pos n (by omega)
theorem CF.aeq (n : Nat) : aT P Q n * (pqS P Q n).2 + (pqS P Q (n + 1)).2 = (pqS P Q n).1 := by
  have _C := C
  have := Int.mul_ediv_add_emod (pqS P Q n).1 (pqS P Q n).2
  rw [Int.mul_comm] at this
  exact this
theorem CF.abd (n : Nat) (hn : n < N) : (0 ≤ aT P Q n ∧ aT P Q n ≤ 65536) ∧ (1 ≤ n → 1 ≤ aT P Q n) := by
  have a := C.bd n (by omega)
  have b := C.pos n hn
  refine ⟨⟨Int.ediv_nonneg (by omega) (by omega), Int.le_trans (Int.ediv_le_self _ (by omega)) a.1.2⟩, fun h => ?_⟩
  obtain ⟨m, rfl⟩ : ∃ m, n = m + 1 := ⟨n - 1, by omega⟩
  have l := Int.emod_lt_of_pos (pqS P Q m).1 (C.pos m (by omega))
  refine (Int.le_ediv_iff_mul_le b).2 ?_
  have e1 : (pqS P Q (m + 1)).1 = (pqS P Q m).2 := rfl
  have e2 : (pqS P Q (m + 1)).2 = (pqS P Q m).1 % (pqS P Q m).2 := rfl
  omega
theorem CF.hnn : ∀ n : Nat, n ≤ N + 1 → (0 ≤ (hS P Q n).1 ∧ 0 ≤ (hS P Q n).2)
  | 0, _ => by simp [hS]
  | 1, _ => by simp [hS]
  | n + 2, h => by
    have a := CF.hnn n (by omega)
    have b := CF.hnn (n + 1) (by omega)
    have c := (C.abd n (by omega)).1.1
    have d := Int.mul_nonneg c b.1
    have e := Int.mul_nonneg c b.2
    unfold hS
    omega
theorem CF.sum (n : Nat) (hn : n ≤ N) : P = (hS P Q (n + 1)).1 * (pqS P Q n).1 + (hS P Q n).1 * (pqS P Q n).2 ∧ Q = (hS P Q (n + 1)).2 * (pqS P Q n).1 + (hS P Q n).2 * (pqS P Q n).2 := by
  induction n with
  | zero => simp [hS, pqS]
  | succ n ih =>
    obtain ⟨i1, i2⟩ := ih (by omega)
    have e := C.aeq n
    have e1 : (pqS P Q (n + 1)).1 = (pqS P Q n).2 := rfl
    have e2 : hS P Q (n + 2) = (aT P Q n * (hS P Q (n + 1)).1 + (hS P Q n).1, aT P Q n * (hS P Q (n + 1)).2 + (hS P Q n).2) := rfl
    rw [e1, e2]
    rw [← e] at i1 i2
    refine ⟨i1.trans ?_, i2.trans ?_⟩
    · simp only [Int.mul_add, Int.add_mul, Int.mul_assoc, Int.mul_left_comm, Int.add_assoc, Int.add_comm, Int.add_left_comm]
    · simp only [Int.mul_add, Int.add_mul, Int.mul_assoc, Int.mul_left_comm, Int.add_assoc, Int.add_comm, Int.add_left_comm]
theorem CF.det (n : Nat) : (hS P Q (n + 1)).1 * (hS P Q n).2 - (hS P Q n).1 * (hS P Q (n + 1)).2 = sg n := by
  have _C := C
  induction n with
  | zero => simp [hS, sg]
  | succ n ih =>
    have e2 : hS P Q (n + 2) = (aT P Q n * (hS P Q (n + 1)).1 + (hS P Q n).1, aT P Q n * (hS P Q (n + 1)).2 + (hS P Q n).2) := rfl
    rw [e2]
    show _ = - sg n
    rw [← ih]
    simp only [Int.mul_add, Int.add_mul]
    rw [show aT P Q n * (hS P Q (n + 1)).1 * (hS P Q (n + 1)).2 = (hS P Q (n + 1)).1 * (aT P Q n * (hS P Q (n + 1)).2) by ac_rfl]
    omega
theorem CF.hle (n : Nat) (hn : n ≤ N) : (hS P Q (n + 1)).1 ≤ P ∧ (hS P Q (n + 1)).2 ≤ Q := by
  obtain ⟨i1, i2⟩ := C.sum n hn
  have a := C.bd n hn
  have b := C.hnn (n + 1) (by omega)
  have c := C.hnn n (by omega)
  have d1 := Int.mul_le_mul_of_nonneg_left a.1.1 b.1
  have d2 := Int.mul_le_mul_of_nonneg_left a.1.1 b.2
  have f1 := Int.mul_nonneg c.1 a.2.1
  have f2 := Int.mul_nonneg c.2 a.2.1
  omega
theorem CF.last : hS P Q (N + 1) = (P, Q) := by
  obtain ⟨i1, i2⟩ := C.sum N (Nat.le_refl _)
  rw [C.zero, Int.mul_zero, Int.add_zero] at i1 i2
  have a := C.bd N (Nat.le_refl _)
  have d : (pqS P Q N).1 = 1 := by
    have h := Int.gcd_eq_one_iff.1 C.g (pqS P Q N).1 ⟨_, i1.trans (Int.mul_comm _ _)⟩ ⟨_, i2.trans (Int.mul_comm _ _)⟩
    have := Int.le_of_dvd (by decide) h
    omega
  rw [d, Int.mul_one] at i1 i2
  exact Prod.ext i1.symm i2.symm
/-- on which side of the ratio a convergent lies -/
theorem CF.side (n : Nat) (hn : n ≤ N) : (hS P Q (n + 1)).1 * Q - P * (hS P Q (n + 1)).2 = sg n * (pqS P Q n).2 := by
  obtain ⟨i1, i2⟩ := C.sum n hn
  have d := C.det n
  rw [← d]
  clear d C hn
  generalize (hS P Q (n + 1)).1 = h1 at *
  generalize (hS P Q (n + 1)).2 = k1 at *
  generalize (hS P Q n).1 = h0 at *
  generalize (hS P Q n).2 = k0 at *
  generalize (pqS P Q n).1 = p at *
  generalize (pqS P Q n).2 = q at *
  rw [i1, i2]
  simp only [Int.mul_add, Int.add_mul, Int.sub_mul]
  rw [show h1 * (k1 * p) = h1 * p * k1 by ac_rfl, show h1 * (k0 * q) = h1 * k0 * q by ac_rfl, show h0 * q * k1 = h0 * k1 * q by ac_rfl]
  omega
theorem CF.qpos : ∀ n : Nat, n ≤ N → 1 ≤ n → 1 ≤ (hS P Q (n + 1)).2
  | 0, _, h => by omega
  | 1, _, _ => by
    show 1 ≤ aT P Q 0 * 0 + 1
    rw [Int.mul_zero]
    decide
  | n + 2, h, _ => by
    have a : 1 ≤ (hS P Q (n + 2)).2 := CF.qpos (n + 1) (by omega) (by omega)
    have b := (C.hnn (n + 1) (by omega)).2
    have c := (C.abd (n + 1) (by omega)).2 (by omega)
    have d := Int.mul_le_mul_of_nonneg_right c (show 0 ≤ (hS P Q (n + 2)).2 by omega)
    show 1 ≤ aT P Q (n + 1) * (hS P Q (n + 2)).2 + (hS P Q (n + 1)).2
    omega
theorem CF.qmono (n : Nat) (hn : n < N) (h1 : 1 ≤ n) : (hS P Q (n + 1)).2 ≤ (hS P Q (n + 2)).2 := by
  have b := (C.hnn n (by omega)).2
  have b2 := (C.hnn (n + 1) (by omega)).2
  have c := (C.abd n hn).2 h1
  have d := Int.mul_le_mul_of_nonneg_right c b2
  show _ ≤ aT P Q n * (hS P Q (n + 1)).2 + (hS P Q n).2
  omega
theorem CF.a0 : aT P Q 0 = P / Q := by
  have _C := C
  rfl
/-- which convergents are 0 -/
theorem CF.ppos : ∀ n : Nat, n ≤ N → 1 ≤ n → (Q ≤ P ∨ 2 ≤ n) → 1 ≤ (hS P Q (n + 1)).1
  | 0, _, h, _ => by omega
  | 1, _, _, h => by
    have hq := C.q
    have : 1 ≤ P / Q := (Int.le_ediv_iff_mul_le (show 0 < Q by omega)).2 (by omega)
    show 1 ≤ P / Q * 1 + 0
    rw [Int.mul_one, Int.add_zero]
    exact this
  | 2, h, _, _ => by
    have c := (C.abd 1 (by omega)).2 (by omega)
    have b := (C.abd 0 (by omega)).1.1
    have d := Int.mul_nonneg (show 0 ≤ aT P Q 1 by omega) b
    show 1 ≤ aT P Q 1 * (aT P Q 0 * 1 + 0) + 1
    rw [Int.mul_one, Int.add_zero]
    omega
  | n + 3, h, _, _ => by
    have a : 1 ≤ (hS P Q (n + 3)).1 := CF.ppos (n + 2) (by omega) (by omega) (.inr (by omega))
    have b : 0 ≤ (hS P Q (n + 2)).1 := (C.hnn (n + 2) (by omega)).1
    have c := (C.abd (n + 2) (by omega)).2 (by omega)
    have d := Int.mul_le_mul_of_nonneg_right c (show 0 ≤ (hS P Q (n + 3)).1 by omega)
    show 1 ≤ aT P Q (n + 2) * (hS P Q (n + 3)).1 + (hS P Q (n + 2)).1
    omega
theorem CF.first (h : P < Q) : hS P Q 2 = (0, 1) ∧ 2 ≤ N := by
  have hp := C.p
  have hq := C.q
  have e : aT P Q 0 = 0 := Int.ediv_eq_zero_of_lt (show 0 ≤ P by omega) h
  refine ⟨?_, ?_⟩
  · show (aT P Q 0 * 1 + 0, aT P Q 0 * 0 + 1) = ((0 : Int), (1 : Int))
    rw [e]; rfl
  · rcases Nat.lt_or_ge N 2 with z | z
    · have hn := C.n
      obtain rfl : N = 1 := by omega
      have h0 := C.zero
      have h1 : (pqS P Q 1).2 = P % Q := rfl
      rw [h1, Int.emod_eq_of_lt (by omega) h] at h0
      omega
    · exact z
theorem CF.only (h : N = 1) : 1 ≤ aT P Q 0 := by
  have hp := C.p
  have hq := C.q
  subst h
  have h0 := C.zero
  have h1 : (pqS P Q 1).2 = P % Q := rfl
  rcases Int.lt_or_le P Q with z | z
  · rw [h1, Int.emod_eq_of_lt (by omega) z] at h0
    omega
  · have : 1 ≤ P / Q := (Int.le_ediv_iff_mul_le (show 0 < Q by omega)).2 (by omega)
    exact this
end
end Go.Proofs.Ytinjlofefmjolaa.X
