/- The first digit of a mark: the plain law. Conditions: none. -/
import Derived.Test.YtbihgnmiocfelaaKLeast
import Derived.Test.YtbihgnmiocfelaaKValue
namespace Go.Proofs.Ytbihgnmiocfelaa.X
open Go.RowKit
set_option linter.unusedVariables false
set_option linter.unusedSimpArgs false
set_option maxRecDepth 100000
theorem frN_sp (X Y : Nat) : ∀ n, n ≤ 128 → (frN X Y n = -1 ∧ ∀ d, 128 - n ≤ d → d < 128 → hsB X Y d = false) ∨ ∃ k : Nat, frN X Y n = (k : Int) ∧ 128 - n ≤ k ∧ k < 128 ∧ hsB X Y k = true
  | 0, _ => .inl ⟨rfl, fun d a b => by omega⟩
  | n + 1, h => by
    show ((if hsB X Y (127 - n) = true then ((127 - n : Nat) : Int) else frN X Y n) = -1 ∧ _) ∨ ∃ k : Nat, (if hsB X Y (127 - n) = true then ((127 - n : Nat) : Int) else frN X Y n) = (k : Int) ∧ _
    cases c : hsB X Y (127 - n)
    · rw [if_neg (by simp)]
      rcases frN_sp X Y n (by omega) with ⟨a, b⟩ | ⟨k, a, b, d, e⟩
      · refine .inl ⟨a, fun d d1 d2 => ?_⟩
        by_cases g : d = 127 - n
        · rw [g]; exact c
        · exact b d (by omega) d2
      · exact .inr ⟨k, a, by omega, d, e⟩
    · rw [if_pos rfl]
      exact .inr ⟨127 - n, rfl, by omega, by omega, c⟩
/-- the first digit, as a number -/
theorem fr_of {X Y d : Nat} (hd : d < 128) (h : hsB X Y d = true) : ∃ k : Nat, frB X Y 0 = (k : Int) ∧ k < 128 ∧ hsB X Y k = true := by
  rcases frN_sp X Y 128 (Nat.le_refl _) with ⟨-, b⟩ | ⟨k, a, b, d, e⟩
  · have := b d (by omega) hd; rw [h] at this; cases this
  · exact ⟨k, a, d, e⟩
theorem fr_1 {X Y : Nat} (h : hsB X Y 0 = false) : frB X Y 1 = frB X Y 0 := (frN_no (k := 0) (by omega) h).symm
theorem fr_0 {X Y : Nat} (h : hsB X Y 0 = true) : frB X Y 0 = 0 := frN_yes (k := 0) (by omega) h
theorem ex_bit {X : Nat} (h : X ≠ 0) (hX : X < 18446744073709551616) : ∃ d, d < 64 ∧ X / 2 ^ d % 2 = 1 := by
  obtain ⟨i, hi⟩ := Nat.exists_testBit_of_ne_zero h
  have hl : i < 64 := by
    rcases Nat.lt_or_ge i 64 with c | c
    · exact c
    · rw [Nat.testBit_lt_two_pow (Nat.lt_of_lt_of_le (show X < 2 ^ 64 by omega) (Nat.pow_le_pow_right (by omega) c))] at hi
      cases hi
  rw [Nat.testBit_eq_decide_div_mod_eq, decide_eq_true_eq] at hi
  exact ⟨i, hl, hi⟩
theorem hs_ex {X Y : Nat} (hX : X < 18446744073709551616) (hY : Y < 18446744073709551616) (h : ¬ (X = 0 ∧ Y = 0)) : ∃ d, d < 128 ∧ hsB X Y d = true := by
  by_cases c : X = 0
  · obtain ⟨d, a, b⟩ := ex_bit (show Y ≠ 0 by omega) hY
    refine ⟨d + 64, by omega, ?_⟩
    unfold hsB
    rw [if_neg (by omega), show d + 64 - 64 = d by omega, b]; rfl
  · obtain ⟨d, a, b⟩ := ex_bit c hX
    refine ⟨d, by omega, ?_⟩
    unfold hsB
    rw [if_pos a, b]; rfl
/-- the marks of the digits below n, in numbers -/
def blN (n : Nat) : Nat × Nat := if n ≤ 64 then (2 ^ n - 1, 0) else (2 ^ 64 - 1, 2 ^ (n - 64) - 1)
def blAll : Nat → Bool
  | 0 => bl 0 == ((((blN 0).1 : Nat) : Int), (((blN 0).2 : Nat) : Int))
  | n + 1 => (bl (n + 1) == ((((blN (n + 1)).1 : Nat) : Int), (((blN (n + 1)).2 : Nat) : Int))) && blAll n
theorem blAll_ok : blAll 128 = true := by kernel_rfl
theorem bl_at : ∀ m : Nat, blAll m = true → ∀ n : Nat, n ≤ m → bl n = ((((blN n).1 : Nat) : Int), (((blN n).2 : Nat) : Int))
  | 0, h, n, hn => by
    obtain rfl : n = 0 := by omega
    unfold blAll at h
    exact eq_of_beq h
  | m + 1, h, n, hn => by
    unfold blAll at h
    rw [Bool.and_eq_true] at h
    by_cases c : n = m + 1
    · subst c; exact eq_of_beq h.1
    · exact bl_at m h.2 n (by omega)
theorem andNot_lt {X n : Nat} (hX : X < 18446744073709551616) (hn : n ≤ 64) (h : bits .andNot .u64 (X : Int) ((2 ^ n - 1 : Nat) : Int) = 0) : X < 2 ^ n := by
  refine Nat.lt_pow_two_of_testBit X fun i hi => ?_
  by_cases c : i < 64
  · have e : bits .andNot .u64 (X : Int) ((2 ^ n - 1 : Nat) : Int) = IntKind.u64.wrap (((BitVec.ofInt 64 (X : Int)) &&& ~~~(BitVec.ofInt 64 ((2 ^ n - 1 : Nat) : Int))).toNat : Int) := rfl
    rw [e, BitVec.ofInt_natCast, BitVec.ofInt_natCast, IntKind.wrap_u64] at h
    have hl := (BitVec.ofNat 64 X &&& ~~~BitVec.ofNat 64 (2 ^ n - 1)).isLt
    have h0 : (BitVec.ofNat 64 X &&& ~~~BitVec.ofNat 64 (2 ^ n - 1)).toNat = 0 := by omega
    have h1 : (BitVec.ofNat 64 X &&& ~~~BitVec.ofNat 64 (2 ^ n - 1)).getLsbD i = false := by
      rw [← BitVec.testBit_toNat, h0]; simp
    rw [BitVec.getLsbD_and, BitVec.getLsbD_not, BitVec.getLsbD_ofNat, BitVec.getLsbD_ofNat, Nat.testBit_two_pow_sub_one] at h1
    simpa [c, show ¬ i < n by omega] using h1
  · exact Nat.testBit_lt_two_pow (Nat.lt_of_lt_of_le (show X < 2 ^ 64 by omega) (Nat.pow_le_pow_right (by omega) (by omega)))
theorem bit_lt {X d n : Nat} (h : X < 2 ^ n) (hb : X / 2 ^ d % 2 = 1) : d < n := by
  rcases Nat.lt_or_ge d n with c | c
  · exact c
  · rw [Nat.div_eq_of_lt (Nat.lt_of_lt_of_le h (Nat.pow_le_pow_right (by omega) c))] at hb
    omega
theorem hs_lt {X Y d b : Nat} (hX : X < 18446744073709551616) (hY : Y < 18446744073709551616) (hb : b ≤ 128) (h1 : bits .andNot .u64 (X : Int) (bl b).1 = 0) (h2 : bits .andNot .u64 (Y : Int) (bl b).2 = 0) (hd : d < 128) (h : hsB X Y d = true) : d < b := by
  rw [bl_at 128 blAll_ok b hb] at h1 h2
  dsimp only at h1 h2
  unfold hsB at h
  unfold blN at h1 h2
  by_cases c : b ≤ 64
  · rw [if_pos c] at h1 h2
    by_cases e : d < 64
    · rw [if_pos e, beq_iff_eq] at h
      exact bit_lt (andNot_lt hX c h1) h
    · rw [if_neg e, beq_iff_eq] at h
      have := andNot_lt (n := 0) hY (by omega) h2
      have := bit_lt this h
      omega
  · rw [if_neg c] at h1 h2
    by_cases e : d < 64
    · omega
    · rw [if_neg e, beq_iff_eq] at h
      have := bit_lt (andNot_lt hY (by omega) h2) h
      omega
/-- the least digits of a photo -/
def lsD (xs : List Int) (p : Nat → Int) : Nat → Int := fun i => if i < xs.length then frB (p (2 * i)).toNat (p (2 * i + 1)).toNat 0 else 0
theorem lsD_in {xs : List Int} {p : Nat → Int} (hp : u16 p) (h : okP xs p = true) (hb : b8 xs) {i : Nat} (hi : i < xs.length) (hl : xs.length ≤ 8) (hs : ∀ i : Nat, i < xs.length → el xs i ≤ 128) :
    ∃ k : Nat, frB (p (2 * i)).toNat (p (2 * i + 1)).toNat 0 = (k : Int) ∧ (k : Int) < el xs i ∧ k < 128 ∧ hsB (p (2 * i)).toNat (p (2 * i + 1)).toNat k = true := by
  unfold okP at h
  rw [Bool.and_eq_true] at h
  have hq := phTo_all h.2 i (by omega)
  unfold phAt at hq
  rw [if_pos hi] at hq
  simp only [Bool.and_eq_true, Bool.not_eq_true', beq_iff_eq] at hq
  obtain ⟨q0, q1, q2⟩ := hq
  have ⟨a0, a1⟩ := hp (2 * i)
  have ⟨c0, c1⟩ := hp (2 * i + 1)
  obtain ⟨X, hX⟩ : ∃ X : Nat, p (2 * i) = (X : Int) := ⟨(p (2 * i)).toNat, by omega⟩
  obtain ⟨Y, hY⟩ : ∃ Y : Nat, p (2 * i + 1) = (Y : Int) := ⟨(p (2 * i + 1)).toNat, by omega⟩
  rw [hX, hY] at q0
  rw [hX] at q1 a1
  rw [hY] at q2 c1
  rw [hX, hY, Int.toNat_natCast, Int.toNat_natCast]
  have hn : ¬ (X = 0 ∧ Y = 0) := fun ⟨e, f⟩ => by subst e; subst f; simp at q0
  obtain ⟨d, d1, d2⟩ := hs_ex (by omega) (by omega) hn
  obtain ⟨k, k1, k2, k3⟩ := fr_of d1 d2
  have hb' := hb (i : Int)
  have hs' := hs i hi
  have := hs_lt (b := (el xs i).toNat) (by omega) (by omega) (by omega) q1 q2 k2 k3
  exact ⟨k, k1, by omega, k2, k3⟩
theorem lsD_out {xs : List Int} {p : Nat → Int} {i : Nat} (h : ¬ i < xs.length) : lsD xs p i = 0 := by unfold lsD; rw [if_neg h]
theorem lsD_at {xs : List Int} {p : Nat → Int} {i : Nat} (h : i < xs.length) : lsD xs p i = frB (p (2 * i)).toNat (p (2 * i + 1)).toNat 0 := by unfold lsD; rw [if_pos h]
/-- what LeastIn returns -/
def liV (xs : List Int) (p : Nat → Int) : Int × Int := if okP xs p then (vl xs (lsD xs p), 0) else (0, 1)
theorem liV_0 {xs : List Int} {p : Nat → Int} (h : okP xs p = true) : liV xs p = (vl xs (lsD xs p), 0) := by unfold liV; rw [if_pos h]
theorem liV_1 {xs : List Int} {p : Nat → Int} (h : okP xs p = false) : liV xs p = (0, 1) := by unfold liV; rw [h]; rfl
end Go.Proofs.Ytbihgnmiocfelaa.X
