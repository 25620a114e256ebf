/- The least stack: the plain law. Conditions: none. -/
import Derived.Test.YtkphbagckbbalaaKDigits
namespace Go.Proofs.Ytkphbagckbbalaa.X
open Go.RowKit
set_option linter.unusedVariables false
set_option linter.unusedSimpArgs false
set_option maxRecDepth 100000
/-- w wheels: the last one has l digits, all others b -/
def lsL (b : Int) (w : Nat) (l : Int) : List Int := List.replicate (w - 1) b ++ [l]
theorem lsL_len (b : Int) {w : Nat} (hw : 1 ≤ w) (l : Int) : (lsL b w l).length = w := by unfold lsL; simp; omega
theorem lsL_lo (b : Int) {w : Nat} (l : Int) {k : Nat} (hk : k < w - 1) : el (lsL b w l) (k : Int) = b := by
  rw [el_at (by unfold lsL; simp; omega)]
  unfold lsL
  rw [List.getElem_append_left (by simpa using hk)]
  simp
theorem lsL_hi (b : Int) {w : Nat} (l : Int) : el (lsL b w l) ((w - 1 : Nat) : Int) = l := by
  rw [el_at (by unfold lsL; simp)]
  unfold lsL
  rw [List.getElem_append_right (by simp)]
  simp
theorem lsL_rep (b : Int) {w : Nat} (hw : 1 ≤ w) : lsL b w b = List.replicate w b := by
  unfold lsL
  obtain ⟨k, rfl⟩ : ∃ k, w = k + 1 := ⟨w - 1, by omega⟩
  rw [Nat.add_sub_cancel, List.replicate_succ']
def pwI (b : Int) : Nat → Int
  | 0 => 1
  | k + 1 => pwI b k * b
theorem pwI_pos {b : Int} (hb : 1 ≤ b) : ∀ k, 1 ≤ pwI b k
  | 0 => Int.le_refl _
  | k + 1 => by
    have ih := pwI_pos hb k
    have := Int.mul_le_mul ih hb (by omega) (by omega)
    show 1 ≤ pwI b k * b
    omega
theorem pwI_mono {b c : Int} (hb : 1 ≤ b) (h : b ≤ c) : ∀ k, pwI b k ≤ pwI c k
  | 0 => Int.le_refl _
  | k + 1 => Int.mul_le_mul (pwI_mono hb h k) h (by omega) (by have := pwI_pos (b := c) (by omega) k; omega)
theorem pwI_le {b : Int} (hb : 1 ≤ b) {j k : Nat} (h : j ≤ k) : pwI b j ≤ pwI b k := by
  obtain ⟨d, rfl⟩ := Nat.exists_eq_add_of_le h
  clear h
  induction d with
  | zero => exact Int.le_refl _
  | succ d ih =>
    have a := pwI_pos hb (j + d)
    have := Int.mul_le_mul_of_nonneg_left hb (show 0 ≤ pwI b (j + d) by omega)
    show pwI b j ≤ pwI b (j + d) * b
    omega
def pw2I : Nat → Int
  | 0 => 1
  | k + 1 => pw2I k * 2
theorem pwI_two {b : Int} (hb : 2 ≤ b) : ∀ k, pwI (b + 1) k ≤ pw2I k * pwI b k ∧ 1 ≤ pw2I k
  | 0 => by show (1 : Int) ≤ 1 * 1 ∧ (1 : Int) ≤ 1; omega
  | k + 1 => by
    obtain ⟨i1, i2⟩ := pwI_two hb k
    have p := pwI_pos (b := b) (by omega) k
    have q := pwI_pos (b := b + 1) (by omega) k
    have h1 := Int.mul_le_mul i1 (show b + 1 ≤ 2 * b by omega) (by omega) (Int.mul_nonneg (by omega) (by omega))
    refine ⟨?_, by show 1 ≤ pw2I k * 2; omega⟩
    show pwI (b + 1) k * (b + 1) ≤ pw2I k * 2 * (pwI b k * b)
    rw [show pw2I k * 2 * (pwI b k * b) = pw2I k * pwI b k * (2 * b) by ac_rfl]
    exact h1
theorem pw2I_bd {k : Nat} (h : k ≤ 8) : pw2I k ≤ 256 := by
  rcases (show k = 0 ∨ k = 1 ∨ k = 2 ∨ k = 3 ∨ k = 4 ∨ k = 5 ∨ k = 6 ∨ k = 7 ∨ k = 8 by omega) with rfl | rfl | rfl | rfl | rfl | rfl | rfl | rfl | rfl <;> decide
/-- the capped product of bases, without the cap -/
theorem sizeTo_min {xs : List Int} : ∀ {k : Nat}, (∀ j : Nat, j < k → 1 ≤ el xs j) → sizeTo xs k = min (pr xs k) 1000000000001 ∧ 1 ≤ pr xs k
  | 0, _ => by simp only [sizeTo, pr]; omega
  | k + 1, h => by
    obtain ⟨h1, h2⟩ := sizeTo_min (xs := xs) (k := k) (fun j hj => h j (by omega))
    have h3 := h k (by omega)
    have h4 := Int.mul_le_mul h2 h3 (by omega) (by omega)
    unfold sizeTo pr
    rw [h1]
    refine ⟨?_, by omega⟩
    rcases Int.lt_or_le 1000000000001 (pr xs k) with g | g
    · have e : min (pr xs k) 1000000000001 = 1000000000001 := by omega
      rw [e]
      have a1 := Int.mul_le_mul_of_nonneg_left h3 (show (0 : Int) ≤ pr xs k by omega)
      have a2 := Int.mul_le_mul_of_nonneg_left h3 (show (0 : Int) ≤ 1000000000001 by omega)
      omega
    · have e : min (pr xs k) 1000000000001 = pr xs k := by omega
      rw [e]
theorem pr_lsL (b : Int) {w : Nat} (l : Int) : ∀ {k : Nat}, k ≤ w - 1 → pr (lsL b w l) k = pwI b k
  | 0, _ => rfl
  | k + 1, h => by
    unfold pr pwI
    rw [pr_lsL b l (k := k) (by omega), lsL_lo b l (by omega)]
theorem pr_lsL_all (b : Int) {w : Nat} (hw : 1 ≤ w) (l : Int) : pr (lsL b w l) w = pwI b (w - 1) * l := by
  obtain ⟨k, rfl⟩ : ∃ k, w = k + 1 := ⟨w - 1, by omega⟩
  rw [Nat.add_sub_cancel]
  unfold pr
  rw [pr_lsL b l (k := k) (by omega)]
  have := lsL_hi b (w := k + 1) l
  rw [Nat.add_sub_cancel] at this
  rw [this]
theorem el_lsL {b l : Int} (hb : 1 ≤ b) (hl : 1 ≤ l) {w : Nat} (hw : 1 ≤ w) {j : Nat} (hj : j < w) : 1 ≤ el (lsL b w l) (j : Int) := by
  by_cases h : j < w - 1
  · rw [lsL_lo b l h]; exact hb
  · obtain rfl : j = w - 1 := by omega
    rw [lsL_hi]; exact hl
theorem size_lsL {b l : Int} (hb : 1 ≤ b) (hl : 1 ≤ l) {w : Nat} (hw : 1 ≤ w) : sizeTo (lsL b w l) w = min (pwI b (w - 1) * l) 1000000000001 := by
  rw [(sizeTo_min fun j hj => el_lsL hb hl hw hj).1, pr_lsL_all b hw]
theorem size_lsL_lo {b l : Int} (hb : 1 ≤ b) (hl : 1 ≤ l) {w : Nat} (hw : 1 ≤ w) : sizeTo (lsL b w l) (w - 1) = min (pwI b (w - 1)) 1000000000001 := by
  rw [(sizeTo_min fun j hj => el_lsL hb hl hw (show j < w by omega)).1, pr_lsL b l (Nat.le_refl _)]
theorem pwI_w (b : Int) {w : Nat} (hw : 1 ≤ w) : pwI b (w - 1) * b = pwI b w := by
  obtain ⟨k, rfl⟩ : ∃ k, w = k + 1 := ⟨w - 1, by omega⟩
  rfl
/-- the least base: b is 101 if there is none -/
structure LsB (s : Int) (w : Nat) (b : Int) : Prop where
  bd : 2 ≤ b ∧ b ≤ 101
  no : ∀ c, 2 ≤ c → c < b → pwI c w < s
  yes : b ≤ 100 → s ≤ pwI b w
theorem lsB_ex (s : Int) (w : Nat) : ∃ b, LsB s w b := by
  have key : ∀ n : Nat, n ≤ 99 → (∃ b, LsB s w b) ∨ ∀ c, 2 ≤ c → c < 2 + (n : Int) → pwI c w < s := by
    intro n
    induction n with
    | zero => intro _; right; intro c a b; omega
    | succ n ih =>
      intro hn
      rcases ih (by omega) with h | h
      · exact .inl h
      · by_cases c : pwI (2 + (n : Int)) w < s
        · right
          intro d d1 d2
          by_cases e : d = 2 + (n : Int)
          · rw [e]; exact c
          · exact h d d1 (by omega)
        · left
          exact ⟨2 + (n : Int), by omega, h, fun _ => by omega⟩
  rcases key 99 (Nat.le_refl _) with h | h
  · exact h
  · exact ⟨101, by omega, fun c a b => h c a (by omega), fun h => absurd h (by decide)⟩
/-- the least last base -/
structure LsT (s : Int) (w : Nat) (b l : Int) : Prop where
  ld : 2 ≤ l ∧ l ≤ b
  yes : s ≤ pwI b (w - 1) * l
  no : ∀ c, 2 ≤ c → c < l → pwI b (w - 1) * c < s
theorem lsT_ex {s : Int} {w : Nat} {b : Int} (hw : 1 ≤ w) (h : LsB s w b) (hb : b ≤ 100) : ∃ l, LsT s w b l := by
  have key : ∀ n : Nat, (n : Int) ≤ b - 1 → (∃ l, LsT s w b l) ∨ ∀ c, 2 ≤ c → c < 2 + (n : Int) → pwI b (w - 1) * c < s := by
    intro n
    induction n with
    | zero => intro _; right; intro c a b; omega
    | succ n ih =>
      intro hn
      rcases ih (by omega) with h | h
      · exact .inl h
      · by_cases c : pwI b (w - 1) * (2 + (n : Int)) < s
        · right
          intro d d1 d2
          by_cases e : d = 2 + (n : Int)
          · rw [e]; exact c
          · exact h d d1 (by omega)
        · left
          exact ⟨2 + (n : Int), by omega, by omega, h⟩
  have hb2 := h.bd
  rcases key (b - 1).toNat (by omega) with g | g
  · exact g
  · have := g b hb2.1 (by omega)
    rw [pwI_w b hw] at this
    have := h.yes hb
    omega
theorem lsB_bd {s : Int} {w : Nat} {b : Int} (hw : 1 ≤ w ∧ w ≤ 8) (hs : 1 ≤ s ∧ s ≤ 65536) (h : LsB s w b) {c : Int} (hc : 2 ≤ c ∧ c ≤ b) : 1 ≤ pwI c w ∧ pwI c w ≤ 16777216 ∧ pwI c (w - 1) ≤ 16777216 := by
  have p := pwI_pos (b := c) (by omega) w
  have l := pwI_le (b := c) (by omega) (show w - 1 ≤ w by omega)
  have key : pwI c w ≤ 16777216 := by
    have m := pwI_mono (b := c) (c := b) (by omega) hc.2 w
    by_cases e : b = 2
    · have q := pw2I_bd hw.2
      have : ∀ k, pwI 2 k = pw2I k := fun k => by
        induction k with
        | zero => rfl
        | succ k ih => unfold pwI pw2I; rw [ih]
      rw [e, this] at m
      omega
    · have h1 := h.no (b - 1) (by have := h.bd; omega) (by omega)
      have h2 := pwI_two (b := b - 1) (by have := h.bd; omega) w
      rw [show b - 1 + 1 = b by omega] at h2
      have q := pw2I_bd hw.2
      have p1 := pwI_pos (b := b - 1) (by have := h.bd; omega) w
      have h3 := Int.mul_le_mul q (show pwI (b - 1) w ≤ 65536 by omega) (by omega) (by omega)
      omega
  omega
/-- the stack is valid -/
theorem ls_ok {s : Int} {w : Nat} {b l : Int} (hw : 1 ≤ w ∧ w ≤ 8) (hs : 1 ≤ s ∧ s ≤ 65536) (h : LsB s w b) (hb : b ≤ 100) (hl : 2 ≤ l ∧ l ≤ b) : okS (lsL b w l) = true ∧ sizeTo (lsL b w l) w = pwI b (w - 1) * l ∧ 1 ≤ pwI b (w - 1) * l ∧ pwI b (w - 1) * l ≤ 16777216 := by
  have hb2 := h.bd
  have bd := lsB_bd hw hs h (c := b) ⟨hb2.1, Int.le_refl _⟩
  have p := pwI_pos (b := b) (by omega) (w - 1)
  have m1 := Int.mul_le_mul_of_nonneg_left hl.2 (show 0 ≤ pwI b (w - 1) by omega)
  have m2 := Int.mul_le_mul p (show 1 ≤ l by omega) (by omega) (by omega)
  rw [pwI_w b hw.1] at m1
  have sz := size_lsL (b := b) (l := l) (by omega) (by omega) hw.1
  have e : sizeTo (lsL b w l) w = pwI b (w - 1) * l := by omega
  refine ⟨?_, e, by omega, by omega⟩
  unfold okS
  rw [lsL_len b hw.1, e]
  rw [Bool.and_eq_true, Bool.and_eq_true]
  refine ⟨⟨inR_t.2 ⟨by omega, by omega⟩, allTo_iff.2 fun j hj => ?_⟩, decide_eq_true (by omega)⟩
  by_cases c : j < w - 1
  · rw [lsL_lo b l c]; omega
  · obtain rfl : j = w - 1 := by omega
    rw [lsL_hi]; omega
theorem b8_lsL {b l : Int} (hb : 0 ≤ b ∧ b ≤ 255) (hl : 0 ≤ l ∧ l ≤ 255) (w : Nat) : b8 (lsL b w l) := by
  intro i
  unfold el
  rcases Nat.lt_or_ge i.toNat (lsL b w l).length with h | h
  · rw [List.getD_eq_getElem?_getD, List.getElem?_eq_getElem h]
    have : (lsL b w l)[i.toNat] ∈ lsL b w l := List.getElem_mem h
    simp only [Option.getD_some]
    have hm : ∀ x ∈ lsL b w l, x = b ∨ x = l := by
      intro x hx
      unfold lsL at hx
      rw [List.mem_append] at hx
      rcases hx with hx | hx
      · exact .inl (List.mem_replicate.1 hx).2
      · right; simpa using hx
    rcases hm _ this with e | e <;> (rw [e]; assumption)
  · rw [List.getD_eq_getElem?_getD, List.getElem?_eq_none h]
    simp
end Go.Proofs.Ytkphbagckbbalaa.X
