/- ValidTotals of the program returns what the reference's returns, for all arguments: the statement over lists. Conditions: none. -/
import Derived.Test.YtaahfebnbholmaaPFnExactValidTotalsx
namespace Go.Proofs.Ytaahfebnbholmaa.Pure
open Go.RowKit Go.Proofs.Ytaahfebnbholmaa.PFnExactValidTotals Go.Proofs.YtaahfebnbholmaaW.PrintWords Go.Proofs.YtaahfebnbholmaaW.PrintLast
set_option linter.unusedVariables false
namespace FnExactValidTotals
theorem wrap_one {k : Int} (h0 : 0 ≤ k) (h : k ≤ 2000000) : wrap64 (k + 1) = k + 1 := by unfold wrap64; omega
theorem wrap_less {k : Int} (h0 : 0 ≤ k) (h : k ≤ 2000000) : wrap64 (k - 1) = k - 1 := by unfold wrap64; omega
/-- a row of the law's kind as one of the program's -/
def cv (x : S85) : S83 := ⟨x.f0, x.f1⟩
theorem sz_eq (xs : List S85) (left : Int) (h0 : 0 ≤ left) (h1 : left ≤ 1048576) (hx : xs.length ≤ 9223372036854775807) : laws_szTotalS.f xs left = some (if left < xs.length then -1 else left - xs.length) := by
  unfold laws_szTotalS.f
  have e : wrap64 (left - (xs.length : Int)) = left - xs.length := by unfold wrap64; omega
  rw [e]
  by_cases h : left < xs.length
  · rw [if_pos (by omega), if_pos h]
  · rw [if_neg (by omega), if_neg h]
theorem to_loop (xs : List S85) (hx : xs.length ≤ 1048576) (n : Nat) : ∀ (k : Nat) (acc : List S83) (i : Int), n < k → 0 ≤ i → (xs.length : Int) - i = n → acc.length = xs.length → (∀ j : Nat, (j : Int) < i → acc[j]? = (xs.map cv)[j]?) →
    laws_toTotalS.l0 k xs acc i = some (xs.map cv) := by
  induction n with
  | zero =>
    intro k acc i hk h0 he hl ha
    obtain ⟨k, rfl⟩ : ∃ m, k = m + 1 := ⟨k - 1, by omega⟩
    simp only [laws_toTotalS.l0]
    rw [if_neg (by omega)]
    congr 1
    apply List.ext_getElem?
    intro j
    by_cases hj : j < xs.length
    · exact ha j (by omega)
    · rw [List.getElem?_eq_none (by omega), List.getElem?_eq_none (by simp; omega)]
  | succ n ih =>
    intro k acc i hk h0 he hl ha
    obtain ⟨k, rfl⟩ : ∃ m, k = m + 1 := ⟨k - 1, by omega⟩
    simp only [laws_toTotalS.l0]
    rw [if_pos (by omega), if_pos h0]
    simp only [laws_toTotal.f, Option.bind_some]
    rw [if_pos (by omega), wrap_one h0 (by omega)]
    apply ih k _ (i + 1) (by omega) (by omega) (by omega) (by simpa using hl)
    intro j hj
    have hi : i.toNat < xs.length := by omega
    by_cases hji : (j : Int) = i
    · have e : i.toNat = j := by omega
      rw [e, List.getElem?_set_self (by omega)]
      have hjl : j < xs.length := by omega
      simp [rd_T85, List.getD_eq_getElem?_getD, hjl, cv, e]
    · rw [List.getElem?_set_ne (by omega)]
      exact ha j (by omega)
theorem to_eq (xs : List S85) (k : Nat) (hx : xs.length ≤ 1048576) (hk : xs.length < k) : laws_toTotalS.f k xs = some (xs.map cv) := by
  unfold laws_toTotalS.f
  rw [if_pos (by omega), if_pos (by omega)]
  exact to_loop xs hx xs.length k _ 0 hk (by omega) (by omega) (by simp) (fun j hj => by omega)
theorem eqT_loop (ys : List S83) (hx : ys.length ≤ 1048576) (n : Nat) : ∀ (k : Nat) (i : Int), n < k → 0 ≤ i → (ys.length : Int) - i = n → laws_eqTotalS.l0 k ys ys i = some true := by
  induction n with
  | zero =>
    intro k i hk h0 he
    obtain ⟨k, rfl⟩ : ∃ m, k = m + 1 := ⟨k - 1, by omega⟩
    simp only [laws_eqTotalS.l0]
    rw [if_neg (by omega)]
  | succ n ih =>
    intro k i hk h0 he
    obtain ⟨k, rfl⟩ : ∃ m, k = m + 1 := ⟨k - 1, by omega⟩
    simp only [laws_eqTotalS.l0]
    rw [if_pos (by omega), if_pos h0, if_pos (by omega)]
    simp only [laws_eqTotal.f, if_true, Option.bind_some]
    rw [wrap_one h0 (by omega)]
    exact ih k (i + 1) (by omega) (by omega) (by omega)
theorem eqT_eq (ys : List S83) (k : Nat) (hx : ys.length ≤ 1048576) (hk : ys.length < k) : laws_eqTotalS.f k ys ys = some true := by
  unfold laws_eqTotalS.f
  rw [if_pos rfl]
  exact eqT_loop ys hx ys.length k 0 hk (by omega) (by omega)
theorem within_eq (a b c : Int) : impl_within.f a b c = some (decide (b ≤ a ∧ a ≤ c)) := by
  unfold impl_within.f
  by_cases h : b ≤ a
  · rw [if_pos h]; simp [h]
  · rw [if_neg h]; simp [h]
theorem in_eq (a b c : Int) : spec_l00In.f a b c = some (decide (b ≤ a ∧ a ≤ c)) := by
  unfold spec_l00In.f
  by_cases h : b ≤ a
  · rw [if_pos h]; simp [h]
  · rw [if_neg h]; simp [h]
theorem pos_eq (a : Int) : spec_l06Positive.f a = some (decide (0 ≤ a ∧ a ≤ 1000000000000)) := by
  unfold spec_l06Positive.f
  rw [in_eq]; rfl
/-- element i is right, behind the one before -/
def okAt (xs : List S83) (i : Int) : Prop := (0 ≤ (rd_T83 xs i).f0 ∧ (rd_T83 xs i).f0 ≤ 100000) ∧ (0 ≤ (rd_T83 xs i).f1 ∧ (rd_T83 xs i).f1 ≤ 1000000000000) ∧ (0 < i → (rd_T83 xs (i - 1)).f0 < (rd_T83 xs i).f0 ∧ (rd_T83 xs (i - 1)).f1 ≤ (rd_T83 xs i).f1)
/-- totals that are valid -/
def vt (xs : List S83) : Prop := xs.length ≤ 60 ∧ ∀ j : Int, 0 ≤ j → j < xs.length → okAt xs j
open Classical in
theorem spec_valid_loop (xs : List S83) (hx : xs.length ≤ 60) (n : Nat) : ∀ (k : Nat) (i : Int), 2 * n < k → 0 ≤ i → (xs.length : Int) - i = n →
    spec_l06Totals.l0 k xs i = some (decide (∀ j : Int, i ≤ j → j < xs.length → okAt xs j)) := by
  induction n with
  | zero =>
    intro k i hk h0 he
    obtain ⟨k, rfl⟩ : ∃ m, k = m + 1 := ⟨k - 1, by omega⟩
    simp only [spec_l06Totals.l0]
    rw [if_neg (by omega), decide_eq_true (fun j h1 h2 => by omega)]
  | succ n ih =>
    intro k i hk h0 he
    obtain ⟨k, rfl⟩ : ∃ m, k = m + 2 := ⟨k - 2, by omega⟩
    have hi := ih k (i + 1) (by omega) (by omega) (by omega)
    have hw := wrap_one h0 (by omega)
    have hw1 := wrap_less h0 (by omega)
    have hno : ¬ okAt xs i → decide (∀ j : Int, i ≤ j → j < xs.length → okAt xs j) = false := fun h => decide_eq_false (fun H => h (H i (by omega) (by omega)))
    have hyes : okAt xs i → decide (∀ j : Int, i ≤ j → j < xs.length → okAt xs j) = decide (∀ j : Int, i + 1 ≤ j → j < xs.length → okAt xs j) := fun h => by
      congr 1
      refine propext ⟨fun H j h1 h2 => H j (by omega) h2, fun H j h1 h2 => ?_⟩
      by_cases e : j = i
      · rw [e]; exact h
      · exact H j (by omega) h2
    simp only [spec_l06Totals.l0, in_eq, pos_eq, Option.bind_some]
    rw [if_pos (by omega), if_pos h0]
    by_cases c1 : 0 ≤ (rd_T83 xs i).f0 ∧ (rd_T83 xs i).f0 ≤ 100000
    · rw [if_pos (by simpa using c1)]
      by_cases c2 : 0 ≤ (rd_T83 xs i).f1 ∧ (rd_T83 xs i).f1 ≤ 1000000000000
      · rw [decide_eq_true c2]
        simp only [spec_l06Totals.j1, Bool.not_true, Bool.false_eq_true, if_false]
        by_cases c3 : i > 0
        · rw [if_pos c3, if_pos h0, if_pos (by omega), hw1, if_pos (by omega), if_pos (by omega)]
          by_cases c4 : (rd_T83 xs i).f0 ≤ (rd_T83 xs (i - 1)).f0
          · rw [if_pos c4, hno (fun h => by have := h.2.2 c3; omega)]
          · rw [if_neg c4]
            by_cases c5 : (rd_T83 xs i).f1 < (rd_T83 xs (i - 1)).f1
            · rw [if_pos c5, hno (fun h => by have := h.2.2 c3; omega)]
            · rw [if_neg c5, hw, hi, hyes ⟨c1, c2, fun _ => ⟨by omega, by omega⟩⟩]
        · rw [if_neg c3, hw, hi, hyes ⟨c1, c2, fun h => absurd h c3⟩]
      · rw [decide_eq_false c2]
        simp only [spec_l06Totals.j1, Bool.not_false, if_true]
        rw [hno (fun h => c2 h.2.1)]
    · rw [if_neg (by simpa using c1)]
      simp only [spec_l06Totals.j1, if_true]
      rw [hno (fun h => c1 h.1)]
open Classical in
theorem impl_valid_loop (xs : List S83) (hx : xs.length ≤ 60) (n : Nat) : ∀ (k : Nat) (i : Int), n < k → 0 ≤ i → (xs.length : Int) - i = n →
    impl_ValidTotals.l0 k xs xs xs.length i = some (decide (∀ j : Int, i ≤ j → j < xs.length → okAt xs j)) := by
  induction n with
  | zero =>
    intro k i hk h0 he
    obtain ⟨k, rfl⟩ : ∃ m, k = m + 1 := ⟨k - 1, by omega⟩
    simp only [impl_ValidTotals.l0]
    rw [if_neg (by omega), decide_eq_true (fun j h1 h2 => by omega)]
  | succ n ih =>
    intro k i hk h0 he
    obtain ⟨k, rfl⟩ : ∃ m, k = m + 1 := ⟨k - 1, by omega⟩
    have hi := ih k (i + 1) (by omega) (by omega) (by omega)
    have hw := wrap_one h0 (by omega)
    have hw1 := wrap_less h0 (by omega)
    have hno : ¬ okAt xs i → decide (∀ j : Int, i ≤ j → j < xs.length → okAt xs j) = false := fun h => decide_eq_false (fun H => h (H i (by omega) (by omega)))
    have hyes : okAt xs i → decide (∀ j : Int, i ≤ j → j < xs.length → okAt xs j) = decide (∀ j : Int, i + 1 ≤ j → j < xs.length → okAt xs j) := fun h => by
      congr 1
      refine propext ⟨fun H j h1 h2 => H j (by omega) h2, fun H j h1 h2 => ?_⟩
      by_cases e : j = i
      · rw [e]; exact h
      · exact H j (by omega) h2
    simp only [impl_ValidTotals.l0, within_eq, Option.bind_some]
    rw [if_pos (by omega), if_pos h0, if_pos (by omega)]
    by_cases c1 : 0 ≤ (rd_T83 xs i).f0 ∧ (rd_T83 xs i).f0 ≤ 100000
    · rw [if_pos (by simpa using c1)]
      by_cases c2 : 0 ≤ (rd_T83 xs i).f1 ∧ (rd_T83 xs i).f1 ≤ 1000000000000
      · rw [if_pos (by simpa using c2)]
        by_cases c3 : i > 0
        · rw [if_pos c3, hw1, if_pos (by omega), if_pos (by omega)]
          by_cases c4 : (rd_T83 xs (i - 1)).f0 ≥ (rd_T83 xs i).f0
          · rw [if_pos c4, hno (fun h => by have := h.2.2 c3; omega)]
          · rw [if_neg c4]
            by_cases c5 : (rd_T83 xs (i - 1)).f1 > (rd_T83 xs i).f1
            · rw [if_pos c5, hno (fun h => by have := h.2.2 c3; omega)]
            · rw [if_neg c5, hw, hi, hyes ⟨c1, c2, fun _ => ⟨by omega, by omega⟩⟩]
        · rw [if_neg c3, hw, hi, hyes ⟨c1, c2, fun h => absurd h c3⟩]
      · rw [if_neg (by simpa using c2), hno (fun h => c2 h.2.1)]
    · rw [if_neg (by simpa using c1), hno (fun h => c1 h.1)]
open Classical in
theorem spec_valid (xs : List S83) (k : Nat) (hk : 200 < k) : spec_l06Totals.f k xs = some (decide (vt xs)) := by
  unfold spec_l06Totals.f
  by_cases h : (xs.length : Int) > 60
  · rw [if_pos h, decide_eq_false (fun H => by have := H.1; omega)]
  · rw [if_neg h, spec_valid_loop xs (by omega) xs.length k 0 (by omega) (by omega) (by omega)]
    congr 1
    unfold vt
    simp only [show xs.length ≤ 60 from by omega, true_and]
open Classical in
theorem impl_valid (xs : List S83) (k : Nat) (hk : 200 < k) : impl_ValidTotals.f k xs = some (decide (vt xs)) := by
  unfold impl_ValidTotals.f
  by_cases h : (xs.length : Int) > 60
  · rw [if_pos h, decide_eq_false (fun H => by have := H.1; omega)]
  · rw [if_neg h, impl_valid_loop xs (by omega) xs.length k 0 (by omega) (by omega) (by omega)]
    congr 1
    unfold vt
    simp only [show xs.length ≤ 60 from by omega, true_and]
theorem holds (xs : List S85) (hx : xs.length ≤ 9223372036854775807) : ∃ k, laws_FnExactValidTotals.f k xs = some true := by
  refine ⟨2000000, ?_⟩
  unfold laws_FnExactValidTotals.f
  rw [sz_eq xs _ (by omega) (by omega) hx]
  simp only [Option.bind_some]
  by_cases h : (1048576 : Int) < xs.length
  · rw [if_pos h]; simp
  · rw [if_neg h, if_neg (by omega), to_eq xs _ (by omega) (by omega)]
    simp only [Option.bind_some, spec_ValidTotals.f]
    rw [spec_valid _ _ (by omega), impl_valid _ _ (by omega)]
    simp only [Option.bind_some, bne_self_eq_false, Bool.false_eq_true, if_false]
    rw [eqT_eq _ _ (by simp; omega) (by simp; omega)]
    simp
end FnExactValidTotals
end Go.Proofs.Ytaahfebnbholmaa.Pure
