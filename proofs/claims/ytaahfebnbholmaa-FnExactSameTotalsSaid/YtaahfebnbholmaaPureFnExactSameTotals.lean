/- SameTotals of the program returns what the reference's returns, for all arguments: the statement over lists. Conditions: none. -/
import Derived.Test.YtaahfebnbholmaaPFnExactSameTotalsx
namespace Go.Proofs.Ytaahfebnbholmaa.Pure
open Go.RowKit Go.Proofs.Ytaahfebnbholmaa.PFnExactSameTotals Go.Proofs.YtaahfebnbholmaaW.PrintWords Go.Proofs.YtaahfebnbholmaaW.PrintLast
set_option linter.unusedVariables false
namespace FnExactSameTotals
theorem wrap_one {k : Int} (h0 : 0 ≤ k) (h : k ≤ 2000000) : wrap64 (k + 1) = k + 1 := by unfold wrap64; omega
theorem wrap_less {k : Int} (h0 : 0 ≤ k) (h : k ≤ 2000000) : wrap64 (k - 1) = k - 1 := by unfold wrap64; omega
/-- a row of the law's kind as one of the program's -/
def cv (x : S85) : S83 := ⟨x.f0, x.f1⟩
theorem sz_eq (xs : List S85) (left : Int) (h0 : 0 ≤ left) (h1 : left ≤ 1048576) (hx : xs.length ≤ 9223372036854775807) : laws_szTotalS.f xs left = some (if left < xs.length then -1 else left - xs.length) := by
  unfold laws_szTotalS.f
  have e : wrap64 (left - (xs.length : Int)) = left - xs.length := by unfold wrap64; omega
  rw [e]
  by_cases h : left < xs.length
  · rw [if_pos (by omega), if_pos h]
  · rw [if_neg (by omega), if_neg h]
theorem to_loop (xs : List S85) (hx : xs.length ≤ 1048576) (n : Nat) : ∀ (k : Nat) (acc : List S83) (i : Int), n < k → 0 ≤ i → (xs.length : Int) - i = n → acc.length = xs.length → (∀ j : Nat, (j : Int) < i → acc[j]? = (xs.map cv)[j]?) →
    laws_toTotalS.l0 k xs acc i = some (xs.map cv) := by
  induction n with
  | zero =>
    intro k acc i hk h0 he hl ha
    obtain ⟨k, rfl⟩ : ∃ m, k = m + 1 := ⟨k - 1, by omega⟩
    simp only [laws_toTotalS.l0]
    rw [if_neg (by omega)]
    congr 1
    apply List.ext_getElem?
    intro j
    by_cases hj : j < xs.length
    · exact ha j (by omega)
    · rw [List.getElem?_eq_none (by omega), List.getElem?_eq_none (by simp; omega)]
  | succ n ih =>
    intro k acc i hk h0 he hl ha
    obtain ⟨k, rfl⟩ : ∃ m, k = m + 1 := ⟨k - 1, by omega⟩
    simp only [laws_toTotalS.l0]
    rw [if_pos (by omega), if_pos h0]
    simp only [laws_toTotal.f, Option.bind_some]
    rw [if_pos (by omega), wrap_one h0 (by omega)]
    apply ih k _ (i + 1) (by omega) (by omega) (by omega) (by simpa using hl)
    intro j hj
    have hi : i.toNat < xs.length := by omega
    by_cases hji : (j : Int) = i
    · have e : i.toNat = j := by omega
      rw [e, List.getElem?_set_self (by omega)]
      have hjl : j < xs.length := by omega
      simp [rd_T85, List.getD_eq_getElem?_getD, hjl, cv, e]
    · rw [List.getElem?_set_ne (by omega)]
      exact ha j (by omega)
theorem to_eq (xs : List S85) (k : Nat) (hx : xs.length ≤ 1048576) (hk : xs.length < k) : laws_toTotalS.f k xs = some (xs.map cv) := by
  unfold laws_toTotalS.f
  rw [if_pos (by omega), if_pos (by omega)]
  exact to_loop xs hx xs.length k _ 0 hk (by omega) (by omega) (by simp) (fun j hj => by omega)
theorem eqT_loop (ys : List S83) (hx : ys.length ≤ 1048576) (n : Nat) : ∀ (k : Nat) (i : Int), n < k → 0 ≤ i → (ys.length : Int) - i = n → laws_eqTotalS.l0 k ys ys i = some true := by
  induction n with
  | zero =>
    intro k i hk h0 he
    obtain ⟨k, rfl⟩ : ∃ m, k = m + 1 := ⟨k - 1, by omega⟩
    simp only [laws_eqTotalS.l0]
    rw [if_neg (by omega)]
  | succ n ih =>
    intro k i hk h0 he
    obtain ⟨k, rfl⟩ : ∃ m, k = m + 1 := ⟨k - 1, by omega⟩
    simp only [laws_eqTotalS.l0]
    rw [if_pos (by omega), if_pos h0, if_pos (by omega)]
    simp only [laws_eqTotal.f, if_true, Option.bind_some]
    rw [wrap_one h0 (by omega)]
    exact ih k (i + 1) (by omega) (by omega) (by omega)
theorem eqT_eq (ys : List S83) (k : Nat) (hx : ys.length ≤ 1048576) (hk : ys.length < k) : laws_eqTotalS.f k ys ys = some true := by
  unfold laws_eqTotalS.f
  rw [if_pos rfl]
  exact eqT_loop ys hx ys.length k 0 hk (by omega) (by omega)
open Classical in
theorem spec_loop (xs ys : List S83) (hx : xs.length ≤ 1048576) (hy : ys.length = xs.length) (n : Nat) : ∀ (k : Nat) (i : Int), n < k → 0 ≤ i → (xs.length : Int) - i = n →
    spec_SameTotals.l0 k xs ys i = some (decide (∀ j : Int, i ≤ j → j < xs.length → (rd_T83 xs j).f0 = (rd_T83 ys j).f0 ∧ (rd_T83 xs j).f1 = (rd_T83 ys j).f1)) ∧
    impl_Total.l0 k xs ys xs.length i = some (decide (∀ j : Int, i ≤ j → j < xs.length → (rd_T83 xs j).f0 = (rd_T83 ys j).f0 ∧ (rd_T83 xs j).f1 = (rd_T83 ys j).f1)) := by
  induction n with
  | zero =>
    intro k i hk h0 he
    obtain ⟨k, rfl⟩ : ∃ m, k = m + 1 := ⟨k - 1, by omega⟩
    simp only [spec_SameTotals.l0, impl_Total.l0]
    constructor <;> rw [if_neg (by omega), decide_eq_true (fun j h1 h2 => by omega)]
  | succ n ih =>
    intro k i hk h0 he
    obtain ⟨k, rfl⟩ : ∃ m, k = m + 1 := ⟨k - 1, by omega⟩
    obtain ⟨i1, i2⟩ := ih k (i + 1) (by omega) (by omega) (by omega)
    have hw := wrap_one h0 (by omega)
    simp only [spec_SameTotals.l0, impl_Total.l0]
    have p1 : i < (xs.length : Int) := by omega
    have p2 : i < (ys.length : Int) := by omega
    simp only [p1, h0, p2, if_true]
    by_cases c : (rd_T83 xs i).f0 = (rd_T83 ys i).f0 ∧ (rd_T83 xs i).f1 = (rd_T83 ys i).f1
    · have e : decide (∀ j : Int, i ≤ j → j < xs.length → (rd_T83 xs j).f0 = (rd_T83 ys j).f0 ∧ (rd_T83 xs j).f1 = (rd_T83 ys j).f1) = decide (∀ j : Int, i + 1 ≤ j → j < xs.length → (rd_T83 xs j).f0 = (rd_T83 ys j).f0 ∧ (rd_T83 xs j).f1 = (rd_T83 ys j).f1) := by
        congr 1
        refine propext ⟨fun H j h1 h2 => H j (by omega) h2, fun H j h1 h2 => ?_⟩
        by_cases e : j = i
        · rw [e]; exact c
        · exact H j (by omega) h2
      have hn : (!((rd_T83 xs i).f0 == (rd_T83 ys i).f0) || !((rd_T83 xs i).f1 == (rd_T83 ys i).f1)) = false := by simp [c.1, c.2]
      simp only [hn, e, hw, i1, i2, Bool.false_eq_true, if_false, and_self]
    · have hn : (!((rd_T83 xs i).f0 == (rd_T83 ys i).f0) || !((rd_T83 xs i).f1 == (rd_T83 ys i).f1)) = true := by
        rw [Bool.or_eq_true]
        by_cases c0 : (rd_T83 xs i).f0 = (rd_T83 ys i).f0
        · right; simpa using fun h => c ⟨c0, h⟩
        · left; simpa using c0
      rw [decide_eq_false (fun H => c (H i (by omega) (by omega)))]
      simp only [hn, if_true, and_self]
theorem same (xs ys : List S83) (k : Nat) (hx : xs.length ≤ 1048576) (hk : xs.length < k) : ∃ b, spec_SameTotals.f k xs ys = some b ∧ impl_SameTotals.f k xs ys = some b := by
  unfold spec_SameTotals.f impl_SameTotals.f impl_Total.f
  by_cases h : (xs.length : Int) = ys.length
  · obtain ⟨h1, h2⟩ := spec_loop xs ys hx (by omega) xs.length k 0 hk (by omega) (by omega)
    rw [if_pos h, if_pos h, h1, h2]
    exact ⟨_, rfl, rfl⟩
  · rw [if_neg h, if_neg h]
    exact ⟨_, rfl, rfl⟩
theorem holds (xs ys : List S85) (hx : xs.length ≤ 9223372036854775807) (hy : ys.length ≤ 9223372036854775807) : ∃ k, laws_FnExactSameTotals.f k xs ys = some true := by
  refine ⟨2000000, ?_⟩
  unfold laws_FnExactSameTotals.f
  rw [sz_eq xs _ (by omega) (by omega) hx]
  simp only [Option.bind_some]
  by_cases h : (1048576 : Int) < xs.length
  · rw [if_pos h]; simp
  · rw [if_neg h, if_neg (by omega), sz_eq ys _ (by omega) (by omega) hy]
    simp only [Option.bind_some]
    by_cases h2 : (1048576 : Int) - xs.length < ys.length
    · rw [if_pos h2]; simp
    · rw [if_neg h2, if_neg (by omega), to_eq xs _ (by omega) (by omega), to_eq ys _ (by omega) (by omega)]
      obtain ⟨b, h1, h2⟩ := same (xs.map cv) (ys.map cv) 2000000 (by simp; omega) (by simp; omega)
      simp only [Option.bind_some]
      rw [h1, h2]
      simp only [Option.bind_some, bne_self_eq_false, Bool.false_eq_true, if_false]
      rw [eqT_eq _ _ (by simp; omega) (by simp; omega), eqT_eq _ _ (by simp; omega) (by simp; omega)]
      simp
end FnExactSameTotals
end Go.Proofs.Ytaahfebnbholmaa.Pure
