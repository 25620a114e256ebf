/- SharesOf of the program returns what the reference's returns, for all arguments: the statement over numbers and lists. Conditions: none. -/
import Derived.Test.YtaahfebnbholmaaPFnExactSharesOfx2
namespace Go.Proofs.Ytaahfebnbholmaa.Pure
open Go.RowKit Go.Proofs.Ytaahfebnbholmaa.PFnExactSharesOf Go.Proofs.YtaahfebnbholmaaW.PrintWords Go.Proofs.YtaahfebnbholmaaW.PrintLast
set_option linter.unusedVariables false
namespace SharesOf
theorem within_eq (a b c : Int) : impl_within.f a b c = some (decide (b ≤ a ∧ a ≤ c)) := by
  unfold impl_within.f
  by_cases h : b ≤ a
  · rw [if_pos h]; simp [h]
  · rw [if_neg h]; simp [h]
theorem in_eq (a b c : Int) : spec_l00In.f a b c = some (decide (b ≤ a ∧ a ≤ c)) := by
  unfold spec_l00In.f
  by_cases h : b ≤ a
  · rw [if_pos h]; simp [h]
  · rw [if_neg h]; simp [h]
/-- one share -/
def sh (c d k : Int) : Int := wrap64 ((wrap64 (Int.tdiv (wrap64 (c * (wrap64 (k + 1)))) d)) - (wrap64 (Int.tdiv (wrap64 (c * k)) d)))
/-- n shares more, from k on -/
def shs (c d : Int) : Nat → Int → List Int
  | 0, _ => []
  | n + 1, k => sh c d k :: shs c d n (k + 1)
theorem shs_len (c d : Int) : ∀ n k, (shs c d n k).length = n
  | 0, _ => rfl
  | n + 1, k => by simp [shs, shs_len c d n]
theorem wrap_one {k : Int} (h0 : 0 ≤ k) (h : k ≤ 100000) : wrap64 (k + 1) = k + 1 := by unfold wrap64; omega
theorem spec_loop (c d : Int) (hd : d ≤ 400) (n : Nat) : ∀ (k : Nat) (i : Int) (acc : List Int), n < k → 0 ≤ i → d - i = n → acc.length ≤ 1000 - n → spec_SharesOf.l0 k c d acc i = some (acc ++ shs c d n i, 0) := by
  induction n with
  | zero =>
    intro k i acc hk h0 he ha
    obtain ⟨k, rfl⟩ : ∃ m, k = m + 1 := ⟨k - 1, by omega⟩
    simp only [spec_SharesOf.l0]
    rw [if_neg (by omega)]
    simp [shs]
  | succ n ih =>
    intro k i acc hk h0 he ha
    obtain ⟨k, rfl⟩ : ∃ m, k = m + 1 := ⟨k - 1, by omega⟩
    simp only [spec_SharesOf.l0]
    rw [if_pos (by omega), if_neg (by omega), if_pos (by omega)]
    have e : acc ++ shs c d (n + 1) i = (acc ++ [sh c d i]) ++ shs c d n (i + 1) := by simp [shs]
    rw [e, ← ih k (i + 1) (acc ++ [sh c d i]) (by omega) (by omega) (by omega) (by simp; omega)]
    unfold sh
    rw [wrap_one h0 (by omega)]
theorem impl_loop (c d : Int) (hd : d ≤ 400) (n : Nat) : ∀ (k : Nat) (i : Int) (acc : List Int), n < k → 0 ≤ i → d - i = n → acc.length ≤ 1000 - n → impl_SharesOf.l0 k c d acc d i = some (acc ++ shs c d n i, 0) := by
  induction n with
  | zero =>
    intro k i acc hk h0 he ha
    obtain ⟨k, rfl⟩ : ∃ m, k = m + 1 := ⟨k - 1, by omega⟩
    simp only [impl_SharesOf.l0]
    rw [if_neg (by omega)]
    simp [shs]
  | succ n ih =>
    intro k i acc hk h0 he ha
    obtain ⟨k, rfl⟩ : ∃ m, k = m + 1 := ⟨k - 1, by omega⟩
    simp only [impl_SharesOf.l0]
    rw [if_pos (by omega), if_neg (by omega), if_pos (by omega)]
    have e : acc ++ shs c d (n + 1) i = (acc ++ [sh c d i]) ++ shs c d n (i + 1) := by simp [shs]
    rw [e, ← ih k (i + 1) (acc ++ [sh c d i]) (by omega) (by omega) (by omega) (by simp; omega)]
    unfold sh
    rw [wrap_one h0 (by omega)]
/-- what both return -/
def out (c d : Int) : List Int × Int := if (0 ≤ c ∧ c ≤ 1000000000000) ∧ (1 ≤ d ∧ d ≤ 400) then (shs c d d.toNat 0, 0) else ([], 2)
theorem out_len (c d : Int) : (out c d).1.length ≤ 400 := by
  unfold out
  split
  · simp only [shs_len]; omega
  · simp
theorem spec_eq (c d : Int) (k : Nat) (hk : 500 < k) : spec_SharesOf.f k c d = some (out c d) := by
  obtain ⟨k, rfl⟩ : ∃ m, k = m + 1 := ⟨k - 1, by omega⟩
  unfold spec_SharesOf.f spec_l06Positive.f
  simp only [in_eq, Option.bind_some]
  by_cases h1 : 0 ≤ c ∧ c ≤ 1000000000000
  · simp only [h1, decide_true, if_true, and_self]
    by_cases h2 : 1 ≤ d ∧ d ≤ 400
    · simp only [h2, decide_true, Bool.not_true, spec_SharesOf.j0, Bool.false_eq_true, if_false, and_self]
      rw [spec_loop c d h2.2 d.toNat k 0 [] (by omega) (by omega) (by omega) (by simp)]
      simp [out, h1, h2]
    · simp [h2, spec_SharesOf.j0, out]
  · simp [h1, spec_SharesOf.j0, out]
theorem impl_eq (c d : Int) (k : Nat) (hk : 500 < k) : impl_SharesOf.f k c d = some (out c d) := by
  obtain ⟨k, rfl⟩ : ∃ m, k = m + 1 := ⟨k - 1, by omega⟩
  unfold impl_SharesOf.f
  simp only [within_eq, Option.bind_some]
  by_cases h1 : 0 ≤ c ∧ c ≤ 1000000000000
  · simp only [h1, decide_true, if_true, and_self]
    by_cases h2 : 1 ≤ d ∧ d ≤ 400
    · simp only [h2, decide_true, Bool.not_true, impl_SharesOf.j0, Bool.false_eq_true, if_false, and_self]
      rw [impl_loop c d h2.2 d.toNat k 0 [] (by omega) (by omega) (by omega) (by simp)]
      simp [out, h1, h2]
    · simp [h2, impl_SharesOf.j0, out]
  · simp [h1, impl_SharesOf.j0, out]
theorem eq_loop (xs : List Int) (hx : xs.length ≤ 100000) (n : Nat) : ∀ (k : Nat) (i : Int), n < k → 0 ≤ i → (xs.length : Int) - i = n → laws_eqInt64S.l0 k xs xs i = some true := by
  induction n with
  | zero =>
    intro k i hk h0 he
    obtain ⟨k, rfl⟩ : ∃ m, k = m + 1 := ⟨k - 1, by omega⟩
    simp only [laws_eqInt64S.l0]
    rw [if_neg (by omega)]
  | succ n ih =>
    intro k i hk h0 he
    obtain ⟨k, rfl⟩ : ∃ m, k = m + 1 := ⟨k - 1, by omega⟩
    simp only [laws_eqInt64S.l0]
    rw [if_pos (by omega), if_pos (by omega), if_pos (by omega), if_pos trivial, wrap_one h0 (by omega)]
    exact ih k (i + 1) (by omega) (by omega) (by omega)
theorem eq_eq (xs : List Int) (k : Nat) (hx : xs.length ≤ 100000) (hk : xs.length < k) : laws_eqInt64S.f k xs xs = some true := by
  unfold laws_eqInt64S.f
  rw [if_pos rfl]
  exact eq_loop xs hx xs.length k 0 hk (by omega) (by omega)
/-- what mark leaves: a, a + 1, .. from place j on -/
theorem mark_loop (n : Nat) : ∀ (k : Nat) (xs : List Int) (a i : Int), n < k → 0 ≤ i → 0 ≤ a → a + n ≤ 100000 → xs.length ≤ 100000 → (xs.length : Int) - i = n →
    ∃ ys, laws_markInt64S.l0 k xs a i = some (a + n, ys) ∧ ys.length = xs.length ∧ (∀ j : Nat, (j : Int) < i → ys[j]? = xs[j]?) ∧ ∀ j : Nat, i ≤ (j : Int) → j < xs.length → ys[j]? = some (a + (j - i)) := by
  induction n with
  | zero =>
    intro k xs a i hk h0 ha hb hl he
    obtain ⟨k, rfl⟩ : ∃ m, k = m + 1 := ⟨k - 1, by omega⟩
    refine ⟨xs, ?_, rfl, fun _ _ => rfl, fun j hj hjl => by omega⟩
    simp only [laws_markInt64S.l0]
    rw [if_neg (by omega)]
    simp
  | succ n ih =>
    intro k xs a i hk h0 ha hb hl he
    obtain ⟨k, rfl⟩ : ∃ m, k = m + 1 := ⟨k - 1, by omega⟩
    obtain ⟨ys, h1, h2, h3, h4⟩ := ih k (xs.set i.toNat a) (a + 1) (i + 1) (by omega) (by omega) (by omega) (by omega) (by simpa using hl) (by simp; omega)
    refine ⟨ys, ?_, by simpa using h2, fun j hj => ?_, fun j hj hjl => ?_⟩
    · simp only [laws_markInt64S.l0]
      rw [if_pos (by omega), if_pos (by omega), wrap_one h0 (by omega), wrap_one ha (by omega), h1]
      congr 2
      omega
    · rw [h3 j (by omega), List.getElem?_set_ne (by omega)]
    · by_cases hji : (j : Int) = i
      · rw [h3 j (by omega)]
        have : i.toNat = j := by omega
        rw [this, List.getElem?_set_self hjl]
        congr 1; omega
      · rw [h4 j (by omega) (by simpa using hjl)]
        congr 1; omega
theorem held_loop (ys : List Int) (hl : ys.length ≤ 10000) (n : Nat) : ∀ (k : Nat) (a i : Int), n < k → 0 ≤ i → 0 ≤ a → a + n ≤ 100000 → (ys.length : Int) - i = n → (∀ j : Nat, i ≤ (j : Int) → j < ys.length → ys[j]? = some (a + (j - i))) →
    laws_heldInt64S.l0 k ys a i = some (a + n) := by
  induction n with
  | zero =>
    intro k a i hk h0 ha hb he hy
    obtain ⟨k, rfl⟩ : ∃ m, k = m + 1 := ⟨k - 1, by omega⟩
    simp only [laws_heldInt64S.l0]
    rw [if_neg (by omega)]
    simp
  | succ n ih =>
    intro k a i hk h0 ha hb he hy
    obtain ⟨k, rfl⟩ : ∃ m, k = m + 1 := ⟨k - 1, by omega⟩
    have hr : rd ys i = a := by
      have := hy i.toNat (by omega) (by omega)
      unfold rd
      rw [List.getD_eq_getElem?_getD, this]
      simp; omega
    simp only [laws_heldInt64S.l0]
    rw [if_pos (by omega), if_pos (by omega), if_pos hr, wrap_one h0 (by omega), wrap_one ha (by omega)]
    rw [ih k (a + 1) (i + 1) (by omega) (by omega) (by omega) (by omega) (by omega) (fun j hj hjl => by rw [hy j (by omega) hjl]; congr 1; omega)]
    congr 1; omega
end SharesOf
open SharesOf in
theorem FnExactSharesOf : laws_FnExactSharesOf.Pure := by
  intro c d _ _
  refine ⟨2000, ?_⟩
  have hlen := out_len c d
  unfold laws_FnExactSharesOf.f
  rw [spec_eq c d 2000 (by omega), impl_eq c d 2000 (by omega)]
  simp only [Option.bind_some]
  rw [eq_eq _ 2000 (by omega) (by omega)]
  simp only [Option.bind_some, if_true, bne_self_eq_false]
  simp only [laws_FnExactSharesOf.j0, Bool.false_eq_true, if_false]
  obtain ⟨ys, h1, h2, _, h4⟩ := mark_loop (out c d).1.length 1999 (out c d).1 1 0 (by omega) (by omega) (by omega) (by omega) (by omega) (by omega)
  have hm : laws_markInt64S.f 1999 (out c d).1 1 = some (1 + ((out c d).1.length : Int), ys) := h1
  have hh : ∀ k, 1000 < k → laws_heldInt64S.f k ys 1 = some (1 + ((out c d).1.length : Int)) := fun k hk =>
    held_loop ys (by omega) _ k 1 0 (by omega) (by omega) (by omega) (by omega) (by omega) (fun j hj hjl => h4 j hj (by omega))
  rw [hm]
  simp only [Option.bind_some]
  rw [hh 1999 (by omega)]
  simp only [Option.bind_some]
  rw [if_neg (by omega), if_pos trivial, impl_eq c d 1999 (by omega)]
  simp only [Option.bind_some]
  rw [eq_eq _ 1999 (by omega) (by omega)]
  simp only [Option.bind_some, if_true, bne_self_eq_false, laws_FnExactSharesOf.j1, Bool.false_eq_true, if_false]
  rw [hh 1998 (by omega)]
  simp only [Option.bind_some]
  rw [if_neg (by omega), if_pos trivial]
end Go.Proofs.Ytaahfebnbholmaa.Pure
