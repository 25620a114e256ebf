/- What digits are worth. Conditions: none. -/
import Derived.Test.YtinjlofefmjolaaKBack
import Derived.Test.YtinjlofefmjolaaKNum
namespace Go.Proofs.Ytinjlofefmjolaa.X
open Go.RowKit Go.Shelf
set_option linter.unusedVariables false
set_option linter.unusedSimpArgs false
set_option maxRecDepth 100000
attribute [local go_sem] Oper.semAt_some
/-- what the digits f of the wheels from n - m on are worth -/
def vlR (xs : List Int) (f : Nat → Int) (n : Nat) : Nat → Int
  | 0 => 0
  | m + 1 => vlR xs f n m * el xs ((n - (m + 1) : Nat) : Int) + f (n - (m + 1))
/-- what digits are worth -/
def vl (xs : List Int) (f : Nat → Int) : Int := vlR xs f xs.length xs.length
/-- digits are valid -/
def okD (xs : List Int) (f : Nat → Int) : Bool := okS xs && decide (∀ i : Nat, i < 8 → if i < xs.length then f i < el xs i else f i = 0)
def vlF (f : Nat → Int) (pre : List WB) : Int := pre.foldl (fun acc x => IntKind.i64.wrap (IntKind.i64.wrap (acc * x.1.2) + f x.1.1)) 0
theorem vlF_snoc (f : Nat → Int) (pre : List WB) (x : WB) : vlF f (pre ++ [x]) = IntKind.i64.wrap (IntKind.i64.wrap (vlF f pre * x.1.2) + f x.1.1) := by simp [vlF]
theorem tp_bd {xs : List Int} {f : Nat → Int} (hk : okS xs = true) (hf : ∀ k, 0 ≤ f k ∧ f k ≤ 255) (hd : ∀ i : Nat, i < xs.length → f i < el xs i) : ∀ m : Nat, m ≤ xs.length → 0 ≤ vlR xs f xs.length m ∧ pr xs (xs.length - m) * (vlR xs f xs.length m + 1) ≤ pr xs xs.length
  | 0, _ => by simp [vlR]
  | m + 1, hm => by
    obtain ⟨h1, h2⟩ := tp_bd hk hf hd m (by omega)
    have h3 := hf (xs.length - (m + 1))
    have h4 := hd (xs.length - (m + 1)) (by omega)
    have h5 := okS_el hk (k := xs.length - (m + 1)) (by omega)
    have h6 := pr_pos hk (k := xs.length - (m + 1)) (by omega)
    have e : xs.length - m = xs.length - (m + 1) + 1 := by omega
    rw [e, show pr xs (xs.length - (m + 1) + 1) = pr xs (xs.length - (m + 1)) * el xs ((xs.length - (m + 1) : Nat) : Int) from rfl] at h2
    unfold vlR
    have h7 := Int.mul_nonneg h1 (show 0 ≤ el xs ((xs.length - (m + 1) : Nat) : Int) by omega)
    refine ⟨by omega, ?_⟩
    have h8 : vlR xs f xs.length m * el xs ((xs.length - (m + 1) : Nat) : Int) + f (xs.length - (m + 1)) + 1 ≤ el xs ((xs.length - (m + 1) : Nat) : Int) * (vlR xs f xs.length m + 1) := by
      rw [Int.mul_add, Int.mul_comm (el xs _) (vlR xs f xs.length m)]
      omega
    have h9 := Int.mul_le_mul_of_nonneg_left h8 (show 0 ≤ pr xs (xs.length - (m + 1)) by omega)
    rw [← Int.mul_assoc] at h9
    omega
theorem vlR_bd {xs : List Int} {f : Nat → Int} (hk : okS xs = true) (hf : ∀ k, 0 ≤ f k ∧ f k ≤ 255) (hd : ∀ i : Nat, i < xs.length → f i < el xs i) (m : Nat) (hm : m ≤ xs.length) : 0 ≤ vlR xs f xs.length m ∧ vlR xs f xs.length m < 1000000000000 := by
  obtain ⟨h1, h2⟩ := tp_bd hk hf hd m hm
  have h3 := pr_pos hk (k := xs.length - m) (by omega)
  have h4 := pr_all hk
  have h5 := Int.mul_le_mul_of_nonneg_right h3 (show 0 ≤ vlR xs f xs.length m + 1 by omega)
  omega
theorem okD_parts {xs : List Int} {f : Nat → Int} (h : okD xs f = true) : okS xs = true ∧ (∀ i : Nat, i < xs.length → f i < el xs i) ∧ ∀ i : Nat, i < 8 → xs.length ≤ i → f i = 0 := by
  unfold okD at h
  simp only [Bool.and_eq_true, decide_eq_true_eq] at h
  have hl := okS_len h.1
  refine ⟨h.1, fun i hi => ?_, fun i h8 hi => ?_⟩
  · have := h.2 i (by omega); rwa [if_pos hi] at this
  · have := h.2 i h8; rwa [if_neg (by omega)] at this
theorem vl_lt {xs : List Int} {f : Nat → Int} (h : okD xs f = true) (hf : ∀ k, 0 ≤ f k ∧ f k ≤ 255) : 0 ≤ vl xs f ∧ vl xs f < szS xs := by
  obtain ⟨hk, hd, _⟩ := okD_parts h
  obtain ⟨h1, h2⟩ := tp_bd hk hf hd xs.length (Nat.le_refl _)
  have e : xs.length - xs.length = 0 := by omega
  rw [e] at h2
  have e2 : pr xs 0 = 1 := rfl
  rw [e2] at h2
  have h4 := pr_all hk
  unfold vl szS
  omega
theorem vlF_all {xs : List Int} {f : Nat → Int} (hk : okS xs = true) (h8 : b8 xs) (hn : xs.length ≤ 8) (hf : ∀ k, 0 ≤ f k ∧ f k ≤ 255) (hd : ∀ i : Nat, i < xs.length → f i < el xs i) : ∀ m : Nat, m ≤ xs.length → vlF f (bkTo xs h8 hn m) = vlR xs f xs.length m
  | 0, _ => rfl
  | m + 1, hm => by
    obtain ⟨b1, b2⟩ := vlR_bd hk hf hd m (by omega)
    obtain ⟨b3, b4⟩ := vlR_bd hk hf hd (m + 1) hm
    rw [bkTo_succ, vlF_snoc, vlF_all hk h8 hn hf hd m (by omega)]
    have e1 : (bkAt xs h8 hn m).1.1 = xs.length - (m + 1) := by show (xs.length - 1 - m) % 8 = _; rw [Nat.mod_eq_of_lt (by omega)]; omega
    have e2 : (bkAt xs h8 hn m).1.2 = el xs ((xs.length - (m + 1) : Nat) : Int) := by show el xs _ = _; rw [show xs.length - 1 - m = xs.length - (m + 1) by omega]
    rw [e1, e2]
    have h3 := hf (xs.length - (m + 1))
    have h5 := okS_el hk (k := xs.length - (m + 1)) (by omega)
    have h7 := Int.mul_nonneg b1 (show 0 ≤ el xs ((xs.length - (m + 1) : Nat) : Int) by omega)
    unfold vlR at b4 b3
    have w1 : IntKind.i64.wrap (vlR xs f xs.length m * el xs ((xs.length - (m + 1) : Nat) : Int)) = vlR xs f xs.length m * el xs ((xs.length - (m + 1) : Nat) : Int) := IntWalk.i64_in _ (by omega)
    rw [w1]
    exact IntWalk.i64_in _ (by omega)
end Go.Proofs.Ytinjlofefmjolaa.X
