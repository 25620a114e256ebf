/- What FnTight asks, out of the plain law; A2Has. Conditions: none. -/
import Derived.Test.YtkphbagckbbalaaKTightL
import Derived.Test.YtkphbagckbbalaaKBackW
import Derived.Test.YtkphbagckbbalaaKStuck4
namespace Go.Proofs.Ytkphbagckbbalaa.X
open Go.RowKit
set_option linter.unusedVariables false
set_option linter.unusedSimpArgs false
set_option maxRecDepth 100000
/-- is v among the first k numbers -/
def hasT (ks : List Int) (v : Int) : Nat → Bool
  | 0 => false
  | k + 1 => hasT ks v k || (el ks (k : Int) == v)
theorem hasT_iff (ks : List Int) (v : Int) : ∀ k, hasT ks v k = true ↔ ∃ i, i < k ∧ el ks (i : Int) = v
  | 0 => by simp [hasT]
  | k + 1 => by
    unfold hasT
    rw [Bool.or_eq_true, hasT_iff ks v k, beq_iff_eq]
    constructor
    · rintro (⟨i, h1, h2⟩ | h)
      · exact ⟨i, by omega, h2⟩
      · exact ⟨k, by omega, h⟩
    · rintro ⟨i, h1, h2⟩
      by_cases c : i = k
      · subst c; exact .inr h2
      · exact .inl ⟨i, by omega, h2⟩
theorem mem_flt {f : Nat → Bool} {v : Int} : ∀ {n : Nat}, v ∈ flt f n ↔ ∃ i : Nat, i < n ∧ f i = true ∧ v = (i : Int)
  | 0 => by simp [flt]
  | n + 1 => by
    cases c : f n
    · rw [flt_no c, mem_flt]
      constructor
      · rintro ⟨i, h1, h2, h3⟩; exact ⟨i, by omega, h2, h3⟩
      · rintro ⟨i, h1, h2, h3⟩
        by_cases e : i = n
        · subst e; rw [c] at h2; cases h2
        · exact ⟨i, by omega, h2, h3⟩
    · rw [flt_yes c, List.mem_append, mem_flt, List.mem_singleton]
      constructor
      · rintro (⟨i, h1, h2, h3⟩ | h)
        · exact ⟨i, by omega, h2, h3⟩
        · exact ⟨n, by omega, c, h⟩
      · rintro ⟨i, h1, h2, h3⟩
        by_cases e : i = n
        · subst e; exact .inr h3
        · exact .inl ⟨i, by omega, h2, h3⟩
theorem hasT_mem (ks : List Int) (v : Int) : hasT ks v ks.length = true ↔ v ∈ ks := by
  rw [hasT_iff]
  constructor
  · rintro ⟨i, h1, h2⟩
    unfold el at h2
    rw [Int.toNat_natCast, List.getD_eq_getElem?_getD, List.getElem?_eq_getElem h1] at h2
    exact h2 ▸ List.getElem_mem h1
  · intro h
    obtain ⟨i, h1, h2⟩ := List.getElem_of_mem h
    refine ⟨i, h1, ?_⟩
    unfold el
    rw [Int.toNat_natCast, List.getD_eq_getElem?_getD, List.getElem?_eq_getElem h1]
    exact h2
theorem hasT_flt {f : Nat → Bool} {n i : Nat} (h : i < n) : hasT (flt f n) (i : Int) (flt f n).length = f i := by
  cases c : f i
  · cases d : hasT (flt f n) (i : Int) (flt f n).length
    · rfl
    · rw [hasT_mem, mem_flt] at d
      obtain ⟨j, h1, h2, h3⟩ := d
      obtain rfl : i = j := by omega
      rw [c] at h2; cases h2
  · exact (hasT_mem _ _).2 (mem_flt.2 ⟨i, h, c, rfl⟩)
theorem hiTo_small {ys : List Int} {log : List (Int × Int)} (hz : 72 ≤ szS ys ∧ szS ys ≤ 1000) (hd : ∀ j : Nat, j + 1 < log.length → 1 ≤ tday log j) : ∀ m : Nat, m < log.length → 0 ≤ hiTo ys log m ∧ hiTo ys log m ≤ 1000
  | 0, _ => by unfold hiTo; omega
  | m + 1, h => by
    have ih := hiTo_small hz hd m (by omega)
    have g0 := Int.emod_nonneg (p2 log ((m : Int) + 1) - p2 log m) (show szS ys ≠ 0 by omega)
    have g1 := Int.emod_lt_of_pos (p2 log ((m : Int) + 1) - p2 log m) (show 0 < szS ys by omega)
    have d := hd m h
    have c := Int.ediv_lt_iff_lt_mul (a := tgap ys log m + tday log m - 1) (b := 1001) (c := tday log m) (by omega)
    have e : 1001 * tday log m ≥ 1000 + tday log m := by omega
    have hg : tgap ys log m ≤ 999 := by unfold tgap; omega
    have := c.2 (by omega)
    unfold hiTo
    omega
theorem loTo_leH (ys : List Int) (log : List (Int × Int)) (H : Int) : ∀ m, loTo ys log H m ≤ H
  | 0 => Int.le_refl _
  | m + 1 => by
    have := loTo_leH ys log H m
    unfold loTo
    omega
/-- the law's facts of a drawn log: its tightest flow -/
structure TightF (ys : List Int) (log : List (Int × Int)) (lo hi : Int) : Prop where
  tf : tfV ys log 1000 = (lo, hi, 0)
  b : 0 ≤ lo ∧ lo ≤ hi ∧ hi ≤ 1000
  none : suL ys log lo hi = [] ∧ suC ys log lo hi = 0
  high : 0 < hi → (suC ys log 0 (hi - 1) = 0 ∧ 0 < (suL ys log 0 (hi - 1)).length) ∧ tfV ys log (hi - 1) = (0, 0, 6)
  low : lo < hi → suC ys log (lo + 1) hi = 0 ∧ 0 < (suL ys log (lo + 1) hi).length
theorem okF_of {a b : Int} (h : 0 ≤ a ∧ a ≤ b ∧ b ≤ 1000000) : okF a b = true := by
  unfold okF
  rw [decide_eq_true h.1, decide_eq_true h.2.1, decide_eq_true h.2.2]; rfl
theorem suC_0 {ys : List Int} {log : List (Int × Int)} {a b : Int} (h : okL ys log = true) (g : okF a b = true) : suC ys log a b = 0 ∧ suL ys log a b = flt (suF ys log a b) log.length := by
  unfold suC suL
  rw [h, g]; exact ⟨rfl, rfl⟩
theorem tightF {ys : List Int} {log : List (Int × Int)} (hy : LStk ys) (h : LogOK (szS ys) log) : ∃ lo hi, TightF ys log lo hi := by
  obtain ⟨k1, k2, k3, k4, k5, k6⟩ := hy.fine
  have ho := h.okl hy
  have hd : ∀ j : Nat, j + 1 < log.length → 1 ≤ tday log j := fun j hj => by have := (h.st j hj).1; unfold tday; omega
  obtain ⟨H, hH⟩ : ∃ H, H = hiTo ys log (log.length - 1) := ⟨_, rfl⟩
  obtain ⟨lo, hlo⟩ : ∃ lo, lo = loTo ys log H (log.length - 1) := ⟨_, rfl⟩
  have hb : 0 ≤ H ∧ H ≤ 1000 := by
    by_cases e : log.length = 0
    · rw [hH, e]; show 0 ≤ (0 : Int) ∧ (0 : Int) ≤ 1000; omega
    · rw [hH]; exact hiTo_small ⟨k5, k6⟩ hd _ (by omega)
  have hl0 : 0 ≤ lo := by
    by_cases e : log.length = 0
    · rw [hlo, e]; exact hb.1
    · rw [hlo]; exact (loTo_bd ho hH ⟨hb.1, by omega⟩ _ (by omega)).1
  have hl1 : lo ≤ H := by rw [hlo]; exact loTo_leH _ _ _ _
  have ht : tfV ys log 1000 = (lo, H, 0) := by
    rw [tfV_4 ho (inR_t.2 (by omega)) (by omega), ← hH, ← hlo]
  refine ⟨lo, H, ht, ⟨hl0, hl1, hb.2⟩, ?_, fun h0 => ⟨?_, ?_⟩, fun h0 => ?_⟩
  · obtain ⟨a, b⟩ := suC_0 ho (okF_of (a := lo) (b := H) ⟨hl0, hl1, by omega⟩)
    refine ⟨b.trans (flt_nil fun i hi => ?_), a⟩
    cases i with
    | zero => rfl
    | succ j => rw [suF_step, tight_all ho hH hlo hi]; rfl
  · obtain ⟨a, b⟩ := suC_0 ho (okF_of (a := 0) (b := H - 1) ⟨by omega, by omega, by omega⟩)
    obtain ⟨j, j1, j2⟩ := tight_high ho hH h0
    rw [b]
    exact ⟨a, flt_pos j1 (by rw [suF_step, j2]; rfl)⟩
  · exact tfV_3 ho (inR_t.2 (by omega)) (by omega)
  · obtain ⟨a, b⟩ := suC_0 ho (okF_of (a := lo + 1) (b := H) ⟨by omega, by omega, by omega⟩)
    obtain ⟨j, j1, j2⟩ := tight_low ho hlo h0
    rw [b]
    exact ⟨a, flt_pos j1 (by rw [suF_step, j2]; rfl)⟩
/-- what StuckSince says of a drawn log -/
theorem stuckF {ys : List Int} {log : List (Int × Int)} (hy : LStk ys) (h : LogOK (szS ys) log) {wn : Nat} (hw : wn < ys.length) : ssV ys log (wn : Int) = (0, 6) ∨ ∃ i : Nat, ssV ys log (wn : Int) = ((i : Int), 0) ∧ i + 1 < log.length ∧ ∀ k : Nat, i ≤ k → k < log.length → dg ys (p2 log k) wn = dg ys (p2 log ((log.length - 1 : Nat) : Int)) wn := by
  have ho := h.okl hy
  have e : ssV ys log (wn : Int) = ssR ys log wn := by
    unfold ssV
    rw [ho, if_pos rfl, inR_t.2 ⟨by omega, by omega⟩, if_pos rfl, Int.toNat_natCast]
  rw [e]
  by_cases c : ∃ i, QP ys log wn i ∧ ∀ k, k < i → ¬ QP ys log wn k
  · obtain ⟨i, h1, h2⟩ := c
    refine .inr ⟨i, ssR_at h1 h2, h1.1, fun k a b => ?_⟩
    have x := h1.2.1 k a b
    have y := h1.2.1 (log.length - 1) (by have := h1.1; omega) (by have := h1.1; omega)
    exact x.trans y.symm
  · left
    unfold ssR
    rw [dif_neg c]
set_option maxHeartbeats 1000000 in
theorem l04HasT {A : Option Addr} {ks : List Int} {W : World} {B : Nat} (hs : Nums .i64 W B A ks) (c : Nat) (w : World) (hb : Below B W w) (v : Int) : Calls Try.prog 92 #[.slice A ks.length c, .int .i64 v] w fun e w' => e = .returned (.bool (hasT ks v ks.length)) ∧ w = w' := by
  have hl := hs.len
  go_enter Try.func92, Try.ntmps92
  go_wp2
  go_loopw [5] (fun i wr => ∃ k : Nat, k ≤ ks.length ∧ i = .int .i64 (k : Int) ∧ Hid (hasT ks v k = false) ∧ wr = w) (fun i _ => ks.length - (intOf i).toNat)
  case atStart => exact ⟨0, Nat.zero_le _, rfl, (rfl : hasT ks v 0 = false), rfl⟩
  case round =>
    obtain ⟨k, hk, rfl, HA, rfl⟩ := hrel
    by_cases hlt : k < ks.length
    · obtain ⟨b, off, rfl, hbs, hc⟩ := hs.at hb hlt
      have g0 : (0 : Int) ≤ (k : Int) := by omega
      have g1 : (k : Int) < (ks.length : Int) := by omega
      by_cases hz : el ks k = v
      · have HN : Hid (hasT ks v ks.length = true) := (hasT_iff _ _ _).2 ⟨k, hlt, hz⟩
        have b1 : (el ks k == v) = true := beq_iff_eq.2 hz
        clear hz
        go_wp2
        go_ret
        exact ⟨by rw [HN.out]; first | done | rfl, rfl⟩
      · have b1 : (el ks k == v) = false := beq_eq_false_iff_ne.2 hz
        have HN : Hid (hasT ks v (k + 1) = false) := by unfold Hid hasT; rw [HA.out, b1]; rfl
        go_wp2
        exact ⟨⟨k + 1, hlt, by go_num, HN, by first | rfl | trivial⟩, by simp [intOf]; omega⟩
    · obtain rfl : k = ks.length := by omega
      go_wp2
      go_ret
      exact ⟨by rw [HA.out]; first | done | rfl, rfl⟩
theorem A2Has_any {A : Option Addr} {ks : List Int} {W : World} {B : Nat} (hs : Nums .i64 W B A ks) (c : Nat) (w : World) (hb : Below B W w) (v : Int) : Calls Try.prog 15 #[.slice A ks.length c, .int .i64 v] w fun e w' => e = .returned (.bool (hasT ks v ks.length)) ∧ w = w' := by
  go_enter Try.func15, Try.ntmps15
  go_wp2_with (go_at_call 92; refine (l04HasT hs _ _ hb v).mono ?_; rintro e w' ⟨rfl, rfl⟩)
  go_ret
  exact ⟨rfl, rfl⟩
end Go.Proofs.Ytkphbagckbbalaa.X
