/- The tightest flow and the suspects: the plain law of FnTight. Conditions: none. -/
import Derived.Test.YtkphbagckbbalaaKSus
import Derived.Test.YtkphbagckbbalaaKPossL
namespace Go.Proofs.Ytkphbagckbbalaa.X
open Go.RowKit
set_option linter.unusedVariables false
set_option linter.unusedSimpArgs false
set_option maxRecDepth 100000
/-- the least count at or behind L that is possible -/
theorem low_le {z av bv L x : Int} (hz : 0 < z) (hb : 0 ≤ bv ∧ bv < z) (hx : L ≤ x) (h : (av + x) % z = bv) : L + (bv - av - L) % z ≤ x := by
  have hzn : z ≠ 0 := by omega
  have u0 := Int.emod_nonneg (bv - av - L) hzn
  have u1 := Int.emod_lt_of_pos (bv - av - L) hz
  have bz : bv % z = bv := Int.emod_eq_of_lt hb.1 hb.2
  have lv : (av + (L + (bv - av - L) % z)) % z = bv := by
    rw [show av + (L + (bv - av - L) % z) = (av + L) + (bv - av - L) % z by omega, add_mod_in, show av + L + (bv - av - L) = bv by omega, bz]
  rcases Int.lt_or_le x (L + (bv - av - L) % z) with c | c
  · have k := Int.sub_emod (av + (L + (bv - av - L) % z)) (av + x) z
    rw [lv, h, Int.sub_self, Int.zero_emod] at k
    have := rest0 hz k (by omega) (by omega)
    omega
  · exact c
/-- the greatest count at or ahead of H that is possible -/
theorem high_ge {z av bv H x : Int} (hz : 0 < z) (hb : 0 ≤ bv ∧ bv < z) (hx : x ≤ H) (h : (av + x) % z = bv) : x ≤ H - (H - (bv - av)) % z := by
  have hzn : z ≠ 0 := by omega
  have u0 := Int.emod_nonneg (H - (bv - av)) hzn
  have u1 := Int.emod_lt_of_pos (H - (bv - av)) hz
  have bz : bv % z = bv := Int.emod_eq_of_lt hb.1 hb.2
  have hv : (av + (H - (H - (bv - av)) % z)) % z = bv := by
    rw [show av + (H - (H - (bv - av)) % z) = (av + H) - (H - (bv - av)) % z by omega, sub_mod_in, show av + H - (H - (bv - av)) = bv by omega, bz]
  rcases Int.lt_or_le (H - (H - (bv - av)) % z) x with c | c
  · have k := Int.sub_emod (av + x) (av + (H - (H - (bv - av)) % z)) z
    rw [hv, h, Int.sub_self, Int.zero_emod] at k
    have := rest0 hz k (by omega) (by omega)
    omega
  · exact c
theorem low_v {z av bv L : Int} (hz : 0 < z) (hb : 0 ≤ bv ∧ bv < z) : (av + (L + (bv - av - L) % z)) % z = bv := by
  rw [show av + (L + (bv - av - L) % z) = (av + L) + (bv - av - L) % z by omega, add_mod_in, show av + L + (bv - av - L) = bv by omega, Int.emod_eq_of_lt hb.1 hb.2]
theorem high_v {z av bv H : Int} (hz : 0 < z) (hb : 0 ≤ bv ∧ bv < z) : (av + (H - (H - (bv - av)) % z)) % z = bv := by
  rw [show av + (H - (H - (bv - av)) % z) = (av + H) - (H - (bv - av)) % z by omega, sub_mod_in, show av + H - (H - (bv - av)) = bv by omega, Int.emod_eq_of_lt hb.1 hb.2]
/-- can the j-th step be -/
def stepOk (xs : List Int) (log : List (Int × Int)) (fl fh : Int) (j : Nat) : Bool := cOk xs (p1 log j) (p2 log j) (p1 log ((j : Int) + 1)) (p2 log ((j : Int) + 1)) fl fh
theorem loTo_le {xs : List Int} {log : List (Int × Int)} {H : Int} {j : Nat} : ∀ {m : Nat}, j < m → loTo xs log H m ≤ cHigh xs (p1 log j) (p2 log j) (p1 log ((j : Int) + 1)) (p2 log ((j : Int) + 1)) H / tday log j
  | 0, h => absurd h (by omega)
  | m + 1, h => by
    unfold loTo
    by_cases e : j = m
    · subst e; omega
    · have := @loTo_le xs log H j m (by omega)
      omega
theorem loTo_at {xs : List Int} {log : List (Int × Int)} {H : Int} : ∀ {m : Nat}, loTo xs log H m < H → ∃ j, j < m ∧ loTo xs log H m = cHigh xs (p1 log j) (p2 log j) (p1 log ((j : Int) + 1)) (p2 log ((j : Int) + 1)) H / tday log j
  | 0, h => by unfold loTo at h; omega
  | m + 1, h => by
    unfold loTo at h ⊢
    by_cases c : loTo xs log H m ≤ cHigh xs (p1 log m) (p2 log m) (p1 log ((m : Int) + 1)) (p2 log ((m : Int) + 1)) H / tday log m
    · obtain ⟨j, h1, h2⟩ := @loTo_at xs log H m (by omega)
      exact ⟨j, by omega, by rw [← h2]; omega⟩
    · exact ⟨m, by omega, by omega⟩
theorem hiTo_at {xs : List Int} {log : List (Int × Int)} : ∀ {m : Nat}, 0 < hiTo xs log m → ∃ j, j < m ∧ hiTo xs log m = (tgap xs log j + tday log j - 1) / tday log j
  | 0, h => by unfold hiTo at h; omega
  | m + 1, h => by
    unfold hiTo at h ⊢
    by_cases c : (tgap xs log m + tday log m - 1) / tday log m ≤ hiTo xs log m
    · obtain ⟨j, h1, h2⟩ := @hiTo_at xs log m (by omega)
      exact ⟨j, by omega, by rw [← h2]; omega⟩
    · exact ⟨m, by omega, by omega⟩
/-- with the tightest flow each step can be -/
theorem tight_all {xs : List Int} {log : List (Int × Int)} (h : okL xs log = true) {H lo : Int} (hH : H = hiTo xs log (log.length - 1)) (hlo : lo = loTo xs log H (log.length - 1)) {j : Nat} (hj : j + 1 < log.length) : stepOk xs log lo H j = true := by
  have ht := okL_two h hj
  have hs := szS_bd (okL_parts h).1
  have hd := tday_bd ht
  have hl := loTo_le (xs := xs) (log := log) (H := H) (j := j) (m := log.length - 1) (by omega)
  rw [← hlo] at hl
  have hm := (Int.le_ediv_iff_mul_le (show 0 < tday log j by omega)).1 hl
  have hv := high_v (z := szS xs) (av := p2 log j) (bv := p2 log ((j : Int) + 1)) (H := H * tday log j) (by omega) ⟨ht.v1.1, by have := ht.v1.2; omega⟩
  have hz := Int.emod_nonneg (H * tday log j - (p2 log ((j : Int) + 1) - p2 log j)) (show szS xs ≠ 0 by omega)
  have := low_le (L := lo * tday log j) (by omega) ⟨ht.v1.1, by have := ht.v1.2; omega⟩ hm hv
  have e : cHigh xs (p1 log j) (p2 log j) (p1 log ((j : Int) + 1)) (p2 log ((j : Int) + 1)) H = H * tday log j - (H * tday log j - (p2 log ((j : Int) + 1) - p2 log j)) % szS xs := rfl
  rw [e] at this
  unfold stepOk cOk cLow cUp
  rw [decide_eq_true_iff]
  show lo * tday log j + (p2 log ((j : Int) + 1) - p2 log j - lo * tday log j) % szS xs ≤ H * tday log j
  omega
/-- with a lesser High some step cannot be -/
theorem tight_high {xs : List Int} {log : List (Int × Int)} (h : okL xs log = true) {H : Int} (hH : H = hiTo xs log (log.length - 1)) (h0 : 0 < H) : ∃ j : Nat, j + 1 < log.length ∧ stepOk xs log 0 (H - 1) j = false := by
  obtain ⟨j, hj, e⟩ := hiTo_at (xs := xs) (log := log) (m := log.length - 1) (by omega)
  have hj' : j + 1 < log.length := by omega
  have ht := okL_two h hj'
  have hd := tday_bd ht
  rw [← hH] at e
  have h1 := Int.ediv_mul_le (tgap xs log j + tday log j - 1) (show tday log j ≠ 0 by omega)
  rw [← e] at h1
  refine ⟨j, hj', ?_⟩
  unfold stepOk cOk cLow cUp
  rw [decide_eq_false_iff_not, Int.zero_mul, Int.zero_add, Int.sub_zero, Int.sub_mul, Int.one_mul]
  unfold tgap tday at *
  omega
/-- with a greater Low some step cannot be -/
theorem tight_low {xs : List Int} {log : List (Int × Int)} (h : okL xs log = true) {H lo : Int} (hlo : lo = loTo xs log H (log.length - 1)) (h0 : lo < H) : ∃ j : Nat, j + 1 < log.length ∧ stepOk xs log (lo + 1) H j = false := by
  obtain ⟨j, hj, e⟩ := loTo_at (xs := xs) (log := log) (H := H) (m := log.length - 1) (by omega)
  have hj' : j + 1 < log.length := by omega
  have ht := okL_two h hj'
  have hs := szS_bd (okL_parts h).1
  have hd := tday_bd ht
  rw [← hlo] at e
  have h1 := Int.lt_ediv_add_one_mul_self (cHigh xs (p1 log j) (p2 log j) (p1 log ((j : Int) + 1)) (p2 log ((j : Int) + 1)) H) (show 0 < tday log j by omega)
  rw [← e] at h1
  refine ⟨j, hj', ?_⟩
  unfold stepOk cOk
  rw [decide_eq_false_iff_not]
  intro hc
  have lv := low_v (z := szS xs) (av := p2 log j) (bv := p2 log ((j : Int) + 1)) (L := (lo + 1) * (p1 log ((j : Int) + 1) - p1 log j)) (by omega) ⟨ht.v1.1, by have := ht.v1.2; omega⟩
  have hg := high_ge (z := szS xs) (H := H * (p1 log ((j : Int) + 1) - p1 log j)) (by omega) ⟨ht.v1.1, by have := ht.v1.2; omega⟩ (by unfold cLow cUp at hc; exact hc) lv
  have hz := Int.emod_nonneg (p2 log ((j : Int) + 1) - p2 log j - (lo + 1) * (p1 log ((j : Int) + 1) - p1 log j)) (show szS xs ≠ 0 by omega)
  unfold cHigh cDown tday at h1
  omega
/-- the suspects are the steps that cannot be -/
theorem suF_step {xs : List Int} {log : List (Int × Int)} {fl fh : Int} (j : Nat) : suF xs log fl fh (j + 1) = !stepOk xs log fl fh j := by
  unfold suF can stepOk
  rw [show ((j + 1 : Nat) : Int) = (j : Int) + 1 by omega, show j + 1 - 1 = j by omega]
  simp
theorem flt_nil {f : Nat → Bool} : ∀ {n : Nat}, (∀ i, i < n → f i = false) → flt f n = []
  | 0, _ => rfl
  | n + 1, h => by rw [flt_no (h n (by omega))]; exact flt_nil (fun i hi => h i (by omega))
theorem flt_pos {f : Nat → Bool} : ∀ {n i : Nat}, i < n → f i = true → 0 < (flt f n).length
  | 0, i, h, _ => absurd h (by omega)
  | n + 1, i, h, hf => by
    by_cases e : i = n
    · subst e; rw [flt_yes hf]; simp
    · have := @flt_pos f n i (by omega) hf
      show 0 < (if f n = true then flt f n ++ [(n : Int)] else flt f n).length
      split
      · rw [List.length_append]; omega
      · exact this
/-- a log as it is drawn is valid -/
theorem lgTo_of {xs : List Int} {log : List (Int × Int)} : ∀ {n : Nat}, (∀ k : Nat, k < n → (okR xs (p1 log k) (p2 log k) && (decide (k = 0) || decide (p1 log ((k : Int) - 1) < p1 log k))) = true) → lgTo xs log n = true
  | 0, _ => rfl
  | n + 1, h => by
    unfold lgTo
    rw [lgTo_of (fun k hk => h k (by omega)), h n (by omega)]; rfl
theorem LogOK.okl {ys : List Int} {log : List (Int × Int)} (hy : LStk ys) (h : LogOK (szS ys) log) : okL ys log = true := by
  obtain ⟨k1, k2, k3, k4, k5, k6⟩ := hy.fine
  unfold okL
  have hl := h.len
  rw [k1, decide_eq_true (show log.length ≤ 40 by omega), lgTo_of (fun k hk => ?_)]
  · rfl
  · have hr := h.rd k hk
    rw [Bool.and_eq_true, Bool.or_eq_true, decide_eq_true_iff, decide_eq_true_iff]
    refine ⟨?_, ?_⟩
    · unfold okR
      rw [k4, inR_t.2 ⟨hr.1.1, by omega⟩, inR_t.2 ⟨hr.2.1, by omega⟩]; rfl
    · by_cases e : k = 0
      · exact .inl e
      · right
        have := (h.st (k - 1) (by omega)).1
        rw [show ((k - 1 : Nat) : Int) = (k : Int) - 1 by omega, show (k : Int) - 1 + 1 = (k : Int) by omega] at this
        exact this
end Go.Proofs.Ytkphbagckbbalaa.X
