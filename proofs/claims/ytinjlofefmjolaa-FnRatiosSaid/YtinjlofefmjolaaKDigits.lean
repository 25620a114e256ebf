/- Stacks: values, digits. Conditions: none. -/
import Derived.Test.YtinjlofefmjolaaKStack
namespace Go.Proofs.Ytinjlofefmjolaa.X
open Go.RowKit
set_option linter.unusedVariables false
set_option linter.unusedSimpArgs false
set_option maxRecDepth 100000
theorem okS_len {xs : List Int} (h : okS xs = true) : 1 ≤ xs.length ∧ xs.length ≤ 8 := by
  unfold okS at h
  simp only [Bool.and_eq_true, decide_eq_true_eq] at h
  have := inR_t.1 h.1.1
  omega
theorem okS_el {xs : List Int} (h : okS xs = true) {k : Nat} (hk : k < xs.length) : 2 ≤ el xs k ∧ el xs k ≤ 100 := by
  unfold okS at h
  simp only [Bool.and_eq_true, decide_eq_true_eq] at h
  exact allTo_iff.1 h.1.2 k hk
theorem okS_size {xs : List Int} (h : okS xs = true) : sizeTo xs xs.length ≤ 1000000000000 := by
  unfold okS at h
  simp only [Bool.and_eq_true, decide_eq_true_eq] at h
  exact h.2
/-- the product of the first k bases -/
def pr (xs : List Int) : Nat → Int
  | 0 => 1
  | k + 1 => pr xs k * el xs k
theorem pr_pos {xs : List Int} (h : okS xs = true) : ∀ {k : Nat}, k ≤ xs.length → 1 ≤ pr xs k
  | 0, _ => by simp [pr]
  | k + 1, hk => by
    have h1 := pr_pos h (k := k) (by omega)
    have h2 := okS_el h (k := k) (by omega)
    have := Int.mul_le_mul h1 (show (1 : Int) ≤ el xs k by omega) (by omega) (by omega)
    unfold pr
    omega
theorem pr_mono {xs : List Int} (h : okS xs = true) {k : Nat} (hk : k < xs.length) : pr xs k * 2 ≤ pr xs (k + 1) := by
  have h1 := pr_pos h (k := k) (by omega)
  have h2 := okS_el h hk
  exact Int.mul_le_mul_of_nonneg_left h2.1 (by omega)
theorem pr_le {xs : List Int} (h : okS xs = true) {j : Nat} (d : Nat) : j + d ≤ xs.length → pr xs j ≤ pr xs (j + d) := by
  induction d with
  | zero => intro _; exact Int.le_refl _
  | succ d ih =>
    intro hk
    have h1 := ih (by omega)
    have h2 := pr_mono h (k := j + d) (by omega)
    have h3 := pr_pos h (k := j + d) (by omega)
    have e : j + (d + 1) = j + d + 1 := by omega
    rw [e]
    omega
theorem sizeTo_pr {xs : List Int} (h : okS xs = true) : ∀ {k : Nat}, k ≤ xs.length → sizeTo xs k = min (pr xs k) 1000000000001
  | 0, _ => by simp only [sizeTo, pr]; omega
  | k + 1, hk => by
    have h1 := sizeTo_pr h (k := k) (by omega)
    have h2 := pr_pos h (k := k) (by omega)
    have h3 := okS_el h (k := k) (by omega)
    unfold sizeTo pr
    rw [h1]
    rcases Int.lt_or_le 1000000000001 (pr xs k) with g | g
    · have e : min (pr xs k) 1000000000001 = 1000000000001 := by omega
      rw [e]
      have a1 := Int.mul_le_mul_of_nonneg_left (show (1 : Int) ≤ el xs k by omega) (show (0 : Int) ≤ pr xs k by omega)
      omega
    · have e : min (pr xs k) 1000000000001 = pr xs k := by omega
      rw [e]
theorem pr_all {xs : List Int} (h : okS xs = true) : sizeTo xs xs.length = pr xs xs.length ∧ pr xs xs.length ≤ 1000000000000 := by
  have h1 := sizeTo_pr h (Nat.le_refl _)
  have h2 := okS_size h
  omega
theorem size_eq {xs : List Int} (h : okS xs = true) {k : Nat} (hk : k ≤ xs.length) : sizeTo xs k = pr xs k ∧ pr xs k ≤ 1000000000000 := by
  have h1 := sizeTo_pr h hk
  have h2 := pr_all h
  have h3 := pr_le h (j := k) (xs.length - k) (by omega)
  have e : k + (xs.length - k) = xs.length := by omega
  rw [e] at h3
  omega
/-- how many values a stack shows -/
def szS (xs : List Int) : Int := sizeTo xs xs.length
theorem szS_bd {xs : List Int} (h : okS xs = true) : 2 ≤ szS xs ∧ szS xs ≤ 1000000000000 := by
  have h1 := pr_all h
  have h2 := okS_len h
  have h3 := pr_mono h (k := 0) (by omega)
  have h4 := pr_le h (j := 1) (xs.length - 1) (by omega)
  have e : 1 + (xs.length - 1) = xs.length := by omega
  rw [e] at h4
  have e2 : pr xs 0 = 1 := rfl
  have e3 : pr xs (0 + 1) = pr xs 1 := rfl
  rw [e3] at h3
  unfold szS
  omega
/-- what is left of a value above the first k wheels -/
def qTo (xs : List Int) (v : Int) : Nat → Int
  | 0 => v
  | k + 1 => qTo xs v k / el xs k
theorem qTo_bd {xs : List Int} {v : Int} (h : okS xs = true) (hv : 0 ≤ v) : ∀ {k : Nat}, k ≤ xs.length → 0 ≤ qTo xs v k ∧ qTo xs v k ≤ v
  | 0, _ => ⟨hv, Int.le_refl _⟩
  | k + 1, hk => by
    have h1 := qTo_bd h hv (k := k) (by omega)
    have h2 := okS_el h (k := k) (by omega)
    unfold qTo
    exact ⟨Int.ediv_nonneg h1.1 (by omega), Int.le_trans (Int.ediv_le_self _ h1.1) h1.2⟩
/-- the first k digits of a value -/
def dgTo (xs : List Int) (v : Int) (k : Nat) : Nat → Int := fun i => if i < k then qTo xs v i % el xs i else 0
/-- the digits of a value -/
def dg (xs : List Int) (v : Int) : Nat → Int := dgTo xs v xs.length
theorem dgTo_succ (xs : List Int) (v : Int) (k : Nat) : upd (dgTo xs v k) k (qTo xs v k % el xs k) = dgTo xs v (k + 1) := by
  funext i
  unfold upd dgTo
  by_cases e : i = k
  · subst e; simp
  · simp only [e, if_false]
    by_cases e2 : i < k
    · rw [if_pos e2, if_pos (by omega)]
    · rw [if_neg e2, if_neg (by omega)]
set_option maxHeartbeats 400000 in
theorem l01Ok_any {A : Option Addr} {xs : List Int} {W : World} {B : Nat} (hs : Nums .u8 W B A xs) (h8 : b8 xs) (n c : Nat) (hn : xs.length = n) (w : World) (hb : Below B W w) : Calls Try.prog 97 #[.slice A n c] w fun e w' => e = .returned (.bool (okS xs)) ∧ w = w' := by
  have hl := hs.len
  obtain rfl := hn
  cases h1 : inR xs.length 1 8
  · go_enter Try.func97, Try.ntmps97
    go_wp2_with (go_at_call 58; refine (l00In_ok _ _ _ _).mono ?_; rintro e w' ⟨rfl, rfl⟩)
    go_ret
    exact ⟨by simp [okS, h1], rfl⟩
  · go_enter Try.func97, Try.ntmps97
    go_wp2_with (go_at_call 58; refine (l00In_ok _ _ _ _).mono ?_; rintro e w' ⟨rfl, rfl⟩)
    go_loop [3] (fun i => ∃ k : Nat, k ≤ xs.length ∧ i = .int .i64 k ∧ Hid (allTo xs k = true)) (fun i => xs.length - (intOf i).toNat)
    case atStart => exact ⟨0, Nat.zero_le _, rfl, (rfl : allTo xs 0 = true)⟩
    case round =>
      obtain ⟨k, hk, rfl, HA⟩ := hrel
      by_cases hlt : k < xs.length
      · obtain ⟨b, off, rfl, hbs, hc⟩ := hs.at hb hlt
        obtain ⟨e0, e1⟩ := h8 k
        have g0 : (0 : Int) ≤ (k : Int) := by omega
        have g1 : (k : Int) < (xs.length : Int) := by omega
        by_cases c1 : el xs k < 2
        · have HB : Hid (allTo xs xs.length = false) := allTo_no hlt (by simp [okB]; omega)
          go_wp2
          go_ret
          exact ⟨by simp [okS, HB.out], rfl⟩
        · by_cases c2 : 100 < el xs k
          · have HB : Hid (allTo xs xs.length = false) := allTo_no hlt (by simp [okB]; omega)
            go_wp2
            go_ret
            exact ⟨by simp [okS, HB.out], rfl⟩
          · have HB : Hid (okB (el xs k) = true) := by unfold Hid okB; simp; omega
            go_wp2
            exact ⟨⟨k + 1, by omega, by go_num, by show (allTo xs k && okB (el xs k)) = true; rw [HA.out, HB.out]; rfl⟩, by simp [intOf]; omega⟩
      · obtain rfl : k = xs.length := by omega
        go_wp2_with (go_at_call 98; refine (l01Size_any hs h8 _ _ rfl _ hb).mono ?_; rintro e w' ⟨rfl, rfl⟩)
        go_ret
        exact ⟨by simp [okS, h1, HA.out], rfl⟩
set_option maxHeartbeats 1000000 in
theorem digits_any {A : Option Addr} {xs : List Int} {W : World} {B : Nat} (hs : Nums .u8 W B A xs) (h8 : b8 xs) (n c : Nat) (hn : xs.length = n) (w : World) (hb : Below B W w) (hk : okS xs = true) (v : Int) (hv : 0 ≤ v) (hv2 : v ≤ 9223372036854775807) : Calls Try.prog 107 #[.slice A n c, .int .i64 v] w fun e w' => e = .returned (.agg #[.int .u8 (dg xs v 0), .int .u8 (dg xs v 1), .int .u8 (dg xs v 2), .int .u8 (dg xs v 3), .int .u8 (dg xs v 4), .int .u8 (dg xs v 5), .int .u8 (dg xs v 6), .int .u8 (dg xs v 7)]) ∧ Below w.heap.size w w' := by
  obtain rfl := hn
  have hl := okS_len hk
  have HK := Lib.hid hk
  clear hk
  go_enter Try.func107, Try.ntmps107
  go_wp2
  go_loopw [1, 11] (fun q i wr => ∃ k : Nat, k ≤ xs.length ∧ i = .int .i64 k ∧ q = .int .i64 (qTo xs v k) ∧ wr = (w.alloc (.cells #[.int .u8 0, .int .u8 0, .int .u8 0, .int .u8 0, .int .u8 0, .int .u8 0, .int .u8 0, .int .u8 0] 57)).alloc (.cells #[.int .u8 (dgTo xs v k 0), .int .u8 (dgTo xs v k 1), .int .u8 (dgTo xs v k 2), .int .u8 (dgTo xs v k 3), .int .u8 (dgTo xs v k 4), .int .u8 (dgTo xs v k 5), .int .u8 (dgTo xs v k 6), .int .u8 (dgTo xs v k 7)] 57)) (fun _ i _ => xs.length - (intOf i).toNat)
  case atStart => exact ⟨0, Nat.zero_le _, rfl, rfl, rfl⟩
  case round =>
    obtain ⟨k, hk, rfl, rfl, rfl⟩ := hrel
    by_cases hlt : k < xs.length
    · obtain ⟨b, off, rfl, hbs, hc⟩ := hs.at hb hlt
      obtain ⟨e0, e1⟩ := okS_el HK.out hlt
      obtain ⟨q0, q1⟩ := qTo_bd HK.out hv hk
      have g0 : (0 : Int) ≤ (k : Int) := by omega
      have g1 : (k : Int) < 8 := by omega
      have g2 : (el xs k == 0) = false := beq_eq_false_iff_ne.2 (by omega)
      have m0 : 0 ≤ qTo xs v k % el xs k := Int.emod_nonneg _ (by omega)
      have m1 : qTo xs v k % el xs k < el xs k := Int.emod_lt_of_pos _ (by omega)
      have ha := a8_at .u8 (dgTo xs v k) (k := k) (by omega)
      have HS := Lib.hid ((a8_set .u8 (dgTo xs v k) (qTo xs v k % el xs k) (k := k) (by omega)).trans (by rw [dgTo_succ]))
      go_wp2
      exact ⟨⟨k + 1, by omega, by go_num, rfl, by rw [HS.out]⟩, by simp [intOf]; omega⟩
    · obtain rfl : k = xs.length := by omega
      go_wp2
      exact bodyPost_ret (v := .agg #[.int .u8 (dgTo xs v xs.length 0), .int .u8 (dgTo xs v xs.length 1), .int .u8 (dgTo xs v xs.length 2), .int .u8 (dgTo xs v xs.length 3), .int .u8 (dgTo xs v xs.length 4), .int .u8 (dgTo xs v xs.length 5), .int .u8 (dgTo xs v xs.length 6), .int .u8 (dgTo xs v xs.length 7)]) (by simp [results, Try.results107, go_sem]) rfl ⟨rfl, (by repeat' (first | (with_reducible first | assumption | exact Below.refl _ _ | refine Below.drew ?_ | refine Below.alloc ?_ ?_ _ | refine Below.setCell ?_ ?_ _ | refine below_setR ?_ ?_ _ | refine below_dn ?_ _ | refine Below.trans ?_ (below_mo _ _ _ ?_) | refine Below.trans ?_ (below_mq _ _ ?_) | exact Nat.le_refl _) | (simp; done) | (simp; omega) | omega))⟩
end Go.Proofs.Ytinjlofefmjolaa.X
