/- Digits are valid; counts are added. Conditions: none. -/
import Derived.Test.YtkphbagckbbalaaKLaws
import Derived.Test.YtkphbagckbbalaaKValue
namespace Go.Proofs.Ytkphbagckbbalaa.X
open Go.RowKit
set_option linter.unusedVariables false
set_option linter.unusedSimpArgs false
set_option maxRecDepth 100000
def d8 (f : Nat → Int) : Prop := ∀ k : Nat, 0 ≤ f k ∧ f k ≤ 255
/-- the first k digits are valid -/
def dOk (xs : List Int) (f : Nat → Int) (i : Nat) : Bool := if i < xs.length then decide (f i < el xs i) else decide (f i = 0)
def dTo (xs : List Int) (f : Nat → Int) : Nat → Bool
  | 0 => true
  | k + 1 => dTo xs f k && dOk xs f k
theorem dTo_iff {xs : List Int} {f : Nat → Int} : ∀ {n : Nat}, dTo xs f n = true ↔ ∀ j : Nat, j < n → dOk xs f j = true
  | 0 => by simp [dTo]
  | n + 1 => by
    unfold dTo
    rw [Bool.and_eq_true, dTo_iff]
    constructor
    · rintro ⟨h, g⟩ j hj
      by_cases e : j = n
      · subst e; exact g
      · exact h j (by omega)
    · intro h
      exact ⟨fun j hj => h j (by omega), h n (by omega)⟩
theorem dTo_no {xs : List Int} {f : Nat → Int} {k n : Nat} (hk : k < n) (h : dOk xs f k = false) : dTo xs f n = false := by
  rw [← Bool.not_eq_true, dTo_iff]
  intro g
  have := g k hk
  rw [h] at this
  cases this
theorem okD_eq (xs : List Int) (f : Nat → Int) : okD xs f = (okS xs && dTo xs f 8) := by
  unfold okD
  congr 1
  rw [Bool.eq_iff_iff, decide_eq_true_iff, dTo_iff]
  constructor
  · intro h j hj
    have := h j hj
    unfold dOk
    split
    · rename_i e; rw [if_pos e] at this; exact decide_eq_true this
    · rename_i e; rw [if_neg e] at this; exact decide_eq_true this
  · intro h j hj
    have := h j hj
    unfold dOk at this
    split
    · rename_i e; rw [if_pos e] at this; exact of_decide_eq_true this
    · rename_i e; rw [if_neg e] at this; exact of_decide_eq_true this
set_option maxHeartbeats 1000000 in
theorem l01Value_any {A : Option Addr} {xs : List Int} {W : World} {B : Nat} (hs : Nums .u8 W B A xs) (h8 : b8 xs) (n c : Nat) (hn : xs.length = n) (w : World) (hb : Below B W w) (hk : okS xs = true) (f : Nat → Int) (hf : d8 f) (hd : ∀ i : Nat, i < xs.length → f i < el xs i) : Calls Try.prog 123 #[.slice A n c, .agg #[.int .u8 (f 0), .int .u8 (f 1), .int .u8 (f 2), .int .u8 (f 3), .int .u8 (f 4), .int .u8 (f 5), .int .u8 (f 6), .int .u8 (f 7)]] w fun e w' => e = .returned (.int .i64 (vl xs f)) ∧ Below w.heap.size w w' := by
  obtain rfl := hn
  have hl := (okS_len hk).2
  have hl1 := (okS_len hk).1
  have HB := Lib.hid (fun m (hm : m ≤ xs.length) => vlR_bd hk hf hd m hm)
  have HF := Lib.hid hf
  clear hf hd hk
  go_enter Try.func123, Try.ntmps123
  go_wp2
  go_loopw [5, 6] (fun t i wr => ∃ m : Nat, m ≤ xs.length ∧ i = .int .i64 ((xs.length : Int) - 1 - (m : Int)) ∧ t = .int .i64 (vlR xs f xs.length m) ∧ ∃ d, wr = (w.alloc (.cells #[.int .u8 (f 0), .int .u8 (f 1), .int .u8 (f 2), .int .u8 (f 3), .int .u8 (f 4), .int .u8 (f 5), .int .u8 (f 6), .int .u8 (f 7)] 43)).drewN d) (fun _ i _ => (intOf i + 1).toNat)
  case atStart => exact ⟨0, Nat.zero_le _, by simp, rfl, 0, rfl⟩
  case round =>
    obtain ⟨m, hm, rfl, rfl, d, rfl⟩ := hrel
    by_cases hlt : m < xs.length
    · obtain ⟨j, hj⟩ : ∃ j, j = xs.length - 1 - m := ⟨_, rfl⟩
      obtain ⟨b, off, rfl, hbs, hc⟩ := hs.at hb (k := j) (by omega)
      have ej : (xs.length : Int) - 1 - (m : Int) = (j : Int) := by omega
      have HJ : Hid (vlR xs f xs.length (m + 1) = vlR xs f xs.length m * el xs j + f j) := by unfold Hid; rw [hj, show xs.length - 1 - m = xs.length - (m + 1) by omega]; rfl
      have HE : Hid ((xs.length : Int) - 1 - ((m + 1 : Nat) : Int) = (j : Int) - 1) := by unfold Hid; omega
      have hj8 : j < 8 := by omega
      obtain ⟨b1, b2⟩ := HB.out m (by omega)
      obtain ⟨b3, b4⟩ := HB.out (m + 1) (by omega)
      rw [HJ.out] at b3 b4
      obtain ⟨f0, f1⟩ := HF.out j
      obtain ⟨e0, e1⟩ := h8 j
      obtain ⟨m0, m1⟩ := mul_le_255 ⟨b1, by omega⟩ ⟨e0, e1⟩
      have ha := a8_at .u8 f hj8
      rw [ej]
      have g0 : (0 : Int) ≤ (j : Int) := by omega
      have g1 : (j : Int) < 8 := by omega
      have g2 : (j : Int) < xs.length := by omega
      clear ej hj
      go_wp2
      go_quiet (fail)
      go_wp2
      exact ⟨⟨m + 1, by omega, by rw [HE.out], by rw [HJ.out], _, rfl⟩, by simp [intOf]⟩
    · obtain rfl : m = xs.length := by omega
      go_wp2
      go_ret
      exact ⟨rfl, (by repeat' (first | (with_reducible first | assumption | exact Below.refl _ _ | refine Below.drew ?_ | refine Below.alloc ?_ ?_ _ | refine Below.setCell ?_ ?_ _ | refine below_setR ?_ ?_ _ | refine below_dn ?_ _ | refine Below.trans ?_ (below_mo _ _ _ ?_) | refine Below.trans ?_ (below_mq _ _ ?_) | exact Nat.le_refl _) | (simp; done) | (simp; omega) | omega))⟩
set_option maxHeartbeats 2000000 in
theorem l01Digits_any {A : Option Addr} {xs : List Int} {W : World} {B : Nat} (hs : Nums .u8 W B A xs) (h8 : b8 xs) (n c : Nat) (hn : xs.length = n) (w : World) (hb : Below B W w) (f : Nat → Int) (hf : d8 f) : Calls Try.prog 180 #[.slice A n c, .agg #[.int .u8 (f 0), .int .u8 (f 1), .int .u8 (f 2), .int .u8 (f 3), .int .u8 (f 4), .int .u8 (f 5), .int .u8 (f 6), .int .u8 (f 7)]] w fun e w' => e = .returned (.bool (dTo xs f 8)) ∧ Below w.heap.size w w' := by
  obtain rfl := hn
  have hl := hs.len
  have HF := Lib.hid hf
  clear hf
  go_enter Try.func180, Try.ntmps180
  go_wp2
  go_loopw [5] (fun i wr => ∃ k : Nat, k ≤ 8 ∧ i = .int .i64 k ∧ Hid (dTo xs f k = true) ∧ ∃ d, wr = (w.alloc (.cells #[.int .u8 (f 0), .int .u8 (f 1), .int .u8 (f 2), .int .u8 (f 3), .int .u8 (f 4), .int .u8 (f 5), .int .u8 (f 6), .int .u8 (f 7)] 43)).drewN d) (fun i _ => 8 - (intOf i).toNat)
  case atStart => exact ⟨0, Nat.zero_le _, rfl, (rfl : dTo xs f 0 = true), 0, rfl⟩
  case round =>
    obtain ⟨k, hk, rfl, HA, d, rfl⟩ := hrel
    by_cases hlt : k < 8
    · have ha := a8_at .u8 f hlt
      obtain ⟨f0, f1⟩ := HF.out k
      have g0 : (0 : Int) ≤ (k : Int) := by omega
      have g1 : (k : Int) < 8 := by omega
      by_cases hin : k < xs.length
      · obtain ⟨b, off, rfl, hbs, hc⟩ := hs.at hb hin
        have g2 : (k : Int) < xs.length := by omega
        have l1 : decide ((k : Int) < (xs.length : Int)) = true := decide_eq_true g2
        have l1' : decide (k < xs.length) = true := decide_eq_true hin
        have l3 : decide ((xs.length : Int) ≤ (k : Int)) = false := decide_eq_false (by omega)
        have l3' : decide (xs.length ≤ k) = false := decide_eq_false (by omega)
        by_cases hd : f k < el xs k
        · have HN : Hid (dTo xs f (k + 1) = true) := by unfold Hid dTo dOk; rw [HA.out, if_pos hin]; simpa using hd
          have l2 : decide (el xs k ≤ f k) = false := decide_eq_false (by omega)
          go_wp2
          go_quiet (fail)
          go_wp2
          exact ⟨⟨k + 1, by omega, by go_num, HN, _, rfl⟩, by simp [intOf]; omega⟩
        · have HN := Lib.hid (dTo_no (xs := xs) (f := f) hlt (by unfold dOk; rw [if_pos hin]; simpa using hd))
          have l2 : decide (el xs k ≤ f k) = true := decide_eq_true (by omega)
          go_wp2
          go_quiet (fail)
          go_wp2
          go_ret
          exact ⟨by rw [HN.out]; rfl, (by repeat' (first | (with_reducible first | assumption | exact Below.refl _ _ | refine Below.drew ?_ | refine Below.alloc ?_ ?_ _ | refine Below.setCell ?_ ?_ _ | refine below_setR ?_ ?_ _ | refine below_dn ?_ _ | refine Below.trans ?_ (below_mo _ _ _ ?_) | refine Below.trans ?_ (below_mq _ _ ?_) | exact Nat.le_refl _) | (simp; done) | (simp; omega) | omega))⟩
      · have l1 : decide ((k : Int) < (xs.length : Int)) = false := decide_eq_false (by omega)
        have l1' : decide (k < xs.length) = false := decide_eq_false (by omega)
        have l3 : decide ((xs.length : Int) ≤ (k : Int)) = true := decide_eq_true (by omega)
        have l3' : decide (xs.length ≤ k) = true := decide_eq_true (by omega)
        by_cases hd : f k = 0
        · have HN : Hid (dTo xs f (k + 1) = true) := by unfold Hid dTo dOk; rw [HA.out, if_neg hin]; simpa using hd
          have l2 : (f k == 0) = true := beq_iff_eq.2 hd
          have l4 : (f k != 0) = false := congrArg not l2
          clear hd
          go_wp2
          go_quiet (fail)
          go_wp2
          exact ⟨⟨k + 1, by omega, by go_num, HN, _, rfl⟩, by simp [intOf]; omega⟩
        · have HN := Lib.hid (dTo_no (xs := xs) (f := f) hlt (by unfold dOk; rw [if_neg hin]; simpa using hd))
          have l2 : (f k == 0) = false := beq_eq_false_iff_ne.2 hd
          have l4 : (f k != 0) = true := congrArg not l2
          clear hd
          go_wp2
          go_quiet (fail)
          go_wp2
          go_ret
          exact ⟨by rw [HN.out]; rfl, (by repeat' (first | (with_reducible first | assumption | exact Below.refl _ _ | refine Below.drew ?_ | refine Below.alloc ?_ ?_ _ | refine Below.setCell ?_ ?_ _ | refine below_setR ?_ ?_ _ | refine below_dn ?_ _ | refine Below.trans ?_ (below_mo _ _ _ ?_) | refine Below.trans ?_ (below_mq _ _ ?_) | exact Nat.le_refl _) | (simp; done) | (simp; omega) | omega))⟩
    · obtain rfl : k = 8 := by omega
      go_wp2
      go_ret
      exact ⟨by rw [HA.out]; rfl, (by repeat' (first | (with_reducible first | assumption | exact Below.refl _ _ | refine Below.drew ?_ | refine Below.alloc ?_ ?_ _ | refine Below.setCell ?_ ?_ _ | refine below_setR ?_ ?_ _ | refine below_dn ?_ _ | refine Below.trans ?_ (below_mo _ _ _ ?_) | refine Below.trans ?_ (below_mq _ _ ?_) | exact Nat.le_refl _) | (simp; done) | (simp; omega) | omega))⟩
set_option maxHeartbeats 400000 in
theorem specValidDigits_any {A : Option Addr} {xs : List Int} {W : World} {B : Nat} (hs : Nums .u8 W B A xs) (h8 : b8 xs) (n c : Nat) (hn : xs.length = n) (w : World) (hb : Below B W w) (f : Nat → Int) (hf : d8 f) : Calls Try.prog 117 #[.slice A n c, .agg #[.int .u8 (f 0), .int .u8 (f 1), .int .u8 (f 2), .int .u8 (f 3), .int .u8 (f 4), .int .u8 (f 5), .int .u8 (f 6), .int .u8 (f 7)]] w fun e w' => e = .returned (.bool (okD xs f)) ∧ Below w.heap.size w w' := by
  obtain rfl := hn
  have hB := hs.bsz hb
  have HF := Lib.hid hf
  clear hf
  cases h1 : okS xs
  all_goals
    go_enter Try.func117, Try.ntmps117
    go_wp2_with (first | (go_at_call 97; refine (l01Ok_any hs h8 _ _ rfl _ (by repeat' (first | (with_reducible first | assumption | exact Below.refl _ _ | refine Below.drew ?_ | refine Below.alloc ?_ ?_ _ | refine Below.setCell ?_ ?_ _ | refine below_setR ?_ ?_ _ | refine below_dn ?_ _ | refine Below.trans ?_ (below_mo _ _ _ ?_) | refine Below.trans ?_ (below_mq _ _ ?_) | exact Nat.le_refl _) | (simp; done) | (simp; omega) | omega))).mono ?_; rintro e w' ⟨rfl, rfl⟩) | (go_at_call 180; refine (l01Digits_any hs h8 _ _ rfl _ (by repeat' (first | (with_reducible first | assumption | exact Below.refl _ _ | refine Below.drew ?_ | refine Below.alloc ?_ ?_ _ | refine Below.setCell ?_ ?_ _ | refine below_setR ?_ ?_ _ | refine below_dn ?_ _ | refine Below.trans ?_ (below_mo _ _ _ ?_) | refine Below.trans ?_ (below_mq _ _ ?_) | exact Nat.le_refl _) | (simp; done) | (simp; omega) | omega)) f HF.out).mono ?_; rintro e w' ⟨rfl, hb_⟩; obtain ⟨os_, d_, rfl⟩ := mo_of hb_; clear hb_))
    go_ret
    exact ⟨by simp [okD_eq, *], (by repeat' (first | (with_reducible first | assumption | exact Below.refl _ _ | refine Below.drew ?_ | refine Below.alloc ?_ ?_ _ | refine Below.setCell ?_ ?_ _ | refine below_setR ?_ ?_ _ | refine below_dn ?_ _ | refine Below.trans ?_ (below_mo _ _ _ ?_) | refine Below.trans ?_ (below_mq _ _ ?_) | exact Nat.le_refl _) | (simp; done) | (simp; omega) | omega))⟩
theorem idxD (f : Nat → Int) {k : Nat} (h : k < 8) (W : World) : (Instr.index 43 (.agg #[.int .u8 (f 0), .int .u8 (f 1), .int .u8 (f 2), .int .u8 (f 3), .int .u8 (f 4), .int .u8 (f 5), .int .u8 (f 6), .int .u8 (f 7)]) (.int .i64 (k : Int))).run Try.prog W = .ok (.int .u8 (f k)) W := by
  rcases lt8 h with rfl | rfl | rfl | rfl | rfl | rfl | rfl | rfl
  all_goals kernel_rfl
set_option maxHeartbeats 2000000 in
theorem ValidDigits_any {A : Option Addr} {xs : List Int} {W : World} {B : Nat} (hs : Nums .u8 W B A xs) (h8 : b8 xs) (n c : Nat) (hn : xs.length = n) (w : World) (hb : Below B W w) (f : Nat → Int) (hf : d8 f) : Calls Try.prog 115 #[.slice A n c, .agg #[.int .u8 (f 0), .int .u8 (f 1), .int .u8 (f 2), .int .u8 (f 3), .int .u8 (f 4), .int .u8 (f 5), .int .u8 (f 6), .int .u8 (f 7)]] w fun e w' => e = .returned (.bool (okD xs f)) ∧ Below w.heap.size w w' := by
  obtain rfl := hn
  have hl := hs.len
  have hB := hs.bsz hb
  have HF := Lib.hid hf
  clear hf
  have HD := Lib.hid (okD_eq xs f)
  cases h1 : okS xs
  · go_enter Try.func115, Try.ntmps115
    go_wp2_with (go_at_call 26; refine (ValidStack_any hs h8 _ _ rfl _ (by repeat' (first | (with_reducible first | assumption | exact Below.refl _ _ | refine Below.drew ?_ | refine Below.alloc ?_ ?_ _ | refine Below.setCell ?_ ?_ _ | refine below_setR ?_ ?_ _ | refine below_dn ?_ _ | refine Below.trans ?_ (below_mo _ _ _ ?_) | refine Below.trans ?_ (below_mq _ _ ?_) | exact Nat.le_refl _) | (simp; done) | (simp; omega) | omega))).mono ?_; rintro e w' ⟨rfl, rfl⟩)
    go_ret
    exact ⟨by rw [HD.out, h1]; rfl, (by repeat' (first | (with_reducible first | assumption | exact Below.refl _ _ | refine Below.drew ?_ | refine Below.alloc ?_ ?_ _ | refine Below.setCell ?_ ?_ _ | refine below_setR ?_ ?_ _ | refine below_dn ?_ _ | refine Below.trans ?_ (below_mo _ _ _ ?_) | refine Below.trans ?_ (below_mq _ _ ?_) | exact Nat.le_refl _) | (simp; done) | (simp; omega) | omega))⟩
  have H1 := Lib.hid h1
  go_enter Try.func115, Try.ntmps115
  go_wp2_with (go_at_call 26; refine (ValidStack_any hs h8 _ _ rfl _ (by repeat' (first | (with_reducible first | assumption | exact Below.refl _ _ | refine Below.drew ?_ | refine Below.alloc ?_ ?_ _ | refine Below.setCell ?_ ?_ _ | refine below_setR ?_ ?_ _ | refine below_dn ?_ _ | refine Below.trans ?_ (below_mo _ _ _ ?_) | refine Below.trans ?_ (below_mq _ _ ?_) | exact Nat.le_refl _) | (simp; done) | (simp; omega) | omega))).mono ?_; rintro e w' ⟨rfl, rfl⟩)
  clear h1
  go_loop [11] (fun i => ∃ k : Nat, k ≤ 8 ∧ i = .int .i64 k ∧ Hid (dTo xs f k = true)) (fun i => 8 - (intOf i).toNat)
  case atStart => exact ⟨0, Nat.zero_le _, rfl, (rfl : dTo xs f 0 = true)⟩
  case round =>
    obtain ⟨k, hk, rfl, HA⟩ := hrel
    by_cases hlt : k < 8
    · have hix := fun W1 => idxD f hlt W1
      obtain ⟨f0, f1⟩ := HF.out k
      have g0 : (0 : Int) ≤ (k : Int) := by omega
      have g1 : (k : Int) < 8 := by omega
      by_cases hin : k < xs.length
      · obtain ⟨b, off, rfl, hbs, hc⟩ := hs.at hb hin
        have g2 : (k : Int) < xs.length := by omega
        have l1 : decide ((k : Int) < (xs.length : Int)) = true := decide_eq_true g2
        have l1' : decide (k < xs.length) = true := decide_eq_true hin
        have l3 : decide ((xs.length : Int) ≤ (k : Int)) = false := decide_eq_false (by omega)
        have l3' : decide (xs.length ≤ k) = false := decide_eq_false (by omega)
        by_cases hd : f k < el xs k
        · have HN : Hid (dTo xs f (k + 1) = true) := by unfold Hid dTo dOk; rw [HA.out, if_pos hin]; simpa using hd
          have l2 : decide (el xs k ≤ f k) = false := decide_eq_false (by omega)
          go_wp2
          exact ⟨⟨k + 1, by omega, by go_num, HN⟩, by simp [intOf]; omega⟩
        · have HN := Lib.hid (dTo_no (xs := xs) (f := f) hlt (by unfold dOk; rw [if_pos hin]; simpa using hd))
          have l2 : decide (el xs k ≤ f k) = true := decide_eq_true (by omega)
          go_wp2
          go_ret
          exact ⟨by rw [HD.out, HN.out, Bool.and_false]; rfl, (by repeat' (first | (with_reducible first | assumption | exact Below.refl _ _ | refine Below.drew ?_ | refine Below.alloc ?_ ?_ _ | refine Below.setCell ?_ ?_ _ | refine below_setR ?_ ?_ _ | refine below_dn ?_ _ | refine Below.trans ?_ (below_mo _ _ _ ?_) | refine Below.trans ?_ (below_mq _ _ ?_) | exact Nat.le_refl _) | (simp; done) | (simp; omega) | omega))⟩
      · have l1 : decide ((k : Int) < (xs.length : Int)) = false := decide_eq_false (by omega)
        have l1' : decide (k < xs.length) = false := decide_eq_false (by omega)
        have l3 : decide ((xs.length : Int) ≤ (k : Int)) = true := decide_eq_true (by omega)
        have l3' : decide (xs.length ≤ k) = true := decide_eq_true (by omega)
        by_cases hd : f k = 0
        · have HN : Hid (dTo xs f (k + 1) = true) := by unfold Hid dTo dOk; rw [HA.out, if_neg hin]; simpa using hd
          have l2 : decide (0 < f k) = false := decide_eq_false (by omega)
          clear hd
          go_wp2
          exact ⟨⟨k + 1, by omega, by go_num, HN⟩, by simp [intOf]; omega⟩
        · have HN := Lib.hid (dTo_no (xs := xs) (f := f) hlt (by unfold dOk; rw [if_neg hin]; simpa using hd))
          have l2 : decide (0 < f k) = true := decide_eq_true (by omega)
          clear hd
          go_wp2
          go_ret
          exact ⟨by rw [HD.out, HN.out, Bool.and_false]; rfl, (by repeat' (first | (with_reducible first | assumption | exact Below.refl _ _ | refine Below.drew ?_ | refine Below.alloc ?_ ?_ _ | refine Below.setCell ?_ ?_ _ | refine below_setR ?_ ?_ _ | refine below_dn ?_ _ | refine Below.trans ?_ (below_mo _ _ _ ?_) | refine Below.trans ?_ (below_mq _ _ ?_) | exact Nat.le_refl _) | (simp; done) | (simp; omega) | omega))⟩
    · obtain rfl : k = 8 := by omega
      go_wp2
      go_ret
      exact ⟨by rw [HD.out, HA.out, H1.out]; rfl, (by repeat' (first | (with_reducible first | assumption | exact Below.refl _ _ | refine Below.drew ?_ | refine Below.alloc ?_ ?_ _ | refine Below.setCell ?_ ?_ _ | refine below_setR ?_ ?_ _ | refine below_dn ?_ _ | refine Below.trans ?_ (below_mo _ _ _ ?_) | refine Below.trans ?_ (below_mq _ _ ?_) | exact Nat.le_refl _) | (simp; done) | (simp; omega) | omega))⟩
end Go.Proofs.Ytkphbagckbbalaa.X
