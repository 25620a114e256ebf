/- Portions: compared, and the simplest one between two. Conditions: none. -/
import Derived.Test.YtbihgnmiocfelaaKPLaws
namespace Go.Proofs.Ytbihgnmiocfelaa.X
open Go.RowKit
set_option linter.unusedVariables false
set_option linter.unusedSimpArgs false
set_option maxRecDepth 100000
theorem within_b (n a b : Int) (w : World) : Calls Try.prog 116 #[.int .i64 n, .int .i64 a, .int .i64 b] w fun e w' => e = .returned (.bool (decide (a ≤ n) && decide (n ≤ b))) ∧ w = w' := by
  by_cases h1 : a ≤ n
  all_goals by_cases h2 : n ≤ b
  all_goals
    go_enter Try.func116, Try.ntmps116
    go_wp2
    go_ret
    exact ⟨by simp [*], rfl⟩
theorem within_t (n a b : Int) (w : World) (h : a ≤ n ∧ n ≤ b) : Calls Try.prog 116 #[.int .i64 n, .int .i64 a, .int .i64 b] w fun e w' => e = .returned (.bool true) ∧ w = w' := by
  have := within_b n a b w
  rwa [decide_eq_true h.1, decide_eq_true h.2] at this
theorem within_f (n a b : Int) (w : World) (h : ¬ (a ≤ n ∧ n ≤ b)) : Calls Try.prog 116 #[.int .i64 n, .int .i64 a, .int .i64 b] w fun e w' => e = .returned (.bool false) ∧ w = w' := by
  have := within_b n a b w
  rwa [show (decide (a ≤ n) && decide (n ≤ b)) = false by rw [Bool.and_eq_false_iff]; simp only [decide_eq_false_iff_not]; omega] at this
theorem l00In_b (n a b : Int) (w : World) : Calls Try.prog 119 #[.int .i64 n, .int .i64 a, .int .i64 b] w fun e w' => e = .returned (.bool (decide (a ≤ n) && decide (n ≤ b))) ∧ w = w' := by
  by_cases h1 : a ≤ n
  all_goals by_cases h2 : n ≤ b
  all_goals
    go_enter Try.func119, Try.ntmps119
    go_wp2
    go_ret
    exact ⟨by simp [*], rfl⟩
theorem l00In_t (n a b : Int) (w : World) (h : a ≤ n ∧ n ≤ b) : Calls Try.prog 119 #[.int .i64 n, .int .i64 a, .int .i64 b] w fun e w' => e = .returned (.bool true) ∧ w = w' := by
  have := l00In_b n a b w
  rwa [decide_eq_true h.1, decide_eq_true h.2] at this
theorem l00In_f (n a b : Int) (w : World) (h : ¬ (a ≤ n ∧ n ≤ b)) : Calls Try.prog 119 #[.int .i64 n, .int .i64 a, .int .i64 b] w fun e w' => e = .returned (.bool false) ∧ w = w' := by
  have := l00In_b n a b w
  rwa [show (decide (a ≤ n) && decide (n ≤ b)) = false by rw [Bool.and_eq_false_iff]; simp only [decide_eq_false_iff_not]; omega] at this
theorem alloc_mo_eq (w : World) (os ps : Array Obj) (d e : Nat) (o : Obj) : mo ((mo w os d).alloc o) ps e = mo w (os.push o ++ ps) e := by
  simp [mo, World.alloc, Array.append_assoc]
def okPo (x y : Int) : Prop := (0 ≤ x ∧ x ≤ 1000000000) ∧ 1 ≤ y ∧ y ≤ 1000000000
instance (x y : Int) : Decidable (okPo x y) := by unfold okPo; infer_instance
theorem portionOK_t (x y : Int) (w : World) (h : okPo x y) : Calls Try.prog 124 #[.agg #[.int .i64 x, .int .i64 y]] w fun e w' => e = .returned (.bool true) ∧ Below w.heap.size w w' := by
  go_enter Try.func124, Try.ntmps124
  go_wp2_with fail
  refine (within_t _ _ _ _ h.1).mono ?_
  rintro e w' ⟨rfl, rfl⟩
  go_wp2_with fail
  refine (within_t _ _ _ _ h.2).mono ?_
  rintro e w' ⟨rfl, rfl⟩
  go_wp2
  go_ret
  exact ⟨rfl, (by repeat' (first | (with_reducible first | assumption | exact Below.refl _ _ | refine Below.drew ?_ | refine Below.alloc ?_ ?_ _ | refine Below.setCell ?_ ?_ _ | refine below_setR ?_ ?_ _ | refine below_dn ?_ _ | refine Below.trans ?_ (below_mo _ _ _ ?_) | refine Below.trans ?_ (below_mq _ _ ?_) | exact Nat.le_refl _) | (simp; done) | (simp; omega) | omega))⟩
theorem portionOK_f (x y : Int) (w : World) (h : ¬ okPo x y) : Calls Try.prog 124 #[.agg #[.int .i64 x, .int .i64 y]] w fun e w' => e = .returned (.bool false) ∧ Below w.heap.size w w' := by
  by_cases h1 : 0 ≤ x ∧ x ≤ 1000000000
  · have H2 : Hid (¬ (1 ≤ y ∧ y ≤ 1000000000)) := fun h2 => h ⟨h1, h2⟩
    clear h
    go_enter Try.func124, Try.ntmps124
    go_wp2_with fail
    refine (within_t _ _ _ _ h1).mono ?_
    rintro e w' ⟨rfl, rfl⟩
    go_wp2_with fail
    refine (within_f _ _ _ _ H2.out).mono ?_
    rintro e w' ⟨rfl, rfl⟩
    go_wp2
    go_ret
    exact ⟨rfl, (by repeat' (first | (with_reducible first | assumption | exact Below.refl _ _ | refine Below.drew ?_ | refine Below.alloc ?_ ?_ _ | refine Below.setCell ?_ ?_ _ | refine below_setR ?_ ?_ _ | refine below_dn ?_ _ | refine Below.trans ?_ (below_mo _ _ _ ?_) | refine Below.trans ?_ (below_mq _ _ ?_) | exact Nat.le_refl _) | (simp; done) | (simp; omega) | omega))⟩
  · have H1 := Lib.hid h1
    clear h h1
    go_enter Try.func124, Try.ntmps124
    go_wp2_with fail
    refine (within_f _ _ _ _ H1.out).mono ?_
    rintro e w' ⟨rfl, rfl⟩
    go_wp2
    go_ret
    exact ⟨rfl, (by repeat' (first | (with_reducible first | assumption | exact Below.refl _ _ | refine Below.drew ?_ | refine Below.alloc ?_ ?_ _ | refine Below.setCell ?_ ?_ _ | refine below_setR ?_ ?_ _ | refine below_dn ?_ _ | refine Below.trans ?_ (below_mo _ _ _ ?_) | refine Below.trans ?_ (below_mq _ _ ?_) | exact Nat.le_refl _) | (simp; done) | (simp; omega) | omega))⟩
theorem l06Less_b (a b c d : Int) (w : World) (h1 : 0 ≤ a * d ∧ a * d ≤ 1000000000000000000) (h2 : 0 ≤ c * b ∧ c * b ≤ 1000000000000000000) : Calls Try.prog 121 #[.agg #[.int .i64 a, .int .i64 b], .agg #[.int .i64 c, .int .i64 d]] w fun e w' => e = .returned (.bool (decide (a * d < c * b))) ∧ Below w.heap.size w w' := by
  obtain ⟨g1, g2⟩ := h1
  obtain ⟨g3, g4⟩ := h2
  go_enter Try.func121, Try.ntmps121
  go_wp2
  go_ret
  exact ⟨rfl, (by repeat' (first | (with_reducible first | assumption | exact Below.refl _ _ | refine Below.drew ?_ | refine Below.alloc ?_ ?_ _ | refine Below.setCell ?_ ?_ _ | refine below_setR ?_ ?_ _ | refine below_dn ?_ _ | refine Below.trans ?_ (below_mo _ _ _ ?_) | refine Below.trans ?_ (below_mq _ _ ?_) | exact Nat.le_refl _) | (simp; done) | (simp; omega) | omega))⟩
theorem l06Less_t (a b c d : Int) (w : World) (h1 : 0 ≤ a * d ∧ a * d ≤ 1000000000000000000) (h2 : 0 ≤ c * b ∧ c * b ≤ 1000000000000000000) (h : a * d < c * b) : Calls Try.prog 121 #[.agg #[.int .i64 a, .int .i64 b], .agg #[.int .i64 c, .int .i64 d]] w fun e w' => e = .returned (.bool true) ∧ Below w.heap.size w w' := by
  have := l06Less_b a b c d w h1 h2
  rwa [decide_eq_true h] at this
theorem l06Less_f (a b c d : Int) (w : World) (h1 : 0 ≤ a * d ∧ a * d ≤ 1000000000000000000) (h2 : 0 ≤ c * b ∧ c * b ≤ 1000000000000000000) (h : ¬ a * d < c * b) : Calls Try.prog 121 #[.agg #[.int .i64 a, .int .i64 b], .agg #[.int .i64 c, .int .i64 d]] w fun e w' => e = .returned (.bool false) ∧ Below w.heap.size w w' := by
  have := l06Less_b a b c d w h1 h2
  rwa [decide_eq_false h] at this
theorem portionLess_b (a b c d : Int) (w : World) (h1 : 0 ≤ a * d ∧ a * d ≤ 1000000000000000000) (h2 : 0 ≤ c * b ∧ c * b ≤ 1000000000000000000) : Calls Try.prog 117 #[.agg #[.int .i64 a, .int .i64 b], .agg #[.int .i64 c, .int .i64 d]] w fun e w' => e = .returned (.bool (decide (a * d < c * b))) ∧ Below w.heap.size w w' := by
  obtain ⟨g1, g2⟩ := h1
  obtain ⟨g3, g4⟩ := h2
  go_enter Try.func117, Try.ntmps117
  go_wp2
  go_ret
  exact ⟨rfl, (by repeat' (first | (with_reducible first | assumption | exact Below.refl _ _ | refine Below.drew ?_ | refine Below.alloc ?_ ?_ _ | refine Below.setCell ?_ ?_ _ | refine below_setR ?_ ?_ _ | refine below_dn ?_ _ | refine Below.trans ?_ (below_mo _ _ _ ?_) | refine Below.trans ?_ (below_mq _ _ ?_) | exact Nat.le_refl _) | (simp; done) | (simp; omega) | omega))⟩
theorem portionLess_t (a b c d : Int) (w : World) (h1 : 0 ≤ a * d ∧ a * d ≤ 1000000000000000000) (h2 : 0 ≤ c * b ∧ c * b ≤ 1000000000000000000) (h : a * d < c * b) : Calls Try.prog 117 #[.agg #[.int .i64 a, .int .i64 b], .agg #[.int .i64 c, .int .i64 d]] w fun e w' => e = .returned (.bool true) ∧ Below w.heap.size w w' := by
  have := portionLess_b a b c d w h1 h2
  rwa [decide_eq_true h] at this
theorem portionLess_f (a b c d : Int) (w : World) (h1 : 0 ≤ a * d ∧ a * d ≤ 1000000000000000000) (h2 : 0 ≤ c * b ∧ c * b ≤ 1000000000000000000) (h : ¬ a * d < c * b) : Calls Try.prog 117 #[.agg #[.int .i64 a, .int .i64 b], .agg #[.int .i64 c, .int .i64 d]] w fun e w' => e = .returned (.bool false) ∧ Below w.heap.size w w' := by
  have := portionLess_b a b c d w h1 h2
  rwa [decide_eq_false h] at this
def sceil (lp lq q : Int) : Int := (lp * q + lq - 1) / lq
def sFind (lp lq hp hq : Int) : Nat → Int → Int
  | 0, q => q
  | n + 1, q => if sceil lp lq q * hq < hp * q then q else sFind lp lq hp hq n (q + 1)
def sQ (lp lq hp hq : Int) : Int := sFind lp lq hp hq (lq - 1).toNat 1
theorem sFind_hit {lp lq hp hq q : Int} (h : sceil lp lq q * hq < hp * q) (n : Nat) : sFind lp lq hp hq n q = q := by
  cases n with
  | zero => rfl
  | succ n => simp only [sFind]; rw [if_pos h]
theorem sFind_miss {lp lq hp hq q : Int} (h : ¬ sceil lp lq q * hq < hp * q) (hq' : q < lq) : sFind lp lq hp hq (lq - q).toNat q = sFind lp lq hp hq (lq - (q + 1)).toNat (q + 1) := by
  have e : (lq - q).toNat = (lq - (q + 1)).toNat + 1 := by omega
  rw [e]
  simp only [sFind]
  rw [if_neg h]
theorem mul_bd {a b A B : Int} (ha : 0 ≤ a ∧ a ≤ A) (hb : 0 ≤ b ∧ b ≤ B) : 0 ≤ a * b ∧ a * b ≤ A * B :=
  ⟨Int.mul_nonneg ha.1 hb.1, Int.mul_le_mul ha.2 hb.2 hb.1 (Int.le_trans ha.1 ha.2)⟩
theorem sceil_bd {lp lq q : Int} (h0 : 0 ≤ lp) (h1 : 1 ≤ lq) (h2 : 1 ≤ q) (h3 : q ≤ lq) : 0 ≤ sceil lp lq q ∧ sceil lp lq q ≤ lp := by
  unfold sceil
  have h4 := Int.mul_nonneg h0 (show 0 ≤ q by omega)
  refine ⟨Int.ediv_nonneg (by omega) (by omega), ?_⟩
  have h5 : lp * q ≤ lp * lq := Int.mul_le_mul_of_nonneg_left h3 h0
  have h6 : lp * q + lq - 1 < (lp + 1) * lq := by rw [Int.add_mul]; omega
  have := (Int.ediv_lt_iff_lt_mul (show 0 < lq by omega)).2 h6
  omega
theorem sceil_end {lp lq : Int} (h1 : 1 ≤ lq) : sceil lp lq lq = lp := by
  unfold sceil
  rw [show lp * lq + lq - 1 = (lq - 1) + lp * lq by omega, Int.add_mul_ediv_right _ _ (by omega), Int.ediv_eq_zero_of_lt (by omega) (by omega)]
  omega
set_option maxHeartbeats 4000000 in
theorem l06Simplest_any (lp lq hp hq : Int) (w : World) (h1 : 0 ≤ lp ∧ lp ≤ 1000000000) (h2 : 1 ≤ lq ∧ lq ≤ 100000) (h3 : 0 ≤ hp ∧ hp ≤ 1000000000) (h4 : 1 ≤ hq ∧ hq ≤ 100000) (hlt : lp * hq < hp * lq) :
    Calls Try.prog 123 #[.agg #[.int .i64 lp, .int .i64 lq], .agg #[.int .i64 hp, .int .i64 hq]] w fun e w' => e = .returned (.agg #[.int .i64 (sceil lp lq (sQ lp lq hp hq)), .int .i64 (sQ lp lq hp hq)]) ∧ Below w.heap.size w w' := by
  have HL := Lib.hid hlt
  clear hlt
  obtain ⟨a1, a2⟩ := h1
  obtain ⟨a3, a4⟩ := h2
  obtain ⟨a5, a6⟩ := h3
  obtain ⟨a7, a8⟩ := h4
  go_enter Try.func123, Try.ntmps123
  go_wp2
  go_loopw [5] (fun i wr => ∃ (q : Int) (os : Array Obj) (dn : Nat), 1 ≤ q ∧ q ≤ lq ∧ i = .int .i64 q ∧ Hid (sFind lp lq hp hq (lq - q).toNat q = sQ lp lq hp hq) ∧ wr = mo (((w.alloc (.cells #[.int .i64 lp, .int .i64 lq] 28)).alloc (.cells #[.int .i64 hp, .int .i64 hq] 28)).alloc (.cells #[.int .i64 0, .int .i64 0] 28)) os dn) (fun i _ => (lq - intOf i).toNat)
  case atStart => exact ⟨1, #[], _, by omega, by omega, rfl, (rfl : sFind lp lq hp hq (lq - 1).toNat 1 = _), (mo_nil _).symm⟩
  case round =>
    obtain ⟨q, os, dn, q0, q1, rfl, HQ, rfl⟩ := hrel
    obtain ⟨m0, m1⟩ := mul_bd ⟨a1, a2⟩ (⟨by omega, by omega⟩ : 0 ≤ q ∧ q ≤ 100000)
    obtain ⟨s0, s1⟩ := sceil_bd a1 a3 q0 q1
    obtain ⟨t0, t1⟩ := mul_bd ⟨s0, (by omega : sceil lp lq q ≤ 1000000000)⟩ (⟨by omega, a8⟩ : 0 ≤ hq ∧ hq ≤ 100000)
    obtain ⟨t2, t3⟩ := mul_bd ⟨a5, a6⟩ (⟨by omega, by omega⟩ : 0 ≤ q ∧ q ≤ 100000)
    have HS : Hid (sceil lp lq q = (lp * q + lq - 1) / lq) := rfl
    have d0 : 0 ≤ (lp * q + lq - 1) / lq := s0
    have d1 : (lp * q + lq - 1) / lq ≤ 1000000000 := by have : (lp * q + lq - 1) / lq ≤ lp := s1; omega
    have z0 : w.heap.size < w.heap.size + 1 + 1 + 1 + os.size := by omega
    have z1 : w.heap.size + 1 < w.heap.size + 1 + 1 + 1 + os.size := by omega
    have z2 : w.heap.size + 1 + 1 < w.heap.size + 1 + 1 + 1 + os.size := by omega
    by_cases hc : sceil lp lq q * hq < hp * q
    · have HR : Hid (sQ lp lq hp hq = q) := by unfold Hid; rw [← HQ.out]; exact sFind_hit hc _
      have HC := Lib.hid hc
      clear hc
      go_wp2_with fail
      refine (l06Less_t ((lp * q + lq - 1) / lq) q hp hq _ ⟨t0, by have : (lp * q + lq - 1) / lq * hq ≤ 1000000000 * 100000 := t1; omega⟩ ⟨t2, by omega⟩ HC.out).mono ?_
      rintro e w' ⟨rfl, hb_⟩
      obtain ⟨os', dn', rfl⟩ := mo_of hb_
      clear hb_
      go_wp2
      refine bodyPost_ret (v := .agg #[.int .i64 ((lp * q + lq - 1) / lq), .int .i64 q]) ?_ rfl ⟨by rw [HR.out]; rfl, (by repeat' (first | (with_reducible first | assumption | exact Below.refl _ _ | refine Below.drew ?_ | refine Below.alloc ?_ ?_ _ | refine Below.setCell ?_ ?_ _ | refine below_setR ?_ ?_ _ | refine below_dn ?_ _ | refine Below.trans ?_ (below_mo _ _ _ ?_) | refine Below.trans ?_ (below_mq _ _ ?_) | exact Nat.le_refl _) | (simp; done) | (simp; omega) | omega))⟩
      have z3 : w.heap.size + 1 + 1 < w.heap.size + 1 + 1 + 1 + os.size + 1 := by omega
      simp [results, Try.results123, go_sem, z2, z3]
    · have hlt : q < lq := by
        rcases Int.lt_or_le q lq with h | h
        · exact h
        · have e : q = lq := by omega
          subst e
          rw [sceil_end a3] at hc
          exact absurd HL.out hc
      have HR := Lib.hid (sFind_miss hc hlt)
      have HC := Lib.hid hc
      clear hc
      go_wp2_with fail
      refine (l06Less_f ((lp * q + lq - 1) / lq) q hp hq _ ⟨t0, by have : (lp * q + lq - 1) / lq * hq ≤ 1000000000 * 100000 := t1; omega⟩ ⟨t2, by omega⟩ (Int.not_lt.2 HC.out)).mono ?_
      rintro e w' ⟨rfl, hb_⟩
      obtain ⟨os', dn', rfl⟩ := mo_of hb_
      clear hb_
      go_wp2
      exact ⟨⟨q + 1, _, _, by omega, by omega, rfl, by unfold Hid; rw [← HR.out]; exact HQ.out, alloc_mo_eq _ _ _ _ _ _⟩, by simp [intOf]; omega⟩
theorem ceil_any (a b : Int) (w : World) (ha : 0 ≤ a ∧ a ≤ 1000000000000000000) (hb : 1 ≤ b ∧ b ≤ 1000000000) : Calls Try.prog 169 #[.int .i64 a, .int .i64 b] w fun e w' => e = .returned (.int .i64 ((a + b - 1) / b)) ∧ w = w' := by
  obtain ⟨h1, h2⟩ := ha
  obtain ⟨h3, h4⟩ := hb
  go_enter Try.func169, Try.ntmps169
  go_wp2
  go_ret
  exact ⟨rfl, rfl⟩
set_option maxHeartbeats 4000000 in
theorem simplest_any (lp lq hp hq : Int) (w : World) (h1 : 0 ≤ lp ∧ lp ≤ 1000000000) (h2 : 1 ≤ lq ∧ lq ≤ 100000) (h3 : 0 ≤ hp ∧ hp ≤ 1000000000) (h4 : 1 ≤ hq ∧ hq ≤ 100000) (hlt : lp * hq < hp * lq) :
    Calls Try.prog 122 #[.agg #[.int .i64 lp, .int .i64 lq], .agg #[.int .i64 hp, .int .i64 hq]] w fun e w' => e = .returned (.agg #[.int .i64 (sceil lp lq (sQ lp lq hp hq)), .int .i64 (sQ lp lq hp hq)]) ∧ Below w.heap.size w w' := by
  have HL := Lib.hid hlt
  clear hlt
  obtain ⟨a1, a2⟩ := h1
  obtain ⟨a3, a4⟩ := h2
  obtain ⟨a5, a6⟩ := h3
  obtain ⟨a7, a8⟩ := h4
  go_enter Try.func122, Try.ntmps122
  go_wp2
  go_loopw [5] (fun i wr => ∃ (q : Int) (os : Array Obj) (dn : Nat), 1 ≤ q ∧ q ≤ lq ∧ i = .int .i64 q ∧ Hid (sFind lp lq hp hq (lq - q).toNat q = sQ lp lq hp hq) ∧ wr = mo (((w.alloc (.cells #[.int .i64 lp, .int .i64 lq] 28)).alloc (.cells #[.int .i64 hp, .int .i64 hq] 28)).alloc (.cells #[.int .i64 0, .int .i64 0] 28)) os dn) (fun i _ => (lq - intOf i).toNat)
  case atStart => exact ⟨1, #[], _, by omega, by omega, rfl, (rfl : sFind lp lq hp hq (lq - 1).toNat 1 = _), (mo_nil _).symm⟩
  case round =>
    obtain ⟨q, os, dn, q0, q1, rfl, HQ, rfl⟩ := hrel
    obtain ⟨m0, m1⟩ := mul_bd ⟨a1, a2⟩ (⟨by omega, by omega⟩ : 0 ≤ q ∧ q ≤ 100000)
    obtain ⟨s0, s1⟩ := sceil_bd a1 a3 q0 q1
    obtain ⟨t0, t1⟩ := mul_bd ⟨s0, (by omega : sceil lp lq q ≤ 1000000000)⟩ (⟨by omega, a8⟩ : 0 ≤ hq ∧ hq ≤ 100000)
    obtain ⟨t2, t3⟩ := mul_bd ⟨a5, a6⟩ (⟨by omega, by omega⟩ : 0 ≤ q ∧ q ≤ 100000)
    have HS : Hid (sceil lp lq q = (lp * q + lq - 1) / lq) := rfl
    have d0 : 0 ≤ (lp * q + lq - 1) / lq := s0
    have d1 : (lp * q + lq - 1) / lq ≤ 1000000000 := by have : (lp * q + lq - 1) / lq ≤ lp := s1; omega
    have z0 : w.heap.size < w.heap.size + 1 + 1 + 1 + os.size := by omega
    have z1 : w.heap.size + 1 < w.heap.size + 1 + 1 + 1 + os.size := by omega
    have z2 : w.heap.size + 1 + 1 < w.heap.size + 1 + 1 + 1 + os.size := by omega
    by_cases hc : sceil lp lq q * hq < hp * q
    · have HR : Hid (sQ lp lq hp hq = q) := by unfold Hid; rw [← HQ.out]; exact sFind_hit hc _
      have HC := Lib.hid hc
      clear hc
      go_wp2_with fail
      refine (ceil_any _ _ _ ⟨m0, by omega⟩ ⟨a3, by omega⟩).mono ?_
      rintro e w' ⟨rfl, rfl⟩
      go_wp2_with fail
      refine (portionLess_t ((lp * q + lq - 1) / lq) q hp hq _ ⟨t0, by have : (lp * q + lq - 1) / lq * hq ≤ 1000000000 * 100000 := t1; omega⟩ ⟨t2, by omega⟩ HC.out).mono ?_
      rintro e w' ⟨rfl, hb_⟩
      obtain ⟨os', dn', rfl⟩ := mo_of hb_
      clear hb_
      go_wp2
      refine bodyPost_ret (v := .agg #[.int .i64 ((lp * q + lq - 1) / lq), .int .i64 q]) ?_ rfl ⟨by rw [HR.out]; rfl, (by repeat' (first | (with_reducible first | assumption | exact Below.refl _ _ | refine Below.drew ?_ | refine Below.alloc ?_ ?_ _ | refine Below.setCell ?_ ?_ _ | refine below_setR ?_ ?_ _ | refine below_dn ?_ _ | refine Below.trans ?_ (below_mo _ _ _ ?_) | refine Below.trans ?_ (below_mq _ _ ?_) | exact Nat.le_refl _) | (simp; done) | (simp; omega) | omega))⟩
      have z3 : w.heap.size + 1 + 1 < w.heap.size + 1 + 1 + 1 + os.size + 1 := by omega
      simp [results, Try.results122, go_sem, z2, z3]
    · have hlt : q < lq := by
        rcases Int.lt_or_le q lq with h | h
        · exact h
        · have e : q = lq := by omega
          subst e
          rw [sceil_end a3] at hc
          exact absurd HL.out hc
      have HR := Lib.hid (sFind_miss hc hlt)
      have HC := Lib.hid hc
      clear hc
      go_wp2_with fail
      refine (ceil_any _ _ _ ⟨m0, by omega⟩ ⟨a3, by omega⟩).mono ?_
      rintro e w' ⟨rfl, rfl⟩
      go_wp2_with fail
      refine (portionLess_f ((lp * q + lq - 1) / lq) q hp hq _ ⟨t0, by have : (lp * q + lq - 1) / lq * hq ≤ 1000000000 * 100000 := t1; omega⟩ ⟨t2, by omega⟩ (Int.not_lt.2 HC.out)).mono ?_
      rintro e w' ⟨rfl, hb_⟩
      obtain ⟨os', dn', rfl⟩ := mo_of hb_
      clear hb_
      go_wp2
      exact ⟨⟨q + 1, _, _, by omega, by omega, rfl, by unfold Hid; rw [← HR.out]; exact HQ.out, alloc_mo_eq _ _ _ _ _ _⟩, by simp [intOf]; omega⟩
end Go.Proofs.Ytbihgnmiocfelaa.X
