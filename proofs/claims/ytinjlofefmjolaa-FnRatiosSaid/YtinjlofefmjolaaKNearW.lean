/- The nearest ratio: what the program and the reference compute. Conditions: none. -/
import Derived.Test.YtinjlofefmjolaaKNearL
import Derived.Test.YtinjlofefmjolaaKGearX
namespace Go.Proofs.Ytinjlofefmjolaa.X
open Go.RowKit
set_option linter.unusedVariables false
set_option linter.unusedSimpArgs false
set_option maxRecDepth 100000
/-- which of two ratios is nearer -/
def cmp3 (x y : Int) : Int := if x < y then -1 else if y < x then 1 else 0
def nrV (P Q a b c d : Int) : Int := cmp3 (dI P Q a b * d) (dI P Q c d * b)
theorem cmp3_cases (X Y : Int) : (X < Y ∧ cmp3 X Y = -1) ∨ (¬ X < Y ∧ Y < X ∧ cmp3 X Y = 1) ∨ (¬ X < Y ∧ ¬ Y < X ∧ cmp3 X Y = 0) := by
  unfold cmp3
  by_cases c1 : X < Y
  · left; exact ⟨c1, if_pos c1⟩
  · right
    rw [if_neg c1]
    by_cases c2 : Y < X
    · left; exact ⟨c1, c2, if_pos c2⟩
    · right; exact ⟨c1, c2, if_neg c2⟩
theorem cmp3_bd (X Y : Int) : -1 ≤ cmp3 X Y ∧ cmp3 X Y ≤ 1 := by rcases cmp3_cases X Y with ⟨_, h⟩ | ⟨_, _, h⟩ | ⟨_, _, h⟩ <;> omega
theorem cmp3_lt {x y : Int} : cmp3 x y < 0 ↔ x < y := by rcases cmp3_cases x y with ⟨_, h⟩ | ⟨_, _, h⟩ | ⟨_, _, h⟩ <;> omega
theorem nrV_lt {P Q a b c d : Int} : nrV P Q a b c d < 0 ↔ nlt P Q (a, b) (c, d) := cmp3_lt
def smN (a : Int) : Prop := 1 ≤ a ∧ a ≤ 1000
theorem near_bd {P Q a b d : Int} (hP : 1 ≤ P ∧ P ≤ 1000000000) (hQ : 1 ≤ Q ∧ Q ≤ 1000000000) (ha : smN a) (hb : smN b) (hd : smN d) : ((0 ≤ P * b ∧ P * b ≤ 1000000000000) ∧ 0 ≤ a * Q ∧ a * Q ≤ 1000000000000) ∧ (0 ≤ dI P Q a b ∧ dI P Q a b ≤ 1000000000000) ∧ 0 ≤ dI P Q a b * d ∧ dI P Q a b * d ≤ 1000000000000000 := by
  unfold smN at *
  have m1 := mul_bdG (show 0 ≤ P ∧ P ≤ 1000000000 by omega) (show 0 ≤ b ∧ b ≤ 1000 by omega)
  have m2 := mul_bdG (show 0 ≤ a ∧ a ≤ 1000 by omega) (show 0 ≤ Q ∧ Q ≤ 1000000000 by omega)
  have m3 : 0 ≤ dI P Q a b ∧ dI P Q a b ≤ 1000000000000 := ⟨dI_nn .., dI_bd ⟨m2.1, by omega⟩ ⟨m1.1, by omega⟩⟩
  have m4 := mul_bdG m3 (show 0 ≤ d ∧ d ≤ 1000 by omega)
  exact ⟨⟨⟨m1.1, by omega⟩, m2.1, by omega⟩, m3, m4.1, by omega⟩
theorem mul_commP (P b : Int) : P * b = b * P := Int.mul_comm _ _
theorem l03Size_ok (n v : Int) (h : -2000000000000 ≤ n ∧ n ≤ 2000000000000) (hv : v = max n (-n)) (w : World) : Calls Try.prog 92 #[.int .i64 n] w fun e w' => e = .returned (.int .i64 v) ∧ w = w' := by
  have e1 : IntKind.i64.wrap (-n) = -n := IntWalk.i64_in _ ⟨by omega, by omega⟩
  by_cases h1 : n < 0
  all_goals
    go_enter Try.func92, Try.ntmps92
    go_wp2
    go_ret
    exact ⟨congrArg (fun z => Ending.returned (Value.int .i64 z)) (by omega), rfl⟩
set_option maxHeartbeats 4000000 in
theorem l03Nearer_ok {P Q a b c d : Int} (hP : 1 ≤ P ∧ P ≤ 1000000000) (hQ : 1 ≤ Q ∧ Q ≤ 1000000000) (ha : smN a) (hb : smN b) (hc : smN c) (hd : smN d) (w : World) :
    Calls Try.prog 61 #[.agg #[.int .i64 P, .int .i64 Q], .int .i64 a, .int .i64 b, .int .i64 c, .int .i64 d] w fun e w' => e = .returned (.int .i64 (nrV P Q a b c d)) ∧ Below w.heap.size w w' := by
  obtain ⟨⟨⟨x0, x1⟩, x2, x3⟩, ⟨x4, x5⟩, x6, x7⟩ := near_bd hP hQ ha hb hd
  obtain ⟨⟨⟨y0, y1⟩, y2, y3⟩, ⟨y4, y5⟩, y6, y7⟩ := near_bd hP hQ hc hd hb
  have K1 := Lib.hid (l03Size_ok (P * b - a * Q) (dI P Q a b) ⟨by omega, by omega⟩ (by unfold dI; omega))
  have K2 := Lib.hid (l03Size_ok (P * d - c * Q) (dI P Q c d) ⟨by omega, by omega⟩ (by unfold dI; omega))
  have HV : Hid (nrV P Q a b c d = cmp3 (dI P Q a b * d) (dI P Q c d * b)) := rfl
  have e1 : IntKind.i64.wrap (P * b) = P * b := IntWalk.i64_in _ ⟨by omega, by omega⟩
  have e2 : IntKind.i64.wrap (a * Q) = a * Q := IntWalk.i64_in _ ⟨by omega, by omega⟩
  have e3 : IntKind.i64.wrap (P * b - a * Q) = P * b - a * Q := IntWalk.i64_in _ ⟨by omega, by omega⟩
  have e4 : IntKind.i64.wrap (P * d) = P * d := IntWalk.i64_in _ ⟨by omega, by omega⟩
  have e5 : IntKind.i64.wrap (c * Q) = c * Q := IntWalk.i64_in _ ⟨by omega, by omega⟩
  have e6 : IntKind.i64.wrap (P * d - c * Q) = P * d - c * Q := IntWalk.i64_in _ ⟨by omega, by omega⟩
  have e7 : IntKind.i64.wrap (dI P Q a b * d) = dI P Q a b * d := IntWalk.i64_in _ ⟨by omega, by omega⟩
  have e8 : IntKind.i64.wrap (dI P Q c d * b) = dI P Q c d * b := IntWalk.i64_in _ ⟨by omega, by omega⟩
  clear x0 x1 x2 x3 x4 x5 y0 y1 y2 y3 y4 y5 hP hQ ha hb hc hd
  rcases cmp3_cases (dI P Q a b * d) (dI P Q c d * b) with ⟨c1, h3⟩ | ⟨c1, c2, h3⟩ | ⟨c1, c2, h3⟩
  all_goals
    have HC := Lib.hid h3
    clear h3
    go_enter Try.func61, Try.ntmps61
    (go_wp2_with fail; refine (K1.out _).mono ?_; rintro e w' ⟨rfl, rfl⟩)
    (go_wp2_with fail; refine (K2.out _).mono ?_; rintro e w' ⟨rfl, rfl⟩)
    go_wp2
    go_ret
    exact ⟨congrArg (fun z => Ending.returned (Value.int .i64 z)) (HV.out.trans HC.out).symm, (by repeat' (first | (with_reducible first | assumption | exact Below.refl _ _ | refine Below.drew ?_ | refine Below.alloc ?_ ?_ _ | refine Below.setCell ?_ ?_ _ | refine below_setR ?_ ?_ _ | refine below_dn ?_ _ | refine Below.trans ?_ (below_mo _ _ _ ?_) | refine Below.trans ?_ (below_mq _ _ ?_) | exact Nat.le_refl _) | (simp; done) | (simp; omega) | omega))⟩
theorem absolute_ok (n v : Int) (h : -2000000000000 ≤ n ∧ n ≤ 2000000000000) (hv : v = max n (-n)) (w : World) : Calls Try.prog 90 #[.int .i64 n] w fun e w' => e = .returned (.int .i64 v) ∧ w = w' := by
  have e1 : IntKind.i64.wrap (-n) = -n := IntWalk.i64_in _ ⟨by omega, by omega⟩
  go_enter Try.func90, Try.ntmps90
  go_wp2
  all_goals
    go_ret
    exact ⟨congrArg (fun z => Ending.returned (Value.int .i64 z)) (by omega), rfl⟩
theorem isNaN_ok (n : Int) (w : World) : Calls Try.prog 109 #[.int .i64 n] w fun e w' => e = .returned (.bool false) ∧ w = w' := by
  go_enter Try.func109, Try.ntmps109
  go_wp2
  go_ret
  exact ⟨by simp, rfl⟩
theorem Compare_ok (X Y : Int) (w : World) : Calls Try.prog 91 #[.int .i64 X, .int .i64 Y] w fun e w' => e = .returned (.int .i64 (cmp3 X Y)) ∧ w = w' := by
  rcases cmp3_cases X Y with ⟨c1, h3⟩ | ⟨c1, c2, h3⟩ | ⟨c1, c2, h3⟩
  all_goals
    have HC := Lib.hid h3
    clear h3
    go_enter Try.func91, Try.ntmps91
    go_wp2_with (go_at_call 109; refine (isNaN_ok _ _).mono ?_; rintro e w' ⟨rfl, rfl⟩)
    go_ret
    exact ⟨congrArg (fun z => Ending.returned (Value.int .i64 z)) HC.out.symm, rfl⟩
set_option maxHeartbeats 4000000 in
theorem nearer_ok {P Q a b c d : Int} (hP : 1 ≤ P ∧ P ≤ 1000000000) (hQ : 1 ≤ Q ∧ Q ≤ 1000000000) (ha : smN a) (hb : smN b) (hc : smN c) (hd : smN d) (w : World) :
    Calls Try.prog 57 #[.agg #[.int .i64 P, .int .i64 Q], .int .i64 a, .int .i64 b, .int .i64 c, .int .i64 d] w fun e w' => e = .returned (.int .i64 (nrV P Q a b c d)) ∧ Below w.heap.size w w' := by
  obtain ⟨⟨⟨x0, x1⟩, x2, x3⟩, ⟨x4, x5⟩, x6, x7⟩ := near_bd hP hQ ha hb hd
  obtain ⟨⟨⟨y0, y1⟩, y2, y3⟩, ⟨y4, y5⟩, y6, y7⟩ := near_bd hP hQ hc hd hb
  have K1 := Lib.hid (absolute_ok (a * Q - P * b) (dI P Q a b) ⟨by omega, by omega⟩ rfl)
  have K2 := Lib.hid (absolute_ok (c * Q - P * d) (dI P Q c d) ⟨by omega, by omega⟩ rfl)
  have HV : Hid (nrV P Q a b c d = cmp3 (dI P Q a b * d) (dI P Q c d * b)) := rfl
  have e1 : IntKind.i64.wrap (P * b) = P * b := IntWalk.i64_in _ ⟨by omega, by omega⟩
  have e2 : IntKind.i64.wrap (a * Q) = a * Q := IntWalk.i64_in _ ⟨by omega, by omega⟩
  have e3 : IntKind.i64.wrap (a * Q - P * b) = a * Q - P * b := IntWalk.i64_in _ ⟨by omega, by omega⟩
  have e4 : IntKind.i64.wrap (P * d) = P * d := IntWalk.i64_in _ ⟨by omega, by omega⟩
  have e5 : IntKind.i64.wrap (c * Q) = c * Q := IntWalk.i64_in _ ⟨by omega, by omega⟩
  have e6 : IntKind.i64.wrap (c * Q - P * d) = c * Q - P * d := IntWalk.i64_in _ ⟨by omega, by omega⟩
  have e7 : IntKind.i64.wrap (dI P Q a b * d) = dI P Q a b * d := IntWalk.i64_in _ ⟨by omega, by omega⟩
  have e8 : IntKind.i64.wrap (dI P Q c d * b) = dI P Q c d * b := IntWalk.i64_in _ ⟨by omega, by omega⟩
  have e9 : IntKind.i64.wrap (cmp3 (dI P Q a b * d) (dI P Q c d * b)) = cmp3 (dI P Q a b * d) (dI P Q c d * b) := IntWalk.i64_in _ (by have := cmp3_bd (dI P Q a b * d) (dI P Q c d * b); omega)
  clear x0 x1 x2 x3 x4 x5 y0 y1 y2 y3 y4 y5 hP hQ ha hb hc hd
  go_enter Try.func57, Try.ntmps57
  go_wp2
  (refine wp_region_mq (by kernel_rfl) (by kernel_rfl) ?_; (repeat (first | go_big_quiet_step ((first | (go_at_call 90; with_reducible exact quietS (K1.out _) ) | (go_at_call 90; with_reducible exact quietS (K2.out _) ))) | quiet_step ((first | (go_at_call 90; with_reducible exact quietS (K1.out _) ) | (go_at_call 90; with_reducible exact quietS (K2.out _) ))))); refine wpQuiet_nil ?_; intro _ hq_; obtain ⟨q_, rfl⟩ := hq_)
  go_wp2_with (go_at_call 91; refine (Compare_ok _ _ _).mono ?_; rintro e w' ⟨rfl, rfl⟩)
  go_ret
  exact ⟨congrArg (fun z => Ending.returned (Value.int .i64 z)) HV.out.symm, (by repeat' (first | (with_reducible first | assumption | exact Below.refl _ _ | refine Below.drew ?_ | refine Below.alloc ?_ ?_ _ | refine Below.setCell ?_ ?_ _ | refine below_setR ?_ ?_ _ | refine below_dn ?_ _ | refine Below.trans ?_ (below_mo _ _ _ ?_) | refine Below.trans ?_ (below_mq _ _ ?_) | exact Nat.le_refl _) | (simp; done) | (simp; omega) | omega))⟩
theorem stp_first {P Q m : Int} (hP : 0 ≤ P) (hQ : 1 ≤ Q) (hm : 1 ≤ m) : stp P Q (1, 1) (cnd P Q m 1 0, 1) = (cnd P Q m 1 0, 1) := by
  by_cases h : nlt P Q (cnd P Q m 1 0, 1) (1, 1)
  · exact stp_yes h
  · rw [stp_no h]
    obtain ⟨x0, x1, x2⟩ := fl_bd hP hQ (Int.le_refl 1)
    have hc := cnd_bd (P := P) (Q := Q) (q := 1) (k := 0) hm
    have hle : cnd P Q m 1 0 = 1 ∨ cnd P Q m 1 0 ≤ P * 1 / Q := by unfold cnd; omega
    rcases hle with e | e
    · rw [e]
    · obtain ⟨c, hc'⟩ : ∃ c, cnd P Q m 1 0 = c := ⟨_, rfl⟩
      rw [hc'] at h hc e ⊢
      rcases Int.lt_or_le 1 c with z | z
      · exfalso
        apply h
        have h5 : c * Q ≤ P * 1 / Q * Q := Int.mul_le_mul_of_nonneg_right e (by omega)
        have h6 := mul_step hQ z
        show dI P Q c 1 * 1 < dI P Q 1 1 * 1
        unfold dI
        omega
      · have : c = 1 := by omega
        rw [this]
/-- the best one so far, while the denominator is n + 1 -/
def bI (P Q m : Int) (n : Nat) : Nat → Int × Int
  | 0 => if n = 0 then (0, 0) else bstN P Q m n
  | 1 => stp P Q (bstN P Q m n) (cnd P Q m ((n : Int) + 1) 0, (n : Int) + 1)
  | _ => bstN P Q m (n + 1)
def bJ (P Q m : Int) (n : Nat) : Nat → Int × Int
  | 0 => bstN P Q m n
  | 1 => stp P Q (bstN P Q m n) (cnd P Q m ((n : Int) + 1) 0, (n : Int) + 1)
  | _ => bstN P Q m (n + 1)
theorem bst_sm {P Q m : Int} (hP : 0 ≤ P) (hQ : 1 ≤ Q) (hm : 1 ≤ m ∧ m ≤ 1000) {n : Nat} (hn : (n : Int) ≤ m) : smN (bstN P Q m n).1 ∧ smN (bstN P Q m n).2 := by
  have h := best_n hP hQ hm.1 n
  have a := h.p
  have b := h.q
  refine ⟨⟨a.1, by omega⟩, b.1, ?_⟩
  rcases b.2 with z | z
  · omega
  · rw [z]; decide
theorem stp_sm {P Q : Int} {b c : Int × Int} (hb : smN b.1 ∧ smN b.2) (hc : smN c.1 ∧ smN c.2) : smN (stp P Q b c).1 ∧ smN (stp P Q b c).2 := by
  unfold stp; split <;> assumption
theorem cnd_sm {P Q m : Int} (hm : 1 ≤ m ∧ m ≤ 1000) {n : Nat} (hn : (n : Int) < m) (k : Int) : smN (cnd P Q m ((n : Int) + 1) k) ∧ smN ((n : Int) + 1) := by
  have := cnd_bd (P := P) (Q := Q) (q := (n : Int) + 1) (k := k) hm.1
  exact ⟨⟨this.1, by omega⟩, by omega, by omega⟩
theorem bJ_step {P Q m : Int} (hP : 0 ≤ P) (hQ : 1 ≤ Q) (hm : 1 ≤ m ∧ m ≤ 1000) {n j : Nat} (hn : (n : Int) < m) (hj : j < 2) :
    (smN (bJ P Q m n j).1 ∧ smN (bJ P Q m n j).2) ∧ ((nlt P Q (cnd P Q m ((n : Int) + 1) j, (n : Int) + 1) (bJ P Q m n j) ∧ bJ P Q m n (j + 1) = (cnd P Q m ((n : Int) + 1) j, (n : Int) + 1)) ∨ (¬ nlt P Q (cnd P Q m ((n : Int) + 1) j, (n : Int) + 1) (bJ P Q m n j) ∧ bJ P Q m n (j + 1) = bJ P Q m n j)) := by
  have s0 := bst_sm hP hQ hm (n := n) (by omega)
  rcases (show j = 0 ∨ j = 1 by omega) with rfl | rfl
  · refine ⟨s0, ?_⟩
    by_cases h : nlt P Q (cnd P Q m ((n : Int) + 1) 0, (n : Int) + 1) (bstN P Q m n)
    · exact .inl ⟨h, stp_yes h⟩
    · exact .inr ⟨h, stp_no h⟩
  · refine ⟨stp_sm s0 (cnd_sm hm hn 0), ?_⟩
    by_cases h : nlt P Q (cnd P Q m ((n : Int) + 1) 1, (n : Int) + 1) (stp P Q (bstN P Q m n) (cnd P Q m ((n : Int) + 1) 0, (n : Int) + 1))
    · exact .inl ⟨h, stp_yes h⟩
    · exact .inr ⟨h, stp_no h⟩
theorem bI_eq {P Q m : Int} {n j : Nat} (h : ¬ (n = 0 ∧ j = 0)) : bI P Q m n j = bJ P Q m n j := by
  match j with
  | 0 => exact if_neg (by omega)
  | 1 => rfl
  | _ + 2 => rfl
theorem bI_step {P Q m : Int} (hP : 0 ≤ P) (hQ : 1 ≤ Q) (hm : 1 ≤ m ∧ m ≤ 1000) {n j : Nat} (hn : (n : Int) < m) (hj : j < 2) :
    (bI P Q m n j = (0, 0) ∧ bI P Q m n (j + 1) = (cnd P Q m ((n : Int) + 1) j, (n : Int) + 1)) ∨
    ((smN (bI P Q m n j).1 ∧ smN (bI P Q m n j).2) ∧ ((nlt P Q (cnd P Q m ((n : Int) + 1) j, (n : Int) + 1) (bI P Q m n j) ∧ bI P Q m n (j + 1) = (cnd P Q m ((n : Int) + 1) j, (n : Int) + 1)) ∨ (¬ nlt P Q (cnd P Q m ((n : Int) + 1) j, (n : Int) + 1) (bI P Q m n j) ∧ bI P Q m n (j + 1) = bI P Q m n j))) := by
  by_cases h : n = 0 ∧ j = 0
  · obtain ⟨rfl, rfl⟩ := h
    exact .inl ⟨rfl, stp_first hP hQ hm.1⟩
  · right
    rw [bI_eq h, bI_eq (by omega)]
    exact bJ_step hP hQ hm hn hj
end Go.Proofs.Ytinjlofefmjolaa.X
