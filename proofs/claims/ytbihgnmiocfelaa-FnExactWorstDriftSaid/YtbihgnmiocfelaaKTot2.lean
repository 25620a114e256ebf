/- What has been counted at a day. Conditions: none. -/
import Derived.Test.YtbihgnmiocfelaaKTot
namespace Go.Proofs.Ytbihgnmiocfelaa.X
open Go.RowKit
set_option linter.unusedVariables false
set_option linter.unusedSimpArgs false
set_option maxRecDepth 100000
/-- the last element at or before day d -/
def LastAt (xs : List (Int × Int)) (d : Int) (m : Nat) : Prop := m < xs.length ∧ tD xs m ≤ d ∧ ∀ j : Nat, m < j → j < xs.length → d < tD xs j
theorem LastAt.uniq {xs : List (Int × Int)} {d : Int} {m n : Nat} (h : LastAt xs d m) (g : LastAt xs d n) : m = n := by
  obtain ⟨h1, h2, h3⟩ := h
  obtain ⟨g1, g2, g3⟩ := g
  rcases Nat.lt_trichotomy m n with e | e | e
  · have := h3 n e g1; omega
  · exact e
  · have := g3 m e h1; omega
def valD (xs : List (Int × Int)) (d : Int) (m : Nat) : Int := if tD xs m = d then tC xs m else tC xs m + (tC xs ((m : Int) + 1) - tC xs m) * (d - tD xs m) / (tD xs ((m : Int) + 1) - tD xs m)
section
open Classical
noncomputable def onV (xs : List (Int × Int)) (d : Int) : Int := if h : ∃ m, LastAt xs d m then valD xs d h.choose else 0
theorem onV_eq {xs : List (Int × Int)} {d : Int} {m : Nat} (h : LastAt xs d m) : onV xs d = valD xs d m := by
  unfold onV
  have hx : ∃ m, LastAt xs d m := ⟨m, h⟩
  rw [dif_pos hx, hx.choose_spec.uniq h]
end
theorem vt_mono {xs : List (Int × Int)} (hv : vt xs) (n : Nat) : ∀ i : Nat, i + n + 1 < xs.length → tD xs i < tD xs ((i + n + 1 : Nat) : Int) := by
  induction n with
  | zero =>
    intro i h1
    have := ((hv.2 ((i + 1 : Nat) : Int) (by omega) (by omega)).2.2 (by omega)).1
    have e : ((i + 1 : Nat) : Int) - 1 = i := by omega
    rwa [e] at this
  | succ n ih =>
    intro i h1
    have h2 := ih i (by omega)
    have := ((hv.2 ((i + (n + 1) + 1 : Nat) : Int) (by omega) (by omega)).2.2 (by omega)).1
    have e : ((i + (n + 1) + 1 : Nat) : Int) - 1 = ((i + n + 1 : Nat) : Int) := by omega
    rw [e] at this
    omega
theorem vt_lt {xs : List (Int × Int)} (hv : vt xs) (i j : Nat) (h1 : i < j) (h2 : j < xs.length) : tD xs i < tD xs j := by
  have := vt_mono hv (j - i - 1) i (by omega)
  have e : i + (j - i - 1) + 1 = j := by omega
  rwa [e] at this
theorem vt_day {xs : List (Int × Int)} (hv : vt xs) (i : Nat) (h1 : i < xs.length) : 0 ≤ tD xs i ∧ tD xs i ≤ 100000 := (hv.2 i (by omega) (by omega)).1
theorem vt_cnt {xs : List (Int × Int)} (hv : vt xs) (i : Nat) (h1 : i < xs.length) : 0 ≤ tC xs i ∧ tC xs i ≤ 1000000000000 := (hv.2 i (by omega) (by omega)).2.1
theorem vt_cstep {xs : List (Int × Int)} (hv : vt xs) (i : Nat) (h1 : i + 1 < xs.length) : tC xs i ≤ tC xs ((i : Int) + 1) := by
  have := ((hv.2 ((i + 1 : Nat) : Int) (by omega) (by omega)).2.2 (by omega)).2
  have e : ((i + 1 : Nat) : Int) - 1 = i := by omega
  rwa [e] at this
/-- day d is covered -/
def Cov (xs : List (Int × Int)) (d : Int) : Prop := 0 < xs.length ∧ tD xs 0 ≤ d ∧ d ≤ tD xs ((xs.length : Int) - 1)
theorem prod_bound {a b : Int} (ha : 0 ≤ a ∧ a ≤ 1000000000000) (hb : 0 ≤ b ∧ b ≤ 100000) : 0 ≤ a * b ∧ a * b ≤ 100000000000000000 := by
  refine ⟨Int.mul_nonneg ha.1 hb.1, ?_⟩
  have h1 : a * b ≤ 1000000000000 * b := Int.mul_le_mul_of_nonneg_right ha.2 hb.1
  omega
theorem div_bound {a b : Int} (ha : 0 ≤ a ∧ a ≤ 100000000000000000) (hb : 0 < b) : 0 ≤ a / b ∧ a / b ≤ 100000000000000000 :=
  ⟨Int.ediv_nonneg ha.1 (by omega), Int.le_trans (Int.ediv_le_self _ ha.1) ha.2⟩
set_option maxHeartbeats 8000000 in
set_option maxRecDepth 100000 in
theorem l06On_cov (A : Option Addr) (xs : List (Int × Int)) (n c b1 : Nat) (d : Int) (w : World) (hn : xs.length = n) (hb1 : b1 ≤ w.heap.size) (hs : SL w b1 2 e2 A xs) (hv : vt xs) (hc : Cov xs d) (hd : 0 ≤ d ∧ d ≤ 100000) :
    Calls Try.prog 245 #[.slice A n c, .int .i64 d] w fun e w' => e = .returned (.tuple #[.int .i64 (onV xs d), .bool true]) ∧ Below w.heap.size w w' := by
  obtain rfl := hn
  obtain ⟨hc0, hc1, hc2⟩ := hc
  have hl := hv.1
  obtain ⟨hd0, hd1⟩ := hd
  obtain ⟨b, off, rfl, hb, z0, z1⟩ := hs.atT (k := 0) hc0
  obtain ⟨b', off', he, _, y0, y1⟩ := hs.atT (k := xs.length - 1) (by omega)
  obtain ⟨rfl, rfl⟩ := addr_same he
  clear he
  have hbw : b < w.heap.size := by omega
  have eL : ((xs.length - 1 : Nat) : Int) = (xs.length : Int) - 1 := by omega
  rw [eL] at y0 y1
  have HV := Lib.hid hv
  clear hv z1 y1
  have q0 : ((xs.length : Int) == 0) = false := beq_eq_false_iff_ne.2 (by omega)
  have q1 : decide (d < tD xs 0) = false := decide_eq_false (by omega)
  have q2 : decide (tD xs ((xs.length : Int) - 1) < d) = false := decide_eq_false (by omega)
  have q3 : (0 : Int) ≤ (xs.length : Int) - 1 := by omega
  have q4 : (1 : Int) ≤ (xs.length : Int) := by omega
  have q5 : ((xs.length : Int) - 1).toNat = xs.length - 1 := by omega
  have q6 : 0 < xs.length := hc0
  simp only [Int.natCast_zero, Nat.zero_mul, Nat.add_zero] at z0
  go_enter Try.func245, Try.ntmps245
  go_wp2
  clear q0 q1 q2 q3 q4 q5 q6 z0 y0
  go_loop [7] (fun i => ∃ k : Nat, k < xs.length ∧ i = .int .i64 k ∧ tD xs k ≤ d) (fun i => xs.length - (intOf i).toNat)
  case atStart => exact ⟨0, hc0, rfl, hc1⟩
  case round =>
    obtain ⟨k, hk, rfl, hle⟩ := hrel
    obtain ⟨b', off', he, _, x0, x1⟩ := hs.atT (k := k) hk
    obtain ⟨rfl, rfl⟩ := addr_same he
    clear he
    have g0 : (0 : Int) ≤ (k : Int) := by omega
    have g1 : (k : Int) < (xs.length : Int) := by omega
    have hk0 := vt_day HV.out k hk
    have hk1 := vt_cnt HV.out k hk
    by_cases hn : k + 1 < xs.length
    · obtain ⟨b', off', he, _, u0, u1⟩ := hs.atT (k := k + 1) hn
      obtain ⟨rfl, rfl⟩ := addr_same he
      clear he
      have ek : ((k + 1 : Nat) : Int) = (k : Int) + 1 := by omega
      have hn0 := vt_day HV.out (k + 1) hn
      have hn1 := vt_cnt HV.out (k + 1) hn
      have hn2 := vt_cstep HV.out k hn
      have hlt := vt_lt HV.out k (k + 1) (by omega) hn
      rw [ek] at u0 u1 hn0 hn1 hlt
      clear ek
      have g2 : (k : Int) + 1 < (xs.length : Int) := by omega
      by_cases hc : tD xs ((k : Int) + 1) ≤ d
      · go_wp2
        exact ⟨⟨k + 1, by omega, by go_num, hc⟩, by simp [intOf]; omega⟩
      · have hL : LastAt xs d k := ⟨hk, hle, fun j h1 h2 => by
          by_cases e : j = k + 1
          · rw [e, show ((k + 1 : Nat) : Int) = (k : Int) + 1 by omega]; omega
          · have := vt_lt HV.out (k + 1) j (by omega) h2
            rw [show ((k + 1 : Nat) : Int) = (k : Int) + 1 by omega] at this; omega⟩
        have HO := Lib.hid (onV_eq hL)
        clear hL
        by_cases heq : tD xs k = d
        · have b0 : (tD xs k == d) = true := by simpa using heq
          have HE := Lib.hid heq
          clear heq
          go_wp2
          go_ret2
          exact ⟨by rw [HO.out]; unfold valD; rw [if_pos HE.out]; rfl, Below.refl _ _⟩
        · have b0 : (tD xs k == d) = false := by simpa using heq
          have p0 : 0 ≤ tC xs ((k : Int) + 1) - tC xs k ∧ tC xs ((k : Int) + 1) - tC xs k ≤ 1000000000000 := by omega
          have p1 : 0 ≤ d - tD xs k ∧ d - tD xs k ≤ 100000 := by omega
          obtain ⟨p2, p3⟩ := prod_bound p0 p1
          have p4 : 0 < tD xs ((k : Int) + 1) - tD xs k := by omega
          obtain ⟨p5, p6⟩ := div_bound ⟨p2, p3⟩ p4
          have b1' : ((tD xs ((k : Int) + 1) - tD xs k) == 0) = false := beq_eq_false_iff_ne.2 (by omega)
          have HN := Lib.hid heq
          clear heq
          go_wp2
          go_quiet (fail)
          go_wp2
          go_quiet (fail)
          go_wp2
          go_ret2
          exact ⟨by rw [HO.out]; unfold valD; rw [if_neg HN.out]; rfl, (by repeat' (first | (with_reducible first | assumption | exact Below.refl _ _ | refine Below.drew ?_ | refine Below.alloc ?_ ?_ _ | refine Below.setCell ?_ ?_ _ | refine below_setR ?_ ?_ _ | refine below_dn ?_ _ | refine Below.trans ?_ (below_mo _ _ _ ?_) | refine Below.trans ?_ (below_mq _ _ ?_) | exact Nat.le_refl _) | (simp; done) | (simp; omega) | omega))⟩
    · have hkl : (k : Int) = (xs.length : Int) - 1 := by omega
      have heq : tD xs k = d := by rw [← hkl] at hc2; omega
      have hL : LastAt xs d k := ⟨hk, hle, fun j h1 h2 => by omega⟩
      have HO := Lib.hid (onV_eq hL)
      have b0 : (tD xs k == d) = true := by simpa using heq
      have b1' : decide ((k : Int) + 1 < (xs.length : Int)) = false := decide_eq_false (by omega)
      have HE := Lib.hid heq
      clear heq hL hkl
      go_wp2
      go_ret2
      exact ⟨by rw [HO.out]; unfold valD; rw [if_pos HE.out]; rfl, Below.refl _ _⟩
theorem l06On_not (A : Option Addr) (xs : List (Int × Int)) (n c b1 : Nat) (d : Int) (w : World) (hn : xs.length = n) (hb1 : b1 ≤ w.heap.size) (hs : SL w b1 2 e2 A xs) (hl : xs.length ≤ 60) (hc : ¬ Cov xs d) :
    Calls Try.prog 245 #[.slice A n c, .int .i64 d] w fun e w' => e = .returned (.tuple #[.int .i64 0, .bool false]) ∧ Below w.heap.size w w' := by
  obtain rfl := hn
  have HC := Lib.hid hc
  clear hc
  by_cases h0 : xs.length = 0
  · have q0 : ((xs.length : Int) == 0) = true := by simpa using h0
    have H0 := Lib.hid h0
    clear h0
    go_enter Try.func245, Try.ntmps245
    go_wp2
    go_ret2
    exact ⟨rfl, Below.refl _ _⟩
  · have hc0 : 0 < xs.length := by omega
    obtain ⟨b, off, rfl, hb, z0, z1⟩ := hs.atT (k := 0) hc0
    obtain ⟨b', off', he, _, y0, y1⟩ := hs.atT (k := xs.length - 1) (by omega)
    obtain ⟨rfl, rfl⟩ := addr_same he
    clear he h0
    have eL : ((xs.length - 1 : Nat) : Int) = (xs.length : Int) - 1 := by omega
    rw [eL] at y0 y1
    clear z1 y1 eL
    have q0 : ((xs.length : Int) == 0) = false := beq_eq_false_iff_ne.2 (by omega)
    have q3 : (0 : Int) ≤ (xs.length : Int) - 1 := by omega
    have q4 : (1 : Int) ≤ (xs.length : Int) := by omega
    have q5 : ((xs.length : Int) - 1).toNat = xs.length - 1 := by omega
    simp only [Int.natCast_zero, Nat.zero_mul, Nat.add_zero] at z0
    by_cases h1 : d < tD xs 0
    · have q1 : decide (d < tD xs 0) = true := decide_eq_true h1
      go_enter Try.func245, Try.ntmps245
      go_wp2
      go_ret2
      exact ⟨rfl, Below.refl _ _⟩
    · have q1 : decide (d < tD xs 0) = false := decide_eq_false h1
      have q2 : decide (tD xs ((xs.length : Int) - 1) < d) = true := decide_eq_true (by
        rcases Int.lt_or_le (tD xs ((xs.length : Int) - 1)) d with h | h
        · exact h
        · exact absurd ⟨hc0, by omega, h⟩ HC.out)
      go_enter Try.func245, Try.ntmps245
      go_wp2
      go_ret2
      exact ⟨rfl, Below.refl _ _⟩
set_option maxHeartbeats 8000000 in
set_option maxRecDepth 100000 in
theorem countOn_any (A : Option Addr) (xs : List (Int × Int)) (n c b1 : Nat) (d : Int) (w : World) (hn : xs.length = n) (hb1 : b1 ≤ w.heap.size) (hs : SL w b1 2 e2 A xs) (hv : vt xs) (hc : Cov xs d) (hd : 0 ≤ d ∧ d ≤ 100000) :
    Calls Try.prog 248 #[.slice A n c, .int .i64 d] w fun e w' => e = .returned (.int .i64 (onV xs d)) ∧ Below w.heap.size w w' := by
  obtain rfl := hn
  obtain ⟨hc0, hc1, hc2⟩ := hc
  have hl := hv.1
  obtain ⟨hd0, hd1⟩ := hd
  have HV := Lib.hid hv
  clear hv
  have q4 : (1 : Int) ≤ (xs.length : Int) := by omega
  go_enter Try.func248, Try.ntmps248
  go_wp2
  go_loop [5] (fun i => ∃ k : Nat, k < xs.length ∧ i = .int .i64 k ∧ ∀ j : Nat, k < j → j < xs.length → d < tD xs j) (fun i => (intOf i).toNat)
  case atStart => exact ⟨xs.length - 1, by omega, by rw [show ((xs.length - 1 : Nat) : Int) = (xs.length : Int) - 1 by omega], fun j h1 h2 => by omega⟩
  case round =>
    obtain ⟨k, hk, rfl, hgt⟩ := hrel
    have HG := Lib.hid hgt
    clear hgt
    obtain ⟨b, off, rfl, hb, x0, x1⟩ := hs.atT (k := k) hk
    have hbw : b < w.heap.size := by omega
    have g0 : (0 : Int) ≤ (k : Int) := by omega
    have g1 : (k : Int) < (xs.length : Int) := by omega
    have hk0 := vt_day HV.out k hk
    have hk1 := vt_cnt HV.out k hk
    by_cases hc : d < tD xs k
    · have hk2 : 0 < k := by
        rcases Nat.eq_zero_or_pos k with h | h
        · subst h; simp at hc; omega
        · exact h
      go_wp2
      exact ⟨⟨k - 1, by omega, by rw [show ((k - 1 : Nat) : Int) = (k : Int) - 1 by omega], fun j h1 h2 => by
        by_cases e : j = k
        · rw [e]; exact hc
        · exact HG.out j (by omega) h2⟩, by simp [intOf]; omega⟩
    · have hL : LastAt xs d k := ⟨hk, by omega, HG.out⟩
      have HO := Lib.hid (onV_eq hL)
      clear hL
      by_cases heq : tD xs k = d
      · have b0 : (tD xs k == d) = true := by simpa using heq
        have HE := Lib.hid heq
        clear heq
        go_wp2
        go_ret
        exact ⟨by rw [HO.out]; unfold valD; rw [if_pos HE.out]; rfl, Below.refl _ _⟩
      · have hn : k + 1 < xs.length := by
          rcases Nat.lt_or_ge (k + 1) xs.length with h | h
          · exact h
          · have e : (k : Int) = (xs.length : Int) - 1 := by omega
            rw [← e] at hc2; omega
        obtain ⟨b', off', he, _, u0, u1⟩ := hs.atT (k := k + 1) hn
        obtain ⟨rfl, rfl⟩ := addr_same he
        clear he
        have ek : ((k + 1 : Nat) : Int) = (k : Int) + 1 := by omega
        have hn0 := vt_day HV.out (k + 1) hn
        have hn1 := vt_cnt HV.out (k + 1) hn
        have hn2 := vt_cstep HV.out k hn
        have hlt := vt_lt HV.out k (k + 1) (by omega) hn
        rw [ek] at u0 u1 hn0 hn1 hlt
        clear ek
        have g2 : (k : Int) + 1 < (xs.length : Int) := by omega
        have g3 : (0 : Int) ≤ (k : Int) + 1 := by omega
        have b0 : (tD xs k == d) = false := by simpa using heq
        have p0 : 0 ≤ tC xs ((k : Int) + 1) - tC xs k ∧ tC xs ((k : Int) + 1) - tC xs k ≤ 1000000000000 := by omega
        have p1 : 0 ≤ d - tD xs k ∧ d - tD xs k ≤ 100000 := by omega
        obtain ⟨p2, p3⟩ := prod_bound p0 p1
        have p4 : 0 < tD xs ((k : Int) + 1) - tD xs k := by omega
        obtain ⟨p5, p6⟩ := div_bound ⟨p2, p3⟩ p4
        have b1' : ((tD xs ((k : Int) + 1) - tD xs k) == 0) = false := beq_eq_false_iff_ne.2 (by omega)
        have HN := Lib.hid heq
        clear heq
        go_wp2
        go_region
        all_goals
          go_wp2
          go_quiet (fail)
          go_wp2
          go_ret
          exact ⟨by rw [HO.out]; unfold valD; rw [if_neg HN.out]; rfl, (by repeat' (first | (with_reducible first | assumption | exact Below.refl _ _ | refine Below.drew ?_ | refine Below.alloc ?_ ?_ _ | refine Below.setCell ?_ ?_ _ | refine below_setR ?_ ?_ _ | refine below_dn ?_ _ | refine Below.trans ?_ (below_mo _ _ _ ?_) | refine Below.trans ?_ (below_mq _ _ ?_) | exact Nat.le_refl _) | (simp; done) | (simp; omega) | omega))⟩
end Go.Proofs.Ytbihgnmiocfelaa.X
