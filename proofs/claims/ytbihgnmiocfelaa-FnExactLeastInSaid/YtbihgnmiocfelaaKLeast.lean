/- The digits of a mark, one by one. Conditions: none. -/
import Derived.Test.YtbihgnmiocfelaaKPh
import Derived.IntWalk
namespace Go.Proofs.Ytbihgnmiocfelaa.X
open Go.RowKit
set_option linter.unusedVariables false
set_option linter.unusedSimpArgs false
set_option maxRecDepth 100000
theorem andOne (N : Nat) (h : N < 18446744073709551616) : bits .and .u64 (N : Int) 1 = ((N % 2 : Nat) : Int) := by
  have h1 := bits_and_u64_nat N 1 h (by omega)
  rw [Nat.and_one_is_mod] at h1
  exact h1
/-- is digit d in the mark -/
def hsB (X Y : Nat) (d : Nat) : Bool := if d < 64 then X / 2 ^ d % 2 == 1 else Y / 2 ^ (d - 64) % 2 == 1
theorem bitAt (X : Nat) (hX : X < 18446744073709551616) (d : Nat) : (bits .and .u64 ((X : Int) / 2 ^ d) 1 == 1) = (X / 2 ^ d % 2 == 1) := by
  have e : (X : Int) / 2 ^ d = ((X / 2 ^ d : Nat) : Int) := by rw [Int.natCast_ediv, Int.natCast_pow]; rfl
  have hl : X / 2 ^ d < 18446744073709551616 := Nat.lt_of_le_of_lt (Nat.div_le_self _ _) hX
  rw [e, andOne _ hl, Bool.eq_iff_iff, beq_iff_eq, beq_iff_eq]
  omega
theorem hs_lo {X Y d : Nat} (hX : X < 18446744073709551616) (h : d < 64) : (bits .and .u64 ((X : Int) / 2 ^ d) 1 == 1) = hsB X Y d := by
  rw [bitAt X hX]; unfold hsB; rw [if_pos h]
theorem hs_hi {X Y d : Nat} (hY : Y < 18446744073709551616) (h : ¬ d < 64) : (bits .and .u64 ((Y : Int) / 2 ^ (d - 64)) 1 == 1) = hsB X Y d := by
  rw [bitAt Y hY]; unfold hsB; rw [if_neg h]
set_option maxHeartbeats 1000000 in
theorem has_any (X Y : Nat) (hX : X < 18446744073709551616) (hY : Y < 18446744073709551616) (d : Nat) (hd : d < 128) (w : World) : Calls Try.prog 282 #[.agg #[.int .u64 (X : Int), .int .u64 (Y : Int)], .int .i64 (d : Int)] w fun e w' => e = .returned (.bool (hsB X Y d)) ∧ Below w.heap.size w w' := by
  have g0 : (0 : Int) ≤ (d : Int) := by omega
  by_cases h : d < 64
  · have q1 : (d : Int) / 64 = 0 := by omega
    have q2 : (d : Int) % 64 = (d : Int) := by omega
    have q3 : (d : Int).tdiv 64 = 0 := by rw [Int.tdiv_eq_ediv_of_nonneg g0]; exact q1
    have q4 : (d : Int).tmod 64 = (d : Int) := by rw [Int.tmod_eq_emod_of_nonneg g0]; exact q2
    have HS := Lib.hid (hs_lo (Y := Y) hX h)
    go_enter Try.func282, Try.ntmps282
    go_wp2
    go_ret
    exact ⟨by rw [HS.out]; rfl, (by repeat' (first | (with_reducible first | assumption | exact Below.refl _ _ | refine Below.drew ?_ | refine Below.alloc ?_ ?_ _ | refine Below.setCell ?_ ?_ _ | refine below_setR ?_ ?_ _ | refine below_dn ?_ _ | refine Below.trans ?_ (below_mo _ _ _ ?_) | refine Below.trans ?_ (below_mq _ _ ?_) | exact Nat.le_refl _) | (simp; done) | (simp; omega) | omega))⟩
  · obtain ⟨j, hj⟩ : ∃ j : Nat, d - 64 = j := ⟨_, rfl⟩
    have q1 : (d : Int) / 64 = 1 := by omega
    have q2 : (d : Int) % 64 = (j : Int) := by omega
    have q3 : (d : Int).tdiv 64 = 1 := by rw [Int.tdiv_eq_ediv_of_nonneg g0]; exact q1
    have q4 : (d : Int).tmod 64 = (j : Int) := by rw [Int.tmod_eq_emod_of_nonneg g0]; exact q2
    have HS := Lib.hid (hs_hi (X := X) hY h)
    rw [hj] at HS
    go_enter Try.func282, Try.ntmps282
    go_wp2
    go_ret
    exact ⟨by rw [HS.out]; rfl, (by repeat' (first | (with_reducible first | assumption | exact Below.refl _ _ | refine Below.drew ?_ | refine Below.alloc ?_ ?_ _ | refine Below.setCell ?_ ?_ _ | refine below_setR ?_ ?_ _ | refine below_dn ?_ _ | refine Below.trans ?_ (below_mo _ _ _ ?_) | refine Below.trans ?_ (below_mq _ _ ?_) | exact Nat.le_refl _) | (simp; done) | (simp; omega) | omega))⟩
theorem in127 {d : Nat} (hd : d < 128) : inR (d : Int) 0 127 = true := inR_t.2 ⟨by omega, by omega⟩
set_option maxHeartbeats 1000000 in
theorem l05Has_any (X Y : Nat) (hX : X < 18446744073709551616) (hY : Y < 18446744073709551616) (d : Nat) (hd : d < 128) (w : World) : Calls Try.prog 236 #[.agg #[.int .u64 (X : Int), .int .u64 (Y : Int)], .int .i64 (d : Int)] w fun e w' => e = .returned (.bool (hsB X Y d)) ∧ Below w.heap.size w w' := by
  have g0 : (0 : Int) ≤ (d : Int) := by omega
  have HI := Lib.hid (in127 hd)
  have gi := in127 hd
  by_cases h : d < 64
  · have q1 : (d : Int) / 64 = 0 := by omega
    have q2 : (d : Int) % 64 = (d : Int) := by omega
    have q3 : (d : Int).tdiv 64 = 0 := by rw [Int.tdiv_eq_ediv_of_nonneg g0]; exact q1
    have q4 : (d : Int).tmod 64 = (d : Int) := by rw [Int.tmod_eq_emod_of_nonneg g0]; exact q2
    have HS := Lib.hid (hs_lo (Y := Y) hX h)
    go_enter Try.func236, Try.ntmps236
    go_wp2_with (go_at_call 119; refine (l00In_ok _ _ _ _).mono ?_; rintro e w' ⟨rfl, rfl⟩)
    go_ret
    exact ⟨by rw [HS.out]; rfl, (by repeat' (first | (with_reducible first | assumption | exact Below.refl _ _ | refine Below.drew ?_ | refine Below.alloc ?_ ?_ _ | refine Below.setCell ?_ ?_ _ | refine below_setR ?_ ?_ _ | refine below_dn ?_ _ | refine Below.trans ?_ (below_mo _ _ _ ?_) | refine Below.trans ?_ (below_mq _ _ ?_) | exact Nat.le_refl _) | (simp; done) | (simp; omega) | omega))⟩
  · obtain ⟨j, hj⟩ : ∃ j : Nat, d - 64 = j := ⟨_, rfl⟩
    have q1 : (d : Int) / 64 = 1 := by omega
    have q2 : (d : Int) % 64 = (j : Int) := by omega
    have q3 : (d : Int).tdiv 64 = 1 := by rw [Int.tdiv_eq_ediv_of_nonneg g0]; exact q1
    have q4 : (d : Int).tmod 64 = (j : Int) := by rw [Int.tmod_eq_emod_of_nonneg g0]; exact q2
    have HS := Lib.hid (hs_hi (X := X) hY h)
    rw [hj] at HS
    go_enter Try.func236, Try.ntmps236
    go_wp2_with (go_at_call 119; refine (l00In_ok _ _ _ _).mono ?_; rintro e w' ⟨rfl, rfl⟩)
    go_ret
    exact ⟨by rw [HS.out]; rfl, (by repeat' (first | (with_reducible first | assumption | exact Below.refl _ _ | refine Below.drew ?_ | refine Below.alloc ?_ ?_ _ | refine Below.setCell ?_ ?_ _ | refine below_setR ?_ ?_ _ | refine below_dn ?_ _ | refine Below.trans ?_ (below_mo _ _ _ ?_) | refine Below.trans ?_ (below_mq _ _ ?_) | exact Nat.le_refl _) | (simp; done) | (simp; omega) | omega))⟩
/-- the first of the last n digits that the mark has -/
def frN (X Y : Nat) : Nat → Int
  | 0 => -1
  | n + 1 => if hsB X Y (127 - n) then ((127 - n : Nat) : Int) else frN X Y n
/-- the first digit from d on -/
def frB (X Y d : Nat) : Int := frN X Y (128 - d)
theorem frN_yes {X Y k : Nat} (h : k < 128) (hp : hsB X Y k = true) : frN X Y (128 - k) = (k : Int) := by
  obtain ⟨n, hn⟩ : ∃ n, 128 - k = n + 1 := ⟨127 - k, by omega⟩
  have e : 127 - n = k := by omega
  rw [hn]
  show (if hsB X Y (127 - n) = true then _ else _) = _
  rw [e, if_pos hp]
theorem frN_no {X Y k : Nat} (h : k < 128) (hp : hsB X Y k = false) : frN X Y (128 - k) = frN X Y (128 - (k + 1)) := by
  obtain ⟨n, hn⟩ : ∃ n, 128 - k = n + 1 := ⟨127 - k, by omega⟩
  have e : 127 - n = k := by omega
  rw [hn, show 128 - (k + 1) = n by omega]
  show (if hsB X Y (127 - n) = true then _ else _) = _
  rw [e, if_neg (by rw [hp]; simp)]
theorem frN_bd (X Y : Nat) : ∀ n, -1 ≤ frN X Y n ∧ frN X Y n ≤ 127
  | 0 => by simp [frN]
  | n + 1 => by
    have := frN_bd X Y n
    show -1 ≤ (if hsB X Y (127 - n) = true then _ else _) ∧ (if hsB X Y (127 - n) = true then _ else _) ≤ (127 : Int)
    split <;> omega
set_option maxHeartbeats 1000000 in
theorem l05From_any (X Y : Nat) (hX : X < 18446744073709551616) (hY : Y < 18446744073709551616) (d : Nat) (hd : d ≤ 128) (w : World) : Calls Try.prog 237 #[.agg #[.int .u64 (X : Int), .int .u64 (Y : Int)], .int .i64 (d : Int)] w fun e w' => e = .returned (.int .i64 (frB X Y d)) ∧ Below w.heap.size w w' := by
  have HX := Lib.hid hX
  have HY := Lib.hid hY
  clear hX hY
  go_enter Try.func237, Try.ntmps237
  go_wp2
  go_loopw [5] (fun i wr => ∃ (k : Nat) (os : Array Obj) (dn : Nat), k ≤ 128 ∧ i = .int .i64 (k : Int) ∧ Hid (frN X Y (128 - k) = frB X Y d) ∧ wr = mo (w.alloc (.cells #[.int .u64 (X : Int), .int .u64 (Y : Int)] 41)) os dn) (fun i _ => 128 - (intOf i).toNat)
  case atStart => exact ⟨d, #[], _, hd, rfl, rfl, (mo_nil _).symm⟩
  case round =>
    obtain ⟨k, os, dn, hk, rfl, HF, rfl⟩ := hrel
    by_cases hlt : k < 128
    · have g1 : (k : Int) < 128 := by omega
      cases hp : hsB X Y k
      · have HN := Lib.hid ((frN_no hlt hp).symm.trans HF.out)
        have HL := Lib.hid hlt
        go_wp2_with (go_at_call 236; refine (l05Has_any X Y HX.out HY.out k HL.out _).mono ?_; rintro e w' ⟨rfl, hb_⟩; obtain ⟨os_, d_, rfl⟩ := mo_of hb_; clear hb_)
        exact ⟨⟨k + 1, _, _, by omega, by go_num, HN, mo_mo _ _ _ _ _⟩, by simp [intOf]; omega⟩
      · have HN := Lib.hid ((frN_yes hlt hp).symm.trans HF.out)
        have HL := Lib.hid hlt
        go_wp2_with (go_at_call 236; refine (l05Has_any X Y HX.out HY.out k HL.out _).mono ?_; rintro e w' ⟨rfl, hb_⟩; obtain ⟨os_, d_, rfl⟩ := mo_of hb_; clear hb_)
        go_ret
        exact ⟨by rw [← HN.out]; rfl, (by repeat' (first | (with_reducible first | assumption | exact Below.refl _ _ | refine Below.drew ?_ | refine Below.alloc ?_ ?_ _ | refine Below.setCell ?_ ?_ _ | refine below_setR ?_ ?_ _ | refine below_dn ?_ _ | refine Below.trans ?_ (below_mo _ _ _ ?_) | refine Below.trans ?_ (below_mq _ _ ?_) | exact Nat.le_refl _) | (simp; done) | (simp; omega) | omega))⟩
    · obtain rfl : k = 128 := by omega
      go_wp2
      go_ret
      exact ⟨by rw [← HF.out]; rfl, (by repeat' (first | (with_reducible first | assumption | exact Below.refl _ _ | refine Below.drew ?_ | refine Below.alloc ?_ ?_ _ | refine Below.setCell ?_ ?_ _ | refine below_setR ?_ ?_ _ | refine below_dn ?_ _ | refine Below.trans ?_ (below_mo _ _ _ ?_) | refine Below.trans ?_ (below_mq _ _ ?_) | exact Nat.le_refl _) | (simp; done) | (simp; omega) | omega))⟩
end Go.Proofs.Ytbihgnmiocfelaa.X
