/- Is a photo one of a stack's? Conditions: none. -/
import Derived.Test.YtbihgnmiocfelaaKMarks2
namespace Go.Proofs.Ytbihgnmiocfelaa.X
open Go.RowKit
set_option linter.unusedVariables false
set_option linter.unusedSimpArgs false
set_option maxRecDepth 100000
/-- is the k-th wheel's part of the photo as it should be -/
def phAt (xs : List Int) (p : Nat → Int) (k : Nat) : Bool :=
  if k < xs.length then !(p (2 * k) == 0 && p (2 * k + 1) == 0) && (bits .andNot .u64 (p (2 * k)) (bl (el xs k).toNat).1 == 0 && bits .andNot .u64 (p (2 * k + 1)) (bl (el xs k).toNat).2 == 0)
  else p (2 * k) == 0 && p (2 * k + 1) == 0
def phTo (xs : List Int) (p : Nat → Int) : Nat → Bool
  | 0 => true
  | k + 1 => phTo xs p k && phAt xs p k
def phOK (xs : List Int) (p : Nat → Int) : Bool := phTo xs p 8
theorem phTo_le {xs : List Int} {p : Nat → Int} {k : Nat} : ∀ {n : Nat}, k ≤ n → phTo xs p k = false → phTo xs p n = false
  | 0, h, g => by obtain rfl : k = 0 := by omega
                  exact g
  | n + 1, h, g => by
      rcases Nat.lt_or_ge n k with h1 | h1
      · obtain rfl : k = n + 1 := by omega
        exact g
      · unfold phTo
        rw [phTo_le h1 g]; rfl
theorem phOK_no {xs : List Int} {p : Nat → Int} {k : Nat} (hk : k < 8) (h : phAt xs p k = false) : phOK xs p = false :=
  phTo_le (k := k + 1) (by omega) (by unfold phTo; rw [h]; cases phTo xs p k <;> rfl)
theorem phTo_succ {xs : List Int} {p : Nat → Int} {k : Nat} (h : phTo xs p k = true) (g : phAt xs p k = true) : phTo xs p (k + 1) = true := by unfold phTo; rw [h, g]; rfl
theorem phAt_in {xs : List Int} {p : Nat → Int} {k : Nat} (hin : k < xs.length) (h1 : ¬p (2 * k) = 0 ∨ ¬p (2 * k + 1) = 0) (h2 : bits .andNot .u64 (p (2 * k)) (bl (el xs k).toNat).1 = 0)
    (h3 : ((p (2 * k) == 0) = false ∨ (p (2 * k + 1) == 0) = false) ∧ (bits .andNot .u64 (p (2 * k + 1)) (bl (el xs k).toNat).2 != 0) = false) : phAt xs p k = true := by
  unfold phAt
  rw [if_pos hin, h2]
  have h4 := bne_eq_false_iff_eq.1 h3.2
  rw [h4]
  rcases h1 with h | h <;> simp [h]
theorem phAt_in0 {xs : List Int} {p : Nat → Int} {k : Nat} (hin : k < xs.length) (h1 : ¬(¬p (2 * k) = 0 ∨ ¬p (2 * k + 1) = 0)) : phAt xs p k = false := by
  unfold phAt
  rw [if_pos hin]
  have h2 : p (2 * k) = 0 := by omega
  have h3 : p (2 * k + 1) = 0 := by omega
  simp [h2, h3]
theorem phAt_in1 {xs : List Int} {p : Nat → Int} {k : Nat} (hin : k < xs.length) (h2 : ¬bits .andNot .u64 (p (2 * k)) (bl (el xs k).toNat).1 = 0) : phAt xs p k = false := by
  unfold phAt
  rw [if_pos hin]
  simp [h2]
theorem phAt_in2 {xs : List Int} {p : Nat → Int} {k : Nat} (hin : k < xs.length) (h3 : (p (2 * k) == 0) = true ∧ (p (2 * k + 1) == 0) = true ∨ (bits .andNot .u64 (p (2 * k + 1)) (bl (el xs k).toNat).2 != 0) = true) : phAt xs p k = false := by
  unfold phAt
  rw [if_pos hin]
  rcases h3 with ⟨h, h'⟩ | h
  · rw [h, h']; rfl
  · have h5 : (bits .andNot .u64 (p (2 * k + 1)) (bl (el xs k).toNat).2 == 0) = false := beq_eq_false_iff_ne.2 (bne_iff_ne.1 h)
    rw [h5, Bool.and_false, Bool.and_false]
theorem phAt_out {xs : List Int} {p : Nat → Int} {k : Nat} (hin : ¬ k < xs.length) (h : (!(p (2 * k) == 0)) = false ∧ (!(p (2 * k + 1) == 0)) = false) : phAt xs p k = true := by
  unfold phAt
  rw [if_neg hin, (Bool.not_eq_false' _).mp h.1, (Bool.not_eq_false' _).mp h.2]; rfl
theorem phAt_out0 {xs : List Int} {p : Nat → Int} {k : Nat} (hin : ¬ k < xs.length) (h : (!(p (2 * k) == 0)) = true ∨ (!(p (2 * k + 1) == 0)) = true) : phAt xs p k = false := by
  unfold phAt
  rw [if_neg hin]
  rcases h with h | h
  · rw [(Bool.not_eq_true' _).mp h]; rfl
  · rw [(Bool.not_eq_true' _).mp h, Bool.and_false]
theorem idxP (f : Nat → Int) {k : Nat} (h : k < 8) (W : World) : (Instr.index 43 (.agg #[.int .u64 (f 0), .int .u64 (f 1), .int .u64 (f 2), .int .u64 (f 3), .int .u64 (f 4), .int .u64 (f 5), .int .u64 (f 6), .int .u64 (f 7), .int .u64 (f 8), .int .u64 (f 9), .int .u64 (f 10), .int .u64 (f 11), .int .u64 (f 12), .int .u64 (f 13), .int .u64 (f 14), .int .u64 (f 15)]) (.int .i64 (k : Int))).run Try.prog W = .ok (.agg #[.int .u64 (f (2 * k)), .int .u64 (f (2 * k + 1))]) W := by
  rcases lt8 h with rfl | rfl | rfl | rfl | rfl | rfl | rfl | rfl <;> kernel_rfl
@[go_sem] theorem eqMk (a b c d : Int) (w : World) : (Op.equalIn 10000 41 (.agg #[.int .u64 a, .int .u64 b]) (.agg #[.int .u64 c, .int .u64 d])).run Try.prog w = .ok (a == c && b == d) w := by
  have u3 := Try.underlying23
  have a3 := Try.isAgg23
  have z3 := Try.sizeOf23
  rw [show (10000 : Nat) = 9999 + 1 from rfl, Op.equalIn]
  simp only [Sem.run_bind, run_underlying Try.underlying41, Result.andThen_ok]
  simp only [Std.Legacy.Range.forIn_eq_forIn_range', Std.Legacy.Range.size, Nat.sub_zero, Nat.add_sub_cancel, Nat.div_one, List.range'_succ, List.range'_zero, List.forIn_cons, List.forIn_nil]
  go_simp
  by_cases h1 : a = c <;> by_cases h2 : b = d <;> simp [h1, h2]
set_option maxHeartbeats 4000000 in
theorem photoOK_any {A : Option Addr} {xs : List Int} {W : World} {B : Nat} (hs : Nums .u8 W B A xs) (h8 : b8 xs) (n c : Nat) (hn : xs.length = n) (w : World) (hb : Below B W w) (p : Nat → Int) (hk : okS xs = true) : Calls Try.prog 238 #[.slice A n c, .agg #[.int .u64 (p 0), .int .u64 (p 1), .int .u64 (p 2), .int .u64 (p 3), .int .u64 (p 4), .int .u64 (p 5), .int .u64 (p 6), .int .u64 (p 7), .int .u64 (p 8), .int .u64 (p 9), .int .u64 (p 10), .int .u64 (p 11), .int .u64 (p 12), .int .u64 (p 13), .int .u64 (p 14), .int .u64 (p 15)]] w fun e w' => e = .returned (.bool (phOK xs p)) ∧ Below w.heap.size w w' := by
  obtain rfl := hn
  have hB := hs.bsz hb
  have HK := Lib.hid hk
  clear hk
  go_enter Try.func238, Try.ntmps238
  go_wp2
  go_loopw [9] (fun i wr => ∃ (k : Nat) (os : Array Obj) (d : Nat), k ≤ 8 ∧ i = .int .i64 k ∧ Hid (phTo xs p k = true) ∧ wr = mo (w.alloc (.cells #[.int .u64 (p 0), .int .u64 (p 1), .int .u64 (p 2), .int .u64 (p 3), .int .u64 (p 4), .int .u64 (p 5), .int .u64 (p 6), .int .u64 (p 7), .int .u64 (p 8), .int .u64 (p 9), .int .u64 (p 10), .int .u64 (p 11), .int .u64 (p 12), .int .u64 (p 13), .int .u64 (p 14), .int .u64 (p 15)] 43)) os d) (fun i _ => 8 - (intOf i).toNat)
  case atStart => exact ⟨0, #[], _, Nat.zero_le _, rfl, (rfl : phTo xs p 0 = true), (mo_nil _).symm⟩
  case round =>
    obtain ⟨k, os, d, hk, rfl, HA, rfl⟩ := hrel
    by_cases hlt : k < 8
    · have hix := fun W1 => idxP p hlt W1
      have g0 : (0 : Int) ≤ (k : Int) := by omega
      have g1 : (k : Int) < 8 := by omega
      by_cases hin : k < xs.length
      · obtain ⟨b, off, rfl, hbs, hc⟩ := hs.at hb hin
        obtain ⟨e0, e1⟩ : 0 ≤ el xs k ∧ el xs k ≤ 128 := by have := okS_el HK.out hin; omega
        have l3' : decide (xs.length ≤ k) = false := decide_eq_false (by omega)
        go_wp2_with (go_at_call 280; refine (below_any _ e0 e1 _).mono ?_; rintro e w' ⟨rfl, hb_⟩; obtain ⟨os_, d_, rfl⟩ := mo_of hb_; clear hb_)
        all_goals first
          | (have HN := Lib.hid (phTo_succ (xs := xs) (p := p) HA.out (phAt_in hin (by assumption) (by assumption) (by assumption)))
             exact ⟨⟨k + 1, _, _, by omega, by go_num, HN, by simp only [mo_alloc, mo_mo]; rfl⟩, by simp [intOf]; omega⟩)
          | (have HN := Lib.hid (phOK_no (xs := xs) (p := p) hlt (by first | (refine phAt_in0 hin ?_; assumption) | (refine phAt_in1 hin ?_; assumption) | (refine phAt_in2 hin ?_; assumption)))
             go_ret
             exact ⟨by rw [HN.out]; rfl, (by repeat' (first | (with_reducible first | assumption | exact Below.refl _ _ | refine Below.drew ?_ | refine Below.alloc ?_ ?_ _ | refine Below.setCell ?_ ?_ _ | refine below_setR ?_ ?_ _ | refine below_dn ?_ _ | refine Below.trans ?_ (below_mo _ _ _ ?_) | refine Below.trans ?_ (below_mq _ _ ?_) | exact Nat.le_refl _) | (simp; done) | (simp; omega) | omega))⟩)
      · have l3' : decide (xs.length ≤ k) = true := decide_eq_true (by omega)
        go_wp2
        all_goals first
          | (have HN := Lib.hid (phTo_succ (xs := xs) (p := p) HA.out (phAt_out hin (by assumption)))
             exact ⟨⟨k + 1, _, _, by omega, by go_num, HN, by simp only [mo_alloc, mo_mo]; rfl⟩, by simp [intOf]; omega⟩)
          | (have HN := Lib.hid (phOK_no (xs := xs) (p := p) hlt (phAt_out0 hin (by assumption)))
             go_ret
             exact ⟨by rw [HN.out]; rfl, (by repeat' (first | (with_reducible first | assumption | exact Below.refl _ _ | refine Below.drew ?_ | refine Below.alloc ?_ ?_ _ | refine Below.setCell ?_ ?_ _ | refine below_setR ?_ ?_ _ | refine below_dn ?_ _ | refine Below.trans ?_ (below_mo _ _ _ ?_) | refine Below.trans ?_ (below_mq _ _ ?_) | exact Nat.le_refl _) | (simp; done) | (simp; omega) | omega))⟩)
    · obtain rfl : k = 8 := by omega
      go_wp2
      go_ret
      exact ⟨by rw [show phOK xs p = true from HA.out]; rfl, (by repeat' (first | (with_reducible first | assumption | exact Below.refl _ _ | refine Below.drew ?_ | refine Below.alloc ?_ ?_ _ | refine Below.setCell ?_ ?_ _ | refine below_setR ?_ ?_ _ | refine below_dn ?_ _ | refine Below.trans ?_ (below_mo _ _ _ ?_) | refine Below.trans ?_ (below_mq _ _ ?_) | exact Nat.le_refl _) | (simp; done) | (simp; omega) | omega))⟩
end Go.Proofs.Ytbihgnmiocfelaa.X
