/- Is a photo one of a stack's, for the reference? Conditions: none. -/
import Derived.Test.YtbihgnmiocfelaaKMarks6
namespace Go.Proofs.Ytbihgnmiocfelaa.X
open Go.RowKit
set_option linter.unusedVariables false
set_option linter.unusedSimpArgs false
set_option maxRecDepth 100000
set_option maxHeartbeats 1000000 in
theorem l05Within_any (x y a b : Int) (w : World) : Calls Try.prog 278 #[.agg #[.int .u64 x, .int .u64 y], .agg #[.int .u64 a, .int .u64 b]] w fun e w' => e = .returned (.bool (bits .andNot .u64 x a == 0 && bits .andNot .u64 y b == 0)) ∧ Below w.heap.size w w' := by
  cases h1 : bits .andNot .u64 x a == 0
  all_goals
    go_enter Try.func278, Try.ntmps278
    go_wp2
    go_ret
    exact ⟨by simp [*], (by repeat' (first | (with_reducible first | assumption | exact Below.refl _ _ | refine Below.drew ?_ | refine Below.alloc ?_ ?_ _ | refine Below.setCell ?_ ?_ _ | refine below_setR ?_ ?_ _ | refine below_dn ?_ _ | refine Below.trans ?_ (below_mo _ _ _ ?_) | refine Below.trans ?_ (below_mq _ _ ?_) | exact Nat.le_refl _) | (simp; done) | (simp; omega) | omega))⟩
/-- The photo p lies in block g. -/
structure PhIn (w : World) (g : Nat) (p : Nat → Int) : Prop where
  lt : g < w.heap.size
  at' : ∀ k : Nat, k < 8 → w.cell? ⟨g, k * 2, none⟩ = some (.int .u64 (p (2 * k))) ∧ w.cell? ⟨g, k * 2 + 1, none⟩ = some (.int .u64 (p (2 * k + 1)))
theorem phAt_of {xs : List Int} {p : Nat → Int} {k : Nat} (hin : k < xs.length) {a b : Bool} (h1 : (p (2 * k) == 0 && p (2 * k + 1) == 0) = a) (h2 : (bits .andNot .u64 (p (2 * k)) (bl (el xs k).toNat).1 == 0 && bits .andNot .u64 (p (2 * k + 1)) (bl (el xs k).toNat).2 == 0) = b) : phAt xs p k = (!a && b) := by
  unfold phAt
  rw [if_pos hin, h1, h2]
theorem phAt_ou {xs : List Int} {p : Nat → Int} {k : Nat} (hin : ¬ k < xs.length) {a : Bool} (h1 : (p (2 * k) == 0 && p (2 * k + 1) == 0) = a) : phAt xs p k = a := by
  unfold phAt
  rw [if_neg hin, h1]
set_option maxHeartbeats 4000000 in
theorem l05Ok_any {A : Option Addr} {xs : List Int} {W : World} {B : Nat} (hs : Nums .u8 W B A xs) (h8 : b8 xs) (n c : Nat) (hn : xs.length = n) (w : World) (hb : Below B W w) (p : Nat → Int) (g : Nat) (hg : PhIn w g p) (hk : okS xs = true) : Calls Try.prog 235 #[.slice A n c, .pointer (some ⟨g, 0, none⟩)] w fun e w' => e = .returned (.bool (phOK xs p)) ∧ Below w.heap.size w w' := by
  obtain rfl := hn
  have hB := hs.bsz hb
  have hl := hs.len
  obtain ⟨hg0, hg1⟩ := hg
  have HG := Lib.hid hg1
  have HK := Lib.hid hk
  clear hk hg1
  go_enter Try.func235, Try.ntmps235
  go_wp2
  go_loopw [5] (fun i wr => ∃ (k : Nat) (os : Array Obj) (d : Nat), k ≤ 8 ∧ i = .int .i64 k ∧ Hid (phTo xs p k = true) ∧ wr = mo w os d) (fun i _ => 8 - (intOf i).toNat)
  case atStart => exact ⟨0, #[], _, Nat.zero_le _, rfl, (rfl : phTo xs p 0 = true), (mo_nil _).symm⟩
  case round =>
    obtain ⟨k, os, d, hk, rfl, HA, rfl⟩ := hrel
    by_cases hlt : k < 8
    · obtain ⟨c0, c1⟩ := HG.out k hlt
      have g0 : (0 : Int) ≤ (k : Int) := by omega
      have g1 : (k : Int) < 8 := by omega
      by_cases hin : k < xs.length
      · obtain ⟨b, off, rfl, hbs, hc⟩ := hs.at hb hin
        obtain ⟨e0, e1⟩ : 0 ≤ el xs k ∧ el xs k ≤ 128 := by have := okS_el HK.out hin; omega
        have l3' : decide (xs.length ≤ k) = false := decide_eq_false (by omega)
        have l3 : decide ((xs.length : Int) ≤ (k : Int)) = false := decide_eq_false (by omega)
        have g2 : (k : Int) < xs.length := by omega
        cases hz : (p (2 * k) == 0 && p (2 * k + 1) == 0)
        · cases h1 : (bits .andNot .u64 (p (2 * k)) (bl (el xs k).toNat).1 == 0 && bits .andNot .u64 (p (2 * k + 1)) (bl (el xs k).toNat).2 == 0)
          · have HN := Lib.hid (phOK_no (xs := xs) (p := p) hlt (phAt_of hin hz h1))
            go_wp2
            (refine wp_region_mq (by kernel_rfl) (by kernel_rfl) ?_; (repeat (first | go_big_quiet_step ((first | (go_at_call 279; with_reducible exact quietQ (l05Full_any _ e0 e1 _) ) | (go_at_call 278; with_reducible exact quietQb (l05Within_any _ _ _ _ _) h1))) | quiet_step ((first | (go_at_call 279; with_reducible exact quietQ (l05Full_any _ e0 e1 _) ) | (go_at_call 278; with_reducible exact quietQb (l05Within_any _ _ _ _ _) h1))))); refine wpQuiet_nil ?_; intro _ hq_; obtain ⟨q_, rfl⟩ := hq_)
            go_wp2
            go_ret
            exact ⟨by rw [HN.out]; rfl, (by repeat' (first | (with_reducible first | assumption | exact Below.refl _ _ | refine Below.drew ?_ | refine Below.alloc ?_ ?_ _ | refine Below.setCell ?_ ?_ _ | refine below_setR ?_ ?_ _ | refine below_dn ?_ _ | refine Below.trans ?_ (below_mo _ _ _ ?_) | refine Below.trans ?_ (below_mq _ _ ?_) | exact Nat.le_refl _) | (simp; done) | (simp; omega) | omega))⟩
          · have HN := Lib.hid (phTo_succ (xs := xs) (p := p) HA.out (phAt_of hin hz h1))
            go_wp2
            (refine wp_region_mq (by kernel_rfl) (by kernel_rfl) ?_; (repeat (first | go_big_quiet_step ((first | (go_at_call 279; with_reducible exact quietQ (l05Full_any _ e0 e1 _) ) | (go_at_call 278; with_reducible exact quietQb (l05Within_any _ _ _ _ _) h1))) | quiet_step ((first | (go_at_call 279; with_reducible exact quietQ (l05Full_any _ e0 e1 _) ) | (go_at_call 278; with_reducible exact quietQb (l05Within_any _ _ _ _ _) h1))))); refine wpQuiet_nil ?_; intro _ hq_; obtain ⟨q_, rfl⟩ := hq_)
            go_wp2
            exact ⟨⟨k + 1, _, _, by omega, by go_num, HN, mo_mo _ _ _ _ _⟩, by simp [intOf]; omega⟩
        · have HN := Lib.hid (phOK_no (xs := xs) (p := p) hlt (phAt_of hin hz rfl))
          go_wp2
          (refine wp_region_mq (by kernel_rfl) (by kernel_rfl) ?_; (repeat (first | go_big_quiet_step ((first | (go_at_call 279; with_reducible exact quietQ (l05Full_any _ e0 e1 _) ))) | quiet_step ((first | (go_at_call 279; with_reducible exact quietQ (l05Full_any _ e0 e1 _) ))))); refine wpQuiet_nil ?_; intro _ hq_; obtain ⟨q_, rfl⟩ := hq_)
          go_wp2
          go_ret
          exact ⟨by rw [HN.out]; rfl, (by repeat' (first | (with_reducible first | assumption | exact Below.refl _ _ | refine Below.drew ?_ | refine Below.alloc ?_ ?_ _ | refine Below.setCell ?_ ?_ _ | refine below_setR ?_ ?_ _ | refine below_dn ?_ _ | refine Below.trans ?_ (below_mo _ _ _ ?_) | refine Below.trans ?_ (below_mq _ _ ?_) | exact Nat.le_refl _) | (simp; done) | (simp; omega) | omega))⟩
      · have l3' : decide (xs.length ≤ k) = true := decide_eq_true (by omega)
        have l3 : decide ((xs.length : Int) ≤ (k : Int)) = true := decide_eq_true (by omega)
        cases hz : (p (2 * k) == 0 && p (2 * k + 1) == 0)
        · have HN := Lib.hid (phOK_no (xs := xs) (p := p) hlt (phAt_ou hin hz))
          go_wp2
          go_ret
          exact ⟨by rw [HN.out]; rfl, (by repeat' (first | (with_reducible first | assumption | exact Below.refl _ _ | refine Below.drew ?_ | refine Below.alloc ?_ ?_ _ | refine Below.setCell ?_ ?_ _ | refine below_setR ?_ ?_ _ | refine below_dn ?_ _ | refine Below.trans ?_ (below_mo _ _ _ ?_) | refine Below.trans ?_ (below_mq _ _ ?_) | exact Nat.le_refl _) | (simp; done) | (simp; omega) | omega))⟩
        · have HN := Lib.hid (phTo_succ (xs := xs) (p := p) HA.out (phAt_ou hin hz))
          go_wp2
          exact ⟨⟨k + 1, os, d, by omega, by go_num, HN, rfl⟩, by simp [intOf]; omega⟩
    · obtain rfl : k = 8 := by omega
      go_wp2
      go_ret
      exact ⟨by rw [show phOK xs p = true from HA.out]; rfl, (by repeat' (first | (with_reducible first | assumption | exact Below.refl _ _ | refine Below.drew ?_ | refine Below.alloc ?_ ?_ _ | refine Below.setCell ?_ ?_ _ | refine below_setR ?_ ?_ _ | refine below_dn ?_ _ | refine Below.trans ?_ (below_mo _ _ _ ?_) | refine Below.trans ?_ (below_mq _ _ ?_) | exact Nat.le_refl _) | (simp; done) | (simp; omega) | omega))⟩
end Go.Proofs.Ytbihgnmiocfelaa.X
