/- Totals are handed on as they are, and compared. Conditions: none. -/
import Derived.Test.YtaahfebnbholmaaBase
namespace Go.Proofs.Ytaahfebnbholmaa.X
open Go.RowKit
set_option linter.unusedVariables false
set_option linter.unusedSimpArgs false
abbrev e2 : Int × Int → List Value := fun x => [.int .i64 x.1, .int .i64 x.2]
set_option maxHeartbeats 400000 in
theorem toTotal_any (x y : Int) (w : World) :
    Calls Try.prog 61 #[.agg #[.int .i64 x, .int .i64 y]] w fun e w' => e = .returned (.agg #[.int .i64 x, .int .i64 y]) ∧ Below w.heap.size w w' := by
  go_enter Try.func61, Try.ntmps61
  go_wp2
  exact bodyPost_ret (v := .agg #[.int .i64 x, .int .i64 y]) (by simp [results, Try.results61, go_sem]) rfl ⟨rfl, (by repeat' (first | (with_reducible first | assumption | exact Below.refl _ _ | refine Below.trans ?_ (below_more _ _ _ ?_) | refine Below.alloc ?_ ?_ _ | refine Below.setCell ?_ ?_ _ | refine Below.drew ?_ | refine below_dnB ?_ _ | exact Nat.le_refl _) | (simp; done) | (simp; omega) | omega))⟩
theorem info83 : (Try.prog.info? 83).map (fun i => (i.zero, i.size, i.bytes)) = some (some (.agg #[.int .i64 0, .int .i64 0]), 2, 16) := by kernel_rfl
set_option maxHeartbeats 1000000 in
theorem toTotalS_any (A : Option Addr) (xs : List (Int × Int)) (n c b1 : Nat) (w : World) (hn : xs.length = n) (hl : n ≤ 1048576) (hb1 : b1 ≤ w.heap.size) (hs : SL w b1 2 e2 A xs) :
    Calls Try.prog 25 #[.slice A n c] w (RetSL w 2 e2 xs) := by
  obtain ⟨i0, hi, hz0, hz1, hz2⟩ := info_parts info83
  have hmk : ∀ W : World, (Instr.makeSlice 40 (.int .i64 (n : Int)) (.int .i64 (n : Int))).run Try.prog W = .ok (.slice (some ⟨W.heap.size, 0, none⟩) n n) (W.alloc (.cells (madeCells #[.int .i64 0, .int .i64 0] (n * 2)) 83)) := fun W => by
    have := run_make (P := Try.prog) W 40 83 i0 _ Try.underlying40 hi hz0 .i64 .i64 n n (by omega) (by omega) (by rw [hz2]; omega) (by omega)
    rw [hz1, Int.toNat_natCast] at this
    exact this
  have HN := Lib.hid hn
  clear hi hz0 hz1 hz2 hn
  go_enter Try.func25, Try.ntmps25
  go_wp2
  clear hmk
  go_loopw [4] (fun i wr => ∃ (k : Nat) (cur : Array Value) (os : Array Obj) (d : Nat), k ≤ n ∧ i = .int .i64 k ∧ wr = more (w.alloc (.cells cur 83)) os d ∧ cur.size = n * 2 ∧ Fill 2 e2 cur xs k) (fun i _ => n - (intOf i).toNat)
  case atStart => exact ⟨0, _, #[], _, Nat.zero_le _, rfl, (more_nil _).symm, size_madeCells _ _, Fill.zero⟩
  case round =>
    obtain ⟨k, cur, os, d, hk, rfl, rfl, hcur, hall⟩ := hrel
    have HC := Lib.hid hcur
    have HA := Lib.hid hall
    clear hcur hall
    by_cases hlt : k < n
    · have hlt' : k < xs.length := by have := HN.out; omega
      obtain ⟨b, off, rfl, hb, hc0, hc1⟩ := hs.at2 hlt'
      have hb' : b < w.heap.size := by omega
      obtain ⟨v0, hv0⟩ : ∃ v, cur[k * 2]? = some v := ⟨_, Array.getElem?_eq_getElem (by have := HC.out; omega)⟩
      obtain ⟨v1, hv1⟩ : ∃ v, cur[k * 2 + 1]? = some v := ⟨_, Array.getElem?_eq_getElem (by have := HC.out; omega)⟩
      go_wp2_with (go_at_call 61; refine (toTotal_any _ _ _).mono ?_; rintro e w' ⟨rfl, hb'⟩; obtain ⟨os', d', rfl⟩ := more_of hb'; clear hb')
      exact ⟨⟨k + 1, _, _, _, by omega, by go_num, rfl, by simp [HC.out], Fill.step2 HA.out (by have := HC.out; omega) hlt'⟩, by simp [intOf]; omega⟩
    · go_wp2
      go_ret
      have hnn := HN.out
      obtain rfl : k = n := by omega
      refine ⟨some ⟨w.heap.size, 0, none⟩, k, ?_, HA.out.done (by omega), (by repeat' (first | (with_reducible first | assumption | exact Below.refl _ _ | refine Below.trans ?_ (below_more _ _ _ ?_) | refine Below.alloc ?_ ?_ _ | refine Below.setCell ?_ ?_ _ | refine Below.drew ?_ | refine below_dnB ?_ _ | exact Nat.le_refl _) | (simp; done) | (simp; omega) | omega))⟩
      rw [hnn]
      rfl
set_option maxHeartbeats 400000 in
theorem eqTotal_same (x y : Int) (w : World) :
    Calls Try.prog 63 #[.agg #[.int .i64 x, .int .i64 y], .agg #[.int .i64 x, .int .i64 y]] w fun e w' => e = .returned (.bool true) ∧ Below w.heap.size w w' := by
  go_enter Try.func63, Try.ntmps63
  go_wp2
  go_ret
  exact ⟨rfl, (by repeat' (first | (with_reducible first | assumption | exact Below.refl _ _ | refine Below.trans ?_ (below_more _ _ _ ?_) | refine Below.alloc ?_ ?_ _ | refine Below.setCell ?_ ?_ _ | refine Below.drew ?_ | refine below_dnB ?_ _ | exact Nat.le_refl _) | (simp; done) | (simp; omega) | omega))⟩
set_option maxHeartbeats 1000000 in
theorem eqTotalS_same (A B : Option Addr) (xs : List (Int × Int)) (n c d b1 b2 : Nat) (w : World) (hn : xs.length = n) (hl : n ≤ 1048576) (h1 : b1 ≤ w.heap.size) (h2 : b2 ≤ w.heap.size) (hA : SL w b1 2 e2 A xs) (hB : SL w b2 2 e2 B xs) :
    Calls Try.prog 27 #[.slice A n c, .slice B n d] w fun e w' => e = .returned (.bool true) ∧ Below w.heap.size w w' := by
  obtain rfl := hn
  go_enter Try.func27, Try.ntmps27
  go_wp2
  go_loopw [5] (fun i wr => ∃ (k : Nat) (os : Array Obj) (dn : Nat), k ≤ xs.length ∧ i = .int .i64 k ∧ wr = more w os dn) (fun i _ => xs.length - (intOf i).toNat)
  case atStart => exact ⟨0, #[], _, Nat.zero_le _, rfl, (more_nil _).symm⟩
  case round =>
    obtain ⟨k, os, dn, hk, rfl, rfl⟩ := hrel
    by_cases hlt : k < xs.length
    · obtain ⟨b, off, rfl, hb, hc0, hc1⟩ := hA.at2 hlt
      obtain ⟨b', off', rfl, hb', hc0', hc1'⟩ := hB.at2 hlt
      have hbw : b < w.heap.size := by omega
      have hbw' : b' < w.heap.size := by omega
      have g0 : (0 : Int) ≤ (k : Int) := by omega
      have g1 : (k : Int) < (xs.length : Int) := by omega
      go_wp2
      go_region_with (go_at_call 63; refine (eqTotal_same _ _ _).mono ?_; rintro e w' ⟨rfl, hb''⟩; obtain ⟨os', d', rfl⟩ := more_of hb''; clear hb'')
      all_goals go_wp2
      all_goals exact ⟨⟨k + 1, _, _, by omega, by go_num, rfl⟩, by simp [intOf]; omega⟩
    · go_wp2
      go_ret
      exact ⟨rfl, below_more _ _ _ (Nat.le_refl _)⟩
theorem szTotalS_any (A : Option Addr) (n c : Nat) (left : Int) (w : World) (h0 : 0 ≤ left) (h1 : left ≤ 1048576) (hm : n ≤ maxLen) :
    Calls Try.prog 23 #[.slice A n c, .int .i64 left] w fun e w' => e = .returned (.int .i64 (if left < n then -1 else left - n)) ∧ w = w' := by
  unfold maxLen at hm
  by_cases h : left < n
  all_goals
    go_enter Try.func23, Try.ntmps23
    go_wp2
    go_ret
    exact ⟨by simp [h], rfl⟩
end Go.Proofs.Ytaahfebnbholmaa.X
