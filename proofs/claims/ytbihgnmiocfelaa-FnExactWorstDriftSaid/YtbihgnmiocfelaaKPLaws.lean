/- What the laws do with readings, totals, flows, portions: they are copied and compared. Conditions: none. -/
import Derived.Test.YtbihgnmiocfelaaKBase
namespace Go.Proofs.Ytbihgnmiocfelaa.X
open Go.RowKit
set_option linter.unusedVariables false
set_option linter.unusedSimpArgs false
set_option maxRecDepth 100000
set_option maxHeartbeats 400000 in
theorem toTotal_any (x y : Int) (w : World) : Calls Try.prog 141 #[.agg #[.int .i64 x, .int .i64 y]] w fun e w' => e = .returned (.agg #[.int .i64 x, .int .i64 y]) ∧ Below w.heap.size w w' := by
  go_enter Try.func141, Try.ntmps141
  go_wp2
  exact bodyPost_ret (v := .agg #[.int .i64 x, .int .i64 y]) (by simp [results, Try.results141, go_sem]) rfl ⟨rfl, (by repeat' (first | (with_reducible first | assumption | exact Below.refl _ _ | refine Below.drew ?_ | refine Below.alloc ?_ ?_ _ | refine Below.setCell ?_ ?_ _ | refine below_setR ?_ ?_ _ | refine below_dn ?_ _ | refine Below.trans ?_ (below_mo _ _ _ ?_) | refine Below.trans ?_ (below_mq _ _ ?_) | exact Nat.le_refl _) | (simp; done) | (simp; omega) | omega))⟩
set_option maxHeartbeats 400000 in
theorem eqTotal_same (x y : Int) (w : World) : Calls Try.prog 144 #[.agg #[.int .i64 x, .int .i64 y], .agg #[.int .i64 x, .int .i64 y]] w fun e w' => e = .returned (.bool true) ∧ Below w.heap.size w w' := by
  go_enter Try.func144, Try.ntmps144
  go_wp2
  go_ret
  exact ⟨rfl, (by repeat' (first | (with_reducible first | assumption | exact Below.refl _ _ | refine Below.drew ?_ | refine Below.alloc ?_ ?_ _ | refine Below.setCell ?_ ?_ _ | refine below_setR ?_ ?_ _ | refine below_dn ?_ _ | refine Below.trans ?_ (below_mo _ _ _ ?_) | refine Below.trans ?_ (below_mq _ _ ?_) | exact Nat.le_refl _) | (simp; done) | (simp; omega) | omega))⟩
theorem szTotalS_ok {A : Option Addr} (n c : Nat) (left : Int) (h0 : 0 ≤ left) (h1 : left ≤ 1048576) (w : World) (hl : ¬ left < (n : Int)) : Calls Try.prog 32 #[.slice A n c, .int .i64 left] w fun e w' => e = .returned (.int .i64 (left - n)) ∧ w = w' := by
  have h2 : (n : Int) ≤ left := by omega
  go_enter Try.func32, Try.ntmps32
  go_wp2
  go_ret
  exact ⟨rfl, rfl⟩
theorem szTotalS_big {A : Option Addr} (n c : Nat) (left : Int) (h0 : 0 ≤ left) (h1 : left ≤ 1048576) (w : World) (hl : left < (n : Int)) (hn : n ≤ 9223372036854775807) : Calls Try.prog 32 #[.slice A n c, .int .i64 left] w fun e w' => e = .returned (.int .i64 (-1)) ∧ w = w' := by
  go_enter Try.func32, Try.ntmps32
  go_wp2
  go_ret
  exact ⟨rfl, rfl⟩
theorem infoP165 : (Try.prog.info? 165).map (fun i => (i.zero, i.size, i.bytes)) = some (some (.agg #[.int .i64 0, .int .i64 0]), 2, 16) := by kernel_rfl
set_option maxHeartbeats 1000000 in
theorem toTotalS_new {L : Option Addr} {log : List (Int × Int)} {V : World} {C : Nat} (hl : Prs .i64 .i64 V C L log) (cl : Nat) (w : World) (hv : Below C V w) :
    Calls Try.prog 34 #[.slice L log.length cl] w (RetP2 .i64 .i64 log w) := by
  obtain ⟨i0, hi, hz0, hz1, hz2⟩ := info_parts infoP165
  have hll := hl.len
  have hmk : ∀ W : World, (Instr.makeSlice 56 (.int .i64 (log.length : Int)) (.int .i64 (log.length : Int))).run Try.prog W = .ok (.slice (some ⟨W.heap.size, 0, none⟩) log.length log.length) (W.alloc (.cells (madeCells #[.int .i64 0, .int .i64 0] (log.length * 2)) 165)) := fun W => by
    have := run_make (P := Try.prog) W 56 165 i0 _ Try.underlying56 hi hz0 .i64 .i64 log.length log.length (by omega) (by omega) (by rw [hz2]; omega) (by omega)
    rw [hz1, Int.toNat_natCast] at this
    exact this
  clear hi hz0 hz1 hz2
  go_enter Try.func34, Try.ntmps34
  go_wp2
  clear hmk
  go_loopw [4] (fun i wr => ∃ (k : Nat) (cur : Array Value) (os : Array Obj) (d : Nat), k ≤ log.length ∧ i = .int .i64 k ∧ wr = mo (w.alloc (.cells cur 165)) os d ∧ cur.size = log.length * 2 ∧ Fill 2 (encP .i64 .i64) cur log k) (fun i _ => log.length - (intOf i).toNat)
  case atStart => exact ⟨0, _, #[], _, Nat.zero_le _, rfl, (mo_nil _).symm, size_madeCells _ _, Fill.zero⟩
  case round =>
    obtain ⟨k, cur, os, d, hk, rfl, rfl, hcur, hall⟩ := hrel
    have HC := Lib.hid hcur
    have HA := Lib.hid hall
    clear hcur hall
    by_cases hlt : k < log.length
    · obtain ⟨b, off, rfl, hbs, hc0, hc1⟩ := hl.at hv hlt
      obtain ⟨v0, hv0⟩ : ∃ v, cur[k * 2]? = some v := ⟨_, Array.getElem?_eq_getElem (by have := HC.out; omega)⟩
      obtain ⟨v1, hv1⟩ : ∃ v, cur[k * 2 + 1]? = some v := ⟨_, Array.getElem?_eq_getElem (by have := HC.out; omega)⟩
      go_wp2_with (go_at_call 141; refine (toTotal_any _ _ _).mono ?_; rintro e w' ⟨rfl, hb_⟩; obtain ⟨os_, d_, rfl⟩ := mo_of hb_; clear hb_)
      exact ⟨⟨k + 1, _, _, _, by omega, by go_num, mo_mo _ _ _ _ _, by simp [HC.out], Fill.step2 HA.out (by have := HC.out; omega)⟩, by simp [intOf]; omega⟩
    · obtain rfl : k = log.length := by omega
      go_wp2
      go_ret
      exact ⟨_, _, rfl, ⟨HA.out.done (Nat.le_refl _), hl.len, Nat.le_refl _⟩, fun b off e => (by injection e with e; injection e with e1; omega), (by repeat' (first | (with_reducible first | assumption | exact Below.refl _ _ | refine Below.drew ?_ | refine Below.alloc ?_ ?_ _ | refine Below.setCell ?_ ?_ _ | refine below_setR ?_ ?_ _ | refine below_dn ?_ _ | refine Below.trans ?_ (below_mo _ _ _ ?_) | refine Below.trans ?_ (below_mq _ _ ?_) | exact Nat.le_refl _) | (simp; done) | (simp; omega) | omega))⟩
theorem toTotalS_any {L : Option Addr} {log : List (Int × Int)} {V : World} {C : Nat} (hl : Prs .i64 .i64 V C L log) (cl : Nat) (w : World) (hv : Below C V w) : Calls Try.prog 34 #[.slice L log.length cl] w (RetP .i64 .i64 log w) := (toTotalS_new hl cl w hv).mono fun _ _ => retP_of
set_option maxHeartbeats 1000000 in
theorem eqTotalS_same {L L' : Option Addr} {log : List (Int × Int)} {V V' : World} {C C' : Nat} (hl : Prs .i64 .i64 V C L log) (hl' : Prs .i64 .i64 V' C' L' log) (c c' : Nat) (w : World) (hv : Below C V w) (hv' : Below C' V' w) :
    Calls Try.prog 36 #[.slice L log.length c, .slice L' log.length c'] w fun e w' => e = .returned (.bool true) ∧ Below w.heap.size w w' := by
  have hll := hl.len
  go_enter Try.func36, Try.ntmps36
  go_wp2
  go_loopw [5] (fun i wr => ∃ k : Nat, k ≤ log.length ∧ i = .int .i64 k ∧ ∃ os d, wr = mo w os d) (fun i _ => log.length - (intOf i).toNat)
  case atStart => exact ⟨0, Nat.zero_le _, rfl, #[], _, (mo_nil _).symm⟩
  case round =>
    obtain ⟨k, hk, rfl, os, d, rfl⟩ := hrel
    by_cases hlt : k < log.length
    · obtain ⟨b, off, rfl, hbs, hc0, hc1⟩ := hl.at hv hlt
      obtain ⟨b', off', rfl, hbs', hc0', hc1'⟩ := hl'.at hv' hlt
      have h0 : (0 : Int) ≤ (k : Int) := by omega
      have h1 : (k : Int) < (log.length : Int) := by omega
      go_wp2
      (refine wp_region_mq (by kernel_rfl) (by kernel_rfl) ?_; (repeat (first | go_big_quiet_step ((first | (go_at_call 144; with_reducible exact quietQ (eqTotal_same _ _ _) ))) | quiet_step ((first | (go_at_call 144; with_reducible exact quietQ (eqTotal_same _ _ _) ))))); refine wpQuiet_nil ?_; intro _ hq_; obtain ⟨q_, rfl⟩ := hq_)
      go_wp2
      exact ⟨⟨k + 1, by omega, by go_num, mo_of (by repeat' (first | (with_reducible first | assumption | exact Below.refl _ _ | refine Below.drew ?_ | refine Below.alloc ?_ ?_ _ | refine Below.setCell ?_ ?_ _ | refine below_setR ?_ ?_ _ | refine below_dn ?_ _ | refine Below.trans ?_ (below_mo _ _ _ ?_) | refine Below.trans ?_ (below_mq _ _ ?_) | exact Nat.le_refl _) | (simp; done) | (simp; omega) | omega))⟩, by simp [intOf]; omega⟩
    · go_wp2
      go_ret
      exact ⟨rfl, (by repeat' (first | (with_reducible first | assumption | exact Below.refl _ _ | refine Below.drew ?_ | refine Below.alloc ?_ ?_ _ | refine Below.setCell ?_ ?_ _ | refine below_setR ?_ ?_ _ | refine below_dn ?_ _ | refine Below.trans ?_ (below_mo _ _ _ ?_) | refine Below.trans ?_ (below_mq _ _ ?_) | exact Nat.le_refl _) | (simp; done) | (simp; omega) | omega))⟩
end Go.Proofs.Ytbihgnmiocfelaa.X
