/- The copies that the laws make of a motion are rows of their own. Conditions: none. -/
import Derived.Test.YtcaaljcfdahpaaaKMark
import Derived.Test.YtcaaljcfdahpaaaKOCap
namespace Go.Proofs.Ytcaaljcfdahpaaa.X
open Go.RowKit
set_option linter.unusedVariables false
set_option linter.unusedSimpArgs false
set_option maxRecDepth 100000
def RetSW (xs : List Int) (w : World) (e : Ending) (w' : World) : Prop :=
  ∃ cur, e = .returned (.slice (some ⟨w.heap.size, 0, none⟩) xs.length xs.length) ∧ w' = w.alloc (.cells cur 5) ∧ cur.size = xs.length ∧ Nums .u8 w' w'.heap.size (some ⟨w.heap.size, 0, none⟩) xs
def RetJW (js : List (Int × Int)) (w : World) (e : Ending) (w' : World) : Prop :=
  ∃ cur os d, e = .returned (.slice (some ⟨w.heap.size, 0, none⟩) js.length js.length) ∧ w' = mo (w.alloc (.cells cur 158)) os d ∧ cur.size = js.length * 2 ∧ Prs .i8 .i16 w' w'.heap.size (some ⟨w.heap.size, 0, none⟩) js
set_option maxHeartbeats 1000000 in
theorem toStack_own {A : Option Addr} {xs : List Int} {W : World} {B : Nat} (hs : Nums .u8 W B A xs) (h8 : b8 xs) (n c : Nat) (hn : xs.length = n) (w : World) (hb : Below B W w) : Calls Try.prog 26 #[.slice A n c] w (RetSW xs w) := by
  obtain ⟨i0, hi, hz0, hz1, hz2⟩ := info_parts infoU8
  have hl := hs.len
  obtain rfl := hn
  have hmk : ∀ W : World, (Instr.makeSlice 24 (.int .i64 (xs.length : Int)) (.int .i64 (xs.length : Int))).run Try.prog W = .ok (.slice (some ⟨W.heap.size, 0, none⟩) xs.length xs.length) (W.alloc (.cells (madeCells #[.int .u8 0] (xs.length * 1)) 5)) := fun W => by
    have := run_make (P := Try.prog) W 24 5 i0 _ Try.underlying24 hi hz0 .i64 .i64 xs.length xs.length (by omega) (by omega) (by rw [hz2]; omega) (by omega)
    rw [hz1, Int.toNat_natCast] at this
    exact this
  clear hi hz0 hz1 hz2
  go_enter Try.func26, Try.ntmps26
  go_wp2
  clear hmk
  go_loopw [4] (fun i wr => ∃ (k : Nat) (cur : Array Value), k ≤ xs.length ∧ i = .int .i64 k ∧ wr = w.alloc (.cells cur 5) ∧ cur.size = xs.length * 1 ∧ Fill 1 (fun x => [Value.int .u8 x]) cur xs k) (fun i _ => xs.length - (intOf i).toNat)
  case atStart => exact ⟨0, _, Nat.zero_le _, rfl, rfl, (size_madeCells _ _).trans (Nat.mul_one _).symm, Fill.zero⟩
  case round =>
    obtain ⟨k, cur, hk, rfl, rfl, hcur, hall⟩ := hrel
    have HC := Lib.hid hcur
    have HA := Lib.hid hall
    clear hcur hall
    by_cases hlt : k < xs.length
    · obtain ⟨b, off, rfl, hbs, hc⟩ := hs.at hb hlt
      obtain ⟨v0, hv0⟩ : ∃ v, cur[k]? = some v := ⟨_, Array.getElem?_eq_getElem (by have := HC.out; omega)⟩
      go_wp2
      exact ⟨⟨k + 1, _, by omega, by go_num, rfl, by simp [HC.out], Fill.step1 HA.out (by have := HC.out; omega)⟩, by simp [intOf]; omega⟩
    · obtain rfl : k = xs.length := by omega
      go_wp2
      go_ret
      have hd := (HA.out.done (Nat.le_refl _) : SL (mo (w.alloc (.cells cur 5)) #[] (w.alloc (.cells cur 5)).drawn) _ _ _ _ _)
      rw [mo_nil] at hd
      exact ⟨_, rfl, rfl, HC.out.trans (Nat.mul_one _), ⟨hd, hs.len, Nat.le_refl _⟩⟩
set_option maxHeartbeats 1000000 in
theorem toJointS_own {L : Option Addr} {log : List (Int × Int)} {V : World} {C : Nat} (hl : Prs .i8 .i16 V C L log) (cl : Nat) (w : World) (hv : Below C V w) :
    Calls Try.prog 94 #[.slice L log.length cl] w (RetJW log w) := by
  obtain ⟨i0, hi, hz0, hz1, hz2⟩ := info_parts infoP158
  have hll := hl.len
  have hmk : ∀ W : World, (Instr.makeSlice 56 (.int .i64 (log.length : Int)) (.int .i64 (log.length : Int))).run Try.prog W = .ok (.slice (some ⟨W.heap.size, 0, none⟩) log.length log.length) (W.alloc (.cells (madeCells #[.int .i8 0, .int .i16 0] (log.length * 2)) 158)) := fun W => by
    have := run_make (P := Try.prog) W 56 158 i0 _ Try.underlying56 hi hz0 .i64 .i64 log.length log.length (by omega) (by omega) (by rw [hz2]; omega) (by omega)
    rw [hz1, Int.toNat_natCast] at this
    exact this
  clear hi hz0 hz1 hz2
  go_enter Try.func94, Try.ntmps94
  go_wp2
  clear hmk
  go_loopw [4] (fun i wr => ∃ (k : Nat) (cur : Array Value) (os : Array Obj) (d : Nat), k ≤ log.length ∧ i = .int .i64 k ∧ wr = mo (w.alloc (.cells cur 158)) os d ∧ cur.size = log.length * 2 ∧ Fill 2 (encP .i8 .i16) cur log k) (fun i _ => log.length - (intOf i).toNat)
  case atStart => exact ⟨0, _, #[], _, Nat.zero_le _, rfl, (mo_nil _).symm, size_madeCells _ _, Fill.zero⟩
  case round =>
    obtain ⟨k, cur, os, d, hk, rfl, rfl, hcur, hall⟩ := hrel
    have HC := Lib.hid hcur
    have HA := Lib.hid hall
    clear hcur hall
    by_cases hlt : k < log.length
    · obtain ⟨b, off, rfl, hbs, hc0, hc1⟩ := hl.at hv hlt
      obtain ⟨v0, hv0⟩ : ∃ v, cur[k * 2]? = some v := ⟨_, Array.getElem?_eq_getElem (by have := HC.out; omega)⟩
      obtain ⟨v1, hv1⟩ : ∃ v, cur[k * 2 + 1]? = some v := ⟨_, Array.getElem?_eq_getElem (by have := HC.out; omega)⟩
      go_wp2_with (go_at_call 131; refine (toJoint_any _ _ _).mono ?_; rintro e w' ⟨rfl, hb_⟩; obtain ⟨os_, d_, rfl⟩ := mo_of hb_; clear hb_)
      exact ⟨⟨k + 1, _, _, _, by omega, by go_num, mo_mo _ _ _ _ _, by simp [HC.out], Fill.step2 HA.out (by have := HC.out; omega)⟩, by simp [intOf]; omega⟩
    · obtain rfl : k = log.length := by omega
      go_wp2
      go_ret
      exact ⟨_, _, _, rfl, rfl, HC.out, ⟨HA.out.done (Nat.le_refl _), hl.len, Nat.le_refl _⟩⟩ --fun b off e => (by injection e with e; injection e with e1; omega), (by repeat' (first | (with_reducible first | assumption | exact Below.refl _ _ | refine Below.drew ?_ | refine Below.alloc ?_ ?_ _ | refine Below.setCell ?_ ?_ _ | refine below_setR ?_ ?_ _ | refine below_dn ?_ _ | refine Below.trans ?_ (below_mo _ _ _ ?_) | refine Below.trans ?_ (below_mq _ _ ?_) | exact Nat.le_refl _) | (simp; done) | (simp; omega) | omega))⟩
end Go.Proofs.Ytcaaljcfdahpaaa.X
