/- The laws mark the memory of a motion. Conditions: none. -/
import Derived.Test.YtcaaljcfdahpaaaKList2
namespace Go.Proofs.Ytcaaljcfdahpaaa.X
open Go.RowKit
set_option linter.unusedVariables false
set_option linter.unusedSimpArgs false
set_option maxRecDepth 100000
set_option maxHeartbeats 1000000 in
theorem markStack_some (n g c b : Nat) (e0 : TypeId) (hn : n ≤ 1048576) (w : World) (vals : List Value) (hw : w.ownsRow b e0 1 (.slice (some ⟨g, 0, none⟩) n c) n vals) (s : Int) (hs : 0 ≤ s ∧ s ≤ 1000000000) :
    Calls Try.prog 42 #[.slice (some ⟨g, 0, none⟩) n c, .int .i64 s] w fun e w' => e = .returned (.int .i64 (s + (n : Int))) ∧ w.grownBy w' (some g) := by
  have HW := Lib.hid hw
  clear hw
  go_enter Try.func42, Try.ntmps42
  go_wp2
  go_loopw [1, 5] (fun q i wr => ∃ (k : Nat) (vs : List Value), k ≤ n ∧ i = .int .i64 (k : Int) ∧ q = .int .i64 (s + (k : Int)) ∧ wr.ownsRow b e0 1 (.slice (some ⟨g, 0, none⟩) n c) n vs ∧ w.grownBy wr (some g)) (fun _ i _ => n - (intOf i).toNat)
  case atStart => exact ⟨0, vals, Nat.zero_le _, rfl, by simp, HW.out, World.grownBy.refl _ _⟩
  case round =>
    obtain ⟨k, vs, hk, rfl, rfl, hown, hgr⟩ := hrel
    by_cases hlt : k < n
    · have hvl : vs.length = n := by have := hown.1; omega
      obtain ⟨u0, hu0⟩ : ∃ u, vs[k]? = some u := ⟨_, List.getElem?_eq_getElem (by omega)⟩
      have hc : wr.cell? ⟨g, k, none⟩ = some u0 := (hown.cellAt k (by omega)).trans hu0
      have hfz := hown.frozenAt k
      have h0 : (0 : Int) ≤ (k : Int) := by omega
      have h1 : (k : Int) < (n : Int) := by omega
      have e1 : IntKind.i64.wrap (s + (k : Int) + 1) = s + (k : Int) + 1 := IntWalk.i64_in _ ⟨by omega, by omega⟩
      have HS := fun u => hown.stored k u
      have HS := Lib.hid HS
      go_wp2
      exact ⟨⟨k + 1, _, by omega, by go_num, by go_num, (HS.out _).1, hgr.trans (HS.out _).2⟩, by simp [intOf]; omega⟩
    · obtain rfl : k = n := by omega
      go_wp2
      go_ret
      exact ⟨rfl, hgr⟩
set_option maxHeartbeats 1000000 in
theorem markJointS_some (n g c b : Nat) (e0 : TypeId) (hn : n ≤ 1048576) (w : World) (vals : List Value) (hw : w.ownsRow b e0 2 (.slice (some ⟨g, 0, none⟩) n c) n vals) (s : Int) (hs : 0 ≤ s ∧ s ≤ 1000000000) :
    Calls Try.prog 107 #[.slice (some ⟨g, 0, none⟩) n c, .int .i64 s] w fun e w' => e = .returned (.int .i64 (s + 2 * (n : Int))) ∧ w.grownBy w' (some g) := by
  have HW := Lib.hid hw
  clear hw
  go_enter Try.func107, Try.ntmps107
  go_wp2
  go_loopw [1, 5] (fun q i wr => ∃ (k : Nat) (vs : List Value), k ≤ n ∧ i = .int .i64 (k : Int) ∧ q = .int .i64 (s + 2 * (k : Int)) ∧ wr.ownsRow b e0 2 (.slice (some ⟨g, 0, none⟩) n c) n vs ∧ w.grownBy wr (some g)) (fun _ i _ => n - (intOf i).toNat)
  case atStart => exact ⟨0, vals, Nat.zero_le _, rfl, by simp, HW.out, World.grownBy.refl _ _⟩
  case round =>
    obtain ⟨k, vs, hk, rfl, rfl, hown, hgr⟩ := hrel
    by_cases hlt : k < n
    · have hvl : vs.length = n * 2 := hown.1
      obtain ⟨u0, hu0⟩ : ∃ u, vs[k * 2]? = some u := ⟨_, List.getElem?_eq_getElem (by omega)⟩
      obtain ⟨u1, hu1⟩ : ∃ u, vs[k * 2 + 1]? = some u := ⟨_, List.getElem?_eq_getElem (by omega)⟩
      have hc : wr.cell? ⟨g, k * 2, none⟩ = some u0 := (hown.cellAt (k * 2) (by omega)).trans hu0
      have hc1 : wr.cell? ⟨g, k * 2 + 1, none⟩ = some u1 := (hown.cellAt (k * 2 + 1) (by omega)).trans hu1
      have hfz := hown.frozenAt (k * 2)
      have hfz1 := hown.frozenAt (k * 2 + 1)
      have h0 : (0 : Int) ≤ (k : Int) := by omega
      have h1 : (k : Int) < (n : Int) := by omega
      have e1 : IntKind.i64.wrap (s + 2 * (k : Int) + 1) = s + 2 * (k : Int) + 1 := IntWalk.i64_in _ ⟨by omega, by omega⟩
      have e2 : IntKind.i64.wrap (s + 2 * (k : Int) + 1 + 1) = s + 2 * (k : Int) + 1 + 1 := IntWalk.i64_in _ ⟨by omega, by omega⟩
      have HS := fun u => hown.stored (k * 2) u
      have HS := Lib.hid HS
      go_wp2
      exact ⟨⟨k + 1, _, by omega, by go_num, by go_num, ((HS.out _).1.stored (k * 2 + 1) _).1, (hgr.trans (HS.out _).2).trans ((HS.out _).1.stored (k * 2 + 1) _).2⟩, by simp [intOf]; omega⟩
    · obtain rfl : k = n := by omega
      go_wp2
      go_ret
      exact ⟨rfl, hgr⟩
end Go.Proofs.Ytcaaljcfdahpaaa.X
