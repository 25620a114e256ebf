/- The laws mark stacks and logs; their copies are rows of their own. Conditions: none. -/
import Derived.Test.YtdmnblmonndkmaaKTail
import Derived.Test.YtdmnblmonndkmaaKPLaws
namespace Go.Proofs.Ytdmnblmonndkmaa.X
open Go.RowKit
set_option linter.unusedVariables false
set_option linter.unusedSimpArgs false
set_option maxRecDepth 100000
set_option maxHeartbeats 1000000 in
theorem markStackR (n g c b : Nat) (e0 : TypeId) (hn : n ≤ 1048576) (w : World) (vals : List Value) (hw : w.ownsRow b e0 1 (.slice (some ⟨g, 0, none⟩) n c) n vals) (s : Int) (hs : 0 ≤ s ∧ s ≤ 1000000000) :
    Calls Try.prog 61 #[.slice (some ⟨g, 0, none⟩) n c, .int .i64 s] w fun e w' => e = .returned (.int .i64 (s + (n : Int))) ∧ w.grownBy w' (some g) := by
  have HW := Lib.hid hw
  clear hw
  go_enter Try.func61, Try.ntmps61
  go_wp2
  go_loopw [1, 5] (fun q i wr => ∃ (k : Nat) (vs : List Value), k ≤ n ∧ i = .int .i64 (k : Int) ∧ q = .int .i64 (s + (k : Int)) ∧ wr.ownsRow b e0 1 (.slice (some ⟨g, 0, none⟩) n c) n vs ∧ w.grownBy wr (some g)) (fun _ i _ => n - (intOf i).toNat)
  case atStart => exact ⟨0, vals, Nat.zero_le _, rfl, by simp, HW.out, World.grownBy.refl _ _⟩
  case round =>
    obtain ⟨k, vs, hk, rfl, rfl, hown, hgr⟩ := hrel
    by_cases hlt : k < n
    · have hvl : vs.length = n := by have := hown.1; omega
      obtain ⟨u0, hu0⟩ : ∃ u, vs[k]? = some u := ⟨_, List.getElem?_eq_getElem (by omega)⟩
      have hc : wr.cell? ⟨g, k, none⟩ = some u0 := (hown.cellAt k (by omega)).trans hu0
      have hfz := hown.frozenAt k
      have h0 : (0 : Int) ≤ (k : Int) := by omega
      have h1 : (k : Int) < (n : Int) := by omega
      have e1 : IntKind.i64.wrap (s + (k : Int) + 1) = s + (k : Int) + 1 := IntWalk.i64_in _ ⟨by omega, by omega⟩
      have HS := fun u => hown.stored k u
      have HS := Lib.hid HS
      go_wp2
      exact ⟨⟨k + 1, _, by omega, by go_num, by go_num, (HS.out _).1, hgr.trans (HS.out _).2⟩, by simp [intOf]; omega⟩
    · obtain rfl : k = n := by omega
      go_wp2
      go_ret
      exact ⟨rfl, hgr⟩
set_option maxHeartbeats 1000000 in
theorem markReadingSR (n g c b : Nat) (e0 : TypeId) (hn : n ≤ 1048576) (w : World) (vals : List Value) (hw : w.ownsRow b e0 2 (.slice (some ⟨g, 0, none⟩) n c) n vals) (s : Int) (hs : 0 ≤ s ∧ s ≤ 1000000000) :
    Calls Try.prog 62 #[.slice (some ⟨g, 0, none⟩) n c, .int .i64 s] w fun e w' => e = .returned (.int .i64 (s + 2 * (n : Int))) ∧ w.grownBy w' (some g) := by
  have HW := Lib.hid hw
  clear hw
  go_enter Try.func62, Try.ntmps62
  go_wp2
  go_loopw [1, 5] (fun q i wr => ∃ (k : Nat) (vs : List Value), k ≤ n ∧ i = .int .i64 (k : Int) ∧ q = .int .i64 (s + 2 * (k : Int)) ∧ wr.ownsRow b e0 2 (.slice (some ⟨g, 0, none⟩) n c) n vs ∧ w.grownBy wr (some g)) (fun _ i _ => n - (intOf i).toNat)
  case atStart => exact ⟨0, vals, Nat.zero_le _, rfl, by simp, HW.out, World.grownBy.refl _ _⟩
  case round =>
    obtain ⟨k, vs, hk, rfl, rfl, hown, hgr⟩ := hrel
    by_cases hlt : k < n
    · have hvl : vs.length = n * 2 := hown.1
      obtain ⟨u0, hu0⟩ : ∃ u, vs[k * 2]? = some u := ⟨_, List.getElem?_eq_getElem (by omega)⟩
      obtain ⟨u1, hu1⟩ : ∃ u, vs[k * 2 + 1]? = some u := ⟨_, List.getElem?_eq_getElem (by omega)⟩
      have hc : wr.cell? ⟨g, k * 2, none⟩ = some u0 := (hown.cellAt (k * 2) (by omega)).trans hu0
      have hc1 : wr.cell? ⟨g, k * 2 + 1, none⟩ = some u1 := (hown.cellAt (k * 2 + 1) (by omega)).trans hu1
      have hfz := hown.frozenAt (k * 2)
      have hfz1 := hown.frozenAt (k * 2 + 1)
      have h0 : (0 : Int) ≤ (k : Int) := by omega
      have h1 : (k : Int) < (n : Int) := by omega
      have e1 : IntKind.i64.wrap (s + 2 * (k : Int) + 1) = s + 2 * (k : Int) + 1 := IntWalk.i64_in _ ⟨by omega, by omega⟩
      have e2 : IntKind.i64.wrap (s + 2 * (k : Int) + 1 + 1) = s + 2 * (k : Int) + 1 + 1 := IntWalk.i64_in _ ⟨by omega, by omega⟩
      have HS := fun u => hown.stored (k * 2) u
      have HS := Lib.hid HS
      go_wp2
      exact ⟨⟨k + 1, _, by omega, by go_num, by go_num, ((HS.out _).1.stored (k * 2 + 1) _).1, (hgr.trans (HS.out _).2).trans ((HS.out _).1.stored (k * 2 + 1) _).2⟩, by simp [intOf]; omega⟩
    · obtain rfl : k = n := by omega
      go_wp2
      go_ret
      exact ⟨rfl, hgr⟩
def RetSR (xs : List Int) (w : World) (e : Ending) (w' : World) : Prop :=
  ∃ cur, e = .returned (.slice (some ⟨w.heap.size, 0, none⟩) xs.length xs.length) ∧ w' = w.alloc (.cells cur 5) ∧ cur.size = xs.length ∧ Nums .u8 w' w'.heap.size (some ⟨w.heap.size, 0, none⟩) xs
def RetRR (js : List (Int × Int)) (w : World) (e : Ending) (w' : World) : Prop :=
  ∃ cur os d, e = .returned (.slice (some ⟨w.heap.size, 0, none⟩) js.length js.length) ∧ w' = mo (w.alloc (.cells cur 118)) os d ∧ cur.size = js.length * 2 ∧ Prs .i64 .i64 w' w'.heap.size (some ⟨w.heap.size, 0, none⟩) js
set_option maxHeartbeats 1000000 in
theorem toStackR {A : Option Addr} {xs : List Int} {W : World} {B : Nat} (hs : Nums .u8 W B A xs) (h8 : b8 xs) (n c : Nat) (hn : xs.length = n) (w : World) (hb : Below B W w) : Calls Try.prog 16 #[.slice A n c] w (RetSR xs w) := by
  obtain ⟨i0, hi, hz0, hz1, hz2⟩ := info_parts infoU8
  have hl := hs.len
  obtain rfl := hn
  have hmk : ∀ W : World, (Instr.makeSlice 30 (.int .i64 (xs.length : Int)) (.int .i64 (xs.length : Int))).run Try.prog W = .ok (.slice (some ⟨W.heap.size, 0, none⟩) xs.length xs.length) (W.alloc (.cells (madeCells #[.int .u8 0] (xs.length * 1)) 5)) := fun W => by
    have := run_make (P := Try.prog) W 30 5 i0 _ Try.underlying30 hi hz0 .i64 .i64 xs.length xs.length (by omega) (by omega) (by rw [hz2]; omega) (by omega)
    rw [hz1, Int.toNat_natCast] at this
    exact this
  clear hi hz0 hz1 hz2
  go_enter Try.func16, Try.ntmps16
  go_wp2
  clear hmk
  go_loopw [4] (fun i wr => ∃ (k : Nat) (cur : Array Value), k ≤ xs.length ∧ i = .int .i64 k ∧ wr = w.alloc (.cells cur 5) ∧ cur.size = xs.length * 1 ∧ Fill 1 (fun x => [Value.int .u8 x]) cur xs k) (fun i _ => xs.length - (intOf i).toNat)
  case atStart => exact ⟨0, _, Nat.zero_le _, rfl, rfl, (size_madeCells _ _).trans (Nat.mul_one _).symm, Fill.zero⟩
  case round =>
    obtain ⟨k, cur, hk, rfl, rfl, hcur, hall⟩ := hrel
    have HC := Lib.hid hcur
    have HA := Lib.hid hall
    clear hcur hall
    by_cases hlt : k < xs.length
    · obtain ⟨b, off, rfl, hbs, hc⟩ := hs.at hb hlt
      obtain ⟨v0, hv0⟩ : ∃ v, cur[k]? = some v := ⟨_, Array.getElem?_eq_getElem (by have := HC.out; omega)⟩
      go_wp2
      exact ⟨⟨k + 1, _, by omega, by go_num, rfl, by simp [HC.out], Fill.step1 HA.out (by have := HC.out; omega)⟩, by simp [intOf]; omega⟩
    · obtain rfl : k = xs.length := by omega
      go_wp2
      go_ret
      have hd := (HA.out.done (Nat.le_refl _) : SL (mo (w.alloc (.cells cur 5)) #[] (w.alloc (.cells cur 5)).drawn) _ _ _ _ _)
      rw [mo_nil] at hd
      exact ⟨_, rfl, rfl, HC.out.trans (Nat.mul_one _), ⟨hd, hs.len, Nat.le_refl _⟩⟩
set_option maxHeartbeats 1000000 in
theorem toReadingSR {L : Option Addr} {log : List (Int × Int)} {V : World} {C : Nat} (hl : Prs .i64 .i64 V C L log) (cl : Nat) (w : World) (hv : Below C V w) :
    Calls Try.prog 55 #[.slice L log.length cl] w (RetRR log w) := by
  obtain ⟨i0, hi, hz0, hz1, hz2⟩ := info_parts infoP118
  have hll := hl.len
  have hmk : ∀ W : World, (Instr.makeSlice 69 (.int .i64 (log.length : Int)) (.int .i64 (log.length : Int))).run Try.prog W = .ok (.slice (some ⟨W.heap.size, 0, none⟩) log.length log.length) (W.alloc (.cells (madeCells #[.int .i64 0, .int .i64 0] (log.length * 2)) 118)) := fun W => by
    have := run_make (P := Try.prog) W 69 118 i0 _ Try.underlying69 hi hz0 .i64 .i64 log.length log.length (by omega) (by omega) (by rw [hz2]; omega) (by omega)
    rw [hz1, Int.toNat_natCast] at this
    exact this
  clear hi hz0 hz1 hz2
  go_enter Try.func55, Try.ntmps55
  go_wp2
  clear hmk
  go_loopw [4] (fun i wr => ∃ (k : Nat) (cur : Array Value) (os : Array Obj) (d : Nat), k ≤ log.length ∧ i = .int .i64 k ∧ wr = mo (w.alloc (.cells cur 118)) os d ∧ cur.size = log.length * 2 ∧ Fill 2 (encP .i64 .i64) cur log k) (fun i _ => log.length - (intOf i).toNat)
  case atStart => exact ⟨0, _, #[], _, Nat.zero_le _, rfl, (mo_nil _).symm, size_madeCells _ _, Fill.zero⟩
  case round =>
    obtain ⟨k, cur, os, d, hk, rfl, rfl, hcur, hall⟩ := hrel
    have HC := Lib.hid hcur
    have HA := Lib.hid hall
    clear hcur hall
    by_cases hlt : k < log.length
    · obtain ⟨b, off, rfl, hbs, hc0, hc1⟩ := hl.at hv hlt
      obtain ⟨v0, hv0⟩ : ∃ v, cur[k * 2]? = some v := ⟨_, Array.getElem?_eq_getElem (by have := HC.out; omega)⟩
      obtain ⟨v1, hv1⟩ : ∃ v, cur[k * 2 + 1]? = some v := ⟨_, Array.getElem?_eq_getElem (by have := HC.out; omega)⟩
      go_wp2_with (go_at_call 105; refine (toReading_any _ _ _).mono ?_; rintro e w' ⟨rfl, hb_⟩; obtain ⟨os_, d_, rfl⟩ := mo_of hb_; clear hb_)
      exact ⟨⟨k + 1, _, _, _, by omega, by go_num, mo_mo _ _ _ _ _, by simp [HC.out], Fill.step2 HA.out (by have := HC.out; omega)⟩, by simp [intOf]; omega⟩
    · obtain rfl : k = log.length := by omega
      go_wp2
      go_ret
      exact ⟨_, _, _, rfl, rfl, HC.out, ⟨HA.out.done (Nat.le_refl _), hl.len, Nat.le_refl _⟩⟩ --fun b off e => (by injection e with e; injection e with e1; omega), (by repeat' (first | (with_reducible first | assumption | exact Below.refl _ _ | refine Below.drew ?_ | refine Below.alloc ?_ ?_ _ | refine Below.setCell ?_ ?_ _ | refine below_setR ?_ ?_ _ | refine below_dn ?_ _ | refine Below.trans ?_ (below_mo _ _ _ ?_) | refine Below.trans ?_ (below_mq _ _ ?_) | exact Nat.le_refl _) | (simp; done) | (simp; omega) | omega))⟩
/-- The call hands back a copy of a stack in a new block of its own. -/
def RetSO (xs : List Int) (w : World) (e : Ending) (w' : World) : Prop :=
  ∃ g va, e = .returned (.slice (some ⟨g, 0, none⟩) xs.length xs.length) ∧ w'.ownsRow w.heap.size 5 1 (.slice (some ⟨g, 0, none⟩) xs.length xs.length) xs.length va ∧ Nums .u8 w' w'.heap.size (some ⟨g, 0, none⟩) xs ∧ Below w.heap.size w w'
def RetRO (js : List (Int × Int)) (w : World) (e : Ending) (w' : World) : Prop :=
  ∃ g va, e = .returned (.slice (some ⟨g, 0, none⟩) js.length js.length) ∧ w'.ownsRow w.heap.size 118 2 (.slice (some ⟨g, 0, none⟩) js.length js.length) js.length va ∧ Prs .i64 .i64 w' w'.heap.size (some ⟨g, 0, none⟩) js ∧ Below w.heap.size w w'
theorem own_moR {w : World} {b : Nat} {e : TypeId} {sz : Nat} {v : Value} {n : Nat} {ys : List Value} (h : w.ownsRow b e sz v n ys) (os : Array Obj) (d : Nat) : (mo w os d).ownsRow b e sz v n ys :=
  (Chg.of_below (below_mo w os d (Nat.le_refl _)) (fun _ => False)).row h (fun _ _ h => h)
theorem own_below {w w' : World} {b : Nat} {e : TypeId} {sz : Nat} {v : Value} {n : Nat} {ys : List Value} (h : w.ownsRow b e sz v n ys) (hb : Below w.heap.size w w') : w'.ownsRow b e sz v n ys :=
  (Chg.of_below hb (fun _ => False)).row h (fun _ _ h => h)
theorem toStackO {A : Option Addr} {xs : List Int} {W : World} {B : Nat} (hs : Nums .u8 W B A xs) (h8 : b8 xs) (n c : Nat) (hn : xs.length = n) (w : World) (hb : Below B W w) : Calls Try.prog 16 #[.slice A n c] w (RetSO xs w) := by
  have hl := hs.len
  refine (toStackR hs h8 _ _ hn _ hb).mono ?_
  rintro e w' ⟨cur, rfl, rfl, hz, h1⟩
  exact ⟨_, cur.toList, rfl, World.ownsRow_lit w cur xs.length (Nat.le_refl _) (by unfold maxLen; omega) (by omega), h1, Below.alloc (Below.refl _ _) (Nat.le_refl _) _⟩
theorem toReadingSO {L : Option Addr} {log : List (Int × Int)} {V : World} {C : Nat} (hl : Prs .i64 .i64 V C L log) (cl : Nat) (w : World) (hv : Below C V w) : Calls Try.prog 55 #[.slice L log.length cl] w (RetRO log w) := by
  have hll := hl.len
  refine (toReadingSR hl cl w hv).mono ?_
  rintro e w' ⟨cur, os, d, rfl, rfl, hz, h1⟩
  exact ⟨_, cur.toList, rfl, own_below (World.ownsRow_lit w cur log.length (Nat.le_refl _) (by unfold maxLen; omega) hz) (below_mo _ _ _ (Nat.le_refl _)), h1, (by repeat' (first | (with_reducible first | assumption | exact Below.refl _ _ | refine Below.drew ?_ | refine Below.alloc ?_ ?_ _ | refine Below.setCell ?_ ?_ _ | refine below_setR ?_ ?_ _ | refine below_dn ?_ _ | refine Below.trans ?_ (below_mo _ _ _ ?_) | refine Below.trans ?_ (below_mq _ _ ?_) | exact Nat.le_refl _) | (simp; done) | (simp; omega) | omega))⟩
end Go.Proofs.Ytdmnblmonndkmaa.X
