/- Lists as results: the laws compare and mark them. Conditions: none. -/
import Derived.Test.YtdmnblmonndkmaaKList
import Derived.Test.YtdmnblmonndkmaaKLaws
import Derived.Laws.OwnMore
namespace Go.Proofs.Ytdmnblmonndkmaa.X
open Go.RowKit
set_option linter.unusedVariables false
set_option linter.unusedSimpArgs false
set_option maxRecDepth 100000
/-- a list of its own can be read -/
theorem own_nums {w : World} {b : Nat} {e : TypeId} {v : Value} {ys : List Int} (h : w.ownsRow b e 1 v ys.length (ys.map (Value.int .i64))) (hl : ys.length ≤ 1048576) : ∃ A c, v = .slice A ys.length c ∧ Nums .i64 w w.heap.size A ys := by
  have hc := fun g hg => h.cells (g := g) hg
  have hlt := h.lt
  rcases h.2 with ⟨e1, e2⟩ | ⟨g, cap, cur, e1, _⟩
  · refine ⟨none, 0, by rw [e1, e2], ⟨fun hn => absurd hn (by omega), hl, Nat.le_refl _⟩⟩
  · subst e1
    refine ⟨_, cap, rfl, ⟨fun hn => ⟨g, 0, rfl, (hlt g rfl).2, fun i x hx j u hu => ?_⟩, hl, Nat.le_refl _⟩⟩
    have hcc := hc g rfl i (.int .i64 x) (by rw [List.getElem?_map, hx]; rfl)
    match j, hu with
    | 0, hu =>
      simp at hu
      subst hu
      have ea : (⟨g, 0, none⟩ : Addr).add i = ⟨g, i, none⟩ := by simp only [Addr.add]; split <;> simp_all
      rw [ea] at hcc
      simpa using hcc
set_option maxHeartbeats 1000000 in
theorem eqInt64S_same {A A' : Option Addr} {xs : List Int} {W W' : World} {B B' : Nat} (hs : Nums .i64 W B A xs) (hs' : Nums .i64 W' B' A' xs) (n c c' : Nat) (hn : xs.length = n) (w : World) (hb : Below B W w) (hb' : Below B' W' w) :
    Calls Try.prog 60 #[.slice A n c, .slice A' n c'] w fun e w' => e = .returned (.bool true) ∧ Below w.heap.size w w' := by
  have hl := hs.len
  obtain rfl := hn
  go_enter Try.func60, Try.ntmps60
  go_wp2
  go_loopw [5] (fun i wr => ∃ k : Nat, k ≤ xs.length ∧ i = .int .i64 k ∧ ∃ n, wr = w.drewN n) (fun i _ => xs.length - (intOf i).toNat)
  case atStart => exact ⟨0, Nat.zero_le _, rfl, 0, rfl⟩
  case round =>
    obtain ⟨k, hk, rfl, n, rfl⟩ := hrel
    by_cases hlt : k < xs.length
    · obtain ⟨b, off, rfl, hbs, hc⟩ := hs.at hb hlt
      obtain ⟨b', off', rfl, hbs', hc'⟩ := hs'.at hb' hlt
      have h0 : (0 : Int) ≤ (k : Int) := by omega
      have h1 : (k : Int) < (xs.length : Int) := by omega
      go_wp2
      go_quiet (fail)
      go_wp2
      go_roundw
      case rel => exact ⟨k + 1, by omega, by go_num, _, rfl⟩
      case measure => simp [intOf]; omega
    · go_wp2
      go_ret
      exact ⟨rfl, below_dn (Below.refl _ _) _⟩
/-- the marks that a list is given -/
def mks (n : Nat) : List Int := (List.range n).map (fun i : Nat => (i : Int) + 1)
theorem mks_len (n : Nat) : (mks n).length = n := by simp [mks]
theorem mks_el {n k : Nat} (h : k < n) : el (mks n) (k : Int) = (k : Int) + 1 := by
  unfold el mks
  rw [Int.toNat_natCast, List.getD_eq_getElem?_getD, List.getElem?_map, List.getElem?_range h]; rfl
set_option maxHeartbeats 1000000 in
theorem heldInt64S_any {A : Option Addr} {W : World} {B : Nat} (n : Nat) (hs : Nums .i64 W B A (mks n)) (c : Nat) (hn : n ≤ 1048576) (w : World) (hb : Below B W w) :
    Calls Try.prog 64 #[.slice A n c, .int .i64 1] w fun e w' => e = .returned (.int .i64 ((n : Int) + 1)) ∧ w = w' := by
  have hl := mks_len n
  go_enter Try.func64, Try.ntmps64
  go_wp2
  go_loopw [1, 5] (fun q i wr => ∃ k : Nat, k ≤ n ∧ i = .int .i64 (k : Int) ∧ q = .int .i64 ((k : Int) + 1) ∧ wr = w) (fun _ i _ => n - (intOf i).toNat)
  case atStart => exact ⟨0, Nat.zero_le _, rfl, rfl, rfl⟩
  case round =>
    obtain ⟨k, hk, rfl, rfl, rfl⟩ := hrel
    by_cases hlt : k < n
    · obtain ⟨b, off, rfl, hbs, hc⟩ := hs.at hb (k := k) (by omega)
      rw [mks_el hlt] at hc
      have h0 : (0 : Int) ≤ (k : Int) := by omega
      have h1 : (k : Int) < (n : Int) := by omega
      have e1 : IntKind.i64.wrap ((k : Int) + 1 + 1) = (k : Int) + 1 + 1 := IntWalk.i64_in _ ⟨by omega, by omega⟩
      go_wp2
      exact ⟨⟨k + 1, by omega, by go_num, by go_num, trivial⟩, by simp [intOf]; omega⟩
    · obtain rfl : k = n := by omega
      go_wp2
      go_ret
      exact ⟨rfl, rfl⟩
/-- a list of n whose first k are marked -/
def pm (f : Nat → Int) (n k : Nat) : List Int := (List.range n).map (fun i : Nat => if i < k then (i : Int) + 1 else f i)
theorem pm_all (f : Nat → Int) (n : Nat) : pm f n n = mks n := by
  unfold pm mks
  refine List.map_congr_left fun i hi => ?_
  rw [if_pos (List.mem_range.1 hi)]
theorem pm_zero (ys : List Int) : pm (fun i => el ys (i : Int)) ys.length 0 = ys := by
  refine List.ext_getElem? fun i => ?_
  unfold pm
  rw [List.getElem?_map]
  by_cases h : i < ys.length
  · rw [List.getElem?_range h, List.getElem?_eq_getElem h]
    show some (el ys (i : Int)) = _
    unfold el
    rw [Int.toNat_natCast, List.getD_eq_getElem?_getD, List.getElem?_eq_getElem h]; rfl
  · rw [List.getElem?_eq_none (by simpa using h), List.getElem?_eq_none (by simpa using h)]; rfl
theorem pm_set (f : Nat → Int) (n k : Nat) : ((pm f n k).map (Value.int .i64)).set k (.int .i64 ((k : Int) + 1)) = (pm f n (k + 1)).map (Value.int .i64) := by
  refine List.ext_getElem? fun i => ?_
  rw [List.getElem?_set]
  unfold pm
  simp only [List.getElem?_map, List.length_map, List.length_range]
  by_cases h : i < n
  · rw [List.getElem?_range h]
    by_cases hi : k = i
    · subst hi
      rw [if_pos rfl, if_pos h]
      simp
    · rw [if_neg hi]
      by_cases h2 : i < k
      · simp [h2, Nat.lt_succ_of_lt h2]
      · simp [h2, show ¬ i < k + 1 by omega]
  · rw [List.getElem?_eq_none (by simpa using h)]
    by_cases hi : k = i
    · subst hi
      rw [if_pos rfl, if_neg h]; rfl
    · rw [if_neg hi]; rfl
theorem pm_at (f : Nat → Int) {n k : Nat} (h : k < n) : ((pm f n k).map (Value.int .i64))[k]? = some (.int .i64 (f k)) := by
  unfold pm
  rw [List.getElem?_map, List.getElem?_map, List.getElem?_range h]
  simp
set_option maxHeartbeats 1000000 in
theorem markInt64S_some (f : Nat → Int) (n g c b : Nat) (e0 : TypeId) (hn : n ≤ 1048576) (w : World) (hw : w.ownsRow b e0 1 (.slice (some ⟨g, 0, none⟩) n c) n ((pm f n 0).map (Value.int .i64))) :
    Calls Try.prog 63 #[.slice (some ⟨g, 0, none⟩) n c, .int .i64 1] w fun e w' => e = .returned (.int .i64 ((n : Int) + 1)) ∧ w'.ownsRow b e0 1 (.slice (some ⟨g, 0, none⟩) n c) n ((mks n).map (Value.int .i64)) ∧ w.grownBy w' (some g) := by
  have HW := Lib.hid hw
  clear hw
  go_enter Try.func63, Try.ntmps63
  go_wp2
  go_loopw [1, 5] (fun q i wr => ∃ k : Nat, k ≤ n ∧ i = .int .i64 (k : Int) ∧ q = .int .i64 ((k : Int) + 1) ∧ wr.ownsRow b e0 1 (.slice (some ⟨g, 0, none⟩) n c) n ((pm f n k).map (Value.int .i64)) ∧ w.grownBy wr (some g)) (fun _ i _ => n - (intOf i).toNat)
  case atStart => exact ⟨0, Nat.zero_le _, rfl, rfl, HW.out, World.grownBy.refl _ _⟩
  case round =>
    obtain ⟨k, hk, rfl, rfl, hown, hgr⟩ := hrel
    by_cases hlt : k < n
    · have hc : wr.cell? ⟨g, k, none⟩ = some (.int .i64 (f k)) := (hown.cellAt k (by omega)).trans (pm_at f hlt)
      have hfz := hown.frozenAt k
      have h0 : (0 : Int) ≤ (k : Int) := by omega
      have h1 : (k : Int) < (n : Int) := by omega
      have e1 : IntKind.i64.wrap ((k : Int) + 1 + 1) = (k : Int) + 1 + 1 := IntWalk.i64_in _ ⟨by omega, by omega⟩
      have hst := hown.stored k (.int .i64 ((k : Int) + 1))
      rw [pm_set] at hst
      have HS := Lib.hid hst
      clear hst
      go_wp2
      exact ⟨⟨k + 1, by omega, by go_num, by go_num, HS.out.1, hgr.trans HS.out.2⟩, by simp [intOf]; omega⟩
    · obtain rfl : k = n := by omega
      go_wp2
      go_ret
      exact ⟨rfl, by rw [← pm_all f k]; exact hown, hgr⟩
end Go.Proofs.Ytdmnblmonndkmaa.X
