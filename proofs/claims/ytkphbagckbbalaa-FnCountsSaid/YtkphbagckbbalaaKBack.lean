/- slices.Backward over a stack: the iterator's contract. Conditions: none. -/
import Derived.RangeFuncNested
import Derived.RangeFuncBound
import Derived.RangeFuncCalls
import Derived.RangeFuncLeaves
import Derived.RangeFuncBox
import Derived.Shelf.Abstract
import Derived.Shelf.RegionOpen
import Derived.OwnWalkIn
import Derived.TacticsInMore
import Derived.LoopNIn
import Derived.LoopIn
import Derived.Test.YtkphbagckbbalaaKBase
namespace Go.Proofs.Ytkphbagckbbalaa.X
open Go.RowKit Go.Shelf
set_option linter.unusedVariables false
set_option linter.unusedSimpArgs false
set_option maxRecDepth 100000
attribute [local go_sem] Oper.semAt_some
/-- a wheel and its base, as the iterator hands them over -/
abbrev WB := { x : Nat × Int // x.1 < 8 ∧ 0 ≤ x.2 ∧ x.2 ≤ 255 }
def bkAt (xs : List Int) (h8 : b8 xs) (hn : xs.length ≤ 8) (j : Nat) : WB := ⟨((xs.length - 1 - j) % 8, el xs ((xs.length - 1 - j : Nat) : Int)), Nat.mod_lt _ (by omega), (h8 _).1, (h8 _).2⟩
def bkTo (xs : List Int) (h8 : b8 xs) (hn : xs.length ≤ 8) (k : Nat) : List WB := (List.range k).map (bkAt xs h8 hn)
theorem bkTo_succ (xs : List Int) (h8 : b8 xs) (hn : xs.length ≤ 8) (k : Nat) : bkTo xs h8 hn (k + 1) = bkTo xs h8 hn k ++ [bkAt xs h8 hn k] := by simp [bkTo, List.range_succ]
theorem bkTo_length (xs : List Int) (h8 : b8 xs) (hn : xs.length ≤ 8) (k : Nat) : (bkTo xs h8 hn k).length = k := by simp [bkTo]
/-- what a round keeps: what lay below n₀, and the iterator's own block -/
def KpS (n₀ Bs : Nat) (W W' : World) : Prop := Below n₀ W W' ∧ W'.heap[Bs]? = W.heap[Bs]?
theorem KpS.t {n₀ Bs : Nat} {A B C : World} (h : KpS n₀ Bs A B) (k : KpS n₀ Bs B C) : KpS n₀ Bs A C := ⟨h.1.trans k.1, k.2.trans h.2⟩
theorem kpS_b {n₀ Bs : Nat} {w : World} (hn : n₀ ≤ w.heap.size) (hB : Bs < w.heap.size) (W : World) (l : Nat) (o o' : Obj) (hl : w.heap.size ≤ l) (h : W.heap[l]? = some o) (h1 : o.isCells = false) (h2 : o.isWalk = false) : KpS n₀ Bs W (W.putObj l o') :=
  ⟨belowK_b hn W l o o' hl h h1 h2, (belowK_b (Nat.le_refl _) W l o o' hl h h1 h2).block Bs hB⟩
def wbEnc (x : WB) : Array Value := #[Value.int .i64 (x.1.1 : Int), Value.int .u8 x.1.2]
set_option maxRecDepth 100000 in
set_option maxHeartbeats 2000000 in
theorem back1_in (F : Fence) (n : Nat) (h7 : F.fn 196) (hro : F.round = none) (hn : 1 ≤ n) (l Bs n₀ c : Nat) {A : Option Addr} {xs : List Int} {W0 : World} {B : Nat} (hs : Nums .u8 W0 B A xs) (h8 : b8 xs) (hl : xs.length ≤ 8) (hBn : B ≤ n₀) (J Jx : List WB → World → Prop)
    (hY : ∀ pre x W, J pre W → pre.length < xs.length → YieldAt F (n - 1) Try.prog l (wbEnc x) W fun e W' =>
      (e = .returned (.bool true) ∧ J (pre ++ [x]) W' ∧ KpS n₀ Bs W W') ∨ (e = .returned (.bool false) ∧ Jx (pre ++ [x]) W'))
    (W : World) (hb : Below B W0 W) (hBs : W.cell? ⟨Bs, 0, none⟩ = some (.slice A xs.length c)) (h0 : J [] W) :
    CallsIn F n Try.prog 196 #[.func (.yield l) #[] #[], .pointer (some ⟨Bs, 0, none⟩)] W fun e W' => (∃ v, e = .returned v) ∧
      ((∃ ys, ys = bkTo xs h8 hl xs.length ∧ J ys W') ∨ (∃ pre, (∃ k, k ≤ xs.length ∧ pre = bkTo xs h8 hl k) ∧ Jx pre W')) := by
  refine callsIn_of_wp Try.func196 rfl h7 ?_ hro
  simp only [Try.ntmps196, List.size_toArray, List.length_cons, List.length_nil, Nat.reduceAdd, Nat.reduceSub, Array.replicate_succ, Array.replicate_zero, List.push_toArray, List.append_toArray, List.nil_append, List.cons_append]
  gi_wp2
  gi_loopw [3] (fun i wr => ∃ k : Nat, k ≤ xs.length ∧ i = .int .i64 ((xs.length : Int) - 1 - (k : Int)) ∧ J (bkTo xs h8 hl k) wr ∧ KpS n₀ Bs W wr)
    (fun i _ => (intOf i + 1).toNat)
  case atStart => exact ⟨0, Nat.zero_le _, by simp, h0, Below.refl _ _, rfl⟩
  case round =>
    obtain ⟨k, hk, rfl, hJs, hnx⟩ := hrel
    have hBc := (World.cell?_of_block (a := ⟨Bs, 0, none⟩) hnx.2).trans hBs
    by_cases hlt : k < xs.length
    · obtain ⟨b, off, rfl, hbs, hcx⟩ := hs.at (hb.trans (hnx.1.mono hBn)) (k := xs.length - 1 - k) (by omega)
      obtain ⟨fn, tmps, assign, body, hy, hR⟩ := hY _ (bkAt xs h8 hl k) wr hJs (by rw [bkTo_length]; exact hlt)
      have ek : ((xs.length - 1 - k : Nat) : Int) = (xs.length : Int) - 1 - (k : Int) := by omega
      have em : (xs.length - 1 - k) % 8 = xs.length - 1 - k := Nat.mod_eq_of_lt (by omega)
      have et : ((xs.length : Int) - 1 - (k : Int)).toNat = xs.length - 1 - k := by omega
      have g0 : (0 : Int) ≤ (xs.length : Int) - 1 - (k : Int) := by omega
      have g1 : (xs.length : Int) - 1 - (k : Int) < xs.length := by omega
      dsimp only [wbEnc, bkAt] at hy
      rw [em, ek] at hy
      rw [ek] at hcx
      clear em ek
      gi_wp2
      refine hR.mono ?_
      rintro e W3 (⟨rfl, hJ3, hk3⟩ | ⟨rfl, hJx3⟩)
      · gi_wp2
        go_roundw
        case rel => exact ⟨k + 1, by omega, by congr 1; omega, by rw [bkTo_succ]; exact hJ3, hnx.t hk3⟩
        case measure => simp [intOf]; omega
      · gi_wp2
        refine bodyPost_ret (results_none rfl _ _ _) rfl ?_
        exact ⟨⟨_, rfl⟩, .inr ⟨_, ⟨k + 1, by omega, (bkTo_succ _ _ _ _).symm⟩, hJx3⟩⟩
    · obtain rfl : k = xs.length := by omega
      gi_wp2
      go_end0
      exact ⟨⟨_, rfl⟩, .inl ⟨_, rfl, hJs⟩⟩
theorem back_in (F : Fence) (n : Nat) (h5 : F.fn 181) (hro : F.round = none) (a : Option Addr) (len cap : Nat) (w : World) :
    CallsIn F n Try.prog 181 #[.slice a len cap] w fun e w' => e = .returned (.func (.func 196) #[] #[.pointer (some ⟨w.heap.size, 0, none⟩)]) ∧ w' = w.alloc (.cells #[.slice a len cap] 24) := by
  refine callsIn_of_wp Try.func181 rfl h5 ?_ hro
  simp only [Try.ntmps181, List.size_toArray, List.length_cons, List.length_nil, Nat.reduceAdd, Nat.reduceSub, Array.replicate_succ, Array.replicate_zero, List.push_toArray, List.append_toArray, List.nil_append, List.cons_append]
  gi_wp2
  go_ret
  exact ⟨rfl, rfl⟩
theorem back_stops (F : Fence) (n : Nat) (h8' : F.fn 196) (hro : F.round = none) (hn : 1 ≤ n) (Bs n₀ c : Nat) {A : Option Addr} {xs : List Int} {W0 : World} {B : Nat} (hs : Nums .u8 W0 B A xs) (h8 : b8 xs) (hl : xs.length ≤ 8) (hBn : B ≤ n₀) (w : World) (hb : Below B W0 w) (hBs : Bs < w.heap.size) (hn₀ : n₀ ≤ w.heap.size)
    (hc : w.cell? ⟨Bs, 0, none⟩ = some (.slice A xs.length c)) :
    SeqStopsK F n Try.prog 196 #[.pointer (some ⟨Bs, 0, none⟩)] wbEnc (KpS n₀ Bs) (fun ys => ys = bkTo xs h8 hl xs.length)
      (fun pre => ∃ k, k ≤ xs.length ∧ pre = bkTo xs h8 hl k) xs.length w := fun l J Jx W hW _ _ hY h0 => by
  have hc' := (hW.cell (p := ⟨Bs, 0, none⟩) hBs).trans hc
  exact back1_in F n h8' hro hn l Bs n₀ c hs h8 hl hBn J Jx hY W (hb.trans (hW.mono (by have := hs.le; have := hb.size; omega))) hc' h0
end Go.Proofs.Ytkphbagckbbalaa.X
