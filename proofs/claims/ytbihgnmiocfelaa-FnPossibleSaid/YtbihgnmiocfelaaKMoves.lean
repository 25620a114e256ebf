/- The moves that the laws draw. Conditions: none. -/
import Derived.Test.YtbihgnmiocfelaaKStream
import Derived.Test.YtbihgnmiocfelaaKRat
namespace Go.Proofs.Ytbihgnmiocfelaa.X
open Go.RowKit
set_option linter.unusedVariables false
set_option linter.unusedSimpArgs false
set_option maxRecDepth 100000
theorem own_neS {w : World} {b : Nat} {e e' : TypeId} {sz : Nat} {v : Value} {n : Nat} {ys : List Value} {g : Nat} {cs : Array Value} {fr : Nat × Nat} (h : w.ownsRow b e sz v n ys) (hg : w.heap[g]? = some (.cells cs e' fr)) (hne : e ≠ e') : some g ≠ v.ownBlock := by
  intro hb
  rcases h.2 with ⟨rfl, _⟩ | ⟨g', cap, cur, rfl, _, hg', _⟩
  · simp [Value.ownBlock] at hb
  · simp [Value.ownBlock] at hb
    subst hb
    rw [hg'] at hg
    injection hg with hg
    injection hg with _ h2 _
    exact hne h2
theorem keepS {wr w3 : World} {o : Obj} {row : Option Nat} {g n c b : Nat} {A : Option Addr} (h : SrcB wr g A n c b) (hg : (wr.alloc o).grownBy w3 row) (hne : some g ≠ row) : SrcB w3 g A n c b := by
  obtain ⟨i, hi, v, h⟩ := h
  have hl := (Array.getElem?_eq_some_iff.1 h).1
  exact ⟨i, hi, v, (hg.block g (by rw [World.size_alloc]; exact Nat.lt_succ_of_lt hl) hne).trans (heap_alloc_past h)⟩
theorem SrcB.keep {w w' : World} {g B : Nat} {A : Option Addr} {n c b : Nat} (h : SrcB w g A n c b) (hb : Below B w w') (hg : g < B) : SrcB w' g A n c b := by
  obtain ⟨i, hi, v, e⟩ := h
  exact ⟨i, hi, v, (hb.block g hg).trans e⟩
theorem SrcB.up {w : World} {g : Nat} {A : Option Addr} {n c b b' : Nat} (h : SrcB w g A n c b) (hb : b ≤ b') : SrcB w g A n c b' := by
  obtain ⟨i, hi, e⟩ := h
  exact ⟨i, by omega, e⟩
theorem SrcB.ne {w : World} {g' n c b : Nat} {A : Option Addr} (h : SrcB w g' A n c b) {B : Nat} {e : TypeId} {sz : Nat} {v : Value} {m : Nat} {ys : List Value} (ho : w.ownsRow B e sz v m ys) (hne : e ≠ 250) : some g' ≠ v.ownBlock := by
  obtain ⟨i, hi, u, hg⟩ := h
  exact own_neS ho hg hne
theorem srcB_new (w : World) (A : Option Addr) (n c : Nat) (b : Nat) : SrcB (w.alloc (.cells #[.slice A n c, .int .i64 0, .int .u64 0] 250)) w.heap.size A n c b := ⟨0, Nat.zero_le _, 0, heap_alloc_new w _⟩
/-- The call hands back a list of moves. -/
def RetMv (w : World) (e : Ending) (w' : World) : Prop := ∃ (ms : List Int) (v : Value), ms.length ≤ 6 ∧ mvOK ms ∧ e = .returned v ∧ w'.ownsRow w.heap.size 2 1 v ms.length (ms.map (Value.int .i64)) ∧ Below w.heap.size w w'
theorem mvOK_snoc {ms : List Int} (h : mvOK ms) {r : Int} (hr : 0 ≤ r ∧ r < 1400) : mvOK (ms ++ [r - 500]) := fun k hk => by
  by_cases c : k < ms.length
  · have := h k c
    unfold el at *
    rw [Int.toNat_natCast, List.getD_eq_getElem?_getD] at *
    rw [List.getElem?_append_left c]
    exact this
  · rw [List.length_append, List.length_singleton] at hk
    obtain rfl : k = ms.length := by omega
    unfold el
    rw [Int.toNat_natCast, List.getD_eq_getElem?_getD, List.getElem?_append_right (Nat.le_refl _), Nat.sub_self]
    show -500 ≤ r - 500 ∧ r - 500 ≤ 899
    omega
set_option maxHeartbeats 2000000 in
theorem A2Moves_any {A : Option Addr} {xs : List Int} {W : World} {B : Nat} (hs : Nums .u8 W B A xs) (h8 : b8 xs) (c : Nat) (w : World) (hb : Below B W w) : Calls Try.prog 29 #[.slice A xs.length c] w (RetMv w) := by
  have hB := hs.bsz hb
  obtain ⟨i0, hi, hz0, hz1, hz2⟩ := info_parts infoI
  go_enter Try.func29, Try.ntmps29
  (go_wp2_with fail; refine (l00From_any _ _ _ _).mono ?_; rintro e w' ⟨rfl, rfl⟩)
  have S0 := Lib.hid (fun W' (hW : Below (w.heap.size + 1) (w.alloc (.cells #[.slice A xs.length c, .int .i64 0, .int .u64 0] 250)) W') => (srcB_new w A xs.length c 0).keep hW (by omega))
  (go_wp2_with fail; refine (pick_any hs h8 c _ (by repeat' (first | (with_reducible first | assumption | exact Below.refl _ _ | refine Below.drew ?_ | refine Below.alloc ?_ ?_ _ | refine Below.setCell ?_ ?_ _ | refine below_setR ?_ ?_ _ | refine below_dn ?_ _ | refine Below.trans ?_ (below_mo _ _ _ ?_) | refine Below.trans ?_ (below_mq _ _ ?_) | exact Nat.le_refl _) | (simp; done) | (simp; omega) | omega)) w.heap.size 0 hB (by omega) (S0.out _ (by repeat' (first | (with_reducible first | assumption | exact Below.refl _ _ | refine Below.drew ?_ | refine Below.alloc ?_ ?_ _ | refine Below.setCell ?_ ?_ _ | refine below_setR ?_ ?_ _ | refine below_dn ?_ _ | refine Below.trans ?_ (below_mo _ _ _ ?_) | refine Below.trans ?_ (below_mq _ _ ?_) | exact Nat.le_refl _) | (simp; done) | (simp; omega) | omega))) 7 (by omega)).mono ?_; rintro e w1 ⟨k0, rfl, hk0, hsrc, hc1⟩)
  obtain ⟨k1, rfl⟩ := Int.eq_ofNat_of_zero_le hk0.1
  have hnx1 : Below w.heap.size w w1 := hc1.below (by repeat' (first | (with_reducible first | assumption | exact Below.refl _ _ | refine Below.drew ?_ | refine Below.alloc ?_ ?_ _ | refine Below.setCell ?_ ?_ _ | refine below_setR ?_ ?_ _ | refine below_dn ?_ _ | refine Below.trans ?_ (below_mo _ _ _ ?_) | refine Below.trans ?_ (below_mq _ _ ?_) | exact Nat.le_refl _) | (simp; done) | (simp; omega) | omega)) (by first | (simp; done) | (simp; omega)) (fun k hk => by omega)
  have own1 := hc1.row (own_new (w.alloc (.cells #[.slice A xs.length c, .int .i64 0, .int .u64 0] 250)) w.heap.size (by first | (simp; done) | (simp; omega)) 2 _ rfl) (fun k h1 h2 => by simp [Value.ownBlock] at h1; omega)
  have hsrc1 : SrcB w1 w.heap.size A xs.length c (100 - 2 * k1) := hsrc.up (by omega)
  have hk6 : k1 ≤ 6 := by omega
  clear hsrc hc1 S0 hk0
  go_wp2
  go_loopw [4, 5] (fun v i wr => ∃ (k : Nat) (ms : List Int), ms.length + k ≤ 6 ∧ mvOK ms ∧ i = .int .i64 (k : Int) ∧ wr.ownsRow w.heap.size 2 1 v ms.length (ms.map (Value.int .i64)) ∧ SrcB wr w.heap.size A xs.length c (100 - 2 * k) ∧ Below w.heap.size w wr) (fun _ i _ => (intOf i).toNat)
  case atStart => exact ⟨k1, [], by simpa using hk6, fun k hk => absurd hk (by simp), rfl, by first | exact own1 | simpa using own1, hsrc1, hnx1⟩
  case round =>
    obtain ⟨k, ms, hk, hm, rfl, hown, hsrc, hnx⟩ := hrel
    have hsize := hnx.size
    by_cases hlt : 0 < k
    · have g0 : (0 : Int) < (k : Int) := by omega
      have hbw : Below B W wr := hb.trans (hnx.mono hB)
      have hne := hsrc.ne hown (by decide)
      have HP := Lib.hid (pick_any hs h8 c wr hbw w.heap.size (100 - 2 * k) hB (by omega) hsrc 1400 (by omega))
      have e1 : IntKind.i64.wrap ((k : Int) - 1) = (k : Int) - 1 := IntWalk.i64_in _ ⟨by omega, by omega⟩
      have HM := Lib.hid hm
      clear hm hsrc
      (go_wp2_with fail; refine HP.out.mono ?_; rintro e w2 ⟨r, rfl, hr, hsrc2, hc2⟩)
      have own2 := hc2.row hown (fun q h1 h2 => hne (by rw [h1, h2]))
      have hnx2 := hc2.below hnx hsize (fun q hq => by omega)
      have hsz2 := hc2.size
      have e2 : IntKind.i64.wrap (r - 500) = r - 500 := IntWalk.i64_in _ ⟨by omega, by omega⟩
      have HN := Lib.hid (mvOK_snoc HM.out hr)
      have hne2 := hsrc2.ne own2 (by decide)
      clear HP hc2
      go_wp2_with (first | (at_builtin; refine wpList_append_own _ rfl _ _ 47 rfl w.heap.size 2 i0 (.int .i64 0) 1 8 undI hi hz0 hz1 hz2 rfl (by decide) _ _ _ rfl (own2.alloc _) ⟨w2.heap.size, 0, none⟩ 1 1 [.int .i64 (r - 500)] rfl rfl (cell_one_new _ _ _) (fun x hx => by simp at hx; subst hx; rfl) (by unfold maxLen; omega) (by omega) (by simp; omega) ?_; intro v' w3 hown' hgrow3 hnil3))
      exact ⟨⟨k - 1, ms ++ [r - 500], by rw [List.length_append, List.length_singleton]; omega, HN.out, by rw [show ((k - 1 : Nat) : Int) = (k : Int) - 1 by omega], by rw [List.map_append, List.length_append]; exact hown', (keepS hsrc2 hgrow3 hne2).up (by omega), (hnx2.alloc (by omega) _).grown hgrow3 (by first | (simp; done) | (simp; omega)) (fun q hq => (own2.lt q hq).1)⟩, by simp [intOf]; omega⟩
    · obtain rfl : k = 0 := by omega
      go_wp2
      go_ret
      exact ⟨ms, u4, by omega, hm, rfl, hown, hnx⟩
end Go.Proofs.Ytbihgnmiocfelaa.X
