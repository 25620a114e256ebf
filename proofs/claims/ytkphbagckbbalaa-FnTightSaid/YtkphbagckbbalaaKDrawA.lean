/- A2Log: a stack, a log and a flow as they are drawn. Conditions: none. -/
import Derived.Test.YtkphbagckbbalaaKDrawL
namespace Go.Proofs.Ytkphbagckbbalaa.X
open Go.RowKit
set_option linter.unusedVariables false
set_option linter.unusedSimpArgs false
set_option maxRecDepth 100000
/-- The call hands back a stack, a log of its own and a flow. -/
def RetA2L (w : World) (e : Ending) (w' : World) : Prop := ∃ (ys : List Int) (bl : Nat) (v : Value) (log : List (Int × Int)) (lo hi : Int), e = .returned (.tuple #[.slice (some ⟨bl, 0, none⟩) ys.length ys.length, v, .agg #[.int .i64 lo, .int .i64 hi]]) ∧ LStk ys ∧ LogOK (szS ys) log ∧ (0 ≤ lo ∧ lo ≤ 5) ∧ (lo ≤ hi ∧ hi ≤ lo + 11) ∧ w'.heap[bl]? = some (.cells (ys.map (Value.int .u8)).toArray 5) ∧ w'.ownsRow w.heap.size 38 2 v log.length (lcl log) ∧ Below w.heap.size w w'
theorem SrcB.set {w : World} {g n c b k i : Nat} {A : Option Addr} {v : Value} (h : SrcB w g A n c b) (hk : g ≠ k) : SrcB (w.setCell ⟨k, i, none⟩ v) g A n c b := by
  obtain ⟨j, hj, x, e⟩ := h
  exact ⟨j, hj, x, (Below.heap_setCell w ⟨k, i, none⟩ v g hk).trans e⟩
set_option maxHeartbeats 4000000 in
theorem A2Log_any {A : Option Addr} {xs : List Int} {W : World} {B : Nat} (hs : Nums .u8 W B A xs) (h8 : b8 xs) (c : Nat) (w : World) (hb : Below B W w) : Calls Try.prog 10 #[.slice A xs.length c] w (RetA2L w) := by
  have hB := hs.bsz hb
  go_enter Try.func10, Try.ntmps10
  (go_wp2_with fail; refine (l00From_any _ _ _ _).mono ?_; rintro e w' ⟨rfl, rfl⟩)
  go_wp2_with fail
  refine calls_at (fun u => u.heap[w.heap.size]? = some (.cells #[.int .i64 0, .int .i64 0] 27) ∧ u.heap[w.heap.size + 1]? = some (.cells #[.slice A xs.length c, .int .i64 0, .int .u64 0] 178) ∧ Below w.heap.size w u) _ ⟨(by repeat' (first | (with_reducible assumption) | (with_reducible refine heap_mo_at ?_) | (with_reducible refine heap_mq_at ?_) | (with_reducible refine heap_drew_at ?_) | ((with_reducible refine heap_alloc_at ?_); first | rfl | (simp; done)) | (with_reducible refine heap_alloc_past ?_) | ((with_reducible apply heap_set_at); (first | rfl | (simp; done))) | ((with_reducible apply heap_set_past); (first | (simp; done) | (simp; omega) | omega)) | ((with_reducible apply heap_setC_past); (first | (simp; done) | (simp; omega) | omega)) | fail)), (by repeat' (first | (with_reducible assumption) | (with_reducible refine heap_mo_at ?_) | (with_reducible refine heap_mq_at ?_) | (with_reducible refine heap_drew_at ?_) | ((with_reducible refine heap_alloc_at ?_); first | rfl | (simp; done)) | (with_reducible refine heap_alloc_past ?_) | ((with_reducible apply heap_set_at); (first | rfl | (simp; done))) | ((with_reducible apply heap_set_past); (first | (simp; done) | (simp; omega) | omega)) | ((with_reducible apply heap_setC_past); (first | (simp; done) | (simp; omega) | omega)) | fail)), (by repeat' (first | (with_reducible first | assumption | exact Below.refl _ _ | refine Below.drew ?_ | refine Below.alloc ?_ ?_ _ | refine Below.setCell ?_ ?_ _ | refine below_setR ?_ ?_ _ | refine below_dn ?_ _ | refine Below.trans ?_ (below_mo _ _ _ ?_) | refine Below.trans ?_ (below_mq _ _ ?_) | exact Nat.le_refl _) | (simp; done) | (simp; omega) | omega))⟩ ?_
  rintro u0 ⟨x0, x1, x2⟩
  have hx := (Array.getElem?_eq_some_iff.1 x1).1
  refine (pick_any hs h8 c _ (hb.trans (x2.mono hB)) (w.heap.size + 1) 0 (by omega) (by omega) ⟨0, Nat.le_refl _, 0, x1⟩ 6 (by omega)).mono ?_
  rintro e w1 ⟨lo, rfl, hlo, hsrc1, hc1⟩
  have hlo' : 0 ≤ lo ∧ lo ≤ 5 := by omega
  have y0 := (hc1.block _ (by omega) (by omega)).trans x0
  have y2 := hc1.below x2 (by omega) (fun k hk => by omega)
  have y3 := hc1.size
  clear x0 x1 x2 hc1
  go_upto_region 3 with (fail)
  refine wp_at (fun u => u.heap[w.heap.size]? = some (.cells #[.int .i64 0, .int .i64 0] 27) ∧ SrcB u (w.heap.size + 1) A xs.length c 2 ∧ u.heap[w1.heap.size]? = some (.cells #[.int .i64 lo, .int .i64 0] 27) ∧ w1.heap.size + 1 ≤ u.heap.size ∧ Below w.heap.size w u) _ ⟨(by repeat' (first | (with_reducible assumption) | (with_reducible refine heap_mo_at ?_) | (with_reducible refine heap_mq_at ?_) | (with_reducible refine heap_drew_at ?_) | ((with_reducible refine heap_alloc_at ?_); first | rfl | (simp; done)) | (with_reducible refine heap_alloc_past ?_) | ((with_reducible apply heap_set_at); (first | rfl | (simp; done))) | ((with_reducible apply heap_set_past); (first | (simp; done) | (simp; omega) | omega)) | ((with_reducible apply heap_setC_past); (first | (simp; done) | (simp; omega) | omega)) | fail)), hsrc1.keep (B := w1.heap.size) (by repeat' (first | (with_reducible first | assumption | exact Below.refl _ _ | refine Below.drew ?_ | refine Below.alloc ?_ ?_ _ | refine Below.setCell ?_ ?_ _ | refine below_setR ?_ ?_ _ | refine below_dn ?_ _ | refine Below.trans ?_ (below_mo _ _ _ ?_) | refine Below.trans ?_ (below_mq _ _ ?_) | exact Nat.le_refl _) | (simp; done) | (simp; omega) | omega)) (by omega), (by repeat' (first | (with_reducible assumption) | (with_reducible refine heap_mo_at ?_) | (with_reducible refine heap_mq_at ?_) | (with_reducible refine heap_drew_at ?_) | ((with_reducible refine heap_alloc_at ?_); first | rfl | (simp; done)) | (with_reducible refine heap_alloc_past ?_) | ((with_reducible apply heap_set_at); (first | rfl | (simp; done))) | ((with_reducible apply heap_set_past); (first | (simp; done) | (simp; omega) | omega)) | ((with_reducible apply heap_setC_past); (first | (simp; done) | (simp; omega) | omega)) | fail)), by simp, (by repeat' (first | (with_reducible first | assumption | exact Below.refl _ _ | refine Below.drew ?_ | refine Below.alloc ?_ ?_ _ | refine Below.setCell ?_ ?_ _ | refine below_setR ?_ ?_ _ | refine below_dn ?_ _ | refine Below.trans ?_ (below_mo _ _ _ ?_) | refine Below.trans ?_ (below_mq _ _ ?_) | exact Nat.le_refl _) | (simp; done) | (simp; omega) | omega))⟩ ?_
  clear y0 hsrc1 y2
  rintro u2 ⟨a0, a1, a2, a3, a4⟩
  have hbu : Below B W u2 := hb.trans (a4.mono hB)
  obtain ⟨_, c0, c1, c2, c3⟩ := twoR a2
  have H0 := Lib.hid a0
  have H1 := Lib.hid a1
  have H2 := Lib.hid a2
  clear a0 a1 a2
  go_cut [] (fun wx => ∃ hi, (lo ≤ hi ∧ hi ≤ lo + 11) ∧ wx.heap[w.heap.size]? = some (.cells #[.int .i64 0, .int .i64 0] 27) ∧ SrcB wx (w.heap.size + 1) A xs.length c 4 ∧ wx.heap[w1.heap.size]? = some (.cells #[.int .i64 lo, .int .i64 hi] 27) ∧ w1.heap.size + 1 ≤ wx.heap.size ∧ Below w.heap.size w wx)
  case first =>
    go_region_with (go_at_call 77; refine (pick_any hs h8 c _ (by repeat' (first | (with_reducible first | assumption | exact Below.refl _ _ | refine Below.drew ?_ | refine Below.alloc ?_ ?_ _ | refine Below.setCell ?_ ?_ _ | refine below_setR ?_ ?_ _ | refine below_dn ?_ _ | refine Below.trans ?_ (below_mo _ _ _ ?_) | refine Below.trans ?_ (below_mq _ _ ?_) | exact Nat.le_refl _) | (simp; done) | (simp; omega) | omega)) (w.heap.size + 1) 2 (by omega) (by omega) (by exact H1.out) 12 (by omega)).mono ?_; rintro e w3 ⟨s2, rfl, hs2, hsrc3, hc3⟩; have hcx : Chg u2 w3 (fun k => k = w.heap.size + 1) := ⟨hc3.os, hc3.tape, hc3.output, hc3.size, hc3.block⟩; have hz3 : u2.heap.size ≤ w3.heap.size := hcx.size; have q3 := (hcx.block _ (by omega) (by omega)).trans H2.out; obtain ⟨_, c0', c1', c2', c3'⟩ := twoR q3; have q0 := (hcx.block _ (by omega) (by omega)).trans H0.out; have ec : IntKind.i64.wrap (lo + s2) = lo + s2 := IntWalk.i64_in _ ⟨by omega, by omega⟩)
    all_goals go_wp2_with fail
    all_goals go_meet
    all_goals exact ⟨lo + s2, ⟨by omega, by omega⟩, (Below.heap_setCell w3 ⟨w1.heap.size, 1, none⟩ _ w.heap.size (show w.heap.size ≠ w1.heap.size by omega)).trans q0, hsrc3.set (by omega), heap_setCell_same w3 w1.heap.size 1 _ _ _ q3, by simp; omega, Below.setCell (hcx.below a4 (by omega) (fun j hj => by omega)) (by first | omega | (simp; omega)) _⟩
  obtain ⟨hi, hhi, q0, q1, q2, q3, q4⟩ := hcut
  obtain ⟨_, c4, c5, _, _⟩ := twoR q2
  clear H0 H1 H2 c0 c1 c2 c3 a3 a4 hbu
  go_wp2_with fail
  refine (l04Drawn_any hs h8 c _ (hb.trans (q4.mono hB)) (w.heap.size + 1) 4 (by omega) (by omega) q1 lo hi (by omega)).mono ?_
  rintro e w5 ⟨ys, bl, v, log, rfl, hys, hlog, hstk, hown, hch⟩
  have r0 := (hch.block w.heap.size (by omega) (fun h => by rcases h with h | h <;> omega)).trans q0
  have r2 := (hch.block w1.heap.size (by omega) (fun h => by rcases h with h | h <;> omega)).trans q2
  have r4 : Below w.heap.size w w5 := hch.below q4 (by omega) (fun k hk => by rcases hk with h | h <;> omega)
  obtain ⟨_, d0, d1, d2, d3⟩ := twoR r0
  obtain ⟨_, d4, d5, _, _⟩ := twoR r2
  have hne : bl ≠ w.heap.size := fun h => by
    rw [h, r0] at hstk
    injection hstk with hstk
    injection hstk with _ hstk _
    exact absurd hstk (by decide)
  have own5 := own_base3 hown (show w.heap.size ≤ wc.heap.size by omega)
  have hno : some w.heap.size ≠ v.ownBlock := own_neS hown r0 (by decide)
  clear q0 q1 q2 c4 c5 hch hown
  go_upto_region 5 with (fail)
  have HR0 := Lib.hid r0
  have HS := Lib.hid hstk
  clear r0 hstk r2
  go_region_with (fail)
  all_goals go_wp2
  have hB0 : Below w.heap.size w ((w5.setCell ⟨w.heap.size, 0, none⟩ (.int .i64 lo)).setCell ⟨w.heap.size, 1, none⟩ (.int .i64 hi)).drew := Below.drew (Below.setCell (Below.setCell r4 (Nat.le_refl _) _) (Nat.le_refl _) _)
  refine exit_at (E := bodyPost Try.prog Try.f10 (RetA2L w)) (fun u => u.heap[w.heap.size]? = some (.cells #[.int .i64 lo, .int .i64 hi] 27) ∧ u.heap[bl]? = some (.cells (ys.map (Value.int .u8)).toArray 5) ∧ u.ownsRow w.heap.size 38 2 v log.length (lcl log) ∧ Below w.heap.size w u) _ ⟨heap_setCell_same _ w.heap.size 1 _ _ _ (heap_setCell_same w5 w.heap.size 0 _ _ _ HR0.out), (Below.heap_setCell _ ⟨w.heap.size, 1, none⟩ _ bl hne).trans ((Below.heap_setCell w5 ⟨w.heap.size, 0, none⟩ _ bl hne).trans HS.out), (Chg.set (Chg.set (Chg.refl' w5 (fun k => k = w.heap.size)) rfl) rfl).row own5 (fun j h1 h2 => hno (by rw [h1, h2])), hB0⟩ ?_
  rintro u ⟨q0, q1, q2, q3⟩
  obtain ⟨_, e0, e1, _⟩ := twoR q0
  exact bodyPost_ret (v := .tuple #[.slice (some ⟨bl, 0, none⟩) ys.length ys.length, v, .agg #[.int .i64 lo, .int .i64 hi]]) (by simp [results, Try.results10, go_sem, *]) rfl ⟨ys, bl, v, log, lo, hi, rfl, hys, hlog, hlo', hhi, q1, q2, q3⟩
end Go.Proofs.Ytkphbagckbbalaa.X
