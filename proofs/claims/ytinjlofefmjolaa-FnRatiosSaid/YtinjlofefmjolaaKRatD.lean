/- A ratio that the laws draw. Conditions: none. -/
import Derived.Test.YtinjlofefmjolaaKRatW
import Derived.Test.YtinjlofefmjolaaKDrawM
namespace Go.Proofs.Ytinjlofefmjolaa.X
open Go.RowKit
set_option linter.unusedVariables false
set_option linter.unusedSimpArgs false
set_option maxRecDepth 100000
theorem Chg.alQ {x y : World} {R : Nat → Prop} (h : Chg x y R) (o : Obj) : Chg x (y.alloc o) R := h.trans (Chg.of_alloc y o R)
theorem Chg.moQ {x y : World} {R : Nat → Prop} (h : Chg x y R) (os : Array Obj) (d : Nat) : Chg x (mo y os d) R := h.trans (.of_below (below_mo y os d (Nat.le_refl _)) R)
theorem Chg.setQ {x y : World} {R : Nat → Prop} (h : Chg x y R) {k i : Nat} {v : Value} (hk : x.heap.size ≤ k) : Chg x (y.setCell ⟨k, i, none⟩ v) R :=
  ⟨h.os, h.tape, h.output, by have := h.size; simpa using this, fun j hj hn => (Below.heap_setCell y ⟨k, i, none⟩ v j (show j ≠ k by omega)).trans (h.block j hj hn)⟩
theorem set01_oR {w : World} {g k : Nat} {a' b' : Value} {o : Obj} (hne : k ≠ g) (h : w.heap[k]? = some o) : ((w.setCell ⟨g, 0, none⟩ a').setCell ⟨g, 1, none⟩ b').heap[k]? = some o :=
  (Below.heap_setCell _ ⟨g, 1, none⟩ _ k hne).trans ((Below.heap_setCell _ ⟨g, 0, none⟩ _ k hne).trans h)
/-- The call hands back a ratio as it is drawn from the stream. -/
def RetRtS (g : Nat) (M : Int) (w : World) (e : Ending) (w' : World) : Prop := ∃ r : Int × Int, e = .returned (.agg #[.int .i64 r.1, .int .i64 r.2]) ∧ RtOK r ∧ r.1 ≤ M ∧ r.2 ≤ M ∧ Chg w w' (fun k => k = g)
set_option maxHeartbeats 4000000 in
theorem l03Drawn_ok {A : Option Addr} {xs : List Int} {W : World} {B : Nat} (hs : Nums .u8 W B A xs) (h8 : b8 xs) (c : Nat) (w : World) (hb : Below B W w) (g b : Nat) (hgB : B ≤ g) (hi : b ≤ 1000) (hg : SrcB w g A xs.length c b) : Calls Try.prog 39 #[.pointer (some ⟨g, 0, none⟩)] w (RetRtS g 65536 w) := by
  have hB := hs.bsz hb
  have hgl : g < w.heap.size := by
    obtain ⟨i, _, v, e⟩ := hg
    exact (Array.getElem?_eq_some_iff.1 e).1
  go_enter Try.func39, Try.ntmps39
  go_wp2_with fail
  refine calls_atQ (fun u => u.heap[w.heap.size]? = some (.cells #[.int .i64 0, .int .i64 0] 25) ∧ SrcB u g A xs.length c b ∧ w.heap.size + 1 ≤ u.heap.size ∧ Chg w u (fun k => k = g) ∧ Below B W u) _ ⟨(by repeat' (first | (with_reducible assumption) | (with_reducible refine heap_mo_at ?_) | (with_reducible refine heap_mq_at ?_) | (with_reducible refine heap_drew_at ?_) | ((with_reducible refine heap_alloc_at ?_); first | rfl | (simp; done)) | (with_reducible refine heap_alloc_past ?_) | ((with_reducible apply heap_set_at); (first | rfl | (simp; done))) | ((with_reducible apply heap_set_past); (first | (simp; done) | (simp; omega) | omega)) | ((with_reducible apply heap_setC_past); (first | (simp; done) | (simp; omega) | omega)) | fail)), hg.keep (B := w.heap.size) (by repeat' (first | (with_reducible first | assumption | exact Below.refl _ _ | refine Below.drew ?_ | refine Below.alloc ?_ ?_ _ | refine Below.setCell ?_ ?_ _ | refine below_setR ?_ ?_ _ | refine below_dn ?_ _ | refine Below.trans ?_ (below_mo _ _ _ ?_) | refine Below.trans ?_ (below_mq _ _ ?_) | exact Nat.le_refl _) | (simp; done) | (simp; omega) | omega)) hgl, by simp, (Chg.refl' _ _).alQ _, (by repeat' (first | (with_reducible first | assumption | exact Below.refl _ _ | refine Below.drew ?_ | refine Below.alloc ?_ ?_ _ | refine Below.setCell ?_ ?_ _ | refine below_setR ?_ ?_ _ | refine below_dn ?_ _ | refine Below.trans ?_ (below_mo _ _ _ ?_) | refine Below.trans ?_ (below_mq _ _ ?_) | exact Nat.le_refl _) | (simp; done) | (simp; omega) | omega))⟩ ?_
  rintro u0 ⟨x0, x1, x2, x3, x4⟩
  refine (pick_lo hs h8 c _ x4 g b hgB (by omega) x1 60 (by omega)).mono ?_
  rintro e w1 ⟨p, rfl, hp, hsrc1, hc1⟩
  have y0 := (hc1.block w.heap.size (by omega) (by omega)).trans x0
  have y2 := hc1.below x4 (by omega) (fun k hk => by omega)
  have y3 := hc1.size
  have y4 := x3.trans hc1
  have e1 : IntKind.i64.wrap (1 + p) = 1 + p := IntWalk.i64_in _ ⟨by omega, by omega⟩
  clear x0 x1 x3 x4 hc1 hg hb
  (go_wp2_with fail; refine (pick_lo hs h8 c _ y2 g (b + 2) hgB (by omega) hsrc1 60 (by omega)).mono ?_; rintro e w2 ⟨q, rfl, hq, hsrc2, hc2⟩)
  have z0 := (hc2.block w.heap.size (by omega) (by omega)).trans y0
  have z2 := hc2.below y2 (by omega) (fun k hk => by omega)
  have z3 := hc2.size
  have z4 := y4.trans hc2
  have e2 : IntKind.i64.wrap (1 + q) = 1 + q := IntWalk.i64_in _ ⟨by omega, by omega⟩
  obtain ⟨m1, m2, m3, m4⟩ := mk_sm (p := 1 + p) (q := 1 + q) (M := 60) (by omega) (by omega) (by omega)
  have K := Lib.hid (fun W => l03Made_ok m1 m2 W)
  have HZ := Lib.hid z0
  have HS2 := Lib.hid hsrc2
  clear y0 y2 y4 hc2 hsrc1 hsrc2 z0
  (go_wp2_with fail; refine (K.out _).mono ?_; rintro e w' ⟨rfl, hb_⟩; obtain ⟨os0, d0, rfl⟩ := mo_of hb_; clear hb_)
  go_wp2_with fail
  refine calls_atQ (fun u => u.heap[w.heap.size]? = some (.cells #[.int .i64 0, .int .i64 0] 25) ∧ u.heap[w2.heap.size + os0.size]? = some (.cells #[.int .i64 (red (1 + p) (1 + q)).1, .int .i64 (red (1 + p) (1 + q)).2] 25) ∧ SrcB u g A xs.length c (b + 4) ∧ w2.heap.size + os0.size + 1 ≤ u.heap.size ∧ Chg w u (fun k => k = g) ∧ Below B W u) _ ⟨heap_alloc_past (heap_mo_at HZ.out), (by repeat' (first | (with_reducible assumption) | (with_reducible refine heap_mo_at ?_) | (with_reducible refine heap_mq_at ?_) | (with_reducible refine heap_drew_at ?_) | ((with_reducible refine heap_alloc_at ?_); first | rfl | (simp; done)) | (with_reducible refine heap_alloc_past ?_) | ((with_reducible apply heap_set_at); (first | rfl | (simp; done))) | ((with_reducible apply heap_set_past); (first | (simp; done) | (simp; omega) | omega)) | ((with_reducible apply heap_setC_past); (first | (simp; done) | (simp; omega) | omega)) | fail)), HS2.out.keep (B := w2.heap.size) (by repeat' (first | (with_reducible first | assumption | exact Below.refl _ _ | refine Below.drew ?_ | refine Below.alloc ?_ ?_ _ | refine Below.setCell ?_ ?_ _ | refine below_setR ?_ ?_ _ | refine below_dn ?_ _ | refine Below.trans ?_ (below_mo _ _ _ ?_) | refine Below.trans ?_ (below_mq _ _ ?_) | exact Nat.le_refl _) | (simp; done) | (simp; omega) | omega)) (by omega), by simp, (z4.moQ _ _).alQ _, (by repeat' (first | (with_reducible first | assumption | exact Below.refl _ _ | refine Below.drew ?_ | refine Below.alloc ?_ ?_ _ | refine Below.setCell ?_ ?_ _ | refine below_setR ?_ ?_ _ | refine below_dn ?_ _ | refine Below.trans ?_ (below_mo _ _ _ ?_) | refine Below.trans ?_ (below_mq _ _ ?_) | exact Nat.le_refl _) | (simp; done) | (simp; omega) | omega))⟩ ?_
  obtain ⟨bx, hbx⟩ : ∃ bx, w2.heap.size + os0.size = bx := ⟨_, rfl⟩
  rw [hbx]
  rintro u3 ⟨a0, a1, a2, a3, a4, a5⟩
  have hbx1 : w.heap.size + 1 ≤ bx := by omega
  refine (one_any hs h8 c _ a5 g (b + 4) hgB (by omega) a2 4 (by omega)).mono ?_
  rintro e w4 ⟨r, rfl, hsrc4, hc4⟩
  have c0 := (hc4.block w.heap.size (by omega) (by omega)).trans a0
  have c1 := (hc4.block bx (by omega) (by omega)).trans a1
  have c2 := hc4.below a5 (by omega) (fun k hk => by omega)
  have c3 := hc4.size
  have c4 := a4.trans hc4
  clear a0 a1 a2 a4 a5 hc4 hbx HZ HS2 K z2 z4
  cases r
  · obtain ⟨h0, h1, f0, f1⟩ : w4.cell? ⟨bx, 0, none⟩ = some (.int .i64 (red (1 + p) (1 + q)).1) ∧ w4.cell? ⟨bx, 1, none⟩ = some (.int .i64 (red (1 + p) (1 + q)).2) ∧ w4.frozen? ⟨w.heap.size, 0, none⟩ = false ∧ w4.frozen? ⟨w.heap.size, 1, none⟩ = false :=
      ⟨(cell_of_row _ bx 0 _ _ (0, 0) c1).trans rfl, (cell_of_row _ bx 1 _ _ (0, 0) c1).trans rfl, frozen_of_row _ w.heap.size 0 _ _ c0, frozen_of_row _ w.heap.size 1 _ _ c0⟩
    have k0 := (cell_of_row w4 w.heap.size 0 _ _ (0, 0) c0).trans rfl
    have k1 := (cell_of_row w4 w.heap.size 1 _ _ (0, 0) c0).trans rfl
    have HC0 := Lib.hid c0
    clear c0 c1
    go_wp2
    refine retRat (g := w.heap.size) rfl rfl (set01R HC0.out) rfl ⟨red (1 + p) (1 + q), rfl, m2, by omega, by omega, (c4.setQ (Nat.le_refl _)).setQ (Nat.le_refl _)⟩
  · (go_wp2_with fail; refine (pick_lo hs h8 c _ c2 g (b + 6) hgB (by omega) hsrc4 536870912 (by omega)).mono ?_; rintro e w5 ⟨p2, rfl, hp2, hsrc5, hc5⟩)
    have d0 := (hc5.block w.heap.size (by omega) (by omega)).trans c0
    have d1 := (hc5.block bx (by omega) (by omega)).trans c1
    have d2 := hc5.below c2 (by omega) (fun k hk => by omega)
    have d3 := hc5.size
    have d4 := c4.trans hc5
    have e3 : IntKind.i64.wrap (1 + p2) = 1 + p2 := IntWalk.i64_in _ ⟨by omega, by omega⟩
    clear c0 c1 c2 c4 hc5 hsrc4
    (go_wp2_with fail; refine (pick_lo hs h8 c _ d2 g (b + 8) hgB (by omega) hsrc5 536870912 (by omega)).mono ?_; rintro e w6 ⟨q2, rfl, hq2, hsrc6, hc6⟩)
    have f0 := (hc6.block w.heap.size (by omega) (by omega)).trans d0
    have f1 := (hc6.block bx (by omega) (by omega)).trans d1
    have f3 := hc6.size
    have f4 := d4.trans hc6
    have e4 : IntKind.i64.wrap (1 + q2) = 1 + q2 := IntWalk.i64_in _ ⟨by omega, by omega⟩
    obtain ⟨n1, n2, n3, n4⟩ := mk_sm (p := 1 + p2) (q := 1 + q2) (M := 65536) (by omega) (by omega) (by omega)
    have K2 := Lib.hid (fun W => l03Made_ok n1 n2 W)
    have HF0 := Lib.hid f0
    have HF1 := Lib.hid f1
    clear d0 d1 d2 d4 hc6 hsrc5 hsrc6 f0 f1
    have k0 := (cell_of_row w6 bx 0 _ _ (0, 0) HF1.out).trans rfl
    have k1 := (cell_of_row w6 bx 1 _ _ (0, 0) HF1.out).trans rfl
    have k2 := frozen_of_row w6 bx 0 _ _ HF1.out
    have k3 := frozen_of_row w6 bx 1 _ _ HF1.out
    have k4 := (cell_of_row w6 w.heap.size 0 _ _ (0, 0) HF0.out).trans rfl
    have k5 := (cell_of_row w6 w.heap.size 1 _ _ (0, 0) HF0.out).trans rfl
    have k6 := frozen_of_row w6 w.heap.size 0 _ _ HF0.out
    have k7 := frozen_of_row w6 w.heap.size 1 _ _ HF0.out
    have k8 : bx < w6.heap.size := by omega
    have k9 : w.heap.size < w6.heap.size := by omega
    (go_wp2_with fail; refine (K2.out _).mono ?_; rintro e w' ⟨rfl, hb_⟩; obtain ⟨os7, d7, rfl⟩ := mo_of hb_; clear hb_)
    go_wp2
    refine retRat (g := w.heap.size) rfl rfl (heap_mo_at (set01R (set01_oR (by omega) HF0.out))) rfl ⟨red (1 + p2) (1 + q2), rfl, n2, n3, n4, ((((f4.setQ (by omega)).setQ (by omega)).setQ (Nat.le_refl _)).setQ (Nat.le_refl _)).moQ _ _⟩
set_option maxHeartbeats 1000000 in
theorem P6Ratio_ok {A : Option Addr} {xs : List Int} {W : World} {B : Nat} (hs : Nums .u8 W B A xs) (h8 : b8 xs) (c : Nat) (w : World) (hb : Below B W w) : Calls Try.prog 6 #[.slice A xs.length c] w (RetRt 65536 w) := by
  have hB := hs.bsz hb
  go_enter Try.func6, Try.ntmps6
  (go_wp2_with fail; refine (l00From_any _ _ _ _).mono ?_; rintro e w' ⟨rfl, rfl⟩)
  go_wp2_with fail
  refine calls_atQ (fun u => u.heap[w.heap.size]? = some (.cells #[.int .i64 0, .int .i64 0] 25) ∧ u.heap[w.heap.size + 1]? = some (.cells #[.slice A xs.length c, .int .i64 0, .int .u64 0] 106) ∧ Below w.heap.size w u) _ ⟨(by repeat' (first | (with_reducible assumption) | (with_reducible refine heap_mo_at ?_) | (with_reducible refine heap_mq_at ?_) | (with_reducible refine heap_drew_at ?_) | ((with_reducible refine heap_alloc_at ?_); first | rfl | (simp; done)) | (with_reducible refine heap_alloc_past ?_) | ((with_reducible apply heap_set_at); (first | rfl | (simp; done))) | ((with_reducible apply heap_set_past); (first | (simp; done) | (simp; omega) | omega)) | ((with_reducible apply heap_setC_past); (first | (simp; done) | (simp; omega) | omega)) | fail)), (by repeat' (first | (with_reducible assumption) | (with_reducible refine heap_mo_at ?_) | (with_reducible refine heap_mq_at ?_) | (with_reducible refine heap_drew_at ?_) | ((with_reducible refine heap_alloc_at ?_); first | rfl | (simp; done)) | (with_reducible refine heap_alloc_past ?_) | ((with_reducible apply heap_set_at); (first | rfl | (simp; done))) | ((with_reducible apply heap_set_past); (first | (simp; done) | (simp; omega) | omega)) | ((with_reducible apply heap_setC_past); (first | (simp; done) | (simp; omega) | omega)) | fail)), (by repeat' (first | (with_reducible first | assumption | exact Below.refl _ _ | refine Below.drew ?_ | refine Below.alloc ?_ ?_ _ | refine Below.setCell ?_ ?_ _ | refine below_setR ?_ ?_ _ | refine below_dn ?_ _ | refine Below.trans ?_ (below_mo _ _ _ ?_) | refine Below.trans ?_ (below_mq _ _ ?_) | exact Nat.le_refl _) | (simp; done) | (simp; omega) | omega))⟩ ?_
  rintro u0 ⟨x0, x1, x2⟩
  have hx := (Array.getElem?_eq_some_iff.1 x1).1
  refine (l03Drawn_ok hs h8 c _ (hb.trans (x2.mono hB)) (w.heap.size + 1) 0 (by omega) (by omega) ⟨0, Nat.le_refl _, 0, x1⟩).mono ?_
  rintro e w1 ⟨r, rfl, hr, r1, r2, hc1⟩
  have y0 := (hc1.block w.heap.size (by omega) (by omega)).trans x0
  have y2 := hc1.below x2 (by omega) (fun k hk => by omega)
  have k4 := (cell_of_row w1 w.heap.size 0 _ _ (0, 0) y0).trans rfl
  have k5 := (cell_of_row w1 w.heap.size 1 _ _ (0, 0) y0).trans rfl
  have k6 := frozen_of_row w1 w.heap.size 0 _ _ y0
  have k7 := frozen_of_row w1 w.heap.size 1 _ _ y0
  have HY := Lib.hid y0
  clear x0 x1 x2 hc1 y0
  go_wp2
  refine retRat (g := w.heap.size) rfl rfl (set01R HY.out) rfl ⟨r, rfl, hr, r1, r2, below_set01R y2 (Nat.le_refl _)⟩
end Go.Proofs.Ytinjlofefmjolaa.X
