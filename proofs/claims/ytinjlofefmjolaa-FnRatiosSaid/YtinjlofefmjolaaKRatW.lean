/- Ratios: compared, multiplied, made, the nearer one; ratios that the laws draw. Conditions: none. -/
import Derived.Test.YtinjlofefmjolaaKNearW
import Derived.Test.YtinjlofefmjolaaKP6
namespace Go.Proofs.Ytinjlofefmjolaa.X
open Go.RowKit
set_option linter.unusedVariables false
set_option linter.unusedSimpArgs false
set_option maxRecDepth 100000
/-- the sign of a number -/
def sgnI (n : Int) : Int := min (max n (-1)) 1
theorem sign_ok (n : Int) (w : World) : Calls Try.prog 51 #[.int .i64 n] w fun e w' => e = .returned (.int .i64 (sgnI n)) ∧ w = w' := by
  have HV : Hid (sgnI n = min (max n (-1)) 1) := rfl
  go_enter Try.func51, Try.ntmps51
  go_wp2
  all_goals
    go_ret
    exact ⟨congrArg (fun z => Ending.returned (Value.int .i64 z)) (by rw [HV.out]; omega), rfl⟩
set_option maxHeartbeats 2000000 in
theorem Compare2_ok {r s : Int × Int} (hr : RtOK r) (hs : RtOK s) (w : World) : Calls Try.prog 15 #[.agg #[.int .i64 r.1, .int .i64 r.2], .agg #[.int .i64 s.1, .int .i64 s.2]] w fun e w' => e = .returned (.tuple #[.int .i64 (sgnI (r.1 * s.2 - s.1 * r.2)), .int .i64 0]) ∧ Below w.heap.size w w' := by
  have K1 := Lib.hid (fun W => ValidRatio_ok hr W)
  have K2 := Lib.hid (fun W => ValidRatio_ok hs W)
  have m1 := mul_bdG (show 0 ≤ r.1 ∧ r.1 ≤ 1000000000 by have := hr.p; omega) (show 0 ≤ s.2 ∧ s.2 ≤ 1000000000 by have := hs.q; omega)
  have m2 := mul_bdG (show 0 ≤ s.1 ∧ s.1 ≤ 1000000000 by have := hs.p; omega) (show 0 ≤ r.2 ∧ r.2 ≤ 1000000000 by have := hr.q; omega)
  have e1 : IntKind.i64.wrap (r.1 * s.2) = r.1 * s.2 := IntWalk.i64_in _ ⟨by omega, by omega⟩
  have e2 : IntKind.i64.wrap (s.1 * r.2) = s.1 * r.2 := IntWalk.i64_in _ ⟨by omega, by omega⟩
  have e3 : IntKind.i64.wrap (r.1 * s.2 - s.1 * r.2) = r.1 * s.2 - s.1 * r.2 := IntWalk.i64_in _ ⟨by omega, by omega⟩
  clear hr hs m1 m2
  obtain ⟨p, q⟩ := r
  obtain ⟨u, v⟩ := s
  simp only at *
  go_enter Try.func15, Try.ntmps15
  (go_wp2_with fail; refine (K1.out _).mono ?_; rintro e w' ⟨rfl, hb_⟩; obtain ⟨os0, d0, rfl⟩ := mo_of hb_; clear hb_)
  (go_wp2_with fail; refine (K2.out _).mono ?_; rintro e w' ⟨rfl, hb_⟩; obtain ⟨os1, d1, rfl⟩ := mo_of hb_; clear hb_)
  (go_wp2_with fail; refine (sign_ok _ _).mono ?_; rintro e w' ⟨rfl, rfl⟩)
  go_wp2
  go_returns
  exact ⟨rfl, (by repeat' (first | (with_reducible first | assumption | exact Below.refl _ _ | refine Below.drew ?_ | refine Below.alloc ?_ ?_ _ | refine Below.setCell ?_ ?_ _ | refine below_setR ?_ ?_ _ | refine below_dn ?_ _ | refine Below.trans ?_ (below_mo _ _ _ ?_) | refine Below.trans ?_ (below_mq _ _ ?_) | exact Nat.le_refl _) | (simp; done) | (simp; omega) | omega))⟩
set_option maxHeartbeats 1000000 in
theorem valid_ok {r : Int × Int} (hr : RtOK r) (w : World) : Calls Try.prog 55 #[.agg #[.int .i64 r.1, .int .i64 r.2]] w fun e w' => e = .returned (.tuple #[.agg #[.int .i64 r.1, .int .i64 r.2], .int .i64 0]) ∧ Below w.heap.size w w' := by
  have K1 := Lib.hid (fun W => ValidRatio_ok hr W)
  clear hr
  obtain ⟨p, q⟩ := r
  simp only at *
  go_enter Try.func55, Try.ntmps55
  (go_wp2_with fail; refine (K1.out _).mono ?_; rintro e w' ⟨rfl, hb_⟩; obtain ⟨os0, d0, rfl⟩ := mo_of hb_; clear hb_)
  go_wp2
  go_returns
  exact ⟨rfl, (by repeat' (first | (with_reducible first | assumption | exact Below.refl _ _ | refine Below.drew ?_ | refine Below.alloc ?_ ?_ _ | refine Below.setCell ?_ ?_ _ | refine below_setR ?_ ?_ _ | refine below_dn ?_ _ | refine Below.trans ?_ (below_mo _ _ _ ?_) | refine Below.trans ?_ (below_mq _ _ ?_) | exact Nat.le_refl _) | (simp; done) | (simp; omega) | omega))⟩
theorem tmR_ok {r s : Int × Int} (hr : RtOK r) (hs : RtOK s) (ht : (tmR r s).1 ≤ 1000000000 ∧ (tmR r s).2 ≤ 1000000000) : RtOK (tmR r s) := by
  have b := tmR_bd (r := r) (s := s) hr.p.1 hr.q.1 hs.p.1 hs.q.1
  exact ⟨⟨b.1.1, ht.1⟩, ⟨b.2.1, ht.2⟩, tmR_cop hr.q.1 hs.q.1 hr.g hs.g⟩
set_option maxHeartbeats 2000000 in
theorem implTimes_ok {r s : Int × Int} (hr : RtOK r) (hs : RtOK s) (ht : (tmR r s).1 ≤ 1000000000 ∧ (tmR r s).2 ≤ 1000000000) (w : World) : Calls Try.prog 17 #[.agg #[.int .i64 r.1, .int .i64 r.2], .agg #[.int .i64 s.1, .int .i64 s.2]] w fun e w' => e = .returned (.tuple #[.agg #[.int .i64 (tmR r s).1, .int .i64 (tmR r s).2], .int .i64 0]) ∧ Below w.heap.size w w' := by
  have K1 := Lib.hid (fun W => ValidRatio_ok hr W)
  have K2 := Lib.hid (fun W => ValidRatio_ok hs W)
  have K3 := Lib.hid (fun W => times_ok hr hs W)
  have K4 := Lib.hid (fun W => valid_ok (tmR_ok hr hs ht) W)
  clear hr hs ht
  generalize tmR r s = t at *
  obtain ⟨p, q⟩ := r
  obtain ⟨u, v⟩ := s
  simp only at *
  go_enter Try.func17, Try.ntmps17
  (go_wp2_with fail; refine (K1.out _).mono ?_; rintro e w' ⟨rfl, hb_⟩; obtain ⟨os0, d0, rfl⟩ := mo_of hb_; clear hb_)
  (go_wp2_with fail; refine (K2.out _).mono ?_; rintro e w' ⟨rfl, hb_⟩; obtain ⟨os1, d1, rfl⟩ := mo_of hb_; clear hb_)
  (go_wp2_with fail; refine (K3.out _).mono ?_; rintro e w' ⟨rfl, hb_⟩; obtain ⟨os2, d2, rfl⟩ := mo_of hb_; clear hb_)
  (go_wp2_with fail; refine (K4.out _).mono ?_; rintro e w' ⟨rfl, hb_⟩; obtain ⟨os3, d3, rfl⟩ := mo_of hb_; clear hb_)
  go_wp2
  go_returns
  exact ⟨rfl, (by repeat' (first | (with_reducible first | assumption | exact Below.refl _ _ | refine Below.drew ?_ | refine Below.alloc ?_ ?_ _ | refine Below.setCell ?_ ?_ _ | refine below_setR ?_ ?_ _ | refine below_dn ?_ _ | refine Below.trans ?_ (below_mo _ _ _ ?_) | refine Below.trans ?_ (below_mq _ _ ?_) | exact Nat.le_refl _) | (simp; done) | (simp; omega) | omega))⟩
set_option maxHeartbeats 2000000 in
theorem specTimes_ok {r s : Int × Int} (hr : RtOK r) (hs : RtOK s) (ht : (tmR r s).1 ≤ 1000000000 ∧ (tmR r s).2 ≤ 1000000000) (w : World) : Calls Try.prog 18 #[.agg #[.int .i64 r.1, .int .i64 r.2], .agg #[.int .i64 s.1, .int .i64 s.2]] w fun e w' => e = .returned (.tuple #[.agg #[.int .i64 (tmR r s).1, .int .i64 (tmR r s).2], .int .i64 0]) ∧ Below w.heap.size w w' := by
  have K1 := Lib.hid (fun W => l03Ok_ok hr W)
  have K2 := Lib.hid (fun W => l03Ok_ok hs W)
  have K3 := Lib.hid (fun W => l03Times_ok hr hs ht W)
  clear hr hs ht
  generalize tmR r s = t at *
  obtain ⟨p, q⟩ := r
  obtain ⟨u, v⟩ := s
  simp only at *
  go_enter Try.func18, Try.ntmps18
  (go_wp2_with fail; refine (K1.out _).mono ?_; rintro e w' ⟨rfl, hb_⟩; obtain ⟨os0, d0, rfl⟩ := mo_of hb_; clear hb_)
  (go_wp2_with fail; refine (K2.out _).mono ?_; rintro e w' ⟨rfl, hb_⟩; obtain ⟨os1, d1, rfl⟩ := mo_of hb_; clear hb_)
  (go_wp2_with fail; refine (K3.out _).mono ?_; rintro e w' ⟨rfl, hb_⟩; obtain ⟨os2, d2, rfl⟩ := mo_of hb_; clear hb_)
  go_wp2
  go_returns
  exact ⟨rfl, (by repeat' (first | (with_reducible first | assumption | exact Below.refl _ _ | refine Below.drew ?_ | refine Below.alloc ?_ ?_ _ | refine Below.setCell ?_ ?_ _ | refine below_setR ?_ ?_ _ | refine below_dn ?_ _ | refine Below.trans ?_ (below_mo _ _ _ ?_) | refine Below.trans ?_ (below_mq _ _ ?_) | exact Nat.le_refl _) | (simp; done) | (simp; omega) | omega))⟩
set_option maxHeartbeats 1000000 in
theorem MakeRatio_ok {p q : Int} (h : MkOK p q) (hr : RtOK (red p q)) (w : World) : Calls Try.prog 23 #[.int .i64 p, .int .i64 q] w fun e w' => e = .returned (.tuple #[.agg #[.int .i64 (red p q).1, .int .i64 (red p q).2], .int .i64 0]) ∧ Below w.heap.size w w' := by
  have K1 := Lib.hid (fun W => reduced_ok h W)
  have K2 := Lib.hid (fun W => valid_ok hr W)
  have g1 : ¬ p < 1 := by have := h.p; omega
  have g2 : ¬ q < 1 := by have := h.q; omega
  clear h hr
  generalize red p q = t at *
  go_enter Try.func23, Try.ntmps23
  (go_wp2_with fail; refine (K1.out _).mono ?_; rintro e w' ⟨rfl, hb_⟩; obtain ⟨os0, d0, rfl⟩ := mo_of hb_; clear hb_)
  (go_wp2_with fail; refine (K2.out _).mono ?_; rintro e w' ⟨rfl, hb_⟩; obtain ⟨os1, d1, rfl⟩ := mo_of hb_; clear hb_)
  go_wp2
  go_returns
  exact ⟨rfl, (by repeat' (first | (with_reducible first | assumption | exact Below.refl _ _ | refine Below.drew ?_ | refine Below.alloc ?_ ?_ _ | refine Below.setCell ?_ ?_ _ | refine below_setR ?_ ?_ _ | refine below_dn ?_ _ | refine Below.trans ?_ (below_mo _ _ _ ?_) | refine Below.trans ?_ (below_mq _ _ ?_) | exact Nat.le_refl _) | (simp; done) | (simp; omega) | omega))⟩
theorem gt_max (x y : Int) : (if y > x then y else x) = max x y := by split <;> omega
theorem run_max4 (ats : Array TypeId) (ty : TypeId) (a b c d : Int) (W : World) : (Builtin.max_ ats ty #[.int .i64 a, .int .i64 b, .int .i64 c, .int .i64 d]).run Try.prog W = .ok (.int .i64 (max (max (max a b) c) d)) W := by
  simp only [Builtin.max_, List.foldlM_cons, List.foldlM_nil, Builtin.max2, gt_max]
  rfl
set_option maxHeartbeats 4000000 in
theorem NearerRatio_ok {r a b : Int × Int} (hr : RtOK r) (ha : RtOK a) (hb : RtOK b) (sa : smN a.1 ∧ smN a.2) (sb : smN b.1 ∧ smN b.2) (w : World) : Calls Try.prog 22 #[.agg #[.int .i64 r.1, .int .i64 r.2], .agg #[.int .i64 a.1, .int .i64 a.2], .agg #[.int .i64 b.1, .int .i64 b.2]] w fun e w' => e = .returned (.tuple #[.int .i64 (nrV r.1 r.2 a.1 a.2 b.1 b.2), .int .i64 0]) ∧ Below w.heap.size w w' := by
  have K1 := Lib.hid (fun W => ValidRatio_ok hr W)
  have K2 := Lib.hid (fun W => ValidRatio_ok ha W)
  have K3 := Lib.hid (fun W => ValidRatio_ok hb W)
  have K4 := Lib.hid (fun W => nearer_ok (P := r.1) (Q := r.2) hr.p hr.q sa.1 sa.2 sb.1 sb.2 W)
  have hm : ¬ (1000 : Int) < max (max (max a.1 a.2) b.1) b.2 := by
    have h1 := sa.1.2
    have h2 := sa.2.2
    have h3 := sb.1.2
    have h4 := sb.2.2
    omega
  have h1 := sa.1.2
  have h2 := sa.2.2
  have h3 := sb.1.2
  have h4 := sb.2.2
  have hmx := fun W => run_max4 #[2, 2, 2, 2] 2 a.1 a.2 b.1 b.2 W
  clear hr ha hb sa sb h1 h2 h3 h4
  obtain ⟨p, q⟩ := r
  obtain ⟨u, v⟩ := a
  obtain ⟨x, y⟩ := b
  simp only at *
  generalize max (max (max u v) x) y = M at *
  go_enter Try.func22, Try.ntmps22
  (go_wp2_with fail; refine (K1.out _).mono ?_; rintro e w' ⟨rfl, hb_⟩; obtain ⟨os0, d0, rfl⟩ := mo_of hb_; clear hb_)
  (go_wp2_with fail; refine (K2.out _).mono ?_; rintro e w' ⟨rfl, hb_⟩; obtain ⟨os1, d1, rfl⟩ := mo_of hb_; clear hb_)
  (go_wp2_with fail; refine (K3.out _).mono ?_; rintro e w' ⟨rfl, hb_⟩; obtain ⟨os2, d2, rfl⟩ := mo_of hb_; clear hb_)
  (go_wp2_with fail; refine (K4.out _).mono ?_; rintro e w' ⟨rfl, hb_⟩; obtain ⟨os3, d3, rfl⟩ := mo_of hb_; clear hb_)
  go_wp2
  go_returns
  exact ⟨rfl, (by repeat' (first | (with_reducible first | assumption | exact Below.refl _ _ | refine Below.drew ?_ | refine Below.alloc ?_ ?_ _ | refine Below.setCell ?_ ?_ _ | refine below_setR ?_ ?_ _ | refine below_dn ?_ _ | refine Below.trans ?_ (below_mo _ _ _ ?_) | refine Below.trans ?_ (below_mq _ _ ?_) | exact Nat.le_refl _) | (simp; done) | (simp; omega) | omega))⟩
theorem rat_info : (Try.prog.info? 25).map (·.size) = some 2 := by kernel_rfl
theorem retRat {fn : Func} {p : Tmp} (h : fn.results = #[.cell p 25]) {R : Ending → World → Prop} {a : Act} {w : World} {g : Nat} {t : TypeId} {x y : Int} {fr : Nat × Nat}
    (hp : a.tmps.getD p undef = .pointer (some ⟨g, 0, none⟩)) (hg : w.heap[g]? = some (.cells #[.int .i64 x, .int .i64 y] t fr)) (hf : a.defers = []) (hR : R (.returned (.agg #[.int .i64 x, .int .i64 y])) w) : bodyPost Try.prog fn R .ret a w :=
  bodyPost_ret (results_cell_row h _ _ g t _ fr _ hp hg Try.underlying25 rfl rat_info) hf hR
theorem set01R {w : World} {g : Nat} {a b a' b' : Value} {T : TypeId} (h : w.heap[g]? = some (.cells #[a, b] T)) : ((w.setCell ⟨g, 0, none⟩ a').setCell ⟨g, 1, none⟩ b').heap[g]? = some (.cells #[a', b'] T) := by
  have h1 := heap_setCell_same w g 0 _ T a' h
  exact heap_setCell_same (w.setCell ⟨g, 0, none⟩ a') g 1 _ T b' h1
theorem below_set01R {B : Nat} {w0 w : World} {g : Nat} {a' b' : Value} (h : Below B w0 w) (hg : B ≤ g) : Below B w0 ((w.setCell ⟨g, 0, none⟩ a').setCell ⟨g, 1, none⟩ b') := Below.setCell (Below.setCell h hg _) hg _
/-- The call hands back a ratio as it is drawn. -/
def RetRt (M : Int) (w : World) (e : Ending) (w' : World) : Prop := ∃ r : Int × Int, e = .returned (.agg #[.int .i64 r.1, .int .i64 r.2]) ∧ RtOK r ∧ r.1 ≤ M ∧ r.2 ≤ M ∧ Below w.heap.size w w'
theorem mk_sm {p q M : Int} (hp : 1 ≤ p ∧ p ≤ M) (hq : 1 ≤ q ∧ q ≤ M) (hM : M ≤ 1000000000) : MkOK p q ∧ RtOK (red p q) ∧ (red p q).1 ≤ M ∧ (red p q).2 ≤ M := by
  have h : MkOK p q := ⟨⟨hp.1, by omega⟩, hq.1, by omega⟩
  have b := red_pos hp.1 hq.1
  exact ⟨h, h.rt (by omega) (by omega), by omega, by omega⟩
set_option maxHeartbeats 2000000 in
theorem P6Small_ok {A : Option Addr} {xs : List Int} {W : World} {B : Nat} (hs : Nums .u8 W B A xs) (h8 : b8 xs) (c : Nat) (w : World) (hb : Below B W w) : Calls Try.prog 16 #[.slice A xs.length c] w (RetRt 60 w) := by
  have hB := hs.bsz hb
  go_enter Try.func16, Try.ntmps16
  (go_wp2_with fail; refine (l00From_any _ _ _ _).mono ?_; rintro e w' ⟨rfl, rfl⟩)
  go_wp2_with fail
  refine calls_atQ (fun u => u.heap[w.heap.size]? = some (.cells #[.int .i64 0, .int .i64 0] 25) ∧ u.heap[w.heap.size + 1]? = some (.cells #[.slice A xs.length c, .int .i64 0, .int .u64 0] 106) ∧ Below w.heap.size w u) _ ⟨(by repeat' (first | (with_reducible assumption) | (with_reducible refine heap_mo_at ?_) | (with_reducible refine heap_mq_at ?_) | (with_reducible refine heap_drew_at ?_) | ((with_reducible refine heap_alloc_at ?_); first | rfl | (simp; done)) | (with_reducible refine heap_alloc_past ?_) | ((with_reducible apply heap_set_at); (first | rfl | (simp; done))) | ((with_reducible apply heap_set_past); (first | (simp; done) | (simp; omega) | omega)) | ((with_reducible apply heap_setC_past); (first | (simp; done) | (simp; omega) | omega)) | fail)), (by repeat' (first | (with_reducible assumption) | (with_reducible refine heap_mo_at ?_) | (with_reducible refine heap_mq_at ?_) | (with_reducible refine heap_drew_at ?_) | ((with_reducible refine heap_alloc_at ?_); first | rfl | (simp; done)) | (with_reducible refine heap_alloc_past ?_) | ((with_reducible apply heap_set_at); (first | rfl | (simp; done))) | ((with_reducible apply heap_set_past); (first | (simp; done) | (simp; omega) | omega)) | ((with_reducible apply heap_setC_past); (first | (simp; done) | (simp; omega) | omega)) | fail)), (by repeat' (first | (with_reducible first | assumption | exact Below.refl _ _ | refine Below.drew ?_ | refine Below.alloc ?_ ?_ _ | refine Below.setCell ?_ ?_ _ | refine below_setR ?_ ?_ _ | refine below_dn ?_ _ | refine Below.trans ?_ (below_mo _ _ _ ?_) | refine Below.trans ?_ (below_mq _ _ ?_) | exact Nat.le_refl _) | (simp; done) | (simp; omega) | omega))⟩ ?_
  rintro u0 ⟨x0, x1, x2⟩
  have hx := (Array.getElem?_eq_some_iff.1 x1).1
  refine (pick_lo hs h8 c _ (hb.trans (x2.mono hB)) (w.heap.size + 1) 0 (by omega) (by omega) ⟨0, Nat.le_refl _, 0, x1⟩ 60 (by omega)).mono ?_
  rintro e w1 ⟨p, rfl, hp, hsrc1, hc1⟩
  have y0 := (hc1.block _ (by omega) (by omega)).trans x0
  have y2 := hc1.below x2 (by omega) (fun k hk => by omega)
  have y3 := hc1.size
  have e1 : IntKind.i64.wrap (1 + p) = 1 + p := IntWalk.i64_in _ ⟨by omega, by omega⟩
  clear x0 x1 x2 hc1
  (go_wp2_with fail; refine (pick_lo hs h8 c _ (hb.trans (y2.mono hB)) (w.heap.size + 1) 2 (by omega) (by omega) hsrc1 60 (by omega)).mono ?_; rintro e w2 ⟨q, rfl, hq, hsrc2, hc2⟩)
  have z0 := (hc2.block _ (by omega) (by omega)).trans y0
  have z2 := hc2.below y2 (by omega) (fun k hk => by omega)
  have e2 : IntKind.i64.wrap (1 + q) = 1 + q := IntWalk.i64_in _ ⟨by omega, by omega⟩
  obtain ⟨m1, m2, m3, m4⟩ := mk_sm (p := 1 + p) (q := 1 + q) (M := 60) (by omega) (by omega) (by omega)
  have K := Lib.hid (fun W => l03Made_ok m1 m2 W)
  have HZ := Lib.hid z0
  have hz2 := z2.size
  have hw2 := (Array.getElem?_eq_some_iff.1 z0).1
  have fz0 := frozen_of_row w2 w.heap.size 0 _ _ z0
  have fz1 := frozen_of_row w2 w.heap.size 1 _ _ z0
  have cz0 := (cell_of_row w2 w.heap.size 0 _ _ (0, 0) z0).trans rfl
  have cz1 := (cell_of_row w2 w.heap.size 1 _ _ (0, 0) z0).trans rfl
  clear y0 y2 hc2 hsrc1 hsrc2 z0
  (go_wp2_with fail; refine (K.out _).mono ?_; rintro e w' ⟨rfl, hb_⟩; obtain ⟨os0, d0, rfl⟩ := mo_of hb_; clear hb_)
  go_wp2
  have hB3 : Below w.heap.size w ((w2.setCell ⟨w.heap.size, 0, none⟩ (.int .i64 (red (1 + p) (1 + q)).1)).setCell ⟨w.heap.size, 1, none⟩ (.int .i64 (red (1 + p) (1 + q)).2)) := below_set01R z2 (Nat.le_refl _)
  have hg3 := set01R (a' := .int .i64 (red (1 + p) (1 + q)).1) (b' := .int .i64 (red (1 + p) (1 + q)).2) HZ.out
  refine retRat (g := w.heap.size) rfl rfl (heap_alloc_past (heap_mo_at hg3)) rfl ⟨red (1 + p) (1 + q), rfl, m2, m3, m4, (by repeat' (first | (with_reducible first | assumption | exact Below.refl _ _ | refine Below.drew ?_ | refine Below.alloc ?_ ?_ _ | refine Below.setCell ?_ ?_ _ | refine below_setR ?_ ?_ _ | refine below_dn ?_ _ | refine Below.trans ?_ (below_mo _ _ _ ?_) | refine Below.trans ?_ (below_mq _ _ ?_) | exact Nat.le_refl _) | (simp; done) | (simp; omega) | omega))⟩
end Go.Proofs.Ytinjlofefmjolaa.X
