/- The wheels that an eye reads wrong, as lists. Conditions: none. -/
import Derived.Test.YtinjlofefmjolaaKWrong
namespace Go.Proofs.Ytinjlofefmjolaa.X
open Go.RowKit
set_option linter.unusedVariables false
set_option linter.unusedSimpArgs false
set_option maxRecDepth 100000
theorem own_mo2 {w : World} {b : Nat} {e : TypeId} {sz : Nat} {v : Value} {n : Nat} {ys : List Value} (h : w.ownsRow b e sz v n ys) (os : Array Obj) (d : Nat) : (mo w os d).ownsRow b e sz v n ys := by
  have hlt := h.lt
  refine ⟨h.1, ?_⟩
  rcases h.2 with h0 | ⟨g, cap, cur, e1, e2, e3, h0⟩
  · exact .inl h0
  · subst e1
    exact .inr ⟨g, cap, cur, rfl, e2, (heap_mo _ _ _ _ (hlt g rfl).2).trans e3, h0⟩
/-- a row of another type is another block -/
theorem own_ne {w : World} {b : Nat} {e e' : TypeId} {sz : Nat} {v : Value} {n : Nat} {ys : List Value} {g : Nat} {cs : Array Value} {fr : Nat × Nat} (h : w.ownsRow b e sz v n ys) (hg : w.heap[g]? = some (.cells cs e' fr)) (hne : e ≠ e') : some g ≠ v.ownBlock := by
  intro hb
  rcases h.2 with ⟨rfl, _⟩ | ⟨g', cap, cur, rfl, _, hg', _⟩
  · simp [Value.ownBlock] at hb
  · simp [Value.ownBlock] at hb
    subst hb
    rw [hg'] at hg
    injection hg with hg
    injection hg with _ h2 _
    exact hne h2
theorem cell8 {w : World} {g : Nat} {q : IntKind} {f : Nat → Int} {T : TypeId} {fr : Nat × Nat} (h : w.heap[g]? = some (.cells (a8 q f) T fr)) {k : Nat} (hk : k < 8) : w.cell? ⟨g, k, none⟩ = some (.int q (f k)) := by
  rw [cell_of_row w g _ _ T fr h]
  rcases lt8 hk with rfl | rfl | rfl | rfl | rfl | rfl | rfl | rfl <;> rfl
theorem heap_drew_at2 {w : World} {g n : Nat} {o : Obj} (h : w.heap[g]? = some o) : (w.drewN n).heap[g]? = some o := h
theorem own_dn {w : World} {b : Nat} {e : TypeId} {sz : Nat} {v : Value} {n : Nat} {ys : List Value} (h : w.ownsRow b e sz v n ys) (q : Nat) : (w.drewN q).ownsRow b e sz v n ys := h
theorem keep_blk {wr w3 : World} {o o' : Obj} {row : Option Nat} {g : Nat} (h : wr.heap[g]? = some o') {nq : Nat} (hg : ((wr.drewN nq).alloc o).grownBy w3 row) (hne : some g ≠ row) : w3.heap[g]? = some o' := by
  have hl := (Array.getElem?_eq_some_iff.1 h).1
  exact (hg.block g (by rw [World.size_alloc]; exact Nat.lt_succ_of_lt hl) hne).trans (heap_alloc_past (heap_drew_at2 h))
theorem heap_old {w : World} {o : Obj} {k : Nat} (h : k < w.heap.size) : (w.alloc o).heap[k]? = w.heap[k]? := by
  exact Below.heap_alloc w o k h
theorem heap_past {w : World} {a : Addr} {v : Value} (h : w.cell? a = some v) (n : Nat) (o : Obj) : ((w.drewN n).alloc o).cell? a = some v :=
  (World.cell?_of_block (w := w.drewN n) (heap_old (World.block_lt_of_cell? (w.drewN n) a h))).trans h
theorem own_new0 (w : World) (e : TypeId) : (w.alloc (.cells #[] e)).ownsRow w.heap.size e 1 (.slice (some ⟨w.heap.size, 0, none⟩) 0 0) 0 [] := own_new w _ (Nat.le_refl _) e _ rfl
/-- which wheels an eye reads wrong -/
def wrF (xs : List Int) (js : List (Int × Int)) (t eye : Int) (i : Nat) : Bool := decide (¬ dg xs (t / 1000) i = rdTo xs (paTo xs js t xs.length) eye xs.length i)
/-- The call hands back a list that it made. -/
def RetW (ys : List Int) (w : World) (e : Ending) (w' : World) : Prop :=
  ∃ v, e = .returned v ∧ w'.ownsRow w.heap.size 2 1 v ys.length (ys.map (Value.int .i64)) ∧ Below w.heap.size w w'
set_option maxHeartbeats 2000000 in
theorem wrong_any {A : Option Addr} {xs : List Int} {W : World} {B : Nat} (hs : Nums .u8 W B A xs) (h8 : b8 xs) (c : Nat) {L : Option Addr} {js : List (Int × Int)} {V : World} {C : Nat} (hl : Prs .i8 .i16 V C L js) (hj : j8 js) (cl : Nat) (w : World) (hb : Below B W w) (hv : Below C V w) (g : Nat) (k0 : w.cell? ⟨g, 0, none⟩ = some (.slice A xs.length c)) (k1 : w.cell? ⟨g, 1, none⟩ = some (.slice L js.length cl)) (t eye : Int) (hk : okO xs js = true) (ht : inR t 0 (szS xs * 1000 - 1) = true) : Calls Try.prog 84 #[.pointer (some ⟨g, 0, none⟩), .int .i64 t, .int .i64 eye] w (RetW (flt (wrF xs js t eye) xs.length) w) := by
  have hB := hs.bsz hb
  have hC := hl.bsz hv
  have hn := hs.len
  have hg : g < w.heap.size := block_lt_of_cell k0
  obtain ⟨s1, s2, s3⟩ := okO_parts hk
  obtain ⟨hl0, hl8⟩ := okS_len s1
  obtain ⟨⟨t0, t1⟩, t2, t3⟩ := turn_bd hk ht
  have t4 : t / 1000 ≤ 9223372036854775807 := by omega
  have HK := Lib.hid hk
  have HI := Lib.hid ht
  have HS := Lib.hid s1
  have HT := Lib.hid t2
  have HT4 := Lib.hid t4
  have HP : Hid (∀ i : Nat, i < xs.length → 0 ≤ paTo xs js t xs.length i ∧ paTo xs js t xs.length i < el xs i * 1000) := by
    intro i hi
    unfold paTo
    rw [if_pos hi]
    exact ptV_bd hk i hi
  obtain ⟨i0, hi, hz0, hz1, hz2⟩ := info_parts infoI
  clear s1 s2 s3 hk ht t2 t3 t4
  go_enter Try.func84, Try.ntmps84
  (go_wp2_with fail; refine (digits_any hs h8 _ _ rfl _ (by repeat' (first | (with_reducible first | assumption | exact Below.refl _ _ | refine Below.drew ?_ | refine Below.alloc ?_ ?_ _ | refine Below.setCell ?_ ?_ _ | refine below_setR ?_ ?_ _ | refine below_dn ?_ _ | refine Below.trans ?_ (below_mo _ _ _ ?_) | refine Below.trans ?_ (below_mq _ _ ?_) | exact Nat.le_refl _) | (simp; done) | (simp; omega) | omega)) HS.out _ HT.out HT4.out).mono ?_; rintro e w' ⟨rfl, hb_⟩; obtain ⟨os0, d0, rfl⟩ := mo_of hb_; clear hb_)
  (go_wp2_with fail; refine (parts_any hs h8 c hl hj cl _ (by repeat' (first | (with_reducible first | assumption | exact Below.refl _ _ | refine Below.drew ?_ | refine Below.alloc ?_ ?_ _ | refine Below.setCell ?_ ?_ _ | refine below_setR ?_ ?_ _ | refine below_dn ?_ _ | refine Below.trans ?_ (below_mo _ _ _ ?_) | refine Below.trans ?_ (below_mq _ _ ?_) | exact Nat.le_refl _) | (simp; done) | (simp; omega) | omega)) (by repeat' (first | (with_reducible first | assumption | exact Below.refl _ _ | refine Below.drew ?_ | refine Below.alloc ?_ ?_ _ | refine Below.setCell ?_ ?_ _ | refine below_setR ?_ ?_ _ | refine below_dn ?_ _ | refine Below.trans ?_ (below_mo _ _ _ ?_) | refine Below.trans ?_ (below_mq _ _ ?_) | exact Nat.le_refl _) | (simp; done) | (simp; omega) | omega)) _ (by first | assumption | (simp [go_sem]; done) | (simp [go_sem, *]; done) | (simp [go_sem]; rfl)) (by first | assumption | (simp [go_sem]; done) | (simp [go_sem, *]; done) | (simp [go_sem]; rfl)) t HK.out HI.out).mono ?_; rintro e w' ⟨rfl, hb_⟩; obtain ⟨os1, d1, rfl⟩ := mo_of hb_; clear hb_)
  (go_wp2_with fail; refine (read_any hs h8 c hl hj cl _ (by repeat' (first | (with_reducible first | assumption | exact Below.refl _ _ | refine Below.drew ?_ | refine Below.alloc ?_ ?_ _ | refine Below.setCell ?_ ?_ _ | refine below_setR ?_ ?_ _ | refine below_dn ?_ _ | refine Below.trans ?_ (below_mo _ _ _ ?_) | refine Below.trans ?_ (below_mq _ _ ?_) | exact Nat.le_refl _) | (simp; done) | (simp; omega) | omega)) (by repeat' (first | (with_reducible first | assumption | exact Below.refl _ _ | refine Below.drew ?_ | refine Below.alloc ?_ ?_ _ | refine Below.setCell ?_ ?_ _ | refine below_setR ?_ ?_ _ | refine below_dn ?_ _ | refine Below.trans ?_ (below_mo _ _ _ ?_) | refine Below.trans ?_ (below_mq _ _ ?_) | exact Nat.le_refl _) | (simp; done) | (simp; omega) | omega)) _ (by first | assumption | (simp [go_sem]; done) | (simp [go_sem, *]; done) | (simp [go_sem]; rfl)) (by first | assumption | (simp [go_sem]; done) | (simp [go_sem, *]; done) | (simp [go_sem]; rfl)) _ eye HK.out HP.out).mono ?_; rintro e w' ⟨rfl, hb_⟩; obtain ⟨os2, d2, rfl⟩ := mo_of hb_; clear hb_)
  go_wp2
  go_loopw [7, 30] (fun v i wr => ∃ k : Nat, k ≤ xs.length ∧ i = .int .i64 (k : Int) ∧ wr.ownsRow w.heap.size 2 1 v (flt (wrF xs js t eye) k).length ((flt (wrF xs js t eye) k).map (Value.int .i64)) ∧ wr.heap[w.heap.size + 1 + os0.size + os1.size + os2.size]? = some (.cells #[.int .u8 (dg xs (t / 1000) 0), .int .u8 (dg xs (t / 1000) 1), .int .u8 (dg xs (t / 1000) 2), .int .u8 (dg xs (t / 1000) 3), .int .u8 (dg xs (t / 1000) 4), .int .u8 (dg xs (t / 1000) 5), .int .u8 (dg xs (t / 1000) 6), .int .u8 (dg xs (t / 1000) 7)] 57) ∧ wr.heap[w.heap.size + 1 + os0.size + os1.size + os2.size + 1]? = some (.cells #[.int .u8 (rdTo xs (paTo xs js t xs.length) eye xs.length 0), .int .u8 (rdTo xs (paTo xs js t xs.length) eye xs.length 1), .int .u8 (rdTo xs (paTo xs js t xs.length) eye xs.length 2), .int .u8 (rdTo xs (paTo xs js t xs.length) eye xs.length 3), .int .u8 (rdTo xs (paTo xs js t xs.length) eye xs.length 4), .int .u8 (rdTo xs (paTo xs js t xs.length) eye xs.length 5), .int .u8 (rdTo xs (paTo xs js t xs.length) eye xs.length 6), .int .u8 (rdTo xs (paTo xs js t xs.length) eye xs.length 7)] 57) ∧ Below w.heap.size w wr) (fun _ i _ => xs.length - (intOf i).toNat)
  case atStart => exact ⟨0, Nat.zero_le _, rfl, by show World.ownsRow _ _ _ _ _ 0 []; repeat' (first | (with_reducible exact own_new0 _ _) | (with_reducible refine own_mo2 ?_ _ _) | (with_reducible refine World.ownsRow.alloc ?_ _)), (by repeat' (first | (with_reducible assumption) | (with_reducible refine heap_mo_at ?_) | (with_reducible refine heap_mq_at ?_) | (with_reducible refine heap_drew_at ?_) | ((with_reducible refine heap_alloc_at ?_); first | rfl | (simp; done)) | (with_reducible refine heap_alloc_past ?_) | ((with_reducible apply heap_set_at); (first | rfl | (simp; done))) | ((with_reducible apply heap_set_past); (first | (simp; done) | (simp; omega) | omega)) | ((with_reducible apply heap_setC_past); (first | (simp; done) | (simp; omega) | omega)) | fail)), (by repeat' (first | (with_reducible assumption) | (with_reducible refine heap_mo_at ?_) | (with_reducible refine heap_mq_at ?_) | (with_reducible refine heap_drew_at ?_) | ((with_reducible refine heap_alloc_at ?_); first | rfl | (simp; done)) | (with_reducible refine heap_alloc_past ?_) | ((with_reducible apply heap_set_at); (first | rfl | (simp; done))) | ((with_reducible apply heap_set_past); (first | (simp; done) | (simp; omega) | omega)) | ((with_reducible apply heap_setC_past); (first | (simp; done) | (simp; omega) | omega)) | fail)), (by repeat' (first | (with_reducible first | assumption | exact Below.refl _ _ | refine Below.drew ?_ | refine Below.alloc ?_ ?_ _ | refine Below.setCell ?_ ?_ _ | refine below_setR ?_ ?_ _ | refine below_dn ?_ _ | refine Below.trans ?_ (below_mo _ _ _ ?_) | refine Below.trans ?_ (below_mq _ _ ?_) | exact Nat.le_refl _) | (simp; done) | (simp; omega) | omega))⟩
  case round =>
    obtain ⟨k, hk, rfl, hown, h8', h9', hnx⟩ := hrel
    have hsize := hnx.size
    have HL := Lib.hid (flt_len (wrF xs js t eye) k)
    by_cases hlt : k < xs.length
    · have g0 : (0 : Int) ≤ (k : Int) := by omega
      have g1 : (k : Int) < 8 := by omega
      have g2 : (k : Int) < (xs.length : Int) := by omega
      have g3 : k < 8 := by omega
      have c8 := cell8 (f := dg xs (t / 1000)) h8' g3
      have c9 := cell8 (f := rdTo xs (paTo xs js t xs.length) eye xs.length) h9' g3
      have b8' : w.heap.size + 1 + os0.size + os1.size + os2.size < wr.heap.size := block_lt_of_cell c8
      have b9' : w.heap.size + 1 + os0.size + os1.size + os2.size + 1 < wr.heap.size := block_lt_of_cell c9
      have hF : wrF xs js t eye k = decide (¬ dg xs (t / 1000) k = rdTo xs (paTo xs js t xs.length) eye xs.length k) := rfl
      by_cases hz : dg xs (t / 1000) k = rdTo xs (paTo xs js t xs.length) eye xs.length k
      · have HN := Lib.hid (flt_no (hF.trans (by simp [hz])))
        have hz2' : (dg xs (t / 1000) k != rdTo xs (paTo xs js t xs.length) eye xs.length k) = false := by simp [bne, hz]
        clear hF hz
        go_wp2
        go_quiet (fail)
        go_wp2
        exact ⟨⟨k + 1, by omega, by go_num, by rw [HN.out]; exact hown, h8', h9', (by repeat' (first | (with_reducible first | assumption | exact Below.refl _ _ | refine Below.drew ?_ | refine Below.alloc ?_ ?_ _ | refine Below.setCell ?_ ?_ _ | refine below_setR ?_ ?_ _ | refine below_dn ?_ _ | refine Below.trans ?_ (below_mo _ _ _ ?_) | refine Below.trans ?_ (below_mq _ _ ?_) | exact Nat.le_refl _) | (simp; done) | (simp; omega) | omega))⟩, by simp [intOf]; omega⟩
      · have HN := Lib.hid (flt_yes (hF.trans (decide_eq_true hz)))
        have hz2' : (dg xs (t / 1000) k != rdTo xs (paTo xs js t xs.length) eye xs.length k) = true := by simp [bne, hz]
        have hown0 := hown
        clear hF hz
        go_wp2
        go_quiet (fail)
        go_wp2_with (first
          | (at_builtin; refine wpList_append_own _ rfl _ _ 27 rfl w.heap.size 2 i0 (.int .i64 0) 1 8 undI hi hz0 hz1 hz2 rfl (by decide) _ _ _ rfl ((own_dn hown _).alloc _) ⟨wr.heap.size, 0, none⟩ 1 1 [.int .i64 (k : Int)] rfl rfl (cell_one_new _ _ _) (fun x hx => by simp at hx; subst hx; rfl) (by have := HL.out; unfold maxLen; omega) (by have := HL.out; omega) (by simp; omega) ?_; intro v' w3 hown' hgrow3 hnil3))
        exact ⟨⟨k + 1, by omega, by go_num, by rw [HN.out, List.map_append, List.length_append]; exact hown', keep_blk h8' hgrow3 (own_ne hown0 h8' (by decide)), keep_blk h9' hgrow3 (own_ne hown0 h9' (by decide)), ((below_dn hnx _).alloc hsize _).grown hgrow3 (by simp; omega) (fun q hq => (hown0.lt q hq).1)⟩, by simp [intOf]; omega⟩
    · obtain rfl : k = xs.length := by omega
      go_wp2
      go_returns
      exact ⟨u7, rfl, hown, hnx⟩
set_option maxHeartbeats 2000000 in
theorem l02Wrong_any {A : Option Addr} {xs : List Int} {W : World} {B : Nat} (hs : Nums .u8 W B A xs) (h8 : b8 xs) (c : Nat) {L : Option Addr} {js : List (Int × Int)} {V : World} {C : Nat} (hl : Prs .i8 .i16 V C L js) (hj : j8 js) (cl : Nat) (w : World) (hb : Below B W w) (hv : Below C V w) (g : Nat) (k0 : w.cell? ⟨g, 0, none⟩ = some (.slice A xs.length c)) (k1 : w.cell? ⟨g, 1, none⟩ = some (.slice L js.length cl)) (t eye : Int) (hk : okO xs js = true) (ht : inR t 0 (szS xs * 1000 - 1) = true) : Calls Try.prog 85 #[.pointer (some ⟨g, 0, none⟩), .int .i64 t, .int .i64 eye] w (RetW (flt (wrF xs js t eye) xs.length) w) := by
  have hB := hs.bsz hb
  have hC := hl.bsz hv
  have hn := hs.len
  have hg : g < w.heap.size := block_lt_of_cell k0
  obtain ⟨s1, s2, s3⟩ := okO_parts hk
  obtain ⟨hl0, hl8⟩ := okS_len s1
  obtain ⟨⟨t0, t1⟩, t2, t3⟩ := turn_bd hk ht
  have t4 : t / 1000 ≤ 9223372036854775807 := by omega
  have HD := Lib.hid (dgOf_in s1 ⟨t2, t3⟩)
  have HK := Lib.hid hk
  have HI := Lib.hid ht
  have HT4 := Lib.hid t4
  have HP : Hid (∀ i : Nat, i < xs.length → 0 ≤ paTo xs js t xs.length i ∧ paTo xs js t xs.length i < el xs i * 1000) := by
    intro i hi
    unfold paTo
    rw [if_pos hi]
    exact ptV_bd hk i hi
  obtain ⟨i0, hi, hz0, hz1, hz2⟩ := info_parts infoI
  clear s1 s2 s3 hk ht t2 t3 t4
  go_enter Try.func85, Try.ntmps85
  (go_wp2_with fail; refine (specDigitsOf_any hs h8 _ _ rfl _ (by repeat' (first | (with_reducible first | assumption | exact Below.refl _ _ | refine Below.drew ?_ | refine Below.alloc ?_ ?_ _ | refine Below.setCell ?_ ?_ _ | refine below_setR ?_ ?_ _ | refine below_dn ?_ _ | refine Below.trans ?_ (below_mo _ _ _ ?_) | refine Below.trans ?_ (below_mq _ _ ?_) | exact Nat.le_refl _) | (simp; done) | (simp; omega) | omega)) _ HT4.out).mono ?_; rintro e w' ⟨rfl, hb_⟩; obtain ⟨os0, d0, rfl⟩ := mo_of hb_; clear hb_)
  rw [HD.out]
  (go_wp2_with fail; refine (l02Parts_any hs h8 c hl hj cl _ (by repeat' (first | (with_reducible first | assumption | exact Below.refl _ _ | refine Below.drew ?_ | refine Below.alloc ?_ ?_ _ | refine Below.setCell ?_ ?_ _ | refine below_setR ?_ ?_ _ | refine below_dn ?_ _ | refine Below.trans ?_ (below_mo _ _ _ ?_) | refine Below.trans ?_ (below_mq _ _ ?_) | exact Nat.le_refl _) | (simp; done) | (simp; omega) | omega)) (by repeat' (first | (with_reducible first | assumption | exact Below.refl _ _ | refine Below.drew ?_ | refine Below.alloc ?_ ?_ _ | refine Below.setCell ?_ ?_ _ | refine below_setR ?_ ?_ _ | refine below_dn ?_ _ | refine Below.trans ?_ (below_mo _ _ _ ?_) | refine Below.trans ?_ (below_mq _ _ ?_) | exact Nat.le_refl _) | (simp; done) | (simp; omega) | omega)) _ (by first | assumption | (simp [go_sem]; done) | (simp [go_sem, *]; done) | (simp [go_sem]; rfl)) (by first | assumption | (simp [go_sem]; done) | (simp [go_sem, *]; done) | (simp [go_sem]; rfl)) t HK.out HI.out).mono ?_; rintro e w' ⟨rfl, hb_⟩; obtain ⟨os1, d1, rfl⟩ := mo_of hb_; clear hb_)
  (go_wp2_with fail; refine (l02Reads_any hs h8 c hl hj cl _ (by repeat' (first | (with_reducible first | assumption | exact Below.refl _ _ | refine Below.drew ?_ | refine Below.alloc ?_ ?_ _ | refine Below.setCell ?_ ?_ _ | refine below_setR ?_ ?_ _ | refine below_dn ?_ _ | refine Below.trans ?_ (below_mo _ _ _ ?_) | refine Below.trans ?_ (below_mq _ _ ?_) | exact Nat.le_refl _) | (simp; done) | (simp; omega) | omega)) (by repeat' (first | (with_reducible first | assumption | exact Below.refl _ _ | refine Below.drew ?_ | refine Below.alloc ?_ ?_ _ | refine Below.setCell ?_ ?_ _ | refine below_setR ?_ ?_ _ | refine below_dn ?_ _ | refine Below.trans ?_ (below_mo _ _ _ ?_) | refine Below.trans ?_ (below_mq _ _ ?_) | exact Nat.le_refl _) | (simp; done) | (simp; omega) | omega)) _ (by first | assumption | (simp [go_sem]; done) | (simp [go_sem, *]; done) | (simp [go_sem]; rfl)) (by first | assumption | (simp [go_sem]; done) | (simp [go_sem, *]; done) | (simp [go_sem]; rfl)) _ eye HK.out HP.out).mono ?_; rintro e w' ⟨rfl, hb_⟩; obtain ⟨os2, d2, rfl⟩ := mo_of hb_; clear hb_)
  go_wp2
  go_loopw [10, 11] (fun v i wr => ∃ k : Nat, k ≤ xs.length ∧ i = .int .i64 (k : Int) ∧ wr.ownsRow w.heap.size 2 1 v (flt (wrF xs js t eye) k).length ((flt (wrF xs js t eye) k).map (Value.int .i64)) ∧ wr.heap[w.heap.size + os0.size]? = some (.cells #[.int .u8 (dg xs (t / 1000) 0), .int .u8 (dg xs (t / 1000) 1), .int .u8 (dg xs (t / 1000) 2), .int .u8 (dg xs (t / 1000) 3), .int .u8 (dg xs (t / 1000) 4), .int .u8 (dg xs (t / 1000) 5), .int .u8 (dg xs (t / 1000) 6), .int .u8 (dg xs (t / 1000) 7)] 57) ∧ wr.heap[w.heap.size + os0.size + 1 + os1.size + os2.size]? = some (.cells #[.int .u8 (rdTo xs (paTo xs js t xs.length) eye xs.length 0), .int .u8 (rdTo xs (paTo xs js t xs.length) eye xs.length 1), .int .u8 (rdTo xs (paTo xs js t xs.length) eye xs.length 2), .int .u8 (rdTo xs (paTo xs js t xs.length) eye xs.length 3), .int .u8 (rdTo xs (paTo xs js t xs.length) eye xs.length 4), .int .u8 (rdTo xs (paTo xs js t xs.length) eye xs.length 5), .int .u8 (rdTo xs (paTo xs js t xs.length) eye xs.length 6), .int .u8 (rdTo xs (paTo xs js t xs.length) eye xs.length 7)] 57) ∧ Below w.heap.size w wr ∧ wr.cell? ⟨g, 0, none⟩ = some (.slice A xs.length c)) (fun _ i _ => xs.length - (intOf i).toNat)
  case atStart => exact ⟨0, Nat.zero_le _, rfl, own_new _ _ (by simp; omega) _ _ (by simp), (by repeat' (first | (with_reducible assumption) | (with_reducible refine heap_mo_at ?_) | (with_reducible refine heap_mq_at ?_) | (with_reducible refine heap_drew_at ?_) | ((with_reducible refine heap_alloc_at ?_); first | rfl | (simp; done)) | (with_reducible refine heap_alloc_past ?_) | ((with_reducible apply heap_set_at); (first | rfl | (simp; done))) | ((with_reducible apply heap_set_past); (first | (simp; done) | (simp; omega) | omega)) | ((with_reducible apply heap_setC_past); (first | (simp; done) | (simp; omega) | omega)) | fail)), (by repeat' (first | (with_reducible assumption) | (with_reducible refine heap_mo_at ?_) | (with_reducible refine heap_mq_at ?_) | (with_reducible refine heap_drew_at ?_) | ((with_reducible refine heap_alloc_at ?_); first | rfl | (simp; done)) | (with_reducible refine heap_alloc_past ?_) | ((with_reducible apply heap_set_at); (first | rfl | (simp; done))) | ((with_reducible apply heap_set_past); (first | (simp; done) | (simp; omega) | omega)) | ((with_reducible apply heap_setC_past); (first | (simp; done) | (simp; omega) | omega)) | fail)), (by repeat' (first | (with_reducible first | assumption | exact Below.refl _ _ | refine Below.drew ?_ | refine Below.alloc ?_ ?_ _ | refine Below.setCell ?_ ?_ _ | refine below_setR ?_ ?_ _ | refine below_dn ?_ _ | refine Below.trans ?_ (below_mo _ _ _ ?_) | refine Below.trans ?_ (below_mq _ _ ?_) | exact Nat.le_refl _) | (simp; done) | (simp; omega) | omega)), (by first | assumption | (simp [go_sem]; done) | (simp [go_sem, *]; done) | (simp [go_sem]; rfl))⟩
  case round =>
    obtain ⟨k, hk, rfl, hown, h8', h9', hnx, kg⟩ := hrel
    have hsize := hnx.size
    have HL := Lib.hid (flt_len (wrF xs js t eye) k)
    by_cases hlt : k < xs.length
    · have g0 : (0 : Int) ≤ (k : Int) := by omega
      have g1 : (k : Int) < 8 := by omega
      have g2 : (k : Int) < (xs.length : Int) := by omega
      have g3 : k < 8 := by omega
      have c8 := cell8 (f := dg xs (t / 1000)) h8' g3
      have c9 := cell8 (f := rdTo xs (paTo xs js t xs.length) eye xs.length) h9' g3
      have b8' : w.heap.size + os0.size < wr.heap.size := block_lt_of_cell c8
      have b9' : w.heap.size + os0.size + 1 + os1.size + os2.size < wr.heap.size := block_lt_of_cell c9
      have hF : wrF xs js t eye k = decide (¬ dg xs (t / 1000) k = rdTo xs (paTo xs js t xs.length) eye xs.length k) := rfl
      by_cases hz : dg xs (t / 1000) k = rdTo xs (paTo xs js t xs.length) eye xs.length k
      · have HN := Lib.hid (flt_no (hF.trans (by simp [hz])))
        have hz2' : (dg xs (t / 1000) k != rdTo xs (paTo xs js t xs.length) eye xs.length k) = false := by simp [bne, hz]
        clear hF hz
        go_wp2
        go_quiet (fail)
        go_wp2
        exact ⟨⟨k + 1, by omega, by go_num, by rw [HN.out]; exact hown, h8', h9', (by repeat' (first | (with_reducible first | assumption | exact Below.refl _ _ | refine Below.drew ?_ | refine Below.alloc ?_ ?_ _ | refine Below.setCell ?_ ?_ _ | refine below_setR ?_ ?_ _ | refine below_dn ?_ _ | refine Below.trans ?_ (below_mo _ _ _ ?_) | refine Below.trans ?_ (below_mq _ _ ?_) | exact Nat.le_refl _) | (simp; done) | (simp; omega) | omega)), kg⟩, by simp [intOf]; omega⟩
      · have HN := Lib.hid (flt_yes (hF.trans (decide_eq_true hz)))
        have hz2' : (dg xs (t / 1000) k != rdTo xs (paTo xs js t xs.length) eye xs.length k) = true := by simp [bne, hz]
        have hown0 := hown
        have hlt0 := hown.lt
        clear hF hz
        go_wp2
        go_quiet (fail)
        go_wp2_with (first
          | (at_builtin; refine wpList_append_own _ rfl _ _ 27 rfl w.heap.size 2 i0 (.int .i64 0) 1 8 undI hi hz0 hz1 hz2 rfl (by decide) _ _ _ rfl ((own_dn hown _).alloc _) ⟨wr.heap.size, 0, none⟩ 1 1 [.int .i64 (k : Int)] rfl rfl (cell_one_new _ _ _) (fun x hx => by simp at hx; subst hx; rfl) (by have := HL.out; unfold maxLen; omega) (by have := HL.out; omega) (by simp; omega) ?_; intro v' w3 hown' hgrow3 hnil3))
        exact ⟨⟨k + 1, by omega, by go_num, by rw [HN.out, List.map_append, List.length_append]; exact hown', keep_blk h8' hgrow3 (own_ne hown0 h8' (by decide)), keep_blk h9' hgrow3 (own_ne hown0 h9' (by decide)), ((below_dn hnx _).alloc hsize _).grown hgrow3 (by simp; omega) (fun q hq => (hlt0 q hq).1), hgrow3.cell ((heap_past kg _ _)) (by intro h; have := hlt0 g h.symm; omega)⟩, by simp [intOf]; omega⟩
    · obtain rfl : k = xs.length := by omega
      go_wp2
      go_returns
      exact ⟨u10, rfl, hown, hnx⟩
end Go.Proofs.Ytinjlofefmjolaa.X
