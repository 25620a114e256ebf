/- The detective of a log: a table of what is possible. Conditions: none. -/
import Derived.Test.YtkphbagckbbalaaKCounts
import Derived.Test.YtkphbagckbbalaaKLogF
import Derived.Test.YtkphbagckbbalaaKMarkR
namespace Go.Proofs.Ytkphbagckbbalaa.X
open Go.RowKit
set_option linter.unusedVariables false
set_option linter.unusedSimpArgs false
set_option maxRecDepth 100000
@[go_sem] theorem cell_mod (w : World) (os : Array Obj) (d n i : Nat) (hn : n < w.heap.size) : (mo w.drew os d).cell? ⟨n, i, none⟩ = w.cell? ⟨n, i, none⟩ := cell_mo w.drew os d n i hn
@[go_sem] theorem frozen_mod (w : World) (os : Array Obj) (d n i : Nat) (hn : n < w.heap.size) : (mo w.drew os d).frozen? ⟨n, i, none⟩ = w.frozen? ⟨n, i, none⟩ := frozen_mo w.drew os d n i hn
@[go_sem] theorem setCell_mod (w : World) (os : Array Obj) (d n i : Nat) (v : Value) (hn : n < w.heap.size) : (mo w.drew os d).setCell ⟨n, i, none⟩ v = mo (w.setCell ⟨n, i, none⟩ v).drew os d := setCell_mo w.drew os d n i v hn
theorem okL_mono {xs : List Int} {log : List (Int × Int)} (h : okL xs log = true) (i : Nat) : ∀ d : Nat, i + d < log.length → p1 log i ≤ p1 log ((i + d : Nat) : Int)
  | 0, _ => Int.le_refl _
  | d + 1, hd => by
    have h1 := okL_mono h i d (by omega)
    have h2 := okL_lt h (k := i + d) (by omega)
    rw [show ((i + (d + 1) : Nat) : Int) = ((i + d : Nat) : Int) + 1 by omega]
    omega
theorem okL_le {xs : List Int} {log : List (Int × Int)} (h : okL xs log = true) {i j : Nat} (hi : i ≤ j) (hj : j < log.length) : p1 log i ≤ p1 log j := by
  have := okL_mono h i (j - i) (by omega)
  rwa [show i + (j - i) = j by omega] at this
theorem okL_fine {xs : List Int} {log : List (Int × Int)} (h : okL xs log = true) {fl fh : Int} (hf : okF fl fh = true) {i j : Nat} (hi : i ≤ j) (hj : j < log.length) : Fine xs (p1 log i) (p2 log i) (p1 log j) (p2 log j) fl fh := by
  have h0 := okL_at h (k := i) (by omega)
  have h1 := okL_at h (k := j) hj
  exact ⟨(okL_parts h).1, h0.2, h1.2, h0.1, h1.1, okL_le h hi hj, okF_t hf⟩
/-- whether a count is possible from reading i to reading j -/
def can (xs : List Int) (log : List (Int × Int)) (fl fh : Int) (i j : Nat) : Bool := cOk xs (p1 log i) (p2 log i) (p1 log j) (p2 log j) fl fh
/-- what a cell holds -/
def ce (w : World) (b o : Nat) : Value := (w.cell? ⟨b, o, none⟩).getD undef
theorem ce_of {w : World} {b o : Nat} {v : Value} (h : w.cell? ⟨b, o, none⟩ = some v) : w.cell? ⟨b, o, none⟩ = some (ce w b o) := by
  unfold ce; rw [h]; rfl
theorem cell_sm {wr : World} {r p g i d : Nat} {x v : Value} {os : Array Obj} (h : wr.cell? ⟨g, i, none⟩ = some v) (hl : g < wr.heap.size) (hne : g ≠ r) : (mo (wr.setCell ⟨r, p, none⟩ x).drew os d).cell? ⟨g, i, none⟩ = some v := by
  refine (World.cell?_of_block (w := wr) ?_).trans h
  exact (heap_mo _ _ _ _ (by show g < (wr.setCell _ _).heap.size; simpa using hl)).trans (Below.heap_setCell wr ⟨r, p, none⟩ x g hne)
theorem ce_set {wr : World} {r p d : Nat} {x v : Value} {os : Array Obj} (h : wr.cell? ⟨r, p, none⟩ = some v) (hl : r < wr.heap.size) : (mo (wr.setCell ⟨r, p, none⟩ x).drew os d).cell? ⟨r, p, none⟩ = some (ce (mo (wr.setCell ⟨r, p, none⟩ x).drew os d) r p) := by
  have h1 : (mo (wr.setCell ⟨r, p, none⟩ x).drew os d).cell? ⟨r, p, none⟩ = some x :=
    (cell_mo _ _ _ _ _ (by show r < (wr.setCell _ _).heap.size; simpa using hl)).trans (show (wr.setCell ⟨r, p, none⟩ x).cell? ⟨r, p, none⟩ = some x by simp [go_sem, h])
  exact ce_of h1
theorem fr_set {wr : World} {r p d : Nat} {x : Value} {os : Array Obj} (h : wr.frozen? ⟨r, p, none⟩ = false) (hl : r < wr.heap.size) : (mo (wr.setCell ⟨r, p, none⟩ x).drew os d).frozen? ⟨r, p, none⟩ = false :=
  (frozen_mo _ _ _ _ _ (by show r < (wr.setCell _ _).heap.size; simpa using hl)).trans (show (wr.setCell ⟨r, p, none⟩ x).frozen? ⟨r, p, none⟩ = false by simp [go_sem, h])
/-- The table of a detective, in blocks below B. -/
def Det (W : World) (B : Nat) (A : Option Addr) (n c : Nat) (L : Option Addr) (m cl : Nat) (f : Nat → Nat → Bool) (D : Nat) : Prop :=
  D < B ∧ W.cell? ⟨D, 0, none⟩ = some (.slice A n c) ∧ W.cell? ⟨D, 1, none⟩ = some (.slice L m cl) ∧ ∃ M, M < B ∧ W.cell? ⟨D, 2, none⟩ = some (.slice (some ⟨M, 0, none⟩) m m) ∧
    ∀ i, i < m → ∃ R, R < B ∧ W.cell? ⟨M, i, none⟩ = some (.slice (some ⟨R, 0, none⟩) m m) ∧ ∀ j, i < j → j < m → W.cell? ⟨R, j, none⟩ = some (.bool (f i j))
theorem Det.keep {W W' : World} {B C : Nat} {A : Option Addr} {n c : Nat} {L : Option Addr} {m cl : Nat} {f : Nat → Nat → Bool} {D : Nat} (h : Det W B A n c L m cl f D) (hb : Below C W W') (hC : B ≤ C) : Det W' B A n c L m cl f D := by
  obtain ⟨h0, h1, h2, M, h3, h4, h5⟩ := h
  refine ⟨h0, (hb.cell (p := ⟨D, 0, none⟩) (by show D < C; omega)).trans h1, (hb.cell (p := ⟨D, 1, none⟩) (by show D < C; omega)).trans h2, M, h3, (hb.cell (p := ⟨D, 2, none⟩) (by show D < C; omega)).trans h4, fun i hi => ?_⟩
  obtain ⟨R, h6, h7, h8⟩ := h5 i hi
  exact ⟨R, h6, (hb.cell (p := ⟨M, i, none⟩) (by show M < C; omega)).trans h7, fun j hj hm => (hb.cell (p := ⟨R, j, none⟩) (by show R < C; omega)).trans (h8 j hj hm)⟩
/-- The table's first k rows stand. -/
structure DTo (w wr : World) (g M D : Nat) (A : Option Addr) (n c : Nat) (L : Option Addr) (m cl : Nat) (fl fh : Int) (f : Nat → Nat → Bool) (k : Nat) : Prop where
  bl : Below w.heap.size w wr
  f0 : wr.cell? ⟨g, 0, none⟩ = some (.int .i64 fl)
  f1 : wr.cell? ⟨g, 1, none⟩ = some (.int .i64 fh)
  d0 : wr.cell? ⟨D, 0, none⟩ = some (.slice A n c)
  d1 : wr.cell? ⟨D, 1, none⟩ = some (.slice L m cl)
  d2 : wr.cell? ⟨D, 2, none⟩ = some (.slice (some ⟨M, 0, none⟩) m m)
  rows : ∃ vs, wr.ownsRow w.heap.size 120 1 (.slice (some ⟨M, 0, none⟩) m m) m vs ∧ ∀ i, i < k → ∃ R, w.heap.size ≤ R ∧ R < wr.heap.size ∧ R ≠ M ∧ vs[i]? = some (.slice (some ⟨R, 0, none⟩) m m) ∧ ∀ j, i < j → j < m → wr.cell? ⟨R, j, none⟩ = some (.bool (f i j))
theorem DTo.step {w wr wi : World} {g M D : Nat} {A : Option Addr} {n c : Nat} {L : Option Addr} {m cl : Nat} {fl fh : Int} {f : Nat → Nat → Bool} {k : Nat} (h : DTo w wr g M D A n c L m cl fl fh f k) (hk : k < m) (hM : w.heap.size < M) (hg : g ≠ M) (hD : D ≠ M)
    {vs : List Value} (hv : ∀ i, i < k → ∃ R, w.heap.size ≤ R ∧ R < wr.heap.size ∧ R ≠ M ∧ vs[i]? = some (.slice (some ⟨R, 0, none⟩) m m) ∧ ∀ j, i < j → j < m → wr.cell? ⟨R, j, none⟩ = some (.bool (f i j)))
    (hc : Chg wr wi (fun q => q = M ∨ wr.heap.size ≤ q)) {r : Nat} (hr : wr.heap.size ≤ r ∧ r < wi.heap.size) (hrM : M < wr.heap.size)
    (ho : wi.ownsRow w.heap.size 120 1 (.slice (some ⟨M, 0, none⟩) m m) m (vs.set k (.slice (some ⟨r, 0, none⟩) m m)))
    (hrow : ∀ j, k < j → j < m → wi.cell? ⟨r, j, none⟩ = some (.bool (f k j))) : DTo w wi g M D A n c L m cl fl fh f (k + 1) := by
  have hsz := h.bl.size
  have lg : g < wr.heap.size := block_lt_of_cell h.f0
  have lD : D < wr.heap.size := block_lt_of_cell h.d0
  have ng : ¬ (g = M ∨ wr.heap.size ≤ g) := by omega
  have nD : ¬ (D = M ∨ wr.heap.size ≤ D) := by omega
  refine ⟨hc.below h.bl hsz (fun q hq => by rcases hq with hq | hq <;> omega), hc.cell h.f0 ng, hc.cell h.f1 ng, hc.cell h.d0 nD, hc.cell h.d1 nD, hc.cell h.d2 nD, _, ho, fun i hi => ?_⟩
  by_cases e : i = k
  · subst e
    have hlen : vs.length = m := by have := ho.1; simpa using this
    exact ⟨r, by omega, hr.2, by omega, by rw [List.getElem?_set]; simp [hlen, hk], hrow⟩
  · obtain ⟨R, h1, h2, h3, h4, h5⟩ := hv i (by omega)
    exact ⟨R, h1, Nat.lt_of_lt_of_le h2 hc.size, h3, by rw [List.getElem?_set, if_neg (by omega)]; exact h4, fun j hj hm => hc.cell (h5 j hj hm) (by omega)⟩
theorem own_litR (w : World) (b : Nat) (hb : b ≤ w.heap.size) (e : TypeId) (sz : Nat) (cs : Array Value) (n : Nat) (hm : n ≤ maxLen) (hs : cs.size = n * sz) (g : Nat) (hg : g = w.heap.size) : (w.alloc (.cells cs e)).ownsRow b e sz (.slice (some ⟨g, 0, none⟩) n n) n cs.toList := by
  subst hg
  exact World.ownsRow_lit w cs n hb hm hs
theorem infoB : (Try.prog.info? 4).map (fun i => (i.zero, i.size, i.bytes)) = some (some (.bool false), 1, 1) := by kernel_rfl
theorem infoBB : (Try.prog.info? 120).map (fun i => (i.zero, i.size, i.bytes)) = some (some (.slice none 0 0), 1, 24) := by kernel_rfl
theorem undB : Try.prog.underlying 120 = some (.slice 4) := by kernel_rfl
theorem undBB : Try.prog.underlying 121 = some (.slice 120) := by kernel_rfl
/-- The call hands back a detective in new memory, or none. -/
def RetD (ok : Bool) (A : Option Addr) (n c : Nat) (L : Option Addr) (m cl : Nat) (f : Nat → Nat → Bool) (w : World) (e : Ending) (w' : World) : Prop :=
  Below w.heap.size w w' ∧ ((ok = false ∧ e = .returned (.pointer none)) ∨ ∃ D, ok = true ∧ e = .returned (.pointer (some ⟨D, 0, none⟩)) ∧ w.heap.size ≤ D ∧ Det w' w'.heap.size A n c L m cl f D)
set_option maxHeartbeats 4000000 in
theorem detective_any {A : Option Addr} {xs : List Int} {W : World} {B : Nat} (hs : Nums .u8 W B A xs) (h8 : b8 xs) (n c : Nat) (hn : xs.length = n) (w : World) (hb : Below B W w) {L : Option Addr} {log : List (Int × Int)} {V : World} {C : Nat} (hl : Prs .i64 .i64 V C L log) (cl : Nat) (hv : Below C V w) (fl fh : Int) : Calls Try.prog 91 #[.slice A n c, .slice L log.length cl, .agg #[.int .i64 fl, .int .i64 fh]] w (RetD (okL xs log && okF fl fh) A n c L log.length cl (can xs log fl fh) w) := by
  obtain rfl := hn
  have hB := hs.bsz hb
  have hC := hl.bsz hv
  have hll := hl.len
  cases h1 : okL xs log
  · go_enter Try.func91, Try.ntmps91
    (go_wp2_with fail; refine (ValidLog_any hs h8 _ _ rfl _ (by repeat' (first | (with_reducible first | assumption | exact Below.refl _ _ | refine Below.drew ?_ | refine Below.alloc ?_ ?_ _ | refine Below.setCell ?_ ?_ _ | refine below_setR ?_ ?_ _ | refine below_dn ?_ _ | refine Below.trans ?_ (below_mo _ _ _ ?_) | refine Below.trans ?_ (below_mq _ _ ?_) | exact Nat.le_refl _) | (simp; done) | (simp; omega) | omega)) hl _ (by repeat' (first | (with_reducible first | assumption | exact Below.refl _ _ | refine Below.drew ?_ | refine Below.alloc ?_ ?_ _ | refine Below.setCell ?_ ?_ _ | refine below_setR ?_ ?_ _ | refine below_dn ?_ _ | refine Below.trans ?_ (below_mo _ _ _ ?_) | refine Below.trans ?_ (below_mq _ _ ?_) | exact Nat.le_refl _) | (simp; done) | (simp; omega) | omega))).mono ?_; rintro e w' ⟨rfl, hb_⟩; obtain ⟨os0, d0, rfl⟩ := mo_of hb_; clear hb_)
    rw [h1]
    go_wp2
    go_ret
    exact ⟨(by repeat' (first | (with_reducible first | assumption | exact Below.refl _ _ | refine Below.drew ?_ | refine Below.alloc ?_ ?_ _ | refine Below.setCell ?_ ?_ _ | refine below_setR ?_ ?_ _ | refine below_dn ?_ _ | refine Below.trans ?_ (below_mo _ _ _ ?_) | refine Below.trans ?_ (below_mq _ _ ?_) | exact Nat.le_refl _) | (simp; done) | (simp; omega) | omega)), .inl ⟨rfl, rfl⟩⟩
  cases h2 : okF fl fh
  · have HK := Lib.hid h1
    clear h1
    go_enter Try.func91, Try.ntmps91
    (go_wp2_with fail; refine (ValidLog_any hs h8 _ _ rfl _ (by repeat' (first | (with_reducible first | assumption | exact Below.refl _ _ | refine Below.drew ?_ | refine Below.alloc ?_ ?_ _ | refine Below.setCell ?_ ?_ _ | refine below_setR ?_ ?_ _ | refine below_dn ?_ _ | refine Below.trans ?_ (below_mo _ _ _ ?_) | refine Below.trans ?_ (below_mq _ _ ?_) | exact Nat.le_refl _) | (simp; done) | (simp; omega) | omega)) hl _ (by repeat' (first | (with_reducible first | assumption | exact Below.refl _ _ | refine Below.drew ?_ | refine Below.alloc ?_ ?_ _ | refine Below.setCell ?_ ?_ _ | refine below_setR ?_ ?_ _ | refine below_dn ?_ _ | refine Below.trans ?_ (below_mo _ _ _ ?_) | refine Below.trans ?_ (below_mq _ _ ?_) | exact Nat.le_refl _) | (simp; done) | (simp; omega) | omega))).mono ?_; rintro e w' ⟨rfl, hb_⟩; obtain ⟨os0, d0, rfl⟩ := mo_of hb_; clear hb_)
    rw [HK.out]
    go_wp2_with (go_at_call 167; refine (ValidFlow_any _ _ _).mono ?_; rintro e w' ⟨rfl, hb_⟩; obtain ⟨os_, d_, rfl⟩ := mo_of hb_; clear hb_)
    go_ret
    exact ⟨(by repeat' (first | (with_reducible first | assumption | exact Below.refl _ _ | refine Below.drew ?_ | refine Below.alloc ?_ ?_ _ | refine Below.setCell ?_ ?_ _ | refine below_setR ?_ ?_ _ | refine below_dn ?_ _ | refine Below.trans ?_ (below_mo _ _ _ ?_) | refine Below.trans ?_ (below_mq _ _ ?_) | exact Nat.le_refl _) | (simp; done) | (simp; omega) | omega)), .inl ⟨rfl, rfl⟩⟩
  · have HK := Lib.hid h1
    have HF := Lib.hid h2
    have h40 := (okL_parts h1).2.1
    obtain ⟨i0, hi, hz0, hz1, hz2⟩ := info_parts infoB
    have hmkB : ∀ W : World, (Instr.makeSlice 120 (.int .i64 (log.length : Int)) (.int .i64 (log.length : Int))).run Try.prog W = .ok (.slice (some ⟨W.heap.size, 0, none⟩) log.length log.length) (W.alloc (.cells (madeCells #[.bool false] (log.length * 1)) 4)) := fun W => by
      have := run_make (P := Try.prog) W 120 4 i0 _ undB hi hz0 .i64 .i64 log.length log.length (by omega) (by omega) (by rw [hz2]; omega) (by omega)
      rw [hz1, Int.toNat_natCast] at this
      exact this
    clear hi hz0 hz1 hz2 i0
    obtain ⟨i0, hi, hz0, hz1, hz2⟩ := info_parts infoBB
    have hmkBB : ∀ W : World, (Instr.makeSlice 121 (.int .i64 (log.length : Int)) (.int .i64 (log.length : Int))).run Try.prog W = .ok (.slice (some ⟨W.heap.size, 0, none⟩) log.length log.length) (W.alloc (.cells (madeCells #[.slice none 0 0] (log.length * 1)) 120)) := fun W => by
      have := run_make (P := Try.prog) W 121 120 i0 _ undBB hi hz0 .i64 .i64 log.length log.length (by omega) (by omega) (by rw [hz2]; omega) (by omega)
      rw [hz1, Int.toNat_natCast] at this
      exact this
    clear hi hz0 hz1 hz2 i0
    clear h1 h2
    go_enter Try.func91, Try.ntmps91
    (go_wp2_with fail; refine (ValidLog_any hs h8 _ _ rfl _ (by repeat' (first | (with_reducible first | assumption | exact Below.refl _ _ | refine Below.drew ?_ | refine Below.alloc ?_ ?_ _ | refine Below.setCell ?_ ?_ _ | refine below_setR ?_ ?_ _ | refine below_dn ?_ _ | refine Below.trans ?_ (below_mo _ _ _ ?_) | refine Below.trans ?_ (below_mq _ _ ?_) | exact Nat.le_refl _) | (simp; done) | (simp; omega) | omega)) hl _ (by repeat' (first | (with_reducible first | assumption | exact Below.refl _ _ | refine Below.drew ?_ | refine Below.alloc ?_ ?_ _ | refine Below.setCell ?_ ?_ _ | refine below_setR ?_ ?_ _ | refine below_dn ?_ _ | refine Below.trans ?_ (below_mo _ _ _ ?_) | refine Below.trans ?_ (below_mq _ _ ?_) | exact Nat.le_refl _) | (simp; done) | (simp; omega) | omega))).mono ?_; rintro e w' ⟨rfl, hb_⟩; obtain ⟨os0, d0, rfl⟩ := mo_of hb_; clear hb_)
    rw [HK.out]
    go_wp2_with fail
    refine (ValidFlow_any fl fh _).mono ?_
    rintro e w' ⟨rfl, hb_⟩
    obtain ⟨os1, d1, rfl⟩ := mo_of hb_
    clear hb_
    rw [HF.out]
    go_wp2
    refine wp_at (fun u => DTo w u w.heap.size (w.heap.size + 1 + os0.size + os1.size) (w.heap.size + 1 + os0.size + os1.size + 1) A xs.length c L log.length cl fl fh (can xs log fl fh) 0) _ ⟨(by repeat' (first | (with_reducible first | assumption | exact Below.refl _ _ | refine Below.drew ?_ | refine Below.alloc ?_ ?_ _ | refine Below.setCell ?_ ?_ _ | refine below_setR ?_ ?_ _ | refine below_dn ?_ _ | refine Below.trans ?_ (below_mo _ _ _ ?_) | refine Below.trans ?_ (below_mq _ _ ?_) | exact Nat.le_refl _) | (simp; done) | (simp; omega) | omega)), (by first | assumption | (simp [go_sem]; done) | (simp [go_sem, *]; done) | (simp [go_sem]; rfl)), (by first | assumption | (simp [go_sem]; done) | (simp [go_sem, *]; done) | (simp [go_sem]; rfl)), (by first | assumption | (simp [go_sem]; done) | (simp [go_sem, *]; done) | (simp [go_sem]; rfl)), (by first | assumption | (simp [go_sem]; done) | (simp [go_sem, *]; done) | (simp [go_sem]; rfl)), (by first | assumption | (simp [go_sem]; done) | (simp [go_sem, *]; done) | (simp [go_sem]; rfl)), _, (own_litR _ _ (by simp; omega) _ 1 (madeCells #[.slice none 0 0] log.length) log.length (by unfold maxLen; omega) (by rw [size_madeCells, Nat.mul_one]) _ (by simp)).alloc _, fun i hi => absurd hi (by omega)⟩ ?_
    intro u hd0
    have lM : w.heap.size < w.heap.size + 1 + os0.size + os1.size := by omega
    generalize w.heap.size + 1 + os0.size + os1.size = M at lM hd0 ⊢
    clear hmkBB
    go_loopw [28] (fun i wr => ∃ k : Nat, k ≤ log.length ∧ i = .int .i64 (k : Int) ∧ DTo w wr w.heap.size M (M + 1) A xs.length c L log.length cl fl fh (can xs log fl fh) k) (fun i _ => log.length - (intOf i).toNat)
    case atStart => exact ⟨0, Nat.zero_le _, rfl, hd0⟩
    case round =>
      obtain ⟨k, hk, rfl, hd⟩ := hrel
      obtain ⟨wo, hwo⟩ : ∃ wo, wo = wr := ⟨_, rfl⟩
      subst hwo
      obtain ⟨vs, hown, hrows⟩ := hd.rows
      by_cases hlt : k < log.length
      · have lD : M + 1 < wo.heap.size := block_lt_of_cell hd.d0
        have hsz := hd.bl.size
        have d2 := hd.d2
        have lMr := (hown.lt M rfl).2
        have hlen : vs.length = log.length := by have := hown.1; simpa using this
        obtain ⟨u0, hu0⟩ : ∃ u, vs[k]? = some u := ⟨_, List.getElem?_eq_getElem (by omega)⟩
        have cM : wo.cell? ⟨M, k, none⟩ = some u0 := (hown.cellAt k (by omega)).trans hu0
        have fM := hown.frozenAt k
        have g0 : (0 : Int) ≤ (k : Int) := by omega
        have g1 : (k : Int) < (log.length : Int) := by omega
        have HD := Lib.hid hd
        have HO := Lib.hid hown
        have HR := Lib.hid hrows
        clear hd hown hrows
        go_wp2
        go_region_with (fail)
        all_goals go_wp2
        all_goals
          have hst := HO.out.stored k (.slice (some ⟨wo.heap.size, 0, none⟩) log.length log.length)
          have hown := hst.1.alloc (.cells (madeCells #[.bool false] log.length) 4)
          have hro := own_litR (wo.setCell ⟨M, k, none⟩ (.slice (some ⟨wo.heap.size, 0, none⟩) log.length log.length)) w.heap.size (by first | (simp; done) | (simp; omega)) 4 1 (madeCells #[.bool false] log.length) log.length (by unfold maxLen; omega) (by rw [size_madeCells, Nat.mul_one]) wo.heap.size (by simp)
          have hch0 : Chg wo _ (fun q => q = M ∨ wo.heap.size ≤ q) := ((Chg.of_grown hst.2 (fun q e => .inl (by injection e with e; exact e.symm))).trans (Chg.of_alloc _ (.cells (madeCells #[.bool false] log.length) 4) _)).trans (Chg.of_below (Below.drew (Below.refl _ _)) _)
          have HS0 := Lib.hid (And.intro hown (And.intro hro hch0))
          clear hown hst hro hch0
          go_loopw [9] (fun jv wr => ∃ (p : Nat) (rs : List Value), k + 1 ≤ p ∧ p ≤ log.length ∧ jv = .int .i64 (p : Int) ∧ Chg wo wr (fun q => q = M ∨ wo.heap.size ≤ q) ∧ wr.ownsRow w.heap.size 120 1 (.slice (some ⟨M, 0, none⟩) log.length log.length) log.length (vs.set k (.slice (some ⟨wo.heap.size, 0, none⟩) log.length log.length)) ∧ wr.ownsRow w.heap.size 4 1 (.slice (some ⟨wo.heap.size, 0, none⟩) log.length log.length) log.length rs ∧ ∀ j, k < j → j < p → rs[j]? = some (.bool (can xs log fl fh k j))) (fun jv _ => log.length - (intOf jv).toNat)
          case atStart => exact ⟨k + 1, _, Nat.le_refl _, hlt, by go_num, HS0.out.2.2, HS0.out.1, HS0.out.2.1, fun j h1 h2 => absurd h1 (by omega)⟩
          case round =>
            obtain ⟨p, rs, hp1, hp2, rfl, hch, hoM, hoR, hrs⟩ := hrel
            have lRw := (hoR.lt _ rfl).2
            by_cases hlt2 : p < log.length
            · have hbi : Below w.heap.size w wr := hch.below HD.out.bl hsz (fun q hq => by rcases hq with hq | hq <;> omega)
              have hb_i := hs.nb hb hbi
              have lg : w.heap.size < wo.heap.size := block_lt_of_cell HD.out.f0
              have kD2 := hch.cell HD.out.d2 (by omega)
              have kf0 := hch.cell HD.out.f0 (by omega)
              have kf1 := hch.cell HD.out.f1 (by omega)
              have kM : wr.cell? ⟨M, k, none⟩ = some (.slice (some ⟨wo.heap.size, 0, none⟩) log.length log.length) := (hoM.cellAt k (by omega)).trans (by rw [List.getElem?_set]; simp [hlen, hlt])
              have hrl : rs.length = log.length := by have := hoR.1; simpa using this
              obtain ⟨v0, hv0⟩ : ∃ u, rs[p]? = some u := ⟨_, List.getElem?_eq_getElem (by omega)⟩
              have kR : wr.cell? ⟨wo.heap.size, p, none⟩ = some v0 := (hoR.cellAt p (by omega)).trans hv0
              have fR := hoR.frozenAt p
              have lMi := (hoM.lt _ rfl).2
              have lDi : M + 1 < wr.heap.size := block_lt_of_cell kD2
              have lgi : w.heap.size < wr.heap.size := block_lt_of_cell kf0
              obtain ⟨b, off, rfl, hbs, hc0_, hc1_⟩ := hl.at hv hlt
              obtain ⟨b', off', he, _, hd0_, hd1_⟩ := hl.at hv hlt2
              obtain ⟨rfl, rfl⟩ := addr_same he
              clear he
              have hc0 := (hbi.cell (p := ⟨b, off + k * 2, none⟩) hbs).trans hc0_
              have hc1 := (hbi.cell (p := ⟨b, off + k * 2 + 1, none⟩) hbs).trans hc1_
              have hd0' := (hbi.cell (p := ⟨b, off + p * 2, none⟩) hbs).trans hd0_
              have hd1 := (hbi.cell (p := ⟨b, off + p * 2 + 1, none⟩) hbs).trans hd1_
              have hbr : b < wr.heap.size := Nat.lt_of_lt_of_le hbs hbi.size
              clear hc0_ hc1_ hd0_ hd1_
              have HFi := Lib.hid (okL_fine HK.out HF.out (show k ≤ p by omega) hlt2)
              have HC : Hid (can xs log fl fh k p = cOk xs (p1 log k) (p2 log k) (p1 log p) (p2 log p) fl fh) := rfl
              have g2 : (0 : Int) ≤ (p : Int) := by omega
              have g3 : (p : Int) < (log.length : Int) := by omega
              have HX := Lib.hid (And.intro hch (And.intro hoM (And.intro hoR hrs)))
              clear hch hoM hoR hrs
              have HS_0 : Hid (wr.drew.cell? ⟨M + 1, 2, none⟩ = some (.slice (some ⟨M, 0, none⟩) log.length log.length) ∧ wr.drew.cell? ⟨M, k, none⟩ = some (.slice (some ⟨wo.heap.size, 0, none⟩) log.length log.length) ∧ wr.drew.cell? ⟨w.heap.size, 0, none⟩ = some (.int .i64 fl) ∧ wr.drew.cell? ⟨w.heap.size, 1, none⟩ = some (.int .i64 fh) ∧ wr.drew.cell? ⟨b, off + k * 2, none⟩ = some (.int .i64 (p1 log k)) ∧ wr.drew.cell? ⟨b, off + k * 2 + 1, none⟩ = some (.int .i64 (p2 log k)) ∧ wr.drew.cell? ⟨b, off + p * 2, none⟩ = some (.int .i64 (p1 log p)) ∧ wr.drew.cell? ⟨b, off + p * 2 + 1, none⟩ = some (.int .i64 (p2 log p)) ∧ wr.drew.cell? ⟨wo.heap.size, p, none⟩ = some (ce wr.drew wo.heap.size p) ∧ wr.drew.frozen? ⟨wo.heap.size, p, none⟩ = false) := ⟨kD2, kM, kf0, kf1, hc0, hc1, hd0', hd1, ce_of kR, fR⟩
              have HS_1 : Hid (∀ (os : Array Obj) (d : Nat), (mo wr.drew os d).cell? ⟨M + 1, 2, none⟩ = some (.slice (some ⟨M, 0, none⟩) log.length log.length) ∧ (mo wr.drew os d).cell? ⟨M, k, none⟩ = some (.slice (some ⟨wo.heap.size, 0, none⟩) log.length log.length) ∧ (mo wr.drew os d).cell? ⟨w.heap.size, 0, none⟩ = some (.int .i64 fl) ∧ (mo wr.drew os d).cell? ⟨w.heap.size, 1, none⟩ = some (.int .i64 fh) ∧ (mo wr.drew os d).cell? ⟨b, off + k * 2, none⟩ = some (.int .i64 (p1 log k)) ∧ (mo wr.drew os d).cell? ⟨b, off + k * 2 + 1, none⟩ = some (.int .i64 (p2 log k)) ∧ (mo wr.drew os d).cell? ⟨b, off + p * 2, none⟩ = some (.int .i64 (p1 log p)) ∧ (mo wr.drew os d).cell? ⟨b, off + p * 2 + 1, none⟩ = some (.int .i64 (p2 log p)) ∧ (mo wr.drew os d).cell? ⟨wo.heap.size, p, none⟩ = some (ce (mo wr.drew os d) wo.heap.size p) ∧ (mo wr.drew os d).frozen? ⟨wo.heap.size, p, none⟩ = false) := fun os d => ⟨(cell_mo wr.drew _ _ _ _ lDi).trans kD2, (cell_mo wr.drew _ _ _ _ lMi).trans kM, (cell_mo wr.drew _ _ _ _ lgi).trans kf0, (cell_mo wr.drew _ _ _ _ lgi).trans kf1, (cell_mo wr.drew _ _ _ _ hbr).trans hc0, (cell_mo wr.drew _ _ _ _ hbr).trans hc1, (cell_mo wr.drew _ _ _ _ hbr).trans hd0', (cell_mo wr.drew _ _ _ _ hbr).trans hd1, ce_of ((cell_mo wr.drew _ _ _ _ lRw).trans kR), (frozen_mo wr.drew _ _ _ _ lRw).trans fR⟩
              have HS_2 : Hid (∀ (os : Array Obj) (d : Nat), (mo (wr.setCell ⟨wo.heap.size, p, none⟩ (.bool (cOk xs (p1 log k) (p2 log k) (p1 log p) (p2 log p) fl fh))).drew os d).cell? ⟨M + 1, 2, none⟩ = some (.slice (some ⟨M, 0, none⟩) log.length log.length) ∧ (mo (wr.setCell ⟨wo.heap.size, p, none⟩ (.bool (cOk xs (p1 log k) (p2 log k) (p1 log p) (p2 log p) fl fh))).drew os d).cell? ⟨M, k, none⟩ = some (.slice (some ⟨wo.heap.size, 0, none⟩) log.length log.length) ∧ (mo (wr.setCell ⟨wo.heap.size, p, none⟩ (.bool (cOk xs (p1 log k) (p2 log k) (p1 log p) (p2 log p) fl fh))).drew os d).cell? ⟨w.heap.size, 0, none⟩ = some (.int .i64 fl) ∧ (mo (wr.setCell ⟨wo.heap.size, p, none⟩ (.bool (cOk xs (p1 log k) (p2 log k) (p1 log p) (p2 log p) fl fh))).drew os d).cell? ⟨w.heap.size, 1, none⟩ = some (.int .i64 fh) ∧ (mo (wr.setCell ⟨wo.heap.size, p, none⟩ (.bool (cOk xs (p1 log k) (p2 log k) (p1 log p) (p2 log p) fl fh))).drew os d).cell? ⟨b, off + k * 2, none⟩ = some (.int .i64 (p1 log k)) ∧ (mo (wr.setCell ⟨wo.heap.size, p, none⟩ (.bool (cOk xs (p1 log k) (p2 log k) (p1 log p) (p2 log p) fl fh))).drew os d).cell? ⟨b, off + k * 2 + 1, none⟩ = some (.int .i64 (p2 log k)) ∧ (mo (wr.setCell ⟨wo.heap.size, p, none⟩ (.bool (cOk xs (p1 log k) (p2 log k) (p1 log p) (p2 log p) fl fh))).drew os d).cell? ⟨b, off + p * 2, none⟩ = some (.int .i64 (p1 log p)) ∧ (mo (wr.setCell ⟨wo.heap.size, p, none⟩ (.bool (cOk xs (p1 log k) (p2 log k) (p1 log p) (p2 log p) fl fh))).drew os d).cell? ⟨b, off + p * 2 + 1, none⟩ = some (.int .i64 (p2 log p)) ∧ (mo (wr.setCell ⟨wo.heap.size, p, none⟩ (.bool (cOk xs (p1 log k) (p2 log k) (p1 log p) (p2 log p) fl fh))).drew os d).cell? ⟨wo.heap.size, p, none⟩ = some (ce (mo (wr.setCell ⟨wo.heap.size, p, none⟩ (.bool (cOk xs (p1 log k) (p2 log k) (p1 log p) (p2 log p) fl fh))).drew os d) wo.heap.size p) ∧ (mo (wr.setCell ⟨wo.heap.size, p, none⟩ (.bool (cOk xs (p1 log k) (p2 log k) (p1 log p) (p2 log p) fl fh))).drew os d).frozen? ⟨wo.heap.size, p, none⟩ = false) := fun os d => ⟨cell_sm kD2 lDi (by omega), cell_sm kM lMi (by omega), cell_sm kf0 lgi (by omega), cell_sm kf1 lgi (by omega), cell_sm hc0 hbr (by omega), cell_sm hc1 hbr (by omega), cell_sm hd0' hbr (by omega), cell_sm hd1 hbr (by omega), ce_set kR lRw, fr_set fR lRw⟩
              clear kD2 kM kf0 kf1 hc0 hc1 hd0' hd1 kR fR
              go_wp2
              go_region_held3 (fun w' => w'.cell? ⟨M + 1, 2, none⟩ = some (.slice (some ⟨M, 0, none⟩) log.length log.length) ∧ w'.cell? ⟨M, k, none⟩ = some (.slice (some ⟨wo.heap.size, 0, none⟩) log.length log.length) ∧ w'.cell? ⟨w.heap.size, 0, none⟩ = some (.int .i64 fl) ∧ w'.cell? ⟨w.heap.size, 1, none⟩ = some (.int .i64 fh) ∧ w'.cell? ⟨b, off + k * 2, none⟩ = some (.int .i64 (p1 log k)) ∧ w'.cell? ⟨b, off + k * 2 + 1, none⟩ = some (.int .i64 (p2 log k)) ∧ w'.cell? ⟨b, off + p * 2, none⟩ = some (.int .i64 (p1 log p)) ∧ w'.cell? ⟨b, off + p * 2 + 1, none⟩ = some (.int .i64 (p2 log p)) ∧ w'.cell? ⟨wo.heap.size, p, none⟩ = some (ce w' wo.heap.size p) ∧ w'.frozen? ⟨wo.heap.size, p, none⟩ = false) (first | exact HS_0.out | exact HS_1.out _ _ | exact HS_2.out _ _) (first | (go_at_call 83; (with_reducible refine (counts_any hs h8 _ _ rfl _ (by repeat' (first | (with_reducible first | assumption | exact Below.refl _ _ | refine Below.drew ?_ | refine Below.alloc ?_ ?_ _ | refine Below.setCell ?_ ?_ _ | refine below_setR ?_ ?_ _ | refine below_dn ?_ _ | refine Below.trans ?_ (below_mo _ _ _ ?_) | refine Below.trans ?_ (below_mq _ _ ?_) | exact Nat.le_refl _) | (simp; done) | (simp; omega) | omega)) _ _ _ _ _ _ HFi.out).mono ?_); rintro e w' ⟨rfl, hb_⟩; obtain ⟨os_, d_, rfl⟩ := mo_of hb_; clear hb_))
              all_goals go_wp2
              all_goals
                obtain ⟨hch, hoM, hoR, hrs⟩ := HX.out
                have nMR : (Value.slice (some ⟨M, 0, none⟩) log.length log.length).ownBlock ≠ some wo.heap.size := by
                  intro h
                  simp only [Value.ownBlock, Option.some.injEq] at h
                  omega
                have hst := hoR.stored p (.bool (can xs log fl fh k p))
                have hM2 := hoM.kept hst.2 (.inr nMR)
                have hcs : Chg wr _ (fun q => q = M ∨ wo.heap.size ≤ q) := ((Chg.of_grown hst.2 (fun q e => .inr (by injection e with e; omega))).trans (Chg.of_below (Below.drew (Below.refl _ _)) _)).trans (Chg.of_below (below_mo _ os_ d_ (Nat.le_refl _)) _)
                exact ⟨⟨p + 1, _, by omega, by omega, by go_num, hch.trans hcs, own_moR (w := (wr.setCell ⟨wo.heap.size, p, none⟩ (.bool (can xs log fl fh k p))).drew) hM2 os_ d_, own_moR (w := (wr.setCell ⟨wo.heap.size, p, none⟩ (.bool (can xs log fl fh k p))).drew) hst.1 os_ d_, fun j h1 h2 => by
                  rw [List.getElem?_set]
                  by_cases e : p = j
                  · subst e; simp [hrl, hlt2]
                  · rw [if_neg e]; exact hrs j h1 (by omega)⟩, by simp [intOf]; omega⟩
            · obtain rfl : p = log.length := by omega
              have hdn := HD.out.step hlt lM (by omega) (by omega) HR.out hch ⟨Nat.le_refl _, lRw⟩ lMr hoM (fun j h1 h2 => (hoR.cellAt j (by omega)).trans (hrs j h1 h2))
              clear hch hoM hoR hrs
              go_wp2
              exact ⟨⟨k + 1, hlt, by go_num, hdn⟩, by simp [intOf]; omega⟩
      · obtain rfl : k = log.length := by omega
        have lD : M + 1 < wo.heap.size := block_lt_of_cell hd.d0
        have lMr := (hown.lt M rfl).2
        have hdet : Det wo wo.heap.size A xs.length c L log.length cl (can xs log fl fh) (M + 1) := ⟨lD, hd.d0, hd.d1, M, lMr, hd.d2, fun i hi => by
          obtain ⟨R, h1, h2, h3, h4, h5⟩ := hrows i hi
          exact ⟨R, h2, (hown.cellAt i (by omega)).trans h4, h5⟩⟩
        have hbl := hd.bl
        clear hd hown hrows
        go_wp2
        go_ret
        exact ⟨hbl, .inr ⟨M + 1, rfl, rfl, by omega, hdet⟩⟩
end Go.Proofs.Ytkphbagckbbalaa.X
