/- The logs that the laws draw. Conditions: none. -/
import Derived.Test.YtkphbagckbbalaaKLogR
import Derived.Deep.CutBlock
import Derived.Deep.AppendLies
namespace Go.Proofs.Ytkphbagckbbalaa.X
open Go.RowKit
set_option linter.unusedVariables false
set_option linter.unusedSimpArgs false
set_option maxRecDepth 100000
theorem keepG {wr w3 : World} {o o' : Obj} {row : Option Nat} {g : Nat} (h : wr.heap[g]? = some o') (hg : (wr.alloc o).grownBy w3 row) (hne : some g ≠ row) : w3.heap[g]? = some o' := by
  have hl := (Array.getElem?_eq_some_iff.1 h).1
  exact (hg.block g (by rw [World.size_alloc]; exact Nat.lt_succ_of_lt hl) hne).trans (heap_alloc_past h)
theorem own_lit2 (w : World) (b : Nat) (hb : b ≤ w.heap.size) (e : TypeId) : (w.alloc (.cells #[] e)).ownsRow b e 2 (.slice (some ⟨w.heap.size, 0, none⟩) 0 0) 0 [] :=
  ⟨rfl, .inr ⟨_, 0, #[], rfl, hb, heap_alloc_new w _, Nat.le_refl _, by decide, rfl, rfl⟩⟩
theorem cell_two_newL (w : World) (x y : Value) (t : TypeId) : ∀ j u, [x, y][j]? = some u → (w.alloc (.cells #[x, y] t)).cell? ((⟨w.heap.size, 0, none⟩ : Addr).add j) = some u := by
  intro j u hj
  match j, hj with
  | 0, hj =>
    simp at hj
    subst hj
    simp [Addr.add, go_sem]
  | 1, hj =>
    simp at hj
    subst hj
    simp [Addr.add, go_sem]
theorem infoRd : (Try.prog.info? 38).map (fun i => (i.zero, i.size, i.bytes)) = some (some (.agg #[.int .i64 0, .int .i64 0]), 2, 16) := by kernel_rfl
theorem undRd : Try.prog.underlying 25 = some (.slice 38) := by kernel_rfl
theorem twoR {w : World} {g : Nat} {a b : Value} {T : TypeId} (h : w.heap[g]? = some (.cells #[a, b] T)) : g < w.heap.size ∧ w.cell? ⟨g, 0, none⟩ = some a ∧ w.cell? ⟨g, 1, none⟩ = some b ∧ w.frozen? ⟨g, 0, none⟩ = false ∧ w.frozen? ⟨g, 1, none⟩ = false :=
  ⟨(Array.getElem?_eq_some_iff.1 h).1, (cell_of_row w g 0 _ T (0, 0) h).trans rfl, (cell_of_row w g 1 _ T (0, 0) h).trans rfl, frozen_of_row w g 0 _ T h, frozen_of_row w g 1 _ T h⟩
/-- the rows at hand while a log is drawn: the stream, the flow, the stack -/
structure FRows (u : World) (g b3 bl : Nat) (A : Option Addr) (n c b : Nat) (ys : List Int) (lo hi : Int) : Prop where
  src : SrcB u g A n c b
  flw : u.heap[b3]? = some (.cells #[.int .i64 lo, .int .i64 hi] 27)
  stk : u.heap[bl]? = some (.cells (ys.map (Value.int .u8)).toArray 5)
theorem FRows.chg {u v : World} {g b3 bl : Nat} {A : Option Addr} {n c b b' : Nat} {ys : List Int} {lo hi : Int} (h : FRows u g b3 bl A n c b ys lo hi) (hc : Chg u v (fun k => k = g)) (hs : SrcB v g A n c b') (h3 : b3 ≠ g) (hl : bl ≠ g) : FRows v g b3 bl A n c b' ys lo hi :=
  ⟨hs, (hc.block _ (Array.getElem?_eq_some_iff.1 h.flw).1 h3).trans h.flw, (hc.block _ (Array.getElem?_eq_some_iff.1 h.stk).1 hl).trans h.stk⟩
theorem FRows.al {u : World} {g b3 bl : Nat} {A : Option Addr} {n c b : Nat} {ys : List Int} {lo hi : Int} (h : FRows u g b3 bl A n c b ys lo hi) (o : Obj) : FRows (u.alloc o) g b3 bl A n c b ys lo hi := by
  obtain ⟨⟨i, hi, v, a0⟩, a1, a2⟩ := h
  exact ⟨⟨i, hi, v, heap_alloc_past a0⟩, heap_alloc_past a1, heap_alloc_past a2⟩
theorem FRows.set {u : World} {g b3 bl : Nat} {A : Option Addr} {n c b : Nat} {ys : List Int} {lo hi : Int} (h : FRows u g b3 bl A n c b ys lo hi) {k : Nat} (i : Nat) (v : Value) (h1 : g ≠ k) (h2 : b3 ≠ k) (h3 : bl ≠ k) : FRows (u.setCell ⟨k, i, none⟩ v) g b3 bl A n c b ys lo hi := by
  obtain ⟨⟨j, hj, x, a0⟩, a1, a2⟩ := h
  exact ⟨⟨j, hj, x, (Below.heap_setCell u ⟨k, i, none⟩ v g h1).trans a0⟩, (Below.heap_setCell u ⟨k, i, none⟩ v b3 h2).trans a1, (Below.heap_setCell u ⟨k, i, none⟩ v bl h3).trans a2⟩
theorem FRows.up {u : World} {g b3 bl : Nat} {A : Option Addr} {n c b b' : Nat} {ys : List Int} {lo hi : Int} (h : FRows u g b3 bl A n c b ys lo hi) (hb : b ≤ b') : FRows u g b3 bl A n c b' ys lo hi := ⟨h.src.up hb, h.flw, h.stk⟩
theorem FRows.grow {u v : World} {o : Obj} {g b3 bl : Nat} {A : Option Addr} {n c b : Nat} {ys : List Int} {lo hi : Int} (h : FRows u g b3 bl A n c b ys lo hi) {B : Nat} {sz : Nat} {x : Value} {m : Nat} {zs : List Value} (ho : u.ownsRow B 38 sz x m zs) (hg : (u.alloc o).grownBy v x.ownBlock) : FRows v g b3 bl A n c b ys lo hi := by
  obtain ⟨⟨j, hj, y, a0⟩, a1, a2⟩ := h
  exact ⟨⟨j, hj, y, keepG a0 hg (own_neS ho a0 (by decide))⟩, keepG a1 hg (own_neS ho a1 (by decide)), keepG a2 hg (own_neS ho a2 (by decide))⟩
/-- which blocks may be written: the stream's and new ones -/
def RR (w : World) (g : Nat) : Nat → Prop := fun k => k = g ∨ w.heap.size ≤ k
theorem Chg.al {x y : World} {R : Nat → Prop} (h : Chg x y R) (o : Obj) : Chg x (y.alloc o) R := h.trans (Chg.of_alloc y o R)
theorem Chg.setN {w x : World} {g k i : Nat} {v : Value} (h : Chg w x (RR w g)) (hk : w.heap.size ≤ k) : Chg w (x.setCell ⟨k, i, none⟩ v) (RR w g) := Chg.set h (.inr hk)
theorem Chg.imp {x y : World} {R S : Nat → Prop} (h : Chg x y R) (hi : ∀ k, R k → S k) : Chg x y S := ⟨h.os, h.tape, h.output, h.size, fun k hk hn => h.block k hk (fun e => hn (hi k e))⟩
def BG (g : Nat) (w u : World) : Prop := Below g w u ∧ Chg w u (RR w g)
theorem BG.b {g : Nat} {w u : World} (h : BG g w u) : Below g w u := h.1
theorem BG.c {g : Nat} {w u : World} (h : BG g w u) : Chg w u (RR w g) := h.2
theorem BG.pick {g : Nat} {w x y : World} (h : BG g w x) (hc : Chg x y (fun k => k = g)) (hg : g ≤ x.heap.size) : BG g w y :=
  ⟨hc.below h.1 hg (fun k hk => by omega), h.2.trans (hc.imp (fun k hk => .inl hk))⟩
/-- what the drawn stack is: a slice of a row of bytes -/
def StkAt (g b3 b : Nat) (A : Option Addr) (n c : Nat) (lo hi : Int) (w : World) (v : Value) (u : World) : Prop := ∃ (ys : List Int) (bl : Nat), v = .slice (some ⟨bl, 0, none⟩) ys.length ys.length ∧ LStk ys ∧ bl ≠ g ∧ bl ≠ b3 ∧ FRows u g b3 bl A n c b ys lo hi ∧ b3 + 2 ≤ u.heap.size ∧ BG g w u
/-- The call hands back a stack and a log as they are drawn. -/
def RetDrawn (g : Nat) (w : World) (e : Ending) (w' : World) : Prop := ∃ (ys : List Int) (bl : Nat) (v : Value) (log : List (Int × Int)), e = .returned (.tuple #[.slice (some ⟨bl, 0, none⟩) ys.length ys.length, v]) ∧ LStk ys ∧ LogOK (szS ys) log ∧ w'.heap[bl]? = some (.cells (ys.map (Value.int .u8)).toArray 5) ∧ w'.ownsRow w.heap.size 38 2 v log.length (lcl log) ∧ Chg w w' (RR w g)
theorem mul_bdL {a b A B : Int} (ha : 0 ≤ a ∧ a ≤ A) (hb : 0 ≤ b ∧ b ≤ B) : 0 ≤ a * b ∧ a * b ≤ A * B :=
  ⟨Int.mul_nonneg ha.1 hb.1, Int.mul_le_mul ha.2 hb.2 hb.1 (Int.le_trans ha.1 ha.2)⟩
set_option maxHeartbeats 8000000 in
theorem l04Drawn_any {A : Option Addr} {xs : List Int} {W : World} {B : Nat} (hs : Nums .u8 W B A xs) (h8 : b8 xs) (c : Nat) (w : World) (hb : Below B W w) (g b : Nat) (hgB : B ≤ g) (hi : b ≤ 1000) (hg0 : SrcB w g A xs.length c b) (lo fh : Int) (hlo : 0 ≤ lo ∧ lo ≤ 5) : Calls Try.prog 78 #[.pointer (some ⟨g, 0, none⟩), .agg #[.int .i64 lo, .int .i64 fh]] w (RetDrawn g w) := by
  obtain ⟨i0, hi0, v0, hg⟩ := hg0
  have hgl : g < w.heap.size := (Array.getElem?_eq_some_iff.1 hg).1
  go_enter Try.func78, Try.ntmps78
  go_wp2_with fail
  refine calls_at (fun u => u.heap[g]? = some (.cells #[.slice A xs.length c, .int .i64 (i0 : Int), .int .u64 v0] 178) ∧ u.heap[w.heap.size]? = some (.cells #[.int .i64 lo, .int .i64 fh] 27) ∧ u.heap[w.heap.size + 1]? = some (.cells #[.int .u8 10, .int .u8 10] 5) ∧ w.heap.size + 2 ≤ u.heap.size ∧ BG g w u) _ ⟨(by repeat' (first | (with_reducible assumption) | (with_reducible refine heap_mo_at ?_) | (with_reducible refine heap_mq_at ?_) | (with_reducible refine heap_drew_at ?_) | ((with_reducible refine heap_alloc_at ?_); first | rfl | (simp; done)) | (with_reducible refine heap_alloc_past ?_) | ((with_reducible apply heap_set_at); (first | rfl | (simp; done))) | ((with_reducible apply heap_set_past); (first | (simp; done) | (simp; omega) | omega)) | ((with_reducible apply heap_setC_past); (first | (simp; done) | (simp; omega) | omega)) | fail)), (by repeat' (first | (with_reducible assumption) | (with_reducible refine heap_mo_at ?_) | (with_reducible refine heap_mq_at ?_) | (with_reducible refine heap_drew_at ?_) | ((with_reducible refine heap_alloc_at ?_); first | rfl | (simp; done)) | (with_reducible refine heap_alloc_past ?_) | ((with_reducible apply heap_set_at); (first | rfl | (simp; done))) | ((with_reducible apply heap_set_past); (first | (simp; done) | (simp; omega) | omega)) | ((with_reducible apply heap_setC_past); (first | (simp; done) | (simp; omega) | omega)) | fail)), (by repeat' (first | (with_reducible assumption) | (with_reducible refine heap_mo_at ?_) | (with_reducible refine heap_mq_at ?_) | (with_reducible refine heap_drew_at ?_) | ((with_reducible refine heap_alloc_at ?_); first | rfl | (simp; done)) | (with_reducible refine heap_alloc_past ?_) | ((with_reducible apply heap_set_at); (first | rfl | (simp; done))) | ((with_reducible apply heap_set_past); (first | (simp; done) | (simp; omega) | omega)) | ((with_reducible apply heap_setC_past); (first | (simp; done) | (simp; omega) | omega)) | fail)), by simp, ⟨(by repeat' (first | (with_reducible assumption) | exact BG.b (by assumption) | exact Below.refl _ _ | (with_reducible refine Below.alloc ?_ ?_ _) | (with_reducible refine Below.setCell ?_ ?_ _) | (with_reducible refine below_dn ?_ _) | omega | (simp; done) | (simp; omega))), (by repeat' (first | (with_reducible assumption) | exact BG.c (by assumption) | exact Chg.refl' _ _ | (with_reducible refine Chg.al ?_ _) | (with_reducible refine Chg.setN ?_ ?_) | (with_reducible refine Chg.dn ?_ _) | omega | (simp; done) | (simp; omega)))⟩⟩ ?_
  rintro u0 ⟨x0, x1, x2, x3, x4⟩
  have z0 : FRows u0 g w.heap.size (w.heap.size + 1) A xs.length c b [10, 10] lo fh := ⟨⟨i0, hi0, v0, x0⟩, x1, x2⟩
  refine (pick_any hs h8 c _ (hb.trans (x4.1.mono hgB)) g b hgB (by omega) z0.src 4 (by omega)).mono ?_
  rintro e w1 ⟨k0, rfl, hk0, hsrc1, hc1⟩
  have y0 := z0.chg hc1 hsrc1 (by omega) (by omega)
  have y4 := x4.pick hc1 (by omega)
  have y3 := hc1.size
  have y5 : w.heap.size + 2 ≤ w1.heap.size := by omega
  clear x0 x1 x2 x3 x4 z0 hc1 hsrc1 y3
  go_upto_block 0 with (fail)
  go_cut [6] (fun v wx => StkAt g w.heap.size (b + 2) A xs.length c lo fh w v wx)
  case first =>
    obtain ⟨⟨i1, hi1, v1, r0⟩, r1, r2⟩ := y0
    rcases (show k0 = 0 ∨ k0 = 1 ∨ (¬ k0 = 0 ∧ ¬ k0 = 1) by omega) with rfl | rfl | ⟨n0, n1⟩
    · go_wp2_with fail
      go_meet
      exact ⟨[10, 10, 10], w1.heap.size, rfl, .inr (.inl rfl), by omega, by omega, ⟨⟨i1, hi1, v1, (by repeat' (first | (with_reducible assumption) | (with_reducible refine heap_mo_at ?_) | (with_reducible refine heap_mq_at ?_) | (with_reducible refine heap_drew_at ?_) | ((with_reducible refine heap_alloc_at ?_); first | rfl | (simp; done)) | (with_reducible refine heap_alloc_past ?_) | ((with_reducible apply heap_set_at); (first | rfl | (simp; done))) | ((with_reducible apply heap_set_past); (first | (simp; done) | (simp; omega) | omega)) | ((with_reducible apply heap_setC_past); (first | (simp; done) | (simp; omega) | omega)) | fail))⟩, (by repeat' (first | (with_reducible assumption) | (with_reducible refine heap_mo_at ?_) | (with_reducible refine heap_mq_at ?_) | (with_reducible refine heap_drew_at ?_) | ((with_reducible refine heap_alloc_at ?_); first | rfl | (simp; done)) | (with_reducible refine heap_alloc_past ?_) | ((with_reducible apply heap_set_at); (first | rfl | (simp; done))) | ((with_reducible apply heap_set_past); (first | (simp; done) | (simp; omega) | omega)) | ((with_reducible apply heap_setC_past); (first | (simp; done) | (simp; omega) | omega)) | fail)), (heap_alloc_new _ _)⟩, by simp; omega, ⟨(by repeat' (first | (with_reducible assumption) | exact BG.b (by assumption) | exact Below.refl _ _ | (with_reducible refine Below.alloc ?_ ?_ _) | (with_reducible refine Below.setCell ?_ ?_ _) | (with_reducible refine below_dn ?_ _) | omega | (simp; done) | (simp; omega))), (by repeat' (first | (with_reducible assumption) | exact BG.c (by assumption) | exact Chg.refl' _ _ | (with_reducible refine Chg.al ?_ _) | (with_reducible refine Chg.setN ?_ ?_) | (with_reducible refine Chg.dn ?_ _) | omega | (simp; done) | (simp; omega)))⟩⟩
    · go_wp2_with fail
      go_meet
      exact ⟨[6, 4, 3], w1.heap.size, rfl, .inr (.inr rfl), by omega, by omega, ⟨⟨i1, hi1, v1, (by repeat' (first | (with_reducible assumption) | (with_reducible refine heap_mo_at ?_) | (with_reducible refine heap_mq_at ?_) | (with_reducible refine heap_drew_at ?_) | ((with_reducible refine heap_alloc_at ?_); first | rfl | (simp; done)) | (with_reducible refine heap_alloc_past ?_) | ((with_reducible apply heap_set_at); (first | rfl | (simp; done))) | ((with_reducible apply heap_set_past); (first | (simp; done) | (simp; omega) | omega)) | ((with_reducible apply heap_setC_past); (first | (simp; done) | (simp; omega) | omega)) | fail))⟩, (by repeat' (first | (with_reducible assumption) | (with_reducible refine heap_mo_at ?_) | (with_reducible refine heap_mq_at ?_) | (with_reducible refine heap_drew_at ?_) | ((with_reducible refine heap_alloc_at ?_); first | rfl | (simp; done)) | (with_reducible refine heap_alloc_past ?_) | ((with_reducible apply heap_set_at); (first | rfl | (simp; done))) | ((with_reducible apply heap_set_past); (first | (simp; done) | (simp; omega) | omega)) | ((with_reducible apply heap_setC_past); (first | (simp; done) | (simp; omega) | omega)) | fail)), (heap_alloc_new _ _)⟩, by simp; omega, ⟨(by repeat' (first | (with_reducible assumption) | exact BG.b (by assumption) | exact Below.refl _ _ | (with_reducible refine Below.alloc ?_ ?_ _) | (with_reducible refine Below.setCell ?_ ?_ _) | (with_reducible refine below_dn ?_ _) | omega | (simp; done) | (simp; omega))), (by repeat' (first | (with_reducible assumption) | exact BG.c (by assumption) | exact Chg.refl' _ _ | (with_reducible refine Chg.al ?_ _) | (with_reducible refine Chg.setN ?_ ?_) | (with_reducible refine Chg.dn ?_ _) | omega | (simp; done) | (simp; omega)))⟩⟩
    · go_wp2_with fail
      go_meet
      exact ⟨[10, 10], w.heap.size + 1, rfl, .inl rfl, by omega, by omega, ⟨⟨i1, hi1, v1, r0⟩, r1, r2⟩, by omega, y4⟩
  obtain ⟨ys, bl, rfl, hys, n1, n2, r0, r1, r2⟩ := hcut
  obtain ⟨t1, t2, t3, t4, t5, t6⟩ := hys.fine
  (go_wp2_with fail; refine (l01Size_any (stk_nums r0.stk t3) t2 _ _ rfl _ (Below.refl _ _)).mono ?_; rintro e w' ⟨rfl, rfl⟩; rw [t4])
  -- the first reading
  obtain ⟨j0, hj0, hz0, hz1, hz2⟩ := info_parts infoRd
  go_wp2_with fail
  refine calls_at (fun u => FRows u g w.heap.size bl A xs.length c (b + 2) ys lo fh ∧ u.ownsRow w.heap.size 38 2 (.slice (some ⟨wc.heap.size, 0, none⟩) 0 0) 0 [] ∧ wc.heap.size + 1 ≤ u.heap.size ∧ BG g w u) _ ⟨r0.al _, own_lit2 _ _ (by omega) _, by simp, ⟨(by repeat' (first | (with_reducible assumption) | exact BG.b (by assumption) | exact Below.refl _ _ | (with_reducible refine Below.alloc ?_ ?_ _) | (with_reducible refine Below.setCell ?_ ?_ _) | (with_reducible refine below_dn ?_ _) | omega | (simp; done) | (simp; omega))), (by repeat' (first | (with_reducible assumption) | exact BG.c (by assumption) | exact Chg.refl' _ _ | (with_reducible refine Chg.al ?_ _) | (with_reducible refine Chg.setN ?_ ?_) | (with_reducible refine Chg.dn ?_ _) | omega | (simp; done) | (simp; omega)))⟩⟩ ?_
  rintro u1 ⟨f1, o1, s1, l1⟩
  refine (pick_any hs h8 c _ (hb.trans (l1.1.mono hgB)) g (b + 2) hgB (by omega) f1.src 5 (by omega)).mono ?_
  rintro e w2 ⟨d, rfl, hd, hsrc2, hc2⟩
  have f2 := f1.chg hc2 hsrc2 (by omega) n1
  have o2 := hc2.row o1 (fun k a b => by simp [Value.ownBlock] at a; omega)
  have l2 := l1.pick hc2 (by omega)
  have s2 := hc2.size
  clear f1 o1 l1 hc2 hsrc2
  go_wp2_with fail
  refine (pick_any hs h8 c _ (hb.trans (l2.1.mono hgB)) g (b + 4) hgB (by omega) f2.src (szS ys) (by omega)).mono ?_
  rintro e w3 ⟨x, rfl, hx, hsrc3, hc3⟩
  have f3 := f2.chg hc3 hsrc3 (by omega) n1
  have o3 := hc3.row o2 (fun k a b => by simp [Value.ownBlock] at a; omega)
  have l3 := l2.pick hc3 (by omega)
  have s3 := hc3.size
  clear f2 o2 l2 hc3 hsrc3
  have e9 : w.heap.size + 2 ≤ w3.heap.size := by omega
  have e8 : wc.heap.size + 1 ≤ w3.heap.size := by omega
  have hblt := (Array.getElem?_eq_some_iff.1 f3.stk).1
  go_wp2_with fail
  refine calls_at (fun u => FRows u g w.heap.size bl A xs.length c (b + 6) ys lo fh ∧ u.ownsRow w.heap.size 38 2 (.slice (some ⟨wc.heap.size, 0, none⟩) 0 0) 0 [] ∧ u.heap[w3.heap.size]? = some (.cells #[.int .i64 d, .int .i64 x] 38) ∧ w3.heap.size + 1 ≤ u.heap.size ∧ BG g w u) _ ⟨f3.al _, o3.alloc _, (by repeat' (first | (with_reducible assumption) | (with_reducible refine heap_mo_at ?_) | (with_reducible refine heap_mq_at ?_) | (with_reducible refine heap_drew_at ?_) | ((with_reducible refine heap_alloc_at ?_); first | rfl | (simp; done)) | (with_reducible refine heap_alloc_past ?_) | ((with_reducible apply heap_set_at); (first | rfl | (simp; done))) | ((with_reducible apply heap_set_past); (first | (simp; done) | (simp; omega) | omega)) | ((with_reducible apply heap_setC_past); (first | (simp; done) | (simp; omega) | omega)) | fail)), by simp, ⟨(by repeat' (first | (with_reducible assumption) | exact BG.b (by assumption) | exact Below.refl _ _ | (with_reducible refine Below.alloc ?_ ?_ _) | (with_reducible refine Below.setCell ?_ ?_ _) | (with_reducible refine below_dn ?_ _) | omega | (simp; done) | (simp; omega))), (by repeat' (first | (with_reducible assumption) | exact BG.c (by assumption) | exact Chg.refl' _ _ | (with_reducible refine Chg.al ?_ _) | (with_reducible refine Chg.setN ?_ ?_) | (with_reducible refine Chg.dn ?_ _) | omega | (simp; done) | (simp; omega)))⟩⟩ ?_
  rintro u4 ⟨f4, o4, q4, s4, l4⟩
  refine (pick_any hs h8 c _ (hb.trans (l4.1.mono hgB)) g (b + 6) hgB (by omega) f4.src 9 (by omega)).mono ?_
  rintro e w5 ⟨k1, rfl, hk1, hsrc5, hc5⟩
  have f5 := f4.chg hc5 hsrc5 (by omega) n1
  have o5 := hc5.row o4 (fun k a b => by simp [Value.ownBlock] at a; omega)
  have l5 := l4.pick hc5 (by omega)
  have s5 := hc5.size
  have q5 := (hc5.block _ (by omega) (by omega)).trans q4
  obtain ⟨k2, rfl⟩ := Int.eq_ofNat_of_zero_le hk1.1
  clear f4 o4 l4 q4 hc5 hsrc5 f3 o3 l3
  go_wp2
  go_loopw [8, 10] (fun v i wr => ∃ (k : Nat) (log : List (Int × Int)) (d x : Int), log.length + k ≤ 8 ∧ LogTo (szS ys) log d ∧ (0 ≤ x ∧ x < szS ys) ∧ i = .int .i64 (k : Int) ∧ FRows wr g w.heap.size bl A xs.length c (20000 - 20 * k) ys lo fh ∧ wr.ownsRow w.heap.size 38 2 v log.length (lcl log) ∧ some w3.heap.size ≠ v.ownBlock ∧ wr.heap[w3.heap.size]? = some (.cells #[.int .i64 d, .int .i64 x] 38) ∧ w3.heap.size + 1 ≤ wr.heap.size ∧ BG g w wr) (fun _ i _ => (intOf i).toNat)
  case atStart => exact ⟨k2, [], d, x, by simp; omega, LogTo.nil (by omega), hx, rfl, f5.up (by omega), o5, by simp [Value.ownBlock]; omega, q5, by omega, l5⟩
  case round =>
    obtain ⟨k, log, d, x, hkl, hlog, hx, rfl, f6, o6, n6, q6, s6, l6⟩ := hrel
    obtain ⟨p0, p1', p2', p3, p4⟩ := twoR q6
    obtain ⟨v, hv_⟩ : ∃ v, v = u8 := ⟨_, rfl⟩
    subst hv_
    by_cases hlt : 0 < k
    · have g0 : (0 : Int) < (k : Int) := by omega
      have ew : IntKind.i64.wrap ((k : Int) - 1) = (k : Int) - 1 := IntWalk.i64_in _ ⟨by omega, by omega⟩
      go_wp2_with fail
      refine calls_at (fun u => FRows u g w.heap.size bl A xs.length c (20000 - 20 * k) ys lo fh ∧ u.ownsRow w.heap.size 38 2 v log.length (lcl log) ∧ u.heap[w3.heap.size]? = some (.cells #[.int .i64 d, .int .i64 x] 38) ∧ u.heap[wr.heap.size]? = some (.cells #[.int .i64 d, .int .i64 x] 38) ∧ wr.heap.size + 1 ≤ u.heap.size ∧ BG g w u) _ ⟨f6.al _, o6.alloc _, heap_alloc_past q6, heap_alloc_new _ _, by simp, ⟨(by repeat' (first | (with_reducible assumption) | exact BG.b (by assumption) | exact Below.refl _ _ | (with_reducible refine Below.alloc ?_ ?_ _) | (with_reducible refine Below.setCell ?_ ?_ _) | (with_reducible refine below_dn ?_ _) | omega | (simp; done) | (simp; omega))), (by repeat' (first | (with_reducible assumption) | exact BG.c (by assumption) | exact Chg.refl' _ _ | (with_reducible refine Chg.al ?_ _) | (with_reducible refine Chg.setN ?_ ?_) | (with_reducible refine Chg.dn ?_ _) | omega | (simp; done) | (simp; omega)))⟩⟩ ?_
      rintro u7 ⟨f7, o7, q7, t7, s7, l7⟩
      have m7 : some wr.heap.size ≠ v.ownBlock := fun h => by
        have := o6.lt wr.heap.size (by first | exact h.symm | exact h)
        omega
      refine (one_any hs h8 c _ (hb.trans (l7.1.mono hgB)) g (20000 - 20 * k) hgB (by omega) f7.src 6 (by omega)).mono ?_
      rintro e w8 ⟨b8', rfl, hsrc8, hc8⟩
      have hne := f7.src.ne o7 (by decide)
      have f8 := f7.chg hc8 hsrc8 (by omega) n1
      have o8 := hc8.row o7 (fun q h1 h2 => hne (by rw [h1, h2]))
      have l8 := l7.pick hc8 (by omega)
      have s8 := hc8.size
      have q8 := (hc8.block _ (by omega) (by omega)).trans q7
      have t8 := (hc8.block _ (by omega) (by omega)).trans t7
      clear f6 o6 q6 f7 o7 q7 t7 l7 hc8 hsrc8 p1' p2' p3 p4
      go_upto_if 39 with (fail)
      go_cut [] (fun wx => ∃ q, (0 ≤ q ∧ q < szS ys) ∧ FRows wx g w.heap.size bl A xs.length c (20000 - 20 * k + 4) ys lo fh ∧ wx.ownsRow w.heap.size 38 2 v log.length (lcl log) ∧ wx.heap[w3.heap.size]? = some (.cells #[.int .i64 d, .int .i64 x] 38) ∧ wx.heap[wr.heap.size]? = some (.cells #[.int .i64 d, .int .i64 q] 38) ∧ wr.heap.size + 1 ≤ wx.heap.size ∧ BG g w wx)
      case first =>
        cases b8'
        · go_wp2_with fail
          go_meet
          exact ⟨x, hx, f8.up (by omega), o8, q8, t8, by omega, l8⟩
        · go_wp2_with fail
          refine (pick_any hs h8 c _ (hb.trans (l8.1.mono hgB)) g (20000 - 20 * k + 2) hgB (by omega) f8.src (szS ys) (by omega)).mono ?_
          rintro e w9 ⟨q, rfl, hq, hsrc9, hc9⟩
          have hne9 := f8.src.ne o8 (by decide)
          have f9 := f8.chg hc9 hsrc9 (by omega) n1
          have o9 := hc9.row o8 (fun q h1 h2 => hne9 (by rw [h1, h2]))
          have l9 := l8.pick hc9 (by omega)
          have s9 := hc9.size
          have q9 := (hc9.block _ (by omega) (by omega)).trans q8
          have t9 := (hc9.block _ (by omega) (by omega)).trans t8
          obtain ⟨_, _, _, _, fz⟩ := twoR t9
          have tz := (twoR t9).2.2.1
          go_wp2_with fail
          go_meet
          exact ⟨q, hq, (f9.set 1 _ (by omega) (by omega) (by omega)).up (by omega), (Chg.set (Chg.refl' w9 (fun k => k = wr.heap.size)) rfl).row o9 (fun j h1 h2 => m7 (by rw [h1, h2])), (Below.heap_setCell w9 ⟨wr.heap.size, 1, none⟩ _ w3.heap.size (show w3.heap.size ≠ wr.heap.size by omega)).trans q9, heap_setCell_same w9 wr.heap.size 1 _ _ _ t9, by simp; omega, ⟨(by repeat' (first | (with_reducible assumption) | exact BG.b (by assumption) | exact Below.refl _ _ | (with_reducible refine Below.alloc ?_ ?_ _) | (with_reducible refine Below.setCell ?_ ?_ _) | (with_reducible refine below_dn ?_ _) | omega | (simp; done) | (simp; omega))), (by repeat' (first | (with_reducible assumption) | exact BG.c (by assumption) | exact Chg.refl' _ _ | (with_reducible refine Chg.al ?_ _) | (with_reducible refine Chg.setN ?_ ?_) | (with_reducible refine Chg.dn ?_ _) | omega | (simp; done) | (simp; omega)))⟩⟩
      obtain ⟨q, hq, f10, o10, q10, t10, s10, l10⟩ := hcut
      obtain ⟨h10, ca, cb, _, _⟩ := twoR t10
      have hbd : d ≤ 36 ∧ 0 ≤ d := by have := hlog.d0; omega
      clear f8 o8 q8 t8 l8 s8
      go_wp2_with (first | (at_builtin; refine wpList_append_lies _ rfl _ _ 25 rfl w.heap.size 38 j0 (.agg #[.int .i64 0, .int .i64 0]) 2 16 undRd hj0 hz0 hz1 hz2 rfl (by decide) _ _ _ rfl (o10.alloc _) ⟨wc.heap.size, 0, none⟩ 1 1 [.int .i64 d, .int .i64 q] rfl rfl (cell_two_newL _ _ _ _) (fun z hz => by simp at hz; rcases hz with rfl | rfl <;> rfl) (by omega) (by unfold maxLen; omega) (by omega) (by simp; omega) _ rfl ?_; intro g' cap w11 own11 hgrow hat hlt11))
      have f11 := f10.grow o10 hgrow
      have q11 := keepG q10 hgrow n6
      have z11 : wc.heap.size ≤ w11.heap.size := by have := hgrow.size; simp at this; omega
      have l11 : BG g w w11 := ⟨(l10.1.alloc (by omega) _).grown hgrow (by first | (simp; done) | (simp; omega)) (fun j hj => by have := (o10.lt j hj).1; omega), (l10.2.al _).trans (Chg.of_grown hgrow (fun k hk => .inr (o10.lt k (by first | exact hk | exact hk.symm)).1))⟩
      have n11 : w3.heap.size ≠ g' := by
        rcases hat with h | h
        · exact fun e => n6 (by rw [e]; exact h.symm)
        · rw [h]; simp; omega
      refine (pick_any hs h8 c _ (hb.trans (l11.1.mono hgB)) g (20000 - 20 * k + 4) hgB (by omega) f11.src 4 (by omega)).mono ?_
      rintro e w12 ⟨s0, rfl, hs0, hsrc12, hc12⟩
      have hne12 := f11.src.ne own11 (by decide)
      have f12 := f11.chg hc12 hsrc12 (by omega) n1
      have o12 := hc12.row own11 (fun q h1 h2 => hne12 (by rw [h1, h2]))
      have l12 := l11.pick hc12 (by omega)
      have s12 := hc12.size
      have q12 := (hc12.block _ (by omega) (by omega)).trans q11
      have w3l : w3.heap.size + 1 ≤ w12.heap.size := by omega
      obtain ⟨_, c12, c13, c14, c15⟩ := twoR q12
      have ea : IntKind.i64.wrap (1 + s0) = 1 + s0 := IntWalk.i64_in _ ⟨by omega, by omega⟩
      have eb : IntKind.i64.wrap (d + (1 + s0)) = d + (1 + s0) := IntWalk.i64_in _ ⟨by omega, by omega⟩
      clear f10 o10 q10 t10 l10 f11 own11 q11 l11 hc12 hsrc12 hgrow hat ca cb
      go_upto_region 19 with (fail)
      refine wp_at (fun u => FRows u g w.heap.size bl A xs.length c (20000 - 20 * k + 6) ys lo fh ∧ u.ownsRow w.heap.size 38 2 (.slice (some ⟨g', 0, none⟩) (log.length + 1) cap) (log.length + 1) (lcl log ++ [.int .i64 d, .int .i64 q]) ∧ u.heap[w3.heap.size]? = some (.cells #[.int .i64 (d + (1 + s0)), .int .i64 x] 38) ∧ w3.heap.size + 1 ≤ u.heap.size ∧ BG g w u) _ ⟨(f12.set 0 _ (by omega) (by omega) (by omega)).up (by omega), (Chg.set (Chg.refl' w12 (fun k => k = w3.heap.size)) rfl).row o12 (fun j h1 h2 => by simp [Value.ownBlock] at h1; omega), heap_setCell_same w12 w3.heap.size 0 _ _ _ q12, by simp; omega, ⟨(by repeat' (first | (with_reducible assumption) | exact BG.b (by assumption) | exact Below.refl _ _ | (with_reducible refine Below.alloc ?_ ?_ _) | (with_reducible refine Below.setCell ?_ ?_ _) | (with_reducible refine below_dn ?_ _) | omega | (simp; done) | (simp; omega))), (by repeat' (first | (with_reducible assumption) | exact BG.c (by assumption) | exact Chg.refl' _ _ | (with_reducible refine Chg.al ?_ _) | (with_reducible refine Chg.setN ?_ ?_) | (with_reducible refine Chg.dn ?_ _) | omega | (simp; done) | (simp; omega)))⟩⟩ ?_
      clear f12 o12 q12 l12 c12 c13 c14 c15
      rintro u13 ⟨f13, o13, q13, s13, l13⟩
      obtain ⟨_, c12, c13, c14, c15⟩ := twoR q13
      obtain ⟨hb3l, cf0, cf1, _, _⟩ := twoR f13.flw
      have hbu : Below B W u13 := hb.trans (l13.1.mono hgB)
      have hne13 := f13.src.ne o13 (by decide)
      have HF13 := Lib.hid f13
      have HO13 := Lib.hid o13
      have HQ13 := Lib.hid q13
      clear f13 o13 q13
      go_cut [] (fun wx => ∃ y, (0 ≤ y ∧ y < szS ys) ∧ FRows wx g w.heap.size bl A xs.length c (20000 - 20 * k + 8) ys lo fh ∧ wx.ownsRow w.heap.size 38 2 (.slice (some ⟨g', 0, none⟩) (log.length + 1) cap) (log.length + 1) (lcl log ++ [.int .i64 d, .int .i64 q]) ∧ wx.heap[w3.heap.size]? = some (.cells #[.int .i64 (d + (1 + s0)), .int .i64 y] 38) ∧ w3.heap.size + 1 ≤ wx.heap.size ∧ BG g w wx)
      case first =>
        go_region_with (first | (go_at_call 77; refine (pick_any hs h8 c _ (by repeat' (first | (with_reducible first | assumption | exact Below.refl _ _ | refine Below.drew ?_ | refine Below.alloc ?_ ?_ _ | refine Below.setCell ?_ ?_ _ | refine below_setR ?_ ?_ _ | refine below_dn ?_ _ | refine Below.trans ?_ (below_mo _ _ _ ?_) | refine Below.trans ?_ (below_mq _ _ ?_) | exact Nat.le_refl _) | (simp; done) | (simp; omega) | omega)) g (20000 - 20 * k + 6) hgB (by omega) (by exact HF13.out.src) 12 (by omega)).mono ?_; rintro e w14 ⟨s2, rfl, hs2, hsrc14, hc14⟩; have hz14 : u13.heap.size ≤ w14.heap.size := hc14.size; have hcx : Chg u13 w14 (fun k => k = g) := ⟨hc14.os, hc14.tape, hc14.output, hc14.size, hc14.block⟩; have c12' := hc14.cell c12 (by omega); have c13' := hc14.cell c13 (by omega); have cf0' := hc14.cell cf0 (by omega); have q14 : w14.heap[w3.heap.size]? = _ := (hc14.block _ (by first | omega | (simp; omega)) (by omega)).trans HQ13.out; obtain ⟨_, _, _, c14', c15'⟩ := twoR q14; have m1 := mul_bdL (show 0 ≤ 1 + s0 ∧ 1 + s0 ≤ 4 by omega) (show 0 ≤ lo + s2 ∧ lo + s2 ≤ 16 by omega); have ec : IntKind.i64.wrap (lo + s2) = lo + s2 := IntWalk.i64_in _ ⟨by omega, by omega⟩; have ed : IntKind.i64.wrap ((1 + s0) * (lo + s2)) = (1 + s0) * (lo + s2) := IntWalk.i64_in _ ⟨by omega, by omega⟩; have ee : IntKind.i64.wrap (x + (1 + s0) * (lo + s2)) = x + (1 + s0) * (lo + s2) := IntWalk.i64_in _ ⟨by omega, by omega⟩) | (go_at_call 87; refine (l04Mod_any _ _ _ ⟨by omega, by omega⟩ ⟨by omega, by omega⟩).mono ?_; rintro e w' ⟨rfl, rfl⟩))
        all_goals go_wp2_with fail
        all_goals go_meet
        all_goals exact ⟨_, ⟨Int.emod_nonneg _ (by omega), Int.emod_lt_of_pos _ (by omega)⟩, (HF13.out.chg hcx hsrc14 (by omega) n1).set 1 _ (by omega) (by omega) (by omega), (Chg.set (Chg.refl' w14 (fun k => k = w3.heap.size)) rfl).row (hcx.row HO13.out (fun j h1 h2 => hne13 (by rw [h1, h2]))) (fun j h1 h2 => by simp [Value.ownBlock] at h1; omega), heap_setCell_same w14 w3.heap.size 1 _ _ _ q14, by simp; omega, ⟨Below.setCell (l13.pick hcx (by omega)).1 (by first | omega | (simp; omega)) _, (l13.pick hcx (by omega)).2.setN (by omega)⟩⟩
      obtain ⟨y, hy, f15, o15, q15, s15, l15⟩ := hcut
      clear HF13 HO13 HQ13 c12 c13 c14 c15 cf0 cf1 l13 s13 hbu
      go_wp2_with fail
      refine (one_any hs h8 c _ (hb.trans (l15.1.mono hgB)) g (20000 - 20 * k + 8) hgB (by omega) f15.src 8 (by omega)).mono ?_
      rintro e w16 ⟨b16, rfl, hsrc16, hc16⟩
      have hne16 := f15.src.ne o15 (by decide)
      have f16 := f15.chg hc16 hsrc16 (by omega) n1
      have o16 := hc16.row o15 (fun q h1 h2 => hne16 (by rw [h1, h2]))
      have l16 := l15.pick hc16 (by omega)
      have s16 := hc16.size
      have q16 := (hc16.block _ (by omega) (by omega)).trans q15
      clear f15 o15 l15 q15 hc16 hsrc16
      have hlen : (log ++ [(d, q)]).length = log.length + 1 := by simp
      have HN := Lib.hid (hlog.snoc (by omega) hq (show 1 ≤ 1 + s0 ∧ 1 + s0 ≤ 4 by omega))
      clear hlen
      cases b16
      · go_wp2
        exact ⟨⟨k - 1, log ++ [(d, q)], d + (1 + s0), y, by rw [List.length_append, List.length_singleton]; omega, HN.out, hy, by rw [show ((k - 1 : Nat) : Int) = (k : Int) - 1 by omega], f16.up (by omega), by rw [lcl_app, List.length_append]; exact o16, by simp [Value.ownBlock]; omega, q16, by omega, l16⟩, by simp [intOf]; omega⟩
      · go_wp2_with fail
        refine (pick_any hs h8 c _ (hb.trans (l16.1.mono hgB)) g (20000 - 20 * k + 10) hgB (by omega) f16.src (szS ys) (by omega)).mono ?_
        rintro e w17 ⟨y', rfl, hy', hsrc17, hc17⟩
        have hne17 := f16.src.ne o16 (by decide)
        have f17 := f16.chg hc17 hsrc17 (by omega) n1
        have o17 := hc17.row o16 (fun q h1 h2 => hne17 (by rw [h1, h2]))
        have l17 := l16.pick hc17 (by omega)
        have s17 := hc17.size
        have q17 := (hc17.block _ (by omega) (by omega)).trans q16
        obtain ⟨_, _, tz, _, fz⟩ := twoR q17
        clear f16 o16 q16 l16 hc17 hsrc17
        go_wp2
        exact ⟨⟨k - 1, log ++ [(d, q)], d + (1 + s0), y', by rw [List.length_append, List.length_singleton]; omega, HN.out, hy', by rw [show ((k - 1 : Nat) : Int) = (k : Int) - 1 by omega], (f17.set 1 _ (by omega) (by omega) (by omega)).up (by omega), by rw [lcl_app, List.length_append]; exact (Chg.set (Chg.refl' w17 (fun k => k = w3.heap.size)) rfl).row o17 (fun j h1 h2 => by simp [Value.ownBlock] at h1; omega), by simp [Value.ownBlock]; omega, heap_setCell_same w17 w3.heap.size 1 _ _ _ q17, by simp; omega, ⟨(by repeat' (first | (with_reducible assumption) | exact BG.b (by assumption) | exact Below.refl _ _ | (with_reducible refine Below.alloc ?_ ?_ _) | (with_reducible refine Below.setCell ?_ ?_ _) | (with_reducible refine below_dn ?_ _) | omega | (simp; done) | (simp; omega))), (by repeat' (first | (with_reducible assumption) | exact BG.c (by assumption) | exact Chg.refl' _ _ | (with_reducible refine Chg.al ?_ _) | (with_reducible refine Chg.setN ?_ ?_) | (with_reducible refine Chg.dn ?_ _) | omega | (simp; done) | (simp; omega)))⟩⟩, by simp [intOf]; omega⟩
    · obtain rfl : k = 0 := by omega
      have HL := Lib.hid hlog
      clear hlog
      go_wp2
      go_returns
      exact ⟨ys, bl, v, log, rfl, hys, HL.out.ok, f6.stk, o6, l6.2⟩
end Go.Proofs.Ytkphbagckbbalaa.X
