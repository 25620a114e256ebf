/- The meters that the laws draw. Conditions: none. -/
import Derived.Test.YtbihgnmiocfelaaKMoves
import Derived.Test.YtbihgnmiocfelaaKMeterL
namespace Go.Proofs.Ytbihgnmiocfelaa.X
open Go.RowKit
set_option linter.unusedVariables false
set_option linter.unusedSimpArgs false
set_option maxRecDepth 100000
theorem calls_at {P : Program} {f : FuncId} {args : Array Value} {K : Ending → World → Prop} (S : World → Prop) (w : World) (h : S w) (k : ∀ u, S u → Calls P f args u K) : Calls P f args w K := k w h
def OneR (g : Nat) (A : Option Addr) (n c b : Nat) (w : World) (e : Ending) (w' : World) : Prop := ∃ r : Bool, e = .returned (.bool r) ∧ SrcB w' g A n c (b + 2) ∧ Chg w w' (fun k => k = g)
theorem one_any {A : Option Addr} {xs : List Int} {W : World} {B : Nat} (hs : Nums .u8 W B A xs) (h8 : b8 xs) (c : Nat) (w : World) (hb : Below B W w) (g b : Nat) (hgB : B ≤ g) (hi : b ≤ 100000000) (hg : SrcB w g A xs.length c b) (m : Int) (hm : 1 ≤ m ∧ m ≤ 2000000000000) : Calls Try.prog 186 #[.pointer (some ⟨g, 0, none⟩), .int .i64 m] w (OneR g A xs.length c b w) := by
  have K := Lib.hid (pick_any hs h8 c w hb g b hgB hi hg m hm)
  clear hb hg
  go_enter Try.func186, Try.ntmps186
  (go_wp2_with fail; refine K.out.mono ?_; rintro e w1 ⟨r, rfl, hr, hsrc, hc⟩)
  go_wp2
  go_ret
  exact ⟨r == 0, rfl, hsrc, hc⟩
/-- The call hands back a meter as it is drawn. -/
def RetMtr (g : Nat) (w : World) (e : Ending) (w' : World) : Prop := ∃ (ys : List Int) (bl : Nat) (p q s : Int), e = .returned (.agg #[.slice (some ⟨bl, 0, none⟩) ys.length ys.length, .int .i64 p, .int .i64 q, .int .i64 s]) ∧ MtrOK ys p q s ∧ w'.heap[bl]? = some (.cells (ys.map (Value.int .u8)).toArray 5) ∧ Below g w w'
/-- the rows at hand while a meter is drawn: the stream, the result, the stack, the meter -/
structure MRows (u : World) (g b2 bl b3 : Nat) (A : Option Addr) (n c b : Nat) (ys : List Int) (p q s : Int) : Prop where
  src : SrcB u g A n c b
  res : u.heap[b2]? = some (.cells #[.slice none 0 0, .int .i64 0, .int .i64 0, .int .i64 0] 82)
  stk : u.heap[bl]? = some (.cells (ys.map (Value.int .u8)).toArray 5)
  mtr : u.heap[b3]? = some (.cells #[.slice (some ⟨bl, 0, none⟩) ys.length ys.length, .int .i64 p, .int .i64 q, .int .i64 s] 82)
theorem MRows.chg {u v : World} {g b2 bl b3 : Nat} {A : Option Addr} {n c b b' : Nat} {ys : List Int} {p q s : Int} (h : MRows u g b2 bl b3 A n c b ys p q s) (hc : Chg u v (fun k => k = g)) (hs : SrcB v g A n c b') (h2 : b2 ≠ g) (hl : bl ≠ g) (h3 : b3 ≠ g) : MRows v g b2 bl b3 A n c b' ys p q s :=
  ⟨hs, (hc.block _ (Array.getElem?_eq_some_iff.1 h.res).1 h2).trans h.res, (hc.block _ (Array.getElem?_eq_some_iff.1 h.stk).1 hl).trans h.stk, (hc.block _ (Array.getElem?_eq_some_iff.1 h.mtr).1 h3).trans h.mtr⟩
theorem stk_nums {u : World} {bl : Nat} {ys : List Int} (h : u.heap[bl]? = some (.cells (ys.map (Value.int .u8)).toArray 5)) (hl : ys.length ≤ 8) : Nums .u8 u u.heap.size (some ⟨bl, 0, none⟩) ys := by
  refine ⟨fun _ => ⟨bl, 0, rfl, (Array.getElem?_eq_some_iff.1 h).1, fun i x hx j v hv => ?_⟩, by omega, Nat.le_refl _⟩
  have hj : j = 0 := by have := (List.getElem?_eq_some_iff.1 hv).1; simp at this; exact this
  subst hj
  simp at hv
  subst hv
  rw [cell_of_row u bl _ _ 5 (0, 0) h]
  simp [hx]
/-- the stacks of the meters that are drawn -/
theorem two_stk {ys : List Int} (h : ys = [10, 10] ∨ ys = [6, 4, 3]) : b8 ys ∧ ys.length ≤ 8 ∧ sizeTo ys ys.length = szS ys ∧ 1 ≤ szS ys ∧ szS ys ≤ 100 := by
  have k := (MtrOK.stk (xs := ys) (p := 1) (q := 1) (s := 0) ⟨h, by omega, by omega, by omega, by rcases h with e | e <;> (subst e; decide)⟩)
  refine ⟨k.2.1, ?_, k.2.2.2, by have := k.2.2.1; omega, by have := k.2.2.1; omega⟩
  rcases h with e | e <;> (subst e; decide)
theorem four {w : World} {g : Nat} {a b c d : Value} {T : TypeId} (h : w.heap[g]? = some (.cells #[a, b, c, d] T)) : g < w.heap.size ∧ w.cell? ⟨g, 0, none⟩ = some a ∧ w.cell? ⟨g, 1, none⟩ = some b ∧ w.cell? ⟨g, 2, none⟩ = some c ∧ w.cell? ⟨g, 3, none⟩ = some d ∧ w.frozen? ⟨g, 0, none⟩ = false ∧ w.frozen? ⟨g, 1, none⟩ = false ∧ w.frozen? ⟨g, 2, none⟩ = false ∧ w.frozen? ⟨g, 3, none⟩ = false :=
  ⟨(Array.getElem?_eq_some_iff.1 h).1, (cell_of_row w g 0 _ T (0, 0) h).trans rfl, (cell_of_row w g 1 _ T (0, 0) h).trans rfl, (cell_of_row w g 2 _ T (0, 0) h).trans rfl, (cell_of_row w g 3 _ T (0, 0) h).trans rfl, frozen_of_row w g 0 _ T h, frozen_of_row w g 1 _ T h, frozen_of_row w g 2 _ T h, frozen_of_row w g 3 _ T h⟩
theorem set4 {w : World} {g : Nat} {a b c d a' b' c' d' : Value} {T : TypeId} (h : w.heap[g]? = some (.cells #[a, b, c, d] T)) : ((((w.setCell ⟨g, 0, none⟩ a').setCell ⟨g, 1, none⟩ b').setCell ⟨g, 2, none⟩ c').setCell ⟨g, 3, none⟩ d').heap[g]? = some (.cells #[a', b', c', d'] T) := by
  have h1 := heap_setCell_same w g 0 _ T a' h
  have h2 := heap_setCell_same _ g 1 _ T b' h1
  have h3 := heap_setCell_same _ g 2 _ T c' h2
  exact heap_setCell_same _ g 3 _ T d' h3
theorem set4_other {w : World} {g k : Nat} {a' b' c' d' : Value} (h : k ≠ g) : ((((w.setCell ⟨g, 0, none⟩ a').setCell ⟨g, 1, none⟩ b').setCell ⟨g, 2, none⟩ c').setCell ⟨g, 3, none⟩ d').heap[k]? = w.heap[k]? :=
  ((Below.heap_setCell _ ⟨g, 3, none⟩ d' k h).trans (Below.heap_setCell _ ⟨g, 2, none⟩ c' k h)).trans ((Below.heap_setCell _ ⟨g, 1, none⟩ b' k h).trans (Below.heap_setCell _ ⟨g, 0, none⟩ a' k h))
set_option maxHeartbeats 4000000 in
theorem l06Drawn_any {A : Option Addr} {xs : List Int} {W : World} {B : Nat} (hs : Nums .u8 W B A xs) (h8 : b8 xs) (c : Nat) (w : World) (hb : Below B W w) (g b : Nat) (hgB : B ≤ g) (hi : b ≤ 1000) (hg0 : SrcB w g A xs.length c b) : Calls Try.prog 165 #[.pointer (some ⟨g, 0, none⟩)] w (RetMtr g w) := by
  obtain ⟨i0, hi0, v0, hg⟩ := hg0
  have hgl : g < w.heap.size := (Array.getElem?_eq_some_iff.1 hg).1
  go_enter Try.func165, Try.ntmps165
  go_wp2_with fail
  refine calls_at (fun u => u.heap[g]? = some (.cells #[.slice A xs.length c, .int .i64 (i0 : Int), .int .u64 v0] 250) ∧ u.heap[w.heap.size]? = some (.cells #[.slice none 0 0, .int .i64 0, .int .i64 0, .int .i64 0] 82) ∧ u.heap[w.heap.size + 1]? = some (.cells #[.int .u8 10, .int .u8 10] 5) ∧ w.heap.size + 2 ≤ u.heap.size ∧ Below g w u) _ ⟨(by repeat' (first | (with_reducible assumption) | (with_reducible refine heap_mo_at ?_) | (with_reducible refine heap_mq_at ?_) | (with_reducible refine heap_drew_at ?_) | ((with_reducible refine heap_alloc_at ?_); first | rfl | (simp; done)) | (with_reducible refine heap_alloc_past ?_) | ((with_reducible apply heap_set_at); (first | rfl | (simp; done))) | ((with_reducible apply heap_set_past); (first | (simp; done) | (simp; omega) | omega)) | ((with_reducible apply heap_setC_past); (first | (simp; done) | (simp; omega) | omega)) | fail)), (by repeat' (first | (with_reducible assumption) | (with_reducible refine heap_mo_at ?_) | (with_reducible refine heap_mq_at ?_) | (with_reducible refine heap_drew_at ?_) | ((with_reducible refine heap_alloc_at ?_); first | rfl | (simp; done)) | (with_reducible refine heap_alloc_past ?_) | ((with_reducible apply heap_set_at); (first | rfl | (simp; done))) | ((with_reducible apply heap_set_past); (first | (simp; done) | (simp; omega) | omega)) | ((with_reducible apply heap_setC_past); (first | (simp; done) | (simp; omega) | omega)) | fail)), (by repeat' (first | (with_reducible assumption) | (with_reducible refine heap_mo_at ?_) | (with_reducible refine heap_mq_at ?_) | (with_reducible refine heap_drew_at ?_) | ((with_reducible refine heap_alloc_at ?_); first | rfl | (simp; done)) | (with_reducible refine heap_alloc_past ?_) | ((with_reducible apply heap_set_at); (first | rfl | (simp; done))) | ((with_reducible apply heap_set_past); (first | (simp; done) | (simp; omega) | omega)) | ((with_reducible apply heap_setC_past); (first | (simp; done) | (simp; omega) | omega)) | fail)), by simp, (by repeat' (first | (with_reducible first | assumption | exact Below.refl _ _ | refine Below.drew ?_ | refine Below.alloc ?_ ?_ _ | refine Below.setCell ?_ ?_ _ | refine below_setR ?_ ?_ _ | refine below_dn ?_ _ | refine Below.trans ?_ (below_mo _ _ _ ?_) | refine Below.trans ?_ (below_mq _ _ ?_) | exact Nat.le_refl _) | (simp; done) | (simp; omega) | omega))⟩ ?_
  rintro u0 ⟨x0, x1, x2, x3, x4⟩
  refine (pick_any hs h8 c _ (hb.trans (x4.mono hgB)) g b hgB (by omega) ⟨i0, hi0, v0, x0⟩ 9 (by omega)).mono ?_
  rintro e w1 ⟨k0, rfl, hk0, ⟨i1, hi1, v1, y0⟩, hc1⟩
  have y1 := (hc1.block _ (by omega) (by omega)).trans x1
  have y2 := (hc1.block _ (by omega) (by omega)).trans x2
  have y4 := hc1.below x4 (by omega) (fun k hk => by omega)
  have y3 := hc1.size
  have e1 : IntKind.i64.wrap (1 + k0) = 1 + k0 := IntWalk.i64_in _ ⟨by omega, by omega⟩
  have P0 : 1 ≤ 1 + k0 ∧ 1 + k0 ≤ 9 := by omega
  obtain ⟨b2, hb2⟩ : ∃ b2, b2 = w.heap.size := ⟨_, rfl⟩
  obtain ⟨b3, hb3⟩ : ∃ b3, b3 = w1.heap.size := ⟨_, rfl⟩
  clear x0 x1 x2 hc1
  go_wp2_with fail
  refine calls_at (fun u => u.heap[g]? = some (.cells #[.slice A xs.length c, .int .i64 (i1 : Int), .int .u64 v1] 250) ∧ u.heap[w.heap.size]? = some (.cells #[.slice none 0 0, .int .i64 0, .int .i64 0, .int .i64 0] 82) ∧ u.heap[w.heap.size + 1]? = some (.cells #[.int .u8 10, .int .u8 10] 5) ∧ u.heap[w1.heap.size]? = some (.cells #[.slice (some ⟨w.heap.size + 1, 0, none⟩) 2 2, .int .i64 (1 + k0), .int .i64 0, .int .i64 0] 82) ∧ w1.heap.size + 1 ≤ u.heap.size ∧ Below g w u) _ ⟨(by repeat' (first | (with_reducible assumption) | (with_reducible refine heap_mo_at ?_) | (with_reducible refine heap_mq_at ?_) | (with_reducible refine heap_drew_at ?_) | ((with_reducible refine heap_alloc_at ?_); first | rfl | (simp; done)) | (with_reducible refine heap_alloc_past ?_) | ((with_reducible apply heap_set_at); (first | rfl | (simp; done))) | ((with_reducible apply heap_set_past); (first | (simp; done) | (simp; omega) | omega)) | ((with_reducible apply heap_setC_past); (first | (simp; done) | (simp; omega) | omega)) | fail)), (by repeat' (first | (with_reducible assumption) | (with_reducible refine heap_mo_at ?_) | (with_reducible refine heap_mq_at ?_) | (with_reducible refine heap_drew_at ?_) | ((with_reducible refine heap_alloc_at ?_); first | rfl | (simp; done)) | (with_reducible refine heap_alloc_past ?_) | ((with_reducible apply heap_set_at); (first | rfl | (simp; done))) | ((with_reducible apply heap_set_past); (first | (simp; done) | (simp; omega) | omega)) | ((with_reducible apply heap_setC_past); (first | (simp; done) | (simp; omega) | omega)) | fail)), (by repeat' (first | (with_reducible assumption) | (with_reducible refine heap_mo_at ?_) | (with_reducible refine heap_mq_at ?_) | (with_reducible refine heap_drew_at ?_) | ((with_reducible refine heap_alloc_at ?_); first | rfl | (simp; done)) | (with_reducible refine heap_alloc_past ?_) | ((with_reducible apply heap_set_at); (first | rfl | (simp; done))) | ((with_reducible apply heap_set_past); (first | (simp; done) | (simp; omega) | omega)) | ((with_reducible apply heap_setC_past); (first | (simp; done) | (simp; omega) | omega)) | fail)), (by repeat' (first | (with_reducible assumption) | (with_reducible refine heap_mo_at ?_) | (with_reducible refine heap_mq_at ?_) | (with_reducible refine heap_drew_at ?_) | ((with_reducible refine heap_alloc_at ?_); first | rfl | (simp; done)) | (with_reducible refine heap_alloc_past ?_) | ((with_reducible apply heap_set_at); (first | rfl | (simp; done))) | ((with_reducible apply heap_set_past); (first | (simp; done) | (simp; omega) | omega)) | ((with_reducible apply heap_setC_past); (first | (simp; done) | (simp; omega) | omega)) | fail)), by simp, (by repeat' (first | (with_reducible first | assumption | exact Below.refl _ _ | refine Below.drew ?_ | refine Below.alloc ?_ ?_ _ | refine Below.setCell ?_ ?_ _ | refine below_setR ?_ ?_ _ | refine below_dn ?_ _ | refine Below.trans ?_ (below_mo _ _ _ ?_) | refine Below.trans ?_ (below_mq _ _ ?_) | exact Nat.le_refl _) | (simp; done) | (simp; omega) | omega))⟩ ?_
  rintro u1 ⟨a0, a1, a2, a3, z1, z2⟩
  have z0 : MRows u1 g b2 (b2 + 1) b3 A xs.length c (b + 2) [10, 10] (1 + k0) 0 0 := ⟨⟨i1, hi1, v1, a0⟩, by rw [hb2]; exact a1, by rw [hb2]; exact a2, by rw [hb3, hb2]; exact a3⟩
  clear a0 a1 a2 a3
  refine (one_any hs h8 c _ (hb.trans (z2.mono hgB)) g (b + 2) hgB (by omega) z0.src 3 (by omega)).mono ?_
  rintro e w2 ⟨bb, rfl, hsrc2, hc2⟩
  have z3 := z0.chg hc2 hsrc2 (by omega) (by omega) (by omega)
  have z4 := hc2.below z2 (by omega) (fun k hk => by omega)
  have z5 := hc2.size
  have hb23 : b2 + 2 ≤ b3 ∧ g < b2 ∧ b3 < w2.heap.size := by omega
  clear y0 y1 y2 y4 y3 z0 hc2 hsrc2 hgl x3 x4 z1 z2 z5
  subst hb2
  subst hb3
  have S := fun (u : World) => ∃ (ys : List Int) (bl : Nat), (ys = [10, 10] ∨ ys = [6, 4, 3]) ∧ bl ≠ g ∧ bl ≠ w1.heap.size ∧ bl ≠ w.heap.size ∧ MRows u g w.heap.size bl w1.heap.size A xs.length c (b + 4) ys (1 + k0) 0 0 ∧ w1.heap.size + 1 ≤ u.heap.size ∧ Below g w u
  clear S
  cases bb
  case' false =>
    go_wp2_with fail
    refine calls_at (fun u => ∃ (ys : List Int) (bl : Nat), (ys = [10, 10] ∨ ys = [6, 4, 3]) ∧ bl ≠ g ∧ bl ≠ w1.heap.size ∧ bl ≠ w.heap.size ∧ MRows u g w.heap.size bl w1.heap.size A xs.length c (b + 4) ys (1 + k0) 0 0 ∧ w1.heap.size + 1 ≤ u.heap.size ∧ Below g w u) _ ⟨[10, 10], w.heap.size + 1, .inl rfl, by omega, by omega, by omega, z3, by omega, z4⟩ ?_
  case' true =>
    obtain ⟨⟨i2, hi2, v2, q0⟩, q1, q2, q3⟩ := z3
    obtain ⟨m0, m1, m2, m3, m4, m5, m6, m7, m8⟩ := four q3
    go_wp2_with fail
    refine calls_at (fun u => u.heap[g]? = some (.cells #[.slice A xs.length c, .int .i64 (i2 : Int), .int .u64 v2] 250) ∧ u.heap[w.heap.size]? = some (.cells #[.slice none 0 0, .int .i64 0, .int .i64 0, .int .i64 0] 82) ∧ u.heap[w2.heap.size]? = some (.cells #[.int .u8 6, .int .u8 4, .int .u8 3] 5) ∧ u.heap[w1.heap.size]? = some (.cells #[.slice (some ⟨w2.heap.size, 0, none⟩) 3 3, .int .i64 (1 + k0), .int .i64 0, .int .i64 0] 82) ∧ w1.heap.size + 1 ≤ u.heap.size ∧ Below g w u) _ ⟨heap_alloc_past ((Below.heap_setCell w2 ⟨w1.heap.size, 0, none⟩ _ g (show g ≠ w1.heap.size by omega)).trans q0), heap_alloc_past ((Below.heap_setCell w2 ⟨w1.heap.size, 0, none⟩ _ w.heap.size (show w.heap.size ≠ w1.heap.size by omega)).trans q1), (by repeat' (first | (with_reducible assumption) | (with_reducible refine heap_mo_at ?_) | (with_reducible refine heap_mq_at ?_) | (with_reducible refine heap_drew_at ?_) | ((with_reducible refine heap_alloc_at ?_); first | rfl | (simp; done)) | (with_reducible refine heap_alloc_past ?_) | ((with_reducible apply heap_set_at); (first | rfl | (simp; done))) | ((with_reducible apply heap_set_past); (first | (simp; done) | (simp; omega) | omega)) | ((with_reducible apply heap_setC_past); (first | (simp; done) | (simp; omega) | omega)) | fail)), heap_alloc_past (heap_setCell_same w2 w1.heap.size 0 _ _ _ q3), by simp; omega, (by repeat' (first | (with_reducible first | assumption | exact Below.refl _ _ | refine Below.drew ?_ | refine Below.alloc ?_ ?_ _ | refine Below.setCell ?_ ?_ _ | refine below_setR ?_ ?_ _ | refine below_dn ?_ _ | refine Below.trans ?_ (below_mo _ _ _ ?_) | refine Below.trans ?_ (below_mq _ _ ?_) | exact Nat.le_refl _) | (simp; done) | (simp; omega) | omega))⟩ ?_
    rintro u2 ⟨a0, a1, a2, a3, a4, a5⟩
    refine calls_at (fun u => ∃ (ys : List Int) (bl : Nat), (ys = [10, 10] ∨ ys = [6, 4, 3]) ∧ bl ≠ g ∧ bl ≠ w1.heap.size ∧ bl ≠ w.heap.size ∧ MRows u g w.heap.size bl w1.heap.size A xs.length c (b + 4) ys (1 + k0) 0 0 ∧ w1.heap.size + 1 ≤ u.heap.size ∧ Below g w u) _ ⟨[6, 4, 3], w2.heap.size, .inr rfl, by omega, by omega, by omega, ⟨⟨i2, hi2, v2, a0⟩, a1, a2, a3⟩, a4, a5⟩ ?_
  all_goals
    rintro u3 ⟨ys, bl, hys, n1, n2, n3, r0, r1, r2⟩
    obtain ⟨t1, t2, t3, t4, t5⟩ := two_stk hys
    refine (pick_any hs h8 c _ (hb.trans (r2.mono hgB)) g (b + 4) hgB (by omega) r0.src 9 (by omega)).mono ?_
    rintro e w3 ⟨p1, rfl, hp1, hsrc3, hc3⟩
    have r3 := r0.chg hc3 hsrc3 (by omega) (by omega) (by omega)
    have r4 := hc3.below r2 (by omega) (fun k hk => by omega)
    have r5 := hc3.size
    have e2 : IntKind.i64.wrap (1 + p1) = 1 + p1 := IntWalk.i64_in _ ⟨by omega, by omega⟩
    have P1 : 1 ≤ 1 + p1 ∧ 1 + p1 ≤ 9 := by omega
    obtain ⟨⟨i4, hi4, v4, s0⟩, s1, s2, s3⟩ := r3
    obtain ⟨g0, c0, c1, c2, c3, f0, f1, f2, f3⟩ := four s3
    have hb13 : g < w.heap.size ∧ w.heap.size + 2 ≤ w1.heap.size ∧ w1.heap.size + 1 ≤ w3.heap.size := by omega
    have hbl := (Array.getElem?_eq_some_iff.1 s2).1
    clear hc3 hsrc3 r0 r1 r2 r5
    go_wp2_with fail
    refine calls_at (fun u => u.heap[g]? = some (.cells #[.slice A xs.length c, .int .i64 (i4 : Int), .int .u64 v4] 250) ∧ u.heap[w.heap.size]? = some (.cells #[.slice none 0 0, .int .i64 0, .int .i64 0, .int .i64 0] 82) ∧ u.heap[bl]? = some (.cells (ys.map (Value.int .u8)).toArray 5) ∧ u.heap[w1.heap.size]? = some (.cells #[.slice (some ⟨bl, 0, none⟩) ys.length ys.length, .int .i64 (1 + k0), .int .i64 (1 + p1), .int .i64 0] 82) ∧ w1.heap.size + 1 ≤ u.heap.size ∧ Below g w u) _ ⟨(Below.heap_setCell w3 ⟨w1.heap.size, 2, none⟩ _ g (show g ≠ w1.heap.size by omega)).trans s0, (Below.heap_setCell w3 ⟨w1.heap.size, 2, none⟩ _ w.heap.size (show w.heap.size ≠ w1.heap.size by omega)).trans s1, (Below.heap_setCell w3 ⟨w1.heap.size, 2, none⟩ _ bl (show bl ≠ w1.heap.size by omega)).trans s2, heap_setCell_same w3 w1.heap.size 2 _ _ _ s3, by simp; omega, (by repeat' (first | (with_reducible first | assumption | exact Below.refl _ _ | refine Below.drew ?_ | refine Below.alloc ?_ ?_ _ | refine Below.setCell ?_ ?_ _ | refine below_setR ?_ ?_ _ | refine below_dn ?_ _ | refine Below.trans ?_ (below_mo _ _ _ ?_) | refine Below.trans ?_ (below_mq _ _ ?_) | exact Nat.le_refl _) | (simp; done) | (simp; omega) | omega))⟩ ?_
    clear s0 s1 s2 s3 c0 c1 c2 c3 f0 f1 f2 f3 r4
    rintro u4 ⟨s0, s1, s2, s3, s4, s5⟩
    refine (l01Size_any (stk_nums s2 t2) t1 _ _ rfl _ (Below.refl _ _)).mono ?_
    rintro e w' ⟨rfl, rfl⟩
    rw [t3]
    go_wp2_with fail
    refine (pick_any hs h8 c _ (hb.trans (s5.mono hgB)) g (b + 6) hgB (by omega) ⟨i4, by omega, v4, s0⟩ (szS ys) (by omega)).mono ?_
    rintro e w5 ⟨p2, rfl, hp2, hsrc5, hc5⟩
    have y1 := (hc5.block _ (by omega) (by omega)).trans s1
    have y2 := (hc5.block _ (Array.getElem?_eq_some_iff.1 s2).1 (by omega)).trans s2
    have y3 := (hc5.block _ (by omega) (by omega)).trans s3
    have y4 := hc5.below s5 (by omega) (fun k hk => by omega)
    have y5 := hc5.size
    obtain ⟨g0, c0, c1, c2, c3, f0, f1, f2, f3⟩ := four y3
    obtain ⟨g0', d0, d1, d2, d3, h0, h1, h2, h3⟩ := four y1
    have hMK : MtrOK ys (1 + k0) (1 + p1) p2 := ⟨hys, P0, P1, hp2⟩
    clear hc5 hsrc5 s0 s1 s2 s3 s5
    go_wp2
    have z1 := (Below.heap_setCell w5 ⟨w1.heap.size, 3, none⟩ (.int .i64 p2) w.heap.size (show w.heap.size ≠ w1.heap.size by omega)).trans y1
    have z2 := (Below.heap_setCell w5 ⟨w1.heap.size, 3, none⟩ (.int .i64 p2) bl (show bl ≠ w1.heap.size by omega)).trans y2
    refine exit_at (E := bodyPost Try.prog Try.f165 (RetMtr g w)) (fun u => u.heap[w.heap.size]? = some (.cells #[.slice (some ⟨bl, 0, none⟩) ys.length ys.length, .int .i64 (1 + k0), .int .i64 (1 + p1), .int .i64 p2] 82) ∧ u.heap[bl]? = some (.cells (ys.map (Value.int .u8)).toArray 5) ∧ Below g w u) _ ⟨set4 z1, (set4_other n3).trans z2, (by repeat' (first | (with_reducible first | assumption | exact Below.refl _ _ | refine Below.drew ?_ | refine Below.alloc ?_ ?_ _ | refine Below.setCell ?_ ?_ _ | refine below_setR ?_ ?_ _ | refine below_dn ?_ _ | refine Below.trans ?_ (below_mo _ _ _ ?_) | refine Below.trans ?_ (below_mq _ _ ?_) | exact Nat.le_refl _) | (simp; done) | (simp; omega) | omega))⟩ ?_
    rintro u ⟨q0, q1, q2⟩
    obtain ⟨g0, c0, c1, c2, c3, _⟩ := four q0
    exact bodyPost_ret (v := .agg #[.slice (some ⟨bl, 0, none⟩) ys.length ys.length, .int .i64 (1 + k0), .int .i64 (1 + p1), .int .i64 p2]) (by simp [results, Try.results165, go_sem, *]) rfl ⟨ys, bl, 1 + k0, 1 + p1, p2, rfl, hMK, q1, q2⟩
def RetMtrB (w : World) (e : Ending) (w' : World) : Prop := ∃ (ys : List Int) (A : Option Addr) (c : Nat) (p q s : Int), e = .returned (.agg #[.slice A ys.length c, .int .i64 p, .int .i64 q, .int .i64 s]) ∧ MtrOK ys p q s ∧ Nums .u8 w' w'.heap.size A ys ∧ Below w.heap.size w w'
set_option maxHeartbeats 2000000 in
theorem A2Meter_any {A : Option Addr} {xs : List Int} {W : World} {B : Nat} (hs : Nums .u8 W B A xs) (h8 : b8 xs) (c : Nat) (w : World) (hb : Below B W w) : Calls Try.prog 52 #[.slice A xs.length c] w (RetMtrB w) := by
  have hB := hs.bsz hb
  go_enter Try.func52, Try.ntmps52
  (go_wp2_with fail; refine (l00From_any _ _ _ _).mono ?_; rintro e w' ⟨rfl, rfl⟩)
  go_wp2_with fail
  refine calls_at (fun u => u.heap[w.heap.size]? = some (.cells #[.slice none 0 0, .int .i64 0, .int .i64 0, .int .i64 0] 82) ∧ u.heap[w.heap.size + 1]? = some (.cells #[.slice A xs.length c, .int .i64 0, .int .u64 0] 250) ∧ Below w.heap.size w u) _ ⟨(by repeat' (first | (with_reducible assumption) | (with_reducible refine heap_mo_at ?_) | (with_reducible refine heap_mq_at ?_) | (with_reducible refine heap_drew_at ?_) | ((with_reducible refine heap_alloc_at ?_); first | rfl | (simp; done)) | (with_reducible refine heap_alloc_past ?_) | ((with_reducible apply heap_set_at); (first | rfl | (simp; done))) | ((with_reducible apply heap_set_past); (first | (simp; done) | (simp; omega) | omega)) | ((with_reducible apply heap_setC_past); (first | (simp; done) | (simp; omega) | omega)) | fail)), (by repeat' (first | (with_reducible assumption) | (with_reducible refine heap_mo_at ?_) | (with_reducible refine heap_mq_at ?_) | (with_reducible refine heap_drew_at ?_) | ((with_reducible refine heap_alloc_at ?_); first | rfl | (simp; done)) | (with_reducible refine heap_alloc_past ?_) | ((with_reducible apply heap_set_at); (first | rfl | (simp; done))) | ((with_reducible apply heap_set_past); (first | (simp; done) | (simp; omega) | omega)) | ((with_reducible apply heap_setC_past); (first | (simp; done) | (simp; omega) | omega)) | fail)), (by repeat' (first | (with_reducible first | assumption | exact Below.refl _ _ | refine Below.drew ?_ | refine Below.alloc ?_ ?_ _ | refine Below.setCell ?_ ?_ _ | refine below_setR ?_ ?_ _ | refine below_dn ?_ _ | refine Below.trans ?_ (below_mo _ _ _ ?_) | refine Below.trans ?_ (below_mq _ _ ?_) | exact Nat.le_refl _) | (simp; done) | (simp; omega) | omega))⟩ ?_
  rintro u0 ⟨x0, x1, x2⟩
  have hx := (Array.getElem?_eq_some_iff.1 x0).1
  refine (l06Drawn_any hs h8 c _ (hb.trans (x2.mono hB)) (w.heap.size + 1) 0 (by omega) (by omega) ⟨0, Nat.le_refl _, 0, x1⟩).mono ?_
  rintro e w1 ⟨ys, bl, p, q, s, rfl, hM, y1, y2⟩
  have y0 := (y2.block _ (by omega)).trans x0
  have y3 : Below w.heap.size w w1 := x2.trans (y2.mono (by omega))
  have hne : bl ≠ w.heap.size := fun h => by
    rw [h, y0] at y1
    injection y1 with y1
    injection y1 with _ y1 _
    exact absurd y1 (by decide)
  obtain ⟨g0, c0, c1, c2, c3, f0, f1, f2, f3⟩ := four y0
  obtain ⟨-, hl, -⟩ := two_stk hM.st
  clear x0 x1 x2 y2
  go_wp2
  refine exit_at (E := bodyPost Try.prog Try.f52 (RetMtrB w)) (fun u => u.heap[w.heap.size]? = some (.cells #[.slice (some ⟨bl, 0, none⟩) ys.length ys.length, .int .i64 p, .int .i64 q, .int .i64 s] 82) ∧ u.heap[bl]? = some (.cells (ys.map (Value.int .u8)).toArray 5) ∧ Below w.heap.size w u) _ ⟨set4 y0, (set4_other hne).trans y1, (by repeat' (first | (with_reducible first | assumption | exact Below.refl _ _ | refine Below.drew ?_ | refine Below.alloc ?_ ?_ _ | refine Below.setCell ?_ ?_ _ | refine below_setR ?_ ?_ _ | refine below_dn ?_ _ | refine Below.trans ?_ (below_mo _ _ _ ?_) | refine Below.trans ?_ (below_mq _ _ ?_) | exact Nat.le_refl _) | (simp; done) | (simp; omega) | omega))⟩ ?_
  rintro u ⟨q0, q1, q2⟩
  obtain ⟨g0, c0, c1, c2, c3, _⟩ := four q0
  exact bodyPost_ret (v := .agg #[.slice (some ⟨bl, 0, none⟩) ys.length ys.length, .int .i64 p, .int .i64 q, .int .i64 s]) (by simp [results, Try.results52, go_sem, *]) rfl ⟨ys, some ⟨bl, 0, none⟩, ys.length, p, q, s, rfl, hM, stk_nums q1 hl, q2⟩
end Go.Proofs.Ytbihgnmiocfelaa.X
