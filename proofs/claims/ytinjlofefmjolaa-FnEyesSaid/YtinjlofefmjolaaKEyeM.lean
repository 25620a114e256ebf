/- Motions as they are drawn: the joints. Conditions: none. -/
import Derived.Test.YtinjlofefmjolaaKEyeD
namespace Go.Proofs.Ytinjlofefmjolaa.X
open Go.RowKit
set_option linter.unusedVariables false
set_option linter.unusedSimpArgs false
set_option maxRecDepth 100000
/-- the cells of joints -/
def lcj : List (Int × Int) → List Value
  | [] => []
  | r :: l => .int .i8 r.1 :: .int .i16 r.2 :: lcj l
theorem lcj_app : ∀ (a b : List (Int × Int)), lcj (a ++ b) = lcj a ++ lcj b
  | [], b => rfl
  | r :: a, b => by show _ :: _ :: lcj (a ++ b) = _ :: _ :: (lcj a ++ lcj b); rw [lcj_app a b]
theorem lcj_at : ∀ (a : List (Int × Int)) (i : Nat) (x : Int × Int), a[i]? = some x → (lcj a)[i * 2]? = some (.int .i8 x.1) ∧ (lcj a)[i * 2 + 1]? = some (.int .i16 x.2)
  | [], i, x, h => by simp at h
  | r :: a, 0, x, h => by
    simp at h
    subst h
    exact ⟨rfl, rfl⟩
  | r :: a, i + 1, x, h => by
    have ih := lcj_at a i x (by simpa using h)
    rw [show (i + 1) * 2 = i * 2 + 1 + 1 by omega]
    exact ih
theorem own_prsJ {w : World} {b : Nat} {e : TypeId} {v : Value} {log : List (Int × Int)} (h : w.ownsRow b e 2 v log.length (lcj log)) (hl : log.length ≤ 1048576) : ∃ A c, v = .slice A log.length c ∧ Prs .i8 .i16 w w.heap.size A log := by
  have hc := fun g hg => h.cells (g := g) hg
  have hlt := h.lt
  rcases h.2 with ⟨e1, e2⟩ | ⟨g, cap, cur, e1, _⟩
  · exact ⟨none, 0, by rw [e1, e2], ⟨fun hn => absurd hn (by omega), hl, Nat.le_refl _⟩⟩
  · subst e1
    refine ⟨_, cap, rfl, ⟨fun hn => ⟨g, 0, rfl, (hlt g rfl).2, fun i x hx j u hu => ?_⟩, hl, Nat.le_refl _⟩⟩
    obtain ⟨c0, c1⟩ := lcj_at log i x hx
    match j, hu with
    | 0, hu =>
      simp [encP] at hu
      subst hu
      have := hc g rfl _ _ c0
      rw [add_plain rfl] at this
      simpa using this
    | 1, hu =>
      simp [encP] at hu
      subst hu
      have := hc g rfl _ _ c1
      rw [add_plain rfl] at this
      simpa using this
theorem set1_at {w : World} {g : Nat} {a b b' : Value} {T : TypeId} (h : w.heap[g]? = some (.cells #[a, b] T)) : (w.setCell ⟨g, 1, none⟩ b').heap[g]? = some (.cells #[a, b'] T) := by
  exact heap_setCell_same w g 1 _ T b' h
theorem two_fact {w : World} {g : Nat} {a b : Value} {T : TypeId} (h : w.heap[g]? = some (.cells #[a, b] T)) : g < w.heap.size ∧ w.cell? ⟨g, 0, none⟩ = some a ∧ w.cell? ⟨g, 1, none⟩ = some b ∧ w.frozen? ⟨g, 0, none⟩ = false ∧ w.frozen? ⟨g, 1, none⟩ = false :=
  ⟨(Array.getElem?_eq_some_iff.1 h).1, (cell_of_row w g 0 _ T (0, 0) h).trans rfl, (cell_of_row w g 1 _ T (0, 0) h).trans rfl, frozen_of_row w g 0 _ T h, frozen_of_row w g 1 _ T h⟩
theorem joint_snoc {ms : List (Int × Int)} (h : ∀ k : Nat, k < ms.length → jOK (p1 ms (k : Int)) (p2 ms (k : Int)) = true) {a b : Int} (hr : jOK a b = true) : ∀ k : Nat, k < (ms ++ [(a, b)]).length → jOK (p1 (ms ++ [(a, b)]) (k : Int)) (p2 (ms ++ [(a, b)]) (k : Int)) = true := p_snoc (P := fun a b => jOK a b = true) h hr
theorem drawn_cells6 (w : World) (t : TypeId) : ∀ i : Nat, i < 6 → ∃ v : Int, (w.alloc (.cells #[.int .i64 0, .int .i64 0, .int .i64 500, .int .i64 900, .int .i64 999, .int .i64 123] t)).cell? ⟨w.heap.size, i, none⟩ = some (.int .i64 v) ∧ 0 ≤ v ∧ v < 1000 := by
  intro i hi
  rcases (show i = 0 ∨ i = 1 ∨ i = 2 ∨ i = 3 ∨ i = 4 ∨ i = 5 by omega) with rfl | rfl | rfl | rfl | rfl | rfl
  all_goals exact ⟨_, by simp [go_sem]; rfl, by decide, by decide⟩
theorem infoJt : (Try.prog.info? 114).map (fun i => (i.zero, i.size, i.bytes)) = some (some (.agg #[.int .i8 0, .int .i16 0]), 2, 4) := by kernel_rfl
theorem undJt : Try.prog.underlying 47 = some (.slice 114) := by kernel_rfl
/-- The call hands back a motion. -/
def MotR (g : Nat) (A : Option Addr) (n c : Nat) (w : World) (e : Ending) (w' : World) : Prop := ∃ (ys : List Int) (js : List (Int × Int)) (q cap : Nat) (v : Value), e = .returned (.agg #[.slice (some ⟨q, 0, none⟩) ys.length cap, v]) ∧ (1 ≤ ys.length ∧ ys.length ≤ 4) ∧ bases ys ∧ js.length + 1 = ys.length ∧ (∀ k : Nat, k < js.length → jOK (p1 js (k : Int)) (p2 js (k : Int)) = true) ∧ w'.ownsRow w.heap.size 5 1 (.slice (some ⟨q, 0, none⟩) ys.length cap) ys.length (ys.map (Value.int .u8)) ∧ w'.ownsRow w.heap.size 114 2 v js.length (lcj js) ∧ SrcB w' g A n c 200 ∧ Chg w w' (RE w g)
theorem keepGE {wr w3 : World} {o o' : Obj} {row : Option Nat} {g : Nat} (h : wr.heap[g]? = some o') (hg : (wr.alloc o).grownBy w3 row) (hne : some g ≠ row) : w3.heap[g]? = some o' := by
  have hl := (Array.getElem?_eq_some_iff.1 h).1
  exact (hg.block g (by rw [World.size_alloc]; exact Nat.lt_succ_of_lt hl) hne).trans (heap_alloc_past h)
theorem own_setE {w : World} {g i B : Nat} {x : Value} {e : TypeId} {sz : Nat} {v : Value} {n : Nat} {ys : List Value} (h : w.ownsRow B e sz v n ys) (hne : some g ≠ v.ownBlock) : (w.setCell ⟨g, i, none⟩ x).ownsRow B e sz v n ys := by
  refine ⟨h.1, ?_⟩
  rcases h.2 with h0 | ⟨q, cap, cur, e1, e2, e3, h0⟩
  · exact .inl h0
  · subst e1
    exact .inr ⟨q, cap, cur, rfl, e2, (Below.heap_setCell w ⟨g, i, none⟩ x q (fun h => hne (by rw [h]; rfl))).trans e3, h0⟩
/-- what has grown beside a row -/
theorem own_growE {w2 w3 : World} {o : Obj} {row : Option Nat} {B : Nat} {e : TypeId} {sz : Nat} {v : Value} {n : Nat} {ys : List Value} (h : w2.ownsRow B e sz v n ys) (hg : (w2.alloc o).grownBy w3 row) (hne : ∀ k, v.ownBlock = some k → some k ≠ row) : w3.ownsRow B e sz v n ys := by
  refine ⟨h.1, ?_⟩
  rcases h.2 with h0 | ⟨q, cap, cur, e1, e2, e3, h0⟩
  · exact .inl h0
  · subst e1
    exact .inr ⟨q, cap, cur, rfl, e2, keepGE e3 hg (hne q rfl), h0⟩
theorem SrcB.setE {w : World} {g n c b k i : Nat} {A : Option Addr} {v : Value} (h : SrcB w g A n c b) (hk : g ≠ k) : SrcB (w.setCell ⟨k, i, none⟩ v) g A n c b := by
  obtain ⟨j, hj, x, e⟩ := h
  exact ⟨j, hj, x, (Below.heap_setCell w ⟨k, i, none⟩ v g hk).trans e⟩
theorem set2E {w : World} {g : Nat} {a b a' b' : Value} {T : TypeId} (h : w.heap[g]? = some (.cells #[a, b] T)) : ((w.setCell ⟨g, 0, none⟩ a').setCell ⟨g, 1, none⟩ b').heap[g]? = some (.cells #[a', b'] T) := by
  have h1 := heap_setCell_same w g 0 _ T a' h
  exact heap_setCell_same (w.setCell ⟨g, 0, none⟩ a') g 1 _ T b' h1
theorem set2E_o {w : World} {g k : Nat} {a' b' : Value} {o : Obj} (hne : k ≠ g) (h : w.heap[k]? = some o) : ((w.setCell ⟨g, 0, none⟩ a').setCell ⟨g, 1, none⟩ b').heap[k]? = some o :=
  (Below.heap_setCell _ ⟨g, 1, none⟩ _ k hne).trans ((Below.heap_setCell _ ⟨g, 0, none⟩ _ k hne).trans h)
theorem own_ne2 {w : World} {b b' : Nat} {e e' : TypeId} {sz sz' : Nat} {v v' : Value} {n n' : Nat} {ys ys' : List Value} (h1 : w.ownsRow b e sz v n ys) (h2 : w.ownsRow b' e' sz' v' n' ys') (hne : e' ≠ e) : ∀ k, v.ownBlock = some k → some k ≠ v'.ownBlock := by
  intro k hk
  rcases h1.2 with ⟨a, _⟩ | ⟨q, cap, cur, e1, e2, e3, h0⟩
  · rw [a] at hk; simp [Value.ownBlock] at hk
  · subst e1
    simp [Value.ownBlock] at hk
    subst hk
    exact own_neS h2 e3 hne
theorem own_low {w : World} {b b' : Nat} {e : TypeId} {sz : Nat} {v : Value} {n : Nat} {ys : List Value} (h : w.ownsRow b e sz v n ys) (hb : b' ≤ b) : w.ownsRow b' e sz v n ys := by
  refine ⟨h.1, ?_⟩
  rcases h.2 with h0 | ⟨g, cap, cur, e1, e2, e3⟩
  · exact .inl h0
  · exact .inr ⟨g, cap, cur, e1, Nat.le_trans hb e2, e3⟩
set_option maxHeartbeats 8000000 in
theorem l02Drawn_any {A : Option Addr} {xs : List Int} {W : World} {B : Nat} (hs : Nums .u8 W B A xs) (h8 : b8 xs) (c : Nat) (w : World) (hb : Below B W w) (g : Nat) (hgB : B ≤ g) (hg : SrcB w g A xs.length c 0) : Calls Try.prog 63 #[.pointer (some ⟨g, 0, none⟩)] w (MotR g A xs.length c w) := by
  obtain ⟨i0, hi, hz0, hz1, hz2⟩ := info_parts infoJt
  have hB := hs.bsz hb
  have hgz := hg.ltQ
  have S0 := Lib.hid (fun W' (hW : Below w.heap.size w W') => hg.keep hW hgz)
  go_enter Try.func63, Try.ntmps63
  (go_wp2_with fail; refine (l02Stack_any hs h8 c _ (by repeat' (first | (with_reducible first | assumption | exact Below.refl _ _ | refine Below.drew ?_ | refine Below.alloc ?_ ?_ _ | refine Below.setCell ?_ ?_ _ | refine below_setR ?_ ?_ _ | refine below_dn ?_ _ | refine Below.trans ?_ (below_mo _ _ _ ?_) | refine Below.trans ?_ (below_mq _ _ ?_) | exact Nat.le_refl _) | (simp; done) | (simp; omega) | omega)) g hgB (S0.out _ (by repeat' (first | (with_reducible first | assumption | exact Below.refl _ _ | refine Below.drew ?_ | refine Below.alloc ?_ ?_ _ | refine Below.setCell ?_ ?_ _ | refine below_setR ?_ ?_ _ | refine below_dn ?_ _ | refine Below.trans ?_ (below_mo _ _ _ ?_) | refine Below.trans ?_ (below_mq _ _ ?_) | exact Nat.le_refl _) | (simp; done) | (simp; omega) | omega)))).mono ?_; rintro e w1 ⟨ys, q, cap, rfl, hl, hbas, own1, src1, ch1⟩)
  have hz := ch1.size
  rw [World.size_alloc] at hz
  have r2 : w1.heap[w.heap.size]? = some (.cells #[.slice none 0 0, .slice none 0 0] 49) := (ch1.block _ (by simp) (by unfold RE; simp; omega)).trans (heap_alloc_new w _)
  have own1' := own_low own1 (b' := w.heap.size) (by simp)
  have ch1' : Chg w w1 (RE w g) := (Chg.of_alloc w _ _).trans (ch1.impE (fun k hk => by unfold RE at *; simp at hk; omega))
  have HB := Lib.hid hbas
  clear own1 ch1 S0 hg hbas
  go_wp2
  go_loopw [4] (fun i wr => ∃ (ms : List (Int × Int)) (v : Value), ms.length + 1 ≤ ys.length ∧ Hid (∀ k : Nat, k < ms.length → jOK (p1 ms (k : Int)) (p2 ms (k : Int)) = true) ∧ i = .int .i64 ((ms.length : Int) + 1) ∧ wr.heap[w.heap.size]? = some (.cells #[.slice none 0 0, .slice none 0 0] 49) ∧ wr.heap[w1.heap.size]? = some (.cells #[.slice (some ⟨q, 0, none⟩) ys.length cap, v] 49) ∧ wr.ownsRow w.heap.size 5 1 (.slice (some ⟨q, 0, none⟩) ys.length cap) ys.length (ys.map (Value.int .u8)) ∧ wr.ownsRow w.heap.size 114 2 v ms.length (lcj ms) ∧ SrcB wr g A xs.length c (100 + 4 * ms.length) ∧ Chg w wr (RE w g)) (fun i _ => ys.length - (intOf i).toNat)
  case atStart => exact ⟨[], .slice none 0 0, hl.1, (fun k hk => absurd hk (by simp)), rfl, heap_alloc_past r2, heap_alloc_new w1 _, own1'.alloc _, World.ownsRow_nil _ _ _ _, (src1.keep (Below.alloc (Below.refl _ _) (Nat.le_refl _) _) (by omega)), ch1'.alE _⟩
  case round =>
    obtain ⟨ms, v, hml, HJ, rfl, r2, r3, ownS, ownJ, hsrc, hch⟩ := hrel
    have hsize := hch.size
    obtain ⟨f0, f1, f2, f3, f4⟩ := two_fact r3
    by_cases hlt : ms.length + 1 < ys.length
    · have g0 : (ms.length : Int) + 1 < (ys.length : Int) := by omega
      have hbw : Below B W wr := hch.below hb hB (fun q hq => by rcases hq with h | h <;> omega)
      have e1 : IntKind.i64.wrap ((ms.length : Int) + 1 + 1) = (ms.length : Int) + 1 + 1 := IntWalk.i64_in _ ⟨by omega, by omega⟩
      have hw1r : w1.heap.size < wr.heap.size := f0
      have hneJ5 : some wr.heap.size ≠ v.ownBlock := fun h => by have := (ownJ.lt _ h.symm).2; omega
      have hneS := hsrc.ne ownS (by decide)
      have hneJ := hsrc.ne ownJ (by decide)
      (go_wp2_with fail; refine (one_any hs h8 c _ (hbw.alloc (by omega) _) g _ hgB (by omega) (hsrc.keep (Below.alloc (Below.refl _ _) (Nat.le_refl _) _) (by omega)) 2 (by omega)).mono ?_; rintro e w2 ⟨r, rfl, hsrc2, hc2⟩)
      have ngw : w.heap.size ≠ g := by omega
      have ngw1 : w1.heap.size ≠ g := by omega
      have r2b := (hc2.block _ (by simp; omega) ngw).trans (heap_alloc_past r2 (o := .cells #[.int .i8 0, .int .i16 0] 114))
      have r3b := (hc2.block _ (by simp; omega) ngw1).trans (heap_alloc_past r3 (o := .cells #[.int .i8 0, .int .i16 0] 114))
      have r5b : w2.heap[wr.heap.size]? = some (.cells #[.int .i8 0, .int .i16 0] 114) := (hc2.block _ (by simp) (by omega)).trans (heap_alloc_new wr _)
      have ownS2 := hc2.row (ownS.alloc _) (fun q h1 h2 => hneS (by rw [h1, h2]))
      have ownJ2 := hc2.row (ownJ.alloc _) (fun q h1 h2 => hneJ (by rw [h1, h2]))
      have hch2 : Chg w w2 (RE w g) := (hch.alE _).trans (hc2.impE (fun k hk => .inl hk))
      have hsz2 := hc2.size
      rw [World.size_alloc] at hsz2
      clear hc2 r2 r3 ownS ownJ hsrc hch f0 f1 f2 f3 f4 hneS hneJ
      obtain ⟨f0, f1, f2, f3, f4⟩ := two_fact r3b
      obtain ⟨j0, j1, j2, j3, j4⟩ := two_fact r5b
      cases r
      · have HN := Lib.hid (joint_snoc HJ.out (a := 0) (b := 0) (by decide))
        have hneJ3 := hsrc2.ne ownJ2 (by decide)
        go_wp2_with (first | (at_builtin; refine wpList_append_own _ rfl _ _ 47 rfl w.heap.size 114 i0 (.agg #[.int .i8 0, .int .i16 0]) 2 4 undJt hi hz0 hz1 hz2 rfl (by decide) _ _ _ rfl (ownJ2.alloc _) ⟨w2.heap.size, 0, none⟩ 1 1 [.int .i8 0, .int .i16 0] rfl rfl (cell_two_newQ _ _ _ _) (fun x hx => by simp at hx; rcases hx with rfl | rfl <;> rfl) (by unfold maxLen; omega) (by omega) (by simp; omega) ?_; intro v' w3 hown' hgrow3 hnil3; obtain ⟨q5, cap5, hv5, hcap5, hq5⟩ := own_at hown' (by omega); subst hv5; have r3w := keepGE r3b hgrow3 (own_neS ownJ2 r3b (by decide)); obtain ⟨y0, y1, y2, y3, y4⟩ := two_fact r3w))
        have r2w := keepGE r2b hgrow3 (own_neS ownJ2 r2b (by decide))
        have ownS3 := own_growE ownS2 hgrow3 (own_ne2 ownS2 ownJ2 (by decide))
        have hsz3 := hgrow3.size
        exact ⟨⟨ms ++ [(0, 0)], _, by rw [List.length_append, List.length_singleton]; omega, HN.out, by rw [List.length_append, List.length_singleton]; rfl, (Below.heap_setCell w3 ⟨w1.heap.size, 1, none⟩ _ w.heap.size (by simp; omega)).trans r2w, set1_at r3w, own_setE ownS3 (own_neS ownS3 r3w (by decide)), own_setE (by rw [lcj_app, List.length_append]; exact hown') (own_neS hown' r3w (by decide)), ((keepS hsrc2 hgrow3 hneJ3).setE (by omega)).up (by rw [List.length_append, List.length_singleton]; omega), Chg.set ((hch2.alE _).trans (Chg.of_grown hgrow3 (fun q hq => .inr (ownJ2.lt q hq).1))) (.inr (by omega))⟩, by simp [intOf]; omega⟩
      · have hbw2 : Below B W w2 := hch2.below hb hB (fun q hq => by rcases hq with h | h <;> omega)
        have hneS2 := hsrc2.ne ownS2 (by decide)
        have hneJ2 := hsrc2.ne ownJ2 (by decide)
        have hgs2 := hsrc2.ltQ
        (go_wp2_with fail; refine (amongP_any (fun v => 0 ≤ v ∧ v < 1000) hs h8 c _ (hbw2.alloc (by omega) _) g _ hgB (by omega) (hsrc2.keep (Below.alloc (Below.refl _ _) (Nat.le_refl _) _) (by omega)) (q := w2.heap.size) (n := 6) (by omega) (by omega) (drawn_cells6 w2 _)).mono ?_; rintro e w4 ⟨r, rfl, hr, hsrc4, hc4⟩)
        have r2d := (hc4.block _ (by simp; omega) ngw).trans (heap_alloc_past r2b (o := .cells #[.int .i64 0, .int .i64 0, .int .i64 500, .int .i64 900, .int .i64 999, .int .i64 123] 2))
        have r3d := (hc4.block _ (by simp; omega) ngw1).trans (heap_alloc_past r3b (o := .cells #[.int .i64 0, .int .i64 0, .int .i64 500, .int .i64 900, .int .i64 999, .int .i64 123] 2))
        have r5d := (hc4.block _ (by simp; omega) (by omega)).trans (heap_alloc_past r5b (o := .cells #[.int .i64 0, .int .i64 0, .int .i64 500, .int .i64 900, .int .i64 999, .int .i64 123] 2))
        have ownS4 := hc4.row (ownS2.alloc _) (fun q h1 h2 => hneS2 (by rw [h1, h2]))
        have ownJ4 := hc4.row (ownJ2.alloc _) (fun q h1 h2 => hneJ2 (by rw [h1, h2]))
        have hch4 : Chg w w4 (RE w g) := (hch2.alE _).trans (hc4.impE (fun k hk => .inl hk))
        have hr' : 0 ≤ r ∧ r < 1000 := hr
        have hsz4 := hc4.size
        rw [World.size_alloc] at hsz4
        have e2 : IntKind.i16.wrap r = r := IntWalk.i16_in _ ⟨by omega, by omega⟩
        clear hc4 r2b r3b r5b ownS2 ownJ2 hsrc2 hch2 f0 f1 f2 f3 f4 j0 j1 j2 j3 j4 hr
        obtain ⟨f0, f1, f2, f3, f4⟩ := two_fact r3d
        obtain ⟨j0, j1, j2, j3, j4⟩ := two_fact r5d
        go_upto_region 8 with (fail)
        have hneS4 := own_neS ownS4 r5d (by decide)
        have hbg : g ≠ wr.heap.size := by omega
        refine wp_at (fun u => u.heap[w.heap.size]? = some (.cells #[.slice none 0 0, .slice none 0 0] 49) ∧ u.heap[w1.heap.size]? = some (.cells #[.slice (some ⟨q, 0, none⟩) ys.length cap, v] 49) ∧ u.heap[wr.heap.size]? = some (.cells #[.int .i8 1, .int .i16 r] 114) ∧ u.ownsRow w.heap.size 5 1 (.slice (some ⟨q, 0, none⟩) ys.length cap) ys.length (ys.map (Value.int .u8)) ∧ u.ownsRow w.heap.size 114 2 v ms.length (lcj ms) ∧ SrcB u g A xs.length c (100 + 4 * ms.length + 2 + 2) ∧ Chg w u (RE w g) ∧ wr.heap.size + 2 ≤ u.heap.size) _ ⟨set2E_o (by omega) r2d, set2E_o (by omega) r3d, set2E r5d, own_setE (own_setE ownS4 hneS4) hneS4, own_setE (own_setE ownJ4 hneJ5) hneJ5, (hsrc4.setE hbg).setE hbg, Chg.set (Chg.set hch4 (.inr (by omega))) (.inr (by omega)), by simp; omega⟩ ?_
        clear r2d r3d r5d ownS4 ownJ4 hsrc4 hch4 f0 f1 f2 f3 f4 j0 j1 j2 j3 j4 hneS4 hneJ5
        rintro u ⟨r2e, r3e, r5e, ownS5, ownJ5, hsrc5, hch5, hsz5⟩
        obtain ⟨f0, f1, f2, f3, f4⟩ := two_fact r3e
        obtain ⟨j0, j1, j2, j3, j4⟩ := two_fact r5e
        have HN := Lib.hid (joint_snoc HJ.out (a := 1) (b := r) (by unfold jOK; simp; omega))
        have hneJ3 := hsrc5.ne ownJ5 (by decide)
        go_wp2_with (first | (at_builtin; refine wpList_append_own _ rfl _ _ 47 rfl w.heap.size 114 i0 (.agg #[.int .i8 0, .int .i16 0]) 2 4 undJt hi hz0 hz1 hz2 rfl (by decide) _ _ _ rfl (ownJ5.alloc _) ⟨u.heap.size, 0, none⟩ 1 1 [.int .i8 1, .int .i16 r] rfl rfl (cell_two_newQ _ _ _ _) (fun x hx => by simp at hx; rcases hx with rfl | rfl <;> rfl) (by unfold maxLen; omega) (by omega) (by simp; omega) ?_; intro v' w3 hown' hgrow3 hnil3; obtain ⟨q5, cap5, hv5, hcap5, hq5⟩ := own_at hown' (by omega); subst hv5; have r3w := keepGE r3e hgrow3 (own_neS ownJ5 r3e (by decide)); obtain ⟨y0, y1, y2, y3, y4⟩ := two_fact r3w))
        have r2w := keepGE r2e hgrow3 (own_neS ownJ5 r2e (by decide))
        have ownS3 := own_growE ownS5 hgrow3 (own_ne2 ownS5 ownJ5 (by decide))
        have hsz3 := hgrow3.size
        exact ⟨⟨ms ++ [(1, r)], _, by rw [List.length_append, List.length_singleton]; omega, HN.out, by rw [List.length_append, List.length_singleton]; rfl, (Below.heap_setCell w3 ⟨w1.heap.size, 1, none⟩ _ w.heap.size (by simp; omega)).trans r2w, set1_at r3w, own_setE ownS3 (own_neS ownS3 r3w (by decide)), own_setE (by rw [lcj_app, List.length_append]; exact hown') (own_neS hown' r3w (by decide)), ((keepS hsrc5 hgrow3 hneJ3).setE (by omega)).up (by rw [List.length_append, List.length_singleton]; omega), Chg.set ((hch5.alE _).trans (Chg.of_grown hgrow3 (fun q hq => .inr (ownJ5.lt q hq).1))) (.inr (by omega))⟩, by simp [intOf]; omega⟩
    · obtain hml2 : ms.length + 1 = ys.length := by omega
      have g0 : ¬ (ms.length : Int) + 1 < (ys.length : Int) := by omega
      obtain ⟨z0, z1, z2, z3, z4⟩ := two_fact r2
      have fin : ∀ X : World, X = ((wr.setCell ⟨w.heap.size, 0, none⟩ (.slice (some ⟨q, 0, none⟩) ys.length cap)).setCell ⟨w.heap.size, 1, none⟩ v) → MotR g A xs.length c w (.returned (.agg #[.slice (some ⟨q, 0, none⟩) ys.length cap, v])) X := by
        rintro X rfl
        have nS := own_neS ownS r2 (by decide)
        have nJ := own_neS ownJ r2 (by decide)
        exact ⟨ys, ms, q, cap, v, rfl, hl, HB.out, hml2, HJ.out, own_setE (own_setE ownS nS) nS, own_setE (own_setE ownJ nJ) nJ, ((hsrc.setE (by omega)).setE (by omega)).up (by omega), Chg.set (Chg.set hch (.inr (Nat.le_refl _))) (.inr (Nat.le_refl _))⟩
      have FIN := Lib.hid fin
      have R2 := Lib.hid (set2E (a' := .slice (some ⟨q, 0, none⟩) ys.length cap) (b' := v) r2)
      have hJ := ownJ.2
      clear fin ownS ownJ hsrc hch r2 r3
      rcases hJ with ⟨hv, _⟩ | ⟨q6, cap6, cur6, hv, _⟩
      · subst hv
        go_wp2
        exact bodyPost_ret (results_cell_row (by rfl) _ _ w.heap.size 49 _ (0, 0) _ rfl R2.out Try.underlying49 rfl (by kernel_rfl)) rfl (FIN.out _ rfl)
      · subst hv
        go_wp2
        exact bodyPost_ret (results_cell_row (by rfl) _ _ w.heap.size 49 _ (0, 0) _ rfl R2.out Try.underlying49 rfl (by kernel_rfl)) rfl (FIN.out _ rfl)
end Go.Proofs.Ytinjlofefmjolaa.X
