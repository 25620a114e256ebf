/- ConvergentsOf: the program's, with a first ratio of zero taken out, and the reference's. Conditions: none. -/
import Derived.Test.YtinjlofefmjolaaKFracY
import Derived.Lib.SliceRun
namespace Go.Proofs.Ytinjlofefmjolaa.X
open Go.RowKit
set_option linter.unusedVariables false
set_option linter.unusedSimpArgs false
set_option maxRecDepth 100000
theorem lcq_set (q : IntKind) : ∀ (l : List (Int × Int)) (i : Nat) (x : Int × Int), lcq q (l.set i x) = ((lcq q l).set (i * 2) (.int q x.1)).set (i * 2 + 1) (.int q x.2)
  | [], i, x => by simp [lcq]
  | r :: l, 0, x => by simp [lcq]
  | r :: l, i + 1, x => by
    rw [show (i + 1) * 2 = i * 2 + 1 + 1 by omega]
    simp [lcq, lcq_set q l i x]
/-- a list whose first places have been moved down by one -/
def shL (l : List (Int × Int)) (k : Nat) : List (Int × Int) := (List.range l.length).map fun m => if m + 1 < k then l.getD (m + 1) (0, 0) else l.getD m (0, 0)
theorem shL_len (l : List (Int × Int)) (k : Nat) : (shL l k).length = l.length := by simp [shL]
theorem shL_at (l : List (Int × Int)) (k : Nat) {m : Nat} (hm : m < l.length) : (shL l k)[m]? = some (if m + 1 < k then l.getD (m + 1) (0, 0) else l.getD m (0, 0)) := by
  unfold shL
  rw [List.getElem?_map, List.getElem?_range hm]
  rfl
theorem shL_1 (l : List (Int × Int)) : shL l 1 = l := by
  apply List.ext_getElem?
  intro m
  by_cases hm : m < l.length
  · rw [shL_at l 1 hm, if_neg (by omega), List.getD_eq_getElem?_getD, List.getElem?_eq_getElem hm]
    rfl
  · rw [List.getElem?_eq_none (by rw [shL_len]; omega), List.getElem?_eq_none (by omega)]
theorem shL_up (l : List (Int × Int)) (p : Nat) : (shL l (p + 1)).set p (l.getD (p + 1) (0, 0)) = shL l (p + 1 + 1) := by
  apply List.ext_getElem?
  intro m
  by_cases hm : m < l.length
  · by_cases e : p = m
    · subst e
      rw [List.getElem?_set_self (by rw [shL_len]; exact hm), shL_at l _ hm, if_pos (by omega)]
    · rw [List.getElem?_set_ne e, shL_at l _ hm, shL_at l _ hm]
      by_cases c : m + 1 < p + 1
      · rw [if_pos c, if_pos (by omega)]
      · rw [if_neg c, if_neg (by omega)]
  · rw [List.getElem?_eq_none (by rw [List.length_set, shL_len]; omega), List.getElem?_eq_none (by rw [shL_len]; omega)]
theorem shL_end (l : List (Int × Int)) {p : Nat} (h : l.length = p + 1) (x : Int × Int) : ((shL l (p + 1)).set p x).take p = l.drop 1 := by
  apply List.ext_getElem?
  intro m
  rw [List.getElem?_take, List.getElem?_drop]
  by_cases hm : m < p
  · rw [if_pos hm, List.getElem?_set_ne (by omega), shL_at l _ (by omega), if_pos (by omega), List.getD_eq_getElem?_getD, Nat.add_comm 1 m, List.getElem?_eq_getElem (by omega)]
    rfl
  · rw [if_neg hm, List.getElem?_eq_none (by omega)]
theorem Prs.take {k0 k1 : IntKind} {W : World} {B : Nat} {A : Option Addr} {xs : List (Int × Int)} (h : Prs k0 k1 W B A xs) (m : Nat) : Prs k0 k1 W B A (xs.take m) := by
  refine ⟨fun hn => ?_, by have := h.len; rw [List.length_take]; omega, h.le⟩
  have h0 : 0 < xs.length := by rw [List.length_take] at hn; omega
  obtain ⟨b, off, e, hlt, hc⟩ := h.sl h0
  refine ⟨b, off, e, hlt, fun i x hx j u hu => hc i x ?_ j u hu⟩
  rw [List.getElem?_take] at hx
  split at hx
  · exact hx
  · cases hx
theorem own_cell2 {w : World} {b g n c : Nat} {e : TypeId} {l : List (Int × Int)} (h : w.ownsRow b e 2 (.slice (some ⟨g, 0, none⟩) n c) n (lcq .i64 l)) {k : Nat} {x : Int × Int} (hx : l[k]? = some x) : w.cell? ⟨g, k * 2, none⟩ = some (.int .i64 x.1) ∧ w.cell? ⟨g, k * 2 + 1, none⟩ = some (.int .i64 x.2) := by
  obtain ⟨c0, c1⟩ := lcq_at .i64 l k x hx
  have h0 := h.cells (g := g) rfl _ _ c0
  have h1 := h.cells (g := g) rfl _ _ c1
  rw [add_plain rfl] at h0 h1
  exact ⟨by simpa using h0, by simpa using h1⟩
theorem own_fz {w : World} {b g n c sz : Nat} {e : TypeId} {ys : List Value} (h : w.ownsRow b e sz (.slice (some ⟨g, 0, none⟩) n c) n ys) (i : Nat) : w.frozen? ⟨g, i, none⟩ = false := by
  rcases h.2 with ⟨h', _⟩ | ⟨g', cap', cur, h', hb, hg, _⟩
  · simp at h'
  · simp only [Value.slice.injEq, Option.some.injEq, Addr.mk.injEq, and_true, true_and] at h'
    obtain ⟨rfl, rfl⟩ := h'
    exact frozen_of_row w g i _ e hg
theorem own_cap {w : World} {b g n c sz : Nat} {e : TypeId} {ys : List Value} (h : w.ownsRow b e sz (.slice (some ⟨g, 0, none⟩) n c) n ys) : n ≤ c ∧ b ≤ g ∧ g < w.heap.size := by
  have hl := h.lt g rfl
  rcases h.2 with ⟨h', _⟩ | ⟨g', cap', cur, h', hb, hg, hnc, _⟩
  · simp at h'
  · simp only [Value.slice.injEq, Option.some.injEq, Addr.mk.injEq, and_true, true_and] at h'
    obtain ⟨rfl, rfl⟩ := h'
    exact ⟨hnc, hl⟩
/-- one element of two cells is cleared -/
theorem run_clear_1 {P : Program} (w : World) (t e ty : TypeId) (z x y : Value) (ht : P.underlying t = some (.slice e)) (hv : ∀ w, (zeroValue e).run P w = .ok z w) (hz : z.cells = #[x, y]) (hx : x.oneCell' = true) (hy : y.oneCell' = true) (b o c : Nat)
    (h0 : (w.cell? ⟨b, o, none⟩).isSome = true) (h1 : (w.cell? ⟨b, o + 1, none⟩).isSome = true) (f0 : w.frozen? ⟨b, o, none⟩ = false) (f1 : w.frozen? ⟨b, o + 1, none⟩ = false) :
    (Builtin.clear_ #[t] ty #[.slice (some ⟨b, o, none⟩) 1 c]).run P w = .ok (.tuple #[]) ((w.setCell ⟨b, o, none⟩ x).setCell ⟨b, o + 1, none⟩ y) := by
  have hzc : (Builtin.zeroCells z.cells 1).toList = [x, y] := by rw [hz]; simp [Builtin.zeroCells, List.range_succ]
  have hst := run_storeCells_cells (P := P) b o [x, y] 0 w (by
    intro j hj
    simp at hj
    rcases (show j = 0 ∨ j = 1 by omega) with rfl | rfl
    · simpa using h0
    · simpa using h1) (by
    intro j hj
    simp at hj
    rcases (show j = 0 ∨ j = 1 by omega) with rfl | rfl
    · simpa using f0
    · simpa using f1) (by
    intro v hv'
    simp at hv'
    rcases hv' with rfl | rfl
    · exact hx
    · exact hy)
  simp only [Nat.add_zero] at hst
  simp [Builtin.clear_, run_underlying ht, hv, hzc, hst]
  rfl
theorem zeroR (w : World) : (zeroValue 25).run Try.prog w = .ok (.agg #[.int .i64 0, .int .i64 0]) w := by kernel_rfl
set_option maxHeartbeats 4000000 in
theorem delR_no {L : Option Addr} {ts : List (Int × Int)} {V : World} {C : Nat} (hl : Prs .i64 .i64 V C L ts) (cl : Nat) (hz : ∀ k : Nat, k < ts.length → ¬ p1 ts (k : Int) = 0) (w : World) (hv : Below C V w) : Calls Try.prog 46 #[.slice L ts.length cl, .func (.func 47) #[] #[]] w fun e w' => e = .returned (.slice L ts.length cl) ∧ Below w.heap.size w w' := by
  have K := Lib.hid (idxR_no hl cl hz w hv)
  go_enter Try.func46, Try.ntmps46
  (go_wp2_with fail; refine (K.out).mono ?_; rintro e w' ⟨rfl, hb_⟩; obtain ⟨os0, d0, rfl⟩ := mo_of hb_; clear hb_)
  go_wp2
  go_ret
  exact ⟨rfl, (by repeat' (first | (with_reducible first | assumption | exact Below.refl _ _ | refine Below.drew ?_ | refine Below.alloc ?_ ?_ _ | refine Below.setCell ?_ ?_ _ | refine below_setR ?_ ?_ _ | refine below_dn ?_ _ | refine Below.trans ?_ (below_mo _ _ _ ?_) | refine Below.trans ?_ (below_mq _ _ ?_) | exact Nat.le_refl _) | (simp; done) | (simp; omega) | omega))⟩
set_option maxHeartbeats 8000000 in
theorem delR_0 {l : List (Int × Int)} {base g cap : Nat} (hn : 2 ≤ l.length ∧ l.length ≤ 1000) (h0 : p1 l ((0 : Nat) : Int) = 0) (hz : ∀ k : Nat, 1 ≤ k → k < l.length → ¬ p1 l (k : Int) = 0) (w : World) (hown : w.ownsRow base 25 2 (.slice (some ⟨g, 0, none⟩) l.length cap) l.length (lcq .i64 l)) : Calls Try.prog 46 #[.slice (some ⟨g, 0, none⟩) l.length cap, .func (.func 47) #[] #[]] w fun e w' => ∃ c, e = .returned (.slice (some ⟨g, 0, none⟩) (l.length - 1) c) ∧ Prs .i64 .i64 w' w'.heap.size (some ⟨g, 0, none⟩) (l.drop 1) ∧ Chg w w' (fun k => k = g) := by
  obtain ⟨A, c, e1, N1⟩ := own_prs (log := l) hown (by omega)
  injection e1 with e1 _ e2
  subst e1
  have K := Lib.hid (idxR_0 N1 cap (by omega) h0 w (Below.refl _ _))
  have hcap := own_cap hown
  have HZ := Lib.hid hz
  clear N1 hz h0 e2
  go_enter Try.func46, Try.ntmps46
  (go_wp2_with fail; refine K.out.mono ?_; rintro e w' ⟨rfl, hb_⟩)
  obtain ⟨os0, d0, rfl⟩ := mo_of hb_
  clear hb_ K
  have hown1 : (mo w os0 d0).ownsRow base 25 2 (.slice (some ⟨g, 0, none⟩) l.length cap) l.length (lcq .i64 (shL l 1)) := by
    rw [shL_1]
    exact (Chg.of_below (below_mo w os0 d0 (Nat.le_refl _)) (fun _ => False)).row hown (fun _ _ h => h)
  have hch1 : Chg w (mo w os0 d0) (fun k => k = g) := Chg.of_below (below_mo w os0 d0 (Nat.le_refl _)) _
  clear hown
  go_wp2
  go_loopw [5, 6] (fun i j wr => ∃ p k : Nat, k = p + 1 ∧ k ≤ l.length ∧ i = .int .i64 (p : Int) ∧ j = .int .i64 (k : Int) ∧ wr.ownsRow base 25 2 (.slice (some ⟨g, 0, none⟩) l.length cap) l.length (lcq .i64 (shL l k)) ∧ Chg w wr (fun k => k = g)) (fun _ j _ => l.length - (intOf j).toNat)
  case atStart => exact ⟨0, 1, rfl, by omega, rfl, rfl, hown1, hch1⟩
  case round =>
    clear hown1 hch1
    obtain ⟨p, k, hk, hkn, rfl, rfl, hown, hch⟩ := hrel
    have hcp := own_cap hown
    by_cases hlt : k < l.length
    · have g0 : (0 : Int) ≤ (k : Int) := by omega
      have g1 : (k : Int) < (l.length : Int) := by omega
      have g2 : (0 : Int) ≤ (p : Int) := by omega
      have g3 : (p : Int) < (l.length : Int) := by omega
      have hs := shL_at l k hlt
      rw [if_neg (by omega)] at hs
      obtain ⟨x0, x1⟩ := own_cell2 hown hs
      have hz := HZ.out k (by omega) hlt
      have hx : p1 l (k : Int) = (l.getD k (0, 0)).1 := by unfold p1; rw [Int.toNat_natCast]
      rw [hx] at hz
      have e1 : IntKind.i64.wrap ((p : Int) + 1) = (k : Int) := (IntWalk.i64_in _ ⟨by omega, by omega⟩).trans (by omega)
      have e2 : IntKind.i64.wrap ((k : Int) + 1) = ((k + 1 : Nat) : Int) := (IntWalk.i64_in _ ⟨by omega, by omega⟩).trans (by omega)
      have HU := Lib.hid (shL_up l p)
      rw [show p + 1 = k by omega] at HU
      generalize l.getD k (0, 0) = x at *
      have HKP := Lib.hid hk
      have hpk : p < l.length := by omega
      clear hk
      go_upto_region 9 with (go_at_call 47; refine (isZero_n _ _ hz _).mono ?_; rintro e w' ⟨rfl, hb_⟩; obtain ⟨os_, d_, rfl⟩ := mo_of hb_; clear hb_)
      refine wp_at (fun u => u.ownsRow base 25 2 (.slice (some ⟨g, 0, none⟩) l.length cap) l.length (lcq .i64 (shL l k)) ∧ Chg w u (fun k => k = g) ∧ u.heap[wr.heap.size]? = some (.cells #[.int .i64 x.1, .int .i64 x.2] 25)) _ ⟨(Chg.of_below (x := wr) (R := fun _ => False) (by repeat' (first | (with_reducible first | assumption | exact Below.refl _ _ | refine Below.drew ?_ | refine Below.alloc ?_ ?_ _ | refine Below.setCell ?_ ?_ _ | refine below_setR ?_ ?_ _ | refine below_dn ?_ _ | refine Below.trans ?_ (below_mo _ _ _ ?_) | refine Below.trans ?_ (below_mq _ _ ?_) | exact Nat.le_refl _) | (simp; done) | (simp; omega) | omega))).row hown (fun _ _ h => h), hch.trans (Chg.of_below (by repeat' (first | (with_reducible first | assumption | exact Below.refl _ _ | refine Below.drew ?_ | refine Below.alloc ?_ ?_ _ | refine Below.setCell ?_ ?_ _ | refine below_setR ?_ ?_ _ | refine below_dn ?_ _ | refine Below.trans ?_ (below_mo _ _ _ ?_) | refine Below.trans ?_ (below_mq _ _ ?_) | exact Nat.le_refl _) | (simp; done) | (simp; omega) | omega)) _), (by repeat' (first | (with_reducible assumption) | (with_reducible refine heap_mo_at ?_) | (with_reducible refine heap_mq_at ?_) | (with_reducible refine heap_drew_at ?_) | ((with_reducible refine heap_alloc_at ?_); first | rfl | (simp; done)) | (with_reducible refine heap_alloc_past ?_) | ((with_reducible apply heap_set_at); (first | rfl | (simp; done))) | ((with_reducible apply heap_set_past); (first | (simp; done) | (simp; omega) | omega)) | ((with_reducible apply heap_setC_past); (first | (simp; done) | (simp; omega) | omega)) | fail))⟩ ?_
      clear hown hch x0 x1
      rintro u ⟨hown, hch, r7⟩
      obtain ⟨y0, y1, _, _⟩ := two_atQ r7
      obtain ⟨v, hv⟩ : ∃ v, (shL l k)[p]? = some v := ⟨_, shL_at l k hpk⟩
      obtain ⟨x0, x1⟩ := own_cell2 hown hv
      have f0 := own_fz hown (p * 2)
      have f1 := own_fz hown (p * 2 + 1)
      have hcu := own_cap hown
      have hne : ¬ wr.heap.size = g := by omega
      have hne2 : ¬ g = wr.heap.size := by omega
      go_wp2
      exact ⟨⟨k, k + 1, rfl, hlt, rfl, rfl, by rw [← HU.out, lcq_set]; exact ((hown.stored (p * 2) _).1.stored (p * 2 + 1) _).1, Chg.set (Chg.set hch rfl) rfl⟩, by simp [intOf]; omega⟩
    · obtain rfl : k = l.length := by omega
      have g0 : ¬ (l.length : Int) < (l.length : Int) := by omega
      have g2 : (0 : Int) ≤ (p : Int) := by omega
      have g3 : (p : Int) ≤ (l.length : Int) := by omega
      have g4 : p ≤ l.length := by omega
      have g5 : l.length ≤ cap := hcp.1
      have g6 : ¬ p = cap := by omega
      have g7 : l.length - p = 1 := by omega
      have g8 : p ≤ cap := by omega
      obtain ⟨v, hv⟩ : ∃ v, (shL l l.length)[p]? = some v := ⟨_, shL_at l _ (by omega)⟩
      obtain ⟨x0, x1⟩ := own_cell2 hown hv
      have hcl : ∀ ty, (Builtin.clear_ #[32] ty #[.slice (some ⟨g, p * 2, none⟩) 1 (cap - p)]).run Try.prog wr = .ok (.tuple #[]) ((wr.setCell ⟨g, p * 2, none⟩ (.int .i64 0)).setCell ⟨g, p * 2 + 1, none⟩ (.int .i64 0)) := fun ty => run_clear_1 wr _ _ ty (.agg #[.int .i64 0, .int .i64 0]) _ _ undRat zeroR rfl rfl rfl g (p * 2) (cap - p) (by rw [x0]; rfl) (by rw [x1]; rfl) (own_fz hown _) (own_fz hown _)
      have hs := hown.stored (p * 2) (.int .i64 0)
      have hs2 := hs.1.stored (p * 2 + 1) (.int .i64 0)
      have ho := hs2.1
      rw [← lcq_set .i64 _ p (0, 0)] at ho
      have hll : ((shL l l.length).set p (0, 0)).length = l.length := by rw [List.length_set, shL_len]
      obtain ⟨A, c', e3, N2⟩ := own_prs (log := (shL l l.length).set p (0, 0)) (by rw [hll]; exact ho) (by omega)
      injection e3 with e3 _ e4
      subst e3
      have N3 := N2.take p
      rw [show (shL l l.length) = shL l (p + 1) by rw [← hk], shL_end l hk] at N3
      rw [List.drop_one] at N3
      have HN3 := Lib.hid N3
      have HCH := Lib.hid (Chg.set (g := g) (i := p * 2 + 1) (v := .int .i64 0) (Chg.set (g := g) (i := p * 2) (v := .int .i64 0) hch rfl) rfl)
      clear N2 N3 hs hs2 ho e4 hll
      go_wp2_with (simp only [hcl])
      go_ret
      exact ⟨⟨_, rfl⟩, HN3.out, HCH.out⟩
end Go.Proofs.Ytinjlofefmjolaa.X
