/- A motion copied by the laws, as rows of its own. Conditions: none. -/
import Derived.Test.YtcaaljcfdahpaaaKMark2
namespace Go.Proofs.Ytcaaljcfdahpaaa.X
open Go.RowKit
set_option linter.unusedVariables false
set_option linter.unusedSimpArgs false
set_option maxRecDepth 100000
theorem own_mo {w : World} {b : Nat} {e : TypeId} {sz : Nat} {v : Value} {n : Nat} {ys : List Value} (h : w.ownsRow b e sz v n ys) (os : Array Obj) (d : Nat) : (mo w os d).ownsRow b e sz v n ys := by
  have hlt := h.lt
  refine ⟨h.1, ?_⟩
  rcases h.2 with h0 | ⟨g, cap, cur, e1, e2, e3, h0⟩
  · exact .inl h0
  · subst e1
    exact .inr ⟨g, cap, cur, rfl, e2, (heap_mo _ _ _ _ (hlt g rfl).2).trans e3, h0⟩
theorem own_lit (w : World) (b : Nat) (hb : b ≤ w.heap.size) (e : TypeId) (sz : Nat) (cs : Array Value) (n : Nat) (hm : n ≤ maxLen) (hs : cs.size = n * sz) (g : Nat) (hg : g = w.heap.size) : (w.alloc (.cells cs e)).ownsRow b e sz (.slice (some ⟨g, 0, none⟩) n n) n cs.toList := by
  subst hg
  exact World.ownsRow_lit w cs n hb hm hs
theorem alloc_mo (w : World) (o : Obj) : w.alloc o = mo w #[o] w.drawn := by
  have h := mo_alloc w #[] w.drawn o
  rw [mo_nil] at h
  exact h
theorem nums_keep {q : IntKind} {w1 w2 : World} {cur : Array Value} {t : TypeId} {g g0 : Nat} {xs : List Int} (h : Nums q (w1.alloc (.cells cur t)) (w1.alloc (.cells cur t)).heap.size (some ⟨g0, 0, none⟩) xs) (hg0 : g0 = w1.heap.size) (hg : g = w1.heap.size) (hs : w2.heap.size = w1.heap.size) (o : Obj) (os : Array Obj) (d : Nat) : Nums q (mo ((w2.alloc (.cells cur t)).alloc o) os d) (mo ((w2.alloc (.cells cur t)).alloc o) os d).heap.size (some ⟨g, 0, none⟩) xs := by
  subst hg0
  subst hg
  rw [alloc_mo w1] at h
  have h2 := h.swap (w2 := w2) (d2 := w2.drawn) hs (fun b off e => by injection e with e; injection e with e1; omega)
  rw [← alloc_mo] at h2
  exact h2.up (Below.trans (Below.alloc (Below.refl _ _) (Nat.le_refl _) o) (below_mo _ _ _ (by simp)))
theorem prs_keep {k0 k1 : IntKind} {w1 w2 : World} {cur : Array Value} {t : TypeId} {g g0 : Nat} {xs : List (Int × Int)} {os : Array Obj} {d : Nat} (h : Prs k0 k1 (mo (w1.alloc (.cells cur t)) os d) (mo (w1.alloc (.cells cur t)) os d).heap.size (some ⟨g0, 0, none⟩) xs) (hg0 : g0 = w1.heap.size) (hg : g = w1.heap.size) (hs : w2.heap.size = w1.heap.size) : Prs k0 k1 (mo (w2.alloc (.cells cur t)) os d) (mo (w2.alloc (.cells cur t)) os d).heap.size (some ⟨g, 0, none⟩) xs := by
  subst hg0
  subst hg
  rw [alloc_mo w1, mo_mo] at h
  rw [alloc_mo w2, mo_mo]
  exact h.swap hs (fun b off e => by injection e with e; injection e with e1; omega)
/-- The call hands back a motion in two new blocks that it owns. -/
def RetMW (xs : List Int) (js : List (Int × Int)) (w : World) (e : Ending) (w' : World) : Prop :=
  ∃ (gA gL : Nat) (va vl : List Value), e = .returned (.agg #[.slice (some ⟨gA, 0, none⟩) xs.length xs.length, .slice (some ⟨gL, 0, none⟩) js.length js.length]) ∧ gA ≠ gL ∧ w'.ownsRow w.heap.size 5 1 (.slice (some ⟨gA, 0, none⟩) xs.length xs.length) xs.length va ∧ w'.ownsRow w.heap.size 158 2 (.slice (some ⟨gL, 0, none⟩) js.length js.length) js.length vl ∧ Nums .u8 w' w'.heap.size (some ⟨gA, 0, none⟩) xs ∧ Prs .i8 .i16 w' w'.heap.size (some ⟨gL, 0, none⟩) js ∧ Below w.heap.size w w'
set_option maxHeartbeats 1000000 in
theorem toMotion_own {A : Option Addr} {xs : List Int} {W : World} {B : Nat} (hs : Nums .u8 W B A xs) (h8 : b8 xs) (c : Nat) {L : Option Addr} {js : List (Int × Int)} {V : World} {C : Nat} (hl : Prs .i8 .i16 V C L js) (hj : j8 js) (cl : Nat) (w : World) (hb : Below B W w) (hv : Below C V w) : Calls Try.prog 34 #[.agg #[.slice A xs.length c, .slice L js.length cl]] w (RetMW xs js w) := by
  have hB := hs.bsz hb
  have hC := hl.bsz hv
  have hn := hs.len
  have hm := hl.len
  go_enter Try.func34, Try.ntmps34
  go_wp2_with fail
  refine (toStack_own hs h8 _ _ rfl _ (by repeat' (first | (with_reducible first | assumption | exact Below.refl _ _ | refine Below.drew ?_ | refine Below.alloc ?_ ?_ _ | refine Below.setCell ?_ ?_ _ | refine below_setR ?_ ?_ _ | refine below_dn ?_ _ | refine Below.trans ?_ (below_mo _ _ _ ?_) | refine Below.trans ?_ (below_mq _ _ ?_) | exact Nat.le_refl _) | (simp; done) | (simp; omega) | omega))).mono ?_
  rintro e w' ⟨cur1, rfl, rfl, hz1, h1⟩
  go_wp2_with fail
  refine (toJointS_own hl _ _ (by repeat' (first | (with_reducible first | assumption | exact Below.refl _ _ | refine Below.drew ?_ | refine Below.alloc ?_ ?_ _ | refine Below.setCell ?_ ?_ _ | refine below_setR ?_ ?_ _ | refine below_dn ?_ _ | refine Below.trans ?_ (below_mo _ _ _ ?_) | refine Below.trans ?_ (below_mq _ _ ?_) | exact Nat.le_refl _) | (simp; done) | (simp; omega) | omega))).mono ?_
  rintro e w' ⟨cur2, os2, d2, rfl, rfl, hz2, h2⟩
  go_wp2
  refine bodyPost_ret (v := .agg #[.slice (some ⟨w.heap.size + 1 + 1 + 1, 0, none⟩) xs.length xs.length, .slice (some ⟨w.heap.size + 1 + 1 + 1 + 1, 0, none⟩) js.length js.length]) (by simp [results, Try.results34, go_sem]) rfl ⟨_, _, cur1.toList, cur2.toList, rfl, by omega, ?_, ?_, ?_, ?_, (by repeat' (first | (with_reducible first | assumption | exact Below.refl _ _ | refine Below.drew ?_ | refine Below.alloc ?_ ?_ _ | refine Below.setCell ?_ ?_ _ | refine below_setR ?_ ?_ _ | refine below_dn ?_ _ | refine Below.trans ?_ (below_mo _ _ _ ?_) | refine Below.trans ?_ (below_mq _ _ ?_) | exact Nat.le_refl _) | (simp; done) | (simp; omega) | omega))⟩
  · exact own_mo ((own_lit _ _ (by simp; omega) _ 1 cur1 _ (by unfold maxLen; omega) (by omega) _ (by simp)).alloc _) _ _
  · exact own_mo (own_lit _ _ (by simp; omega) _ 2 cur2 _ (by unfold maxLen; omega) hz2 _ (by simp)) _ _
  · exact nums_keep h1 rfl (by simp) (by simp) _ _ _
  · exact prs_keep h2 rfl (by simp) (by simp)
end Go.Proofs.Ytcaaljcfdahpaaa.X
