/- Motions as the laws draw them. Conditions: none. -/
import Derived.Test.YtinjlofefmjolaaKEyeM
namespace Go.Proofs.Ytinjlofefmjolaa.X
open Go.RowKit
set_option linter.unusedVariables false
set_option linter.unusedSimpArgs false
set_option maxRecDepth 100000
theorem okO_drawn {ys : List Int} {js : List (Int × Int)} (hb : bases ys) (hl : 1 ≤ ys.length ∧ ys.length ≤ 4) (hj : js.length + 1 = ys.length) (h : ∀ k : Nat, k < js.length → jOK (p1 js (k : Int)) (p2 js (k : Int)) = true) : okO ys js = true := by
  have h2 : ∀ n : Nat, n ≤ js.length → jtTo js n = true := by
    intro n
    induction n with
    | zero => intro _; rfl
    | succ n ih => intro hn; unfold jtTo; rw [ih (by omega), h n (by omega)]; rfl
  unfold okO
  rw [(bases_ok hb hl).1, h2 _ (Nat.le_refl _), Bool.and_true, Bool.true_and, decide_eq_true_eq]
  omega
/-- The call hands back a motion. -/
def RetMot (w : World) (e : Ending) (w' : World) : Prop := ∃ (ys : List Int) (js : List (Int × Int)) (S L : Option Addr) (c cl : Nat), e = .returned (.agg #[.slice S ys.length c, .slice L js.length cl]) ∧ (1 ≤ ys.length ∧ ys.length ≤ 4) ∧ bases ys ∧ okO ys js = true ∧ Nums .u8 w' w'.heap.size S ys ∧ Prs .i8 .i16 w' w'.heap.size L js ∧ Below w.heap.size w w'
set_option maxHeartbeats 4000000 in
theorem A2Motion_any {A : Option Addr} {xs : List Int} {W : World} {B : Nat} (hs : Nums .u8 W B A xs) (h8 : b8 xs) (c : Nat) (w : World) (hb : Below B W w) : Calls Try.prog 25 #[.slice A xs.length c] w (RetMot w) := by
  have hB := hs.bsz hb
  go_enter Try.func25, Try.ntmps25
  (go_wp2_with fail; refine (l00From_any _ _ _ _).mono ?_; rintro e w' ⟨rfl, rfl⟩)
  (go_wp2_with fail; refine (l02Drawn_any hs h8 c _ (by repeat' (first | (with_reducible first | assumption | exact Below.refl _ _ | refine Below.drew ?_ | refine Below.alloc ?_ ?_ _ | refine Below.setCell ?_ ?_ _ | refine below_setR ?_ ?_ _ | refine below_dn ?_ _ | refine Below.trans ?_ (below_mo _ _ _ ?_) | refine Below.trans ?_ (below_mq _ _ ?_) | exact Nat.le_refl _) | (simp; done) | (simp; omega) | omega)) (w.heap.size + 1) (by omega) (by have := srcB_new (w.alloc (.cells #[.slice none 0 0, .slice none 0 0] 49)) A xs.length c 0; rw [World.size_alloc] at this; exact this)).mono ?_; rintro e w1 ⟨ys, js, q, cap, v, rfl, hl, hbs, hml, HJ, ownS, ownJ, src, ch⟩)
  have hz := ch.size
  simp only [World.size_alloc] at hz
  have r2 : w1.heap[w.heap.size]? = some (.cells #[.slice none 0 0, .slice none 0 0] 49) := (ch.block _ (by simp; omega) (by unfold RE; simp; omega)).trans (heap_alloc_past (heap_alloc_new w _))
  have hb1 : Below w.heap.size w w1 := ch.below (by repeat' (first | (with_reducible first | assumption | exact Below.refl _ _ | refine Below.drew ?_ | refine Below.alloc ?_ ?_ _ | refine Below.setCell ?_ ?_ _ | refine below_setR ?_ ?_ _ | refine below_dn ?_ _ | refine Below.trans ?_ (below_mo _ _ _ ?_) | refine Below.trans ?_ (below_mq _ _ ?_) | exact Nat.le_refl _) | (simp; done) | (simp; omega) | omega)) (by simp; omega) (fun k hk => by unfold RE at hk; simp at hk; omega)
  have fin : ∀ X : World, X = ((w1.setCell ⟨w.heap.size, 0, none⟩ (.slice (some ⟨q, 0, none⟩) ys.length cap)).setCell ⟨w.heap.size, 1, none⟩ v) → RetMot w (.returned (.agg #[.slice (some ⟨q, 0, none⟩) ys.length cap, v])) X := by
    rintro X rfl
    have nS := own_neS ownS r2 (by decide)
    have nJ := own_neS ownJ r2 (by decide)
    obtain ⟨A1, k1, e1, N1⟩ := own_numsQ (own_setE (i := 1) (x := v) (own_setE (i := 0) (x := .slice (some ⟨q, 0, none⟩) ys.length cap) ownS nS) nS) (by omega)
    obtain ⟨A2, k2, rfl, N2⟩ := own_prsJ (own_setE (i := 1) (x := v) (own_setE (i := 0) (x := .slice (some ⟨q, 0, none⟩) ys.length cap) ownJ nJ) nJ) (by omega)
    obtain ⟨rfl, rfl⟩ : some ⟨q, 0, none⟩ = A1 ∧ cap = k1 := by injection e1 with a b d; exact ⟨a, d⟩
    exact ⟨ys, js, _, _, _, _, rfl, hl, hbs, okO_drawn hbs hl hml HJ, N1, N2, Below.setCell (Below.setCell hb1 (Nat.le_refl _) _) (Nat.le_refl _) _⟩
  have FIN := Lib.hid fin
  have R2 := Lib.hid (set2E (a' := .slice (some ⟨q, 0, none⟩) ys.length cap) (b' := v) r2)
  have hJ := ownJ.2
  obtain ⟨f0, f1, f2, f3, f4⟩ := two_fact r2
  clear fin ownS ownJ src ch r2
  rcases hJ with ⟨hv, _⟩ | ⟨q6, cap6, cur6, hv, _⟩
  · subst hv
    go_wp2
    exact bodyPost_ret (results_cell_row (by rfl) _ _ w.heap.size 49 _ (0, 0) _ rfl R2.out Try.underlying49 rfl (by kernel_rfl)) rfl (FIN.out _ rfl)
  · subst hv
    go_wp2
    exact bodyPost_ret (results_cell_row (by rfl) _ _ w.heap.size 49 _ (0, 0) _ rfl R2.out Try.underlying49 rfl (by kernel_rfl)) rfl (FIN.out _ rfl)
end Go.Proofs.Ytinjlofefmjolaa.X
