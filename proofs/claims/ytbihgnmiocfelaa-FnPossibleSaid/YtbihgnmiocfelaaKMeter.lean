/- Meters: which are valid, what they count. Conditions: none. -/
import Derived.Test.YtbihgnmiocfelaaKLaws
import Derived.Test.YtbihgnmiocfelaaKNum
namespace Go.Proofs.Ytbihgnmiocfelaa.X
open Go.RowKit
set_option linter.unusedVariables false
set_option linter.unusedSimpArgs false
set_option maxRecDepth 100000
/-- a meter is valid -/
def okM (xs : List Int) (p q s : Int) : Bool := okS xs && inR p 1 1000 && inR q 1 1000 && inR s 0 (sizeTo xs xs.length - 1)
theorem okM_parts {xs : List Int} {p q s : Int} (h : okM xs p q s = true) : okS xs = true ∧ (1 ≤ p ∧ p ≤ 1000) ∧ (1 ≤ q ∧ q ≤ 1000) ∧ 0 ≤ s ∧ s ≤ szS xs - 1 := by
  unfold okM at h
  simp only [Bool.and_eq_true] at h
  exact ⟨h.1.1.1, inR_t.1 h.1.1.2, inR_t.1 h.1.2, inR_t.1 h.2⟩
set_option maxHeartbeats 1000000 in
theorem ValidMeter_any {A : Option Addr} {xs : List Int} {W : World} {B : Nat} (hs : Nums .u8 W B A xs) (h8 : b8 xs) (c : Nat) (p q s : Int) (w : World) (hb : Below B W w) : Calls Try.prog 58 #[.agg #[.slice A xs.length c, .int .i64 p, .int .i64 q, .int .i64 s]] w fun e w' => e = .returned (.bool (okM xs p q s)) ∧ Below w.heap.size w w' := by
  have hB := hs.bsz hb
  cases h1 : okS xs <;> cases h2 : inR p 1 1000 <;> cases h3 : inR q 1 1000
  all_goals
    go_enter Try.func58, Try.ntmps58
    go_wp2_with (first | (go_at_call 65; refine (ValidStack_any hs h8 _ _ rfl _ (by repeat' (first | (with_reducible first | assumption | exact Below.refl _ _ | refine Below.drew ?_ | refine Below.alloc ?_ ?_ _ | refine Below.setCell ?_ ?_ _ | refine below_setR ?_ ?_ _ | refine below_dn ?_ _ | refine Below.trans ?_ (below_mo _ _ _ ?_) | refine Below.trans ?_ (below_mq _ _ ?_) | exact Nat.le_refl _) | (simp; done) | (simp; omega) | omega))).mono ?_; rintro e w' ⟨rfl, rfl⟩) | (go_at_call 116; refine (within_ok _ _ _ _).mono ?_; rintro e w' ⟨rfl, rfl⟩) | (go_at_call 168; refine (hasValue_any hs h8 _ _ rfl _ (by repeat' (first | (with_reducible first | assumption | exact Below.refl _ _ | refine Below.drew ?_ | refine Below.alloc ?_ ?_ _ | refine Below.setCell ?_ ?_ _ | refine below_setR ?_ ?_ _ | refine below_dn ?_ _ | refine Below.trans ?_ (below_mo _ _ _ ?_) | refine Below.trans ?_ (below_mq _ _ ?_) | exact Nat.le_refl _) | (simp; done) | (simp; omega) | omega)) _).mono ?_; rintro e w' ⟨rfl, rfl⟩))
    go_ret
    exact ⟨by simp [okM, *], (by repeat' (first | (with_reducible first | assumption | exact Below.refl _ _ | refine Below.drew ?_ | refine Below.alloc ?_ ?_ _ | refine Below.setCell ?_ ?_ _ | refine below_setR ?_ ?_ _ | refine below_dn ?_ _ | refine Below.trans ?_ (below_mo _ _ _ ?_) | refine Below.trans ?_ (below_mq _ _ ?_) | exact Nat.le_refl _) | (simp; done) | (simp; omega) | omega))⟩
set_option maxHeartbeats 1000000 in
theorem l06Ok_any {A : Option Addr} {xs : List Int} {W : World} {B : Nat} (hs : Nums .u8 W B A xs) (h8 : b8 xs) (c : Nat) (p q s : Int) (w : World) (hb : Below B W w) (g : Nat) (c0 : w.cell? ⟨g, 0, none⟩ = some (.slice A xs.length c)) (c1 : w.cell? ⟨g, 1, none⟩ = some (.int .i64 p)) (c2 : w.cell? ⟨g, 2, none⟩ = some (.int .i64 q)) (c3 : w.cell? ⟨g, 3, none⟩ = some (.int .i64 s)) :
    Calls Try.prog 256 #[.pointer (some ⟨g, 0, none⟩)] w fun e w' => e = .returned (.bool (okM xs p q s)) ∧ Below w.heap.size w w' := by
  have hB := hs.bsz hb
  have hg : g < w.heap.size := block_lt_of_cell c0
  have z0 := sizeTo_bd h8 xs.length
  cases h1 : okS xs <;> cases h2 : inR p 1 1000 <;> cases h3 : inR q 1 1000
  all_goals
    go_enter Try.func256, Try.ntmps256
    go_wp2
    (refine wp_region_mq (by kernel_rfl) (by kernel_rfl) ?_; (repeat (first | go_big_quiet_step ((first | (go_at_call 146; ((with_reducible refine quietSb (l01Ok_any hs h8 _ _ rfl _ ?_) h1) <;> (repeat' (first | (with_reducible first | assumption | exact Below.refl _ _ | refine Below.drew ?_ | refine Below.alloc ?_ ?_ _ | refine Below.setCell ?_ ?_ _ | refine below_setR ?_ ?_ _ | refine below_dn ?_ _ | refine Below.trans ?_ (below_mo _ _ _ ?_) | refine Below.trans ?_ (below_mq _ _ ?_) | exact Nat.le_refl _) | (simp; done) | (simp; omega) | omega)))) | (go_at_call 119; with_reducible exact quietSb (l00In_ok p _ _ _) h2) | (go_at_call 119; with_reducible exact quietSb (l00In_ok q _ _ _) h3) | (go_at_call 119; with_reducible exact quietS (l00In_ok s _ _ _) ) | (go_at_call 147; ((with_reducible refine quietS (l01Size_any hs h8 _ _ rfl _ ?_) ) <;> (repeat' (first | (with_reducible first | assumption | exact Below.refl _ _ | refine Below.drew ?_ | refine Below.alloc ?_ ?_ _ | refine Below.setCell ?_ ?_ _ | refine below_setR ?_ ?_ _ | refine below_dn ?_ _ | refine Below.trans ?_ (below_mo _ _ _ ?_) | refine Below.trans ?_ (below_mq _ _ ?_) | exact Nat.le_refl _) | (simp; done) | (simp; omega) | omega)))))) | quiet_step ((first | (go_at_call 146; ((with_reducible refine quietSb (l01Ok_any hs h8 _ _ rfl _ ?_) h1) <;> (repeat' (first | (with_reducible first | assumption | exact Below.refl _ _ | refine Below.drew ?_ | refine Below.alloc ?_ ?_ _ | refine Below.setCell ?_ ?_ _ | refine below_setR ?_ ?_ _ | refine below_dn ?_ _ | refine Below.trans ?_ (below_mo _ _ _ ?_) | refine Below.trans ?_ (below_mq _ _ ?_) | exact Nat.le_refl _) | (simp; done) | (simp; omega) | omega)))) | (go_at_call 119; with_reducible exact quietSb (l00In_ok p _ _ _) h2) | (go_at_call 119; with_reducible exact quietSb (l00In_ok q _ _ _) h3) | (go_at_call 119; with_reducible exact quietS (l00In_ok s _ _ _) ) | (go_at_call 147; ((with_reducible refine quietS (l01Size_any hs h8 _ _ rfl _ ?_) ) <;> (repeat' (first | (with_reducible first | assumption | exact Below.refl _ _ | refine Below.drew ?_ | refine Below.alloc ?_ ?_ _ | refine Below.setCell ?_ ?_ _ | refine below_setR ?_ ?_ _ | refine below_dn ?_ _ | refine Below.trans ?_ (below_mo _ _ _ ?_) | refine Below.trans ?_ (below_mq _ _ ?_) | exact Nat.le_refl _) | (simp; done) | (simp; omega) | omega)))))))); refine wpQuiet_nil ?_; intro _ hq_; obtain ⟨q_, rfl⟩ := hq_)
    go_wp2
    go_ret
    exact ⟨by simp [okM, *], (by repeat' (first | (with_reducible first | assumption | exact Below.refl _ _ | refine Below.drew ?_ | refine Below.alloc ?_ ?_ _ | refine Below.setCell ?_ ?_ _ | refine below_setR ?_ ?_ _ | refine below_dn ?_ _ | refine Below.trans ?_ (below_mo _ _ _ ?_) | refine Below.trans ?_ (below_mq _ _ ?_) | exact Nat.le_refl _) | (simp; done) | (simp; omega) | omega))⟩
end Go.Proofs.Ytbihgnmiocfelaa.X
