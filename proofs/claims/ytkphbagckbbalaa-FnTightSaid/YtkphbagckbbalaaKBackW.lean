/- GoesBack, both answers. Conditions: none. -/
import Derived.Test.YtkphbagckbbalaaKLog
import Derived.Test.YtkphbagckbbalaaKMarkR
namespace Go.Proofs.Ytkphbagckbbalaa.X
open Go.RowKit
set_option linter.unusedVariables false
set_option linter.unusedSimpArgs false
set_option maxRecDepth 100000
/-- which readings show less than the one before -/
def gbF (log : List (Int × Int)) (i : Nat) : Bool := decide (0 < i) && decide (p2 log i < p2 log ((i : Int) - 1))
def gbC (xs : List Int) (log : List (Int × Int)) : Int := if okL xs log then 0 else 1
def gbL (xs : List Int) (log : List (Int × Int)) : List Int := if okL xs log then flt (gbF log) log.length else []
theorem gbL_len (xs : List Int) (log : List (Int × Int)) (h : log.length ≤ 1048576) : (gbL xs log).length ≤ 1048576 := by
  unfold gbL
  split
  · exact Nat.le_trans (flt_len _ _) h
  · exact Nat.zero_le _
theorem flt_one {f : Nat → Bool} (h : f 0 = false) : flt f 1 = [] := flt_no (k := 0) h
theorem flt_end {f : Nat → Bool} (h : f 0 = false) {k n : Nat} (hk : 1 ≤ k) (h1 : ¬ k < n) (h2 : k ≤ n ∨ k = 1) : flt f n = flt f k := by
  by_cases h3 : k = n
  · rw [h3]
  · obtain rfl : k = 1 := by omega
    obtain rfl : n = 0 := by omega
    exact (flt_one h).symm
theorem gbF_at {log : List (Int × Int)} {j k : Nat} (h : j + 1 = k) : gbF log k = decide (p2 log k < p2 log j) := by
  subst h
  unfold gbF
  rw [show (((j + 1 : Nat) : Int) - 1) = (j : Int) by omega]
  simp
theorem own_dnR {w : World} {b : Nat} {e : TypeId} {sz : Nat} {v : Value} {n : Nat} {ys : List Value} (h : w.ownsRow b e sz v n ys) (q : Nat) : (w.drewN q).ownsRow b e sz v n ys := h
set_option maxHeartbeats 2000000 in
theorem implBack_any {A : Option Addr} {xs : List Int} {W : World} {B : Nat} (hs : Nums .u8 W B A xs) (h8 : b8 xs) (n c : Nat) (hn : xs.length = n) (w : World) (hb : Below B W w) {L : Option Addr} {log : List (Int × Int)} {V : World} {C : Nat} (hl : Prs .i64 .i64 V C L log) (cl : Nat) (hv : Below C V w) : Calls Try.prog 14 #[.slice A n c, .slice L log.length cl] w (RetL (gbL xs log) (gbC xs log) w) := by
  obtain rfl := hn
  have hB := hs.bsz hb
  have hC := hl.bsz hv
  have hll := hl.len
  cases h1 : okL xs log
  · have HR : Hid (gbC xs log = 1) := by unfold Hid gbC; rw [h1]; rfl
    have HV : Hid (gbL xs log = []) := by unfold Hid gbL; rw [h1]; rfl
    go_enter Try.func14, Try.ntmps14
    (go_wp2_with fail; refine (ValidLog_any hs h8 _ _ rfl _ (by repeat' (first | (with_reducible first | assumption | exact Below.refl _ _ | refine Below.drew ?_ | refine Below.alloc ?_ ?_ _ | refine Below.setCell ?_ ?_ _ | refine below_setR ?_ ?_ _ | refine below_dn ?_ _ | refine Below.trans ?_ (below_mo _ _ _ ?_) | refine Below.trans ?_ (below_mq _ _ ?_) | exact Nat.le_refl _) | (simp; done) | (simp; omega) | omega)) hl _ (by repeat' (first | (with_reducible first | assumption | exact Below.refl _ _ | refine Below.drew ?_ | refine Below.alloc ?_ ?_ _ | refine Below.setCell ?_ ?_ _ | refine below_setR ?_ ?_ _ | refine below_dn ?_ _ | refine Below.trans ?_ (below_mo _ _ _ ?_) | refine Below.trans ?_ (below_mq _ _ ?_) | exact Nat.le_refl _) | (simp; done) | (simp; omega) | omega))).mono ?_; rintro e w' ⟨rfl, hb_⟩; obtain ⟨os0, d0, rfl⟩ := mo_of hb_; clear hb_)
    rw [h1]
    go_wp2
    go_returns
    exact ⟨.slice none 0 0, by rw [HR.out]; rfl, by rw [HV.out]; exact World.ownsRow_nil _ _ _ _, (by repeat' (first | (with_reducible first | assumption | exact Below.refl _ _ | refine Below.drew ?_ | refine Below.alloc ?_ ?_ _ | refine Below.setCell ?_ ?_ _ | refine below_setR ?_ ?_ _ | refine below_dn ?_ _ | refine Below.trans ?_ (below_mo _ _ _ ?_) | refine Below.trans ?_ (below_mq _ _ ?_) | exact Nat.le_refl _) | (simp; done) | (simp; omega) | omega))⟩
  · have HR : Hid (gbC xs log = 0) := by unfold Hid gbC; rw [h1]; rfl
    have HV : Hid (gbL xs log = flt (gbF log) log.length) := by unfold Hid gbL; rw [h1]; rfl
    have HK := Lib.hid h1
    obtain ⟨i0, hi, hz0, hz1, hz2⟩ := info_parts infoI
    clear h1
    go_enter Try.func14, Try.ntmps14
    (go_wp2_with fail; refine (ValidLog_any hs h8 _ _ rfl _ (by repeat' (first | (with_reducible first | assumption | exact Below.refl _ _ | refine Below.drew ?_ | refine Below.alloc ?_ ?_ _ | refine Below.setCell ?_ ?_ _ | refine below_setR ?_ ?_ _ | refine below_dn ?_ _ | refine Below.trans ?_ (below_mo _ _ _ ?_) | refine Below.trans ?_ (below_mq _ _ ?_) | exact Nat.le_refl _) | (simp; done) | (simp; omega) | omega)) hl _ (by repeat' (first | (with_reducible first | assumption | exact Below.refl _ _ | refine Below.drew ?_ | refine Below.alloc ?_ ?_ _ | refine Below.setCell ?_ ?_ _ | refine below_setR ?_ ?_ _ | refine below_dn ?_ _ | refine Below.trans ?_ (below_mo _ _ _ ?_) | refine Below.trans ?_ (below_mq _ _ ?_) | exact Nat.le_refl _) | (simp; done) | (simp; omega) | omega))).mono ?_; rintro e w' ⟨rfl, hb_⟩; obtain ⟨os0, d0, rfl⟩ := mo_of hb_; clear hb_)
    rw [HK.out]
    go_wp2
    go_loopw [6, 7] (fun v i wr => ∃ k : Nat, 1 ≤ k ∧ (k ≤ log.length ∨ k = 1) ∧ i = .int .i64 (k : Int) ∧ wr.ownsRow w.heap.size 2 1 v (flt (gbF log) k).length ((flt (gbF log) k).map (Value.int .i64)) ∧ Below w.heap.size w wr) (fun _ i _ => log.length - (intOf i).toNat)
    case atStart => exact ⟨1, Nat.le_refl _, .inr rfl, rfl, by rw [flt_one rfl]; exact own_new _ _ (by first | (simp; done) | (simp; omega)) _ _ (by first | (simp; done) | (simp; omega)), (by repeat' (first | (with_reducible first | assumption | exact Below.refl _ _ | refine Below.drew ?_ | refine Below.alloc ?_ ?_ _ | refine Below.setCell ?_ ?_ _ | refine below_setR ?_ ?_ _ | refine below_dn ?_ _ | refine Below.trans ?_ (below_mo _ _ _ ?_) | refine Below.trans ?_ (below_mq _ _ ?_) | exact Nat.le_refl _) | (simp; done) | (simp; omega) | omega))⟩
    case round =>
      obtain ⟨k, hk1, hk, rfl, hown, hnx⟩ := hrel
      have hsize := hnx.size
      have hvr := hl.nb hv hnx
      have HL := Lib.hid (flt_len (gbF log) k)
      by_cases hlt : k < log.length
      · obtain ⟨j, hjk⟩ : ∃ j, j + 1 = k := ⟨k - 1, by omega⟩
        obtain ⟨b, off, rfl, hbs, hc0, hc1⟩ := hl.at hvr hlt
        obtain ⟨b', off', he, _, hd0, hd1⟩ := hl.at hvr (k := j) (by omega)
        obtain ⟨rfl, rfl⟩ := addr_same he
        clear he
        have hF := gbF_at (log := log) hjk
        have e1 : IntKind.i64.wrap ((k : Int) - 1) = (j : Int) := (IntWalk.i64_in _ ⟨by omega, by omega⟩).trans (by omega)
        have g0 : (0 : Int) ≤ (k : Int) := by omega
        have g1 : (k : Int) < (log.length : Int) := by omega
        have g2 : (0 : Int) ≤ (j : Int) := by omega
        have g3 : (j : Int) < (log.length : Int) := by omega
        have HJ := Lib.hid hjk
        by_cases hz : p2 log k < p2 log j
        · have HN := Lib.hid (flt_yes (hF.trans (decide_eq_true hz)))
          have hown0 := hown
          clear hF hjk
          go_wp2
          go_quiet (fail)
          go_wp2_with (first
            | (at_builtin; refine wpList_append_own _ rfl _ _ 32 rfl w.heap.size 2 i0 (.int .i64 0) 1 8 undI hi hz0 hz1 hz2 rfl (by decide) _ _ _ rfl ((own_dnR hown _).alloc _) ⟨wr.heap.size, 0, none⟩ 1 1 [.int .i64 (k : Int)] rfl rfl (cell_one_new _ _ _) (fun x hx => by simp at hx; subst hx; rfl) (by have := HL.out; unfold maxLen; omega) (by have := HL.out; omega) (by simp; omega) ?_; intro v' w3 hown' hgrow3 hnil3))
          exact ⟨⟨k + 1, by omega, by omega, by go_num, by rw [HN.out, List.map_append, List.length_append]; exact hown', ((below_dn hnx _).alloc hsize _).grown hgrow3 (by first | (simp; done) | (simp; omega)) (fun q hq => (hown0.lt q hq).1)⟩, by simp [intOf]; omega⟩
        · have HN := Lib.hid (flt_no (hF.trans (decide_eq_false hz)))
          clear hF hjk
          go_wp2
          go_quiet (fail)
          go_wp2
          exact ⟨⟨k + 1, by omega, by omega, by go_num, by rw [HN.out]; exact hown, (by repeat' (first | (with_reducible first | assumption | exact Below.refl _ _ | refine Below.drew ?_ | refine Below.alloc ?_ ?_ _ | refine Below.setCell ?_ ?_ _ | refine below_setR ?_ ?_ _ | refine below_dn ?_ _ | refine Below.trans ?_ (below_mo _ _ _ ?_) | refine Below.trans ?_ (below_mq _ _ ?_) | exact Nat.le_refl _) | (simp; done) | (simp; omega) | omega))⟩, by simp [intOf]; omega⟩
      · have HE := Lib.hid (flt_end (f := gbF log) (n := log.length) rfl hk1 hlt hk)
        go_wp2
        go_returns
        exact ⟨u6, by rw [HR.out]; rfl, by rw [HV.out, HE.out]; exact hown, hnx⟩
end Go.Proofs.Ytkphbagckbbalaa.X
