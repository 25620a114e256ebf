/- SuspectsOf, both answers. Conditions: none. -/
import Derived.Test.YtkphbagckbbalaaKDet
namespace Go.Proofs.Ytkphbagckbbalaa.X
open Go.RowKit
set_option linter.unusedVariables false
set_option linter.unusedSimpArgs false
set_option maxRecDepth 100000
/-- which readings are suspect -/
def suF (xs : List Int) (log : List (Int × Int)) (fl fh : Int) (i : Nat) : Bool := decide (0 < i) && !can xs log fl fh (i - 1) i
def suC (xs : List Int) (log : List (Int × Int)) (fl fh : Int) : Int := if okL xs log && okF fl fh then 0 else 1
def suL (xs : List Int) (log : List (Int × Int)) (fl fh : Int) : List Int := if okL xs log && okF fl fh then flt (suF xs log fl fh) log.length else []
theorem suL_len (xs : List Int) (log : List (Int × Int)) (fl fh : Int) (h : log.length ≤ 1048576) : (suL xs log fl fh).length ≤ 1048576 := by
  unfold suL
  split
  · exact Nat.le_trans (flt_len _ _) h
  · exact Nat.zero_le _
theorem sflt_one {f : Nat → Bool} (h : f 0 = false) : flt f 1 = [] := flt_no (k := 0) h
theorem sflt_end {f : Nat → Bool} (h : f 0 = false) {k n : Nat} (hk : 1 ≤ k) (h1 : ¬ k < n) (h2 : k ≤ n ∨ k = 1) : flt f n = flt f k := by
  by_cases h3 : k = n
  · rw [h3]
  · obtain rfl : k = 1 := by omega
    obtain rfl : n = 0 := by omega
    exact (sflt_one h).symm
theorem suF_at {xs : List Int} {log : List (Int × Int)} {fl fh : Int} {j k : Nat} (h : j + 1 = k) : suF xs log fl fh k = !can xs log fl fh j k := by
  subst h
  unfold suF
  simp
theorem suF_0 {xs : List Int} {log : List (Int × Int)} {fl fh : Int} : suF xs log fl fh 0 = false := rfl
theorem own_dnS {w : World} {b : Nat} {e : TypeId} {sz : Nat} {v : Value} {n : Nat} {ys : List Value} (h : w.ownsRow b e sz v n ys) (q : Nat) : (w.drewN q).ownsRow b e sz v n ys := h
set_option maxHeartbeats 2000000 in
theorem implSus_any {A : Option Addr} {xs : List Int} {W : World} {B : Nat} (hs : Nums .u8 W B A xs) (h8 : b8 xs) (n c : Nat) (hn : xs.length = n) (w : World) (hb : Below B W w) {L : Option Addr} {log : List (Int × Int)} {V : World} {C : Nat} (hl : Prs .i64 .i64 V C L log) (cl : Nat) (hv : Below C V w) (fl fh : Int) : Calls Try.prog 13 #[.slice A n c, .slice L log.length cl, .agg #[.int .i64 fl, .int .i64 fh]] w (RetL (suL xs log fl fh) (suC xs log fl fh) w) := by
  obtain rfl := hn
  have hB := hs.bsz hb
  have hC := hl.bsz hv
  have hll := hl.len
  cases h1 : (okL xs log && okF fl fh)
  · have HR : Hid (suC xs log fl fh = 1) := by unfold Hid suC; rw [h1]; rfl
    have HV : Hid (suL xs log fl fh = []) := by unfold Hid suL; rw [h1]; rfl
    have HK := Lib.hid h1
    clear h1
    go_enter Try.func13, Try.ntmps13
    (go_wp2_with fail; refine (detective_any hs h8 _ _ rfl _ (by repeat' (first | (with_reducible first | assumption | exact Below.refl _ _ | refine Below.drew ?_ | refine Below.alloc ?_ ?_ _ | refine Below.setCell ?_ ?_ _ | refine below_setR ?_ ?_ _ | refine below_dn ?_ _ | refine Below.trans ?_ (below_mo _ _ _ ?_) | refine Below.trans ?_ (below_mq _ _ ?_) | exact Nat.le_refl _) | (simp; done) | (simp; omega) | omega)) hl _ (by repeat' (first | (with_reducible first | assumption | exact Below.refl _ _ | refine Below.drew ?_ | refine Below.alloc ?_ ?_ _ | refine Below.setCell ?_ ?_ _ | refine below_setR ?_ ?_ _ | refine below_dn ?_ _ | refine Below.trans ?_ (below_mo _ _ _ ?_) | refine Below.trans ?_ (below_mq _ _ ?_) | exact Nat.le_refl _) | (simp; done) | (simp; omega) | omega)) fl fh).mono ?_)
    rintro e w1 ⟨hbl, ⟨hok, rfl⟩ | ⟨D, hok, rfl, hDb, hdet⟩⟩
    · obtain ⟨os1, d1, rfl⟩ := mo_of hbl
      clear hbl
      go_wp2
      go_returns
      exact ⟨.slice none 0 0, by rw [HR.out]; rfl, by rw [HV.out]; exact World.ownsRow_nil _ _ _ _, (by repeat' (first | (with_reducible first | assumption | exact Below.refl _ _ | refine Below.drew ?_ | refine Below.alloc ?_ ?_ _ | refine Below.setCell ?_ ?_ _ | refine below_setR ?_ ?_ _ | refine below_dn ?_ _ | refine Below.trans ?_ (below_mo _ _ _ ?_) | refine Below.trans ?_ (below_mq _ _ ?_) | exact Nat.le_refl _) | (simp; done) | (simp; omega) | omega))⟩
    · rw [HK.out] at hok
      cases hok
  · have HR : Hid (suC xs log fl fh = 0) := by unfold Hid suC; rw [h1]; rfl
    have HV : Hid (suL xs log fl fh = flt (suF xs log fl fh) log.length) := by unfold Hid suL; rw [h1]; rfl
    have HK := Lib.hid h1
    have h40 : log.length ≤ 40 := (okL_parts ((Bool.and_eq_true _ _).mp h1).1).2.1
    obtain ⟨i0, hi, hz0, hz1, hz2⟩ := info_parts infoI
    clear h1
    go_enter Try.func13, Try.ntmps13
    (go_wp2_with fail; refine (detective_any hs h8 _ _ rfl _ (by repeat' (first | (with_reducible first | assumption | exact Below.refl _ _ | refine Below.drew ?_ | refine Below.alloc ?_ ?_ _ | refine Below.setCell ?_ ?_ _ | refine below_setR ?_ ?_ _ | refine below_dn ?_ _ | refine Below.trans ?_ (below_mo _ _ _ ?_) | refine Below.trans ?_ (below_mq _ _ ?_) | exact Nat.le_refl _) | (simp; done) | (simp; omega) | omega)) hl _ (by repeat' (first | (with_reducible first | assumption | exact Below.refl _ _ | refine Below.drew ?_ | refine Below.alloc ?_ ?_ _ | refine Below.setCell ?_ ?_ _ | refine below_setR ?_ ?_ _ | refine below_dn ?_ _ | refine Below.trans ?_ (below_mo _ _ _ ?_) | refine Below.trans ?_ (below_mq _ _ ?_) | exact Nat.le_refl _) | (simp; done) | (simp; omega) | omega)) fl fh).mono ?_)
    rintro e w1 ⟨hbl, ⟨hok, rfl⟩ | ⟨D, hok, rfl, hDb, hdet⟩⟩
    · rw [HK.out] at hok
      cases hok
    have hz := hbl.size
    simp at hz
    have hw1 : Below w.heap.size w w1 := below_step (by repeat' (first | (with_reducible first | assumption | exact Below.refl _ _ | refine Below.drew ?_ | refine Below.alloc ?_ ?_ _ | refine Below.setCell ?_ ?_ _ | refine below_setR ?_ ?_ _ | refine below_dn ?_ _ | refine Below.trans ?_ (below_mo _ _ _ ?_) | refine Below.trans ?_ (below_mq _ _ ?_) | exact Nat.le_refl _) | (simp; done) | (simp; omega) | omega)) hbl (by first | (simp; done) | (simp; omega))
    clear hbl
    go_wp2
    go_loopw [9, 10] (fun v i wr => ∃ k : Nat, 1 ≤ k ∧ (k ≤ log.length ∨ k = 1) ∧ i = .int .i64 (k : Int) ∧ wr.ownsRow w1.heap.size 2 1 v (flt (suF xs log fl fh) k).length ((flt (suF xs log fl fh) k).map (Value.int .i64)) ∧ Below w1.heap.size w1 wr) (fun _ i _ => log.length - (intOf i).toNat)
    case atStart => exact ⟨1, Nat.le_refl _, .inr rfl, rfl, by rw [sflt_one suF_0]; exact own_new _ _ (Nat.le_refl _) _ _ rfl, Below.alloc (Below.refl _ _) (Nat.le_refl _) _⟩
    case round =>
      obtain ⟨k, hk1, hk, rfl, hown, hnx⟩ := hrel
      have hsize := hnx.size
      have HL := Lib.hid (flt_len (suF xs log fl fh) k)
      by_cases hlt : k < log.length
      · obtain ⟨j, hjk⟩ : ∃ j, j + 1 = k := ⟨k - 1, by omega⟩
        obtain ⟨lD, -, -, M, lM, c2, hrow⟩ := hdet.keep hnx (Nat.le_refl _)
        obtain ⟨R, lR, cR, hR⟩ := hrow j (by omega)
        have cb := hR k (by omega) hlt
        have lD' : D < wr.heap.size := by omega
        have lM' : M < wr.heap.size := by omega
        have lR' : R < wr.heap.size := by omega
        have hF := suF_at (xs := xs) (log := log) (fl := fl) (fh := fh) hjk
        have e1 : IntKind.i64.wrap ((k : Int) - 1) = (j : Int) := (IntWalk.i64_in _ ⟨by omega, by omega⟩).trans (by omega)
        have g0 : (0 : Int) ≤ (k : Int) := by omega
        have g1 : (k : Int) < (log.length : Int) := by omega
        have g2 : (0 : Int) ≤ (j : Int) := by omega
        have g3 : (j : Int) < (log.length : Int) := by omega
        have HJ := Lib.hid hjk
        have hown0 := hown
        clear hrow hR hdet
        cases hz : can xs log fl fh j k
        · have HN := Lib.hid (flt_yes (hF.trans (by rw [hz]; rfl)))
          rw [hz] at cb
          clear hF hjk hz
          go_wp2_with (first
            | (at_builtin; refine wpList_append_own _ rfl _ _ 32 rfl w1.heap.size 2 i0 (.int .i64 0) 1 8 undI hi hz0 hz1 hz2 rfl (by decide) _ _ _ rfl (hown.alloc _) ⟨wr.heap.size, 0, none⟩ 1 1 [.int .i64 (k : Int)] rfl rfl (cell_one_new _ _ _) (fun x hx => by simp at hx; subst hx; rfl) (by have := HL.out; unfold maxLen; omega) (by have := HL.out; omega) (by simp; omega) ?_; intro v' w3 hown' hgrow3 hnil3))
          exact ⟨⟨k + 1, by omega, by omega, by go_num, by rw [HN.out, List.map_append, List.length_append]; exact hown', (hnx.alloc hsize _).grown hgrow3 (by first | (simp; done) | (simp; omega)) (fun q hq => (hown0.lt q hq).1)⟩, by simp [intOf]; omega⟩
        · have HN := Lib.hid (flt_no (hF.trans (by rw [hz]; rfl)))
          rw [hz] at cb
          clear hF hjk hz
          go_wp2
          exact ⟨⟨k + 1, by omega, by omega, by go_num, by rw [HN.out]; exact hown, hnx⟩, by simp [intOf]; omega⟩
      · have HE := Lib.hid (sflt_end (f := suF xs log fl fh) (n := log.length) suF_0 hk1 hlt hk)
        go_wp2
        go_returns
        exact ⟨u9, by rw [HR.out]; rfl, by rw [HV.out, HE.out]; exact own_base hown (by omega), below_step hw1 hnx (by omega)⟩
end Go.Proofs.Ytkphbagckbbalaa.X
