/- Lists as results: the wheels that move. Conditions: none. -/
import Derived.Test.YtcaaljcfdahpaaaKFirst2
import Derived.OwnWalk
namespace Go.Proofs.Ytcaaljcfdahpaaa.X
open Go.RowKit
set_option linter.unusedVariables false
set_option linter.unusedSimpArgs false
set_option maxRecDepth 100000
/-- the numbers below k that f picks -/
def flt (f : Nat → Bool) : Nat → List Int
  | 0 => []
  | k + 1 => if f k then flt f k ++ [(k : Int)] else flt f k
theorem flt_len (f : Nat → Bool) : ∀ k, (flt f k).length ≤ k
  | 0 => Nat.le_refl _
  | k + 1 => by
    have := flt_len f k
    unfold flt
    split
    · rw [List.length_append]; simp; exact this
    · omega
theorem flt_yes {f : Nat → Bool} {k : Nat} (h : f k = true) : flt f (k + 1) = flt f k ++ [(k : Int)] := by
  show (if f k = true then _ else _) = _
  rw [if_pos h]
theorem flt_no {f : Nat → Bool} {k : Nat} (h : f k = false) : flt f (k + 1) = flt f k := by
  show (if f k = true then _ else _) = _
  rw [if_neg (by rw [h]; simp)]
theorem flt_more {f : Nat → Bool} {k : Nat} (j : Nat) (h : ∀ i, k ≤ i → f i = false) : flt f (k + j) = flt f k := by
  induction j with
  | zero => rfl
  | succ j ih => rw [← Nat.add_assoc, flt_no (h _ (by omega)), ih]
/-- The call hands back a list that it made, and a code. -/
def RetL (ys : List Int) (code : Int) (w : World) (e : Ending) (w' : World) : Prop :=
  ∃ v, e = .returned (.tuple #[v, .int .i64 code]) ∧ w'.ownsRow w.heap.size 2 1 v ys.length (ys.map (Value.int .i64)) ∧ Below w.heap.size w w'
theorem infoI : (Try.prog.info? 2).map (fun i => (i.zero, i.size, i.bytes)) = some (some (.int .i64 0), 1, 8) := by kernel_rfl
theorem undI : Try.prog.underlying 64 = some (.slice 2) := by kernel_rfl
/-- a list just made -/
theorem own_start (w : World) (b : Nat) (hb : b ≤ w.heap.size) (e : TypeId) (os : Array Obj) (d g : Nat) (hg : g = w.heap.size) : (mo (w.alloc (.cells #[] e)) os d).ownsRow b e 1 (.slice (some ⟨g, 0, none⟩) 0 0) 0 [] := by
  subst hg
  exact ⟨rfl, .inr ⟨_, 0, #[], rfl, hb, (heap_mo _ _ _ _ (by simp)).trans (heap_alloc_new w _), Nat.le_refl _, by decide, rfl, rfl⟩⟩
theorem own_new (w : World) (b : Nat) (hb : b ≤ w.heap.size) (e : TypeId) (g : Nat) (hg : g = w.heap.size) : (w.alloc (.cells #[] e)).ownsRow b e 1 (.slice (some ⟨g, 0, none⟩) 0 0) 0 [] := by
  subst hg
  exact ⟨rfl, .inr ⟨_, 0, #[], rfl, hb, heap_alloc_new w _, Nat.le_refl _, by decide, rfl, rfl⟩⟩
/-- which wheels move at a turn -/
def mvF (xs : List Int) (js : List (Int × Int)) (t : Int) (i : Nat) : Bool := decide (¬ paTo xs js t xs.length i % 1000 = 0)
def mvL (xs : List Int) (js : List (Int × Int)) (t : Int) : List Int := if askO xs js t = 0 then flt (mvF xs js t) xs.length else []
theorem mvL_no {xs : List Int} {js : List (Int × Int)} {t : Int} (h : ¬ askO xs js t = 0) : mvL xs js t = [] := by unfold mvL; rw [if_neg h]
theorem mvL_0 {xs : List Int} {js : List (Int × Int)} {t : Int} (h : askO xs js t = 0) : mvL xs js t = flt (mvF xs js t) xs.length := by unfold mvL; rw [if_pos h]
theorem own_base {w : World} {b b' : Nat} {e : TypeId} {v : Value} {n : Nat} {ys : List Value} (h : w.ownsRow b' e 1 v n ys) (hb : b ≤ b') : w.ownsRow b e 1 v n ys := by
  refine ⟨h.1, ?_⟩
  rcases h.2 with h | ⟨g, cap, cur, e1, e2, h⟩
  · exact .inl h
  · exact .inr ⟨g, cap, cur, e1, Nat.le_trans hb e2, h⟩
theorem lt8k' {k : Nat} (h : k < 8) : k = 0 ∨ k = 1 ∨ k = 2 ∨ k = 3 ∨ k = 4 ∨ k = 5 ∨ k = 6 ∨ k = 7 := by omega
set_option maxHeartbeats 2000000 in
theorem implMoving_any {A : Option Addr} {xs : List Int} {W : World} {B : Nat} (hs : Nums .u8 W B A xs) (h8 : b8 xs) (c : Nat) {L : Option Addr} {js : List (Int × Int)} {V : World} {C : Nat} (hl : Prs .i8 .i16 V C L js) (hj : j8 js) (cl : Nat) (w : World) (hb : Below B W w) (hv : Below C V w) (t : Int) : Calls Try.prog 52 #[.agg #[.slice A xs.length c, .slice L js.length cl], .int .i64 t] w (RetL (mvL xs js t) (askO xs js t) w) := by
  have hB := hs.bsz hb
  have hC := hl.bsz hv
  cases h1 : okO xs js
  · have HR := Lib.hid (askO_1 (t := t) h1)
    have HV := Lib.hid (mvL_no (t := t) (show ¬ askO xs js t = 0 by rw [HR.out]; omega))
    go_enter Try.func52, Try.ntmps52
    go_wp2_with (go_at_call 95; refine (ValidMotion_any hs h8 _ hl hj _ _ (by repeat' (first | (with_reducible first | assumption | exact Below.refl _ _ | refine Below.drew ?_ | refine Below.alloc ?_ ?_ _ | refine Below.setCell ?_ ?_ _ | refine below_setR ?_ ?_ _ | refine below_dn ?_ _ | refine Below.trans ?_ (below_mo _ _ _ ?_) | refine Below.trans ?_ (below_mq _ _ ?_) | exact Nat.le_refl _) | (simp; done) | (simp; omega) | omega)) (by repeat' (first | (with_reducible first | assumption | exact Below.refl _ _ | refine Below.drew ?_ | refine Below.alloc ?_ ?_ _ | refine Below.setCell ?_ ?_ _ | refine below_setR ?_ ?_ _ | refine below_dn ?_ _ | refine Below.trans ?_ (below_mo _ _ _ ?_) | refine Below.trans ?_ (below_mq _ _ ?_) | exact Nat.le_refl _) | (simp; done) | (simp; omega) | omega))).mono ?_; rintro e w' ⟨rfl, hb_⟩; obtain ⟨os_, d_, rfl⟩ := mo_of hb_; clear hb_)
    go_returns
    exact ⟨.slice none 0 0, by rw [HR.out]; rfl, by rw [HV.out]; exact World.ownsRow_nil _ _ _ _, (by repeat' (first | (with_reducible first | assumption | exact Below.refl _ _ | refine Below.drew ?_ | refine Below.alloc ?_ ?_ _ | refine Below.setCell ?_ ?_ _ | refine below_setR ?_ ?_ _ | refine below_dn ?_ _ | refine Below.trans ?_ (below_mo _ _ _ ?_) | refine Below.trans ?_ (below_mq _ _ ?_) | exact Nat.le_refl _) | (simp; done) | (simp; omega) | omega))⟩
  · cases h2 : inR t 0 (szS xs * 1000 - 1)
    · have HR := Lib.hid (askO_2 h1 h2)
      have HV := Lib.hid (mvL_no (t := t) (show ¬ askO xs js t = 0 by rw [HR.out]; omega))
      go_enter Try.func52, Try.ntmps52
      go_wp2_with (first | (go_at_call 95; refine (ValidMotion_any hs h8 _ hl hj _ _ (by repeat' (first | (with_reducible first | assumption | exact Below.refl _ _ | refine Below.drew ?_ | refine Below.alloc ?_ ?_ _ | refine Below.setCell ?_ ?_ _ | refine below_setR ?_ ?_ _ | refine below_dn ?_ _ | refine Below.trans ?_ (below_mo _ _ _ ?_) | refine Below.trans ?_ (below_mq _ _ ?_) | exact Nat.le_refl _) | (simp; done) | (simp; omega) | omega)) (by repeat' (first | (with_reducible first | assumption | exact Below.refl _ _ | refine Below.drew ?_ | refine Below.alloc ?_ ?_ _ | refine Below.setCell ?_ ?_ _ | refine below_setR ?_ ?_ _ | refine below_dn ?_ _ | refine Below.trans ?_ (below_mo _ _ _ ?_) | refine Below.trans ?_ (below_mq _ _ ?_) | exact Nat.le_refl _) | (simp; done) | (simp; omega) | omega))).mono ?_; rintro e w' ⟨rfl, hb_⟩; obtain ⟨os_, d_, rfl⟩ := mo_of hb_; clear hb_) | (go_at_call 96; refine (hasTurn_any hs h8 c hl hj cl _ (by repeat' (first | (with_reducible first | assumption | exact Below.refl _ _ | refine Below.drew ?_ | refine Below.alloc ?_ ?_ _ | refine Below.setCell ?_ ?_ _ | refine below_setR ?_ ?_ _ | refine below_dn ?_ _ | refine Below.trans ?_ (below_mo _ _ _ ?_) | refine Below.trans ?_ (below_mq _ _ ?_) | exact Nat.le_refl _) | (simp; done) | (simp; omega) | omega)) (by repeat' (first | (with_reducible first | assumption | exact Below.refl _ _ | refine Below.drew ?_ | refine Below.alloc ?_ ?_ _ | refine Below.setCell ?_ ?_ _ | refine below_setR ?_ ?_ _ | refine below_dn ?_ _ | refine Below.trans ?_ (below_mo _ _ _ ?_) | refine Below.trans ?_ (below_mq _ _ ?_) | exact Nat.le_refl _) | (simp; done) | (simp; omega) | omega)) _ (by first | assumption | (simp [go_sem]; done) | (simp [go_sem, *]; done) | (simp [go_sem]; rfl)) (by first | assumption | (simp [go_sem]; done) | (simp [go_sem, *]; done) | (simp [go_sem]; rfl)) _).mono ?_; rintro e w' ⟨rfl, rfl⟩))
      go_returns
      exact ⟨.slice none 0 0, by rw [HR.out]; rfl, by rw [HV.out]; exact World.ownsRow_nil _ _ _ _, (by repeat' (first | (with_reducible first | assumption | exact Below.refl _ _ | refine Below.drew ?_ | refine Below.alloc ?_ ?_ _ | refine Below.setCell ?_ ?_ _ | refine below_setR ?_ ?_ _ | refine below_dn ?_ _ | refine Below.trans ?_ (below_mo _ _ _ ?_) | refine Below.trans ?_ (below_mq _ _ ?_) | exact Nat.le_refl _) | (simp; done) | (simp; omega) | omega))⟩
    · have HK := Lib.hid h1
      have HI := Lib.hid h2
      obtain ⟨i0, hi, hz0, hz1, hz2⟩ := info_parts infoI
      go_enter Try.func52, Try.ntmps52
      have hM : mvL xs js t = flt (mvF xs js t) 8 := by
        unfold mvL
        rw [if_pos (askO_0 h1 h2)]
        obtain ⟨l0, l8⟩ := okS_len (okO_parts h1).1
        have e := flt_more (f := mvF xs js t) (k := xs.length) (8 - xs.length) (fun i h => by unfold mvF paTo; rw [if_neg (by omega)]; rfl)
        rw [show xs.length + (8 - xs.length) = 8 by omega] at e
        exact e.symm
      have HM := Lib.hid hM
      have HA := Lib.hid (askO_0 h1 h2)
      clear hM h1
      (go_wp2_with fail; refine (ValidMotion_any hs h8 _ hl hj _ _ (by repeat' (first | (with_reducible first | assumption | exact Below.refl _ _ | refine Below.drew ?_ | refine Below.alloc ?_ ?_ _ | refine Below.setCell ?_ ?_ _ | refine below_setR ?_ ?_ _ | refine below_dn ?_ _ | refine Below.trans ?_ (below_mo _ _ _ ?_) | refine Below.trans ?_ (below_mq _ _ ?_) | exact Nat.le_refl _) | (simp; done) | (simp; omega) | omega)) (by repeat' (first | (with_reducible first | assumption | exact Below.refl _ _ | refine Below.drew ?_ | refine Below.alloc ?_ ?_ _ | refine Below.setCell ?_ ?_ _ | refine below_setR ?_ ?_ _ | refine below_dn ?_ _ | refine Below.trans ?_ (below_mo _ _ _ ?_) | refine Below.trans ?_ (below_mq _ _ ?_) | exact Nat.le_refl _) | (simp; done) | (simp; omega) | omega))).mono ?_; rintro e w' ⟨rfl, hb_⟩; obtain ⟨os0, d0, rfl⟩ := mo_of hb_; clear hb_)
      rw [HK.out]
      go_wp2_with (first | (go_at_call 96; refine (hasTurn_any hs h8 c hl hj cl _ (by repeat' (first | (with_reducible first | assumption | exact Below.refl _ _ | refine Below.drew ?_ | refine Below.alloc ?_ ?_ _ | refine Below.setCell ?_ ?_ _ | refine below_setR ?_ ?_ _ | refine below_dn ?_ _ | refine Below.trans ?_ (below_mo _ _ _ ?_) | refine Below.trans ?_ (below_mq _ _ ?_) | exact Nat.le_refl _) | (simp; done) | (simp; omega) | omega)) (by repeat' (first | (with_reducible first | assumption | exact Below.refl _ _ | refine Below.drew ?_ | refine Below.alloc ?_ ?_ _ | refine Below.setCell ?_ ?_ _ | refine below_setR ?_ ?_ _ | refine below_dn ?_ _ | refine Below.trans ?_ (below_mo _ _ _ ?_) | refine Below.trans ?_ (below_mq _ _ ?_) | exact Nat.le_refl _) | (simp; done) | (simp; omega) | omega)) _ (by first | assumption | (simp [go_sem]; done) | (simp [go_sem, *]; done) | (simp [go_sem]; rfl)) (by first | assumption | (simp [go_sem]; done) | (simp [go_sem, *]; done) | (simp [go_sem]; rfl)) _).mono ?_; rintro e w' ⟨rfl, rfl⟩))
      refine (parts_any hs h8 _ hl hj _ _ (by repeat' (first | (with_reducible first | assumption | exact Below.refl _ _ | refine Below.drew ?_ | refine Below.alloc ?_ ?_ _ | refine Below.setCell ?_ ?_ _ | refine below_setR ?_ ?_ _ | refine below_dn ?_ _ | refine Below.trans ?_ (below_mo _ _ _ ?_) | refine Below.trans ?_ (below_mq _ _ ?_) | exact Nat.le_refl _) | (simp; done) | (simp; omega) | omega)) (by repeat' (first | (with_reducible first | assumption | exact Below.refl _ _ | refine Below.drew ?_ | refine Below.alloc ?_ ?_ _ | refine Below.setCell ?_ ?_ _ | refine below_setR ?_ ?_ _ | refine below_dn ?_ _ | refine Below.trans ?_ (below_mo _ _ _ ?_) | refine Below.trans ?_ (below_mq _ _ ?_) | exact Nat.le_refl _) | (simp; done) | (simp; omega) | omega)) _ (by first | assumption | (simp [go_sem]; done) | (simp [go_sem, *]; done) | (simp [go_sem]; rfl)) (by first | assumption | (simp [go_sem]; done) | (simp [go_sem, *]; done) | (simp [go_sem]; rfl)) t HK.out HI.out).mono ?_
      rintro e w' ⟨rfl, hb_⟩
      obtain ⟨os1, d1, rfl⟩ := mo_of hb_
      clear hb_
      go_wp2
      go_loopw [6, 20] (fun v i wr => ∃ k : Nat, k ≤ 8 ∧ i = .int .i64 (k : Int) ∧ wr.ownsRow w.heap.size 2 1 v (flt (mvF xs js t) k).length ((flt (mvF xs js t) k).map (Value.int .i64)) ∧ Below w.heap.size w wr) (fun _ i _ => 8 - (intOf i).toNat)
      case atStart => exact ⟨0, Nat.zero_le _, rfl, own_start _ _ (by simp; omega) _ _ _ _ (by simp), (by repeat' (first | (with_reducible first | assumption | exact Below.refl _ _ | refine Below.drew ?_ | refine Below.alloc ?_ ?_ _ | refine Below.setCell ?_ ?_ _ | refine below_setR ?_ ?_ _ | refine below_dn ?_ _ | refine Below.trans ?_ (below_mo _ _ _ ?_) | refine Below.trans ?_ (below_mq _ _ ?_) | exact Nat.le_refl _) | (simp; done) | (simp; omega) | omega))⟩
      case round =>
        obtain ⟨k, hk, rfl, hown, hnx⟩ := hrel
        have hsize := hnx.size
        have HL := Lib.hid (flt_len (mvF xs js t) k)
        by_cases hlt : k < 8
        · have g1 : (k : Int) < 8 := by omega
          have p0 : 0 ≤ paTo xs js t xs.length k := by
            unfold paTo
            split
            · exact (ptV_bd (t := t) HK.out k (by omega)).1
            · exact Int.le_refl _
          have hF : mvF xs js t k = decide (¬ paTo xs js t xs.length k % 1000 = 0) := rfl
          have hix := fun W1 => idxPa (paTo xs js t xs.length) hlt W1
          by_cases hz : paTo xs js t xs.length k % 1000 = 0
          · have HN := Lib.hid (flt_no (hF.trans (by rw [hz]; rfl)))
            clear hF
            go_wp2
            exact ⟨⟨k + 1, by omega, by go_num, by rw [HN.out]; exact hown, hnx⟩, by simp [intOf]; omega⟩
          · have HN := Lib.hid (flt_yes (hF.trans (decide_eq_true hz)))
            have hz2' : (paTo xs js t xs.length k % 1000 == 0) = false := beq_eq_false_iff_ne.2 hz
            clear hF
            go_wp2_with (first
              | (at_builtin; refine wpList_append_own _ rfl _ _ 64 rfl w.heap.size 2 i0 (.int .i64 0) 1 8 undI hi hz0 hz1 hz2 rfl (by decide) _ _ _ rfl (hown.alloc _) ⟨wr.heap.size, 0, none⟩ 1 1 [.int .i64 (k : Int)] rfl rfl (cell_one_new _ _ _) (fun x hx => by simp at hx; subst hx; rfl) (by have := HL.out; unfold maxLen; omega) (by have := HL.out; omega) (by simp; omega) ?_; intro v' w3 hown' hgrow3 hnil3))
            exact ⟨⟨k + 1, by omega, by go_num, by rw [HN.out, List.map_append, List.length_append]; exact hown', (hnx.alloc hsize _).grown hgrow3 (by simp; omega) (fun q hq => (hown.lt q hq).1)⟩, by simp [intOf]; omega⟩
        · obtain rfl : k = 8 := by omega
          go_wp2
          go_returns
          exact ⟨u6, by rw [HA.out]; rfl, by rw [HM.out]; exact hown, hnx⟩
set_option maxHeartbeats 2000000 in
theorem specMoving_any {A : Option Addr} {xs : List Int} {W : World} {B : Nat} (hs : Nums .u8 W B A xs) (h8 : b8 xs) (c : Nat) {L : Option Addr} {js : List (Int × Int)} {V : World} {C : Nat} (hl : Prs .i8 .i16 V C L js) (hj : j8 js) (cl : Nat) (w : World) (hb : Below B W w) (hv : Below C V w) (t : Int) : Calls Try.prog 51 #[.agg #[.slice A xs.length c, .slice L js.length cl], .int .i64 t] w (RetL (mvL xs js t) (askO xs js t) w) := by
  have hB := hs.bsz hb
  have hC := hl.bsz hv
  have hn := hs.len
  by_cases h0 : askO xs js t = 0
  · obtain ⟨h1, h2⟩ := askO_in h0
    have HK := Lib.hid h1
    have HI := Lib.hid h2
    have HA := Lib.hid h0
    have HM := Lib.hid (mvL_0 h0)
    have h8l := (okS_len (okO_parts h1).1).2
    obtain ⟨i0, hi, hz0, hz1, hz2⟩ := info_parts infoI
    clear h0 h1 h2
    go_enter Try.func51, Try.ntmps51
    (go_wp2_with fail; refine (l02Asked_any hs h8 c hl hj cl _ (by repeat' (first | (with_reducible first | assumption | exact Below.refl _ _ | refine Below.drew ?_ | refine Below.alloc ?_ ?_ _ | refine Below.setCell ?_ ?_ _ | refine below_setR ?_ ?_ _ | refine below_dn ?_ _ | refine Below.trans ?_ (below_mo _ _ _ ?_) | refine Below.trans ?_ (below_mq _ _ ?_) | exact Nat.le_refl _) | (simp; done) | (simp; omega) | omega)) (by repeat' (first | (with_reducible first | assumption | exact Below.refl _ _ | refine Below.drew ?_ | refine Below.alloc ?_ ?_ _ | refine Below.setCell ?_ ?_ _ | refine below_setR ?_ ?_ _ | refine below_dn ?_ _ | refine Below.trans ?_ (below_mo _ _ _ ?_) | refine Below.trans ?_ (below_mq _ _ ?_) | exact Nat.le_refl _) | (simp; done) | (simp; omega) | omega)) _ (by first | assumption | (simp [go_sem]; done) | (simp [go_sem, *]; done) | (simp [go_sem]; rfl)) (by first | assumption | (simp [go_sem]; done) | (simp [go_sem, *]; done) | (simp [go_sem]; rfl)) _).mono ?_; rintro e w' ⟨rfl, hb_⟩; obtain ⟨os0, d0, rfl⟩ := mo_of hb_; clear hb_)
    rw [HA.out]
    (go_wp2_with fail; refine (l02Parts_any hs h8 _ hl hj _ _ (by repeat' (first | (with_reducible first | assumption | exact Below.refl _ _ | refine Below.drew ?_ | refine Below.alloc ?_ ?_ _ | refine Below.setCell ?_ ?_ _ | refine below_setR ?_ ?_ _ | refine below_dn ?_ _ | refine Below.trans ?_ (below_mo _ _ _ ?_) | refine Below.trans ?_ (below_mq _ _ ?_) | exact Nat.le_refl _) | (simp; done) | (simp; omega) | omega)) (by repeat' (first | (with_reducible first | assumption | exact Below.refl _ _ | refine Below.drew ?_ | refine Below.alloc ?_ ?_ _ | refine Below.setCell ?_ ?_ _ | refine below_setR ?_ ?_ _ | refine below_dn ?_ _ | refine Below.trans ?_ (below_mo _ _ _ ?_) | refine Below.trans ?_ (below_mq _ _ ?_) | exact Nat.le_refl _) | (simp; done) | (simp; omega) | omega)) _ (by first | assumption | (simp [go_sem]; done) | (simp [go_sem, *]; done) | (simp [go_sem]; rfl)) (by first | assumption | (simp [go_sem]; done) | (simp [go_sem, *]; done) | (simp [go_sem]; rfl)) t HK.out HI.out).mono ?_; rintro e w' ⟨rfl, hb_⟩; obtain ⟨os1, d1, rfl⟩ := mo_of hb_; clear hb_)
    go_wp2
    go_loopw [8, 9] (fun v i wr => ∃ k : Nat, k ≤ xs.length ∧ i = .int .i64 (k : Int) ∧ wr.ownsRow (w.heap.size + 1 + os0.size + os1.size + 1) 2 1 v (flt (mvF xs js t) k).length ((flt (mvF xs js t) k).map (Value.int .i64)) ∧ Below (w.heap.size + 1 + os0.size + os1.size + 1) ((mo (mo (w.alloc (.cells #[.slice A xs.length c, .slice L js.length cl] 58)) os0 d0) os1 d1).alloc (.cells #[.int .i64 (paTo xs js t xs.length 0), .int .i64 (paTo xs js t xs.length 1), .int .i64 (paTo xs js t xs.length 2), .int .i64 (paTo xs js t xs.length 3), .int .i64 (paTo xs js t xs.length 4), .int .i64 (paTo xs js t xs.length 5), .int .i64 (paTo xs js t xs.length 6), .int .i64 (paTo xs js t xs.length 7)] 74)) wr) (fun _ i _ => xs.length - (intOf i).toNat)
    case atStart => exact ⟨0, Nat.zero_le _, rfl, own_new _ _ (by simp) _ _ (by simp), Below.alloc (Below.refl _ _) (by simp) _⟩
    case round =>
      obtain ⟨k, hk, rfl, hown, hnx⟩ := hrel
      have hsize := hnx.size
      simp at hsize
      have HL := Lib.hid (flt_len (mvF xs js t) k)
      have c0 : wr.cell? ⟨w.heap.size, 0, none⟩ = some (.slice A xs.length c) := (hnx.cell (by show w.heap.size < _; omega)).trans (by first | assumption | (simp [go_sem]; done) | (simp [go_sem, *]; done) | (simp [go_sem]; rfl))
      by_cases hlt : k < xs.length
      · have hk8 : k < 8 := by omega
        have ck : wr.cell? ⟨w.heap.size + 1 + os0.size + os1.size, k, none⟩ = some (.int .i64 (paTo xs js t xs.length k)) := by
          refine (hnx.cell (by show w.heap.size + 1 + os0.size + os1.size < _; omega)).trans ?_
          rcases lt8k' hk8 with rfl | rfl | rfl | rfl | rfl | rfl | rfl | rfl
          all_goals simp [go_sem]
        have g0 : (0 : Int) ≤ (k : Int) := by omega
        have g1 : (k : Int) < 8 := by omega
        have g2 : (k : Int) < (xs.length : Int) := by omega
        have p0 : 0 ≤ paTo xs js t xs.length k := by
          unfold paTo
          rw [if_pos hlt]
          exact (ptV_bd (t := t) HK.out k hlt).1
        have hF : mvF xs js t k = decide (¬ paTo xs js t xs.length k % 1000 = 0) := rfl
        by_cases hz : paTo xs js t xs.length k % 1000 = 0
        · have HN := Lib.hid (flt_no (hF.trans (by rw [hz]; rfl)))
          clear hF
          go_wp2
          exact ⟨⟨k + 1, by omega, by go_num, by rw [HN.out]; exact hown, hnx⟩, by simp [intOf]; omega⟩
        · have HN := Lib.hid (flt_yes (hF.trans (decide_eq_true hz)))
          have hz2' : (paTo xs js t xs.length k % 1000 == 0) = false := beq_eq_false_iff_ne.2 hz
          clear hF
          go_wp2_with (first
            | (at_builtin; refine wpList_append_own _ rfl _ _ 64 rfl (w.heap.size + 1 + os0.size + os1.size + 1) 2 i0 (.int .i64 0) 1 8 undI hi hz0 hz1 hz2 rfl (by decide) _ _ _ rfl (hown.alloc _) ⟨wr.heap.size, 0, none⟩ 1 1 [.int .i64 (k : Int)] rfl rfl (cell_one_new _ _ _) (fun x hx => by simp at hx; subst hx; rfl) (by have := HL.out; unfold maxLen; omega) (by have := HL.out; omega) (by simp; omega) ?_; intro v' w3 hown' hgrow3 hnil3))
          exact ⟨⟨k + 1, by omega, by go_num, by rw [HN.out, List.map_append, List.length_append]; exact hown', (hnx.alloc hsize _).grown hgrow3 (by simp; omega) (fun q hq => (hown.lt q hq).1)⟩, by simp [intOf]; omega⟩
      · obtain rfl : k = xs.length := by omega
        go_wp2
        go_returns
        exact ⟨u8, by rw [HA.out]; rfl, by rw [HM.out]; exact own_base hown (by omega), Below.trans (by repeat' (first | (with_reducible first | assumption | exact Below.refl _ _ | refine Below.drew ?_ | refine Below.alloc ?_ ?_ _ | refine Below.setCell ?_ ?_ _ | refine below_setR ?_ ?_ _ | refine below_dn ?_ _ | refine Below.trans ?_ (below_mo _ _ _ ?_) | refine Below.trans ?_ (below_mq _ _ ?_) | exact Nat.le_refl _) | (simp; done) | (simp; omega) | omega)) (hnx.mono (by omega))⟩
  · have HM := Lib.hid (mvL_no h0)
    have b1 : (askO xs js t != 0) = true := by simp [bne, h0]
    go_enter Try.func51, Try.ntmps51
    (go_wp2_with fail; refine (l02Asked_any hs h8 c hl hj cl _ (by repeat' (first | (with_reducible first | assumption | exact Below.refl _ _ | refine Below.drew ?_ | refine Below.alloc ?_ ?_ _ | refine Below.setCell ?_ ?_ _ | refine below_setR ?_ ?_ _ | refine below_dn ?_ _ | refine Below.trans ?_ (below_mo _ _ _ ?_) | refine Below.trans ?_ (below_mq _ _ ?_) | exact Nat.le_refl _) | (simp; done) | (simp; omega) | omega)) (by repeat' (first | (with_reducible first | assumption | exact Below.refl _ _ | refine Below.drew ?_ | refine Below.alloc ?_ ?_ _ | refine Below.setCell ?_ ?_ _ | refine below_setR ?_ ?_ _ | refine below_dn ?_ _ | refine Below.trans ?_ (below_mo _ _ _ ?_) | refine Below.trans ?_ (below_mq _ _ ?_) | exact Nat.le_refl _) | (simp; done) | (simp; omega) | omega)) _ (by first | assumption | (simp [go_sem]; done) | (simp [go_sem, *]; done) | (simp [go_sem]; rfl)) (by first | assumption | (simp [go_sem]; done) | (simp [go_sem, *]; done) | (simp [go_sem]; rfl)) _).mono ?_; rintro e w' ⟨rfl, hb_⟩; obtain ⟨os0, d0, rfl⟩ := mo_of hb_; clear hb_)
    go_wp2
    go_returns
    exact ⟨.slice (some ⟨w.heap.size + 1 + os0.size, 0, none⟩) 0 0, rfl, by rw [HM.out]; exact own_new _ _ (by simp; omega) _ _ (by simp), (by repeat' (first | (with_reducible first | assumption | exact Below.refl _ _ | refine Below.drew ?_ | refine Below.alloc ?_ ?_ _ | refine Below.setCell ?_ ?_ _ | refine below_setR ?_ ?_ _ | refine below_dn ?_ _ | refine Below.trans ?_ (below_mo _ _ _ ?_) | refine Below.trans ?_ (below_mq _ _ ?_) | exact Nat.le_refl _) | (simp; done) | (simp; omega) | omega))⟩
end Go.Proofs.Ytcaaljcfdahpaaa.X
