/- Terms and convergents: what the program and the reference compute. Conditions: none. -/
import Derived.Test.YtinjlofefmjolaaKFracL
import Derived.Test.YtinjlofefmjolaaKGearX
import Derived.Test.YtinjlofefmjolaaKP6
import Derived.Test.YtinjlofefmjolaaKMod
import Derived.Test.YtinjlofefmjolaaKList2
import Derived.Deep.AppendLies
import Derived.StillTailTactics
namespace Go.Proofs.Ytinjlofefmjolaa.X
open Go.RowKit
set_option linter.unusedVariables false
set_option linter.unusedSimpArgs false
set_option maxRecDepth 100000
theorem own_drewN {w : World} {b : Nat} {e : TypeId} {sz : Nat} {v : Value} {n : Nat} {ys : List Value} (h : w.ownsRow b e sz v n ys) (k : Nat) : (w.drewN k).ownsRow b e sz v n ys := h
/-- the first n terms -/
def tmT (P Q : Int) (n : Nat) : List Int := (List.range n).map (aT P Q)
theorem tmT_len (P Q : Int) (n : Nat) : (tmT P Q n).length = n := by simp [tmT]
theorem tmT_succ (P Q : Int) (n : Nat) : tmT P Q (n + 1) = tmT P Q n ++ [aT P Q n] := by unfold tmT; rw [List.range_succ, List.map_append]; rfl
theorem tmT_el (P Q : Int) {n k : Nat} (h : k < n) : el (tmT P Q n) (k : Int) = aT P Q k := by
  rw [el_at (by rw [tmT_len]; exact h)]
  simp [tmT]
/-- the first n convergents -/
def cvT (P Q : Int) (n : Nat) : List (Int × Int) := (List.range n).map (fun i => hS P Q (i + 2))
theorem cvT_len (P Q : Int) (n : Nat) : (cvT P Q n).length = n := by simp [cvT]
theorem cvT_succ (P Q : Int) (n : Nat) : cvT P Q (n + 1) = cvT P Q n ++ [hS P Q (n + 2)] := by unfold cvT; rw [List.range_succ, List.map_append]; rfl
theorem cvT_at (P Q : Int) {n k : Nat} (h : k < n) : (cvT P Q n)[k]? = some (hS P Q (k + 2)) := by
  unfold cvT
  rw [List.getElem?_map, List.getElem?_range h]
  rfl
theorem cvT_p (P Q : Int) {n k : Nat} (h : k < n) : p1 (cvT P Q n) (k : Int) = (hS P Q (k + 2)).1 ∧ p2 (cvT P Q n) (k : Int) = (hS P Q (k + 2)).2 := by
  have hl : k < (cvT P Q n).length := by rw [cvT_len]; exact h
  rw [p1_at hl, p2_at hl]
  simp [cvT]
set_option maxHeartbeats 4000000 in
theorem terms_ok {P Q : Int} {N : Nat} (C : CF P Q N) (w : World) : Calls Try.prog 41 #[.agg #[.int .i64 P, .int .i64 Q]] w fun e w' => ∃ A c, e = .returned (.slice A N c) ∧ Nums .i64 w' w'.heap.size A (tmT P Q N) ∧ Below w.heap.size w w' := by
  obtain ⟨i0, hi, hz0, hz1, hz2⟩ := info_parts infoI
  have hN := C.n
  have HBD := Lib.hid C.bd
  have HPOS := Lib.hid C.pos
  have HZ := Lib.hid C.zero
  have HA := Lib.hid C.abd
  have hp := C.p
  have hq := C.q
  have own1 := own_new (w.alloc (.cells #[.int .i64 P, .int .i64 Q] 25)) w.heap.size (by first | (simp; done) | (simp; omega)) 2 _ rfl
  clear C
  go_enter Try.func41, Try.ntmps41
  go_wp2
  go_quiet (fail)
  go_wp2
  go_loopw [3, 4, 5] (fun v x y wr => ∃ n : Nat, n ≤ N ∧ x = .int .i64 (pqS P Q n).1 ∧ y = .int .i64 (pqS P Q n).2 ∧ wr.ownsRow w.heap.size 2 1 v n ((tmT P Q n).map (Value.int .i64)) ∧ Below w.heap.size w wr) (fun _ _ y _ => (intOf y).toNat)
  case atStart => exact ⟨0, Nat.zero_le _, rfl, rfl, own_drewN (by rw [show (tmT P Q 0).map (Value.int .i64) = [] from rfl]; first | exact own1 | simpa using own1) _, (by repeat' (first | (with_reducible first | assumption | exact Below.refl _ _ | refine Below.drew ?_ | refine Below.alloc ?_ ?_ _ | refine Below.setCell ?_ ?_ _ | refine below_setR ?_ ?_ _ | refine below_dn ?_ _ | refine Below.trans ?_ (below_mo _ _ _ ?_) | refine Below.trans ?_ (below_mq _ _ ?_) | exact Nat.le_refl _) | (simp; done) | (simp; omega) | omega))⟩
  case round =>
    obtain ⟨n, hn, rfl, rfl, hown, hnx⟩ := hrel
    have hsize := hnx.size
    have hbd := HBD.out n hn
    by_cases hlt : n < N
    · have h0 := HPOS.out n hlt
      have ha := HA.out n hlt
      have hb1 := HBD.out (n + 1) (by omega)
      have e1 : (pqS P Q n).1.tdiv (pqS P Q n).2 = aT P Q n := Int.tdiv_eq_ediv_of_nonneg (by omega)
      have e2 : (pqS P Q n).1.tmod (pqS P Q n).2 = (pqS P Q (n + 1)).2 := Int.tmod_eq_emod_of_nonneg (by omega)
      have e3 : IntKind.i64.wrap (aT P Q n) = aT P Q n := IntWalk.i64_in _ ⟨by omega, by omega⟩
      have e4 : IntKind.i64.wrap (pqS P Q (n + 1)).2 = (pqS P Q (n + 1)).2 := IntWalk.i64_in _ ⟨by omega, by omega⟩
      have z1 : ¬ (pqS P Q n).2 = 0 := by omega
      have z2 : ((pqS P Q n).2 == 0) = false := beq_eq_false_iff_ne.2 z1
      have hlt2 : (pqS P Q (n + 1)).2 < (pqS P Q n).2 := Int.emod_lt_of_pos _ h0
      have HX : Hid ((pqS P Q (n + 1)).1 = (pqS P Q n).2) := rfl
      generalize (pqS P Q n).1 = x at *
      generalize (pqS P Q n).2 = y at *
      go_wp2_with (first | (at_builtin; refine wpList_append_own _ rfl _ _ 27 rfl w.heap.size 2 i0 (.int .i64 0) 1 8 undI hi hz0 hz1 hz2 rfl (by decide) _ _ _ rfl (hown.alloc _) ⟨wr.heap.size, 0, none⟩ 1 1 [.int .i64 (aT P Q n)] rfl rfl (cell_one_new _ _ _) (fun x hx => by simp at hx; subst hx; rfl) (by unfold maxLen; omega) (by omega) (by simp; omega) ?_; intro v' w3 hown' hgrow3 hnil3))
      go_quiet (fail)
      go_wp2
      exact ⟨⟨n + 1, by omega, by rw [HX.out], rfl, own_drewN (by rw [tmT_succ, List.map_append]; exact hown') _, below_dn ((hnx.alloc (by omega) _).grown hgrow3 (by first | (simp; done) | (simp; omega)) (fun q hq => (hown.lt q hq).1)) _⟩, by simp [intOf]; omega⟩
    · obtain rfl : n = N := by omega
      have hz := HZ.out
      generalize (pqS P Q n).1 = x at *
      rw [hz]
      have htl := tmT_len P Q n
      obtain ⟨A, c, rfl, N1⟩ := own_nums (ys := tmT P Q n) (by rw [htl]; exact hown) (by rw [htl]; omega)
      rw [htl]
      clear hz HZ hown
      go_wp2
      go_ret
      exact ⟨A, c, rfl, N1, hnx⟩
set_option maxHeartbeats 4000000 in
theorem l03Terms_ok {P Q : Int} {N : Nat} (C : CF P Q N) (w : World) : Calls Try.prog 43 #[.agg #[.int .i64 P, .int .i64 Q]] w fun e w' => ∃ A c, e = .returned (.slice A N c) ∧ Nums .i64 w' w'.heap.size A (tmT P Q N) ∧ Below w.heap.size w w' := by
  obtain ⟨i0, hi, hz0, hz1, hz2⟩ := info_parts infoI
  have hN := C.n
  have HBD := Lib.hid C.bd
  have HPOS := Lib.hid C.pos
  have HZ := Lib.hid C.zero
  have HA := Lib.hid C.abd
  have hp := C.p
  have hq := C.q
  have own1 := own_new (w.alloc (.cells #[.int .i64 P, .int .i64 Q] 25)) w.heap.size (by first | (simp; done) | (simp; omega)) 2 _ rfl
  clear C
  go_enter Try.func43, Try.ntmps43
  go_wp2
  go_loopw [3, 4, 5] (fun v x y wr => ∃ n : Nat, n ≤ N ∧ x = .int .i64 (pqS P Q n).1 ∧ y = .int .i64 (pqS P Q n).2 ∧ wr.ownsRow w.heap.size 2 1 v n ((tmT P Q n).map (Value.int .i64)) ∧ Below w.heap.size w wr) (fun _ _ y _ => (intOf y).toNat)
  case atStart => exact ⟨0, Nat.zero_le _, rfl, rfl, (by rw [show (tmT P Q 0).map (Value.int .i64) = [] from rfl]; first | exact own1 | simpa using own1), (by repeat' (first | (with_reducible first | assumption | exact Below.refl _ _ | refine Below.drew ?_ | refine Below.alloc ?_ ?_ _ | refine Below.setCell ?_ ?_ _ | refine below_setR ?_ ?_ _ | refine below_dn ?_ _ | refine Below.trans ?_ (below_mo _ _ _ ?_) | refine Below.trans ?_ (below_mq _ _ ?_) | exact Nat.le_refl _) | (simp; done) | (simp; omega) | omega))⟩
  case round =>
    obtain ⟨n, hn, rfl, rfl, hown, hnx⟩ := hrel
    have hsize := hnx.size
    have hbd := HBD.out n hn
    by_cases hlt : n < N
    · have h0 := HPOS.out n hlt
      have ha := HA.out n hlt
      have hb1 := HBD.out (n + 1) (by omega)
      have e1 : (pqS P Q n).1.tdiv (pqS P Q n).2 = aT P Q n := Int.tdiv_eq_ediv_of_nonneg (by omega)
      have e2 : (pqS P Q n).1.tmod (pqS P Q n).2 = (pqS P Q (n + 1)).2 := Int.tmod_eq_emod_of_nonneg (by omega)
      have e3 : IntKind.i64.wrap (aT P Q n) = aT P Q n := IntWalk.i64_in _ ⟨by omega, by omega⟩
      have e4 : IntKind.i64.wrap (pqS P Q (n + 1)).2 = (pqS P Q (n + 1)).2 := IntWalk.i64_in _ ⟨by omega, by omega⟩
      have z1 : ¬ (pqS P Q n).2 = 0 := by omega
      have z2 : ((pqS P Q n).2 == 0) = false := beq_eq_false_iff_ne.2 z1
      have hlt2 : (pqS P Q (n + 1)).2 < (pqS P Q n).2 := Int.emod_lt_of_pos _ h0
      have HX : Hid ((pqS P Q (n + 1)).1 = (pqS P Q n).2) := rfl
      generalize (pqS P Q n).1 = x at *
      generalize (pqS P Q n).2 = y at *
      go_wp2_with (first | (at_builtin; refine wpList_append_own _ rfl _ _ 27 rfl w.heap.size 2 i0 (.int .i64 0) 1 8 undI hi hz0 hz1 hz2 rfl (by decide) _ _ _ rfl (hown.alloc _) ⟨wr.heap.size, 0, none⟩ 1 1 [.int .i64 (aT P Q n)] rfl rfl (cell_one_new _ _ _) (fun x hx => by simp at hx; subst hx; rfl) (by unfold maxLen; omega) (by omega) (by simp; omega) ?_; intro v' w3 hown' hgrow3 hnil3))
      exact ⟨⟨n + 1, by omega, by rw [HX.out], rfl, (by rw [tmT_succ, List.map_append]; exact hown'), ((hnx.alloc (by omega) _).grown hgrow3 (by first | (simp; done) | (simp; omega)) (fun q hq => (hown.lt q hq).1))⟩, by simp [intOf]; omega⟩
    · obtain rfl : n = N := by omega
      have hz := HZ.out
      generalize (pqS P Q n).1 = x at *
      rw [hz]
      have htl := tmT_len P Q n
      obtain ⟨A, c, rfl, N1⟩ := own_nums (ys := tmT P Q n) (by rw [htl]; exact hown) (by rw [htl]; omega)
      rw [htl]
      clear hz HZ hown
      go_wp2
      go_ret
      exact ⟨A, c, rfl, N1, hnx⟩
theorem infoRat : (Try.prog.info? 25).map (fun i => (i.zero, i.size, i.bytes)) = some (some (.agg #[.int .i64 0, .int .i64 0]), 2, 16) := by kernel_rfl
theorem undRat : Try.prog.underlying 32 = some (.slice 25) := by kernel_rfl
theorem keepGQ {wr w3 : World} {o o' : Obj} {row : Option Nat} {g : Nat} (h : wr.heap[g]? = some o') (hg : (wr.alloc o).grownBy w3 row) (hne : some g ≠ row) : w3.heap[g]? = some o' := by
  have hl := (Array.getElem?_eq_some_iff.1 h).1
  exact (hg.block g (by rw [World.size_alloc]; exact Nat.lt_succ_of_lt hl) hne).trans (heap_alloc_past h)
theorem two_atQ {w : World} {g : Nat} {a b : Value} {T : TypeId} (h : w.heap[g]? = some (.cells #[a, b] T)) : w.cell? ⟨g, 0, none⟩ = some a ∧ w.cell? ⟨g, 1, none⟩ = some b ∧ w.frozen? ⟨g, 0, none⟩ = false ∧ w.frozen? ⟨g, 1, none⟩ = false :=
  ⟨(cell_of_row w g 0 _ T (0, 0) h).trans rfl, (cell_of_row w g 1 _ T (0, 0) h).trans rfl, frozen_of_row w g 0 _ T h, frozen_of_row w g 1 _ T h⟩
theorem own_drew {w : World} {b : Nat} {e : TypeId} {sz : Nat} {v : Value} {n : Nat} {ys : List Value} (h : w.ownsRow b e sz v n ys) : w.drew.ownsRow b e sz v n ys := h
theorem set01 {w : World} {g : Nat} {a b a' b' : Value} {T : TypeId} (h : w.heap[g]? = some (.cells #[a, b] T)) : ((w.setCell ⟨g, 0, none⟩ a').setCell ⟨g, 1, none⟩ b').heap[g]? = some (.cells #[a', b'] T) := by
  have h1 := heap_setCell_same w g 0 _ T a' h
  exact heap_setCell_same (w.setCell ⟨g, 0, none⟩ a') g 1 _ T b' h1
theorem set01_o {w : World} {g k : Nat} {a' b' : Value} {o : Obj} (hne : k ≠ g) (h : w.heap[k]? = some o) : ((w.setCell ⟨g, 0, none⟩ a').setCell ⟨g, 1, none⟩ b').heap[k]? = some o :=
  (Below.heap_setCell _ ⟨g, 1, none⟩ _ k hne).trans ((Below.heap_setCell _ ⟨g, 0, none⟩ _ k hne).trans h)
theorem own_set01 {w : World} {g B : Nat} {a' b' : Value} {e : TypeId} {sz : Nat} {v : Value} {n : Nat} {ys : List Value} (h : w.ownsRow B e sz v n ys) (hne : some g ≠ v.ownBlock) : ((w.setCell ⟨g, 0, none⟩ a').setCell ⟨g, 1, none⟩ b').ownsRow B e sz v n ys :=
  (Chg.set (Chg.set (Chg.refl' w (fun k => k = g)) rfl) rfl).row h (fun k h1 h2 => hne (by rw [← h2]; exact h1.symm))
theorem below_set01 {B : Nat} {w0 w : World} {g : Nat} {a' b' : Value} (h : Below B w0 w) (hg : B ≤ g) : Below B w0 ((w.setCell ⟨g, 0, none⟩ a').setCell ⟨g, 1, none⟩ b') := Below.setCell (Below.setCell h hg _) hg _
/-- facts on one round of convergents -/
theorem CF.step {P Q : Int} {N : Nat} (C : CF P Q N) {n : Nat} (hn : n < N) : ((0 ≤ aT P Q n * (hS P Q (n + 1)).1 ∧ aT P Q n * (hS P Q (n + 1)).1 ≤ 65536) ∧ 0 ≤ aT P Q n * (hS P Q (n + 1)).2 ∧ aT P Q n * (hS P Q (n + 1)).2 ≤ 65536) ∧ ((0 ≤ (hS P Q (n + 2)).1 ∧ (hS P Q (n + 2)).1 ≤ 65536) ∧ 0 ≤ (hS P Q (n + 2)).2 ∧ (hS P Q (n + 2)).2 ≤ 65536) ∧ hS P Q (n + 2) = (aT P Q n * (hS P Q (n + 1)).1 + (hS P Q n).1, aT P Q n * (hS P Q (n + 1)).2 + (hS P Q n).2) := by
  have a := C.abd n hn
  have b := C.hnn (n + 1) (by omega)
  have c := C.hnn n (by omega)
  have d : (hS P Q (n + 2)).1 ≤ P ∧ (hS P Q (n + 2)).2 ≤ Q := C.hle (n + 1) (by omega)
  have e : hS P Q (n + 2) = (aT P Q n * (hS P Q (n + 1)).1 + (hS P Q n).1, aT P Q n * (hS P Q (n + 1)).2 + (hS P Q n).2) := rfl
  have m1 := Int.mul_nonneg a.1.1 b.1
  have m2 := Int.mul_nonneg a.1.1 b.2
  have e1 : (hS P Q (n + 2)).1 = aT P Q n * (hS P Q (n + 1)).1 + (hS P Q n).1 := rfl
  have e2 : (hS P Q (n + 2)).2 = aT P Q n * (hS P Q (n + 1)).2 + (hS P Q n).2 := rfl
  have p := C.p
  have q := C.q
  refine ⟨⟨⟨m1, by omega⟩, m2, by omega⟩, ⟨⟨by omega, by omega⟩, by omega, by omega⟩, e⟩
end Go.Proofs.Ytinjlofefmjolaa.X
