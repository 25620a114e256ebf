/- The law FnPortions, walked. Conditions: none. -/
import Derived.Test.YtbihgnmiocfelaaKPortW
import Derived.Test.YtbihgnmiocfelaaKA2
import Derived.Test.YtbihgnmiocfelaaKOpen
namespace Go.Proofs.Ytbihgnmiocfelaa.X
open Go.RowKit
set_option linter.unusedVariables false
set_option linter.unusedSimpArgs false
set_option maxRecDepth 100000
set_option maxHeartbeats 8000000 in
theorem lawPortions (w : World) {A0 : Option Addr} {xs0 : List Int} (c0 : Nat) (hs0 : SL w w.heap.size 1 (fun x => [Value.int .u8 x]) A0 xs0) (hm0 : xs0.length ≤ maxLen) (h80 : b8 xs0) {A1 : Option Addr} {xs1 : List Int} (c1 : Nat) (hs1 : SL w w.heap.size 1 (fun x => [Value.int .u8 x]) A1 xs1) (hm1 : xs1.length ≤ maxLen) (h81 : b8 xs1) :
    Calls Try.prog 3 #[.slice A0 xs0.length c0, .slice A1 xs1.length c1] w fun e w' => e = .returned (.bool true) ∧ Below w.heap.size w w' := by
  by_cases hl : ¬ (xs0.length ≤ 3000 ∧ xs1.length ≤ 3000)
  · go_enter Try.func3, Try.ntmps3
    go_wp2_with (go_at_call 15; refine (a2Long_big _ _ _ _ hl _).mono ?_; rintro e w' ⟨rfl, rfl⟩)
    go_ret
    exact ⟨rfl, (by repeat' (first | (with_reducible first | assumption | exact Below.refl _ _ | refine Below.drew ?_ | refine Below.alloc ?_ ?_ _ | refine Below.setCell ?_ ?_ _ | refine below_setR ?_ ?_ _ | refine below_dn ?_ _ | refine Below.trans ?_ (below_mo _ _ _ ?_) | refine Below.trans ?_ (below_mq _ _ ?_) | exact Nat.le_refl _) | (simp; done) | (simp; omega) | omega))⟩
  obtain ⟨l0, l1⟩ : xs0.length ≤ 3000 ∧ xs1.length ≤ 3000 := by omega
  have ha0 : Nums .u8 w w.heap.size A0 xs0 := ⟨hs0, by omega, Nat.le_refl _⟩
  have ha1 : Nums .u8 w w.heap.size A1 xs1 := ⟨hs1, by omega, Nat.le_refl _⟩
  clear hs0 hs1 hm0 hm1 hl
  have bp := at2_bd xs0 0 12 (by omega)
  have bq := at2_bd xs0 1 12 (by omega)
  have bm := at2_bd xs0 2 6 (by omega)
  obtain ⟨m, hm⟩ : ∃ m : Nat, (m : Int) = 1 + at2 xs0 2 6 := ⟨(1 + at2 xs0 2 6).toNat, by omega⟩
  have hm1 : 1 ≤ m ∧ m ≤ 6 := by omega
  obtain ⟨a, b, c, HP⟩ := (ppl_from xs0 xs1 hm1).ports
  obtain ⟨a1, a2⟩ := a
  obtain ⟨b1, b2⟩ := b
  obtain ⟨fP, fQ⟩ := c
  have hFR := Lib.hid (fun k (hk : k < m) => (ppl_from xs0 xs1 hm1).pr k (by rw [ppl_len]; exact hk))
  obtain ⟨p, hp⟩ : ∃ p, p = at2 xs0 0 12 := ⟨_, rfl⟩
  obtain ⟨q, hq⟩ : ∃ q, q = 1 + at2 xs0 1 12 := ⟨_, rfl⟩
  have HPR : Hid (∀ k : Nat, ppr xs0 xs1 k = (1 + at2 xs1 (k : Int) 60, (1 + at2 xs1 (k : Int) 60) * p / q)) := fun k => by rw [hp, hq]; rfl
  rw [← hp, ← hq] at HP hFR
  have bp' : 0 ≤ p ∧ p ≤ 11 := by omega
  have bq' : 1 ≤ q ∧ q ≤ 12 := by omega
  have E0 := Lib.hid hp
  have E1 := Lib.hid hq
  have E2 := Lib.hid hm
  have A00 := Lib.hid (fun W (hW : Below w.heap.size w W) => a2At_any ha0 h80 _ c0 rfl W hW 0 12 (by omega) (by omega))
  have A01 := Lib.hid (fun W (hW : Below w.heap.size w W) => a2At_any ha0 h80 _ c0 rfl W hW 1 12 (by omega) (by omega))
  have A02 := Lib.hid (fun W (hW : Below w.heap.size w W) => a2At_any ha0 h80 _ c0 rfl W hW 2 6 (by omega) (by omega))
  have e0 : IntKind.i64.wrap (1 + at2 xs0 1 12) = q := (IntWalk.i64_in _ ⟨by omega, by omega⟩).trans hq.symm
  have e2 : IntKind.i64.wrap (1 + at2 xs0 2 6) = (m : Int) := (IntWalk.i64_in _ ⟨by omega, by omega⟩).trans hm.symm
  obtain ⟨i0, hi, hz0, hz1, hz2⟩ := info_parts (infoA trivial)
  clear hp hq hm bp bq bm
  go_enter Try.func3, Try.ntmps3
  (go_wp2_with fail; refine (a2Long_ok _ _ _ _ l0 l1 _).mono ?_; rintro e w' ⟨rfl, rfl⟩)
  (go_wp2_with fail; refine (A00.out _ (by repeat' (first | (with_reducible first | assumption | exact Below.refl _ _ | refine Below.drew ?_ | refine Below.alloc ?_ ?_ _ | refine Below.setCell ?_ ?_ _ | refine below_setR ?_ ?_ _ | refine below_dn ?_ _ | refine Below.trans ?_ (below_mo _ _ _ ?_) | refine Below.trans ?_ (below_mq _ _ ?_) | exact Nat.le_refl _) | (simp; done) | (simp; omega) | omega))).mono ?_; rintro e w' ⟨rfl, rfl⟩; rw [← E0.out])
  (go_wp2_with fail; refine (A01.out _ (by repeat' (first | (with_reducible first | assumption | exact Below.refl _ _ | refine Below.drew ?_ | refine Below.alloc ?_ ?_ _ | refine Below.setCell ?_ ?_ _ | refine below_setR ?_ ?_ _ | refine below_dn ?_ _ | refine Below.trans ?_ (below_mo _ _ _ ?_) | refine Below.trans ?_ (below_mq _ _ ?_) | exact Nat.le_refl _) | (simp; done) | (simp; omega) | omega))).mono ?_; rintro e w' ⟨rfl, rfl⟩)
  go_wp2
  go_loopw [7, 8] (fun v i wr => ∃ k : Nat, k ≤ m ∧ i = .int .i64 (k : Int) ∧ wr.ownsRow w.heap.size 26 2 v k (pcl (ppr xs0 xs1) k) ∧ Below w.heap.size w wr) (fun _ i _ => m - (intOf i).toNat)
  case atStart => exact ⟨0, by omega, rfl, own_litP _ _ (by first | (simp; done) | (simp; omega)) _ _ (by first | (simp; done) | (simp; omega)), (by repeat' (first | (with_reducible first | assumption | exact Below.refl _ _ | refine Below.drew ?_ | refine Below.alloc ?_ ?_ _ | refine Below.setCell ?_ ?_ _ | refine below_setR ?_ ?_ _ | refine below_dn ?_ _ | refine Below.trans ?_ (below_mo _ _ _ ?_) | refine Below.trans ?_ (below_mq _ _ ?_) | exact Nat.le_refl _) | (simp; done) | (simp; omega) | omega))⟩
  case round =>
    obtain ⟨k, hk, rfl, hown, hnx⟩ := hrel
    have hsize := hnx.size
    (go_wp2_with fail; refine (A02.out _ hnx).mono ?_; rintro e w' ⟨rfl, rfl⟩)
    by_cases hlt : (k : Int) < (m : Int)
    · have hown0 := hown
      have bx := at2_bd xs1 (k : Int) 60 (by omega)
      have hPk := HPR.out k
      obtain ⟨x, hx⟩ : ∃ x, x = 1 + at2 xs1 (k : Int) 60 := ⟨_, rfl⟩
      rw [← hx] at hPk
      have m1 := mul_bd (show 0 ≤ x ∧ x ≤ 60 by omega) (show 0 ≤ p ∧ p ≤ 11 by omega)
      have d3 := Int.ediv_nonneg m1.1 (show 0 ≤ q by omega)
      have d4 := Int.ediv_le_self q m1.1
      have e3 : IntKind.i64.wrap (1 + at2 xs1 (k : Int) 60) = x := (IntWalk.i64_in _ ⟨by omega, by omega⟩).trans hx.symm
      have e4 : IntKind.i64.wrap (x * p) = x * p := IntWalk.i64_in _ ⟨by omega, by omega⟩
      have e5 : (x * p).tdiv q = x * p / q := Int.tdiv_eq_ediv_of_nonneg m1.1
      have e6 : IntKind.i64.wrap (x * p / q) = x * p / q := IntWalk.i64_in _ ⟨by omega, by omega⟩
      have e7 : IntKind.i64.wrap ((k : Int) + 1) = (k : Int) + 1 := IntWalk.i64_in _ ⟨by omega, by omega⟩
      have g1 : ¬ q = 0 := by omega
      have g2 : (q == 0) = false := beq_eq_false_iff_ne.2 g1
      have hkm : k + 1 ≤ m := by omega
      have HX := Lib.hid hPk
      have A1k := Lib.hid (fun W (hW : Below w.heap.size w W) => a2At_any ha1 h81 _ c1 rfl W hW (k : Int) 60 (by omega) (by omega))
      clear hPk hx d3 d4 bx m1
      (go_wp2_with fail; refine (A1k.out _ hnx).mono ?_; rintro e w' ⟨rfl, rfl⟩)
      go_wp2_with (first | (at_builtin; refine wpList_append_own _ rfl _ _ 25 rfl w.heap.size 26 i0 (.agg #[.int .i64 0, .int .i64 0]) 2 16 undA hi hz0 hz1 hz2 rfl (by decide) _ _ _ rfl (hown.alloc _) ⟨wr.heap.size, 0, none⟩ 1 1 [.int .i64 x, .int .i64 (x * p / q)] rfl rfl (cell_two_new _ _ _ _) (fun x hx => by simp at hx; rcases hx with rfl | rfl <;> rfl) (by unfold maxLen; omega) (by omega) (by simp; omega) ?_; intro v' w3 hown' hgrow3 hnil3))
      exact ⟨⟨k + 1, hkm, by go_num, by unfold pcl; rw [HX.out]; exact hown', (hnx.alloc hsize _).grown hgrow3 (by first | (simp; done) | (simp; omega)) (fun q hq => (hown0.lt q hq).1)⟩, by simp [intOf]; omega⟩
    · obtain rfl : k = m := by omega
      obtain ⟨L, cl, rfl, HL⟩ := own_prs xs0 xs1 hown (by omega)
      have hlen := ppl_len xs0 xs1 k
      have K1 : Hid (∀ W, Below wr.heap.size wr W → Calls Try.prog 17 #[.slice L k cl] W fun e w' => e = .returned (.tuple #[.agg #[.int .i64 a1, .int .i64 a2], .agg #[.int .i64 b1, .int .i64 b2], .int .i64 0]) ∧ Below W.heap.size W w') := fun W hW => by
        have := implBounds_any HL cl W hW
        rw [hlen, HP.pb] at this
        exact this
      have K2 : Hid (∀ W, Below wr.heap.size wr W → Calls Try.prog 18 #[.slice L k cl] W fun e w' => e = .returned (.tuple #[.agg #[.int .i64 a1, .int .i64 a2], .agg #[.int .i64 b1, .int .i64 b2], .int .i64 0]) ∧ Below W.heap.size W w') := fun W hW => by
        have := specBounds_any HL cl W hW
        rw [hlen, HP.pb] at this
        exact this
      have K3 : Hid (∀ W, Below wr.heap.size wr W → Calls Try.prog 19 #[.slice L k cl] W fun e w' => e = .returned (.tuple #[.agg #[.int .i64 fP, .int .i64 fQ], .int .i64 0]) ∧ Below W.heap.size W w') := fun W hW => by
        have := implFind_any HL cl W hW
        rw [hlen, HP.fp] at this
        exact this
      have K4 : Hid (∀ W, Below wr.heap.size wr W → Calls Try.prog 20 #[.slice L k cl] W fun e w' => e = .returned (.tuple #[.agg #[.int .i64 fP, .int .i64 fQ], .int .i64 0]) ∧ Below W.heap.size W w') := fun W hW => by
        have := specFind_any HL cl W hW
        rw [hlen, HP.fp] at this
        exact this
      have K5 : Hid (∀ W, Calls Try.prog 21 #[.agg #[.int .i64 a1, .int .i64 a2], .agg #[.int .i64 b1, .int .i64 b2]] W fun e w' => e = .returned (.tuple #[.agg #[.int .i64 fP, .int .i64 fQ], .int .i64 0]) ∧ Below W.heap.size W w') := fun W => by
        have := implSimplestPortion_any a1 a2 b1 b2 W
        have e := HP.sv
        dsimp only at e
        rw [e] at this
        exact this
      have K6 : Hid (∀ W, Calls Try.prog 21 #[.agg #[.int .i64 b1, .int .i64 b2], .agg #[.int .i64 a1, .int .i64 a2]] W fun e w' => e = .returned (.tuple #[.agg #[.int .i64 0, .int .i64 0], .int .i64 4]) ∧ Below W.heap.size W w') := fun W => by
        have := implSimplestPortion_any b1 b2 a1 a2 W
        have e := HP.sw
        dsimp only at e
        rw [e] at this
        exact this
      have p0 : 0 ≤ a1 ∧ a1 ≤ 100001 := HP.a0
      have p1_ : 1 ≤ a2 ∧ a2 ≤ 100001 := HP.a1
      have p2_ : 0 ≤ b1 ∧ b1 ≤ 100001 := HP.b0
      have p3 : 1 ≤ b2 ∧ b2 ≤ 100001 := HP.b1
      have p4 : 0 ≤ fP ∧ fP ≤ 100001 := HP.c0
      have p5 : 1 ≤ fQ ∧ fQ ≤ q := HP.c1
      have r1 : a1 * q ≤ p * a2 := HP.l1
      have r2 : p * b2 < b1 * q := HP.l2
      have r3 : fQ = q → fP ≤ p := HP.l3
      have L4 : Hid (∀ j : Nat, j < k → p1 (ppl xs0 xs1 k) (j : Int) * fP / fQ = p2 (ppl xs0 xs1 k) (j : Int)) := fun j hj => HP.l4 j (by rw [hlen]; exact hj)
      have L5 : Hid (∀ d : Int, 1 ≤ d → d < fQ → b1 * d ≤ (a1 * d + a2 - 1) / a2 * b2) := HP.l5
      have n1 := mul_bd p0 (show 0 ≤ q ∧ q ≤ 12 by omega)
      have n2 := mul_bd (show 0 ≤ p ∧ p ≤ 11 by omega) (show 0 ≤ a2 ∧ a2 ≤ 100001 by omega)
      have n3 := mul_bd (show 0 ≤ p ∧ p ≤ 11 by omega) (show 0 ≤ b2 ∧ b2 ≤ 100001 by omega)
      have n4 := mul_bd p2_ (show 0 ≤ q ∧ q ≤ 12 by omega)
      have y1 : IntKind.i64.wrap (a1 * q) = a1 * q := IntWalk.i64_in _ ⟨by omega, by omega⟩
      have y2 : IntKind.i64.wrap (p * a2) = p * a2 := IntWalk.i64_in _ ⟨by omega, by omega⟩
      have y3 : IntKind.i64.wrap (p * b2) = p * b2 := IntWalk.i64_in _ ⟨by omega, by omega⟩
      have y4 : IntKind.i64.wrap (b1 * q) = b1 * q := IntWalk.i64_in _ ⟨by omega, by omega⟩
      have f1 : ¬ p * a2 < a1 * q := by omega
      have f2 : ¬ b1 * q ≤ p * b2 := by omega
      have f3 : ¬ q < fQ := by omega
      have f4 : ¬ fQ < 1 := by omega
      have hdq : (fQ = q ∧ ¬ p < fP) ∨ (¬ fQ = q ∧ True) := by
        by_cases e : fQ = q
        · exact .inl ⟨e, by have := r3 e; omega⟩
        · exact .inr ⟨e, trivial⟩
      have HC1 := Lib.hid n1
      have HC4 := Lib.hid n4
      have HF6 : Hid (∀ j : Nat, j < k → (1 ≤ p1 (ppl xs0 xs1 k) (j : Int) ∧ p1 (ppl xs0 xs1 k) (j : Int) ≤ 60) ∧ (0 ≤ p2 (ppl xs0 xs1 k) (j : Int) ∧ p2 (ppl xs0 xs1 k) (j : Int) ≤ 660)) := fun j hj => ⟨(hFR.out j hj).1, (hFR.out j hj).2.1⟩
      have hsz := hsize
      clear HP n1 n2 n3 n4 r1 r2 r3 hFR HPR A00 A01 A02 E0 E1 e0 ha0 ha1 hown hi hz0 hz1 hz2
      (go_wp2_with fail; refine (K1.out _ (by repeat' (first | (with_reducible first | assumption | exact Below.refl _ _ | refine Below.drew ?_ | refine Below.alloc ?_ ?_ _ | refine Below.setCell ?_ ?_ _ | refine below_setR ?_ ?_ _ | refine below_dn ?_ _ | refine Below.trans ?_ (below_mo _ _ _ ?_) | refine Below.trans ?_ (below_mq _ _ ?_) | exact Nat.le_refl _) | (simp; done) | (simp; omega) | omega))).mono ?_; rintro e w' ⟨rfl, hb_⟩; obtain ⟨os1, d1, rfl⟩ := mo_of hb_; clear hb_)
      (go_wp2_with fail; refine (K2.out _ (by repeat' (first | (with_reducible first | assumption | exact Below.refl _ _ | refine Below.drew ?_ | refine Below.alloc ?_ ?_ _ | refine Below.setCell ?_ ?_ _ | refine below_setR ?_ ?_ _ | refine below_dn ?_ _ | refine Below.trans ?_ (below_mo _ _ _ ?_) | refine Below.trans ?_ (below_mq _ _ ?_) | exact Nat.le_refl _) | (simp; done) | (simp; omega) | omega))).mono ?_; rintro e w' ⟨rfl, hb_⟩; obtain ⟨os2, d2, rfl⟩ := mo_of hb_; clear hb_)
      (go_wp2_with fail; refine (K3.out _ (by repeat' (first | (with_reducible first | assumption | exact Below.refl _ _ | refine Below.drew ?_ | refine Below.alloc ?_ ?_ _ | refine Below.setCell ?_ ?_ _ | refine below_setR ?_ ?_ _ | refine below_dn ?_ _ | refine Below.trans ?_ (below_mo _ _ _ ?_) | refine Below.trans ?_ (below_mq _ _ ?_) | exact Nat.le_refl _) | (simp; done) | (simp; omega) | omega))).mono ?_; rintro e w' ⟨rfl, hb_⟩; obtain ⟨os3, d3, rfl⟩ := mo_of hb_; clear hb_)
      (go_wp2_with fail; refine (K4.out _ (by repeat' (first | (with_reducible first | assumption | exact Below.refl _ _ | refine Below.drew ?_ | refine Below.alloc ?_ ?_ _ | refine Below.setCell ?_ ?_ _ | refine below_setR ?_ ?_ _ | refine below_dn ?_ _ | refine Below.trans ?_ (below_mo _ _ _ ?_) | refine Below.trans ?_ (below_mq _ _ ?_) | exact Nat.le_refl _) | (simp; done) | (simp; omega) | omega))).mono ?_; rintro e w' ⟨rfl, hb_⟩; obtain ⟨os4, d4, rfl⟩ := mo_of hb_; clear hb_)
      rcases hdq with ⟨g5, g6⟩ | ⟨g5, g6⟩
      case' inl => subst g5
      all_goals
        go_wp2
        refine wp_at (fun u => u.heap[wr.heap.size + os1.size + 1 + 1 + os2.size]? = some (.cells #[.int .i64 a1, .int .i64 a2] 28 (0, 0)) ∧ u.heap[wr.heap.size + os1.size + 1 + 1 + os2.size + 1]? = some (.cells #[.int .i64 b1, .int .i64 b2] 28 (0, 0)) ∧ u.heap[wr.heap.size + os1.size + 1 + 1 + os2.size + 1 + 1 + os3.size + 1 + os4.size]? = some (.cells #[.int .i64 fP, .int .i64 fQ] 28 (0, 0)) ∧ Below wr.heap.size wr u) _ ⟨(by repeat' (first | (with_reducible assumption) | (with_reducible refine heap_mo_at ?_) | (with_reducible refine heap_mq_at ?_) | (with_reducible refine heap_drew_at ?_) | ((with_reducible refine heap_alloc_at ?_); first | rfl | (simp; done)) | (with_reducible refine heap_alloc_past ?_) | ((with_reducible apply heap_set_at); (first | rfl | (simp; done))) | ((with_reducible apply heap_set_past); (first | (simp; done) | (simp; omega) | omega)) | ((with_reducible apply heap_setC_past); (first | (simp; done) | (simp; omega) | omega)) | fail)), (by repeat' (first | (with_reducible assumption) | (with_reducible refine heap_mo_at ?_) | (with_reducible refine heap_mq_at ?_) | (with_reducible refine heap_drew_at ?_) | ((with_reducible refine heap_alloc_at ?_); first | rfl | (simp; done)) | (with_reducible refine heap_alloc_past ?_) | ((with_reducible apply heap_set_at); (first | rfl | (simp; done))) | ((with_reducible apply heap_set_past); (first | (simp; done) | (simp; omega) | omega)) | ((with_reducible apply heap_setC_past); (first | (simp; done) | (simp; omega) | omega)) | fail)), (by repeat' (first | (with_reducible assumption) | (with_reducible refine heap_mo_at ?_) | (with_reducible refine heap_mq_at ?_) | (with_reducible refine heap_drew_at ?_) | ((with_reducible refine heap_alloc_at ?_); first | rfl | (simp; done)) | (with_reducible refine heap_alloc_past ?_) | ((with_reducible apply heap_set_at); (first | rfl | (simp; done))) | ((with_reducible apply heap_set_past); (first | (simp; done) | (simp; omega) | omega)) | ((with_reducible apply heap_setC_past); (first | (simp; done) | (simp; omega) | omega)) | fail)), (by repeat' (first | (with_reducible first | assumption | exact Below.refl _ _ | refine Below.drew ?_ | refine Below.alloc ?_ ?_ _ | refine Below.setCell ?_ ?_ _ | refine below_setR ?_ ?_ _ | refine below_dn ?_ _ | refine Below.trans ?_ (below_mo _ _ _ ?_) | refine Below.trans ?_ (below_mq _ _ ?_) | exact Nat.le_refl _) | (simp; done) | (simp; omega) | omega))⟩ ?_
        rintro U ⟨hA, hB, hD, hU⟩
        obtain ⟨za, xa0, xa1, _, _⟩ := two hA
        obtain ⟨zb, xb0, xb1, _, _⟩ := two hB
        obtain ⟨zd, xd0, xd1, _, _⟩ := two hD
        have hUs := hU.size
        have hwU : Below w.heap.size w U := hnx.trans (hU.mono hsize)
        have e7' : ∀ j : Nat, j < k → IntKind.i64.wrap ((j : Int) + 1) = (j : Int) + 1 := fun j hj => IntWalk.i64_in _ ⟨by omega, by omega⟩
        have E7 := Lib.hid e7'
        clear e7'
        go_wp2
        go_loopw [20] (fun i wx => ∃ (j : Nat) (os : Array Obj) (dn : Nat), j ≤ k ∧ i = .int .i64 (j : Int) ∧ wx = mo U os dn) (fun i _ => k - (intOf i).toNat)
        case atStart => exact ⟨0, #[], _, Nat.zero_le _, rfl, (mo_nil _).symm⟩
        case round =>
          obtain ⟨j, os, dn, hj, rfl, rfl⟩ := hrel
          by_cases hlt : j < k
          · have hjl : j < (ppl xs0 xs1 k).length := by rw [hlen]; exact hlt
            obtain ⟨lb, lo, hLe, hlb, y0, y1⟩ := HL.at (w := U) hU hjl
            subst hLe
            have L4j := L4.out j hlt
            have hpr := HF6.out j hlt
            obtain ⟨s1, s2⟩ : (1 ≤ p1 (ppl xs0 xs1 k) (j : Int) ∧ p1 (ppl xs0 xs1 k) (j : Int) ≤ 60) ∧ 0 ≤ p2 (ppl xs0 xs1 k) (j : Int) ∧ p2 (ppl xs0 xs1 k) (j : Int) ≤ 660 := ⟨hpr.1, hpr.2⟩
            have m1 := mul_bd (show 0 ≤ p1 (ppl xs0 xs1 k) (j : Int) ∧ p1 (ppl xs0 xs1 k) (j : Int) ≤ 60 by omega) p4
            have u1 : IntKind.i64.wrap (p1 (ppl xs0 xs1 k) (j : Int) * fP) = p1 (ppl xs0 xs1 k) (j : Int) * fP := IntWalk.i64_in _ ⟨by omega, by omega⟩
            have u2 : (p1 (ppl xs0 xs1 k) (j : Int) * fP).tdiv fQ = p2 (ppl xs0 xs1 k) (j : Int) := (Int.tdiv_eq_ediv_of_nonneg m1.1).trans L4j
            have u3 : IntKind.i64.wrap (p2 (ppl xs0 xs1 k) (j : Int)) = p2 (ppl xs0 xs1 k) (j : Int) := IntWalk.i64_in _ ⟨by omega, by omega⟩
            have u4 : ¬ fQ = 0 := by omega
            have u5 : (fQ == 0) = false := beq_eq_false_iff_ne.2 u4
            have u6 := E7.out j hlt
            have u7 : (0 : Int) ≤ (j : Int) := by omega
            have u8 : (j : Int) < (k : Int) := by omega
            clear L4j hpr m1
            go_wp2
            go_quiet (fail)
            go_wp2
            exact ⟨⟨j + 1, _, _, hlt, by go_num, mo_drewN _ _ _ _⟩, by simp [intOf]; omega⟩
          · obtain rfl : j = k := by omega
            go_wp2
            go_loopw [21] (fun i wx => ∃ (d : Nat) (os : Array Obj) (dn : Nat), 1 ≤ d ∧ (d : Int) ≤ fQ ∧ i = .int .i64 (d : Int) ∧ wx = mo U os dn) (fun i _ => fQ.toNat - (intOf i).toNat)
            case atStart => exact ⟨1, _, _, Nat.le_refl _, p5.1, rfl, rfl⟩
            case round =>
              obtain ⟨d, os, dn, hd1, hd2, rfl, rfl⟩ := hrel
              by_cases hlt2 : (d : Int) < fQ
              · have hl5 := L5.out (d : Int) (by omega) hlt2
                have m1 := mul_bd p0 (show 0 ≤ (d : Int) ∧ (d : Int) ≤ 12 by omega)
                have dv0 := Int.ediv_nonneg (show 0 ≤ a1 * (d : Int) + a2 - 1 by omega) (show 0 ≤ a2 by omega)
                have dv1 := Int.ediv_le_self a2 (show 0 ≤ a1 * (d : Int) + a2 - 1 by omega)
                have m2 := mul_bd (show 0 ≤ (a1 * (d : Int) + a2 - 1) / a2 ∧ (a1 * (d : Int) + a2 - 1) / a2 ≤ 2000000 by omega) (show 0 ≤ b2 ∧ b2 ≤ 100001 by omega)
                have m3 := mul_bd p2_ (show 0 ≤ (d : Int) ∧ (d : Int) ≤ 12 by omega)
                have u1 : IntKind.i64.wrap (a1 * (d : Int)) = a1 * (d : Int) := IntWalk.i64_in _ ⟨by omega, by omega⟩
                have u2 : IntKind.i64.wrap (a1 * (d : Int) + a2) = a1 * (d : Int) + a2 := IntWalk.i64_in _ ⟨by omega, by omega⟩
                have u3 : IntKind.i64.wrap (a1 * (d : Int) + a2 - 1) = a1 * (d : Int) + a2 - 1 := IntWalk.i64_in _ ⟨by omega, by omega⟩
                have u4 : (a1 * (d : Int) + a2 - 1).tdiv a2 = (a1 * (d : Int) + a2 - 1) / a2 := Int.tdiv_eq_ediv_of_nonneg (by omega)
                have u5 : IntKind.i64.wrap ((a1 * (d : Int) + a2 - 1) / a2) = (a1 * (d : Int) + a2 - 1) / a2 := IntWalk.i64_in _ ⟨by omega, by omega⟩
                have u6 : IntKind.i64.wrap ((a1 * (d : Int) + a2 - 1) / a2 * b2) = (a1 * (d : Int) + a2 - 1) / a2 * b2 := IntWalk.i64_in _ ⟨by omega, by omega⟩
                have u7 : IntKind.i64.wrap (b1 * (d : Int)) = b1 * (d : Int) := IntWalk.i64_in _ ⟨by omega, by omega⟩
                have u8 : IntKind.i64.wrap ((d : Int) + 1) = (d : Int) + 1 := IntWalk.i64_in _ ⟨by omega, by omega⟩
                have u9 : ¬ a2 = 0 := by omega
                have u10 : (a2 == 0) = false := beq_eq_false_iff_ne.2 u9
                have u11 : ¬ (a1 * (d : Int) + a2 - 1) / a2 * b2 < b1 * (d : Int) := by omega
                clear m1 m2 m3 dv0 dv1 hl5
                go_wp2
                try go_quiet (fail)
                try go_wp2
                exact ⟨⟨d + 1, _, _, by omega, by omega, by go_num, by first | rfl | exact mo_drewN _ _ _ _⟩, by simp [intOf]; omega⟩
              · have hde : (d : Int) = fQ := by omega
                (go_wp2_with fail; refine (K5.out _).mono ?_; rintro e w' ⟨rfl, hb_⟩; obtain ⟨os5, dn5, rfl⟩ := mo_of hb_; clear hb_)
                (go_wp2_with fail; refine (K6.out _).mono ?_; rintro e w' ⟨rfl, hb_⟩; obtain ⟨os6, dn6, rfl⟩ := mo_of hb_; clear hb_)
                go_wp2
                go_ret
                exact ⟨by simp, (by repeat' (first | (with_reducible first | assumption | exact Below.refl _ _ | refine Below.drew ?_ | refine Below.alloc ?_ ?_ _ | refine Below.setCell ?_ ?_ _ | refine below_setR ?_ ?_ _ | refine below_dn ?_ _ | refine Below.trans ?_ (below_mo _ _ _ ?_) | refine Below.trans ?_ (below_mq _ _ ?_) | exact Nat.le_refl _) | (simp; done) | (simp; omega) | omega))⟩
end Go.Proofs.Ytbihgnmiocfelaa.X
