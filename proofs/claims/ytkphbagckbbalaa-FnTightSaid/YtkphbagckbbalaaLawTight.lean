/- The law FnTight, walked. Conditions: none. -/
import Derived.Test.YtkphbagckbbalaaKTight2
import Derived.Test.YtkphbagckbbalaaKTight
import Derived.Test.YtkphbagckbbalaaKDrawA
import Derived.Test.YtkphbagckbbalaaKAt
import Derived.Test.YtkphbagckbbalaaKOpen
namespace Go.Proofs.Ytkphbagckbbalaa.X
open Go.RowKit
set_option linter.unusedVariables false
set_option linter.unusedSimpArgs false
set_option maxRecDepth 100000
theorem own_log_room {w : World} {b : Nat} {e : TypeId} {v : Value} {log : List (Int × Int)} (h : w.ownsRow b e 2 v log.length (lcl log)) (hl : log.length ≤ 1048576) : ∃ A c, v = .slice A log.length c ∧ Prs .i64 .i64 w w.heap.size A log ∧ log.length ≤ c := by
  obtain ⟨A, c, e1, N⟩ := own_log h hl
  refine ⟨A, c, e1, N, ?_⟩
  subst e1
  rcases h.2 with ⟨e1, e2⟩ | ⟨g, cap, cur, e1, _, _, h1, _⟩
  · omega
  · injection e1 with _ _ e3
    rw [e3]; exact h1
set_option maxHeartbeats 16000000 in
theorem lawTight (w : World) {A0 : Option Addr} {xs0 : List Int} (c0 : Nat) (hs0 : SL w w.heap.size 1 (fun x => [Value.int .u8 x]) A0 xs0) (hm0 : xs0.length ≤ maxLen) (h80 : b8 xs0) {A1 : Option Addr} {xs1 : List Int} (c1 : Nat) (hs1 : SL w w.heap.size 1 (fun x => [Value.int .u8 x]) A1 xs1) (hm1 : xs1.length ≤ maxLen) (h81 : b8 xs1) :
    Calls Try.prog 3 #[.slice A0 xs0.length c0, .slice A1 xs1.length c1] w fun e w' => e = .returned (.bool true) ∧ Below w.heap.size w w' := by
  by_cases hl : ¬ (xs0.length ≤ 3000 ∧ xs1.length ≤ 3000)
  · go_enter Try.func3, Try.ntmps3
    go_wp2_with (go_at_call 9; refine (a2Long_big _ _ _ _ hl _).mono ?_; rintro e w' ⟨rfl, rfl⟩)
    go_ret
    exact ⟨rfl, (by repeat' (first | (with_reducible first | assumption | exact Below.refl _ _ | refine Below.drew ?_ | refine Below.alloc ?_ ?_ _ | refine Below.setCell ?_ ?_ _ | refine below_setR ?_ ?_ _ | refine below_dn ?_ _ | refine Below.trans ?_ (below_mo _ _ _ ?_) | refine Below.trans ?_ (below_mq _ _ ?_) | exact Nat.le_refl _) | (simp; done) | (simp; omega) | omega))⟩
  obtain ⟨l0, l1⟩ : xs0.length ≤ 3000 ∧ xs1.length ≤ 3000 := by omega
  have ha0 : Nums .u8 w w.heap.size A0 xs0 := ⟨hs0, by omega, Nat.le_refl _⟩
  have ha1 : Nums .u8 w w.heap.size A1 xs1 := ⟨hs1, by omega, Nat.le_refl _⟩
  clear hs0 hs1 hm0 hm1 hl
  go_enter Try.func3, Try.ntmps3
  (go_wp2_with fail; refine (a2Long_ok _ _ _ _ l0 l1 _).mono ?_; rintro e w' ⟨rfl, rfl⟩)
  (go_wp2_with fail; refine (A2Log_any ha0 h80 c0 _ (by repeat' (first | (with_reducible first | assumption | exact Below.refl _ _ | refine Below.drew ?_ | refine Below.alloc ?_ ?_ _ | refine Below.setCell ?_ ?_ _ | refine below_setR ?_ ?_ _ | refine below_dn ?_ _ | refine Below.trans ?_ (below_mo _ _ _ ?_) | refine Below.trans ?_ (below_mq _ _ ?_) | exact Nat.le_refl _) | (simp; done) | (simp; omega) | omega))).mono ?_; rintro e w1 ⟨ys, bl, v, log, fl0, fh0, rfl, hys, hlog, hfl, hfh, hstk, hown, hb1⟩)
  obtain ⟨A, c, hv_, N, hroom⟩ := own_log_room hown (by have := hlog.len; omega)
  subst hv_
  have hz1 := hb1.size
  clear hown
  obtain ⟨k1, h8, k3, k4, k5, k6⟩ := hys.fine
  have NS := stk_nums hstk k3
  obtain ⟨lo, hi, TF⟩ := tightF hys hlog
  obtain ⟨b0, b1, b2⟩ := TF.b
  have K44 := Lib.hid (fun W (hW : Below w1.heap.size w1 W) => implTight_any NS h8 _ ys.length rfl W hW N c hW 1000)
  have K45 := Lib.hid (fun W (hW : Below w1.heap.size w1 W) => specTight_any NS h8 _ ys.length rfl W hW N c hW 1000)
  rw [TF.tf] at K44 K45
  have K46 := Lib.hid (fun W (hW : Below w1.heap.size w1 W) => implSus_any NS h8 _ ys.length rfl W hW N c hW lo hi)
  rw [TF.none.1, TF.none.2] at K46
  have n0 : ¬ lo < 0 := by omega
  have n1 : ¬ hi < lo := by omega
  have HT := Lib.hid TF
  clear TF hfl hfh
  (go_wp2_with fail; refine (K44.out _ (by repeat' (first | (with_reducible first | assumption | exact Below.refl _ _ | refine Below.drew ?_ | refine Below.alloc ?_ ?_ _ | refine Below.setCell ?_ ?_ _ | refine below_setR ?_ ?_ _ | refine below_dn ?_ _ | refine Below.trans ?_ (below_mo _ _ _ ?_) | refine Below.trans ?_ (below_mq _ _ ?_) | exact Nat.le_refl _) | (simp; done) | (simp; omega) | omega))).mono ?_; rintro e w' ⟨rfl, hb_⟩; obtain ⟨os1, d1, rfl⟩ := mo_of hb_; clear hb_)
  (go_wp2_with fail; refine (K45.out _ (by repeat' (first | (with_reducible first | assumption | exact Below.refl _ _ | refine Below.drew ?_ | refine Below.alloc ?_ ?_ _ | refine Below.setCell ?_ ?_ _ | refine below_setR ?_ ?_ _ | refine below_dn ?_ _ | refine Below.trans ?_ (below_mo _ _ _ ?_) | refine Below.trans ?_ (below_mq _ _ ?_) | exact Nat.le_refl _) | (simp; done) | (simp; omega) | omega))).mono ?_; rintro e w' ⟨rfl, hb_⟩; obtain ⟨os2, d2, rfl⟩ := mo_of hb_; clear hb_)
  (go_wp2_with fail; refine (K46.out _ (by repeat' (first | (with_reducible first | assumption | exact Below.refl _ _ | refine Below.drew ?_ | refine Below.alloc ?_ ?_ _ | refine Below.setCell ?_ ?_ _ | refine below_setR ?_ ?_ _ | refine below_dn ?_ _ | refine Below.trans ?_ (below_mo _ _ _ ?_) | refine Below.trans ?_ (below_mq _ _ ?_) | exact Nat.le_refl _) | (simp; done) | (simp; omega) | omega))).mono ?_; rintro e w3 ⟨v3, rfl, own3, hb3⟩; obtain ⟨os3, d3, rfl⟩ := mo_of hb3; clear hb3)
  obtain ⟨A3, c3, hv3, N3⟩ := own_nums own3 (by simp)
  subst hv3
  go_upto_if 94 with (fail)
  refine wp_at (fun u => u.heap[w1.heap.size + 1 + os1.size + 1 + os2.size]? = some (.cells #[.int .i64 lo, .int .i64 hi] 27) ∧ Below w1.heap.size w1 u) _ ⟨(by repeat' (first | (with_reducible assumption) | (with_reducible refine heap_mo_at ?_) | (with_reducible refine heap_mq_at ?_) | (with_reducible refine heap_drew_at ?_) | ((with_reducible refine heap_alloc_at ?_); first | rfl | (simp; done)) | (with_reducible refine heap_alloc_past ?_) | ((with_reducible apply heap_set_at); (first | rfl | (simp; done))) | ((with_reducible apply heap_set_past); (first | (simp; done) | (simp; omega) | omega)) | ((with_reducible apply heap_setC_past); (first | (simp; done) | (simp; omega) | omega)) | fail)), (by repeat' (first | (with_reducible first | assumption | exact Below.refl _ _ | refine Below.drew ?_ | refine Below.alloc ?_ ?_ _ | refine Below.setCell ?_ ?_ _ | refine below_setR ?_ ?_ _ | refine below_dn ?_ _ | refine Below.trans ?_ (below_mo _ _ _ ?_) | refine Below.trans ?_ (below_mq _ _ ?_) | exact Nat.le_refl _) | (simp; done) | (simp; omega) | omega))⟩ ?_
  clear own3 N3
  obtain ⟨b10, hb10⟩ : ∃ b, b = w1.heap.size + 1 + os1.size + 1 + os2.size := ⟨_, rfl⟩
  rw [← hb10]
  rintro U ⟨a0, hU⟩
  clear hb10
  obtain ⟨s0, f0, f1, _, _⟩ := twoR a0
  have HA0 := Lib.hid a0
  have hUs := hU.size
  clear a0
  go_cut [] (fun wx => wx.heap[b10]? = some (.cells #[.int .i64 lo, .int .i64 hi] 27) ∧ Below w1.heap.size w1 wx)
  case first =>
    by_cases h0 : 0 < hi
    · obtain ⟨⟨q1, q2⟩, q3⟩ := HT.out.high h0
      have K46' := Lib.hid (fun W (hW : Below w1.heap.size w1 W) => implSus_any NS h8 _ ys.length rfl W hW N c hW 0 (hi - 1))
      have K44' := Lib.hid (fun W (hW : Below w1.heap.size w1 W) => implTight_any NS h8 _ ys.length rfl W hW N c hW (hi - 1))
      rw [q1] at K46'
      rw [q3] at K44'
      have e1 : IntKind.i64.wrap (hi - 1) = hi - 1 := IntWalk.i64_in _ ⟨by omega, by omega⟩
      have hl9 := suL_len ys log 0 (hi - 1) (by have := hlog.len; omega)
      have n2 : ¬ ((suL ys log 0 (hi - 1)).length : Int) = 0 := by omega
      have n3 : (((suL ys log 0 (hi - 1)).length : Int) == 0) = false := beq_eq_false_iff_ne.2 n2
      have n4 : ¬ (suL ys log 0 (hi - 1)).length = 0 := by omega
      have n5 : ¬ suL ys log 0 (hi - 1) = [] := fun h => n4 (by rw [h]; rfl)
      clear q1 q2 q3
      (go_wp2_with fail; refine (K46'.out _ hU).mono ?_; rintro e w4 ⟨v4, rfl, own4, hb4⟩; obtain ⟨os4, d4, rfl⟩ := mo_of hb4; clear hb4)
      obtain ⟨A4, c4, hv4, N4⟩ := own_nums own4 hl9
      subst hv4
      clear own4 N4
      (go_wp2_with fail; refine (K44'.out _ (by repeat' (first | (with_reducible first | assumption | exact Below.refl _ _ | refine Below.drew ?_ | refine Below.alloc ?_ ?_ _ | refine Below.setCell ?_ ?_ _ | refine below_setR ?_ ?_ _ | refine below_dn ?_ _ | refine Below.trans ?_ (below_mo _ _ _ ?_) | refine Below.trans ?_ (below_mq _ _ ?_) | exact Nat.le_refl _) | (simp; done) | (simp; omega) | omega))).mono ?_; rintro e w' ⟨rfl, hb_⟩; obtain ⟨os5, d5, rfl⟩ := mo_of hb_; clear hb_)
      go_wp2_with fail
      go_meet
      have a0' := HA0.out
      exact ⟨(by repeat' (first | (with_reducible assumption) | (with_reducible refine heap_mo_at ?_) | (with_reducible refine heap_mq_at ?_) | (with_reducible refine heap_drew_at ?_) | ((with_reducible refine heap_alloc_at ?_); first | rfl | (simp; done)) | (with_reducible refine heap_alloc_past ?_) | ((with_reducible apply heap_set_at); (first | rfl | (simp; done))) | ((with_reducible apply heap_set_past); (first | (simp; done) | (simp; omega) | omega)) | ((with_reducible apply heap_setC_past); (first | (simp; done) | (simp; omega) | omega)) | fail)), (by repeat' (first | (with_reducible first | assumption | exact Below.refl _ _ | refine Below.drew ?_ | refine Below.alloc ?_ ?_ _ | refine Below.setCell ?_ ?_ _ | refine below_setR ?_ ?_ _ | refine below_dn ?_ _ | refine Below.trans ?_ (below_mo _ _ _ ?_) | refine Below.trans ?_ (below_mq _ _ ?_) | exact Nat.le_refl _) | (simp; done) | (simp; omega) | omega))⟩
    · go_wp2_with fail
      go_meet
      exact ⟨HA0.out, hU⟩
  obtain ⟨a1, hU1⟩ := hcut
  obtain ⟨U1, hU1_⟩ : ∃ u, u = wc := ⟨_, rfl⟩
  subst hU1_
  obtain ⟨s1, f2, f3, _, _⟩ := twoR a1
  have HA1 := Lib.hid a1
  have hUs1 := hU1.size
  clear a1 f0 f1 HA0
  go_upto_if 129 with (fail)
  go_cut [] (fun wx => wx.heap[b10]? = some (.cells #[.int .i64 lo, .int .i64 hi] 27) ∧ Below w1.heap.size w1 wx)
  case first =>
    by_cases h0 : lo < hi
    · obtain ⟨q1, q2⟩ := HT.out.low h0
      have K46' := Lib.hid (fun W (hW : Below w1.heap.size w1 W) => implSus_any NS h8 _ ys.length rfl W hW N c hW (lo + 1) hi)
      rw [q1] at K46'
      have e1 : IntKind.i64.wrap (lo + 1) = lo + 1 := IntWalk.i64_in _ ⟨by omega, by omega⟩
      have hl9 := suL_len ys log (lo + 1) hi (by have := hlog.len; omega)
      have n2 : ¬ ((suL ys log (lo + 1) hi).length : Int) = 0 := by omega
      have n3 : (((suL ys log (lo + 1) hi).length : Int) == 0) = false := beq_eq_false_iff_ne.2 n2
      have n4 : ¬ (suL ys log (lo + 1) hi).length = 0 := by omega
      have n5 : ¬ suL ys log (lo + 1) hi = [] := fun h => n4 (by rw [h]; rfl)
      clear q1 q2
      (go_wp2_with fail; refine (K46'.out _ hU1).mono ?_; rintro e w4 ⟨v4, rfl, own4, hb4⟩; obtain ⟨os4, d4, rfl⟩ := mo_of hb4; clear hb4)
      obtain ⟨A4, c4, hv4, N4⟩ := own_nums own4 hl9
      subst hv4
      clear own4 N4
      go_wp2_with fail
      go_meet
      have a0' := HA1.out
      exact ⟨(by repeat' (first | (with_reducible assumption) | (with_reducible refine heap_mo_at ?_) | (with_reducible refine heap_mq_at ?_) | (with_reducible refine heap_drew_at ?_) | ((with_reducible refine heap_alloc_at ?_); first | rfl | (simp; done)) | (with_reducible refine heap_alloc_past ?_) | ((with_reducible apply heap_set_at); (first | rfl | (simp; done))) | ((with_reducible apply heap_set_past); (first | (simp; done) | (simp; omega) | omega)) | ((with_reducible apply heap_setC_past); (first | (simp; done) | (simp; omega) | omega)) | fail)), (by repeat' (first | (with_reducible first | assumption | exact Below.refl _ _ | refine Below.drew ?_ | refine Below.alloc ?_ ?_ _ | refine Below.setCell ?_ ?_ _ | refine below_setR ?_ ?_ _ | refine below_dn ?_ _ | refine Below.trans ?_ (below_mo _ _ _ ?_) | refine Below.trans ?_ (below_mq _ _ ?_) | exact Nat.le_refl _) | (simp; done) | (simp; omega) | omega))⟩
    · go_wp2_with fail
      go_meet
      exact ⟨HA1.out, hU1⟩
  obtain ⟨-, hU2⟩ := hcut
  have hUs2 := hU2.size
  clear HA1 f2 f3 hU hU1 hUs hUs1
  have ho := hlog.okl hys
  have K47 := Lib.hid (fun W (hW : Below w1.heap.size w1 W) => implBack_any NS h8 _ ys.length rfl W hW N c hW)
  rw [show gbC ys log = 0 by unfold gbC; rw [ho]; rfl, show gbL ys log = flt (gbF log) log.length by unfold gbL; rw [ho]; rfl] at K47
  have hfl := flt_len (gbF log) log.length
  (go_wp2_with fail; refine (K47.out _ hU2).mono ?_; rintro e w6 ⟨v6, rfl, own6, hb6⟩)
  obtain ⟨A6, c6, hv6, N6⟩ := own_nums own6 (by have := hlog.len; omega)
  subst hv6
  have hU6 : Below w1.heap.size w1 w6 := below_step hU2 hb6 (by first | omega | exact Nat.le_refl _)
  have hs6 := hU6.size
  clear own6 hb6 K47 hfl
  go_wp2
  go_loopw [22] (fun i wr => ∃ (k : Nat) (os : Array Obj) (dn : Nat), 1 ≤ k ∧ (k ≤ log.length ∨ k = 1) ∧ i = .int .i64 (k : Int) ∧ wr = mo w6 os dn) (fun i _ => log.length + 1 - (intOf i).toNat)
  case atStart => exact ⟨1, #[], _, Nat.le_refl _, .inr rfl, rfl, (mo_nil _).symm⟩
  case round =>
    obtain ⟨k, os, dn, hk1, hk2, rfl, rfl⟩ := hrel
    have hl8 := hlog.len
    by_cases hlt : k < log.length
    · obtain ⟨j, rfl⟩ : ∃ j, k = j + 1 := ⟨k - 1, by omega⟩
      obtain ⟨b, off, hA, hbs, _, x1⟩ := N.at (w := w6) hU6 (k := j) (by omega)
      obtain ⟨b', off', hA', _, _, y1⟩ := N.at (w := w6) hU6 (k := j + 1) hlt
      rw [hA] at hA'
      obtain ⟨rfl, rfl⟩ := addr_same hA'
      subst hA
      clear hA'
      have hgb : hasT (flt (gbF log) log.length) ((j + 1 : Nat) : Int) (flt (gbF log) log.length).length = decide (p2 log ((j + 1 : Nat) : Int) < p2 log (j : Int)) := by
        rw [hasT_flt hlt]
        unfold gbF
        rw [show ((j + 1 : Nat) : Int) - 1 = (j : Int) by omega]
        simp
      have KH := Lib.hid (fun W (hW : Below w6.heap.size w6 W) => A2Has_any N6 c6 W hW ((j + 1 : Nat) : Int))
      rw [hgb] at KH
      have ej : ((j + 1 : Nat) : Int) = (j : Int) + 1 := by omega
      rw [ej] at KH y1
      have e2 : IntKind.i64.wrap ((j : Int) + 1 + 1) = (j : Int) + 1 + 1 := IntWalk.i64_in _ ⟨by omega, by omega⟩
      have e3 : IntKind.i64.wrap ((j : Int) + 1 - 1) = (j : Int) := (IntWalk.i64_in _ ⟨by omega, by omega⟩).trans (by omega)
      have i0 : (0 : Int) ≤ (j : Int) := by omega
      have i1 : (j : Int) < (log.length : Int) := by omega
      have i2 : (0 : Int) ≤ (j : Int) + 1 := by omega
      have i3 : (j : Int) + 1 < (log.length : Int) := by omega
      have i4 : j < log.length := by omega
      have i5 : j + 1 < log.length := hlt
      have e4 : IntKind.i64.wrap (j : Int) = (j : Int) := IntWalk.i64_in _ ⟨by omega, by omega⟩
      have hb6 : b < w6.heap.size := hbs
      clear hgb ej
      by_cases hp : p2 log ((j : Int) + 1) < p2 log (j : Int)
      · rw [decide_eq_true hp] at KH
        go_wp2
        (refine wp_region_mq (by kernel_rfl) (by kernel_rfl) ?_; (repeat (first | go_big_quiet_step ((first | (go_at_call 15; ((with_reducible refine quietS (KH.out _ ?_) ) <;> (repeat' (first | (with_reducible first | assumption | exact Below.refl _ _ | refine Below.drew ?_ | refine Below.alloc ?_ ?_ _ | refine Below.setCell ?_ ?_ _ | refine below_setR ?_ ?_ _ | refine below_dn ?_ _ | refine Below.trans ?_ (below_mo _ _ _ ?_) | refine Below.trans ?_ (below_mq _ _ ?_) | exact Nat.le_refl _) | (simp; done) | (simp; omega) | omega)))))) | quiet_step ((first | (go_at_call 15; ((with_reducible refine quietS (KH.out _ ?_) ) <;> (repeat' (first | (with_reducible first | assumption | exact Below.refl _ _ | refine Below.drew ?_ | refine Below.alloc ?_ ?_ _ | refine Below.setCell ?_ ?_ _ | refine below_setR ?_ ?_ _ | refine below_dn ?_ _ | refine Below.trans ?_ (below_mo _ _ _ ?_) | refine Below.trans ?_ (below_mq _ _ ?_) | exact Nat.le_refl _) | (simp; done) | (simp; omega) | omega)))))))); refine wpQuiet_nil ?_; intro _ hq_; obtain ⟨q_, rfl⟩ := hq_)
        go_wp2
        exact ⟨⟨j + 1 + 1, _, _, by omega, .inl hlt, by go_num, by first | exact mo_mo _ _ _ _ _ | exact mo_drewN _ _ _ _⟩, by simp [intOf]; omega⟩
      · rw [decide_eq_false hp] at KH
        go_wp2
        (refine wp_region_mq (by kernel_rfl) (by kernel_rfl) ?_; (repeat (first | go_big_quiet_step ((first | (go_at_call 15; ((with_reducible refine quietS (KH.out _ ?_) ) <;> (repeat' (first | (with_reducible first | assumption | exact Below.refl _ _ | refine Below.drew ?_ | refine Below.alloc ?_ ?_ _ | refine Below.setCell ?_ ?_ _ | refine below_setR ?_ ?_ _ | refine below_dn ?_ _ | refine Below.trans ?_ (below_mo _ _ _ ?_) | refine Below.trans ?_ (below_mq _ _ ?_) | exact Nat.le_refl _) | (simp; done) | (simp; omega) | omega)))))) | quiet_step ((first | (go_at_call 15; ((with_reducible refine quietS (KH.out _ ?_) ) <;> (repeat' (first | (with_reducible first | assumption | exact Below.refl _ _ | refine Below.drew ?_ | refine Below.alloc ?_ ?_ _ | refine Below.setCell ?_ ?_ _ | refine below_setR ?_ ?_ _ | refine below_dn ?_ _ | refine Below.trans ?_ (below_mo _ _ _ ?_) | refine Below.trans ?_ (below_mq _ _ ?_) | exact Nat.le_refl _) | (simp; done) | (simp; omega) | omega)))))))); refine wpQuiet_nil ?_; intro _ hq_; obtain ⟨q_, rfl⟩ := hq_)
        go_wp2
        exact ⟨⟨j + 1 + 1, _, _, by omega, .inl hlt, by go_num, by first | exact mo_mo _ _ _ _ _ | exact mo_drewN _ _ _ _⟩, by simp [intOf]; omega⟩
    · have g0 : ¬ (k : Int) < (log.length : Int) := by omega
      have hwU6 : Below w.heap.size w w6 := hb1.trans (hU6.mono hz1)
      have hyl : 2 ≤ ys.length := by rcases hys with e | e | e <;> (subst e; decide)
      have bj := at2_bd xs1 0 (ys.length : Int) (by omega)
      obtain ⟨wn, hwn⟩ : ∃ wn : Nat, (wn : Int) = at2 xs1 0 (ys.length : Int) := ⟨(at2 xs1 0 (ys.length : Int)).toNat, by omega⟩
      have A10 := Lib.hid (fun W (hW : Below w.heap.size w W) => a2At_any ha1 h81 _ c1 rfl W hW 0 (ys.length : Int) (by omega) (by omega))
      rw [← hwn] at A10 bj
      have K49 := Lib.hid (fun W (hW : Below w1.heap.size w1 W) => implStuck_any NS h8 _ ys.length rfl W hW N c hW (wn : Int) hroom)
      have K50 := Lib.hid (fun W (hW : Below w1.heap.size w1 W) => specStuck_any NS h8 _ ys.length rfl W hW N c hW (wn : Int))
      clear hwn
      rcases stuckF hys hlog (show wn < ys.length by omega) with hq | ⟨i, hq, hi1, hall⟩
      · rw [hq] at K49 K50
        clear hq
        (go_wp2_with fail; refine (A10.out _ (by repeat' (first | (with_reducible first | assumption | exact Below.refl _ _ | refine Below.drew ?_ | refine Below.alloc ?_ ?_ _ | refine Below.setCell ?_ ?_ _ | refine below_setR ?_ ?_ _ | refine below_dn ?_ _ | refine Below.trans ?_ (below_mo _ _ _ ?_) | refine Below.trans ?_ (below_mq _ _ ?_) | exact Nat.le_refl _) | (simp; done) | (simp; omega) | omega))).mono ?_; rintro e w' ⟨rfl, rfl⟩)
        (go_wp2_with fail; refine (K49.out _ (by repeat' (first | (with_reducible first | assumption | exact Below.refl _ _ | refine Below.drew ?_ | refine Below.alloc ?_ ?_ _ | refine Below.setCell ?_ ?_ _ | refine below_setR ?_ ?_ _ | refine below_dn ?_ _ | refine Below.trans ?_ (below_mo _ _ _ ?_) | refine Below.trans ?_ (below_mq _ _ ?_) | exact Nat.le_refl _) | (simp; done) | (simp; omega) | omega))).mono ?_; rintro e w' ⟨rfl, hb_⟩; obtain ⟨os7, d7, rfl⟩ := mo_of hb_; clear hb_)
        (go_wp2_with fail; refine (K50.out _ (by repeat' (first | (with_reducible first | assumption | exact Below.refl _ _ | refine Below.drew ?_ | refine Below.alloc ?_ ?_ _ | refine Below.setCell ?_ ?_ _ | refine below_setR ?_ ?_ _ | refine below_dn ?_ _ | refine Below.trans ?_ (below_mo _ _ _ ?_) | refine Below.trans ?_ (below_mq _ _ ?_) | exact Nat.le_refl _) | (simp; done) | (simp; omega) | omega))).mono ?_; rintro e w' ⟨rfl, hb_⟩; obtain ⟨os8, d8, rfl⟩ := mo_of hb_; clear hb_)
        go_wp2
        go_ret
        exact ⟨rfl, (by repeat' (first | (with_reducible first | assumption | exact Below.refl _ _ | refine Below.drew ?_ | refine Below.alloc ?_ ?_ _ | refine Below.setCell ?_ ?_ _ | refine below_setR ?_ ?_ _ | refine below_dn ?_ _ | refine Below.trans ?_ (below_mo _ _ _ ?_) | refine Below.trans ?_ (below_mq _ _ ?_) | exact Nat.le_refl _) | (simp; done) | (simp; omega) | omega))⟩
      · rw [hq] at K49 K50
        clear hq
        obtain ⟨m, hm⟩ : ∃ m : Nat, m + 1 = log.length := ⟨log.length - 1, by omega⟩
        have hdv : ∀ k : Nat, k < log.length → dgOf ys (p2 log (k : Int)) = (dg ys (p2 log (k : Int)), 0) := by
          intro k hk
          have r := (hlog.rd k hk).2
          unfold dgOf
          rw [if_pos k1, if_pos (inR_t.2 ⟨by omega, by show _ ≤ szS ys - 1; omega⟩)]
        have KD := Lib.hid (fun W (hW : Below w1.heap.size w1 W) (k : Nat) (hk : k < log.length) => (show Calls Try.prog 19 #[.slice (some ⟨bl, 0, none⟩) ys.length ys.length, .int .i64 (p2 log (k : Int))] W fun e w' => e = .returned (.tuple #[.agg #[.int .u8 (dg ys (p2 log (k : Int)) 0), .int .u8 (dg ys (p2 log (k : Int)) 1), .int .u8 (dg ys (p2 log (k : Int)) 2), .int .u8 (dg ys (p2 log (k : Int)) 3), .int .u8 (dg ys (p2 log (k : Int)) 4), .int .u8 (dg ys (p2 log (k : Int)) 5), .int .u8 (dg ys (p2 log (k : Int)) 6), .int .u8 (dg ys (p2 log (k : Int)) 7)], .int .i64 0]) ∧ Below W.heap.size W w' from by
          have h := specDigitsOf_any NS h8 ys.length ys.length rfl W hW (p2 log (k : Int)) (by have := (hlog.rd k hk).2; omega)
          rw [hdv k hk] at h
          exact h))
        have HALL := Lib.hid hall
        clear hdv hall
        obtain ⟨b, off, hA, hbs, _, xl⟩ := N.at (w := w6) hU6 (k := m) (by omega)
        have e2 : IntKind.i64.wrap ((log.length : Int) - 1) = (m : Int) := (IntWalk.i64_in _ ⟨by omega, by omega⟩).trans (by omega)
        have i0 : (0 : Int) ≤ (m : Int) := by omega
        have i1 : (m : Int) < (log.length : Int) := by omega
        have i2 : m < log.length := by omega
        subst hA
        (go_wp2_with fail; refine (A10.out _ (by repeat' (first | (with_reducible first | assumption | exact Below.refl _ _ | refine Below.drew ?_ | refine Below.alloc ?_ ?_ _ | refine Below.setCell ?_ ?_ _ | refine below_setR ?_ ?_ _ | refine below_dn ?_ _ | refine Below.trans ?_ (below_mo _ _ _ ?_) | refine Below.trans ?_ (below_mq _ _ ?_) | exact Nat.le_refl _) | (simp; done) | (simp; omega) | omega))).mono ?_; rintro e w' ⟨rfl, rfl⟩)
        (go_wp2_with fail; refine (K49.out _ (by repeat' (first | (with_reducible first | assumption | exact Below.refl _ _ | refine Below.drew ?_ | refine Below.alloc ?_ ?_ _ | refine Below.setCell ?_ ?_ _ | refine below_setR ?_ ?_ _ | refine below_dn ?_ _ | refine Below.trans ?_ (below_mo _ _ _ ?_) | refine Below.trans ?_ (below_mq _ _ ?_) | exact Nat.le_refl _) | (simp; done) | (simp; omega) | omega))).mono ?_; rintro e w' ⟨rfl, hb_⟩; obtain ⟨os7, d7, rfl⟩ := mo_of hb_; clear hb_)
        (go_wp2_with fail; refine (K50.out _ (by repeat' (first | (with_reducible first | assumption | exact Below.refl _ _ | refine Below.drew ?_ | refine Below.alloc ?_ ?_ _ | refine Below.setCell ?_ ?_ _ | refine below_setR ?_ ?_ _ | refine below_dn ?_ _ | refine Below.trans ?_ (below_mo _ _ _ ?_) | refine Below.trans ?_ (below_mq _ _ ?_) | exact Nat.le_refl _) | (simp; done) | (simp; omega) | omega))).mono ?_; rintro e w' ⟨rfl, hb_⟩; obtain ⟨os8, d8, rfl⟩ := mo_of hb_; clear hb_)
        (go_wp2_with fail; refine (KD.out _ (by repeat' (first | (with_reducible first | assumption | exact Below.refl _ _ | refine Below.drew ?_ | refine Below.alloc ?_ ?_ _ | refine Below.setCell ?_ ?_ _ | refine below_setR ?_ ?_ _ | refine below_dn ?_ _ | refine Below.trans ?_ (below_mo _ _ _ ?_) | refine Below.trans ?_ (below_mq _ _ ?_) | exact Nat.le_refl _) | (simp; done) | (simp; omega) | omega)) m (by omega)).mono ?_; rintro e w' ⟨rfl, hb_⟩; obtain ⟨os9, d9, rfl⟩ := mo_of hb_; clear hb_)
        go_wp2
        refine wp_at (fun u => u.heap[w6.heap.size + os.size + os7.size + os8.size + os9.size]? = some (.cells #[.int .u8 (dg ys (p2 log (m : Int)) 0), .int .u8 (dg ys (p2 log (m : Int)) 1), .int .u8 (dg ys (p2 log (m : Int)) 2), .int .u8 (dg ys (p2 log (m : Int)) 3), .int .u8 (dg ys (p2 log (m : Int)) 4), .int .u8 (dg ys (p2 log (m : Int)) 5), .int .u8 (dg ys (p2 log (m : Int)) 6), .int .u8 (dg ys (p2 log (m : Int)) 7)] 43) ∧ Below w6.heap.size w6 u) _ ⟨(by repeat' (first | (with_reducible assumption) | (with_reducible refine heap_mo_at ?_) | (with_reducible refine heap_mq_at ?_) | (with_reducible refine heap_drew_at ?_) | ((with_reducible refine heap_alloc_at ?_); first | rfl | (simp; done)) | (with_reducible refine heap_alloc_past ?_) | ((with_reducible apply heap_set_at); (first | rfl | (simp; done))) | ((with_reducible apply heap_set_past); (first | (simp; done) | (simp; omega) | omega)) | ((with_reducible apply heap_setC_past); (first | (simp; done) | (simp; omega) | omega)) | fail)), (by repeat' (first | (with_reducible first | assumption | exact Below.refl _ _ | refine Below.drew ?_ | refine Below.alloc ?_ ?_ _ | refine Below.setCell ?_ ?_ _ | refine below_setR ?_ ?_ _ | refine below_dn ?_ _ | refine Below.trans ?_ (below_mo _ _ _ ?_) | refine Below.trans ?_ (below_mq _ _ ?_) | exact Nat.le_refl _) | (simp; done) | (simp; omega) | omega))⟩ ?_
        obtain ⟨bx, hbx⟩ : ∃ bx, w6.heap.size + os.size + os7.size + os8.size + os9.size = bx := ⟨_, rfl⟩
        rw [hbx]
        rintro U ⟨aU, hUU⟩
        have hbU := lt_of_row aU
        have cU : U.cell? ⟨bx, wn, none⟩ = some (.int .u8 (dg ys (p2 log (m : Int)) wn)) := cell_row aU (a8_at .u8 (dg ys (p2 log (m : Int))) (show wn < 8 by omega))
        have hU1U : Below w1.heap.size w1 U := below_step hU6 hUU (by omega)
        have hUs' := hU1U.size
        have hwU : Below w.heap.size w U := hb1.trans (hU1U.mono hz1)
        clear aU hbx K49 K50 A10
        go_loopw [30] (fun x wr => ∃ (k : Nat) (ps : Array Obj) (dm : Nat), i ≤ k ∧ k ≤ log.length ∧ x = .int .i64 (k : Int) ∧ wr = mo U ps dm) (fun x _ => log.length - (intOf x).toNat)
        case atStart => exact ⟨i, #[], _, Nat.le_refl _, by omega, rfl, (mo_nil _).symm⟩
        case round =>
          obtain ⟨j, ps, dm, hj1, hj2, rfl, rfl⟩ := hrel
          by_cases hlt : j < log.length
          · obtain ⟨b', off', hA', hbs', _, y1⟩ := N.at (w := U) hU1U (k := j) hlt
            obtain ⟨rfl, rfl⟩ := addr_same hA'
            clear hA'
            have hsame := HALL.out j hj1 hlt
            rw [show log.length - 1 = m by omega] at hsame
            have ez : dg ys (p2 log (j : Int)) wn = dg ys (p2 log (m : Int)) wn := hsame
            have j0 : (0 : Int) ≤ (j : Int) := by omega
            have j1 : (j : Int) < (log.length : Int) := by omega
            have w0 : (0 : Int) ≤ (wn : Int) := by omega
            have w8 : (wn : Int) < 8 := by omega
            have w9 : wn < 8 := by omega
            have e5 : IntKind.i64.wrap ((j : Int) + 1) = (j : Int) + 1 := IntWalk.i64_in _ ⟨by omega, by omega⟩
            clear hsame
            (go_wp2_with fail; refine (KD.out _ (by repeat' (first | (with_reducible first | assumption | exact Below.refl _ _ | refine Below.drew ?_ | refine Below.alloc ?_ ?_ _ | refine Below.setCell ?_ ?_ _ | refine below_setR ?_ ?_ _ | refine below_dn ?_ _ | refine Below.trans ?_ (below_mo _ _ _ ?_) | refine Below.trans ?_ (below_mq _ _ ?_) | exact Nat.le_refl _) | (simp; done) | (simp; omega) | omega)) j hlt).mono ?_; rintro e w' ⟨rfl, hb_⟩; obtain ⟨os11, d11, rfl⟩ := mo_of hb_; clear hb_)
            go_wp2
            have ha := a8_at .u8 (dg ys (p2 log (j : Int))) w9
            have hbx' : bx < U.heap.size + ps.size + os11.size + 1 := by omega
            go_quiet (fail)
            go_wp2
            exact ⟨⟨j + 1, _, _, by omega, hlt, by go_num, by rw [mo_mo, mo_alloc]; exact mo_drewN _ _ _ _⟩, by simp [intOf]; omega⟩
          · go_wp2
            go_ret
            exact ⟨by simp; omega, (by repeat' (first | (with_reducible first | assumption | exact Below.refl _ _ | refine Below.drew ?_ | refine Below.alloc ?_ ?_ _ | refine Below.setCell ?_ ?_ _ | refine below_setR ?_ ?_ _ | refine below_dn ?_ _ | refine Below.trans ?_ (below_mo _ _ _ ?_) | refine Below.trans ?_ (below_mq _ _ ?_) | exact Nat.le_refl _) | (simp; done) | (simp; omega) | omega))⟩
end Go.Proofs.Ytkphbagckbbalaa.X
