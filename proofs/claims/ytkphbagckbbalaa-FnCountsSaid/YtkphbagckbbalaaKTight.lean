/- The tightest flow of a log. Conditions: none. -/
import Derived.Test.YtkphbagckbbalaaKLogF
import Derived.StillTailTactics
import Derived.IntWalk
namespace Go.Proofs.Ytkphbagckbbalaa.X
open Go.RowKit
set_option linter.unusedVariables false
set_option linter.unusedSimpArgs false
set_option maxRecDepth 100000
theorem still_tail2 {P : Program} {id : Nat} {Q : Exit → Act → World → Prop} {a : Act} {w : World} {l : List Oper} (n : Nat) (hm : P.follows .mixedOrders = true) (hB : Region.lexTailB .any l.toArray n = true)
    (h : wpStill P l.toArray w.drew (fun a' => wpList P l.toArray Q (l.drop n) a' w.drew) (l.take n) a) : (Code.region id l.toArray true).wp P Q a w := wp_region_still_tail n hm hB h
@[go_sem] theorem setCell_mq (w : World) (p : Q1) (n i : Nat) (v : Value) (hn : n < w.heap.size) : (mq w p).setCell ⟨n, i, none⟩ v = mq (w.setCell ⟨n, i, none⟩ v) p := setCell_mo w p.os p.d n i v hn
theorem wrap_gap {xs : List Int} {log : List (Int × Int)} (j : Nat) (w : World) (h1 : -4000000000000000000 ≤ p2 log ((j : Int) + 1) - p2 log j ∧ p2 log ((j : Int) + 1) - p2 log j ≤ 4000000000000000000) (h2 : 1 ≤ szS xs ∧ szS xs ≤ 4000000000000000000) :
    Calls Try.prog 81 #[.int .i64 (p2 log ((j : Int) + 1) - p2 log j), .int .i64 (sizeTo xs xs.length)] w fun e w' => e = .returned (.tuple #[.int .i64 (tgap xs log j), .int .i64 ((p2 log ((j : Int) + 1) - p2 log j) / szS xs)]) ∧ w = w' := wrapped_any _ _ w h1 h2
set_option maxHeartbeats 4000000 in
theorem implTight_any {A : Option Addr} {xs : List Int} {W : World} {B : Nat} (hs : Nums .u8 W B A xs) (h8 : b8 xs) (n c : Nat) (hn : xs.length = n) (w : World) (hb : Below B W w) {L : Option Addr} {log : List (Int × Int)} {V : World} {C : Nat} (hl : Prs .i64 .i64 V C L log) (cl : Nat) (hv : Below C V w) (most : Int) : Calls Try.prog 11 #[.slice A n c, .slice L log.length cl, .int .i64 most] w fun e w' => e = .returned (.tuple #[.agg #[.int .i64 (tfV xs log most).1, .int .i64 (tfV xs log most).2.1], .int .i64 (tfV xs log most).2.2]) ∧ Below w.heap.size w w' := by
  obtain rfl := hn
  have hB := hs.bsz hb
  have hC := hl.bsz hv
  have hll := hl.len
  cases h1 : okL xs log
  · have HR := Lib.hid (tfV_1 (m := most) h1)
    go_enter Try.func11, Try.ntmps11
    go_wp2_with (go_at_call 79; refine (ValidLog_any hs h8 _ _ rfl _ (by repeat' (first | (with_reducible first | assumption | exact Below.refl _ _ | refine Below.drew ?_ | refine Below.alloc ?_ ?_ _ | refine Below.setCell ?_ ?_ _ | refine below_setR ?_ ?_ _ | refine below_dn ?_ _ | refine Below.trans ?_ (below_mo _ _ _ ?_) | refine Below.trans ?_ (below_mq _ _ ?_) | exact Nat.le_refl _) | (simp; done) | (simp; omega) | omega)) hl _ (by repeat' (first | (with_reducible first | assumption | exact Below.refl _ _ | refine Below.drew ?_ | refine Below.alloc ?_ ?_ _ | refine Below.setCell ?_ ?_ _ | refine below_setR ?_ ?_ _ | refine below_dn ?_ _ | refine Below.trans ?_ (below_mo _ _ _ ?_) | refine Below.trans ?_ (below_mq _ _ ?_) | exact Nat.le_refl _) | (simp; done) | (simp; omega) | omega))).mono ?_; rintro e w' ⟨rfl, hb_⟩; obtain ⟨os_, d_, rfl⟩ := mo_of hb_; clear hb_)
    go_returns
    exact ⟨(by first | (rw [HR.out]; done) | (rw [HR.out]; rfl)), (by repeat' (first | (with_reducible first | assumption | exact Below.refl _ _ | refine Below.drew ?_ | refine Below.alloc ?_ ?_ _ | refine Below.setCell ?_ ?_ _ | refine below_setR ?_ ?_ _ | refine below_dn ?_ _ | refine Below.trans ?_ (below_mo _ _ _ ?_) | refine Below.trans ?_ (below_mq _ _ ?_) | exact Nat.le_refl _) | (simp; done) | (simp; omega) | omega))⟩
  cases h2 : inR most 0 1000000
  · have HR := Lib.hid (tfV_2 h1 h2)
    go_enter Try.func11, Try.ntmps11
    go_wp2_with (first | (go_at_call 79; refine (ValidLog_any hs h8 _ _ rfl _ (by repeat' (first | (with_reducible first | assumption | exact Below.refl _ _ | refine Below.drew ?_ | refine Below.alloc ?_ ?_ _ | refine Below.setCell ?_ ?_ _ | refine below_setR ?_ ?_ _ | refine below_dn ?_ _ | refine Below.trans ?_ (below_mo _ _ _ ?_) | refine Below.trans ?_ (below_mq _ _ ?_) | exact Nat.le_refl _) | (simp; done) | (simp; omega) | omega)) hl _ (by repeat' (first | (with_reducible first | assumption | exact Below.refl _ _ | refine Below.drew ?_ | refine Below.alloc ?_ ?_ _ | refine Below.setCell ?_ ?_ _ | refine below_setR ?_ ?_ _ | refine below_dn ?_ _ | refine Below.trans ?_ (below_mo _ _ _ ?_) | refine Below.trans ?_ (below_mq _ _ ?_) | exact Nat.le_refl _) | (simp; done) | (simp; omega) | omega))).mono ?_; rintro e w' ⟨rfl, hb_⟩; obtain ⟨os_, d_, rfl⟩ := mo_of hb_; clear hb_) | (go_at_call 80; refine (within_ok _ _ _ _).mono ?_; rintro e w' ⟨rfl, rfl⟩))
    go_returns
    exact ⟨(by first | (rw [HR.out]; done) | (rw [HR.out]; rfl)), (by repeat' (first | (with_reducible first | assumption | exact Below.refl _ _ | refine Below.drew ?_ | refine Below.alloc ?_ ?_ _ | refine Below.setCell ?_ ?_ _ | refine below_setR ?_ ?_ _ | refine below_dn ?_ _ | refine Below.trans ?_ (below_mo _ _ _ ?_) | refine Below.trans ?_ (below_mq _ _ ?_) | exact Nat.le_refl _) | (simp; done) | (simp; omega) | omega))⟩
  have HL := Lib.hid h1
  have HM := Lib.hid h2
  have HS := Lib.hid (okL_parts h1).1
  go_enter Try.func11, Try.ntmps11
  (go_wp2_with fail; refine (ValidLog_any hs h8 _ _ rfl _ (by repeat' (first | (with_reducible first | assumption | exact Below.refl _ _ | refine Below.drew ?_ | refine Below.alloc ?_ ?_ _ | refine Below.setCell ?_ ?_ _ | refine below_setR ?_ ?_ _ | refine below_dn ?_ _ | refine Below.trans ?_ (below_mo _ _ _ ?_) | refine Below.trans ?_ (below_mq _ _ ?_) | exact Nat.le_refl _) | (simp; done) | (simp; omega) | omega)) hl _ (by repeat' (first | (with_reducible first | assumption | exact Below.refl _ _ | refine Below.drew ?_ | refine Below.alloc ?_ ?_ _ | refine Below.setCell ?_ ?_ _ | refine below_setR ?_ ?_ _ | refine below_dn ?_ _ | refine Below.trans ?_ (below_mo _ _ _ ?_) | refine Below.trans ?_ (below_mq _ _ ?_) | exact Nat.le_refl _) | (simp; done) | (simp; omega) | omega))).mono ?_; rintro e w' ⟨rfl, hb_⟩; obtain ⟨os0, d0, rfl⟩ := mo_of hb_; clear hb_)
  go_wp2_with (go_at_call 80; refine (within_ok _ _ _ _).mono ?_; rintro e w' ⟨rfl, rfl⟩)
  clear h1 h2
  go_loopw [9] (fun i wr => ∃ (j : Nat) (os : Array Obj) (d : Nat), j ≤ log.length - 1 ∧ i = .int .i64 ((j : Int) + 1) ∧ wr = mo ((mo (w.alloc (.cells #[.int .i64 0, .int .i64 0] 27)) os0 d0).alloc (.cells #[.int .i64 0, .int .i64 (hiTo xs log j)] 27)) os d) (fun i _ => log.length - (intOf i).toNat)
  case atStart => exact ⟨0, #[], _, Nat.zero_le _, rfl, (mo_nil _).symm⟩
  case round =>
    obtain ⟨j, os, d, hj, rfl, rfl⟩ := hrel
    by_cases hlt : j + 1 < log.length
    · obtain ⟨b, off, rfl, hbs, hc0, hc1⟩ := hl.at hv (k := j) (by omega)
      obtain ⟨b', off', he, _, hd0, hd1⟩ := hl.at hv (k := j + 1) hlt
      obtain ⟨rfl, rfl⟩ := addr_same he
      clear he
      have ej : ((j + 1 : Nat) : Int) = (j : Int) + 1 := by omega
      rw [ej] at hd0 hd1
      have ht := okL_two HL.out hlt
      obtain ⟨t0, t1⟩ := tday_bd ht
      obtain ⟨s0, s1⟩ := tgap_bd log j HS.out
      obtain ⟨⟨q0, q1⟩, _⟩ := ceil_bd ⟨s0, s1⟩ ⟨t0, t1⟩
      obtain ⟨m0, m1⟩ := hiTo_bd HL.out j (by omega)
      obtain ⟨z0, z1⟩ := szS_bd HS.out
      obtain ⟨d0_, d1_, d2_, ⟨v0, v1⟩, v2, v3⟩ := ht
      have HN : Hid ((if hiTo xs log j < (tgap xs log j + tday log j - 1) / tday log j then (tgap xs log j + tday log j - 1) / tday log j else hiTo xs log j) = hiTo xs log (j + 1)) := by show _ = max _ _; split <;> omega
      have ed : p1 log ((j : Int) + 1) - p1 log j = tday log j := rfl
      have ED := Lib.hid ed
      clear ed ej
      have e1 : IntKind.i64.wrap (p2 log ((j : Int) + 1) - p2 log j) = p2 log ((j : Int) + 1) - p2 log j := IntWalk.i64_in _ ⟨by omega, by omega⟩
      have e2 : IntKind.i64.wrap (p1 log ((j : Int) + 1) - p1 log j) = tday log j := (IntWalk.i64_in _ ⟨by omega, by omega⟩).trans ED.out
      have e3 : IntKind.i64.wrap ((j : Int) + 1 - 1) = (j : Int) := (IntWalk.i64_in _ ⟨by omega, by omega⟩).trans (by omega)
      have e4 : IntKind.i64.wrap (tgap xs log j + tday log j) = tgap xs log j + tday log j := IntWalk.i64_in _ ⟨by omega, by omega⟩
      have e5 : IntKind.i64.wrap (tgap xs log j + tday log j - 1) = tgap xs log j + tday log j - 1 := IntWalk.i64_in _ ⟨by omega, by omega⟩
      have e6 : (tgap xs log j + tday log j - 1).tdiv (tday log j) = (tgap xs log j + tday log j - 1) / tday log j := Int.tdiv_eq_ediv_of_nonneg (by omega)
      have e7 : (tday log j == 0) = false := beq_eq_false_iff_ne.2 (by omega)
      have e8 : ¬ tday log j = 0 := by omega
      have e9 : IntKind.i64.wrap ((tgap xs log j + tday log j - 1) / tday log j) = (tgap xs log j + tday log j - 1) / tday log j := IntWalk.i64_in _ ⟨by omega, by omega⟩
      have g0 : (0 : Int) ≤ (j : Int) := by omega
      have g1 : (j : Int) < (log.length : Int) := by omega
      have g2 : (j : Int) + 1 < (log.length : Int) := by omega
      have hb1 : -4000000000000000000 ≤ p2 log ((j : Int) + 1) - p2 log j ∧ p2 log ((j : Int) + 1) - p2 log j ≤ 4000000000000000000 := by omega
      have hb2 : 1 ≤ szS xs ∧ szS xs ≤ 4000000000000000000 := by omega
      have HB1 := Lib.hid hb1
      have HB2 := Lib.hid hb2
      clear hb1 hb2
      go_wp2
      (refine wp_region_mq (by kernel_rfl) (by kernel_rfl) ?_; (repeat (first | go_big_quiet_step ((first | (go_at_call 82; ((with_reducible refine quietS (size_any hs h8 _ _ rfl _ ?_) ) <;> (repeat' (first | (with_reducible first | assumption | exact Below.refl _ _ | refine Below.drew ?_ | refine Below.alloc ?_ ?_ _ | refine Below.setCell ?_ ?_ _ | refine below_setR ?_ ?_ _ | refine below_dn ?_ _ | refine Below.trans ?_ (below_mo _ _ _ ?_) | refine Below.trans ?_ (below_mq _ _ ?_) | exact Nat.le_refl _) | (simp; done) | (simp; omega) | omega)))) | (go_at_call 81; with_reducible exact quietS (wrap_gap (xs := xs) (log := log) j _ HB1.out HB2.out) ))) | quiet_step ((first | (go_at_call 82; ((with_reducible refine quietS (size_any hs h8 _ _ rfl _ ?_) ) <;> (repeat' (first | (with_reducible first | assumption | exact Below.refl _ _ | refine Below.drew ?_ | refine Below.alloc ?_ ?_ _ | refine Below.setCell ?_ ?_ _ | refine below_setR ?_ ?_ _ | refine below_dn ?_ _ | refine Below.trans ?_ (below_mo _ _ _ ?_) | refine Below.trans ?_ (below_mq _ _ ?_) | exact Nat.le_refl _) | (simp; done) | (simp; omega) | omega)))) | (go_at_call 81; with_reducible exact quietS (wrap_gap (xs := xs) (log := log) j _ HB1.out HB2.out) ))))); refine wpQuiet_nil ?_; intro _ hq_; obtain ⟨q_, rfl⟩ := hq_)
      go_wp2
      (refine wp_region_mq (by kernel_rfl) (by kernel_rfl) ?_; (repeat (first | go_big_quiet_step ((fail)) | quiet_step ((fail)))); refine wpQuiet_nil ?_; intro _ hq_; obtain ⟨q_, rfl⟩ := hq_)
      go_wp2
      (refine still_tail2 10 (by kernel_rfl) (by kernel_rfl) ?_; (simp only [List.take_succ_cons, List.take_zero, List.drop_succ_cons, List.drop_zero]); (repeat still_step); refine wpStill_nil ?_)
      go_wp2
      exact ⟨⟨j + 1, _, _, by omega, by go_num, by rw [HN.out]; simp only [mq, mo_mo, mo_drew]; rfl⟩, by simp [intOf]; omega⟩
    · obtain rfl : j = log.length - 1 := by omega
      obtain ⟨H, hH⟩ : ∃ H, H = hiTo xs log (log.length - 1) := ⟨_, rfl⟩
      rw [← hH]
      have g2 : ¬ ((log.length - 1 : Nat) : Int) + 1 < (log.length : Int) := by omega
      have m2 : 0 ≤ H := by
        rw [hH]
        cases hz : log.length with
        | zero => simp [hiTo]
        | succ z => have := hiTo_bd HL.out (log.length - 1) (by omega); rw [hz] at this; exact this.1
      have HH := Lib.hid hH
      clear hH
      by_cases hm : most < H
      · have HR := Lib.hid (tfV_3 HL.out HM.out (HH.out ▸ hm))
        go_wp2
        go_returns
        exact ⟨(by first | (rw [HR.out]; done) | (rw [HR.out]; rfl)), (by repeat' (first | (with_reducible first | assumption | exact Below.refl _ _ | refine Below.drew ?_ | refine Below.alloc ?_ ?_ _ | refine Below.setCell ?_ ?_ _ | refine below_setR ?_ ?_ _ | refine below_dn ?_ _ | refine Below.trans ?_ (below_mo _ _ _ ?_) | refine Below.trans ?_ (below_mq _ _ ?_) | exact Nat.le_refl _) | (simp; done) | (simp; omega) | omega))⟩
      have HR := Lib.hid (tfV_4 HL.out HM.out (HH.out ▸ hm))
      have hm2 : H ≤ 1000000 := by have := (inR_t.1 HM.out).2; omega
      go_wp2
      go_loopw [13, 14] (fun t i wr => ∃ (j : Nat) (os : Array Obj) (d : Nat), j ≤ log.length - 1 ∧ i = .int .i64 ((j : Int) + 1) ∧ t = .int .i64 (loTo xs log H j) ∧ wr = mo ((mo (w.alloc (.cells #[.int .i64 0, .int .i64 0] 27)) os0 d0).alloc (.cells #[.int .i64 0, .int .i64 H] 27)) os d) (fun _ i _ => log.length - (intOf i).toNat)
      case atStart => exact ⟨0, os, d, Nat.zero_le _, rfl, rfl, rfl⟩
      case round =>
        clear g2
        obtain ⟨j, os, d, hj, rfl, rfl, rfl⟩ := hrel
        by_cases hlt : j + 1 < log.length
        · obtain ⟨b, off, rfl, hbs, hc0, hc1⟩ := hl.at hv (k := j) (by omega)
          obtain ⟨b', off', he, _, hd0, hd1⟩ := hl.at hv (k := j + 1) hlt
          obtain ⟨rfl, rfl⟩ := addr_same he
          clear he
          have ej : ((j + 1 : Nat) : Int) = (j : Int) + 1 := by omega
          rw [ej] at hd0 hd1
          have ht := okL_two HL.out hlt
          have hF := ht.fine HS.out (fl := 0) (fh := H) ⟨by omega, by omega, by omega⟩
          have h2 := hF.high (tight_ok HL.out hlt HH.out)
          have h3 : 0 ≤ cLow xs (p1 log j) (p2 log j) (p1 log ((j : Int) + 1)) (p2 log ((j : Int) + 1)) 0 := by have := hF.cs.1.1; unfold cLow; omega
          have h4 : cHigh xs (p1 log j) (p2 log j) (p1 log ((j : Int) + 1)) (p2 log ((j : Int) + 1)) H ≤ 100000000000 := by have h5 := hF.cs.2.1; have h6 := hF.bd.2.1.2; unfold cHigh; omega
          have h5 : 0 ≤ cHigh xs (p1 log j) (p2 log j) (p1 log ((j : Int) + 1)) (p2 log ((j : Int) + 1)) H := by omega
          clear h2 h3
          obtain ⟨t0, t1⟩ := tday_bd ht
          obtain ⟨q0, q1⟩ := ediv_abs (m := cHigh xs (p1 log j) (p2 log j) (p1 log ((j : Int) + 1)) (p2 log ((j : Int) + 1)) H) (b := tday log j) h5 (by omega)
          obtain ⟨d0_, d1_, d2_, ⟨v0, v1⟩, v2, v3⟩ := ht
          have HN : Hid ((if cHigh xs (p1 log j) (p2 log j) (p1 log ((j : Int) + 1)) (p2 log ((j : Int) + 1)) H / tday log j < loTo xs log H j then cHigh xs (p1 log j) (p2 log j) (p1 log ((j : Int) + 1)) (p2 log ((j : Int) + 1)) H / tday log j else loTo xs log H j) = loTo xs log H (j + 1)) := by show _ = min _ _; split <;> omega
          have ed : p1 log ((j : Int) + 1) - p1 log j = tday log j := rfl
          have ED := Lib.hid ed
          clear ed ej
          have HF := Lib.hid hF
          clear hF
          have e2 : IntKind.i64.wrap (p1 log ((j : Int) + 1) - p1 log j) = tday log j := (IntWalk.i64_in _ ⟨by omega, by omega⟩).trans ED.out
          have e3 : IntKind.i64.wrap ((j : Int) + 1 - 1) = (j : Int) := (IntWalk.i64_in _ ⟨by omega, by omega⟩).trans (by omega)
          have e6 : (cHigh xs (p1 log j) (p2 log j) (p1 log ((j : Int) + 1)) (p2 log ((j : Int) + 1)) H).tdiv (tday log j) = cHigh xs (p1 log j) (p2 log j) (p1 log ((j : Int) + 1)) (p2 log ((j : Int) + 1)) H / tday log j := Int.tdiv_eq_ediv_of_nonneg (by omega)
          have e8 : ¬ tday log j = 0 := by omega
          have e7 : (tday log j == 0) = false := beq_eq_false_iff_ne.2 e8
          have e9 : IntKind.i64.wrap (cHigh xs (p1 log j) (p2 log j) (p1 log ((j : Int) + 1)) (p2 log ((j : Int) + 1)) H / tday log j) = cHigh xs (p1 log j) (p2 log j) (p1 log ((j : Int) + 1)) (p2 log ((j : Int) + 1)) H / tday log j := IntWalk.i64_in _ ⟨by omega, by omega⟩
          have g0 : (0 : Int) ≤ (j : Int) := by omega
          have g1 : (j : Int) < (log.length : Int) := by omega
          have g2 : (j : Int) + 1 < (log.length : Int) := by omega
          go_wp2
          (refine wp_region_mq (by kernel_rfl) (by kernel_rfl) ?_; (repeat (first | go_big_quiet_step ((first | (go_at_call 83; ((with_reducible refine quietQ (counts_any hs h8 _ _ rfl _ ?_ _ _ _ _ _ _ HF.out) ) <;> (repeat' (first | (with_reducible first | assumption | exact Below.refl _ _ | refine Below.drew ?_ | refine Below.alloc ?_ ?_ _ | refine Below.setCell ?_ ?_ _ | refine below_setR ?_ ?_ _ | refine below_dn ?_ _ | refine Below.trans ?_ (below_mo _ _ _ ?_) | refine Below.trans ?_ (below_mq _ _ ?_) | exact Nat.le_refl _) | (simp; done) | (simp; omega) | omega)))))) | quiet_step ((first | (go_at_call 83; ((with_reducible refine quietQ (counts_any hs h8 _ _ rfl _ ?_ _ _ _ _ _ _ HF.out) ) <;> (repeat' (first | (with_reducible first | assumption | exact Below.refl _ _ | refine Below.drew ?_ | refine Below.alloc ?_ ?_ _ | refine Below.setCell ?_ ?_ _ | refine below_setR ?_ ?_ _ | refine below_dn ?_ _ | refine Below.trans ?_ (below_mo _ _ _ ?_) | refine Below.trans ?_ (below_mq _ _ ?_) | exact Nat.le_refl _) | (simp; done) | (simp; omega) | omega)))))))); refine wpQuiet_nil ?_; intro _ hq_; obtain ⟨q_, rfl⟩ := hq_)
          go_wp2
          (refine wp_region_mq (by kernel_rfl) (by kernel_rfl) ?_; (repeat (first | go_big_quiet_step ((fail)) | quiet_step ((fail)))); refine wpQuiet_nil ?_; intro _ hq_; obtain ⟨q_, rfl⟩ := hq_)
          go_wp2
          exact ⟨⟨j + 1, _, _, by omega, by go_num, by rw [HN.out], by simp only [mq, mo_mo]; rfl⟩, by simp [intOf]; omega⟩
        · obtain rfl : j = log.length - 1 := by omega
          have g2 : ¬ ((log.length - 1 : Nat) : Int) + 1 < (log.length : Int) := by omega
          go_wp2
          go_returns
          exact ⟨by rw [HR.out, HH.out], (by repeat' (first | (with_reducible first | assumption | exact Below.refl _ _ | refine Below.drew ?_ | refine Below.alloc ?_ ?_ _ | refine Below.setCell ?_ ?_ _ | refine below_setR ?_ ?_ _ | refine below_dn ?_ _ | refine Below.trans ?_ (below_mo _ _ _ ?_) | refine Below.trans ?_ (below_mq _ _ ?_) | exact Nat.le_refl _) | (simp; done) | (simp; omega) | omega))⟩
theorem mod_gap {xs : List Int} {log : List (Int × Int)} (j : Nat) (w : World) (h1 : -4000000000000000000 ≤ p2 log ((j : Int) + 1) - p2 log j ∧ p2 log ((j : Int) + 1) - p2 log j ≤ 4000000000000000000) (h2 : 1 ≤ szS xs ∧ szS xs ≤ 4000000000000000000) :
    Calls Try.prog 87 #[.int .i64 (p2 log ((j : Int) + 1) - p2 log j), .int .i64 (sizeTo xs xs.length)] w fun e w' => e = .returned (.int .i64 (tgap xs log j)) ∧ w = w' := l04Mod_any _ _ w h1 h2
theorem l00Max_st (a b : Int) (w : World) : Calls Try.prog 88 #[.int .i64 a, .int .i64 b] w fun e w' => e = .returned (.int .i64 (max a b)) ∧ w' = w := (l00Max_ok a b w).mono fun _ _ ⟨h1, h2⟩ => ⟨h1, h2.symm⟩
theorem l04Counts_t {A : Option Addr} {xs : List Int} {W : World} {B : Nat} (hs : Nums .u8 W B A xs) (h8 : b8 xs) (n c : Nat) (hn : xs.length = n) (w : World) (hb : Below B W w) (ad av bd bv fl fh : Int) (h : Fine xs ad av bd bv fl fh) (ho : cOk xs ad av bd bv fl fh = true) : Calls Try.prog 89 #[.slice A n c, .agg #[.int .i64 ad, .int .i64 av], .agg #[.int .i64 bd, .int .i64 bv], .agg #[.int .i64 fl, .int .i64 fh]] w fun e w' => e = .returned (.tuple #[.int .i64 (cLow xs ad av bd bv fl), .int .i64 (cHigh xs ad av bd bv fh), .bool true]) ∧ Below w.heap.size w w' :=
  (l04Counts_any hs h8 n c hn w hb ad av bd bv fl fh h).mono fun _ _ ⟨h1, h2⟩ => ⟨by rw [h1, ho]; rfl, h2⟩
set_option maxHeartbeats 4000000 in
theorem specTight_any {A : Option Addr} {xs : List Int} {W : World} {B : Nat} (hs : Nums .u8 W B A xs) (h8 : b8 xs) (n c : Nat) (hn : xs.length = n) (w : World) (hb : Below B W w) {L : Option Addr} {log : List (Int × Int)} {V : World} {C : Nat} (hl : Prs .i64 .i64 V C L log) (cl : Nat) (hv : Below C V w) (most : Int) : Calls Try.prog 12 #[.slice A n c, .slice L log.length cl, .int .i64 most] w fun e w' => e = .returned (.tuple #[.agg #[.int .i64 (tfV xs log most).1, .int .i64 (tfV xs log most).2.1], .int .i64 (tfV xs log most).2.2]) ∧ Below w.heap.size w w' := by
  obtain rfl := hn
  have hB := hs.bsz hb
  have hC := hl.bsz hv
  have hll := hl.len
  cases h1 : okL xs log
  · have HR := Lib.hid (tfV_1 (m := most) h1)
    go_enter Try.func12, Try.ntmps12
    go_wp2_with (go_at_call 84; refine (l04Ok_any hs h8 _ _ rfl _ (by repeat' (first | (with_reducible first | assumption | exact Below.refl _ _ | refine Below.drew ?_ | refine Below.alloc ?_ ?_ _ | refine Below.setCell ?_ ?_ _ | refine below_setR ?_ ?_ _ | refine below_dn ?_ _ | refine Below.trans ?_ (below_mo _ _ _ ?_) | refine Below.trans ?_ (below_mq _ _ ?_) | exact Nat.le_refl _) | (simp; done) | (simp; omega) | omega)) hl _ (by repeat' (first | (with_reducible first | assumption | exact Below.refl _ _ | refine Below.drew ?_ | refine Below.alloc ?_ ?_ _ | refine Below.setCell ?_ ?_ _ | refine below_setR ?_ ?_ _ | refine below_dn ?_ _ | refine Below.trans ?_ (below_mo _ _ _ ?_) | refine Below.trans ?_ (below_mq _ _ ?_) | exact Nat.le_refl _) | (simp; done) | (simp; omega) | omega))).mono ?_; rintro e w' ⟨rfl, hb_⟩; obtain ⟨os_, d_, rfl⟩ := mo_of hb_; clear hb_)
    go_returns
    exact ⟨(by first | (rw [HR.out]; done) | (rw [HR.out]; rfl)), (by repeat' (first | (with_reducible first | assumption | exact Below.refl _ _ | refine Below.drew ?_ | refine Below.alloc ?_ ?_ _ | refine Below.setCell ?_ ?_ _ | refine below_setR ?_ ?_ _ | refine below_dn ?_ _ | refine Below.trans ?_ (below_mo _ _ _ ?_) | refine Below.trans ?_ (below_mq _ _ ?_) | exact Nat.le_refl _) | (simp; done) | (simp; omega) | omega))⟩
  cases h2 : inR most 0 1000000
  · have HR := Lib.hid (tfV_2 h1 h2)
    go_enter Try.func12, Try.ntmps12
    go_wp2_with (first | (go_at_call 84; refine (l04Ok_any hs h8 _ _ rfl _ (by repeat' (first | (with_reducible first | assumption | exact Below.refl _ _ | refine Below.drew ?_ | refine Below.alloc ?_ ?_ _ | refine Below.setCell ?_ ?_ _ | refine below_setR ?_ ?_ _ | refine below_dn ?_ _ | refine Below.trans ?_ (below_mo _ _ _ ?_) | refine Below.trans ?_ (below_mq _ _ ?_) | exact Nat.le_refl _) | (simp; done) | (simp; omega) | omega)) hl _ (by repeat' (first | (with_reducible first | assumption | exact Below.refl _ _ | refine Below.drew ?_ | refine Below.alloc ?_ ?_ _ | refine Below.setCell ?_ ?_ _ | refine below_setR ?_ ?_ _ | refine below_dn ?_ _ | refine Below.trans ?_ (below_mo _ _ _ ?_) | refine Below.trans ?_ (below_mq _ _ ?_) | exact Nat.le_refl _) | (simp; done) | (simp; omega) | omega))).mono ?_; rintro e w' ⟨rfl, hb_⟩; obtain ⟨os_, d_, rfl⟩ := mo_of hb_; clear hb_) | (go_at_call 85; refine (l00In_ok _ _ _ _).mono ?_; rintro e w' ⟨rfl, rfl⟩))
    go_returns
    exact ⟨(by first | (rw [HR.out]; done) | (rw [HR.out]; rfl)), (by repeat' (first | (with_reducible first | assumption | exact Below.refl _ _ | refine Below.drew ?_ | refine Below.alloc ?_ ?_ _ | refine Below.setCell ?_ ?_ _ | refine below_setR ?_ ?_ _ | refine below_dn ?_ _ | refine Below.trans ?_ (below_mo _ _ _ ?_) | refine Below.trans ?_ (below_mq _ _ ?_) | exact Nat.le_refl _) | (simp; done) | (simp; omega) | omega))⟩
  have HL := Lib.hid h1
  have HM := Lib.hid h2
  have HS := Lib.hid (okL_parts h1).1
  go_enter Try.func12, Try.ntmps12
  (go_wp2_with fail; refine (l04Ok_any hs h8 _ _ rfl _ (by repeat' (first | (with_reducible first | assumption | exact Below.refl _ _ | refine Below.drew ?_ | refine Below.alloc ?_ ?_ _ | refine Below.setCell ?_ ?_ _ | refine below_setR ?_ ?_ _ | refine below_dn ?_ _ | refine Below.trans ?_ (below_mo _ _ _ ?_) | refine Below.trans ?_ (below_mq _ _ ?_) | exact Nat.le_refl _) | (simp; done) | (simp; omega) | omega)) hl _ (by repeat' (first | (with_reducible first | assumption | exact Below.refl _ _ | refine Below.drew ?_ | refine Below.alloc ?_ ?_ _ | refine Below.setCell ?_ ?_ _ | refine below_setR ?_ ?_ _ | refine below_dn ?_ _ | refine Below.trans ?_ (below_mo _ _ _ ?_) | refine Below.trans ?_ (below_mq _ _ ?_) | exact Nat.le_refl _) | (simp; done) | (simp; omega) | omega))).mono ?_; rintro e w' ⟨rfl, hb_⟩; obtain ⟨os0, d0, rfl⟩ := mo_of hb_; clear hb_)
  go_wp2_with (first | (go_at_call 85; refine (l00In_ok _ _ _ _).mono ?_; rintro e w' ⟨rfl, rfl⟩) | (go_at_call 86; refine (l01Size_any hs h8 _ _ rfl _ (by repeat' (first | (with_reducible first | assumption | exact Below.refl _ _ | refine Below.drew ?_ | refine Below.alloc ?_ ?_ _ | refine Below.setCell ?_ ?_ _ | refine below_setR ?_ ?_ _ | refine below_dn ?_ _ | refine Below.trans ?_ (below_mo _ _ _ ?_) | refine Below.trans ?_ (below_mq _ _ ?_) | exact Nat.le_refl _) | (simp; done) | (simp; omega) | omega))).mono ?_; rintro e w' ⟨rfl, rfl⟩))
  clear h1 h2
  go_loopw [10] (fun i wr => ∃ (j : Nat) (os : Array Obj) (d : Nat), j ≤ log.length - 1 ∧ i = .int .i64 ((j : Int) + 1) ∧ wr = mo ((mo (w.alloc (.cells #[.int .i64 0, .int .i64 0] 27)) os0 d0).alloc (.cells #[.int .i64 0, .int .i64 (hiTo xs log j)] 27)) os d) (fun i _ => log.length - (intOf i).toNat)
  case atStart => exact ⟨0, #[], _, Nat.zero_le _, rfl, (mo_nil _).symm⟩
  case round =>
    obtain ⟨j, os, d, hj, rfl, rfl⟩ := hrel
    by_cases hlt : j + 1 < log.length
    · obtain ⟨b, off, rfl, hbs, hc0, hc1⟩ := hl.at hv (k := j) (by omega)
      obtain ⟨b', off', he, _, hd0, hd1⟩ := hl.at hv (k := j + 1) hlt
      obtain ⟨rfl, rfl⟩ := addr_same he
      clear he
      have ej : ((j + 1 : Nat) : Int) = (j : Int) + 1 := by omega
      rw [ej] at hd0 hd1
      have ht := okL_two HL.out hlt
      obtain ⟨t0, t1⟩ := tday_bd ht
      obtain ⟨s0, s1⟩ := tgap_bd log j HS.out
      obtain ⟨⟨q0, q1⟩, _⟩ := ceil_bd ⟨s0, s1⟩ ⟨t0, t1⟩
      obtain ⟨m0, m1⟩ := hiTo_bd HL.out j (by omega)
      obtain ⟨z0, z1⟩ := szS_bd HS.out
      obtain ⟨d0_, d1_, d2_, ⟨v0, v1⟩, v2, v3⟩ := ht
      have HN : Hid (max (hiTo xs log j) ((tgap xs log j + tday log j - 1) / tday log j) = hiTo xs log (j + 1)) := rfl
      have ed : p1 log ((j : Int) + 1) - p1 log j = tday log j := rfl
      have ED := Lib.hid ed
      clear ed ej
      have e1 : IntKind.i64.wrap (p2 log ((j : Int) + 1) - p2 log j) = p2 log ((j : Int) + 1) - p2 log j := IntWalk.i64_in _ ⟨by omega, by omega⟩
      have e2 : IntKind.i64.wrap (p1 log ((j : Int) + 1) - p1 log j) = tday log j := (IntWalk.i64_in _ ⟨by omega, by omega⟩).trans ED.out
      have e3 : IntKind.i64.wrap ((j : Int) + 1 - 1) = (j : Int) := (IntWalk.i64_in _ ⟨by omega, by omega⟩).trans (by omega)
      have e4 : IntKind.i64.wrap (tgap xs log j + tday log j) = tgap xs log j + tday log j := IntWalk.i64_in _ ⟨by omega, by omega⟩
      have e5 : IntKind.i64.wrap (tgap xs log j + tday log j - 1) = tgap xs log j + tday log j - 1 := IntWalk.i64_in _ ⟨by omega, by omega⟩
      have e6 : (tgap xs log j + tday log j - 1).tdiv (tday log j) = (tgap xs log j + tday log j - 1) / tday log j := Int.tdiv_eq_ediv_of_nonneg (by omega)
      have e7 : (tday log j == 0) = false := beq_eq_false_iff_ne.2 (by omega)
      have e8 : ¬ tday log j = 0 := by omega
      have e9 : IntKind.i64.wrap ((tgap xs log j + tday log j - 1) / tday log j) = (tgap xs log j + tday log j - 1) / tday log j := IntWalk.i64_in _ ⟨by omega, by omega⟩
      have g0 : (0 : Int) ≤ (j : Int) := by omega
      have g1 : (j : Int) < (log.length : Int) := by omega
      have g2 : (j : Int) + 1 < (log.length : Int) := by omega
      have hb1 : -4000000000000000000 ≤ p2 log ((j : Int) + 1) - p2 log j ∧ p2 log ((j : Int) + 1) - p2 log j ≤ 4000000000000000000 := by omega
      have hb2 : 1 ≤ szS xs ∧ szS xs ≤ 4000000000000000000 := by omega
      have HB1 := Lib.hid hb1
      have HB2 := Lib.hid hb2
      clear hb1 hb2
      go_wp2
      (refine wp_region_mq (by kernel_rfl) (by kernel_rfl) ?_; (repeat (first | go_big_quiet_step ((fail)) | quiet_step ((fail)))); refine wpQuiet_nil ?_; intro _ hq_; obtain ⟨q_, rfl⟩ := hq_)
      go_wp2
      (refine wp_region_mq (by kernel_rfl) (by kernel_rfl) ?_; (repeat (first | go_big_quiet_step ((first | (go_at_call 87; with_reducible exact quietS (mod_gap (xs := xs) (log := log) j _ HB1.out HB2.out) ))) | quiet_step ((first | (go_at_call 87; with_reducible exact quietS (mod_gap (xs := xs) (log := log) j _ HB1.out HB2.out) ))))); refine wpQuiet_nil ?_; intro _ hq_; obtain ⟨q_, rfl⟩ := hq_)
      go_wp2
      (refine still_tail2 10 (by kernel_rfl) (by kernel_rfl) ?_; (simp only [List.take_succ_cons, List.take_zero, List.drop_succ_cons, List.drop_zero]); (repeat first | still_step | still_call (l00Max_st _ _ _)); refine wpStill_nil ?_)
      go_wp2
      exact ⟨⟨j + 1, _, _, by omega, by go_num, by rw [HN.out]; simp only [mq, mo_mo, mo_drew]; rfl⟩, by simp [intOf]; omega⟩
    · obtain rfl : j = log.length - 1 := by omega
      obtain ⟨H, hH⟩ : ∃ H, H = hiTo xs log (log.length - 1) := ⟨_, rfl⟩
      rw [← hH]
      have g2 : ¬ ((log.length - 1 : Nat) : Int) + 1 < (log.length : Int) := by omega
      have m2 : 0 ≤ H := by
        rw [hH]
        cases hz : log.length with
        | zero => simp [hiTo]
        | succ z => have := hiTo_bd HL.out (log.length - 1) (by omega); rw [hz] at this; exact this.1
      have HH := Lib.hid hH
      clear hH
      by_cases hm : most < H
      · have HR := Lib.hid (tfV_3 HL.out HM.out (HH.out ▸ hm))
        go_wp2
        go_returns
        exact ⟨(by first | (rw [HR.out]; done) | (rw [HR.out]; rfl)), (by repeat' (first | (with_reducible first | assumption | exact Below.refl _ _ | refine Below.drew ?_ | refine Below.alloc ?_ ?_ _ | refine Below.setCell ?_ ?_ _ | refine below_setR ?_ ?_ _ | refine below_dn ?_ _ | refine Below.trans ?_ (below_mo _ _ _ ?_) | refine Below.trans ?_ (below_mq _ _ ?_) | exact Nat.le_refl _) | (simp; done) | (simp; omega) | omega))⟩
      have HR := Lib.hid (tfV_4 HL.out HM.out (HH.out ▸ hm))
      have hm2 : H ≤ 1000000 := by have := (inR_t.1 HM.out).2; omega
      go_wp2
      go_loopw [13, 14] (fun t i wr => ∃ (j : Nat) (os : Array Obj) (d : Nat), j ≤ log.length - 1 ∧ i = .int .i64 ((j : Int) + 1) ∧ t = .int .i64 (loTo xs log H j) ∧ wr = mo ((mo (w.alloc (.cells #[.int .i64 0, .int .i64 0] 27)) os0 d0).alloc (.cells #[.int .i64 0, .int .i64 H] 27)) os d) (fun _ i _ => log.length - (intOf i).toNat)
      case atStart => exact ⟨0, os, d, Nat.zero_le _, rfl, rfl, rfl⟩
      case round =>
        clear g2
        obtain ⟨j, os, d, hj, rfl, rfl, rfl⟩ := hrel
        by_cases hlt : j + 1 < log.length
        · obtain ⟨b, off, rfl, hbs, hc0, hc1⟩ := hl.at hv (k := j) (by omega)
          obtain ⟨b', off', he, _, hd0, hd1⟩ := hl.at hv (k := j + 1) hlt
          obtain ⟨rfl, rfl⟩ := addr_same he
          clear he
          have ej : ((j + 1 : Nat) : Int) = (j : Int) + 1 := by omega
          rw [ej] at hd0 hd1
          have ht := okL_two HL.out hlt
          have hF := ht.fine HS.out (fl := 0) (fh := H) ⟨by omega, by omega, by omega⟩
          have h2 := hF.high (tight_ok HL.out hlt HH.out)
          have h3 : 0 ≤ cLow xs (p1 log j) (p2 log j) (p1 log ((j : Int) + 1)) (p2 log ((j : Int) + 1)) 0 := by have := hF.cs.1.1; unfold cLow; omega
          have h4 : cHigh xs (p1 log j) (p2 log j) (p1 log ((j : Int) + 1)) (p2 log ((j : Int) + 1)) H ≤ 100000000000 := by have h5 := hF.cs.2.1; have h6 := hF.bd.2.1.2; unfold cHigh; omega
          have h5 : 0 ≤ cHigh xs (p1 log j) (p2 log j) (p1 log ((j : Int) + 1)) (p2 log ((j : Int) + 1)) H := by omega
          have HO := Lib.hid (tight_ok HL.out hlt HH.out)
          clear h2 h3
          obtain ⟨t0, t1⟩ := tday_bd ht
          obtain ⟨q0, q1⟩ := ediv_abs (m := cHigh xs (p1 log j) (p2 log j) (p1 log ((j : Int) + 1)) (p2 log ((j : Int) + 1)) H) (b := tday log j) h5 (by omega)
          obtain ⟨d0_, d1_, d2_, ⟨v0, v1⟩, v2, v3⟩ := ht
          have HN : Hid (min (loTo xs log H j) (cHigh xs (p1 log j) (p2 log j) (p1 log ((j : Int) + 1)) (p2 log ((j : Int) + 1)) H / tday log j) = loTo xs log H (j + 1)) := rfl
          have ed : p1 log ((j : Int) + 1) - p1 log j = tday log j := rfl
          have ED := Lib.hid ed
          clear ed ej
          have HF := Lib.hid hF
          clear hF
          have e2 : IntKind.i64.wrap (p1 log ((j : Int) + 1) - p1 log j) = tday log j := (IntWalk.i64_in _ ⟨by omega, by omega⟩).trans ED.out
          have e3 : IntKind.i64.wrap ((j : Int) + 1 - 1) = (j : Int) := (IntWalk.i64_in _ ⟨by omega, by omega⟩).trans (by omega)
          have e6 : (cHigh xs (p1 log j) (p2 log j) (p1 log ((j : Int) + 1)) (p2 log ((j : Int) + 1)) H).tdiv (tday log j) = cHigh xs (p1 log j) (p2 log j) (p1 log ((j : Int) + 1)) (p2 log ((j : Int) + 1)) H / tday log j := Int.tdiv_eq_ediv_of_nonneg (by omega)
          have e8 : ¬ tday log j = 0 := by omega
          have e7 : (tday log j == 0) = false := beq_eq_false_iff_ne.2 e8
          have e9 : IntKind.i64.wrap (cHigh xs (p1 log j) (p2 log j) (p1 log ((j : Int) + 1)) (p2 log ((j : Int) + 1)) H / tday log j) = cHigh xs (p1 log j) (p2 log j) (p1 log ((j : Int) + 1)) (p2 log ((j : Int) + 1)) H / tday log j := IntWalk.i64_in _ ⟨by omega, by omega⟩
          have g0 : (0 : Int) ≤ (j : Int) := by omega
          have g1 : (j : Int) < (log.length : Int) := by omega
          have g2 : (j : Int) + 1 < (log.length : Int) := by omega
          go_wp2
          (refine wp_region_mq (by kernel_rfl) (by kernel_rfl) ?_; (repeat (first | go_big_quiet_step ((first | (go_at_call 89; ((with_reducible refine quietQ (l04Counts_t hs h8 _ _ rfl _ ?_ _ _ _ _ _ _ HF.out HO.out) ) <;> (repeat' (first | (with_reducible first | assumption | exact Below.refl _ _ | refine Below.drew ?_ | refine Below.alloc ?_ ?_ _ | refine Below.setCell ?_ ?_ _ | refine below_setR ?_ ?_ _ | refine below_dn ?_ _ | refine Below.trans ?_ (below_mo _ _ _ ?_) | refine Below.trans ?_ (below_mq _ _ ?_) | exact Nat.le_refl _) | (simp; done) | (simp; omega) | omega)))))) | quiet_step ((first | (go_at_call 89; ((with_reducible refine quietQ (l04Counts_t hs h8 _ _ rfl _ ?_ _ _ _ _ _ _ HF.out HO.out) ) <;> (repeat' (first | (with_reducible first | assumption | exact Below.refl _ _ | refine Below.drew ?_ | refine Below.alloc ?_ ?_ _ | refine Below.setCell ?_ ?_ _ | refine below_setR ?_ ?_ _ | refine below_dn ?_ _ | refine Below.trans ?_ (below_mo _ _ _ ?_) | refine Below.trans ?_ (below_mq _ _ ?_) | exact Nat.le_refl _) | (simp; done) | (simp; omega) | omega)))))))); refine wpQuiet_nil ?_; intro _ hq_; obtain ⟨q_, rfl⟩ := hq_)
          go_wp2
          (refine wp_region_mq (by kernel_rfl) (by kernel_rfl) ?_; (repeat (first | go_big_quiet_step ((first | (go_at_call 90; with_reducible exact quietS (l00Min_ok _ _ _) ))) | quiet_step ((first | (go_at_call 90; with_reducible exact quietS (l00Min_ok _ _ _) ))))); refine wpQuiet_nil ?_; intro _ hq_; obtain ⟨q_, rfl⟩ := hq_)
          go_wp2
          exact ⟨⟨j + 1, _, _, by omega, by go_num, by rw [HN.out], by simp only [mq, mo_mo]; rfl⟩, by simp [intOf]; omega⟩
        · obtain rfl : j = log.length - 1 := by omega
          have g2 : ¬ ((log.length - 1 : Nat) : Int) + 1 < (log.length : Int) := by omega
          go_wp2
          go_returns
          exact ⟨by rw [HR.out, HH.out], (by repeat' (first | (with_reducible first | assumption | exact Below.refl _ _ | refine Below.drew ?_ | refine Below.alloc ?_ ?_ _ | refine Below.setCell ?_ ?_ _ | refine below_setR ?_ ?_ _ | refine below_dn ?_ _ | refine Below.trans ?_ (below_mo _ _ _ ?_) | refine Below.trans ?_ (below_mq _ _ ?_) | exact Nat.le_refl _) | (simp; done) | (simp; omega) | omega))⟩
end Go.Proofs.Ytkphbagckbbalaa.X
