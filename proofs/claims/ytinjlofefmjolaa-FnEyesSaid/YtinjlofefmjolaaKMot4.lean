/- The parts of a motion at a turn. Conditions: none. -/
import Derived.Test.YtinjlofefmjolaaKMot3
namespace Go.Proofs.Ytinjlofefmjolaa.X
open Go.RowKit
set_option linter.unusedVariables false
set_option linter.unusedSimpArgs false
set_option maxRecDepth 100000
theorem whole_any {A : Option Addr} {xs : List Int} {W : World} {B : Nat} (hs : Nums .u8 W B A xs) (h8 : b8 xs) (c : Nat) {L : Option Addr} {js : List (Int × Int)} {V : World} {C : Nat} (hl : Prs .i8 .i16 V C L js) (hj : j8 js) (cl : Nat) (w : World) (hb : Below B W w) (hv : Below C V w) (g : Nat) (k0 : w.cell? ⟨g, 0, none⟩ = some (.slice A xs.length c)) (k1 : w.cell? ⟨g, 1, none⟩ = some (.slice L js.length cl)) (j : Nat) (hk : okS xs = true) (hjl : j < xs.length) : Calls Try.prog 74 #[.pointer (some ⟨g, 0, none⟩), .int .i64 (j : Int)] w fun e w' => e = .returned (.int .i64 (el xs j * 1000)) ∧ w = w' := by
  have hB := hs.bsz hb
  have hn := hs.len
  obtain ⟨E0, E1⟩ := okS_el hk hjl
  obtain ⟨b, off, rfl, hbs, hc⟩ := hs.at hb hjl
  have g0 : (0 : Int) ≤ (j : Int) := by omega
  have g2 : (j : Int) < (xs.length : Int) := by omega
  go_enter Try.func74, Try.ntmps74
  go_wp2
  go_ret
  exact ⟨rfl, rfl⟩
theorem beyond_m {A : Option Addr} {xs : List Int} {W : World} {B : Nat} (hs : Nums .u8 W B A xs) (h8 : b8 xs) (c : Nat) {L : Option Addr} {js : List (Int × Int)} {V : World} {C : Nat} (hl : Prs .i8 .i16 V C L js) (hj : j8 js) (cl : Nat) (w : World) (hb : Below B W w) (hv : Below C V w) (g : Nat) (k0 : w.cell? ⟨g, 0, none⟩ = some (.slice A xs.length c)) (k1 : w.cell? ⟨g, 1, none⟩ = some (.slice L js.length cl)) (m j : Nat) (q : Int) (hm : Hid (j + 1 = m)) (hk : okO xs js = true) (hjl : j < js.length) (hq : 0 ≤ q ∧ q < el xs j * 1000) : Calls Try.prog 77 #[.pointer (some ⟨g, 0, none⟩), .int .i64 (m : Int), .int .i64 q] w fun e w' => e = .returned (.int .i64 (byd (el xs j) (p1 js j) (p2 js j) q)) ∧ Below w.heap.size w w' := by
  have hm' := hm.out
  subst hm'
  have hh := beyond_any hs h8 c hl hj cl w hb hv g k0 k1 j q hk hjl hq
  rw [show (((j + 1 : Nat)) : Int) = (j : Int) + 1 from Int.natCast_succ j]
  exact hh
theorem l02Beyond_m {A : Option Addr} {xs : List Int} {W : World} {B : Nat} (hs : Nums .u8 W B A xs) (h8 : b8 xs) (c : Nat) {L : Option Addr} {js : List (Int × Int)} {V : World} {C : Nat} (hl : Prs .i8 .i16 V C L js) (hj : j8 js) (cl : Nat) (w : World) (hb : Below B W w) (hv : Below C V w) (g : Nat) (k0 : w.cell? ⟨g, 0, none⟩ = some (.slice A xs.length c)) (k1 : w.cell? ⟨g, 1, none⟩ = some (.slice L js.length cl)) (m j : Nat) (q : Int) (hm : Hid (j + 1 = m)) (hk : okO xs js = true) (hjl : j < js.length) (hq : 0 ≤ q ∧ q < el xs j * 1000) : Calls Try.prog 96 #[.pointer (some ⟨g, 0, none⟩), .int .i64 (m : Int), .int .i64 q] w fun e w' => e = .returned (.int .i64 (byd (el xs j) (p1 js j) (p2 js j) q)) ∧ Below w.heap.size w w' := by
  have hm' := hm.out
  subst hm'
  have hh := l02Beyond_any hs h8 c hl hj cl w hb hv g k0 k1 j q hk hjl hq
  rw [show (((j + 1 : Nat)) : Int) = (j : Int) + 1 from Int.natCast_succ j]
  exact hh
theorem pa0 (xs : List Int) (js : List (Int × Int)) (t : Int) : (#[Value.int .i64 0, Value.int .i64 0, Value.int .i64 0, Value.int .i64 0, Value.int .i64 0, Value.int .i64 0, Value.int .i64 0, Value.int .i64 0] : Array Value) = #[.int .i64 (paTo xs js t 0 0), .int .i64 (paTo xs js t 0 1), .int .i64 (paTo xs js t 0 2), .int .i64 (paTo xs js t 0 3), .int .i64 (paTo xs js t 0 4), .int .i64 (paTo xs js t 0 5), .int .i64 (paTo xs js t 0 6), .int .i64 (paTo xs js t 0 7)] := rfl
theorem pa1 (xs : List Int) (js : List (Int × Int)) (t : Int) : (#[Value.int .i64 (ptV xs js t 0), Value.int .i64 0, Value.int .i64 0, Value.int .i64 0, Value.int .i64 0, Value.int .i64 0, Value.int .i64 0, Value.int .i64 0] : Array Value) = #[.int .i64 (paTo xs js t 1 0), .int .i64 (paTo xs js t 1 1), .int .i64 (paTo xs js t 1 2), .int .i64 (paTo xs js t 1 3), .int .i64 (paTo xs js t 1 4), .int .i64 (paTo xs js t 1 5), .int .i64 (paTo xs js t 1 6), .int .i64 (paTo xs js t 1 7)] := rfl
set_option maxHeartbeats 4000000 in
theorem parts_any {A : Option Addr} {xs : List Int} {W : World} {B : Nat} (hs : Nums .u8 W B A xs) (h8 : b8 xs) (c : Nat) {L : Option Addr} {js : List (Int × Int)} {V : World} {C : Nat} (hl : Prs .i8 .i16 V C L js) (hj : j8 js) (cl : Nat) (w : World) (hb : Below B W w) (hv : Below C V w) (g : Nat) (k0 : w.cell? ⟨g, 0, none⟩ = some (.slice A xs.length c)) (k1 : w.cell? ⟨g, 1, none⟩ = some (.slice L js.length cl)) (t : Int) (hk : okO xs js = true) (ht : inR t 0 (szS xs * 1000 - 1) = true) : Calls Try.prog 108 #[.pointer (some ⟨g, 0, none⟩), .int .i64 t] w fun e w' => e = .returned (.agg #[.int .i64 (paTo xs js t xs.length 0), .int .i64 (paTo xs js t xs.length 1), .int .i64 (paTo xs js t xs.length 2), .int .i64 (paTo xs js t xs.length 3), .int .i64 (paTo xs js t xs.length 4), .int .i64 (paTo xs js t xs.length 5), .int .i64 (paTo xs js t xs.length 6), .int .i64 (paTo xs js t xs.length 7)]) ∧ Below w.heap.size w w' := by
  have hB := hs.bsz hb
  have hC := hl.bsz hv
  have hn := hs.len
  have hg : g < w.heap.size := block_lt_of_cell k0
  obtain ⟨s1, s2, s3⟩ := okO_parts hk
  obtain ⟨hl0, hl8⟩ := okS_len s1
  obtain ⟨⟨t0, t1⟩, t2, t3⟩ := turn_bd hk ht
  have t4 : t / 1000 ≤ 9223372036854775807 := by omega
  have HK := Lib.hid hk
  have HS := Lib.hid s1
  have HT := Lib.hid t2
  have HT4 := Lib.hid t4
  have HL := Lib.hid s2
  have h00 := okS_el s1 (k := 0) (by omega)
  rw [show ((0 : Nat) : Int) = 0 from rfl] at h00
  obtain ⟨z0, z1⟩ := h00
  have z2 : ¬ el xs 0 * 1000 = 0 := by omega
  have z3 : (el xs 0 * 1000 == 0) = false := beq_eq_false_iff_ne.2 z2
  have z4 : t.tmod (el xs 0 * 1000) = t % (el xs 0 * 1000) := Int.tmod_eq_emod_of_nonneg t0
  have HP : Hid (t % (el xs 0 * 1000) = ptV xs js t 0) := rfl
  clear s1 s2 s3 hk ht t2 t3 t4
  go_enter Try.func108, Try.ntmps108
  (go_wp2_with fail; refine (digits_any hs h8 _ _ rfl _ (by repeat' (first | (with_reducible first | assumption | exact Below.refl _ _ | refine Below.drew ?_ | refine Below.alloc ?_ ?_ _ | refine Below.setCell ?_ ?_ _ | refine below_setR ?_ ?_ _ | refine below_dn ?_ _ | refine Below.trans ?_ (below_mo _ _ _ ?_) | refine Below.trans ?_ (below_mq _ _ ?_) | exact Nat.le_refl _) | (simp; done) | (simp; omega) | omega)) HS.out _ HT.out HT4.out).mono ?_; rintro e w' ⟨rfl, hb_⟩; obtain ⟨os0, d0, rfl⟩ := mo_of hb_; clear hb_)
  go_wp2_with fail
  refine (whole_any hs h8 c hl hj cl _ (by repeat' (first | (with_reducible first | assumption | exact Below.refl _ _ | refine Below.drew ?_ | refine Below.alloc ?_ ?_ _ | refine Below.setCell ?_ ?_ _ | refine below_setR ?_ ?_ _ | refine below_dn ?_ _ | refine Below.trans ?_ (below_mo _ _ _ ?_) | refine Below.trans ?_ (below_mq _ _ ?_) | exact Nat.le_refl _) | (simp; done) | (simp; omega) | omega)) (by repeat' (first | (with_reducible first | assumption | exact Below.refl _ _ | refine Below.drew ?_ | refine Below.alloc ?_ ?_ _ | refine Below.setCell ?_ ?_ _ | refine below_setR ?_ ?_ _ | refine below_dn ?_ _ | refine Below.trans ?_ (below_mo _ _ _ ?_) | refine Below.trans ?_ (below_mq _ _ ?_) | exact Nat.le_refl _) | (simp; done) | (simp; omega) | omega)) _ (by first | assumption | (simp [go_sem]; done) | (simp [go_sem, *]; done) | (simp [go_sem]; rfl)) (by first | assumption | (simp [go_sem]; done) | (simp [go_sem, *]; done) | (simp [go_sem]; rfl)) 0 HS.out (by omega)).mono ?_
  rintro e w' ⟨rfl, rfl⟩
  go_wp2
  go_loopw [7] (fun i wr => ∃ (m : Nat) (os : Array Obj) (d : Nat), (1 ≤ m ∧ m ≤ xs.length) ∧ i = .int .i64 (m : Int) ∧ wr = mo (((mo (w.alloc (.cells #[.int .i64 0, .int .i64 0, .int .i64 0, .int .i64 0, .int .i64 0, .int .i64 0, .int .i64 0, .int .i64 0] 53)) os0 d0).alloc (.cells #[.int .i64 (paTo xs js t m 0), .int .i64 (paTo xs js t m 1), .int .i64 (paTo xs js t m 2), .int .i64 (paTo xs js t m 3), .int .i64 (paTo xs js t m 4), .int .i64 (paTo xs js t m 5), .int .i64 (paTo xs js t m 6), .int .i64 (paTo xs js t m 7)] 53)).alloc (.cells #[.int .u8 (dg xs (t / 1000) 0), .int .u8 (dg xs (t / 1000) 1), .int .u8 (dg xs (t / 1000) 2), .int .u8 (dg xs (t / 1000) 3), .int .u8 (dg xs (t / 1000) 4), .int .u8 (dg xs (t / 1000) 5), .int .u8 (dg xs (t / 1000) 6), .int .u8 (dg xs (t / 1000) 7)] 57)) os d) (fun i _ => xs.length - (intOf i).toNat)
  case atStart => exact ⟨1, #[], _, ⟨Nat.le_refl 1, hl0⟩, rfl, by rw [HP.out, pa1 xs js t]; exact (mo_nil _).symm⟩
  case round =>
    obtain ⟨m, os, d, ⟨hm1, hm2⟩, rfl, rfl⟩ := hrel
    by_cases hlt : m < xs.length
    · obtain ⟨j, hjm⟩ : ∃ j, j + 1 = m := ⟨m - 1, by omega⟩
      have hjl : j < js.length := by have := HL.out; omega
      have hq := ptV_bd (t := t) HK.out j (by omega)
      have HQ := Lib.hid hq
      obtain ⟨x0, x1⟩ := dg_bd (v := t / 1000) HS.out hlt
      have x2 := (okS_el HS.out hlt).2
      have hw := byd_bd (okS_el HS.out (k := j) (by omega)) ((okO_parts HK.out).2.2 j hjl) hq
      obtain ⟨y0, y1⟩ := hw
      have ef : IntKind.i64.wrap (dg xs (t / 1000) m) = dg xs (t / 1000) m := IntWalk.i64_in _ ⟨by omega, by omega⟩
      have em : IntKind.i64.wrap (dg xs (t / 1000) m * 1000) = dg xs (t / 1000) m * 1000 := IntWalk.i64_in _ ⟨by omega, by omega⟩
      have es : IntKind.i64.wrap (dg xs (t / 1000) m * 1000 + byd (el xs j) (p1 js j) (p2 js j) (ptV xs js t j)) = ptV xs js t m := (IntWalk.i64_in _ ⟨by omega, by omega⟩).trans (by rw [← hjm]; rfl)
      have e1 : IntKind.i64.wrap ((m : Int) - 1) = (j : Int) := (IntWalk.i64_in _ ⟨by omega, by omega⟩).trans (by omega)
      have g0 : (0 : Int) ≤ (m : Int) := by omega
      have g1 : (m : Int) < 8 := by omega
      have g2 : (j : Int) < 8 := by omega
      have g3 : m < 8 := by omega
      have g4 : j < 8 := by omega
      have g5 : (m : Int) < (xs.length : Int) := by omega
      have g6 : (0 : Int) ≤ (j : Int) := by omega
      have q1 := a8_at .u8 (dg xs (t / 1000)) (k := m) g3
      have q2 := a8_at .i64 (paTo xs js t m) (k := j) g4
      have q3 := a8_at .i64 (paTo xs js t m) (k := m) g3
      have ep : paTo xs js t m j = ptV xs js t j := by unfold paTo; rw [if_pos (by omega)]
      have HSt := Lib.hid ((a8_set .i64 (paTo xs js t m) (ptV xs js t m) (k := m) g3).trans (by rw [paTo_succ]))
      have HM := Lib.hid hjm
      rw [ep] at q2
      clear hq hjm
      go_wp2
      go_region_with (go_at_call 77; (with_reducible refine (beyond_m hs h8 c hl hj cl _ (by repeat' (first | (with_reducible first | assumption | exact Below.refl _ _ | refine Below.drew ?_ | refine Below.alloc ?_ ?_ _ | refine Below.setCell ?_ ?_ _ | refine below_setR ?_ ?_ _ | refine below_dn ?_ _ | refine Below.trans ?_ (below_mo _ _ _ ?_) | refine Below.trans ?_ (below_mq _ _ ?_) | exact Nat.le_refl _) | (simp; done) | (simp; omega) | omega)) (by repeat' (first | (with_reducible first | assumption | exact Below.refl _ _ | refine Below.drew ?_ | refine Below.alloc ?_ ?_ _ | refine Below.setCell ?_ ?_ _ | refine below_setR ?_ ?_ _ | refine below_dn ?_ _ | refine Below.trans ?_ (below_mo _ _ _ ?_) | refine Below.trans ?_ (below_mq _ _ ?_) | exact Nat.le_refl _) | (simp; done) | (simp; omega) | omega)) _ (by first | assumption | (simp [go_sem]; done) | (simp [go_sem, *]; done) | (simp [go_sem]; rfl)) (by first | assumption | (simp [go_sem]; done) | (simp [go_sem, *]; done) | (simp [go_sem]; rfl)) m j (ptV xs js t j) HM HK.out hjl HQ.out).mono ?_); rintro e w' ⟨rfl, hb_⟩; obtain ⟨os_, d_, rfl⟩ := mo_of hb_; clear hb_)
      all_goals go_wp2
      all_goals exact ⟨⟨m + 1, os ++ os_, d_, ⟨by omega, hlt⟩, (by rw [Int.natCast_succ]), by rw [HSt.out, mo_drew, mo_mo]⟩, by simp [intOf]; omega⟩
    · obtain rfl : m = xs.length := by omega
      go_wp2
      go_returns
      exact ⟨rfl, (by repeat' (first | (with_reducible first | assumption | exact Below.refl _ _ | refine Below.drew ?_ | refine Below.alloc ?_ ?_ _ | refine Below.setCell ?_ ?_ _ | refine below_setR ?_ ?_ _ | refine below_dn ?_ _ | refine Below.trans ?_ (below_mo _ _ _ ?_) | refine Below.trans ?_ (below_mq _ _ ?_) | exact Nat.le_refl _) | (simp; done) | (simp; omega) | omega))⟩
end Go.Proofs.Ytinjlofefmjolaa.X
