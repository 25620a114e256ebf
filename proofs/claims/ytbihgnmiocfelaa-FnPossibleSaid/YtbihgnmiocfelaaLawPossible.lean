/- The law FnPossible, walked. Conditions: none. -/
import Derived.Test.YtbihgnmiocfelaaKPossL
import Derived.Test.YtbihgnmiocfelaaKDrawA
import Derived.Test.YtbihgnmiocfelaaKAt
import Derived.Test.YtbihgnmiocfelaaKOpen
namespace Go.Proofs.Ytbihgnmiocfelaa.X
open Go.RowKit
set_option linter.unusedVariables false
set_option linter.unusedSimpArgs false
set_option maxRecDepth 100000
theorem sizeOfP_any {A : Option Addr} {xs : List Int} {W : World} {B : Nat} (hs : Nums .u8 W B A xs) (h8 : b8 xs) (n c : Nat) (hn : xs.length = n) (w : World) (hb : Below B W w) (hk : okS xs = true) : Calls Try.prog 38 #[.slice A n c] w fun e w' => e = .returned (.tuple #[.int .i64 (sizeTo xs n), .int .i64 0]) ∧ w = w' := by
  have HK := Lib.hid hk
  go_enter Try.func38, Try.ntmps38
  (go_wp2_with fail; refine (l01Ok_any hs h8 _ _ hn _ hb).mono ?_; rintro e w' ⟨rfl, rfl⟩; rw [HK.out])
  (go_wp2_with fail; refine (l01Size_any hs h8 _ _ hn _ hb).mono ?_; rintro e w' ⟨rfl, rfl⟩)
  go_wp2
  go_returns
  exact ⟨rfl, rfl⟩
theorem mul_bdP {a b A B : Int} (ha : 0 ≤ a ∧ a ≤ A) (hb : 0 ≤ b ∧ b ≤ B) : 0 ≤ a * b ∧ a * b ≤ A * B :=
  ⟨Int.mul_nonneg ha.1 hb.1, Int.mul_le_mul ha.2 hb.2 hb.1 (Int.le_trans ha.1 ha.2)⟩
set_option maxHeartbeats 16000000 in
theorem lawPossible (w : World) {A0 : Option Addr} {xs0 : List Int} (c0 : Nat) (hs0 : SL w w.heap.size 1 (fun x => [Value.int .u8 x]) A0 xs0) (hm0 : xs0.length ≤ maxLen) (h80 : b8 xs0) {A1 : Option Addr} {xs1 : List Int} (c1 : Nat) (hs1 : SL w w.heap.size 1 (fun x => [Value.int .u8 x]) A1 xs1) (hm1 : xs1.length ≤ maxLen) (h81 : b8 xs1) :
    Calls Try.prog 7 #[.slice A0 xs0.length c0, .slice A1 xs1.length c1] w fun e w' => e = .returned (.bool true) ∧ Below w.heap.size w w' := by
  by_cases hl : ¬ (xs0.length ≤ 3000 ∧ xs1.length ≤ 3000)
  · go_enter Try.func7, Try.ntmps7
    go_wp2_with (go_at_call 15; refine (a2Long_big _ _ _ _ hl _).mono ?_; rintro e w' ⟨rfl, rfl⟩)
    go_ret
    exact ⟨rfl, (by repeat' (first | (with_reducible first | assumption | exact Below.refl _ _ | refine Below.drew ?_ | refine Below.alloc ?_ ?_ _ | refine Below.setCell ?_ ?_ _ | refine below_setR ?_ ?_ _ | refine below_dn ?_ _ | refine Below.trans ?_ (below_mo _ _ _ ?_) | refine Below.trans ?_ (below_mq _ _ ?_) | exact Nat.le_refl _) | (simp; done) | (simp; omega) | omega))⟩
  obtain ⟨l0, l1⟩ : xs0.length ≤ 3000 ∧ xs1.length ≤ 3000 := by omega
  have ha0 : Nums .u8 w w.heap.size A0 xs0 := ⟨hs0, by omega, Nat.le_refl _⟩
  have ha1 : Nums .u8 w w.heap.size A1 xs1 := ⟨hs1, by omega, Nat.le_refl _⟩
  clear hs0 hs1 hm0 hm1 hl
  go_enter Try.func7, Try.ntmps7
  (go_wp2_with fail; refine (a2Long_ok _ _ _ _ l0 l1 _).mono ?_; rintro e w' ⟨rfl, rfl⟩)
  (go_wp2_with fail; refine (A2Log_any ha0 h80 c0 _ (by repeat' (first | (with_reducible first | assumption | exact Below.refl _ _ | refine Below.drew ?_ | refine Below.alloc ?_ ?_ _ | refine Below.setCell ?_ ?_ _ | refine below_setR ?_ ?_ _ | refine below_dn ?_ _ | refine Below.trans ?_ (below_mo _ _ _ ?_) | refine Below.trans ?_ (below_mq _ _ ?_) | exact Nat.le_refl _) | (simp; done) | (simp; omega) | omega))).mono ?_; rintro e w1 ⟨ys, bl, v, log, fl, fh, rfl, hys, hlog, hfl, hfh, hstk, hown, hb1⟩)
  obtain ⟨A, c, hv_, N⟩ := own_log hown (by have := hlog.len; omega)
  subst hv_
  have hz1 := hb1.size
  clear hown
  by_cases hlen : log.length < 2
  · have g0 : (log.length : Int) < 2 := by omega
    go_wp2
    go_ret
    exact ⟨rfl, (by repeat' (first | (with_reducible first | assumption | exact Below.refl _ _ | refine Below.drew ?_ | refine Below.alloc ?_ ?_ _ | refine Below.setCell ?_ ?_ _ | refine below_setR ?_ ?_ _ | refine below_dn ?_ _ | refine Below.trans ?_ (below_mo _ _ _ ?_) | refine Below.trans ?_ (below_mq _ _ ?_) | exact Nat.le_refl _) | (simp; done) | (simp; omega) | omega))⟩
  have g0 : ¬ (log.length : Int) < 2 := by omega
  have hl8 := hlog.len
  have bj := at2_bd xs1 0 ((log.length : Int) - 1) (by omega)
  obtain ⟨j, hj⟩ : ∃ j : Nat, (j : Int) = at2 xs1 0 ((log.length : Int) - 1) := ⟨(at2 xs1 0 ((log.length : Int) - 1)).toNat, by omega⟩
  have A10 := Lib.hid (fun W (hW : Below w.heap.size w W) => a2At_any ha1 h81 _ c1 rfl W hW 0 ((log.length : Int) - 1) (by omega) (by omega))
  rw [← hj] at A10 bj
  have r1 := hlog.rd j (by omega)
  have r2 := hlog.rd (j + 1) (by omega)
  have r3 := hlog.st j (by omega)
  have ej : ((j + 1 : Nat) : Int) = (j : Int) + 1 := by omega
  rw [ej] at r2
  obtain ⟨b, off, hA, hbs, x0, x1⟩ := N.at (w := w1) (Below.refl _ _) (k := j) (by omega)
  obtain ⟨b', off', hA', _, y0, y1⟩ := N.at (w := w1) (Below.refl _ _) (k := j + 1) (by omega)
  rw [hA] at hA'
  obtain ⟨rfl, rfl⟩ := addr_same hA'
  subst hA
  rw [ej] at y0 y1
  clear hA' ej hj N
  obtain ⟨ad, had⟩ : ∃ x, x = p1 log (j : Int) := ⟨_, rfl⟩
  obtain ⟨av, hav⟩ : ∃ x, x = p2 log (j : Int) := ⟨_, rfl⟩
  obtain ⟨bd, hbd⟩ : ∃ x, x = p1 log ((j : Int) + 1) := ⟨_, rfl⟩
  obtain ⟨bv, hbv⟩ : ∃ x, x = p2 log ((j : Int) + 1) := ⟨_, rfl⟩
  rw [← had, ← hav] at r1
  rw [← hbd, ← hbv] at r2
  rw [← had, ← hbd] at r3
  rw [← had] at x0
  rw [← hav] at x1
  rw [← hbd] at y0
  rw [← hbv] at y1
  have hP : Pair2 ys ad av bd bv fl fh := ⟨hys, r1, r2, r3, hfl, hfh⟩
  obtain ⟨k1, h8, k3, k4, k5, k6⟩ := hys.fine
  have NS := stk_nums hstk k3
  have KS := Lib.hid (fun W (hW : Below w1.heap.size w1 W) => sizeOfP_any NS h8 _ ys.length rfl W hW k1)
  rw [k4] at KS
  have K10 := Lib.hid (fun W (hW : Below w1.heap.size w1 W) => implCountsBetween_any NS h8 _ ys.length rfl W hW ad av bd bv fl fh)
  have K11 := Lib.hid (fun W (hW : Below w1.heap.size w1 W) => specCountsBetween_any NS h8 _ ys.length rfl W hW ad av bd bv fl fh)
  have K12 := Lib.hid (fun W (hW : Below w1.heap.size w1 W) => implSetBackBy_any NS h8 _ ys.length rfl W hW ad av bd bv fl fh)
  have K13 := Lib.hid (fun W (hW : Below w1.heap.size w1 W) => specSetBackBy_any NS h8 _ ys.length rfl W hW ad av bd bv fl fh)
  have K27 := Lib.hid (fun W (hW : Below w1.heap.size w1 W) => implRoundsBetween_any NS h8 _ ys.length rfl W hW ad av bd bv fl fh)
  obtain ⟨Z, hZ⟩ : ∃ Z, Z = szS ys := ⟨_, rfl⟩
  obtain ⟨D, hD⟩ : ∃ D, D = bd - ad := ⟨_, rfl⟩
  have dD : 1 ≤ D ∧ D ≤ 4 := by omega
  have m1 := mul_bdP (show 0 ≤ fl ∧ fl ≤ 5 by omega) (show 0 ≤ D ∧ D ≤ 4 by omega)
  have m2 := mul_bdP (show 0 ≤ fh ∧ fh ≤ 16 by omega) (show 0 ≤ D ∧ D ≤ 4 by omega)
  have hLH : fl * D ≤ fh * D := Int.mul_le_mul_of_nonneg_right hfh.1 (by omega)
  have hans := hP.ans
  rw [← hZ, ← hD] at hans
  rw [← hZ] at KS k5 k6 r1 r2
  obtain ⟨L, hL⟩ : ∃ L, L = fl * D := ⟨_, rfl⟩
  obtain ⟨H, hH⟩ : ∃ H, H = fh * D := ⟨_, rfl⟩
  rw [← hL, ← hH] at hans hLH
  rw [← hL] at m1
  rw [← hH] at m2
  have e1 : IntKind.i64.wrap ((log.length : Int) - 1) = (log.length : Int) - 1 := IntWalk.i64_in _ ⟨by omega, by omega⟩
  have e2' : IntKind.i64.wrap ((j : Int) + 1) = (j : Int) + 1 := IntWalk.i64_in _ ⟨by omega, by omega⟩
  have e3 : IntKind.i64.wrap (bd - ad) = D := (IntWalk.i64_in _ ⟨by omega, by omega⟩).trans hD.symm
  have e4 : IntKind.i64.wrap (fl * D) = L := by rw [← hL]; exact IntWalk.i64_in _ ⟨by omega, by omega⟩
  have e5 : IntKind.i64.wrap (fh * D) = H := by rw [← hH]; exact IntWalk.i64_in _ ⟨by omega, by omega⟩
  have i0 : (0 : Int) ≤ (j : Int) := by omega
  have i1 : (j : Int) < (log.length : Int) := by omega
  have i2 : (0 : Int) ≤ (j : Int) + 1 := by omega
  have i3 : (j : Int) + 1 < (log.length : Int) := by omega
  have i4 : j < log.length := by omega
  have i5 : j + 1 < log.length := by omega
  have z0 : ¬ Z = 0 := by omega
  have z1 : (Z == 0) = false := beq_eq_false_iff_ne.2 z0
  have BA : 0 ≤ av ∧ av < Z := r1.2
  have BB : 0 ≤ bv ∧ bv < Z := r2.2
  clear hP NS hL hH hD hZ had hav hbd hbv hys hfl hfh hstk r1 r2 r3 k1 k3 k4 dD bj hlog
  rcases hans with ⟨lo, hi, Y, q1, q2, q3⟩ | ⟨due, Y, q1, q2⟩
  · rw [q1] at K10 K11
    rw [q2] at K12 K13
    rw [q3] at K27
    clear q1 q2 q3
    obtain ⟨o1, o2⟩ := Y.l0
    obtain ⟨o3, o4⟩ := Y.h0
    have HLV := Lib.hid Y.lv
    have HHV := Lib.hid Y.hv
    have HNO := Lib.hid Y.no
    clear Y
    have n1 : ¬ (0 : Int) < 0 := by omega
    have n2 : ¬ Z ≤ 0 := by omega
    (go_wp2_with fail; refine (A10.out _ (by repeat' (first | (with_reducible first | assumption | exact Below.refl _ _ | refine Below.drew ?_ | refine Below.alloc ?_ ?_ _ | refine Below.setCell ?_ ?_ _ | refine below_setR ?_ ?_ _ | refine below_dn ?_ _ | refine Below.trans ?_ (below_mo _ _ _ ?_) | refine Below.trans ?_ (below_mq _ _ ?_) | exact Nat.le_refl _) | (simp; done) | (simp; omega) | omega))).mono ?_; rintro e w' ⟨rfl, rfl⟩)
    (go_wp2_with fail; refine (KS.out _ (by repeat' (first | (with_reducible first | assumption | exact Below.refl _ _ | refine Below.drew ?_ | refine Below.alloc ?_ ?_ _ | refine Below.setCell ?_ ?_ _ | refine below_setR ?_ ?_ _ | refine below_dn ?_ _ | refine Below.trans ?_ (below_mo _ _ _ ?_) | refine Below.trans ?_ (below_mq _ _ ?_) | exact Nat.le_refl _) | (simp; done) | (simp; omega) | omega))).mono ?_; rintro e w' ⟨rfl, rfl⟩)
    (go_wp2_with fail; refine (K10.out _ (by repeat' (first | (with_reducible first | assumption | exact Below.refl _ _ | refine Below.drew ?_ | refine Below.alloc ?_ ?_ _ | refine Below.setCell ?_ ?_ _ | refine below_setR ?_ ?_ _ | refine below_dn ?_ _ | refine Below.trans ?_ (below_mo _ _ _ ?_) | refine Below.trans ?_ (below_mq _ _ ?_) | exact Nat.le_refl _) | (simp; done) | (simp; omega) | omega))).mono ?_; rintro e w' ⟨rfl, hb_⟩; obtain ⟨os2, d2, rfl⟩ := mo_of hb_; clear hb_)
    (go_wp2_with fail; refine (K11.out _ (by repeat' (first | (with_reducible first | assumption | exact Below.refl _ _ | refine Below.drew ?_ | refine Below.alloc ?_ ?_ _ | refine Below.setCell ?_ ?_ _ | refine below_setR ?_ ?_ _ | refine below_dn ?_ _ | refine Below.trans ?_ (below_mo _ _ _ ?_) | refine Below.trans ?_ (below_mq _ _ ?_) | exact Nat.le_refl _) | (simp; done) | (simp; omega) | omega))).mono ?_; rintro e w' ⟨rfl, hb_⟩; obtain ⟨os3, d3, rfl⟩ := mo_of hb_; clear hb_)
    (go_wp2_with fail; refine (K12.out _ (by repeat' (first | (with_reducible first | assumption | exact Below.refl _ _ | refine Below.drew ?_ | refine Below.alloc ?_ ?_ _ | refine Below.setCell ?_ ?_ _ | refine below_setR ?_ ?_ _ | refine below_dn ?_ _ | refine Below.trans ?_ (below_mo _ _ _ ?_) | refine Below.trans ?_ (below_mq _ _ ?_) | exact Nat.le_refl _) | (simp; done) | (simp; omega) | omega))).mono ?_; rintro e w' ⟨rfl, hb_⟩; obtain ⟨os4, d4, rfl⟩ := mo_of hb_; clear hb_)
    (go_wp2_with fail; refine (K13.out _ (by repeat' (first | (with_reducible first | assumption | exact Below.refl _ _ | refine Below.drew ?_ | refine Below.alloc ?_ ?_ _ | refine Below.setCell ?_ ?_ _ | refine below_setR ?_ ?_ _ | refine below_dn ?_ _ | refine Below.trans ?_ (below_mo _ _ _ ?_) | refine Below.trans ?_ (below_mq _ _ ?_) | exact Nat.le_refl _) | (simp; done) | (simp; omega) | omega))).mono ?_; rintro e w' ⟨rfl, hb_⟩; obtain ⟨os5, d5, rfl⟩ := mo_of hb_; clear hb_)
    go_wp2
    refine wp_at (fun u => u.heap[w1.heap.size]? = some (.cells #[.int .i64 fl, .int .i64 fh] 62) ∧ u.heap[w1.heap.size + 1]? = some (.cells #[.int .i64 ad, .int .i64 av] 66) ∧ u.heap[w1.heap.size + 1 + 1]? = some (.cells #[.int .i64 bd, .int .i64 bv] 66) ∧ Below w1.heap.size w1 u) _ ⟨(by repeat' (first | (with_reducible assumption) | (with_reducible refine heap_mo_at ?_) | (with_reducible refine heap_mq_at ?_) | (with_reducible refine heap_drew_at ?_) | ((with_reducible refine heap_alloc_at ?_); first | rfl | (simp; done)) | (with_reducible refine heap_alloc_past ?_) | ((with_reducible apply heap_set_at); (first | rfl | (simp; done))) | ((with_reducible apply heap_set_past); (first | (simp; done) | (simp; omega) | omega)) | ((with_reducible apply heap_setC_past); (first | (simp; done) | (simp; omega) | omega)) | fail)), (by repeat' (first | (with_reducible assumption) | (with_reducible refine heap_mo_at ?_) | (with_reducible refine heap_mq_at ?_) | (with_reducible refine heap_drew_at ?_) | ((with_reducible refine heap_alloc_at ?_); first | rfl | (simp; done)) | (with_reducible refine heap_alloc_past ?_) | ((with_reducible apply heap_set_at); (first | rfl | (simp; done))) | ((with_reducible apply heap_set_past); (first | (simp; done) | (simp; omega) | omega)) | ((with_reducible apply heap_setC_past); (first | (simp; done) | (simp; omega) | omega)) | fail)), (by repeat' (first | (with_reducible assumption) | (with_reducible refine heap_mo_at ?_) | (with_reducible refine heap_mq_at ?_) | (with_reducible refine heap_drew_at ?_) | ((with_reducible refine heap_alloc_at ?_); first | rfl | (simp; done)) | (with_reducible refine heap_alloc_past ?_) | ((with_reducible apply heap_set_at); (first | rfl | (simp; done))) | ((with_reducible apply heap_set_past); (first | (simp; done) | (simp; omega) | omega)) | ((with_reducible apply heap_setC_past); (first | (simp; done) | (simp; omega) | omega)) | fail)), (by repeat' (first | (with_reducible first | assumption | exact Below.refl _ _ | refine Below.drew ?_ | refine Below.alloc ?_ ?_ _ | refine Below.setCell ?_ ?_ _ | refine below_setR ?_ ?_ _ | refine below_dn ?_ _ | refine Below.trans ?_ (below_mo _ _ _ ?_) | refine Below.trans ?_ (below_mq _ _ ?_) | exact Nat.le_refl _) | (simp; done) | (simp; omega) | omega))⟩ ?_
    rintro U ⟨a0, a1, a2, hU⟩
    obtain ⟨s0, f0, f1, _, _⟩ := twoR a0
    obtain ⟨s1, f2, f3, _, _⟩ := twoR a1
    obtain ⟨s2, f4, f5, _, _⟩ := twoR a2
    have hwU : Below w.heap.size w U := hb1.trans (hU.mono hz1)
    have hUs := hU.size
    clear a0 a1 a2
    clear K10 K11 K12 K13 KS A10 e1 e2' n1 n2
    go_loopw [21, 24, 25] (fun a s i wr => a = .int .i64 0 ∧ (∃ t : Bool, s = .bool t) ∧ ∃ (k : Int) (os : Array Obj) (dn : Nat), i = .int .i64 k ∧ (L ≤ k ∧ k ≤ lo) ∧ wr = mo U os dn) (fun _ _ i _ => (lo - intOf i).toNat)
    case atStart => exact ⟨rfl, ⟨false, rfl⟩, L, #[], _, rfl, ⟨Int.le_refl _, o1⟩, (mo_nil _).symm⟩
    case round =>
      obtain ⟨rfl, ⟨t, rfl⟩, k, os, dn, rfl, ⟨k1, k2⟩, rfl⟩ := hrel
      have g1 : k ≤ H := by omega
      have g2 : ¬ k < L := by omega
      obtain ⟨m, hm⟩ : ∃ m, m = (av + k) % Z := ⟨_, rfl⟩
      have m3 := Int.emod_nonneg (av + k) z0
      have m4 := Int.emod_lt_of_pos (av + k) (show 0 < Z by omega)
      rw [← hm] at m3 m4
      have e6 : (av + k).tmod Z = m := (Int.tmod_eq_emod_of_nonneg (by omega)).trans hm.symm
      have e7 : IntKind.i64.wrap m = m := IntWalk.i64_in _ ⟨by omega, by omega⟩
      have e8 : IntKind.i64.wrap (av + k) = av + k := IntWalk.i64_in _ ⟨by omega, by omega⟩
      have e9 : IntKind.i64.wrap bv = bv := IntWalk.i64_in _ ⟨by omega, by omega⟩
      have e10 : bv.tmod Z = bv := (Int.tmod_eq_emod_of_nonneg (by omega)).trans (Int.emod_eq_of_lt BB.1 BB.2)
      have e11 : IntKind.i64.wrap (k + 1) = k + 1 := IntWalk.i64_in _ ⟨by omega, by omega⟩
      by_cases hk : k = lo
      · subst hk
        have hmb : m = bv := hm.trans HLV.out
        obtain ⟨q1, hq1⟩ : ∃ q, q = (av + k) / Z := ⟨_, rfl⟩
        obtain ⟨q2, hq2⟩ : ∃ q, q = (av + hi) / Z := ⟨_, rfl⟩
        rw [← hq1, ← hq2] at K27
        have v0 := Int.ediv_nonneg (show 0 ≤ av + k by omega) (show 0 ≤ Z by omega)
        have v1 := Int.ediv_le_self Z (show 0 ≤ av + k by omega)
        have v2 := Int.ediv_nonneg (show 0 ≤ av + hi by omega) (show 0 ≤ Z by omega)
        have v3 := Int.ediv_le_self Z (show 0 ≤ av + hi by omega)
        have w0 : IntKind.i64.wrap (av + hi) = av + hi := IntWalk.i64_in _ ⟨by omega, by omega⟩
        have w2 : (av + hi).tmod Z = bv := (Int.tmod_eq_emod_of_nonneg (by omega)).trans HHV.out
        have w3 : (av + k).tdiv Z = q1 := (Int.tdiv_eq_ediv_of_nonneg (by omega)).trans hq1.symm
        have w4 : (av + hi).tdiv Z = q2 := (Int.tdiv_eq_ediv_of_nonneg (by omega)).trans hq2.symm
        rw [← hq1] at v0 v1
        rw [← hq2] at v2 v3
        have w5 : IntKind.i64.wrap q1 = q1 := IntWalk.i64_in _ ⟨by omega, by omega⟩
        have w6 : IntKind.i64.wrap q2 = q2 := IntWalk.i64_in _ ⟨by omega, by omega⟩
        have g3 : ¬ k < k := by omega
        have g4 : ¬ hi < k := by omega
        clear hm m3 m4 HNO hq1 hq2 v0 v1 v2 v3
        subst hmb
        cases t
        all_goals
          go_wp2
          go_quiet (fail)
          go_wp2
          go_quiet (fail)
          (go_wp2_with fail; refine (K27.out _ (by repeat' (first | (with_reducible first | assumption | exact Below.refl _ _ | refine Below.drew ?_ | refine Below.alloc ?_ ?_ _ | refine Below.setCell ?_ ?_ _ | refine below_setR ?_ ?_ _ | refine below_dn ?_ _ | refine Below.trans ?_ (below_mo _ _ _ ?_) | refine Below.trans ?_ (below_mq _ _ ?_) | exact Nat.le_refl _) | (simp; done) | (simp; omega) | omega))).mono ?_; rintro e w' ⟨rfl, hb_⟩; obtain ⟨os6, d6, rfl⟩ := mo_of hb_; clear hb_)
          go_wp2
          go_quiet (fail)
          go_wp2
          go_ret
          exact ⟨rfl, (by repeat' (first | (with_reducible first | assumption | exact Below.refl _ _ | refine Below.drew ?_ | refine Below.alloc ?_ ?_ _ | refine Below.setCell ?_ ?_ _ | refine below_setR ?_ ?_ _ | refine below_dn ?_ _ | refine Below.trans ?_ (below_mo _ _ _ ?_) | refine Below.trans ?_ (below_mq _ _ ?_) | exact Nat.le_refl _) | (simp; done) | (simp; omega) | omega))⟩
      · have hne := HNO.out k k1 (by omega)
        rw [← hm] at hne
        have l1 : (m == bv) = false := beq_eq_false_iff_ne.2 hne
        clear hm m3 m4
        cases t
        all_goals
          go_wp2
          go_quiet (fail)
          go_wp2
          go_quiet (fail)
          go_wp2
          exact ⟨⟨rfl, ⟨_, rfl⟩, k + 1, _, _, rfl, ⟨by omega, by omega⟩, by first | rfl | exact mo_drewN _ _ _ _⟩, by simp [intOf]; omega⟩
  · rw [q1] at K10 K11
    rw [q2] at K12 K13
    clear q1 q2 K27
    have d0 := Y.d0
    have n1 : ¬ due < 0 := by omega
    have n2 : ¬ Z ≤ due := by omega
    have HE := Lib.hid Y.eq
    have HN := Lib.hid Y.ne
    clear Y
    (go_wp2_with fail; refine (A10.out _ (by repeat' (first | (with_reducible first | assumption | exact Below.refl _ _ | refine Below.drew ?_ | refine Below.alloc ?_ ?_ _ | refine Below.setCell ?_ ?_ _ | refine below_setR ?_ ?_ _ | refine below_dn ?_ _ | refine Below.trans ?_ (below_mo _ _ _ ?_) | refine Below.trans ?_ (below_mq _ _ ?_) | exact Nat.le_refl _) | (simp; done) | (simp; omega) | omega))).mono ?_; rintro e w' ⟨rfl, rfl⟩)
    (go_wp2_with fail; refine (KS.out _ (by repeat' (first | (with_reducible first | assumption | exact Below.refl _ _ | refine Below.drew ?_ | refine Below.alloc ?_ ?_ _ | refine Below.setCell ?_ ?_ _ | refine below_setR ?_ ?_ _ | refine below_dn ?_ _ | refine Below.trans ?_ (below_mo _ _ _ ?_) | refine Below.trans ?_ (below_mq _ _ ?_) | exact Nat.le_refl _) | (simp; done) | (simp; omega) | omega))).mono ?_; rintro e w' ⟨rfl, rfl⟩)
    (go_wp2_with fail; refine (K10.out _ (by repeat' (first | (with_reducible first | assumption | exact Below.refl _ _ | refine Below.drew ?_ | refine Below.alloc ?_ ?_ _ | refine Below.setCell ?_ ?_ _ | refine below_setR ?_ ?_ _ | refine below_dn ?_ _ | refine Below.trans ?_ (below_mo _ _ _ ?_) | refine Below.trans ?_ (below_mq _ _ ?_) | exact Nat.le_refl _) | (simp; done) | (simp; omega) | omega))).mono ?_; rintro e w' ⟨rfl, hb_⟩; obtain ⟨os2, d2, rfl⟩ := mo_of hb_; clear hb_)
    (go_wp2_with fail; refine (K11.out _ (by repeat' (first | (with_reducible first | assumption | exact Below.refl _ _ | refine Below.drew ?_ | refine Below.alloc ?_ ?_ _ | refine Below.setCell ?_ ?_ _ | refine below_setR ?_ ?_ _ | refine below_dn ?_ _ | refine Below.trans ?_ (below_mo _ _ _ ?_) | refine Below.trans ?_ (below_mq _ _ ?_) | exact Nat.le_refl _) | (simp; done) | (simp; omega) | omega))).mono ?_; rintro e w' ⟨rfl, hb_⟩; obtain ⟨os3, d3, rfl⟩ := mo_of hb_; clear hb_)
    (go_wp2_with fail; refine (K12.out _ (by repeat' (first | (with_reducible first | assumption | exact Below.refl _ _ | refine Below.drew ?_ | refine Below.alloc ?_ ?_ _ | refine Below.setCell ?_ ?_ _ | refine below_setR ?_ ?_ _ | refine below_dn ?_ _ | refine Below.trans ?_ (below_mo _ _ _ ?_) | refine Below.trans ?_ (below_mq _ _ ?_) | exact Nat.le_refl _) | (simp; done) | (simp; omega) | omega))).mono ?_; rintro e w' ⟨rfl, hb_⟩; obtain ⟨os4, d4, rfl⟩ := mo_of hb_; clear hb_)
    (go_wp2_with fail; refine (K13.out _ (by repeat' (first | (with_reducible first | assumption | exact Below.refl _ _ | refine Below.drew ?_ | refine Below.alloc ?_ ?_ _ | refine Below.setCell ?_ ?_ _ | refine below_setR ?_ ?_ _ | refine below_dn ?_ _ | refine Below.trans ?_ (below_mo _ _ _ ?_) | refine Below.trans ?_ (below_mq _ _ ?_) | exact Nat.le_refl _) | (simp; done) | (simp; omega) | omega))).mono ?_; rintro e w' ⟨rfl, hb_⟩; obtain ⟨os5, d5, rfl⟩ := mo_of hb_; clear hb_)
    go_wp2
    refine wp_at (fun u => u.heap[w1.heap.size]? = some (.cells #[.int .i64 fl, .int .i64 fh] 62) ∧ u.heap[w1.heap.size + 1]? = some (.cells #[.int .i64 ad, .int .i64 av] 66) ∧ u.heap[w1.heap.size + 1 + 1]? = some (.cells #[.int .i64 bd, .int .i64 bv] 66) ∧ Below w1.heap.size w1 u) _ ⟨(by repeat' (first | (with_reducible assumption) | (with_reducible refine heap_mo_at ?_) | (with_reducible refine heap_mq_at ?_) | (with_reducible refine heap_drew_at ?_) | ((with_reducible refine heap_alloc_at ?_); first | rfl | (simp; done)) | (with_reducible refine heap_alloc_past ?_) | ((with_reducible apply heap_set_at); (first | rfl | (simp; done))) | ((with_reducible apply heap_set_past); (first | (simp; done) | (simp; omega) | omega)) | ((with_reducible apply heap_setC_past); (first | (simp; done) | (simp; omega) | omega)) | fail)), (by repeat' (first | (with_reducible assumption) | (with_reducible refine heap_mo_at ?_) | (with_reducible refine heap_mq_at ?_) | (with_reducible refine heap_drew_at ?_) | ((with_reducible refine heap_alloc_at ?_); first | rfl | (simp; done)) | (with_reducible refine heap_alloc_past ?_) | ((with_reducible apply heap_set_at); (first | rfl | (simp; done))) | ((with_reducible apply heap_set_past); (first | (simp; done) | (simp; omega) | omega)) | ((with_reducible apply heap_setC_past); (first | (simp; done) | (simp; omega) | omega)) | fail)), (by repeat' (first | (with_reducible assumption) | (with_reducible refine heap_mo_at ?_) | (with_reducible refine heap_mq_at ?_) | (with_reducible refine heap_drew_at ?_) | ((with_reducible refine heap_alloc_at ?_); first | rfl | (simp; done)) | (with_reducible refine heap_alloc_past ?_) | ((with_reducible apply heap_set_at); (first | rfl | (simp; done))) | ((with_reducible apply heap_set_past); (first | (simp; done) | (simp; omega) | omega)) | ((with_reducible apply heap_setC_past); (first | (simp; done) | (simp; omega) | omega)) | fail)), (by repeat' (first | (with_reducible first | assumption | exact Below.refl _ _ | refine Below.drew ?_ | refine Below.alloc ?_ ?_ _ | refine Below.setCell ?_ ?_ _ | refine below_setR ?_ ?_ _ | refine below_dn ?_ _ | refine Below.trans ?_ (below_mo _ _ _ ?_) | refine Below.trans ?_ (below_mq _ _ ?_) | exact Nat.le_refl _) | (simp; done) | (simp; omega) | omega))⟩ ?_
    rintro U ⟨a0, a1, a2, hU⟩
    obtain ⟨s0, f0, f1, _, _⟩ := twoR a0
    obtain ⟨s1, f2, f3, _, _⟩ := twoR a1
    obtain ⟨s2, f4, f5, _, _⟩ := twoR a2
    have hwU : Below w.heap.size w U := hb1.trans (hU.mono hz1)
    have hUs := hU.size
    clear a0 a1 a2
    clear K10 K11 K12 K13 KS A10 e1 e2'
    go_loopw [21, 24, 25] (fun a s i wr => a = .int .i64 due ∧ (∃ t : Bool, s = .bool t) ∧ i = .int .i64 L ∧ ∃ (os : Array Obj) (dn : Nat), wr = mo U os dn) (fun _ _ _ _ => 0)
    case atStart => exact ⟨rfl, ⟨false, rfl⟩, rfl, #[], _, (mo_nil _).symm⟩
    case round =>
      obtain ⟨rfl, ⟨t, rfl⟩, rfl, os, dn, rfl⟩ := hrel
      obtain ⟨m, hm⟩ : ∃ m, m = (av + L) % Z := ⟨_, rfl⟩
      have m3 := Int.emod_nonneg (av + L) z0
      have m4 := Int.emod_lt_of_pos (av + L) (show 0 < Z by omega)
      have hne := HN.out
      have heq := HE.out
      rw [← hm] at m3 m4 hne heq
      have e6 : (av + L).tmod Z = m := (Int.tmod_eq_emod_of_nonneg (by omega)).trans hm.symm
      have e7 : IntKind.i64.wrap m = m := IntWalk.i64_in _ ⟨by omega, by omega⟩
      have e8 : IntKind.i64.wrap (av + L) = av + L := IntWalk.i64_in _ ⟨by omega, by omega⟩
      have e9 : IntKind.i64.wrap (bv + due) = bv + due := IntWalk.i64_in _ ⟨by omega, by omega⟩
      have e10 : (bv + due).tmod Z = m := (Int.tmod_eq_emod_of_nonneg (by omega)).trans heq.symm
      have l1 : (m == bv) = false := beq_eq_false_iff_ne.2 hne
      clear hm m3 m4 heq HN HE
      cases t
      all_goals
        go_wp2
        go_quiet (fail)
        go_wp2
        go_quiet (fail)
        go_wp2
        go_ret
        exact ⟨rfl, (by repeat' (first | (with_reducible first | assumption | exact Below.refl _ _ | refine Below.drew ?_ | refine Below.alloc ?_ ?_ _ | refine Below.setCell ?_ ?_ _ | refine below_setR ?_ ?_ _ | refine below_dn ?_ _ | refine Below.trans ?_ (below_mo _ _ _ ?_) | refine Below.trans ?_ (below_mq _ _ ?_) | exact Nat.le_refl _) | (simp; done) | (simp; omega) | omega))⟩
end Go.Proofs.Ytbihgnmiocfelaa.X
