/- The law FnEyes, walked. Conditions: none. -/
import Derived.Test.YtinjlofefmjolaaKEyeZ
import Derived.Test.YtinjlofefmjolaaKEyeT
import Derived.Test.YtinjlofefmjolaaKAt
import Derived.Test.YtinjlofefmjolaaKOpen
namespace Go.Proofs.Ytinjlofefmjolaa.X
open Go.RowKit
set_option linter.unusedVariables false
set_option linter.unusedSimpArgs false
set_option maxRecDepth 100000
set_option maxHeartbeats 16000000 in
theorem lawEyes (w : World) {A0 : Option Addr} {xs0 : List Int} (c0 : Nat) (hs0 : SL w w.heap.size 1 (fun x => [Value.int .u8 x]) A0 xs0) (hm0 : xs0.length ≤ maxLen) (h80 : b8 xs0) {A1 : Option Addr} {xs1 : List Int} (c1 : Nat) (hs1 : SL w w.heap.size 1 (fun x => [Value.int .u8 x]) A1 xs1) (hm1 : xs1.length ≤ maxLen) (h81 : b8 xs1) :
    Calls Try.prog 4 #[.slice A0 xs0.length c0, .slice A1 xs1.length c1] w fun e w' => e = .returned (.bool true) ∧ Below w.heap.size w w' := by
  by_cases hl : ¬ (xs0.length ≤ 3000 ∧ xs1.length ≤ 3000)
  · go_enter Try.func4, Try.ntmps4
    go_wp2_with (go_at_call 24; refine (a2Long_big _ _ _ _ hl _).mono ?_; rintro e w' ⟨rfl, rfl⟩)
    go_ret
    exact ⟨rfl, (by repeat' (first | (with_reducible first | assumption | exact Below.refl _ _ | refine Below.drew ?_ | refine Below.alloc ?_ ?_ _ | refine Below.setCell ?_ ?_ _ | refine below_setR ?_ ?_ _ | refine below_dn ?_ _ | refine Below.trans ?_ (below_mo _ _ _ ?_) | refine Below.trans ?_ (below_mq _ _ ?_) | exact Nat.le_refl _) | (simp; done) | (simp; omega) | omega))⟩
  obtain ⟨l0, l1⟩ : xs0.length ≤ 3000 ∧ xs1.length ≤ 3000 := by omega
  have ha0 : Nums .u8 w w.heap.size A0 xs0 := ⟨hs0, by omega, Nat.le_refl _⟩
  have ha1 : Nums .u8 w w.heap.size A1 xs1 := ⟨hs1, by omega, Nat.le_refl _⟩
  clear hs0 hs1 hm0 hm1 hl
  go_enter Try.func4, Try.ntmps4
  (go_wp2_with fail; refine (a2Long_ok _ _ _ _ l0 l1 _).mono ?_; rintro e w' ⟨rfl, rfl⟩)
  (go_wp2_with fail; refine (A2Motion_any ha0 h80 c0 _ (by repeat' (first | (with_reducible first | assumption | exact Below.refl _ _ | refine Below.drew ?_ | refine Below.alloc ?_ ?_ _ | refine Below.setCell ?_ ?_ _ | refine below_setR ?_ ?_ _ | refine below_dn ?_ _ | refine Below.trans ?_ (below_mo _ _ _ ?_) | refine Below.trans ?_ (below_mq _ _ ?_) | exact Nat.le_refl _) | (simp; done) | (simp; omega) | omega))).mono ?_; rintro e w1 ⟨ys, js, S, L, c, cl, rfl, hl, hbas, hok, NS, NJ, hb1⟩)
  have hz1 := hb1.size
  have y8 := bases_8 hbas
  have j8 := j8_ok hok
  have HK := Lib.hid hok
  have HBS := Lib.hid hbas
  have hSz := szS_bd (okO_parts hok).1
  clear hbas
  (go_wp2_with fail; refine (A2Turn_any NS y8 c NJ j8 cl _ (by repeat' (first | (with_reducible first | assumption | exact Below.refl _ _ | refine Below.drew ?_ | refine Below.alloc ?_ ?_ _ | refine Below.setCell ?_ ?_ _ | refine below_setR ?_ ?_ _ | refine below_dn ?_ _ | refine Below.trans ?_ (below_mo _ _ _ ?_) | refine Below.trans ?_ (below_mq _ _ ?_) | exact Nat.le_refl _) | (simp; done) | (simp; omega) | omega)) (by repeat' (first | (with_reducible first | assumption | exact Below.refl _ _ | refine Below.drew ?_ | refine Below.alloc ?_ ?_ _ | refine Below.setCell ?_ ?_ _ | refine below_setR ?_ ?_ _ | refine below_dn ?_ _ | refine Below.trans ?_ (below_mo _ _ _ ?_) | refine Below.trans ?_ (below_mq _ _ ?_) | exact Nat.le_refl _) | (simp; done) | (simp; omega) | omega)) ha1 h81 c1 (by repeat' (first | (with_reducible first | assumption | exact Below.refl _ _ | refine Below.drew ?_ | refine Below.alloc ?_ ?_ _ | refine Below.setCell ?_ ?_ _ | refine below_setR ?_ ?_ _ | refine below_dn ?_ _ | refine Below.trans ?_ (below_mo _ _ _ ?_) | refine Below.trans ?_ (below_mq _ _ ?_) | exact Nat.le_refl _) | (simp; done) | (simp; omega) | omega)) HK.out HBS.out hl).mono ?_; rintro e w2 ⟨t, rfl, ht, hb2⟩)
  obtain ⟨os2, d2, rfl⟩ := mo_of hb2
  clear hb2
  have hin := Lib.hid (show inR t 0 (szS ys * 1000 - 1) = true from inR_t.2 ⟨ht.1, by omega⟩)
  have KP := Lib.hid (fun W h1 h2 => specParts_any NS y8 c NJ j8 cl W h1 h2 t)
  rw [paV_0 (askO_0 hok hin.out)] at KP
  have KR := Lib.hid (fun W h1 h2 => specRight_any NS y8 c NJ j8 cl W h1 h2 t)
  rw [rdV_0 (askO_0 hok hin.out)] at KR
  obtain ⟨dd, hdd⟩ : ∃ f, dg ys (t / 1000) = f := ⟨_, rfl⟩
  rw [hdd] at KR
  obtain ⟨p0, hp0⟩ : ∃ f, paTo ys js t ys.length = f := ⟨_, rfl⟩
  rw [hp0] at KP
  have HP0 : Hid (okP2 ys p0) := by rw [← hp0]; exact paTo_ok t HK.out
  have HQ0 : Hid (bmpd ys js t 1 p0) := by rw [← hp0]; exact bmpd_0 js t hl.1
  have HDD := Lib.hid hdd
  clear hp0 hdd hok
  (go_wp2_with fail; refine (KP.out _ (by repeat' (first | (with_reducible first | assumption | exact Below.refl _ _ | refine Below.drew ?_ | refine Below.alloc ?_ ?_ _ | refine Below.setCell ?_ ?_ _ | refine below_setR ?_ ?_ _ | refine below_dn ?_ _ | refine Below.trans ?_ (below_mo _ _ _ ?_) | refine Below.trans ?_ (below_mq _ _ ?_) | exact Nat.le_refl _) | (simp; done) | (simp; omega) | omega)) (by repeat' (first | (with_reducible first | assumption | exact Below.refl _ _ | refine Below.drew ?_ | refine Below.alloc ?_ ?_ _ | refine Below.setCell ?_ ?_ _ | refine below_setR ?_ ?_ _ | refine below_dn ?_ _ | refine Below.trans ?_ (below_mo _ _ _ ?_) | refine Below.trans ?_ (below_mq _ _ ?_) | exact Nat.le_refl _) | (simp; done) | (simp; omega) | omega))).mono ?_; rintro e w' ⟨rfl, hb_⟩; obtain ⟨os3, d3, rfl⟩ := mo_of hb_; clear hb_)
  (go_wp2_with fail; refine (KR.out _ (by repeat' (first | (with_reducible first | assumption | exact Below.refl _ _ | refine Below.drew ?_ | refine Below.alloc ?_ ?_ _ | refine Below.setCell ?_ ?_ _ | refine below_setR ?_ ?_ _ | refine below_dn ?_ _ | refine Below.trans ?_ (below_mo _ _ _ ?_) | refine Below.trans ?_ (below_mq _ _ ?_) | exact Nat.le_refl _) | (simp; done) | (simp; omega) | omega)) (by repeat' (first | (with_reducible first | assumption | exact Below.refl _ _ | refine Below.drew ?_ | refine Below.alloc ?_ ?_ _ | refine Below.setCell ?_ ?_ _ | refine below_setR ?_ ?_ _ | refine below_dn ?_ _ | refine Below.trans ?_ (below_mo _ _ _ ?_) | refine Below.trans ?_ (below_mq _ _ ?_) | exact Nat.le_refl _) | (simp; done) | (simp; omega) | omega))).mono ?_; rintro e w' ⟨rfl, hb_⟩; obtain ⟨os4, d4, rfl⟩ := mo_of hb_; clear hb_)
  go_upto_region 9 with (fail)
  refine wp_at (fun u => u.heap[w1.heap.size]? = some (.cells #[.slice S ys.length c, .slice L js.length cl] 49) ∧ u.heap[w1.heap.size + 1 + os2.size + os3.size]? = some (.cells #[.int .i64 (p0 0), .int .i64 (p0 1), .int .i64 (p0 2), .int .i64 (p0 3), .int .i64 (p0 4), .int .i64 (p0 5), .int .i64 (p0 6), .int .i64 (p0 7)] 53) ∧ u.heap[w1.heap.size + 1 + os2.size + os3.size + 1 + os4.size]? = some (.cells #[.int .u8 (dd 0), .int .u8 (dd 1), .int .u8 (dd 2), .int .u8 (dd 3), .int .u8 (dd 4), .int .u8 (dd 5), .int .u8 (dd 6), .int .u8 (dd 7)] 57) ∧ Below w1.heap.size w1 u) _ ⟨(by repeat' (first | (with_reducible assumption) | (with_reducible refine heap_mo_at ?_) | (with_reducible refine heap_mq_at ?_) | (with_reducible refine heap_drew_at ?_) | ((with_reducible refine heap_alloc_at ?_); first | rfl | (simp; done)) | (with_reducible refine heap_alloc_past ?_) | ((with_reducible apply heap_set_at); (first | rfl | (simp; done))) | ((with_reducible apply heap_set_past); (first | (simp; done) | (simp; omega) | omega)) | ((with_reducible apply heap_setC_past); (first | (simp; done) | (simp; omega) | omega)) | fail)), (by repeat' (first | (with_reducible assumption) | (with_reducible refine heap_mo_at ?_) | (with_reducible refine heap_mq_at ?_) | (with_reducible refine heap_drew_at ?_) | ((with_reducible refine heap_alloc_at ?_); first | rfl | (simp; done)) | (with_reducible refine heap_alloc_past ?_) | ((with_reducible apply heap_set_at); (first | rfl | (simp; done))) | ((with_reducible apply heap_set_past); (first | (simp; done) | (simp; omega) | omega)) | ((with_reducible apply heap_setC_past); (first | (simp; done) | (simp; omega) | omega)) | fail)), (by repeat' (first | (with_reducible assumption) | (with_reducible refine heap_mo_at ?_) | (with_reducible refine heap_mq_at ?_) | (with_reducible refine heap_drew_at ?_) | ((with_reducible refine heap_alloc_at ?_); first | rfl | (simp; done)) | (with_reducible refine heap_alloc_past ?_) | ((with_reducible apply heap_set_at); (first | rfl | (simp; done))) | ((with_reducible apply heap_set_past); (first | (simp; done) | (simp; omega) | omega)) | ((with_reducible apply heap_setC_past); (first | (simp; done) | (simp; omega) | omega)) | fail)), (by repeat' (first | (with_reducible first | assumption | exact Below.refl _ _ | refine Below.drew ?_ | refine Below.alloc ?_ ?_ _ | refine Below.setCell ?_ ?_ _ | refine below_setR ?_ ?_ _ | refine below_dn ?_ _ | refine Below.trans ?_ (below_mo _ _ _ ?_) | refine Below.trans ?_ (below_mq _ _ ?_) | exact Nat.le_refl _) | (simp; done) | (simp; omega) | omega))⟩ ?_
  rintro u ⟨r5, r7, r9, hbu⟩
  generalize hg7 : w1.heap.size + 1 + os2.size + os3.size = g7 at *
  generalize hg9 : g7 + 1 + os4.size = g9 at *
  clear KP KR
  go_wp2
  go_loopw [11] (fun i wr => ∃ (k : Nat) (p : Nat → Int), (1 ≤ k ∧ k ≤ ys.length) ∧ i = .int .i64 (k : Int) ∧ Hid (okP2 ys p) ∧ Hid (bmpd ys js t k p) ∧ wr.heap[w1.heap.size]? = some (.cells #[.slice S ys.length c, .slice L js.length cl] 49) ∧ wr.heap[g7]? = some (.cells #[.int .i64 (p 0), .int .i64 (p 1), .int .i64 (p 2), .int .i64 (p 3), .int .i64 (p 4), .int .i64 (p 5), .int .i64 (p 6), .int .i64 (p 7)] 53) ∧ wr.heap[g9]? = some (.cells #[.int .u8 (dd 0), .int .u8 (dd 1), .int .u8 (dd 2), .int .u8 (dd 3), .int .u8 (dd 4), .int .u8 (dd 5), .int .u8 (dd 6), .int .u8 (dd 7)] 57) ∧ Below w1.heap.size w1 wr) (fun i _ => ys.length - (intOf i).toNat)
  case atStart => exact ⟨1, p0, ⟨by omega, hl.1⟩, rfl, HP0, HQ0, r5, r7, r9, hbu⟩
  case round =>
    clear r5 r7 r9 hbu HP0 HQ0
    obtain ⟨k, p, hk, rfl, HP, HQ, r5, r7, r9, hbr⟩ := hrel
    have hzr := hbr.size
    have hbw : Below w.heap.size w wr := below_step hb1 hbr (Nat.le_refl _)
    obtain ⟨f0, f1, f2⟩ := twoE r5
    obtain ⟨f3, f4, f5, f6, f7, f8, f9, f10, f11⟩ := eight r7
    by_cases hlt : k < ys.length
    · have g0 : (k : Int) < (ys.length : Int) := by omega
      have KA := Lib.hid (fun W hW => a2At_any ha1 h81 _ c1 rfl W hW (k : Int) 167 (by omega) (by omega))
      have hq := at2_bd xs1 (k : Int) 167 (by omega)
      generalize at2 xs1 (k : Int) 167 = q at *
      have e1 : IntKind.i64.wrap (3 * q) = 3 * q := IntWalk.i64_in _ ⟨by omega, by omega⟩
      have e2 : IntKind.i64.wrap (3 * q - 249) = 3 * q - 249 := IntWalk.i64_in _ ⟨by omega, by omega⟩
      have KB := Lib.hid (fun W h1 h2 => implBump_ok NS y8 c NJ j8 cl W h1 h2 p HK.out HP.out k hlt (b := 3 * q - 249) (by omega))
      have KB2 := Lib.hid (fun W h1 h2 => specBump_ok NS y8 c NJ j8 cl W h1 h2 p HK.out HP.out k hlt (b := 3 * q - 249) (by omega))
      have HQ' := Lib.hid (bmpd_up HQ.out hk.1 hlt (b := 3 * q - 249) (by omega))
      have HP' := Lib.hid (bp_ok (b := 3 * q - 249) HP.out hlt (okS_el (okO_parts HK.out).1 hlt).1)
      generalize bpP ys p k (3 * q - 249) = p' at *
      clear HP HQ
      (go_wp2_with fail; refine (KA.out _ (by repeat' (first | (with_reducible first | assumption | exact Below.refl _ _ | refine Below.drew ?_ | refine Below.alloc ?_ ?_ _ | refine Below.setCell ?_ ?_ _ | refine below_setR ?_ ?_ _ | refine below_dn ?_ _ | refine Below.trans ?_ (below_mo _ _ _ ?_) | refine Below.trans ?_ (below_mq _ _ ?_) | exact Nat.le_refl _) | (simp; done) | (simp; omega) | omega))).mono ?_; rintro e w' ⟨rfl, rfl⟩)
      (go_wp2_with fail; refine (KB.out _ (by repeat' (first | (with_reducible first | assumption | exact Below.refl _ _ | refine Below.drew ?_ | refine Below.alloc ?_ ?_ _ | refine Below.setCell ?_ ?_ _ | refine below_setR ?_ ?_ _ | refine below_dn ?_ _ | refine Below.trans ?_ (below_mo _ _ _ ?_) | refine Below.trans ?_ (below_mq _ _ ?_) | exact Nat.le_refl _) | (simp; done) | (simp; omega) | omega)) (by repeat' (first | (with_reducible first | assumption | exact Below.refl _ _ | refine Below.drew ?_ | refine Below.alloc ?_ ?_ _ | refine Below.setCell ?_ ?_ _ | refine below_setR ?_ ?_ _ | refine below_dn ?_ _ | refine Below.trans ?_ (below_mo _ _ _ ?_) | refine Below.trans ?_ (below_mq _ _ ?_) | exact Nat.le_refl _) | (simp; done) | (simp; omega) | omega))).mono ?_; rintro e w' ⟨rfl, hb_⟩; obtain ⟨os5, d5, rfl⟩ := mo_of hb_; clear hb_)
      (go_wp2_with fail; refine (KB2.out _ (by repeat' (first | (with_reducible first | assumption | exact Below.refl _ _ | refine Below.drew ?_ | refine Below.alloc ?_ ?_ _ | refine Below.setCell ?_ ?_ _ | refine below_setR ?_ ?_ _ | refine below_dn ?_ _ | refine Below.trans ?_ (below_mo _ _ _ ?_) | refine Below.trans ?_ (below_mq _ _ ?_) | exact Nat.le_refl _) | (simp; done) | (simp; omega) | omega)) (by repeat' (first | (with_reducible first | assumption | exact Below.refl _ _ | refine Below.drew ?_ | refine Below.alloc ?_ ?_ _ | refine Below.setCell ?_ ?_ _ | refine below_setR ?_ ?_ _ | refine below_dn ?_ _ | refine Below.trans ?_ (below_mo _ _ _ ?_) | refine Below.trans ?_ (below_mq _ _ ?_) | exact Nat.le_refl _) | (simp; done) | (simp; omega) | omega))).mono ?_; rintro e w' ⟨rfl, hb_⟩; obtain ⟨os6, d6, rfl⟩ := mo_of hb_; clear hb_)
      go_upto_region 17 with (fail)
      refine wp_at (fun u => u.heap[w1.heap.size]? = some (.cells #[.slice S ys.length c, .slice L js.length cl] 49) ∧ u.heap[g7]? = some (.cells #[.int .i64 (p 0), .int .i64 (p 1), .int .i64 (p 2), .int .i64 (p 3), .int .i64 (p 4), .int .i64 (p 5), .int .i64 (p 6), .int .i64 (p 7)] 53) ∧ u.heap[g9]? = some (.cells #[.int .u8 (dd 0), .int .u8 (dd 1), .int .u8 (dd 2), .int .u8 (dd 3), .int .u8 (dd 4), .int .u8 (dd 5), .int .u8 (dd 6), .int .u8 (dd 7)] 57) ∧ u.heap[wr.heap.size + os5.size + 1 + os6.size]? = some (.cells #[.int .i64 (p' 0), .int .i64 (p' 1), .int .i64 (p' 2), .int .i64 (p' 3), .int .i64 (p' 4), .int .i64 (p' 5), .int .i64 (p' 6), .int .i64 (p' 7)] 53) ∧ Below w1.heap.size w1 u) _ ⟨(by repeat' (first | (with_reducible assumption) | (with_reducible refine heap_mo_at ?_) | (with_reducible refine heap_mq_at ?_) | (with_reducible refine heap_drew_at ?_) | ((with_reducible refine heap_alloc_at ?_); first | rfl | (simp; done)) | (with_reducible refine heap_alloc_past ?_) | ((with_reducible apply heap_set_at); (first | rfl | (simp; done))) | ((with_reducible apply heap_set_past); (first | (simp; done) | (simp; omega) | omega)) | ((with_reducible apply heap_setC_past); (first | (simp; done) | (simp; omega) | omega)) | fail)), (by repeat' (first | (with_reducible assumption) | (with_reducible refine heap_mo_at ?_) | (with_reducible refine heap_mq_at ?_) | (with_reducible refine heap_drew_at ?_) | ((with_reducible refine heap_alloc_at ?_); first | rfl | (simp; done)) | (with_reducible refine heap_alloc_past ?_) | ((with_reducible apply heap_set_at); (first | rfl | (simp; done))) | ((with_reducible apply heap_set_past); (first | (simp; done) | (simp; omega) | omega)) | ((with_reducible apply heap_setC_past); (first | (simp; done) | (simp; omega) | omega)) | fail)), (by repeat' (first | (with_reducible assumption) | (with_reducible refine heap_mo_at ?_) | (with_reducible refine heap_mq_at ?_) | (with_reducible refine heap_drew_at ?_) | ((with_reducible refine heap_alloc_at ?_); first | rfl | (simp; done)) | (with_reducible refine heap_alloc_past ?_) | ((with_reducible apply heap_set_at); (first | rfl | (simp; done))) | ((with_reducible apply heap_set_past); (first | (simp; done) | (simp; omega) | omega)) | ((with_reducible apply heap_setC_past); (first | (simp; done) | (simp; omega) | omega)) | fail)), (by repeat' (first | (with_reducible assumption) | (with_reducible refine heap_mo_at ?_) | (with_reducible refine heap_mq_at ?_) | (with_reducible refine heap_drew_at ?_) | ((with_reducible refine heap_alloc_at ?_); first | rfl | (simp; done)) | (with_reducible refine heap_alloc_past ?_) | ((with_reducible apply heap_set_at); (first | rfl | (simp; done))) | ((with_reducible apply heap_set_past); (first | (simp; done) | (simp; omega) | omega)) | ((with_reducible apply heap_setC_past); (first | (simp; done) | (simp; omega) | omega)) | fail)), (by repeat' (first | (with_reducible first | assumption | exact Below.refl _ _ | refine Below.drew ?_ | refine Below.alloc ?_ ?_ _ | refine Below.setCell ?_ ?_ _ | refine below_setR ?_ ?_ _ | refine below_dn ?_ _ | refine Below.trans ?_ (below_mo _ _ _ ?_) | refine Below.trans ?_ (below_mq _ _ ?_) | exact Nat.le_refl _) | (simp; done) | (simp; omega) | omega))⟩ ?_
      clear r5 r7 r9 f0 f1 f2 f3 f4 f5 f6 f7 f8 f9 f10 f11 KA KB KB2 hbw hbr
      rintro u2 ⟨r5, r7, r9, r15, hbu2⟩
      generalize wr.heap.size + os5.size + 1 + os6.size = g15 at *
      obtain ⟨f3, f4, f5, f6, f7, f8, f9, f10, f11⟩ := eight r7
      obtain ⟨y0, y1, y2, y3, y4, y5, y6, y7⟩ := eightF r7
      obtain ⟨z3, z4, z5, z6, z7, z8, z9, z10, z11⟩ := eight r15
      go_wp2
      exact ⟨⟨k + 1, p', ⟨by omega, hlt⟩, by go_num, HP', HQ', w8_past (by omega) r5, w8_at r7, w8_past (by omega) r9, w8_below hbu2 (by omega)⟩, by simp [intOf]; omega⟩
    · obtain rfl : k = ys.length := by omega
      have hbm := bmpd_end HQ.out
      have KF := Lib.hid (fun W h1 h2 => implRightFrom_ok NS y8 c NJ j8 cl W h1 h2 p HK.out HP.out)
      rw [right_all HK.out hbm, HDD.out] at KF
      have KE := Lib.hid (fun W h1 h2 => implEye_ok NS y8 c NJ j8 cl W h1 h2 p 1 HK.out HP.out (by decide))
      have KE2 := Lib.hid (fun W h1 h2 => specEye_ok NS y8 c NJ j8 cl W h1 h2 p 1 HK.out HP.out (by decide))
      generalize rdTo ys p 1 ys.length = DE at *
      have KS := Lib.hid (fun W h1 h2 => specSpan_ok NS y8 c NJ j8 cl W h1 h2 HK.out)
      have KA := Lib.hid (fun W hW => a2At_any ha0 h80 _ c0 rfl W hW 0 40 (by omega) (by omega))
      have hq := at2_bd xs0 0 40 (by omega)
      generalize at2 xs0 0 40 = q at *
      have hl8 := okS_len (okO_parts HK.out).1
      obtain ⟨x0, x1, x2, x3, x4, x5, x6, x7, x8⟩ := eight8 r9
      have hbm1 : Below w1.heap.size w1 wr := hbr
      clear hbm HP HQ
      obtain ⟨Z, hZ⟩ : ∃ Z, szS ys * 1000 = Z := ⟨_, rfl⟩
      have KWI := Lib.hid (fun (high : Int) (h1 : t ≤ high) (h2 : high < szS ys * 1000) (h3 : high - t ≤ 10000) => wdV_0 (xs := ys) (js := js) (low := t) (high := high) (eye := 1) (askO_0 HK.out hin.out) (by rw [show inR high t (szS ys * 1000 - 1) = true from inR_t.2 ⟨h1, by omega⟩, decide_eq_true h3]; rfl))
      have KIN := Lib.hid (fun (x : Int) (h1 : t ≤ x) (h2 : x < szS ys * 1000) => askO_0 (t := x) HK.out (inR_t.2 ⟨by omega, by omega⟩))
      rw [hZ] at KS KWI KIN ht
      have hSz2 : 2000 ≤ Z ∧ Z ≤ 1000000000000000 := by omega
      clear hZ hSz
      have e1 : IntKind.i64.wrap (t + q) = t + q := IntWalk.i64_in _ ⟨by omega, by omega⟩
      have e2 : IntKind.i64.wrap (Z - 1) = Z - 1 := IntWalk.i64_in _ ⟨by omega, by omega⟩
      (go_wp2_with fail; refine (KF.out _ (by repeat' (first | (with_reducible first | assumption | exact Below.refl _ _ | refine Below.drew ?_ | refine Below.alloc ?_ ?_ _ | refine Below.setCell ?_ ?_ _ | refine below_setR ?_ ?_ _ | refine below_dn ?_ _ | refine Below.trans ?_ (below_mo _ _ _ ?_) | refine Below.trans ?_ (below_mq _ _ ?_) | exact Nat.le_refl _) | (simp; done) | (simp; omega) | omega)) (by repeat' (first | (with_reducible first | assumption | exact Below.refl _ _ | refine Below.drew ?_ | refine Below.alloc ?_ ?_ _ | refine Below.setCell ?_ ?_ _ | refine below_setR ?_ ?_ _ | refine below_dn ?_ _ | refine Below.trans ?_ (below_mo _ _ _ ?_) | refine Below.trans ?_ (below_mq _ _ ?_) | exact Nat.le_refl _) | (simp; done) | (simp; omega) | omega))).mono ?_; rintro e w' ⟨rfl, hb_⟩; obtain ⟨os5, d5, rfl⟩ := mo_of hb_; clear hb_)
      (go_wp2_with fail; refine (KE.out _ (by repeat' (first | (with_reducible first | assumption | exact Below.refl _ _ | refine Below.drew ?_ | refine Below.alloc ?_ ?_ _ | refine Below.setCell ?_ ?_ _ | refine below_setR ?_ ?_ _ | refine below_dn ?_ _ | refine Below.trans ?_ (below_mo _ _ _ ?_) | refine Below.trans ?_ (below_mq _ _ ?_) | exact Nat.le_refl _) | (simp; done) | (simp; omega) | omega)) (by repeat' (first | (with_reducible first | assumption | exact Below.refl _ _ | refine Below.drew ?_ | refine Below.alloc ?_ ?_ _ | refine Below.setCell ?_ ?_ _ | refine below_setR ?_ ?_ _ | refine below_dn ?_ _ | refine Below.trans ?_ (below_mo _ _ _ ?_) | refine Below.trans ?_ (below_mq _ _ ?_) | exact Nat.le_refl _) | (simp; done) | (simp; omega) | omega))).mono ?_; rintro e w' ⟨rfl, hb_⟩; obtain ⟨os6, d6, rfl⟩ := mo_of hb_; clear hb_)
      (go_wp2_with fail; refine (KE2.out _ (by repeat' (first | (with_reducible first | assumption | exact Below.refl _ _ | refine Below.drew ?_ | refine Below.alloc ?_ ?_ _ | refine Below.setCell ?_ ?_ _ | refine below_setR ?_ ?_ _ | refine below_dn ?_ _ | refine Below.trans ?_ (below_mo _ _ _ ?_) | refine Below.trans ?_ (below_mq _ _ ?_) | exact Nat.le_refl _) | (simp; done) | (simp; omega) | omega)) (by repeat' (first | (with_reducible first | assumption | exact Below.refl _ _ | refine Below.drew ?_ | refine Below.alloc ?_ ?_ _ | refine Below.setCell ?_ ?_ _ | refine below_setR ?_ ?_ _ | refine below_dn ?_ _ | refine Below.trans ?_ (below_mo _ _ _ ?_) | refine Below.trans ?_ (below_mq _ _ ?_) | exact Nat.le_refl _) | (simp; done) | (simp; omega) | omega))).mono ?_; rintro e w' ⟨rfl, hb_⟩; obtain ⟨os7, d7, rfl⟩ := mo_of hb_; clear hb_)
      (go_wp2_with fail; refine (KS.out _ (by repeat' (first | (with_reducible first | assumption | exact Below.refl _ _ | refine Below.drew ?_ | refine Below.alloc ?_ ?_ _ | refine Below.setCell ?_ ?_ _ | refine below_setR ?_ ?_ _ | refine below_dn ?_ _ | refine Below.trans ?_ (below_mo _ _ _ ?_) | refine Below.trans ?_ (below_mq _ _ ?_) | exact Nat.le_refl _) | (simp; done) | (simp; omega) | omega)) (by repeat' (first | (with_reducible first | assumption | exact Below.refl _ _ | refine Below.drew ?_ | refine Below.alloc ?_ ?_ _ | refine Below.setCell ?_ ?_ _ | refine below_setR ?_ ?_ _ | refine below_dn ?_ _ | refine Below.trans ?_ (below_mo _ _ _ ?_) | refine Below.trans ?_ (below_mq _ _ ?_) | exact Nat.le_refl _) | (simp; done) | (simp; omega) | omega))).mono ?_; rintro e w' ⟨rfl, hb_⟩; obtain ⟨os8, d8, rfl⟩ := mo_of hb_; clear hb_)
      (go_wp2_with fail; refine (KA.out _ (by repeat' (first | (with_reducible first | assumption | exact Below.refl _ _ | refine Below.drew ?_ | refine Below.alloc ?_ ?_ _ | refine Below.setCell ?_ ?_ _ | refine below_setR ?_ ?_ _ | refine below_dn ?_ _ | refine Below.trans ?_ (below_mo _ _ _ ?_) | refine Below.trans ?_ (below_mq _ _ ?_) | exact Nat.le_refl _) | (simp; done) | (simp; omega) | omega))).mono ?_; rintro e w' ⟨rfl, rfl⟩)
      obtain ⟨high, hh, hx⟩ : ∃ high : Int, (t ≤ high ∧ high ≤ Z - 1 ∧ high - t ≤ 39) ∧ ((high = t + q ∧ ¬ Z - 1 < t + q) ∨ (high = Z - 1 ∧ Z - 1 < t + q)) := by
        by_cases c : Z - 1 < t + q
        · exact ⟨Z - 1, by omega, .inr ⟨rfl, c⟩⟩
        · exact ⟨t + q, by omega, .inl ⟨rfl, c⟩⟩
      have KW1 := Lib.hid (fun W h1 h2 => implWorst_any NS y8 c NJ j8 cl W h1 h2 t high 1 ⟨by omega, by omega⟩ ⟨by omega, by omega⟩)
      have KW2 := Lib.hid (fun W h1 h2 => specWorst_any NS y8 c NJ j8 cl W h1 h2 t high 1 ⟨by omega, by omega⟩ ⟨by omega, by omega⟩)
      rw [KWI.out high hh.1 (by omega) (by omega)] at KW1 KW2
      obtain ⟨a, ha, q1, q2, hall⟩ := wst_ok (wrN ys js 1 t) t (fun j => (wrN_bd ys js 1 t j).1) (high - t + 1).toNat (by omega)
      dsimp only at KW1 KW2
      rw [q1, q2] at KW1 KW2
      have FB := wrN_bd ys js 1 t a
      obtain ⟨G, hG⟩ : ∃ G, wrN ys js 1 t a = G := ⟨_, rfl⟩
      obtain ⟨du, hdu⟩ : ∃ du, t + (a : Int) = du := ⟨_, rfl⟩
      rw [hG, hdu] at KW1 KW2
      rw [hG] at FB
      have hdub : t ≤ du ∧ du ≤ high := by omega
      have HALL := Lib.hid (fun (x : Int) (h1 : t ≤ x) (h2 : x ≤ high) => show (((flt (wrF ys js x 1) ys.length).length : Int) ≤ G) ∧ (x < du → ((flt (wrF ys js x 1) ys.length).length : Int) < G) ∧ (x = du → ((flt (wrF ys js x 1) ys.length).length : Int) = G) from by
        have e : wrN ys js 1 t (x - t).toNat = ((flt (wrF ys js x 1) ys.length).length : Int) := by unfold wrN; rw [show t + (((x - t).toNat : Nat) : Int) = x by omega]
        have h := hall (x - t).toNat (by omega)
        rw [e, hG] at h
        refine ⟨h.1, fun h3 => h.2 (by omega), fun h3 => ?_⟩
        rw [← e, ← hG, show (x - t).toNat = a by omega])
      have KWW := Lib.hid (fun (x : Int) (h1 : t ≤ x) (h2 : x ≤ high) => (show ∀ W, Below w1.heap.size w1 W → Calls Try.prog 38 #[.agg #[.slice S ys.length c, .slice L js.length cl], .int .i64 x, .int .i64 1] W (RetL (flt (wrF ys js x 1) ys.length) 0 W) from fun W hW => by
        have K := implWrong_any NS y8 c NJ j8 cl W hW hW x 1
        have e0 := wwC_0 (KIN.out x h1 (by omega)) (show inR 1 0 1 = true by decide)
        rw [wwL_0 e0, e0] at K
        exact K))
      clear hG hall q1 q2 hdu KWI KIN ha
      have n1 : ¬ du < t := by omega
      have n2 : ¬ high < du := by omega
      rcases hx with ⟨hx1, hx2⟩ | ⟨hx1, hx2⟩
      · have e3 := e1.trans hx1.symm
        have m1 : ¬ Z - 1 < high := by omega
        clear e1 hx1 hx2
        go_upto_region 29 with (fail)
        refine wp_at (fun u => u.heap[w1.heap.size]? = some (.cells #[.slice S ys.length c, .slice L js.length cl] 49) ∧ Below w1.heap.size w1 u) _ ⟨(by repeat' (first | (with_reducible assumption) | (with_reducible refine heap_mo_at ?_) | (with_reducible refine heap_mq_at ?_) | (with_reducible refine heap_drew_at ?_) | ((with_reducible refine heap_alloc_at ?_); first | rfl | (simp; done)) | (with_reducible refine heap_alloc_past ?_) | ((with_reducible apply heap_set_at); (first | rfl | (simp; done))) | ((with_reducible apply heap_set_past); (first | (simp; done) | (simp; omega) | omega)) | ((with_reducible apply heap_setC_past); (first | (simp; done) | (simp; omega) | omega)) | fail)), (by repeat' (first | (with_reducible first | assumption | exact Below.refl _ _ | refine Below.drew ?_ | refine Below.alloc ?_ ?_ _ | refine Below.setCell ?_ ?_ _ | refine below_setR ?_ ?_ _ | refine below_dn ?_ _ | refine Below.trans ?_ (below_mo _ _ _ ?_) | refine Below.trans ?_ (below_mq _ _ ?_) | exact Nat.le_refl _) | (simp; done) | (simp; omega) | omega))⟩ ?_
        clear r5 r7 r9 f0 f1 f2 f3 f4 f5 f6 f7 f8 f9 f10 f11 x0 x1 x2 x3 x4 x5 x6 x7 x8 KF KE KE2 KS KA hbr hbw hbm1
        rintro u2 ⟨r5, hbu2⟩
        obtain ⟨f0, f1, f2⟩ := twoE r5
        (go_wp2_with fail; refine (KW1.out _ (by repeat' (first | (with_reducible first | assumption | exact Below.refl _ _ | refine Below.drew ?_ | refine Below.alloc ?_ ?_ _ | refine Below.setCell ?_ ?_ _ | refine below_setR ?_ ?_ _ | refine below_dn ?_ _ | refine Below.trans ?_ (below_mo _ _ _ ?_) | refine Below.trans ?_ (below_mq _ _ ?_) | exact Nat.le_refl _) | (simp; done) | (simp; omega) | omega)) (by repeat' (first | (with_reducible first | assumption | exact Below.refl _ _ | refine Below.drew ?_ | refine Below.alloc ?_ ?_ _ | refine Below.setCell ?_ ?_ _ | refine below_setR ?_ ?_ _ | refine below_dn ?_ _ | refine Below.trans ?_ (below_mo _ _ _ ?_) | refine Below.trans ?_ (below_mq _ _ ?_) | exact Nat.le_refl _) | (simp; done) | (simp; omega) | omega))).mono ?_; rintro e w' ⟨rfl, hb_⟩; obtain ⟨os9, d9, rfl⟩ := mo_of hb_; clear hb_)
        (go_wp2_with fail; refine (KW2.out _ (by repeat' (first | (with_reducible first | assumption | exact Below.refl _ _ | refine Below.drew ?_ | refine Below.alloc ?_ ?_ _ | refine Below.setCell ?_ ?_ _ | refine below_setR ?_ ?_ _ | refine below_dn ?_ _ | refine Below.trans ?_ (below_mo _ _ _ ?_) | refine Below.trans ?_ (below_mq _ _ ?_) | exact Nat.le_refl _) | (simp; done) | (simp; omega) | omega)) (by repeat' (first | (with_reducible first | assumption | exact Below.refl _ _ | refine Below.drew ?_ | refine Below.alloc ?_ ?_ _ | refine Below.setCell ?_ ?_ _ | refine below_setR ?_ ?_ _ | refine below_dn ?_ _ | refine Below.trans ?_ (below_mo _ _ _ ?_) | refine Below.trans ?_ (below_mq _ _ ?_) | exact Nat.le_refl _) | (simp; done) | (simp; omega) | omega))).mono ?_; rintro e w' ⟨rfl, hb_⟩; obtain ⟨os10, d10, rfl⟩ := mo_of hb_; clear hb_)
        go_wp2
        go_loopw [32] (fun i wr => ∃ x : Int, (t ≤ x ∧ x ≤ high + 1) ∧ i = .int .i64 x ∧ wr.heap[w1.heap.size]? = some (.cells #[.slice S ys.length c, .slice L js.length cl] 49) ∧ Below w1.heap.size w1 wr) (fun i _ => (high + 1 - intOf i).toNat)
        case atStart => exact ⟨t, ⟨by omega, by omega⟩, rfl, (by repeat' (first | (with_reducible assumption) | (with_reducible refine heap_mo_at ?_) | (with_reducible refine heap_mq_at ?_) | (with_reducible refine heap_drew_at ?_) | ((with_reducible refine heap_alloc_at ?_); first | rfl | (simp; done)) | (with_reducible refine heap_alloc_past ?_) | ((with_reducible apply heap_set_at); (first | rfl | (simp; done))) | ((with_reducible apply heap_set_past); (first | (simp; done) | (simp; omega) | omega)) | ((with_reducible apply heap_setC_past); (first | (simp; done) | (simp; omega) | omega)) | fail)), (by repeat' (first | (with_reducible first | assumption | exact Below.refl _ _ | refine Below.drew ?_ | refine Below.alloc ?_ ?_ _ | refine Below.setCell ?_ ?_ _ | refine below_setR ?_ ?_ _ | refine below_dn ?_ _ | refine Below.trans ?_ (below_mo _ _ _ ?_) | refine Below.trans ?_ (below_mq _ _ ?_) | exact Nat.le_refl _) | (simp; done) | (simp; omega) | omega))⟩
        case round =>
          clear KW1 KW2 r5 hbu2 f0 f1 f2
          obtain ⟨x, hx, rfl, r5, hbr⟩ := hrel
          have hz9 := hbr.size
          obtain ⟨f0, f1, f2⟩ := twoE r5
          by_cases hlt : x ≤ high
          · obtain ⟨h1, h2, h3⟩ := HALL.out x hx.1 hlt
            have KX := Lib.hid (KWW.out x hx.1 hlt)
            have hfl := flt_len (wrF ys js x 1) ys.length
            generalize flt (wrF ys js x 1) ys.length = fl at *
            have c1 : ¬ G < (fl.length : Int) := by omega
            have en : IntKind.i64.wrap (x + 1) = x + 1 := IntWalk.i64_in _ ⟨by omega, by omega⟩
            go_wp2_with fail
            refine (KX.out _ hbr).mono ?_
            rintro e w4 ⟨v, rfl, own, hb4⟩
            obtain ⟨A5, c5, rfl, N5⟩ := own_nums own (by omega)
            clear own N5
            obtain ⟨os11, d11, rfl⟩ := mo_of hb4
            clear hb4
            rcases (show x < du ∨ x = du ∨ du < x by omega) with hc | hc | hc
            · have c2 : ((fl.length : Int) == G) = false := beq_eq_false_iff_ne.2 (by have := h2 hc; omega)
              have c3 : ¬ x = du := by omega
              have c4 : (x == du) = false := beq_eq_false_iff_ne.2 c3
              have c5 : ¬ (fl.length : Int) = G := by have := h2 hc; omega
              clear h1 h2 h3
              go_wp2
              exact ⟨⟨x + 1, ⟨by omega, by omega⟩, rfl, (by repeat' (first | (with_reducible assumption) | (with_reducible refine heap_mo_at ?_) | (with_reducible refine heap_mq_at ?_) | (with_reducible refine heap_drew_at ?_) | ((with_reducible refine heap_alloc_at ?_); first | rfl | (simp; done)) | (with_reducible refine heap_alloc_past ?_) | ((with_reducible apply heap_set_at); (first | rfl | (simp; done))) | ((with_reducible apply heap_set_past); (first | (simp; done) | (simp; omega) | omega)) | ((with_reducible apply heap_setC_past); (first | (simp; done) | (simp; omega) | omega)) | fail)), (by repeat' (first | (with_reducible first | assumption | exact Below.refl _ _ | refine Below.drew ?_ | refine Below.alloc ?_ ?_ _ | refine Below.setCell ?_ ?_ _ | refine below_setR ?_ ?_ _ | refine below_dn ?_ _ | refine Below.trans ?_ (below_mo _ _ _ ?_) | refine Below.trans ?_ (below_mq _ _ ?_) | exact Nat.le_refl _) | (simp; done) | (simp; omega) | omega))⟩, by simp [intOf]; omega⟩
            · have c5 : (fl.length : Int) = G := h3 hc
              subst hc
              clear h1 h2 h3
              go_wp2
              exact ⟨⟨x + 1, ⟨by omega, by omega⟩, rfl, (by repeat' (first | (with_reducible assumption) | (with_reducible refine heap_mo_at ?_) | (with_reducible refine heap_mq_at ?_) | (with_reducible refine heap_drew_at ?_) | ((with_reducible refine heap_alloc_at ?_); first | rfl | (simp; done)) | (with_reducible refine heap_alloc_past ?_) | ((with_reducible apply heap_set_at); (first | rfl | (simp; done))) | ((with_reducible apply heap_set_past); (first | (simp; done) | (simp; omega) | omega)) | ((with_reducible apply heap_setC_past); (first | (simp; done) | (simp; omega) | omega)) | fail)), (by repeat' (first | (with_reducible first | assumption | exact Below.refl _ _ | refine Below.drew ?_ | refine Below.alloc ?_ ?_ _ | refine Below.setCell ?_ ?_ _ | refine below_setR ?_ ?_ _ | refine below_dn ?_ _ | refine Below.trans ?_ (below_mo _ _ _ ?_) | refine Below.trans ?_ (below_mq _ _ ?_) | exact Nat.le_refl _) | (simp; done) | (simp; omega) | omega))⟩, by simp [intOf]; omega⟩
            · have c3 : ¬ x < du := by omega
              have c6 : ¬ x = du := by omega
              have c4 : (x == du) = false := beq_eq_false_iff_ne.2 c6
              clear h1 h2 h3
              go_wp2
              exact ⟨⟨x + 1, ⟨by omega, by omega⟩, rfl, (by repeat' (first | (with_reducible assumption) | (with_reducible refine heap_mo_at ?_) | (with_reducible refine heap_mq_at ?_) | (with_reducible refine heap_drew_at ?_) | ((with_reducible refine heap_alloc_at ?_); first | rfl | (simp; done)) | (with_reducible refine heap_alloc_past ?_) | ((with_reducible apply heap_set_at); (first | rfl | (simp; done))) | ((with_reducible apply heap_set_past); (first | (simp; done) | (simp; omega) | omega)) | ((with_reducible apply heap_setC_past); (first | (simp; done) | (simp; omega) | omega)) | fail)), (by repeat' (first | (with_reducible first | assumption | exact Below.refl _ _ | refine Below.drew ?_ | refine Below.alloc ?_ ?_ _ | refine Below.setCell ?_ ?_ _ | refine below_setR ?_ ?_ _ | refine below_dn ?_ _ | refine Below.trans ?_ (below_mo _ _ _ ?_) | refine Below.trans ?_ (below_mq _ _ ?_) | exact Nat.le_refl _) | (simp; done) | (simp; omega) | omega))⟩, by simp [intOf]; omega⟩
          · have c1 : ¬ x ≤ high := hlt
            go_wp2
            go_ret
            exact ⟨rfl, below_step hb1 hbr (Nat.le_refl _)⟩
      · have e3 := e2.trans hx1.symm
        have m1 : high < t + q := by omega
        clear e2 hx1 hx2
        go_upto_region 29 with (fail)
        refine wp_at (fun u => u.heap[w1.heap.size]? = some (.cells #[.slice S ys.length c, .slice L js.length cl] 49) ∧ Below w1.heap.size w1 u) _ ⟨(by repeat' (first | (with_reducible assumption) | (with_reducible refine heap_mo_at ?_) | (with_reducible refine heap_mq_at ?_) | (with_reducible refine heap_drew_at ?_) | ((with_reducible refine heap_alloc_at ?_); first | rfl | (simp; done)) | (with_reducible refine heap_alloc_past ?_) | ((with_reducible apply heap_set_at); (first | rfl | (simp; done))) | ((with_reducible apply heap_set_past); (first | (simp; done) | (simp; omega) | omega)) | ((with_reducible apply heap_setC_past); (first | (simp; done) | (simp; omega) | omega)) | fail)), (by repeat' (first | (with_reducible first | assumption | exact Below.refl _ _ | refine Below.drew ?_ | refine Below.alloc ?_ ?_ _ | refine Below.setCell ?_ ?_ _ | refine below_setR ?_ ?_ _ | refine below_dn ?_ _ | refine Below.trans ?_ (below_mo _ _ _ ?_) | refine Below.trans ?_ (below_mq _ _ ?_) | exact Nat.le_refl _) | (simp; done) | (simp; omega) | omega))⟩ ?_
        clear r5 r7 r9 f0 f1 f2 f3 f4 f5 f6 f7 f8 f9 f10 f11 x0 x1 x2 x3 x4 x5 x6 x7 x8 KF KE KE2 KS KA hbr hbw hbm1
        rintro u2 ⟨r5, hbu2⟩
        obtain ⟨f0, f1, f2⟩ := twoE r5
        (go_wp2_with fail; refine (KW1.out _ (by repeat' (first | (with_reducible first | assumption | exact Below.refl _ _ | refine Below.drew ?_ | refine Below.alloc ?_ ?_ _ | refine Below.setCell ?_ ?_ _ | refine below_setR ?_ ?_ _ | refine below_dn ?_ _ | refine Below.trans ?_ (below_mo _ _ _ ?_) | refine Below.trans ?_ (below_mq _ _ ?_) | exact Nat.le_refl _) | (simp; done) | (simp; omega) | omega)) (by repeat' (first | (with_reducible first | assumption | exact Below.refl _ _ | refine Below.drew ?_ | refine Below.alloc ?_ ?_ _ | refine Below.setCell ?_ ?_ _ | refine below_setR ?_ ?_ _ | refine below_dn ?_ _ | refine Below.trans ?_ (below_mo _ _ _ ?_) | refine Below.trans ?_ (below_mq _ _ ?_) | exact Nat.le_refl _) | (simp; done) | (simp; omega) | omega))).mono ?_; rintro e w' ⟨rfl, hb_⟩; obtain ⟨os9, d9, rfl⟩ := mo_of hb_; clear hb_)
        (go_wp2_with fail; refine (KW2.out _ (by repeat' (first | (with_reducible first | assumption | exact Below.refl _ _ | refine Below.drew ?_ | refine Below.alloc ?_ ?_ _ | refine Below.setCell ?_ ?_ _ | refine below_setR ?_ ?_ _ | refine below_dn ?_ _ | refine Below.trans ?_ (below_mo _ _ _ ?_) | refine Below.trans ?_ (below_mq _ _ ?_) | exact Nat.le_refl _) | (simp; done) | (simp; omega) | omega)) (by repeat' (first | (with_reducible first | assumption | exact Below.refl _ _ | refine Below.drew ?_ | refine Below.alloc ?_ ?_ _ | refine Below.setCell ?_ ?_ _ | refine below_setR ?_ ?_ _ | refine below_dn ?_ _ | refine Below.trans ?_ (below_mo _ _ _ ?_) | refine Below.trans ?_ (below_mq _ _ ?_) | exact Nat.le_refl _) | (simp; done) | (simp; omega) | omega))).mono ?_; rintro e w' ⟨rfl, hb_⟩; obtain ⟨os10, d10, rfl⟩ := mo_of hb_; clear hb_)
        go_wp2
        go_loopw [32] (fun i wr => ∃ x : Int, (t ≤ x ∧ x ≤ high + 1) ∧ i = .int .i64 x ∧ wr.heap[w1.heap.size]? = some (.cells #[.slice S ys.length c, .slice L js.length cl] 49) ∧ Below w1.heap.size w1 wr) (fun i _ => (high + 1 - intOf i).toNat)
        case atStart => exact ⟨t, ⟨by omega, by omega⟩, rfl, (by repeat' (first | (with_reducible assumption) | (with_reducible refine heap_mo_at ?_) | (with_reducible refine heap_mq_at ?_) | (with_reducible refine heap_drew_at ?_) | ((with_reducible refine heap_alloc_at ?_); first | rfl | (simp; done)) | (with_reducible refine heap_alloc_past ?_) | ((with_reducible apply heap_set_at); (first | rfl | (simp; done))) | ((with_reducible apply heap_set_past); (first | (simp; done) | (simp; omega) | omega)) | ((with_reducible apply heap_setC_past); (first | (simp; done) | (simp; omega) | omega)) | fail)), (by repeat' (first | (with_reducible first | assumption | exact Below.refl _ _ | refine Below.drew ?_ | refine Below.alloc ?_ ?_ _ | refine Below.setCell ?_ ?_ _ | refine below_setR ?_ ?_ _ | refine below_dn ?_ _ | refine Below.trans ?_ (below_mo _ _ _ ?_) | refine Below.trans ?_ (below_mq _ _ ?_) | exact Nat.le_refl _) | (simp; done) | (simp; omega) | omega))⟩
        case round =>
          clear KW1 KW2 r5 hbu2 f0 f1 f2
          obtain ⟨x, hx, rfl, r5, hbr⟩ := hrel
          have hz9 := hbr.size
          obtain ⟨f0, f1, f2⟩ := twoE r5
          by_cases hlt : x ≤ high
          · obtain ⟨h1, h2, h3⟩ := HALL.out x hx.1 hlt
            have KX := Lib.hid (KWW.out x hx.1 hlt)
            have hfl := flt_len (wrF ys js x 1) ys.length
            generalize flt (wrF ys js x 1) ys.length = fl at *
            have c1 : ¬ G < (fl.length : Int) := by omega
            have en : IntKind.i64.wrap (x + 1) = x + 1 := IntWalk.i64_in _ ⟨by omega, by omega⟩
            go_wp2_with fail
            refine (KX.out _ hbr).mono ?_
            rintro e w4 ⟨v, rfl, own, hb4⟩
            obtain ⟨A5, c5, rfl, N5⟩ := own_nums own (by omega)
            clear own N5
            obtain ⟨os11, d11, rfl⟩ := mo_of hb4
            clear hb4
            rcases (show x < du ∨ x = du ∨ du < x by omega) with hc | hc | hc
            · have c2 : ((fl.length : Int) == G) = false := beq_eq_false_iff_ne.2 (by have := h2 hc; omega)
              have c3 : ¬ x = du := by omega
              have c4 : (x == du) = false := beq_eq_false_iff_ne.2 c3
              have c5 : ¬ (fl.length : Int) = G := by have := h2 hc; omega
              clear h1 h2 h3
              go_wp2
              exact ⟨⟨x + 1, ⟨by omega, by omega⟩, rfl, (by repeat' (first | (with_reducible assumption) | (with_reducible refine heap_mo_at ?_) | (with_reducible refine heap_mq_at ?_) | (with_reducible refine heap_drew_at ?_) | ((with_reducible refine heap_alloc_at ?_); first | rfl | (simp; done)) | (with_reducible refine heap_alloc_past ?_) | ((with_reducible apply heap_set_at); (first | rfl | (simp; done))) | ((with_reducible apply heap_set_past); (first | (simp; done) | (simp; omega) | omega)) | ((with_reducible apply heap_setC_past); (first | (simp; done) | (simp; omega) | omega)) | fail)), (by repeat' (first | (with_reducible first | assumption | exact Below.refl _ _ | refine Below.drew ?_ | refine Below.alloc ?_ ?_ _ | refine Below.setCell ?_ ?_ _ | refine below_setR ?_ ?_ _ | refine below_dn ?_ _ | refine Below.trans ?_ (below_mo _ _ _ ?_) | refine Below.trans ?_ (below_mq _ _ ?_) | exact Nat.le_refl _) | (simp; done) | (simp; omega) | omega))⟩, by simp [intOf]; omega⟩
            · have c5 : (fl.length : Int) = G := h3 hc
              subst hc
              clear h1 h2 h3
              go_wp2
              exact ⟨⟨x + 1, ⟨by omega, by omega⟩, rfl, (by repeat' (first | (with_reducible assumption) | (with_reducible refine heap_mo_at ?_) | (with_reducible refine heap_mq_at ?_) | (with_reducible refine heap_drew_at ?_) | ((with_reducible refine heap_alloc_at ?_); first | rfl | (simp; done)) | (with_reducible refine heap_alloc_past ?_) | ((with_reducible apply heap_set_at); (first | rfl | (simp; done))) | ((with_reducible apply heap_set_past); (first | (simp; done) | (simp; omega) | omega)) | ((with_reducible apply heap_setC_past); (first | (simp; done) | (simp; omega) | omega)) | fail)), (by repeat' (first | (with_reducible first | assumption | exact Below.refl _ _ | refine Below.drew ?_ | refine Below.alloc ?_ ?_ _ | refine Below.setCell ?_ ?_ _ | refine below_setR ?_ ?_ _ | refine below_dn ?_ _ | refine Below.trans ?_ (below_mo _ _ _ ?_) | refine Below.trans ?_ (below_mq _ _ ?_) | exact Nat.le_refl _) | (simp; done) | (simp; omega) | omega))⟩, by simp [intOf]; omega⟩
            · have c3 : ¬ x < du := by omega
              have c6 : ¬ x = du := by omega
              have c4 : (x == du) = false := beq_eq_false_iff_ne.2 c6
              clear h1 h2 h3
              go_wp2
              exact ⟨⟨x + 1, ⟨by omega, by omega⟩, rfl, (by repeat' (first | (with_reducible assumption) | (with_reducible refine heap_mo_at ?_) | (with_reducible refine heap_mq_at ?_) | (with_reducible refine heap_drew_at ?_) | ((with_reducible refine heap_alloc_at ?_); first | rfl | (simp; done)) | (with_reducible refine heap_alloc_past ?_) | ((with_reducible apply heap_set_at); (first | rfl | (simp; done))) | ((with_reducible apply heap_set_past); (first | (simp; done) | (simp; omega) | omega)) | ((with_reducible apply heap_setC_past); (first | (simp; done) | (simp; omega) | omega)) | fail)), (by repeat' (first | (with_reducible first | assumption | exact Below.refl _ _ | refine Below.drew ?_ | refine Below.alloc ?_ ?_ _ | refine Below.setCell ?_ ?_ _ | refine below_setR ?_ ?_ _ | refine below_dn ?_ _ | refine Below.trans ?_ (below_mo _ _ _ ?_) | refine Below.trans ?_ (below_mq _ _ ?_) | exact Nat.le_refl _) | (simp; done) | (simp; omega) | omega))⟩, by simp [intOf]; omega⟩
          · have c1 : ¬ x ≤ high := hlt
            go_wp2
            go_ret
            exact ⟨rfl, below_step hb1 hbr (Nat.le_refl _)⟩
end Go.Proofs.Ytinjlofefmjolaa.X
