/- The law FnRatios, walked. Conditions: none. -/
import Derived.Test.YtinjlofefmjolaaKFracQ
import Derived.Test.YtinjlofefmjolaaKP6
import Derived.Test.YtinjlofefmjolaaKOpen
namespace Go.Proofs.Ytinjlofefmjolaa.X
open Go.RowKit
set_option linter.unusedVariables false
set_option linter.unusedSimpArgs false
set_option maxRecDepth 100000
theorem twoRt {w : World} {g : Nat} {a b : Value} {T : TypeId} (h : w.heap[g]? = some (.cells #[a, b] T)) : g < w.heap.size ∧ w.cell? ⟨g, 0, none⟩ = some a ∧ w.cell? ⟨g, 1, none⟩ = some b :=
  ⟨(Array.getElem?_eq_some_iff.1 h).1, (cell_of_row w g 0 _ T (0, 0) h).trans rfl, (cell_of_row w g 1 _ T (0, 0) h).trans rfl⟩
set_option maxHeartbeats 16000000 in
theorem lawRatios (w : World) {A0 : Option Addr} {xs0 : List Int} (c0 : Nat) (hs0 : SL w w.heap.size 1 (fun x => [Value.int .u8 x]) A0 xs0) (hm0 : xs0.length ≤ maxLen) (h80 : b8 xs0) {A1 : Option Addr} {xs1 : List Int} (c1 : Nat) (hs1 : SL w w.heap.size 1 (fun x => [Value.int .u8 x]) A1 xs1) (hm1 : xs1.length ≤ maxLen) (h81 : b8 xs1) :
    Calls Try.prog 3 #[.slice A0 xs0.length c0, .slice A1 xs1.length c1] w fun e w' => e = .returned (.bool true) ∧ Below w.heap.size w w' := by
  by_cases l0 : xs0.length ≤ 4096
  case neg =>
    go_enter Try.func3, Try.ntmps3
    (go_wp2_with fail; refine (f6big_t _ _ l0 _).mono ?_; rintro e w' ⟨rfl, rfl⟩)
    go_wp2
    go_ret
    exact ⟨rfl, (by repeat' (first | (with_reducible first | assumption | exact Below.refl _ _ | refine Below.drew ?_ | refine Below.alloc ?_ ?_ _ | refine Below.setCell ?_ ?_ _ | refine below_setR ?_ ?_ _ | refine below_dn ?_ _ | refine Below.trans ?_ (below_mo _ _ _ ?_) | refine Below.trans ?_ (below_mq _ _ ?_) | exact Nat.le_refl _) | (simp; done) | (simp; omega) | omega))⟩
  by_cases l1 : xs1.length ≤ 4096
  case neg =>
    go_enter Try.func3, Try.ntmps3
    (go_wp2_with fail; refine (f6big_f _ _ l0 _).mono ?_; rintro e w' ⟨rfl, rfl⟩)
    (go_wp2_with fail; refine (f6big_t _ _ l1 _).mono ?_; rintro e w' ⟨rfl, rfl⟩)
    go_wp2
    go_ret
    exact ⟨rfl, (by repeat' (first | (with_reducible first | assumption | exact Below.refl _ _ | refine Below.drew ?_ | refine Below.alloc ?_ ?_ _ | refine Below.setCell ?_ ?_ _ | refine below_setR ?_ ?_ _ | refine below_dn ?_ _ | refine Below.trans ?_ (below_mo _ _ _ ?_) | refine Below.trans ?_ (below_mq _ _ ?_) | exact Nat.le_refl _) | (simp; done) | (simp; omega) | omega))⟩
  have ha0 : Nums .u8 w w.heap.size A0 xs0 := ⟨hs0, by omega, Nat.le_refl _⟩
  have ha1 : Nums .u8 w w.heap.size A1 xs1 := ⟨hs1, by omega, Nat.le_refl _⟩
  clear hs0 hs1 hm0 hm1
  go_enter Try.func3, Try.ntmps3
  (go_wp2_with fail; refine (f6big_f _ _ l0 _).mono ?_; rintro e w' ⟨rfl, rfl⟩)
  (go_wp2_with fail; refine (f6big_f _ _ l1 _).mono ?_; rintro e w' ⟨rfl, rfl⟩)
  (go_wp2_with fail; refine (P6Ratio_ok ha0 h80 c0 _ (by repeat' (first | (with_reducible first | assumption | exact Below.refl _ _ | refine Below.drew ?_ | refine Below.alloc ?_ ?_ _ | refine Below.setCell ?_ ?_ _ | refine below_setR ?_ ?_ _ | refine below_dn ?_ _ | refine Below.trans ?_ (below_mo _ _ _ ?_) | refine Below.trans ?_ (below_mq _ _ ?_) | exact Nat.le_refl _) | (simp; done) | (simp; omega) | omega))).mono ?_; rintro e w1 ⟨⟨P, Q⟩, rfl, hr, hrP, hrQ, hb1⟩)
  dsimp only at hrP hrQ
  obtain ⟨N, C⟩ := cf_of (P := P) (Q := Q) ⟨hr.p.1, hrP⟩ ⟨hr.q.1, hrQ⟩ hr.g
  have hN := C.n
  have HC := Lib.hid C
  have HR := Lib.hid hr
  have hz1 := hb1.size
  have htl := tmT_len P Q N
  obtain ⟨s, hs01, hsN, hlen, hsz, hel⟩ := cvL_facts C
  obtain ⟨LN, hLN⟩ : ∃ m, N - s = m := ⟨_, rfl⟩
  rw [hLN] at hlen hel
  have hLb : 1 ≤ LN ∧ LN ≤ 34 := by omega
  have HEL := Lib.hid hel
  have HSZ := Lib.hid hsz
  have KT1 := Lib.hid (fun W => implTerms_ok C hr W)
  have KT2 := Lib.hid (fun W => specTerms_ok C hr W)
  have KC1 := Lib.hid (fun W => implConv_ok C hr W)
  have KC2 := Lib.hid (fun W => specConv_ok C hr W)
  clear C hel hsz
  (go_wp2_with fail; refine (KT1.out _).mono ?_; rintro e w2 ⟨T1, t1, rfl, N1, hb2⟩)
  have r5 : w2.heap[w1.heap.size]? = some (.cells #[.int .i64 P, .int .i64 Q] 25) := (hb2.block _ (by simp)).trans (heap_alloc_new w1 _)
  have hbb2 : Below w1.heap.size w1 w2 := Below.trans (Below.alloc (Below.refl _ _) (Nat.le_refl _) _) (hb2.mono (by simp))
  clear hb2
  obtain ⟨q0, q1, q2⟩ := twoRt r5
  (go_wp2_with fail; refine (KT2.out _).mono ?_; rintro e w3 ⟨T2, t2, rfl, N2, hb3⟩)
  clear q1 q2
  have r5' := (hb3.block _ q0).trans r5
  clear q0 r5
  obtain ⟨q0, q1, q2⟩ := twoRt r5'
  have KF := Lib.hid (fun W hW => FromTerms_ok HC.out N2 t2 W hW)
  (go_wp2_with fail; refine (KF.out _ (Below.refl _ _)).mono ?_; rintro e w4 ⟨rfl, hb4⟩)
  clear q1 q2 KF
  have r5 := (hb4.block _ q0).trans r5'
  clear q0 r5'
  obtain ⟨q0, q1, q2⟩ := twoRt r5
  (go_wp2_with fail; refine (KC1.out _).mono ?_; rintro e w5 ⟨L1, k1, n1, rfl, hn1, M1, hb5⟩)
  clear q1 q2
  have r5' := (hb5.block _ (by simp; omega)).trans (heap_alloc_past r5)
  have r10 : w5.heap[w4.heap.size]? = some (.cells #[.int .i64 P, .int .i64 Q] 25) := (hb5.block _ (by simp)).trans (heap_alloc_new w4 _)
  have hbb5 : Below w4.heap.size w4 w5 := Below.trans (Below.alloc (Below.refl _ _) (Nat.le_refl _) _) (hb5.mono (by simp))
  clear q0 r5 hb5
  obtain ⟨q0, q1, q2⟩ := twoRt r5'
  (go_wp2_with fail; refine (KC2.out _).mono ?_; rintro e w6 ⟨L2, k2, n2, rfl, hn2, M2, hb6⟩)
  clear q1 q2
  have r5 := (hb6.block _ q0).trans r5'
  have r11 := (hb6.block _ (Array.getElem?_eq_some_iff.1 r10).1).trans r10
  clear q0 r5' r10
  rw [hlen] at hn1 hn2
  obtain rfl : n1 = LN := hn1
  obtain rfl : n2 = n1 := hn2
  obtain ⟨z5, y0, y1⟩ := twoRt r5
  obtain ⟨z10, y2, y3⟩ := twoRt r11
  have hz2 := hbb2.size
  have hz3 := hb3.size
  have hz4 := hb4.size
  have hz5 := hbb5.size
  have hz6 := hb6.size
  have b36 : Below w3.heap.size w3 w6 := below_step (below_step hb4 hbb5 (by omega)) hb6 (by omega)
  have b26 : Below w2.heap.size w2 w6 := below_step hb3 b36 (by omega)
  have b56 : Below w5.heap.size w5 w6 := hb6
  have b16 : Below w1.heap.size w1 w6 := below_step hbb2 b26 (by omega)
  have bw6 : Below w.heap.size w w6 := below_step hb1 b16 (by omega)
  obtain ⟨qq, hqq⟩ : ∃ qq, n2 = qq + 1 := ⟨n2 - 1, by omega⟩
  have hlast := HEL.out qq (by omega)
  have hN1 : qq + s + 2 = N + 1 := by omega
  rw [hN1, HC.out.last] at hlast
  obtain ⟨lb, lo, hL2, hlb, lx0, lx1⟩ := M2.at (w := w6) (Below.refl _ _) (k := qq) (by rw [hlen]; omega)
  rw [hlast.1] at lx0
  rw [hlast.2] at lx1
  have eq1 : IntKind.i64.wrap ((n2 : Int) - 1) = (qq : Int) := (IntWalk.i64_in _ ⟨by omega, by omega⟩).trans (by omega)
  have g1 : (0 : Int) ≤ (qq : Int) := by omega
  have g2 : (qq : Int) < (n2 : Int) := by omega
  have g3 : ((n2 : Int) == 0) = false := beq_eq_false_iff_ne.2 (by omega)
  have g4 : ¬ (n2 : Int) = 0 := by omega
  have KSN := Lib.hid (fun W h1 h2 => SameNumbers_ok N1 N2 N t1 t2 htl W h1 h2)
  have KSR := Lib.hid (fun W h1 h2 => SameRatios_ok M1 M2 n2 k1 k2 hlen W h1 h2)
  have KVR := Lib.hid (fun W => ValidRatio_ok hr W)
  dsimp only at KVR
  have HM2 := Lib.hid M2
  have HQQ := Lib.hid (And.intro hqq hN1)
  have HLEN := Lib.hid hlen
  have HI := Lib.hid hLN
  subst hL2
  clear KT1 KT2 KC1 KC2 N1 N2 M1 M2 hlast hqq hN1 hlen hr hbb2 hb3 hb4 hbb5 hb6 htl hLN
  go_upto_region 9 with (fail)
  (refine wp_region_mq (by kernel_rfl) (by kernel_rfl) ?_; (repeat (first | go_big_quiet_step ((first | (go_at_call 12; ((with_reducible refine quietQ (KSN.out _ ?_ ?_) ) <;> (repeat' (first | (with_reducible first | assumption | exact Below.refl _ _ | refine Below.drew ?_ | refine Below.alloc ?_ ?_ _ | refine Below.setCell ?_ ?_ _ | refine below_setR ?_ ?_ _ | refine below_dn ?_ _ | refine Below.trans ?_ (below_mo _ _ _ ?_) | refine Below.trans ?_ (below_mq _ _ ?_) | exact Nat.le_refl _) | (simp; done) | (simp; omega) | omega)))) | (go_at_call 13; ((with_reducible refine quietQ (KSR.out _ ?_ ?_) ) <;> (repeat' (first | (with_reducible first | assumption | exact Below.refl _ _ | refine Below.drew ?_ | refine Below.alloc ?_ ?_ _ | refine Below.setCell ?_ ?_ _ | refine below_setR ?_ ?_ _ | refine below_dn ?_ _ | refine Below.trans ?_ (below_mo _ _ _ ?_) | refine Below.trans ?_ (below_mq _ _ ?_) | exact Nat.le_refl _) | (simp; done) | (simp; omega) | omega)))) | (go_at_call 14; with_reducible exact quietQ (KVR.out _) ))) | quiet_step ((first | (go_at_call 12; ((with_reducible refine quietQ (KSN.out _ ?_ ?_) ) <;> (repeat' (first | (with_reducible first | assumption | exact Below.refl _ _ | refine Below.drew ?_ | refine Below.alloc ?_ ?_ _ | refine Below.setCell ?_ ?_ _ | refine below_setR ?_ ?_ _ | refine below_dn ?_ _ | refine Below.trans ?_ (below_mo _ _ _ ?_) | refine Below.trans ?_ (below_mq _ _ ?_) | exact Nat.le_refl _) | (simp; done) | (simp; omega) | omega)))) | (go_at_call 13; ((with_reducible refine quietQ (KSR.out _ ?_ ?_) ) <;> (repeat' (first | (with_reducible first | assumption | exact Below.refl _ _ | refine Below.drew ?_ | refine Below.alloc ?_ ?_ _ | refine Below.setCell ?_ ?_ _ | refine below_setR ?_ ?_ _ | refine below_dn ?_ _ | refine Below.trans ?_ (below_mo _ _ _ ?_) | refine Below.trans ?_ (below_mq _ _ ?_) | exact Nat.le_refl _) | (simp; done) | (simp; omega) | omega)))) | (go_at_call 14; with_reducible exact quietQ (KVR.out _) ))))); refine wpQuiet_nil ?_; intro _ hq_; obtain ⟨q_, rfl⟩ := hq_)
  go_upto_region 11 with (fail)
  refine wp_at (fun u => u.heap[w1.heap.size]? = some (.cells #[.int .i64 P, .int .i64 Q] 25) ∧ Below w6.heap.size w6 u) _ ⟨heap_mo_at r5, (by repeat' (first | (with_reducible first | assumption | exact Below.refl _ _ | refine Below.drew ?_ | refine Below.alloc ?_ ?_ _ | refine Below.setCell ?_ ?_ _ | refine below_setR ?_ ?_ _ | refine below_dn ?_ _ | refine Below.trans ?_ (below_mo _ _ _ ?_) | refine Below.trans ?_ (below_mq _ _ ?_) | exact Nat.le_refl _) | (simp; done) | (simp; omega) | omega))⟩ ?_
  clear r5 r11 y0 y1 y2 y3 lx0 lx1 KSN KSR eq1 g1 g2 g3 g4 q_ b36 b26 b56
  rintro u ⟨r5, hbu⟩
  go_wp2
  go_loopw [16] (fun i wr => ∃ k : Nat, k + 1 ≤ n2 ∧ i = .int .i64 (k : Int) ∧ wr.heap[w1.heap.size]? = some (.cells #[.int .i64 P, .int .i64 Q] 25) ∧ Below w6.heap.size w6 wr) (fun i _ => n2 - (intOf i).toNat)
  case atStart => exact ⟨0, by omega, rfl, r5, hbu⟩
  case round =>
    clear r5 hbu
    obtain ⟨k, hk, rfl, r5, hbr⟩ := hrel
    obtain ⟨z5r, y0, y1⟩ := twoRt r5
    have hzr := hbr.size
    have e1 : IntKind.i64.wrap ((k : Int) + 1) = (k : Int) + 1 := IntWalk.i64_in _ ⟨by omega, by omega⟩
    by_cases hlt : k + 1 < n2
    · as_aux_lemma =>
      have g0 : (k : Int) + 1 < (n2 : Int) := by omega
      have g00 : (0 : Int) ≤ (k : Int) + 1 := by omega
      have g01 : (0 : Int) ≤ (k : Int) := by omega
      have g02 : (k : Int) < (n2 : Int) := by omega
      have hlen := HLEN.out
      obtain ⟨b', o', hA, hbl, v0, v1⟩ := HM2.out.at hbr (k := k) (by omega)
      obtain ⟨rfl, rfl⟩ := addr_same hA
      obtain ⟨b'', o'', hB, _, v2, v3⟩ := HM2.out.at hbr (k := k + 1) (by omega)
      obtain ⟨rfl, rfl⟩ := addr_same hB
      obtain ⟨x1, x2⟩ := HEL.out k (by omega)
      obtain ⟨x3, x4⟩ := HEL.out (k + 1) (by omega)
      rw [x1] at v0
      rw [x2] at v1
      rw [x3, show k + 1 + s + 2 = k + s + 1 + 2 by omega] at v2
      rw [x4, show k + 1 + s + 2 = k + s + 1 + 2 by omega] at v3
      clear x1 x2 x3 x4 hA hB hlen
      have hsz := HSZ.out
      have hIN := HI.out
      obtain ⟨rx, rx1, rx2⟩ := HC.out.rt (n := k + s + 1) (by omega) (by omega) (by rcases hsz with h | h; exact .inl (by omega); exact .inr (by omega))
      obtain ⟨ry, ry1, ry2⟩ := HC.out.rt (n := k + s + 2) (by omega) (by omega) (.inr (by omega))
      obtain ⟨a, bb, ea, eb, ha, hb, hm, hd⟩ := HC.out.stepR (n := k + s + 1) (by omega) (by omega)
      have KA := Lib.hid (fun W => Compare2_ok rx HR.out W)
      have KB := Lib.hid (fun W => Compare2_ok ry HR.out W)
      dsimp only at KA KB
      rw [ea] at KA
      rw [show k + s + 2 + 1 = k + s + 1 + 2 by omega] at KB ry ry1 ry2
      rw [eb] at KB
      rw [show k + s + 1 + 1 = k + s + 2 by omega] at KA rx rx1 rx2 hm hd
      have hx1 := rx.p
      have hx2 := rx.q
      have hy1 := ry.p
      have hy2 := ry.q
      clear ea eb rx ry hsz hIN
      generalize (hS P Q (k + s + 2)).1 = xa at *
      generalize (hS P Q (k + s + 2)).2 = xb at *
      generalize (hS P Q (k + s + 1 + 2)).1 = ya at *
      generalize (hS P Q (k + s + 1 + 2)).2 = yb at *
      have p1 := mul_bdG (show 0 ≤ xa ∧ xa ≤ 65536 by omega) (show 0 ≤ yb ∧ yb ≤ 65536 by omega)
      have p2 := mul_bdG (show 0 ≤ ya ∧ ya ≤ 65536 by omega) (show 0 ≤ xb ∧ xb ≤ 65536 by omega)
      have e2 : IntKind.i64.wrap (xa * yb) = xa * yb := IntWalk.i64_in _ ⟨by omega, by omega⟩
      have e3 : IntKind.i64.wrap (ya * xb) = ya * xb := IntWalk.i64_in _ ⟨by omega, by omega⟩
      have e4 : IntKind.i64.wrap (xa * yb - ya * xb) = a := by rw [hd]; exact IntWalk.i64_in _ ⟨by omega, by omega⟩
      obtain ⟨ab, hab, hab2⟩ : ∃ ab : Int, a * bb = ab ∧ (ab = 0 ∨ ab = -1) := by
        rcases ha with rfl | rfl
        · rcases hb with rfl | rfl
          · exact ⟨_, rfl, .inr rfl⟩
          · exact ⟨_, rfl, .inl rfl⟩
        · rcases hb with rfl | rfl
          · exact ⟨_, rfl, .inr rfl⟩
          · exact ⟨_, rfl, .inl rfl⟩
      have e5 : IntKind.i64.wrap (a * bb) = ab := by rw [hab]; exact IntWalk.i64_in _ ⟨by omega, by omega⟩
      have c1 : (a == 0) = false := beq_eq_false_iff_ne.2 (by omega)
      have c2 : ¬ a = 0 := by omega
      have c3 : ¬ 0 < ab := by omega
      have c4 : ¬ yb < xb := by omega
      clear hab hab2 ha hb hd hm p1 p2 hx1 hx2 hy1 hy2 rx1 rx2 ry1 ry2
      go_upto_region 14 with (fail)
      (refine wp_region_mq (by kernel_rfl) (by kernel_rfl) ?_; (repeat (first | go_big_quiet_step ((first | (go_at_call 15; with_reducible exact quietQ (KA.out _) ))) | quiet_step ((first | (go_at_call 15; with_reducible exact quietQ (KA.out _) ))))); refine wpQuiet_nil ?_; intro _ hq_; obtain ⟨q_, rfl⟩ := hq_)
      go_upto_region 15 with (fail)
      (refine wp_region_mq (by kernel_rfl) (by kernel_rfl) ?_; (repeat (first | go_big_quiet_step ((first | (go_at_call 15; with_reducible exact quietQ (KB.out _) ))) | quiet_step ((first | (go_at_call 15; with_reducible exact quietQ (KB.out _) ))))); refine wpQuiet_nil ?_; intro _ hq_; obtain ⟨q_, rfl⟩ := hq_)
      go_upto_region 16 with (fail)
      go_quiet (fail)
      go_wp2
      exact ⟨⟨k + 1, by omega, by go_num, heap_mo_at (heap_mo_at r5), (by repeat' (first | (with_reducible first | assumption | exact Below.refl _ _ | refine Below.drew ?_ | refine Below.alloc ?_ ?_ _ | refine Below.setCell ?_ ?_ _ | refine below_setR ?_ ?_ _ | refine below_dn ?_ _ | refine Below.trans ?_ (below_mo _ _ _ ?_) | refine Below.trans ?_ (below_mq _ _ ?_) | exact Nat.le_refl _) | (simp; done) | (simp; omega) | omega))⟩, by simp [intOf]; omega⟩
    · as_aux_lemma =>
      have g0 : ¬ (k : Int) + 1 < (n2 : Int) := by omega
      have hbw : Below w.heap.size w wr := below_step bw6 hbr (by omega)
      clear HEL HSZ HM2 HQQ HLEN HI HC
      (go_wp2_with fail; refine (P6Small_ok ha1 h81 c1 _ hbw).mono ?_; rintro e w7 ⟨⟨a, b⟩, rfl, hq, hqa, hqb, hb7⟩)
      dsimp only at hqa hqb
      have r7 := (hb7.block _ z5r).trans r5
      have hz7 := hb7.size
      have hbw7 := below_step hbw hb7 (by omega)
      clear r5 y0 y1 z5r hb7
      obtain ⟨z5, y0, y1⟩ := twoRt r7
      have hr := HR.out
      obtain ⟨ht, hTr⟩ := tm_small hr hq ⟨hrP, hrQ⟩ ⟨hqa, hqb⟩
      have hback := tmR_back hr hq
      have KI := Lib.hid (fun W => implTimes_ok hr hq ht W)
      have KS := Lib.hid (fun W => specTimes_ok hr hq ht W)
      dsimp only at KI KS hback
      generalize tmR (P, Q) (a, b) = T at *
      have hq' : RtOK (b, a) := ⟨hq.q, hq.p, by show Int.gcd b a = 1; rw [Int.gcd_comm]; exact hq.g⟩
      have KB := Lib.hid (fun W => implTimes_ok hTr hq' (by rw [hback]; exact ⟨by show P ≤ _; omega, by show Q ≤ _; omega⟩) W)
      rw [hback] at KB
      dsimp only at KB
      clear hback ht hTr hq'
      have hqp := hq.p
      have hqq := hq.q
      dsimp only at hqp hqq
      have KM := Lib.hid (fun W => MakeRatio_ok (p := 3 * a) (q := 3 * b) ⟨⟨by omega, by omega⟩, ⟨by omega, by omega⟩⟩ (by rw [red_3 hqp.1 hqq.1 hq.g]; exact hq) W)
      rw [red_3 hqp.1 hqq.1 hq.g] at KM
      dsimp only at KM
      have e2 : IntKind.i64.wrap (3 * a) = 3 * a := IntWalk.i64_in _ ⟨by omega, by omega⟩
      have e3 : IntKind.i64.wrap (3 * b) = 3 * b := IntWalk.i64_in _ ⟨by omega, by omega⟩
      have HQ := Lib.hid hq
      have HR7 := Lib.hid r7
      clear hr hq r7
      (go_wp2_with fail; refine (KI.out _).mono ?_; rintro e w' ⟨rfl, hb_⟩; obtain ⟨os8, d8, rfl⟩ := mo_of hb_; clear hb_)
      (go_wp2_with fail; refine (KS.out _).mono ?_; rintro e w' ⟨rfl, hb_⟩; obtain ⟨os9, d9, rfl⟩ := mo_of hb_; clear hb_)
      (go_wp2_with fail; refine (KB.out _).mono ?_; rintro e w' ⟨rfl, hb_⟩; obtain ⟨os10, d10, rfl⟩ := mo_of hb_; clear hb_)
      go_upto_region 27 with (fail)
      refine wp_at (fun u => u.heap[w1.heap.size]? = some (.cells #[.int .i64 P, .int .i64 Q] 25) ∧ u.heap[w7.heap.size]? = some (.cells #[.int .i64 a, .int .i64 b] 25) ∧ Below w.heap.size w u) _ ⟨have r7 := HR7.out; (by repeat' (first | (with_reducible assumption) | (with_reducible refine heap_mo_at ?_) | (with_reducible refine heap_mq_at ?_) | (with_reducible refine heap_drew_at ?_) | ((with_reducible refine heap_alloc_at ?_); first | rfl | (simp; done)) | (with_reducible refine heap_alloc_past ?_) | ((with_reducible apply heap_set_at); (first | rfl | (simp; done))) | ((with_reducible apply heap_set_past); (first | (simp; done) | (simp; omega) | omega)) | ((with_reducible apply heap_setC_past); (first | (simp; done) | (simp; omega) | omega)) | fail)), (by repeat' (first | (with_reducible assumption) | (with_reducible refine heap_mo_at ?_) | (with_reducible refine heap_mq_at ?_) | (with_reducible refine heap_drew_at ?_) | ((with_reducible refine heap_alloc_at ?_); first | rfl | (simp; done)) | (with_reducible refine heap_alloc_past ?_) | ((with_reducible apply heap_set_at); (first | rfl | (simp; done))) | ((with_reducible apply heap_set_past); (first | (simp; done) | (simp; omega) | omega)) | ((with_reducible apply heap_setC_past); (first | (simp; done) | (simp; omega) | omega)) | fail)), (by repeat' (first | (with_reducible first | assumption | exact Below.refl _ _ | refine Below.drew ?_ | refine Below.alloc ?_ ?_ _ | refine Below.setCell ?_ ?_ _ | refine below_setR ?_ ?_ _ | refine below_dn ?_ _ | refine Below.trans ?_ (below_mo _ _ _ ?_) | refine Below.trans ?_ (below_mq _ _ ?_) | exact Nat.le_refl _) | (simp; done) | (simp; omega) | omega))⟩ ?_
      clear y0 y1 z5 HR7
      rintro U ⟨r5, r21, hbw8⟩
      obtain ⟨z5, y0, y1⟩ := twoRt r5
      obtain ⟨z21, y2, y3⟩ := twoRt r21
      have HU5 := Lib.hid r5
      have HU21 := Lib.hid r21
      have hzU := hbw8.size
      clear r5 r21
      (go_wp2_with fail; refine (P6Pick_any ha1 h81 c1 _ (by repeat' (first | (with_reducible first | assumption | exact Below.refl _ _ | refine Below.drew ?_ | refine Below.alloc ?_ ?_ _ | refine Below.setCell ?_ ?_ _ | refine below_setR ?_ ?_ _ | refine below_dn ?_ _ | refine Below.trans ?_ (below_mo _ _ _ ?_) | refine Below.trans ?_ (below_mq _ _ ?_) | exact Nat.le_refl _) | (simp; done) | (simp; omega) | omega)) 40 (by omega)).mono ?_; rintro e w8 ⟨m0, rfl, hm0, hb8⟩)
      obtain ⟨os11, d11, rfl⟩ := mo_of hb8
      clear hb8 KI KS KB
      obtain ⟨m, hm⟩ : ∃ m, 1 + m0 = m := ⟨_, rfl⟩
      have e4 : IntKind.i64.wrap (1 + m0) = m := (IntWalk.i64_in _ ⟨by omega, by omega⟩).trans hm
      have hm2 : 1 ≤ m ∧ m ≤ 40 := by omega
      obtain ⟨hBr, hB1, hB2⟩ := near_rtQ HR.out (m := m) ⟨by omega, by omega⟩
      have KN1 := Lib.hid (fun W => implNearest_ok HR.out (m := m) ⟨by omega, by omega⟩ W)
      have KN2 := Lib.hid (fun W => specNearest_ok HR.out (m := m) ⟨by omega, by omega⟩ W)
      have HNL := Lib.hid (fun (h1 : a ≤ m) (h2 : b ≤ m) => near_law (q := (a, b)) HR.out (m := m) ⟨by omega, by omega⟩ ⟨hqp.1, h1⟩ ⟨hqq.1, h2⟩ rfl)
      dsimp only at KN1 KN2 hBr hB1 hB2 HNL
      generalize bstN P Q m m.toNat = B at *
      have hBp := hBr.p
      have hBq := hBr.q
      have KVB := Lib.hid (fun W => ValidRatio_ok hBr W)
      have KNR1 := Lib.hid (fun (h1 : a ≤ m) (h2 : b ≤ m) W => NearerRatio_ok HR.out hBr HQ.out ⟨⟨hBp.1, by omega⟩, ⟨hBq.1, by omega⟩⟩ ⟨⟨hqp.1, by show a ≤ 1000; omega⟩, ⟨hqq.1, by show b ≤ 1000; omega⟩⟩ W)
      have KNR2 := Lib.hid (fun (h1 : a ≤ m) (h2 : b ≤ m) W => NearerRatio_ok HR.out HQ.out hBr ⟨⟨hqp.1, by show a ≤ 1000; omega⟩, ⟨hqq.1, by show b ≤ 1000; omega⟩⟩ ⟨⟨hBp.1, by omega⟩, ⟨hBq.1, by omega⟩⟩ W)
      dsimp only at KNR1 KNR2
      have v1 : ¬ m < B.1 := by omega
      have v2 : ¬ m < B.2 := by omega
      clear hm hm0 hBr
      (go_wp2_with fail; refine (KN1.out _).mono ?_; rintro e w' ⟨rfl, hb_⟩; obtain ⟨os12, d12, rfl⟩ := mo_of hb_; clear hb_)
      (go_wp2_with fail; refine (KN2.out _).mono ?_; rintro e w' ⟨rfl, hb_⟩; obtain ⟨os13, d13, rfl⟩ := mo_of hb_; clear hb_)
      (go_wp2_with fail; refine (KVB.out _).mono ?_; rintro e w' ⟨rfl, hb_⟩; obtain ⟨os14, d14, rfl⟩ := mo_of hb_; clear hb_)
      clear KN1 KN2 KVB
      go_upto_region 32 with (fail)
      refine wp_at (fun u => u.heap[w1.heap.size]? = some (.cells #[.int .i64 P, .int .i64 Q] 25) ∧ u.heap[w7.heap.size]? = some (.cells #[.int .i64 a, .int .i64 b] 25) ∧ u.heap[U.heap.size + os11.size + os12.size + 1 + os13.size]? = some (.cells #[.int .i64 B.1, .int .i64 B.2] 25) ∧ Below w.heap.size w u) _ ⟨have r5 := HU5.out; (by repeat' (first | (with_reducible assumption) | (with_reducible refine heap_mo_at ?_) | (with_reducible refine heap_mq_at ?_) | (with_reducible refine heap_drew_at ?_) | ((with_reducible refine heap_alloc_at ?_); first | rfl | (simp; done)) | (with_reducible refine heap_alloc_past ?_) | ((with_reducible apply heap_set_at); (first | rfl | (simp; done))) | ((with_reducible apply heap_set_past); (first | (simp; done) | (simp; omega) | omega)) | ((with_reducible apply heap_setC_past); (first | (simp; done) | (simp; omega) | omega)) | fail)), have r21 := HU21.out; (by repeat' (first | (with_reducible assumption) | (with_reducible refine heap_mo_at ?_) | (with_reducible refine heap_mq_at ?_) | (with_reducible refine heap_drew_at ?_) | ((with_reducible refine heap_alloc_at ?_); first | rfl | (simp; done)) | (with_reducible refine heap_alloc_past ?_) | ((with_reducible apply heap_set_at); (first | rfl | (simp; done))) | ((with_reducible apply heap_set_past); (first | (simp; done) | (simp; omega) | omega)) | ((with_reducible apply heap_setC_past); (first | (simp; done) | (simp; omega) | omega)) | fail)), (by repeat' (first | (with_reducible assumption) | (with_reducible refine heap_mo_at ?_) | (with_reducible refine heap_mq_at ?_) | (with_reducible refine heap_drew_at ?_) | ((with_reducible refine heap_alloc_at ?_); first | rfl | (simp; done)) | (with_reducible refine heap_alloc_past ?_) | ((with_reducible apply heap_set_at); (first | rfl | (simp; done))) | ((with_reducible apply heap_set_past); (first | (simp; done) | (simp; omega) | omega)) | ((with_reducible apply heap_setC_past); (first | (simp; done) | (simp; omega) | omega)) | fail)), (by repeat' (first | (with_reducible first | assumption | exact Below.refl _ _ | refine Below.drew ?_ | refine Below.alloc ?_ ?_ _ | refine Below.setCell ?_ ?_ _ | refine below_setR ?_ ?_ _ | refine below_dn ?_ _ | refine Below.trans ?_ (below_mo _ _ _ ?_) | refine Below.trans ?_ (below_mq _ _ ?_) | exact Nat.le_refl _) | (simp; done) | (simp; omega) | omega))⟩ ?_
      clear y0 y1 y2 y3 z5 z21 HU5 HU21
      rintro U2 ⟨r5, r21, r31, hbw9⟩
      as_aux_lemma =>
      generalize U.heap.size + os11.size + os12.size + 1 + os13.size = g31 at *
      obtain ⟨z5, y0, y1⟩ := twoRt r5
      obtain ⟨z21, y2, y3⟩ := twoRt r21
      obtain ⟨z31, y4, y5⟩ := twoRt r31
      have hzU2 := hbw9.size
      clear r5 r21 r31
      by_cases h1 : a ≤ m
      case neg =>
        (go_wp2_with fail; refine (KM.out _).mono ?_; rintro e w' ⟨rfl, hb_⟩; obtain ⟨os17, d17, rfl⟩ := mo_of hb_; clear hb_)
        go_wp2
        go_ret
        exact ⟨rfl, (by repeat' (first | (with_reducible first | assumption | exact Below.refl _ _ | refine Below.drew ?_ | refine Below.alloc ?_ ?_ _ | refine Below.setCell ?_ ?_ _ | refine below_setR ?_ ?_ _ | refine below_dn ?_ _ | refine Below.trans ?_ (below_mo _ _ _ ?_) | refine Below.trans ?_ (below_mq _ _ ?_) | exact Nat.le_refl _) | (simp; done) | (simp; omega) | omega))⟩
      by_cases h2 : b ≤ m
      case neg =>
        (go_wp2_with fail; refine (KM.out _).mono ?_; rintro e w' ⟨rfl, hb_⟩; obtain ⟨os17, d17, rfl⟩ := mo_of hb_; clear hb_)
        go_wp2
        go_ret
        exact ⟨rfl, (by repeat' (first | (with_reducible first | assumption | exact Below.refl _ _ | refine Below.drew ?_ | refine Below.alloc ?_ ?_ _ | refine Below.setCell ?_ ?_ _ | refine below_setR ?_ ?_ _ | refine below_dn ?_ _ | refine Below.trans ?_ (below_mo _ _ _ ?_) | refine Below.trans ?_ (below_mq _ _ ?_) | exact Nat.le_refl _) | (simp; done) | (simp; omega) | omega))⟩
      obtain ⟨side, hs1, hs2, hs3⟩ := HNL.out h1 h2
      have KA := Lib.hid (fun W => KNR1.out h1 h2 W)
      have KB := Lib.hid (fun W => KNR2.out h1 h2 W)
      rw [hs1] at KA
      rw [hs2] at KB
      clear hs1 hs2 HNL KNR1 KNR2
      rcases hs3 with hs | ⟨hs, hs4, hs5⟩
      · as_aux_lemma =>
        subst hs
        (go_wp2_with fail; refine (KA.out _).mono ?_; rintro e w' ⟨rfl, hb_⟩; obtain ⟨os15, d15, rfl⟩ := mo_of hb_; clear hb_)
        (go_wp2_with fail; refine (KB.out _).mono ?_; rintro e w' ⟨rfl, hb_⟩; obtain ⟨os16, d16, rfl⟩ := mo_of hb_; clear hb_)
        (go_wp2_with fail; refine (KM.out _).mono ?_; rintro e w' ⟨rfl, hb_⟩; obtain ⟨os17, d17, rfl⟩ := mo_of hb_; clear hb_)
        go_wp2
        go_ret
        exact ⟨rfl, (by repeat' (first | (with_reducible first | assumption | exact Below.refl _ _ | refine Below.drew ?_ | refine Below.alloc ?_ ?_ _ | refine Below.setCell ?_ ?_ _ | refine below_setR ?_ ?_ _ | refine below_dn ?_ _ | refine Below.trans ?_ (below_mo _ _ _ ?_) | refine Below.trans ?_ (below_mq _ _ ?_) | exact Nat.le_refl _) | (simp; done) | (simp; omega) | omega))⟩
      · as_aux_lemma =>
        subst hs
        by_cases hs6 : b = B.2
        · have hs7 := hs5 hs6
          clear hs5
          generalize B.1 = B1 at *
          generalize B.2 = B2 at *
          subst hs6
          (go_wp2_with fail; refine (KA.out _).mono ?_; rintro e w' ⟨rfl, hb_⟩; obtain ⟨os15, d15, rfl⟩ := mo_of hb_; clear hb_)
          (go_wp2_with fail; refine (KB.out _).mono ?_; rintro e w' ⟨rfl, hb_⟩; obtain ⟨os16, d16, rfl⟩ := mo_of hb_; clear hb_)
          (go_wp2_with fail; refine (KM.out _).mono ?_; rintro e w' ⟨rfl, hb_⟩; obtain ⟨os17, d17, rfl⟩ := mo_of hb_; clear hb_)
          go_wp2
          go_ret
          exact ⟨rfl, (by repeat' (first | (with_reducible first | assumption | exact Below.refl _ _ | refine Below.drew ?_ | refine Below.alloc ?_ ?_ _ | refine Below.setCell ?_ ?_ _ | refine below_setR ?_ ?_ _ | refine below_dn ?_ _ | refine Below.trans ?_ (below_mo _ _ _ ?_) | refine Below.trans ?_ (below_mq _ _ ?_) | exact Nat.le_refl _) | (simp; done) | (simp; omega) | omega))⟩
        · have hs8 : (b == B.2) = false := beq_eq_false_iff_ne.2 hs6
          clear hs5
          (go_wp2_with fail; refine (KA.out _).mono ?_; rintro e w' ⟨rfl, hb_⟩; obtain ⟨os15, d15, rfl⟩ := mo_of hb_; clear hb_)
          (go_wp2_with fail; refine (KB.out _).mono ?_; rintro e w' ⟨rfl, hb_⟩; obtain ⟨os16, d16, rfl⟩ := mo_of hb_; clear hb_)
          (go_wp2_with fail; refine (KM.out _).mono ?_; rintro e w' ⟨rfl, hb_⟩; obtain ⟨os17, d17, rfl⟩ := mo_of hb_; clear hb_)
          go_wp2
          go_ret
          exact ⟨rfl, (by repeat' (first | (with_reducible first | assumption | exact Below.refl _ _ | refine Below.drew ?_ | refine Below.alloc ?_ ?_ _ | refine Below.setCell ?_ ?_ _ | refine below_setR ?_ ?_ _ | refine below_dn ?_ _ | refine Below.trans ?_ (below_mo _ _ _ ?_) | refine Below.trans ?_ (below_mq _ _ ?_) | exact Nat.le_refl _) | (simp; done) | (simp; omega) | omega))⟩
end Go.Proofs.Ytinjlofefmjolaa.X
