/- The law FnOff, walked. Conditions: none. -/
import Derived.Test.YtkphbagckbbalaaKOffW
import Derived.Test.YtkphbagckbbalaaKMod
import Derived.Test.YtkphbagckbbalaaKNearS
import Derived.Test.YtkphbagckbbalaaKP6
import Derived.Test.YtkphbagckbbalaaKOpen
namespace Go.Proofs.Ytkphbagckbbalaa.X
open Go.RowKit
set_option linter.unusedVariables false
set_option linter.unusedSimpArgs false
set_option maxRecDepth 100000
theorem trOK_of {ts : List (Int × Int)} (h : 1 ≤ ts.length ∧ ts.length ≤ 3) (hp : ∀ k : Nat, k < ts.length → prOK (p1 ts (k : Int)) (p2 ts (k : Int))) : TrOK ts :=
  ⟨⟨h.1, by omega⟩, fun k hk => by have := hp k hk; unfold prOK at this; omega⟩
theorem near_rt {r : Int × Int} (hr : RtOK r) {m : Int} (hm : 1 ≤ m ∧ m ≤ 1000) : RtOK (bstN r.1 r.2 m m.toNat) := by
  have h := best_n (P := r.1) (Q := r.2) (by have := hr.p; omega) hr.q.1 hm.1 m.toNat
  have s := bst_sm (P := r.1) (Q := r.2) (by have := hr.p; omega) hr.q.1 hm (n := m.toNat) (by omega)
  exact ⟨⟨s.1.1, by have := s.1.2; omega⟩, ⟨s.2.1, by have := s.2.2; omega⟩, best_red h (by omega)⟩
theorem difO_0 (R r : Int × Int) : difO R r 0 = 0 := by unfold difO trn; simp
theorem fok_self (R : Int × Int) (m : Int) : FOk R R m 0 6 := .inr ⟨rfl, rfl, fun j _ _ => by unfold difO; omega⟩
set_option maxHeartbeats 16000000 in
theorem lawOff (w : World) {A0 : Option Addr} {xs0 : List Int} (c0 : Nat) (hs0 : SL w w.heap.size 1 (fun x => [Value.int .u8 x]) A0 xs0) (hm0 : xs0.length ≤ maxLen) (h80 : b8 xs0) {A1 : Option Addr} {xs1 : List Int} (c1 : Nat) (hs1 : SL w w.heap.size 1 (fun x => [Value.int .u8 x]) A1 xs1) (hm1 : xs1.length ≤ maxLen) (h81 : b8 xs1) :
    Calls Try.prog 5 #[.slice A0 xs0.length c0, .slice A1 xs1.length c1] w fun e w' => e = .returned (.bool true) ∧ Below w.heap.size w w' := by
  by_cases l0 : xs0.length ≤ 4096
  case neg =>
    go_enter Try.func5, Try.ntmps5
    (go_wp2_with fail; refine (f6big_t _ _ l0 _).mono ?_; rintro e w' ⟨rfl, rfl⟩)
    go_wp2
    go_ret
    exact ⟨rfl, (by repeat' (first | (with_reducible first | assumption | exact Below.refl _ _ | refine Below.drew ?_ | refine Below.alloc ?_ ?_ _ | refine Below.setCell ?_ ?_ _ | refine below_setR ?_ ?_ _ | refine below_dn ?_ _ | refine Below.trans ?_ (below_mo _ _ _ ?_) | refine Below.trans ?_ (below_mq _ _ ?_) | exact Nat.le_refl _) | (simp; done) | (simp; omega) | omega))⟩
  by_cases l1 : xs1.length ≤ 4096
  case neg =>
    go_enter Try.func5, Try.ntmps5
    (go_wp2_with fail; refine (f6big_f _ _ l0 _).mono ?_; rintro e w' ⟨rfl, rfl⟩)
    (go_wp2_with fail; refine (f6big_t _ _ l1 _).mono ?_; rintro e w' ⟨rfl, rfl⟩)
    go_wp2
    go_ret
    exact ⟨rfl, (by repeat' (first | (with_reducible first | assumption | exact Below.refl _ _ | refine Below.drew ?_ | refine Below.alloc ?_ ?_ _ | refine Below.setCell ?_ ?_ _ | refine below_setR ?_ ?_ _ | refine below_dn ?_ _ | refine Below.trans ?_ (below_mo _ _ _ ?_) | refine Below.trans ?_ (below_mq _ _ ?_) | exact Nat.le_refl _) | (simp; done) | (simp; omega) | omega))⟩
  have ha0 : Nums .u8 w w.heap.size A0 xs0 := ⟨hs0, by omega, Nat.le_refl _⟩
  have ha1 : Nums .u8 w w.heap.size A1 xs1 := ⟨hs1, by omega, Nat.le_refl _⟩
  clear hs0 hs1 hm0 hm1
  go_enter Try.func5, Try.ntmps5
  (go_wp2_with fail; refine (f6big_f _ _ l0 _).mono ?_; rintro e w' ⟨rfl, rfl⟩)
  (go_wp2_with fail; refine (f6big_f _ _ l1 _).mono ?_; rintro e w' ⟨rfl, rfl⟩)
  (go_wp2_with fail; refine (P6Train_any ha0 h80 c0 _ (by repeat' (first | (with_reducible first | assumption | exact Below.refl _ _ | refine Below.drew ?_ | refine Below.alloc ?_ ?_ _ | refine Below.setCell ?_ ?_ _ | refine below_setR ?_ ?_ _ | refine below_dn ?_ _ | refine Below.trans ?_ (below_mo _ _ _ ?_) | refine Below.trans ?_ (below_mq _ _ ?_) | exact Nat.le_refl _) | (simp; done) | (simp; omega) | omega))).mono ?_; rintro e w1 ⟨ts, A, c, rfl, hlen, hpr, N, hb1⟩)
  have hT := trOK_of hlen hpr
  have HT := Lib.hid hT
  have hz1 := hb1.size
  have hR := rtO_ok hT
  (go_wp2_with fail; refine (RatioOf_ok N c HT.out _ (by repeat' (first | (with_reducible first | assumption | exact Below.refl _ _ | refine Below.drew ?_ | refine Below.alloc ?_ ?_ _ | refine Below.setCell ?_ ?_ _ | refine below_setR ?_ ?_ _ | refine below_dn ?_ _ | refine Below.trans ?_ (below_mo _ _ _ ?_) | refine Below.trans ?_ (below_mq _ _ ?_) | exact Nat.le_refl _) | (simp; done) | (simp; omega) | omega))).mono ?_; rintro e w' ⟨rfl, hb_⟩; obtain ⟨os1, d1, rfl⟩ := mo_of hb_; clear hb_)
  go_upto_region 5 with (fail)
  refine wp_at (fun u => u.heap[w1.heap.size + os1.size]? = some (.cells #[.int .i64 (rtO ts).1, .int .i64 (rtO ts).2] 58) ∧ Below w1.heap.size w1 u) _ ⟨(by repeat' (first | (with_reducible assumption) | (with_reducible refine heap_mo_at ?_) | (with_reducible refine heap_mq_at ?_) | (with_reducible refine heap_drew_at ?_) | ((with_reducible refine heap_alloc_at ?_); first | rfl | (simp; done)) | (with_reducible refine heap_alloc_past ?_) | ((with_reducible apply heap_set_at); (first | rfl | (simp; done))) | ((with_reducible apply heap_set_past); (first | (simp; done) | (simp; omega) | omega)) | ((with_reducible apply heap_setC_past); (first | (simp; done) | (simp; omega) | omega)) | fail)), (by repeat' (first | (with_reducible first | assumption | exact Below.refl _ _ | refine Below.drew ?_ | refine Below.alloc ?_ ?_ _ | refine Below.setCell ?_ ?_ _ | refine below_setR ?_ ?_ _ | refine below_dn ?_ _ | refine Below.trans ?_ (below_mo _ _ _ ?_) | refine Below.trans ?_ (below_mq _ _ ?_) | exact Nat.le_refl _) | (simp; done) | (simp; omega) | omega))⟩ ?_
  obtain ⟨bo, hbo⟩ : ∃ b, w1.heap.size + os1.size = b := ⟨_, rfl⟩
  rw [hbo]
  rintro U ⟨a0, hU⟩
  obtain ⟨x0, x1⟩ := two_at a0
  have z0 := (Array.getElem?_eq_some_iff.1 a0).1
  have hUs := hU.size
  have hwU : Below w.heap.size w U := hb1.trans (hU.mono hz1)
  have HA0 := Lib.hid a0
  clear a0 hbo
  go_cut [8, 9] (fun x y wx => ∃ (b : Nat) (r : Int × Int), x = .pointer (some ⟨b, 0, none⟩) ∧ y = .int .i64 0 ∧ RtOK r ∧ wx.heap[b]? = some (.cells #[.int .i64 r.1, .int .i64 r.2] 58) ∧ wx.heap[bo]? = some (.cells #[.int .i64 (rtO ts).1, .int .i64 (rtO ts).2] 58) ∧ Below w1.heap.size w1 wx)
  case first =>
    go_region_with (first | (go_at_call 21; refine (P6Pick_any ha1 h81 c1 _ (by repeat' (first | (with_reducible first | assumption | exact Below.refl _ _ | refine Below.drew ?_ | refine Below.alloc ?_ ?_ _ | refine Below.setCell ?_ ?_ _ | refine below_setR ?_ ?_ _ | refine below_dn ?_ _ | refine Below.trans ?_ (below_mo _ _ _ ?_) | refine Below.trans ?_ (below_mq _ _ ?_) | exact Nat.le_refl _) | (simp; done) | (simp; omega) | omega)) 40 (by omega)).mono ?_; rintro e w2 ⟨r, rfl, hr_, hb_⟩; obtain ⟨os_, d_, rfl⟩ := mo_of hb_; clear hb_; have ec : IntKind.i64.wrap (1 + r) = 1 + r := IntWalk.i64_in _ ⟨by omega, by omega⟩; have HM := Lib.hid (show 1 ≤ 1 + r ∧ 1 + r ≤ 1000 by omega)) | (go_at_call 29; refine (specNearest_ok hR HM.out _).mono ?_; rintro e w' ⟨rfl, hb_⟩; obtain ⟨os_, d_, rfl⟩ := mo_of hb_; clear hb_))
    all_goals go_wp2_with fail
    all_goals go_meet
    all_goals
      have a0' := HA0.out
      exact ⟨_, _, rfl, rfl, near_rt hR HM.out, (by repeat' (first | (with_reducible assumption) | (with_reducible refine heap_mo_at ?_) | (with_reducible refine heap_mq_at ?_) | (with_reducible refine heap_drew_at ?_) | ((with_reducible refine heap_alloc_at ?_); first | rfl | (simp; done)) | (with_reducible refine heap_alloc_past ?_) | ((with_reducible apply heap_set_at); (first | rfl | (simp; done))) | ((with_reducible apply heap_set_past); (first | (simp; done) | (simp; omega) | omega)) | ((with_reducible apply heap_setC_past); (first | (simp; done) | (simp; omega) | omega)) | fail)), (by repeat' (first | (with_reducible assumption) | (with_reducible refine heap_mo_at ?_) | (with_reducible refine heap_mq_at ?_) | (with_reducible refine heap_drew_at ?_) | ((with_reducible refine heap_alloc_at ?_); first | rfl | (simp; done)) | (with_reducible refine heap_alloc_past ?_) | ((with_reducible apply heap_set_at); (first | rfl | (simp; done))) | ((with_reducible apply heap_set_past); (first | (simp; done) | (simp; omega) | omega)) | ((with_reducible apply heap_setC_past); (first | (simp; done) | (simp; omega) | omega)) | fail)), (by repeat' (first | (with_reducible first | assumption | exact Below.refl _ _ | refine Below.drew ?_ | refine Below.alloc ?_ ?_ _ | refine Below.setCell ?_ ?_ _ | refine below_setR ?_ ?_ _ | refine below_dn ?_ _ | refine Below.trans ?_ (below_mo _ _ _ ?_) | refine Below.trans ?_ (below_mq _ _ ?_) | exact Nat.le_refl _) | (simp; done) | (simp; omega) | omega))⟩
  obtain ⟨bn, r, rfl, rfl, hr, an, ao, hU1⟩ := hcut
  obtain ⟨V, hV⟩ : ∃ V, V = wc := ⟨_, rfl⟩
  subst hV
  obtain ⟨y0, y1⟩ := two_at an
  obtain ⟨y2, y3⟩ := two_at ao
  have z1 := (Array.getElem?_eq_some_iff.1 an).1
  have z2 := (Array.getElem?_eq_some_iff.1 ao).1
  have hVs := hU1.size
  have hwV : Below w.heap.size w V := hb1.trans (hU1.mono hz1)
  obtain ⟨fc, fk, hf⟩ := fok_ex (rtO ts) r 300
  have hf : FOk (rtO ts) r 300 fc fk := hf
  have K1 := Lib.hid (fun W (hW : Below w1.heap.size w1 W) => implFirst_ok N c HT.out W hW hr (m := 300) (by omega) hf)
  have K2 := Lib.hid (fun W (hW : Below w1.heap.size w1 W) => specFirst_ok N c HT.out W hW hr (m := 300) (by omega) hf)
  have K3 := Lib.hid (fun W (hW : Below w1.heap.size w1 W) => implFirst_ok N c HT.out W hW hR (m := 300) (by omega) (fok_self (rtO ts) 300))
  have K4 := Lib.hid (fun W (hW : Below w1.heap.size w1 W) (n : Int) (hn : 0 ≤ n ∧ n ≤ 300) => OffAfter_ok N c HT.out W hW hr (n := n) ⟨hn.1, by omega⟩)
  have HF := Lib.hid hf
  have hk : (fk = 0 ∧ 1 ≤ fc ∧ fc ≤ 300) ∨ (fk = 6 ∧ fc = 0) := by rcases hf with h | h; exact .inl ⟨h.1, h.2.1⟩; exact .inr ⟨h.1, h.2.1⟩
  clear an ao x0 x1 z0 hU hUs hwU HA0 hf hT hR hr hlen hpr
  (go_wp2_with fail; refine (K1.out _ (by repeat' (first | (with_reducible first | assumption | exact Below.refl _ _ | refine Below.drew ?_ | refine Below.alloc ?_ ?_ _ | refine Below.setCell ?_ ?_ _ | refine below_setR ?_ ?_ _ | refine below_dn ?_ _ | refine Below.trans ?_ (below_mo _ _ _ ?_) | refine Below.trans ?_ (below_mq _ _ ?_) | exact Nat.le_refl _) | (simp; done) | (simp; omega) | omega))).mono ?_; rintro e w' ⟨rfl, hb_⟩; obtain ⟨os11, d11, rfl⟩ := mo_of hb_; clear hb_)
  (go_wp2_with fail; refine (K2.out _ (by repeat' (first | (with_reducible first | assumption | exact Below.refl _ _ | refine Below.drew ?_ | refine Below.alloc ?_ ?_ _ | refine Below.setCell ?_ ?_ _ | refine below_setR ?_ ?_ _ | refine below_dn ?_ _ | refine Below.trans ?_ (below_mo _ _ _ ?_) | refine Below.trans ?_ (below_mq _ _ ?_) | exact Nat.le_refl _) | (simp; done) | (simp; omega) | omega))).mono ?_; rintro e w' ⟨rfl, hb_⟩; obtain ⟨os12, d12, rfl⟩ := mo_of hb_; clear hb_)
  (go_wp2_with fail; refine (K3.out _ (by repeat' (first | (with_reducible first | assumption | exact Below.refl _ _ | refine Below.drew ?_ | refine Below.alloc ?_ ?_ _ | refine Below.setCell ?_ ?_ _ | refine below_setR ?_ ?_ _ | refine below_dn ?_ _ | refine Below.trans ?_ (below_mo _ _ _ ?_) | refine Below.trans ?_ (below_mq _ _ ?_) | exact Nat.le_refl _) | (simp; done) | (simp; omega) | omega))).mono ?_; rintro e w' ⟨rfl, hb_⟩; obtain ⟨os13, d13, rfl⟩ := mo_of hb_; clear hb_)
  clear K1 K2 K3
  rcases hk with ⟨rfl, f1, f2⟩ | ⟨rfl, rfl⟩
  · have h0 : ∀ n, 0 ≤ n → n < fc → difO (rtO ts) r n = 0 := by
      intro n a b
      rcases HF.out with ⟨_, _, _, g⟩ | ⟨g, _⟩
      · rcases Int.lt_or_le 0 n with z | z
        · exact g n z b
        · obtain rfl : n = 0 := by omega
          exact difO_0 _ _
      · omega
    have h1 : difO (rtO ts) r fc ≠ 0 := by
      rcases HF.out with ⟨_, _, g, _⟩ | ⟨g, _⟩
      · exact g
      · omega
    have HH0 := Lib.hid h0
    have HH1 := Lib.hid h1
    clear h0 h1
    go_wp2
    go_loopw [17] (fun i wr => ∃ (n : Int) (os : Array Obj) (d : Nat), (0 ≤ n ∧ n ≤ fc + 1) ∧ i = .int .i64 n ∧ wr = mo V os d) (fun i _ => (fc + 1 - intOf i).toNat)
    case atStart => exact ⟨0, _, _, by omega, rfl, by simp only [mo_mo]; exact rfl⟩
    case round =>
      obtain ⟨n, os, d, hn, rfl, rfl⟩ := hrel
      have e1 : IntKind.i64.wrap (n + 1) = n + 1 := IntWalk.i64_in _ ⟨by omega, by omega⟩
      by_cases hnm : n ≤ fc
      · have K := Lib.hid (fun W hW => K4.out W hW n (by omega))
        have e0 := HH0.out n hn.1
        have e2 : n = fc → difO (rtO ts) r n ≠ 0 := fun h => by rw [h]; exact HH1.out
        generalize difO (rtO ts) r n = X at *
        rcases Int.lt_or_le n fc with z | z
        · obtain rfl : X = 0 := e0 z
          have b2 : (n == fc) = false := beq_eq_false_iff_ne.2 (by omega)
          clear e0 e2
          (go_wp2_with fail; refine (K.out _ (by repeat' (first | (with_reducible first | assumption | exact Below.refl _ _ | refine Below.drew ?_ | refine Below.alloc ?_ ?_ _ | refine Below.setCell ?_ ?_ _ | refine below_setR ?_ ?_ _ | refine below_dn ?_ _ | refine Below.trans ?_ (below_mo _ _ _ ?_) | refine Below.trans ?_ (below_mq _ _ ?_) | exact Nat.le_refl _) | (simp; done) | (simp; omega) | omega))).mono ?_; rintro e w' ⟨rfl, hb_⟩; obtain ⟨os21, d21, rfl⟩ := mo_of hb_; clear hb_)
          go_wp2
          exact ⟨⟨n + 1, _, _, by omega, rfl, by first | exact mo_mo _ _ _ _ _ | rfl⟩, by simp [intOf]; omega⟩
        · have hx := e2 (by omega)
          have b1 : (X == 0) = false := beq_eq_false_iff_ne.2 hx
          obtain rfl : n = fc := by omega
          have b3 : (n == n) = true := beq_self_eq_true n
          have b4 : ¬ X = 0 := hx
          clear e0 e2 hx
          (go_wp2_with fail; refine (K.out _ (by repeat' (first | (with_reducible first | assumption | exact Below.refl _ _ | refine Below.drew ?_ | refine Below.alloc ?_ ?_ _ | refine Below.setCell ?_ ?_ _ | refine below_setR ?_ ?_ _ | refine below_dn ?_ _ | refine Below.trans ?_ (below_mo _ _ _ ?_) | refine Below.trans ?_ (below_mq _ _ ?_) | exact Nat.le_refl _) | (simp; done) | (simp; omega) | omega))).mono ?_; rintro e w' ⟨rfl, hb_⟩; obtain ⟨os21, d21, rfl⟩ := mo_of hb_; clear hb_)
          go_wp2
          case roundEnd => exact ⟨⟨n + 1, _, _, by omega, rfl, by first | exact mo_mo _ _ _ _ _ | rfl⟩, by simp [intOf]; omega⟩
          all_goals (rename_i h_; simp [bne, b1] at h_)
      · go_wp2
        go_ret
        exact ⟨rfl, (by repeat' (first | (with_reducible first | assumption | exact Below.refl _ _ | refine Below.drew ?_ | refine Below.alloc ?_ ?_ _ | refine Below.setCell ?_ ?_ _ | refine below_setR ?_ ?_ _ | refine below_dn ?_ _ | refine Below.trans ?_ (below_mo _ _ _ ?_) | refine Below.trans ?_ (below_mq _ _ ?_) | exact Nat.le_refl _) | (simp; done) | (simp; omega) | omega))⟩
  · have h0 : ∀ n, 0 ≤ n → n ≤ 300 → difO (rtO ts) r n = 0 := by
      intro n a b
      rcases HF.out with ⟨g, _⟩ | ⟨_, _, g⟩
      · omega
      · rcases Int.lt_or_le 0 n with z | z
        · exact g n z b
        · obtain rfl : n = 0 := by omega
          exact difO_0 _ _
    have HH0 := Lib.hid h0
    clear h0
    go_wp2
    go_loopw [17] (fun i wr => ∃ (n : Int) (os : Array Obj) (d : Nat), (0 ≤ n ∧ n ≤ 301) ∧ i = .int .i64 n ∧ wr = mo V os d) (fun i _ => (301 - intOf i).toNat)
    case atStart => exact ⟨0, _, _, by omega, rfl, by simp only [mo_mo]; exact rfl⟩
    case round =>
      obtain ⟨n, os, d, hn, rfl, rfl⟩ := hrel
      have e1 : IntKind.i64.wrap (n + 1) = n + 1 := IntWalk.i64_in _ ⟨by omega, by omega⟩
      by_cases hnm : n ≤ 300
      · have K := Lib.hid (fun W hW => K4.out W hW n (by omega))
        have e0 := HH0.out n hn.1 hnm
        rw [e0] at K
        (go_wp2_with fail; refine (K.out _ (by repeat' (first | (with_reducible first | assumption | exact Below.refl _ _ | refine Below.drew ?_ | refine Below.alloc ?_ ?_ _ | refine Below.setCell ?_ ?_ _ | refine below_setR ?_ ?_ _ | refine below_dn ?_ _ | refine Below.trans ?_ (below_mo _ _ _ ?_) | refine Below.trans ?_ (below_mq _ _ ?_) | exact Nat.le_refl _) | (simp; done) | (simp; omega) | omega))).mono ?_; rintro e w' ⟨rfl, hb_⟩; obtain ⟨os21, d21, rfl⟩ := mo_of hb_; clear hb_)
        go_wp2
        exact ⟨⟨n + 1, _, _, by omega, rfl, by first | exact mo_mo _ _ _ _ _ | rfl⟩, by simp [intOf]; omega⟩
      · go_wp2
        go_ret
        exact ⟨rfl, (by repeat' (first | (with_reducible first | assumption | exact Below.refl _ _ | refine Below.drew ?_ | refine Below.alloc ?_ ?_ _ | refine Below.setCell ?_ ?_ _ | refine below_setR ?_ ?_ _ | refine below_dn ?_ _ | refine Below.trans ?_ (below_mo _ _ _ ?_) | refine Below.trans ?_ (below_mq _ _ ?_) | exact Nat.le_refl _) | (simp; done) | (simp; omega) | omega))⟩
end Go.Proofs.Ytkphbagckbbalaa.X
