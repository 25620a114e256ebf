/- Ratchets: what the program and the reference compute. Conditions: none. -/
import Derived.Test.YtbihgnmiocfelaaKRat
import Derived.Test.YtbihgnmiocfelaaKStack
namespace Go.Proofs.Ytbihgnmiocfelaa.X
open Go.RowKit
set_option linter.unusedVariables false
set_option linter.unusedSimpArgs false
set_option maxRecDepth 100000
/-- teeth whose step is s -/
structure TeethOf (z s : Int) : Prop where
  z0 : 1 ≤ z ∧ z ≤ 1000
  r0 : (1000 : Int) % z = 0
  s0 : (1000 : Int) / z = s
  s1 : 1 ≤ s ∧ s ≤ 1000
/-- facts for walks -/
theorem TeethOf.walk {z s : Int} (h : TeethOf z s) : (¬ z = 0 ∧ (z == 0) = false) ∧ (1000 : Int).tmod z = 0 ∧ (1000 : Int).tdiv z = s ∧ IntKind.i64.wrap s = s ∧ ¬ s = 0 ∧ (s == 0) = false := by
  have a := h.z0
  have b := h.s1
  refine ⟨⟨by omega, beq_eq_false_iff_ne.2 (by omega)⟩, ?_, ?_, IntWalk.i64_in _ ⟨by omega, by omega⟩, by omega, beq_eq_false_iff_ne.2 (by omega)⟩
  · rw [Int.tmod_eq_emod_of_nonneg (by omega)]; exact h.r0
  · rw [Int.tdiv_eq_ediv_of_nonneg (by omega)]; exact h.s0
theorem inT {t : Int} (h : 0 ≤ t ∧ t ≤ 1000000) : inR t 0 1000000000000000 = true := inR_t.2 ⟨h.1, by omega⟩
theorem inZ {z s : Int} (h : TeethOf z s) : inR z 1 1000 = true := inR_t.2 h.z0
theorem inM {m : Int} (h : -500 ≤ m ∧ m ≤ 899) : inR m (-1000000000000000) 1000000000000000 = true := inR_t.2 ⟨by omega, by omega⟩
theorem isTurn_ok (t : Int) (w : World) (h : 0 ≤ t ∧ t ≤ 1000000) : Calls Try.prog 131 #[.int .i64 t] w fun e w' => e = .returned (.bool true) ∧ w = w' := by
  have HI := Lib.hid (inT h)
  go_enter Try.func131, Try.ntmps131
  (go_wp2_with fail; refine (within_ok _ _ _ _).mono ?_; rintro e w' ⟨rfl, rfl⟩; rw [HI.out])
  go_wp2
  go_ret
  exact ⟨rfl, rfl⟩
theorem isTeeth_ok {z s : Int} (h : TeethOf z s) (w : World) : Calls Try.prog 132 #[.int .i64 z] w fun e w' => e = .returned (.bool true) ∧ w = w' := by
  have HI := Lib.hid (inZ h)
  obtain ⟨⟨a, b⟩, c, d, e, f, g⟩ := h.walk
  go_enter Try.func132, Try.ntmps132
  (go_wp2_with fail; refine (within_ok _ _ _ _).mono ?_; rintro e w' ⟨rfl, rfl⟩; rw [HI.out])
  go_wp2
  go_ret
  exact ⟨rfl, rfl⟩
theorem l02Teeth_ok {z s : Int} (h : TeethOf z s) (t : Int) (w : World) (ht : 0 ≤ t ∧ t ≤ 1000000) : Calls Try.prog 137 #[.int .i64 t, .int .i64 z] w fun e w' => e = .returned (.bool true) ∧ w = w' := by
  have HI := Lib.hid (inZ h)
  have HT := Lib.hid (inT ht)
  obtain ⟨⟨a, b⟩, c, d, e, f, g⟩ := h.walk
  go_enter Try.func137, Try.ntmps137
  (go_wp2_with fail; refine (l00In_ok _ _ _ _).mono ?_; rintro e w' ⟨rfl, rfl⟩; rw [HT.out])
  (go_wp2_with fail; refine (l00In_ok _ _ _ _).mono ?_; rintro e w' ⟨rfl, rfl⟩; rw [HI.out])
  go_wp2
  go_ret
  exact ⟨rfl, rfl⟩
theorem RestAt_ok {z s : Int} (h : TeethOf z s) (t : Int) (w : World) (ht : 0 ≤ t ∧ t ≤ 1000000) : Calls Try.prog 27 #[.int .i64 t, .int .i64 z] w fun e w' => e = .returned (.tuple #[.int .i64 (t - t % s), .int .i64 0]) ∧ w = w' := by
  have HZ := Lib.hid h
  have HT := Lib.hid ht
  obtain ⟨⟨a, b⟩, c, d, e, f, g⟩ := h.walk
  have r := rest_bd h.s1.1 ht.1
  have e1 : t.tmod s = t % s := Int.tmod_eq_emod_of_nonneg ht.1
  have e2 : IntKind.i64.wrap (t % s) = t % s := IntWalk.i64_in _ ⟨by omega, by omega⟩
  have e3 : IntKind.i64.wrap (t - t % s) = t - t % s := IntWalk.i64_in _ ⟨by omega, by omega⟩
  clear r h ht
  go_enter Try.func27, Try.ntmps27
  (go_wp2_with fail; refine (isTurn_ok _ _ HT.out).mono ?_; rintro e w' ⟨rfl, rfl⟩)
  (go_wp2_with fail; refine (isTeeth_ok HZ.out _).mono ?_; rintro e w' ⟨rfl, rfl⟩)
  go_wp2
  go_returns
  exact ⟨rfl, rfl⟩
theorem ClicksOf_ok {z s : Int} (h : TeethOf z s) (t m : Int) (w : World) (ht : 0 ≤ t ∧ t ≤ 100000) (hm : 0 ≤ m ∧ m ≤ 100000) : Calls Try.prog 28 #[.int .i64 t, .int .i64 m, .int .i64 z] w fun e w' => e = .returned (.tuple #[.int .i64 ((t + m) / s - t / s), .int .i64 0]) ∧ Below w.heap.size w w' := by
  have HZ := Lib.hid h
  have HT : Hid (0 ≤ t ∧ t ≤ 1000000) := ⟨by omega, by omega⟩
  have HM : Hid (0 ≤ m ∧ m ≤ 1000000) := ⟨by omega, by omega⟩
  obtain ⟨⟨a, b⟩, c, d, e, f, g⟩ := h.walk
  have r := rest_bd h.s1.1 ht.1
  have r' := rest_bd (t := t + m) h.s1.1 (by omega)
  have e0 : IntKind.i64.wrap (t + m) = t + m := IntWalk.i64_in _ ⟨by omega, by omega⟩
  have e1 : t.tdiv s = t / s := Int.tdiv_eq_ediv_of_nonneg ht.1
  have e2 : (t + m).tdiv s = (t + m) / s := Int.tdiv_eq_ediv_of_nonneg (by omega)
  have e3 : IntKind.i64.wrap (t / s) = t / s := IntWalk.i64_in _ ⟨by omega, by omega⟩
  have e4 : IntKind.i64.wrap ((t + m) / s) = (t + m) / s := IntWalk.i64_in _ ⟨by omega, by omega⟩
  have e5 : IntKind.i64.wrap ((t + m) / s - t / s) = (t + m) / s - t / s := IntWalk.i64_in _ ⟨by omega, by omega⟩
  clear r r' h ht hm
  go_enter Try.func28, Try.ntmps28
  (go_wp2_with fail; refine (isTurn_ok _ _ HT.out).mono ?_; rintro e w' ⟨rfl, rfl⟩)
  (go_wp2_with fail; refine (isTurn_ok _ _ HM.out).mono ?_; rintro e w' ⟨rfl, rfl⟩)
  (go_wp2_with fail; refine (isTeeth_ok HZ.out _).mono ?_; rintro e w' ⟨rfl, rfl⟩)
  go_wp2
  go_quiet (fail)
  go_wp2
  go_returns
  exact ⟨rfl, (by repeat' (first | (with_reducible first | assumption | exact Below.refl _ _ | refine Below.drew ?_ | refine Below.alloc ?_ ?_ _ | refine Below.setCell ?_ ?_ _ | refine below_setR ?_ ?_ _ | refine below_dn ?_ _ | refine Below.trans ?_ (below_mo _ _ _ ?_) | refine Below.trans ?_ (below_mq _ _ ?_) | exact Nat.le_refl _) | (simp; done) | (simp; omega) | omega))⟩
theorem badMove_ok (m : Int) (w : World) (h : -500 ≤ m ∧ m ≤ 899) : Calls Try.prog 136 #[.int .i64 m] w fun e w' => e = .returned (.bool false) ∧ w = w' := by
  have HI := Lib.hid (inM h)
  go_enter Try.func136, Try.ntmps136
  (go_wp2_with fail; refine (within_ok _ _ _ _).mono ?_; rintro e w' ⟨rfl, rfl⟩; rw [HI.out])
  go_wp2
  go_ret
  exact ⟨rfl, rfl⟩
set_option maxHeartbeats 1000000 in
theorem idxMove_ok {L : Option Addr} {ms : List Int} {V : World} {C : Nat} (hl : Nums .i64 V C L ms) (cl : Nat) (w : World) (hv : Below C V w) (hm : mvOK ms) : Calls Try.prog 242 #[.slice L ms.length cl, .func (.func 136) #[] #[]] w fun e w' => e = .returned (.int .i64 (-1)) ∧ Below w.heap.size w w' := by
  have hll := hl.len
  have HM := Lib.hid hm
  clear hm
  go_enter Try.func242, Try.ntmps242
  go_wp2
  go_loopw [8] (fun i wr => ∃ (k : Nat) (os : Array Obj) (d : Nat), k ≤ ms.length ∧ i = .int .i64 k ∧ wr = mo w os d) (fun i _ => ms.length - (intOf i).toNat)
  case atStart => exact ⟨0, #[], _, Nat.zero_le _, rfl, (mo_nil _).symm⟩
  case round =>
    obtain ⟨k, os, d, hk, rfl, rfl⟩ := hrel
    by_cases hlt : k < ms.length
    · obtain ⟨b, off, rfl, hbs, hc⟩ := hl.at hv hlt
      have HB := Lib.hid (HM.out k hlt)
      go_wp2_with (go_at_call 136; refine (badMove_ok _ _ HB.out).mono ?_; rintro e w' ⟨rfl, rfl⟩)
      exact ⟨⟨k + 1, _, _, by omega, by go_num, by first | rfl | exact mo_drewN _ _ _ _⟩, by simp [intOf]; omega⟩
    · obtain rfl : k = ms.length := by omega
      go_wp2
      go_ret
      exact ⟨rfl, (by repeat' (first | (with_reducible first | assumption | exact Below.refl _ _ | refine Below.drew ?_ | refine Below.alloc ?_ ?_ _ | refine Below.setCell ?_ ?_ _ | refine below_setR ?_ ?_ _ | refine below_dn ?_ _ | refine Below.trans ?_ (below_mo _ _ _ ?_) | refine Below.trans ?_ (below_mq _ _ ?_) | exact Nat.le_refl _) | (simp; done) | (simp; omega) | omega))⟩
theorem hasMove_ok {L : Option Addr} {ms : List Int} {V : World} {C : Nat} (hl : Nums .i64 V C L ms) (cl : Nat) (w : World) (hv : Below C V w) (hm : mvOK ms) : Calls Try.prog 135 #[.slice L ms.length cl, .func (.func 136) #[] #[]] w fun e w' => e = .returned (.bool false) ∧ Below w.heap.size w w' := by
  have HM := Lib.hid hm
  clear hm
  go_enter Try.func135, Try.ntmps135
  go_wp2_with (go_at_call 242; refine (idxMove_ok hl _ _ hv HM.out).mono ?_; rintro e w' ⟨rfl, hb_⟩; obtain ⟨os_, d_, rfl⟩ := mo_of hb_; clear hb_)
  go_ret
  exact ⟨rfl, (by repeat' (first | (with_reducible first | assumption | exact Below.refl _ _ | refine Below.drew ?_ | refine Below.alloc ?_ ?_ _ | refine Below.setCell ?_ ?_ _ | refine below_setR ?_ ?_ _ | refine below_dn ?_ _ | refine Below.trans ?_ (below_mo _ _ _ ?_) | refine Below.trans ?_ (below_mq _ _ ?_) | exact Nat.le_refl _) | (simp; done) | (simp; omega) | omega))⟩
set_option maxHeartbeats 4000000 in
theorem implBack_any {z s : Int} (h : TeethOf z s) (t : Int) {L : Option Addr} {ms : List Int} {V : World} {C : Nat} (hl : Nums .i64 V C L ms) (cl : Nat) (w : World) (hv : Below C V w) (hm : mvOK ms) (h6 : ms.length ≤ 6) (ht : 0 ≤ t ∧ t ≤ 100000) :
    Calls Try.prog 30 #[.int .i64 t, .slice L ms.length cl, .int .i64 z] w fun e w' => e = .returned (.tuple #[.int .i64 (bT s t ms ms.length), .int .i64 (bT s t ms ms.length / s - t / s), .int .i64 0]) ∧ Below w.heap.size w w' := by
  have hC := hl.bsz hv
  have HZ := Lib.hid h
  have HT : Hid (0 ≤ t ∧ t ≤ 1000000) := ⟨by omega, by omega⟩
  have HM := Lib.hid hm
  have HB := Lib.hid (bT_bd (ms := ms) h.s1.1 ht.1 hm)
  obtain ⟨⟨a, b⟩, c, d, e, f, g⟩ := h.walk
  obtain ⟨s1, s2⟩ := h.s1
  have g0 : ¬ (100 : Int) < (ms.length : Int) := by omega
  have g0' : ¬ 100 < ms.length := by omega
  clear h hm
  go_enter Try.func30, Try.ntmps30
  (go_wp2_with fail; refine (hasMove_ok hl _ _ hv HM.out).mono ?_; rintro e w' ⟨rfl, hb_⟩; obtain ⟨os0, dn0, rfl⟩ := mo_of hb_; clear hb_)
  (go_wp2_with fail; refine (isTurn_ok _ _ HT.out).mono ?_; rintro e w' ⟨rfl, rfl⟩)
  (go_wp2_with fail; refine (isTeeth_ok HZ.out _).mono ?_; rintro e w' ⟨rfl, rfl⟩)
  go_wp2
  go_loopw [0, 11, 37] (fun q u i wr => ∃ (k : Nat) (os : Array Obj) (dn : Nat), k ≤ ms.length ∧ q = .int .i64 (bT s t ms k) ∧ u = .int .i64 (bT s t ms k / s - t / s) ∧ i = .int .i64 (k : Int) ∧ wr = mo w os dn) (fun _ _ i _ => ms.length - (intOf i).toNat)
  case atStart => exact ⟨0, _, _, Nat.zero_le _, rfl, by rw [show bT s t ms 0 = t from rfl, Int.sub_self], rfl, rfl⟩
  case round =>
    obtain ⟨k, os, dn, hk, rfl, rfl, rfl, rfl⟩ := hrel
    by_cases hlt : k < ms.length
    · obtain ⟨b, off, rfl, hbs, hc⟩ := hl.at hv hlt
      have ⟨b0, b1⟩ := HB.out k (by omega)
      have ⟨b2, b3⟩ := HB.out (k + 1) (by omega)
      have m0 := HM.out k hlt
      have r := rest_bd (t := bT s t ms k) s1 b0
      have r' := rest_bd (t := bT s t ms (k + 1)) s1 b2
      have rt := rest_bd (t := t) s1 ht.1
      obtain ⟨T, hT⟩ : ∃ T, T = bT s t ms k := ⟨_, rfl⟩
      obtain ⟨N, hN⟩ : ∃ N, N = bT s t ms (k + 1) := ⟨_, rfl⟩
      have hNx : N = nxT s T (el ms (k : Int)) := by rw [hN, hT]; rfl
      rw [← hT] at b0 b1 r
      rw [← hN] at b2 b3 r'
      unfold nxT at hNx
      have e1 : T.tmod s = T % s := Int.tmod_eq_emod_of_nonneg b0
      have e2 : IntKind.i64.wrap (T % s) = T % s := IntWalk.i64_in _ ⟨by omega, by omega⟩
      have e3 : IntKind.i64.wrap (T - T % s) = T - T % s := IntWalk.i64_in _ ⟨by omega, by omega⟩
      have e4 : IntKind.i64.wrap (T + el ms (k : Int)) = T + el ms (k : Int) := IntWalk.i64_in _ ⟨by omega, by omega⟩
      have hc5 : (T + el ms (k : Int) < T - T % s ∧ N = T - T % s) ∨ (¬ T + el ms (k : Int) < T - T % s ∧ N = T + el ms (k : Int)) := by omega
      have e6 : N.tdiv s = N / s := Int.tdiv_eq_ediv_of_nonneg b2
      have e7 : T.tdiv s = T / s := Int.tdiv_eq_ediv_of_nonneg b0
      have e8 : IntKind.i64.wrap (N / s) = N / s := IntWalk.i64_in _ ⟨by omega, by omega⟩
      have e9 : IntKind.i64.wrap (T / s) = T / s := IntWalk.i64_in _ ⟨by omega, by omega⟩
      have e10 : IntKind.i64.wrap (N / s - T / s) = N / s - T / s := IntWalk.i64_in _ ⟨by omega, by omega⟩
      have e11 : IntKind.i64.wrap (T / s - t / s + (N / s - T / s)) = N / s - t / s := (IntWalk.i64_in _ ⟨by omega, by omega⟩).trans (by omega)
      have e12 : IntKind.i64.wrap ((k : Int) + 1) = (k : Int) + 1 := IntWalk.i64_in _ ⟨by omega, by omega⟩
      have g1 : ¬ (1000000000000000 : Int) < N := by omega
      have HN := Lib.hid hN
      rw [← hT]
      clear hNx hN hT r r' rt b0 b1 b2 b3 m0
      rcases hc5 with ⟨c5, rfl⟩ | ⟨c5, rfl⟩
      all_goals
        go_wp2
        go_quiet (fail)
        go_wp2
        exact ⟨⟨k + 1, _, _, by omega, by rw [HN.out], by rw [HN.out], by go_num, by first | rfl | exact mo_drewN _ _ _ _⟩, by simp [intOf]; omega⟩
    · obtain rfl : k = ms.length := by omega
      go_wp2
      go_returns
      exact ⟨rfl, (by repeat' (first | (with_reducible first | assumption | exact Below.refl _ _ | refine Below.drew ?_ | refine Below.alloc ?_ ?_ _ | refine Below.setCell ?_ ?_ _ | refine below_setR ?_ ?_ _ | refine below_dn ?_ _ | refine Below.trans ?_ (below_mo _ _ _ ?_) | refine Below.trans ?_ (below_mq _ _ ?_) | exact Nat.le_refl _) | (simp; done) | (simp; omega) | omega))⟩
set_option maxHeartbeats 4000000 in
theorem specBack_any {z s : Int} (h : TeethOf z s) (t : Int) {L : Option Addr} {ms : List Int} {V : World} {C : Nat} (hl : Nums .i64 V C L ms) (cl : Nat) (w : World) (hv : Below C V w) (hm : mvOK ms) (h6 : ms.length ≤ 6) (ht : 0 ≤ t ∧ t ≤ 100000) :
    Calls Try.prog 31 #[.int .i64 t, .slice L ms.length cl, .int .i64 z] w fun e w' => e = .returned (.tuple #[.int .i64 (bT s t ms ms.length), .int .i64 (bT s t ms ms.length / s - t / s), .int .i64 0]) ∧ Below w.heap.size w w' := by
  have hC := hl.bsz hv
  have HZ := Lib.hid h
  have HT : Hid (0 ≤ t ∧ t ≤ 1000000) := ⟨by omega, by omega⟩
  have HM := Lib.hid hm
  have HB := Lib.hid (bT_bd (ms := ms) h.s1.1 ht.1 hm)
  obtain ⟨⟨a, b⟩, c, d, e, f, g⟩ := h.walk
  obtain ⟨s1, s2⟩ := h.s1
  have g0 : (ms.length : Int) ≤ 100 := by omega
  have g0' : ms.length ≤ 100 := by omega
  clear h hm
  go_enter Try.func31, Try.ntmps31
  (go_wp2_with fail; refine (l02Teeth_ok HZ.out _ _ HT.out).mono ?_; rintro e w' ⟨rfl, rfl⟩)
  go_wp2
  go_loopw [9, 10] (fun q i wr => ∃ (k : Nat) (os : Array Obj) (dn : Nat), k ≤ ms.length ∧ q = .bool true ∧ i = .int .i64 (k : Int) ∧ wr = mo w os dn) (fun _ i _ => ms.length - (intOf i).toNat)
  case atStart => exact ⟨0, #[], _, Nat.zero_le _, rfl, rfl, (mo_nil _).symm⟩
  case round =>
    obtain ⟨k, os, dn, hk, rfl, rfl, rfl⟩ := hrel
    by_cases hlt : k < ms.length
    · obtain ⟨b, off, rfl, hbs, hc⟩ := hl.at hv hlt
      have HI := Lib.hid (inM (HM.out k hlt))
      have e12 : IntKind.i64.wrap ((k : Int) + 1) = (k : Int) + 1 := IntWalk.i64_in _ ⟨by omega, by omega⟩
      (go_wp2_with fail; refine (l00In_ok _ _ _ _).mono ?_; rintro e w' ⟨rfl, rfl⟩; rw [HI.out])
      go_wp2
      exact ⟨⟨k + 1, _, _, by omega, rfl, by go_num, by first | rfl | exact mo_drewN _ _ _ _⟩, by simp [intOf]; omega⟩
    · obtain rfl : k = ms.length := by omega
      go_wp2
      go_loopw [0, 12, 13] (fun q u i wr => ∃ (k : Nat) (os : Array Obj) (dn : Nat), k ≤ ms.length ∧ q = .int .i64 (bT s t ms k) ∧ u = .int .i64 (bT s t ms k / s - t / s) ∧ i = .int .i64 (k : Int) ∧ wr = mo w os dn) (fun _ _ i _ => ms.length - (intOf i).toNat)
      case atStart => exact ⟨0, _, _, Nat.zero_le _, rfl, by rw [show bT s t ms 0 = t from rfl, Int.sub_self], rfl, rfl⟩
      case round =>
        obtain ⟨k, os, dn, hk, rfl, rfl, rfl, rfl⟩ := hrel
        by_cases hlt : k < ms.length
        · obtain ⟨b, off, rfl, hbs, hc⟩ := hl.at hv hlt
          have ⟨b0, b1⟩ := HB.out k (by omega)
          have ⟨b2, b3⟩ := HB.out (k + 1) (by omega)
          have m0 := HM.out k hlt
          have r := rest_bd (t := bT s t ms k) s1 b0
          have r' := rest_bd (t := bT s t ms (k + 1)) s1 b2
          have rt := rest_bd (t := t) s1 ht.1
          have re := rest_eq s (bT s t ms k)
          have hns := nx_spec (m := el ms (k : Int)) s1 b0
          obtain ⟨T, hT⟩ : ∃ T, T = bT s t ms k := ⟨_, rfl⟩
          obtain ⟨N, hN⟩ : ∃ N, N = bT s t ms (k + 1) := ⟨_, rfl⟩
          have hNx : N = nxT s T (el ms (k : Int)) := by rw [hN, hT]; rfl
          rw [← hT] at b0 b1 r re hns
          rw [← hN] at b2 b3 r'
          rw [← hNx] at hns
          have e4 : IntKind.i64.wrap (T + el ms (k : Int)) = T + el ms (k : Int) := IntWalk.i64_in _ ⟨by omega, by omega⟩
          have e5 : IntKind.i64.wrap (T / s * s) = T / s * s := IntWalk.i64_in _ ⟨by omega, by omega⟩
          have e6 : N.tdiv s = N / s := Int.tdiv_eq_ediv_of_nonneg b2
          have e7 : T.tdiv s = T / s := Int.tdiv_eq_ediv_of_nonneg b0
          have e8 : IntKind.i64.wrap (N / s) = N / s := IntWalk.i64_in _ ⟨by omega, by omega⟩
          have e9 : IntKind.i64.wrap (T / s) = T / s := IntWalk.i64_in _ ⟨by omega, by omega⟩
          have e10 : IntKind.i64.wrap (N / s - T / s) = N / s - T / s := IntWalk.i64_in _ ⟨by omega, by omega⟩
          have e11 : IntKind.i64.wrap (T / s - t / s + (N / s - T / s)) = N / s - t / s := (IntWalk.i64_in _ ⟨by omega, by omega⟩).trans (by omega)
          have e12 : IntKind.i64.wrap ((k : Int) + 1) = (k : Int) + 1 := IntWalk.i64_in _ ⟨by omega, by omega⟩
          have g1 : ¬ (1000000000000000 : Int) < N := by omega
          have HN := Lib.hid hN
          rw [← hT]
          by_cases hm0 : el ms (k : Int) < 0
          · rw [if_pos hm0] at hns
            have HX := Lib.hid hns.symm
            clear hns hNx hN hT r r' rt re b0 b1 b2 b3 m0
            (go_wp2_with fail; refine (l00Max_ok _ _ _).mono ?_; rintro e w' ⟨rfl, rfl⟩; rw [HX.out])
            go_wp2
            go_quiet (fail)
            go_wp2
            exact ⟨⟨k + 1, _, _, by omega, by rw [HN.out], by rw [HN.out], by go_num, by first | rfl | exact mo_drewN _ _ _ _⟩, by simp [intOf]; omega⟩
          · rw [if_neg hm0] at hns
            clear hNx hN hT r r' rt re b0 b1 b2 b3 m0
            subst hns
            go_wp2
            go_quiet (fail)
            go_wp2
            exact ⟨⟨k + 1, _, _, by omega, by rw [HN.out], by rw [HN.out], by go_num, by first | rfl | exact mo_drewN _ _ _ _⟩, by simp [intOf]; omega⟩
        · obtain rfl : k = ms.length := by omega
          go_wp2
          go_returns
          exact ⟨rfl, (by repeat' (first | (with_reducible first | assumption | exact Below.refl _ _ | refine Below.drew ?_ | refine Below.alloc ?_ ?_ _ | refine Below.setCell ?_ ?_ _ | refine below_setR ?_ ?_ _ | refine below_dn ?_ _ | refine Below.trans ?_ (below_mo _ _ _ ?_) | refine Below.trans ?_ (below_mq _ _ ?_) | exact Nat.le_refl _) | (simp; done) | (simp; omega) | omega))⟩
end Go.Proofs.Ytbihgnmiocfelaa.X
