/- FromTerms, ConvergentsOf; lists compared. Conditions: none. -/
import Derived.Test.YtinjlofefmjolaaKFracX
import Derived.Test.YtinjlofefmjolaaKFracV
import Derived.Laws.CopyOwn
namespace Go.Proofs.Ytinjlofefmjolaa.X
open Go.RowKit
set_option linter.unusedVariables false
set_option linter.unusedSimpArgs false
set_option maxRecDepth 100000
set_option maxHeartbeats 8000000 in
theorem FromTerms_ok {P Q : Int} {N : Nat} (C : CF P Q N) {L : Option Addr} {V : World} {D : Nat} (hl : Nums .i64 V D L (tmT P Q N)) (cl : Nat) (w : World) (hv : Below D V w) : Calls Try.prog 9 #[.slice L N cl] w fun e w' => e = .returned (.tuple #[.agg #[.int .i64 P, .int .i64 Q], .int .i64 0]) ∧ Below w.heap.size w w' := by
  have hN := C.n
  have hD := hl.bsz hv
  have htl := tmT_len P Q N
  have hcl := cvT_len P Q N
  obtain ⟨m, hm⟩ : ∃ m, N = m + 1 := ⟨N - 1, by omega⟩
  have HL : Hid (inR (N : Int) 1 60 = true) := inR_t.2 ⟨by omega, by omega⟩
  have HK := Lib.hid (fun W (hW : Below D V W) => convergents_ok C hl cl W hW)
  have HIN := Lib.hid (fun (n : Nat) (hn : n < N) => (show inR (aT P Q n) (min (n : Int) 1) 1000000000 = true by
    have a := C.abd n hn
    exact inR_t.2 ⟨by by_cases h : 1 ≤ n; (have := a.2 h; omega); omega, by omega⟩))
  have HLAST := Lib.hid C.last
  have h1 : N = 1 → ¬ aT P Q 0 = 0 := fun h => by have := C.only h; omega
  obtain ⟨b, off, rfl, hbs, x0⟩ := hl.at hv (show 0 < (tmT P Q N).length by omega)
  rw [tmT_el P Q (by omega), Nat.add_zero] at x0
  have HX := Lib.hid (fun (k : Nat) (hk : k < N) => (show w.cell? ⟨b, off + k, none⟩ = some (.int .i64 (aT P Q k)) by
    obtain ⟨b', off', e, _, x⟩ := hl.at hv (show k < (tmT P Q N).length by omega)
    obtain ⟨rfl, rfl⟩ := addr_same e
    rw [tmT_el P Q hk] at x
    exact x))
  have e1 : IntKind.i64.wrap ((N : Int) - 1) = (m : Int) := (IntWalk.i64_in _ ⟨by omega, by omega⟩).trans (by omega)
  have gm : (m : Int) < (N : Int) := by omega
  have gm0 : (0 : Int) ≤ (m : Int) := by omega
  have j0 : (0 : Int) < (N : Int) := by omega
  clear C
  by_cases hN1 : N = 1
  all_goals
    first
      | (have b1 : ((N : Int) == 1) = true := beq_iff_eq.2 (by omega)
         have b2 : (aT P Q 0 == 0) = false := beq_eq_false_iff_ne.2 (h1 hN1))
      | (have b1 : ((N : Int) == 1) = false := beq_eq_false_iff_ne.2 (by omega)
         have b3 : ¬ (N : Int) = 1 := by omega)
    have HN1 := Lib.hid hN1
    have HM := Lib.hid hm
    clear hN1 h1 hm
    go_enter Try.func9, Try.ntmps9
    (go_wp2_with fail; refine (within_ok _ _ _ _).mono ?_; rintro e w' ⟨rfl, rfl⟩; rw [HL.out])
    go_wp2
    go_loopw [26] (fun i wr => ∃ k : Nat, k ≤ N ∧ i = .int .i64 (k : Int) ∧ wr = w.alloc (.cells #[.int .i64 0, .int .i64 0] 25)) (fun i _ => N - (intOf i).toNat)
    case atStart => exact ⟨0, Nat.zero_le _, rfl, rfl⟩
    case round =>
      obtain ⟨k, hk, rfl, rfl⟩ := hrel
      by_cases hlt : k < N
      · have x1 := HX.out k hlt
        have g0 : (k : Int) < (N : Int) := by omega
        have g00 : (0 : Int) ≤ (k : Int) := by omega
        have hin := HIN.out k hlt
        by_cases hk2 : k ≤ 1
        · have g2 : ¬ (1 : Int) < (k : Int) := by omega
          rw [show min (k : Int) 1 = (k : Int) by omega] at hin
          have HI := Lib.hid hin
          clear hin
          (go_wp2_with fail; refine (within_ok _ _ _ _).mono ?_; rintro e w' ⟨rfl, rfl⟩; rw [HI.out])
          go_wp2
          exact ⟨⟨k + 1, by omega, by go_num, by trivial⟩, by simp [intOf]; omega⟩
        · have g2 : (1 : Int) < (k : Int) := by omega
          rw [show min (k : Int) 1 = 1 by omega] at hin
          have HI := Lib.hid hin
          clear hin
          (go_wp2_with fail; refine (within_ok _ _ _ _).mono ?_; rintro e w' ⟨rfl, rfl⟩; rw [HI.out])
          go_wp2
          exact ⟨⟨k + 1, by omega, by go_num, by trivial⟩, by simp [intOf]; omega⟩
      · obtain rfl : k = N := by omega
        have g0 : ¬ (k : Int) < (k : Int) := by omega
        (go_wp2_with fail; refine (HK.out _ (by repeat' (first | (with_reducible first | assumption | exact Below.refl _ _ | refine Below.drew ?_ | refine Below.alloc ?_ ?_ _ | refine Below.setCell ?_ ?_ _ | refine below_setR ?_ ?_ _ | refine below_dn ?_ _ | refine Below.trans ?_ (below_mo _ _ _ ?_) | refine Below.trans ?_ (below_mq _ _ ?_) | exact Nat.le_refl _) | (simp; done) | (simp; omega) | omega))).mono ?_; rintro e w' ⟨v, rfl, hown, hb_⟩)
        obtain ⟨A, c, rfl, N1⟩ := own_prs (log := cvT P Q k) (by rw [hcl]; exact hown) (by omega)
        rw [hcl]
        have hw' := hb_.size
        obtain ⟨b', off', rfl, _, y0, y1⟩ := N1.at (Below.refl _ _) (k := m) (by rw [hcl]; omega)
        have hp := cvT_p P Q (n := k) (k := m) (by omega)
        rw [hp.1, show m + 2 = k + 1 by have := HM.out; omega, HLAST.out] at y0
        rw [hp.2, show m + 2 = k + 1 by have := HM.out; omega, HLAST.out] at y1
        clear hp N1 hown
        obtain ⟨os_, d_, rfl⟩ := mo_of hb_
        clear hb_
        go_wp2
        go_returns
        exact ⟨rfl, (by repeat' (first | (with_reducible first | assumption | exact Below.refl _ _ | refine Below.drew ?_ | refine Below.alloc ?_ ?_ _ | refine Below.setCell ?_ ?_ _ | refine below_setR ?_ ?_ _ | refine below_dn ?_ _ | refine Below.trans ?_ (below_mo _ _ _ ?_) | refine Below.trans ?_ (below_mq _ _ ?_) | exact Nat.le_refl _) | (simp; done) | (simp; omega) | omega))⟩
theorem isZero_0 (q : Int) (w : World) : Calls Try.prog 47 #[.agg #[.int .i64 0, .int .i64 q]] w fun e w' => e = .returned (.bool true) ∧ Below w.heap.size w w' := by
  go_enter Try.func47, Try.ntmps47
  go_wp2
  go_ret
  exact ⟨rfl, (by repeat' (first | (with_reducible first | assumption | exact Below.refl _ _ | refine Below.drew ?_ | refine Below.alloc ?_ ?_ _ | refine Below.setCell ?_ ?_ _ | refine below_setR ?_ ?_ _ | refine below_dn ?_ _ | refine Below.trans ?_ (below_mo _ _ _ ?_) | refine Below.trans ?_ (below_mq _ _ ?_) | exact Nat.le_refl _) | (simp; done) | (simp; omega) | omega))⟩
theorem isZero_n (p q : Int) (h : ¬ p = 0) (w : World) : Calls Try.prog 47 #[.agg #[.int .i64 p, .int .i64 q]] w fun e w' => e = .returned (.bool false) ∧ Below w.heap.size w w' := by
  have b0 : (p == 0) = false := beq_eq_false_iff_ne.2 h
  go_enter Try.func47, Try.ntmps47
  go_wp2
  go_ret
  exact ⟨rfl, (by repeat' (first | (with_reducible first | assumption | exact Below.refl _ _ | refine Below.drew ?_ | refine Below.alloc ?_ ?_ _ | refine Below.setCell ?_ ?_ _ | refine below_setR ?_ ?_ _ | refine below_dn ?_ _ | refine Below.trans ?_ (below_mo _ _ _ ?_) | refine Below.trans ?_ (below_mq _ _ ?_) | exact Nat.le_refl _) | (simp; done) | (simp; omega) | omega))⟩
set_option maxHeartbeats 1000000 in
theorem idxR_no {L : Option Addr} {ts : List (Int × Int)} {V : World} {C : Nat} (hl : Prs .i64 .i64 V C L ts) (cl : Nat) (hz : ∀ k : Nat, k < ts.length → ¬ p1 ts (k : Int) = 0) (w : World) (hv : Below C V w) : Calls Try.prog 88 #[.slice L ts.length cl, .func (.func 47) #[] #[]] w fun e w' => e = .returned (.int .i64 (-1)) ∧ Below w.heap.size w w' := by
  have hll := hl.len
  have HZ := Lib.hid hz
  clear hz
  go_enter Try.func88, Try.ntmps88
  go_wp2
  go_loopw [8] (fun i wr => ∃ (k : Nat) (os : Array Obj) (d : Nat), k ≤ ts.length ∧ i = .int .i64 k ∧ wr = mo w os d) (fun i _ => ts.length - (intOf i).toNat)
  case atStart => exact ⟨0, #[], _, Nat.zero_le _, rfl, (mo_nil _).symm⟩
  case round =>
    obtain ⟨k, os, d, hk, rfl, rfl⟩ := hrel
    by_cases hlt : k < ts.length
    · obtain ⟨b, off, rfl, hbs, hc0, hc1⟩ := hl.at hv hlt
      have z1 := HZ.out k hlt
      have z2 : (p1 ts (k : Int) == 0) = false := beq_eq_false_iff_ne.2 z1
      go_wp2_with (go_at_call 47; refine (isZero_n _ _ z1 _).mono ?_; rintro e w' ⟨rfl, hb_⟩; obtain ⟨os_, d_, rfl⟩ := mo_of hb_; clear hb_)
      exact ⟨⟨k + 1, _, _, by omega, by go_num, mo_mo _ _ _ _ _⟩, by simp [intOf]; omega⟩
    · obtain rfl : k = ts.length := by omega
      go_wp2
      go_ret
      exact ⟨rfl, (by repeat' (first | (with_reducible first | assumption | exact Below.refl _ _ | refine Below.drew ?_ | refine Below.alloc ?_ ?_ _ | refine Below.setCell ?_ ?_ _ | refine below_setR ?_ ?_ _ | refine below_dn ?_ _ | refine Below.trans ?_ (below_mo _ _ _ ?_) | refine Below.trans ?_ (below_mq _ _ ?_) | exact Nat.le_refl _) | (simp; done) | (simp; omega) | omega))⟩
set_option maxHeartbeats 1000000 in
theorem idxR_0 {L : Option Addr} {ts : List (Int × Int)} {V : World} {C : Nat} (hl : Prs .i64 .i64 V C L ts) (cl : Nat) (h0 : 0 < ts.length) (hz : p1 ts ((0 : Nat) : Int) = 0) (w : World) (hv : Below C V w) : Calls Try.prog 88 #[.slice L ts.length cl, .func (.func 47) #[] #[]] w fun e w' => e = .returned (.int .i64 0) ∧ Below w.heap.size w w' := by
  have hll := hl.len
  obtain ⟨b, off, rfl, hbs, hc0, hc1⟩ := hl.at hv h0
  rw [hz] at hc0
  simp only [Nat.zero_mul, Nat.add_zero, Nat.zero_add] at hc0 hc1
  have g0 : (0 : Int) < (ts.length : Int) := by omega
  go_enter Try.func88, Try.ntmps88
  go_wp2
  refine wp_loop_rounds 1 ?_
  rw [rounds_succ]
  go_wp2_with (go_at_call 47; refine (isZero_0 _ _).mono ?_; rintro e w' ⟨rfl, hb_⟩; obtain ⟨os_, d_, rfl⟩ := mo_of hb_; clear hb_)
  go_ret
  exact ⟨rfl, (by repeat' (first | (with_reducible first | assumption | exact Below.refl _ _ | refine Below.drew ?_ | refine Below.alloc ?_ ?_ _ | refine Below.setCell ?_ ?_ _ | refine below_setR ?_ ?_ _ | refine below_dn ?_ _ | refine Below.trans ?_ (below_mo _ _ _ ?_) | refine Below.trans ?_ (below_mq _ _ ?_) | exact Nat.le_refl _) | (simp; done) | (simp; omega) | omega))⟩
set_option maxHeartbeats 2000000 in
theorem l00Same_ok {L L' : Option Addr} {xs : List Int} {V V' : World} {C C' : Nat} (hl : Nums .i64 V C L xs) (hl' : Nums .i64 V' C' L' xs) (n c c' : Nat) (hn : xs.length = n) (w : World) (hv : Below C V w) (hv' : Below C' V' w) :
    Calls Try.prog 49 #[.slice L n c, .slice L' n c'] w fun e w' => e = .returned (.bool true) ∧ Below w.heap.size w w' := by
  subst hn
  have hll := hl.len
  go_enter Try.func49, Try.ntmps49
  go_wp2
  go_loopw [5] (fun i wr => ∃ k : Nat, k ≤ xs.length ∧ i = .int .i64 k ∧ ∃ os d, wr = mo w os d) (fun i _ => xs.length - (intOf i).toNat)
  case atStart => exact ⟨0, Nat.zero_le _, rfl, #[], _, (mo_nil _).symm⟩
  case round =>
    obtain ⟨k, hk, rfl, os, d, rfl⟩ := hrel
    by_cases hlt : k < xs.length
    · obtain ⟨b, off, rfl, hbs, hc0⟩ := hl.at hv hlt
      obtain ⟨b', off', rfl, hbs', hc0'⟩ := hl'.at hv' hlt
      have h0 : (0 : Int) ≤ (k : Int) := by omega
      have h1 : (k : Int) < (xs.length : Int) := by omega
      go_wp2
      go_quiet (fail)
      go_wp2
      exact ⟨⟨k + 1, by omega, by go_num, mo_of (by repeat' (first | (with_reducible first | assumption | exact Below.refl _ _ | refine Below.drew ?_ | refine Below.alloc ?_ ?_ _ | refine Below.setCell ?_ ?_ _ | refine below_setR ?_ ?_ _ | refine below_dn ?_ _ | refine Below.trans ?_ (below_mo _ _ _ ?_) | refine Below.trans ?_ (below_mq _ _ ?_) | exact Nat.le_refl _) | (simp; done) | (simp; omega) | omega))⟩, by simp [intOf]; omega⟩
    · go_wp2
      go_ret
      exact ⟨rfl, (by repeat' (first | (with_reducible first | assumption | exact Below.refl _ _ | refine Below.drew ?_ | refine Below.alloc ?_ ?_ _ | refine Below.setCell ?_ ?_ _ | refine below_setR ?_ ?_ _ | refine below_dn ?_ _ | refine Below.trans ?_ (below_mo _ _ _ ?_) | refine Below.trans ?_ (below_mq _ _ ?_) | exact Nat.le_refl _) | (simp; done) | (simp; omega) | omega))⟩
theorem SameNumbers_ok {L L' : Option Addr} {xs : List Int} {V V' : World} {C C' : Nat} (hl : Nums .i64 V C L xs) (hl' : Nums .i64 V' C' L' xs) (n c c' : Nat) (hn : xs.length = n) (w : World) (hv : Below C V w) (hv' : Below C' V' w) :
    Calls Try.prog 12 #[.slice L n c, .slice L' n c'] w fun e w' => e = .returned (.bool true) ∧ Below w.heap.size w w' := by
  go_enter Try.func12, Try.ntmps12
  (go_wp2_with fail; refine (l00Same_ok hl hl' _ _ _ hn _ hv hv').mono ?_; rintro e w' ⟨rfl, hb_⟩; obtain ⟨os0, d0, rfl⟩ := mo_of hb_; clear hb_)
  go_wp2
  go_ret
  exact ⟨rfl, (by repeat' (first | (with_reducible first | assumption | exact Below.refl _ _ | refine Below.drew ?_ | refine Below.alloc ?_ ?_ _ | refine Below.setCell ?_ ?_ _ | refine below_setR ?_ ?_ _ | refine below_dn ?_ _ | refine Below.trans ?_ (below_mo _ _ _ ?_) | refine Below.trans ?_ (below_mq _ _ ?_) | exact Nat.le_refl _) | (simp; done) | (simp; omega) | omega))⟩
set_option maxHeartbeats 2000000 in
theorem SameRatios_ok {L L' : Option Addr} {xs : List (Int × Int)} {V V' : World} {C C' : Nat} (hl : Prs .i64 .i64 V C L xs) (hl' : Prs .i64 .i64 V' C' L' xs) (n c c' : Nat) (hn : xs.length = n) (w : World) (hv : Below C V w) (hv' : Below C' V' w) :
    Calls Try.prog 13 #[.slice L n c, .slice L' n c'] w fun e w' => e = .returned (.bool true) ∧ Below w.heap.size w w' := by
  subst hn
  have hll := hl.len
  go_enter Try.func13, Try.ntmps13
  go_wp2
  go_loopw [5] (fun i wr => ∃ k : Nat, k ≤ xs.length ∧ i = .int .i64 k ∧ ∃ os d, wr = mo w os d) (fun i _ => xs.length - (intOf i).toNat)
  case atStart => exact ⟨0, Nat.zero_le _, rfl, #[], _, (mo_nil _).symm⟩
  case round =>
    obtain ⟨k, hk, rfl, os, d, rfl⟩ := hrel
    by_cases hlt : k < xs.length
    · obtain ⟨b, off, rfl, hbs, hc0, hc1⟩ := hl.at hv hlt
      obtain ⟨b', off', rfl, hbs', hc0', hc1'⟩ := hl'.at hv' hlt
      have h0 : (0 : Int) ≤ (k : Int) := by omega
      have h1 : (k : Int) < (xs.length : Int) := by omega
      go_wp2
      go_quiet (fail)
      go_wp2
      exact ⟨⟨k + 1, by omega, by go_num, mo_of (by repeat' (first | (with_reducible first | assumption | exact Below.refl _ _ | refine Below.drew ?_ | refine Below.alloc ?_ ?_ _ | refine Below.setCell ?_ ?_ _ | refine below_setR ?_ ?_ _ | refine below_dn ?_ _ | refine Below.trans ?_ (below_mo _ _ _ ?_) | refine Below.trans ?_ (below_mq _ _ ?_) | exact Nat.le_refl _) | (simp; done) | (simp; omega) | omega))⟩, by simp [intOf]; omega⟩
    · go_wp2
      go_ret
      exact ⟨rfl, (by repeat' (first | (with_reducible first | assumption | exact Below.refl _ _ | refine Below.drew ?_ | refine Below.alloc ?_ ?_ _ | refine Below.setCell ?_ ?_ _ | refine below_setR ?_ ?_ _ | refine below_dn ?_ _ | refine Below.trans ?_ (below_mo _ _ _ ?_) | refine Below.trans ?_ (below_mq _ _ ?_) | exact Nat.le_refl _) | (simp; done) | (simp; omega) | omega))⟩
end Go.Proofs.Ytinjlofefmjolaa.X
