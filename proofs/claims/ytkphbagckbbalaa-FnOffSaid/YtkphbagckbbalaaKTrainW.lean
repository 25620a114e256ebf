/- Trains: what the program and the reference compute. Conditions: none. -/
import Derived.Test.YtkphbagckbbalaaKGearX
namespace Go.Proofs.Ytkphbagckbbalaa.X
open Go.RowKit
set_option linter.unusedVariables false
set_option linter.unusedSimpArgs false
set_option maxRecDepth 100000
theorem in8 {n : Int} (h : 8 ≤ n ∧ n ≤ 120) : inR n 8 120 = true := inR_t.2 h
theorem l03Teeth_ok {n : Int} (h : 8 ≤ n ∧ n ≤ 120) (w : World) : Calls Try.prog 173 #[.int .i64 n] w fun e w' => e = .returned (.bool true) ∧ w = w' := by
  have HI := Lib.hid (in8 h)
  go_enter Try.func173, Try.ntmps173
  (go_wp2_with fail; refine (l00In_ok _ _ _ _).mono ?_; rintro e w' ⟨rfl, rfl⟩; rw [HI.out])
  go_wp2
  go_ret
  exact ⟨rfl, rfl⟩
set_option maxHeartbeats 2000000 in
theorem l03Train_ok {L : Option Addr} {ts : List (Int × Int)} {V : World} {C : Nat} (hl : Prs .i16 .i16 V C L ts) (cl : Nat) (ht : TrOK ts) (w : World) (hv : Below C V w) : Calls Try.prog 104 #[.slice L ts.length cl] w fun e w' => e = .returned (.bool true) ∧ w = w' := by
  have h4 := ht.len
  have HI : Hid (inR (ts.length : Int) 1 4 = true) := inR_t.2 ⟨by omega, by omega⟩
  have HE := Lib.hid ht.el
  clear ht
  go_enter Try.func104, Try.ntmps104
  (go_wp2_with fail; refine (l00In_ok _ _ _ _).mono ?_; rintro e w' ⟨rfl, rfl⟩; rw [HI.out])
  go_wp2
  go_loop [3] (fun i => ∃ k : Nat, k ≤ ts.length ∧ i = .int .i64 (k : Int)) (fun i => ts.length - (intOf i).toNat)
  case atStart => exact ⟨0, Nat.zero_le _, rfl⟩
  case round =>
    obtain ⟨k, hk, rfl⟩ := hrel
    by_cases hlt : k < ts.length
    · obtain ⟨b, off, rfl, hbs, hc0, hc1⟩ := hl.at hv hlt
      obtain ⟨a1, a2⟩ := HE.out k hlt
      have K1 := Lib.hid (fun W => l03Teeth_ok a1 W)
      have K2 := Lib.hid (fun W => l03Teeth_ok a2 W)
      have g0 : (0 : Int) ≤ (k : Int) := by omega
      have g1 : (k : Int) < (ts.length : Int) := by omega
      have e1 : IntKind.i64.wrap (p1 ts (k : Int)) = p1 ts (k : Int) := IntWalk.i64_in _ ⟨by omega, by omega⟩
      have e2 : IntKind.i64.wrap (p2 ts (k : Int)) = p2 ts (k : Int) := IntWalk.i64_in _ ⟨by omega, by omega⟩
      (go_wp2_with fail; refine (K1.out _).mono ?_; rintro e w' ⟨rfl, rfl⟩)
      (go_wp2_with fail; refine (K2.out _).mono ?_; rintro e w' ⟨rfl, rfl⟩)
      go_wp2
      exact ⟨⟨k + 1, by omega, by go_num⟩, by simp [intOf]; omega⟩
    · go_wp2
      go_ret
      exact ⟨rfl, rfl⟩
theorem isTeeth16_ok {n : Int} (h : 8 ≤ n ∧ n ≤ 120) (w : World) : Calls Try.prog 178 #[.int .i16 n] w fun e w' => e = .returned (.bool true) ∧ w = w' := by
  obtain ⟨h1, h2⟩ := h
  go_enter Try.func178, Try.ntmps178
  go_wp2
  go_ret
  exact ⟨by first | (simp; done) | (simp; omega), rfl⟩
theorem badPair_ok {a b : Int} (ha : 8 ≤ a ∧ a ≤ 120) (hb : 8 ≤ b ∧ b ≤ 120) (w : World) : Calls Try.prog 177 #[.agg #[.int .i16 a, .int .i16 b]] w fun e w' => e = .returned (.bool false) ∧ Below w.heap.size w w' := by
  have K1 := Lib.hid (fun W => isTeeth16_ok ha W)
  have K2 := Lib.hid (fun W => isTeeth16_ok hb W)
  go_enter Try.func177, Try.ntmps177
  (go_wp2_with fail; refine (K1.out _).mono ?_; rintro e w' ⟨rfl, rfl⟩)
  (go_wp2_with fail; refine (K2.out _).mono ?_; rintro e w' ⟨rfl, rfl⟩)
  go_wp2
  go_ret
  exact ⟨rfl, (by repeat' (first | (with_reducible first | assumption | exact Below.refl _ _ | refine Below.drew ?_ | refine Below.alloc ?_ ?_ _ | refine Below.setCell ?_ ?_ _ | refine below_setR ?_ ?_ _ | refine below_dn ?_ _ | refine Below.trans ?_ (below_mo _ _ _ ?_) | refine Below.trans ?_ (below_mq _ _ ?_) | exact Nat.le_refl _) | (simp; done) | (simp; omega) | omega))⟩
set_option maxHeartbeats 1000000 in
theorem idxPair_ok {L : Option Addr} {ts : List (Int × Int)} {V : World} {C : Nat} (hl : Prs .i16 .i16 V C L ts) (cl : Nat) (ht : TrOK ts) (w : World) (hv : Below C V w) : Calls Try.prog 195 #[.slice L ts.length cl, .func (.func 177) #[] #[]] w fun e w' => e = .returned (.int .i64 (-1)) ∧ Below w.heap.size w w' := by
  have hll := hl.len
  have HE := Lib.hid ht.el
  clear ht
  go_enter Try.func195, Try.ntmps195
  go_wp2
  go_loopw [8] (fun i wr => ∃ (k : Nat) (os : Array Obj) (d : Nat), k ≤ ts.length ∧ i = .int .i64 k ∧ wr = mo w os d) (fun i _ => ts.length - (intOf i).toNat)
  case atStart => exact ⟨0, #[], _, Nat.zero_le _, rfl, (mo_nil _).symm⟩
  case round =>
    obtain ⟨k, os, d, hk, rfl, rfl⟩ := hrel
    by_cases hlt : k < ts.length
    · obtain ⟨b, off, rfl, hbs, hc0, hc1⟩ := hl.at hv hlt
      obtain ⟨a1, a2⟩ := HE.out k hlt
      have HB := Lib.hid (fun W => badPair_ok a1 a2 W)
      go_wp2_with (go_at_call 177; refine (HB.out _).mono ?_; rintro e w' ⟨rfl, hb_⟩; obtain ⟨os_, d_, rfl⟩ := mo_of hb_; clear hb_)
      exact ⟨⟨k + 1, _, _, by omega, by go_num, mo_mo _ _ _ _ _⟩, by simp [intOf]; omega⟩
    · obtain rfl : k = ts.length := by omega
      go_wp2
      go_ret
      exact ⟨rfl, (by repeat' (first | (with_reducible first | assumption | exact Below.refl _ _ | refine Below.drew ?_ | refine Below.alloc ?_ ?_ _ | refine Below.setCell ?_ ?_ _ | refine below_setR ?_ ?_ _ | refine below_dn ?_ _ | refine Below.trans ?_ (below_mo _ _ _ ?_) | refine Below.trans ?_ (below_mq _ _ ?_) | exact Nat.le_refl _) | (simp; done) | (simp; omega) | omega))⟩
theorem hasPair_ok {L : Option Addr} {ts : List (Int × Int)} {V : World} {C : Nat} (hl : Prs .i16 .i16 V C L ts) (cl : Nat) (ht : TrOK ts) (w : World) (hv : Below C V w) : Calls Try.prog 176 #[.slice L ts.length cl, .func (.func 177) #[] #[]] w fun e w' => e = .returned (.bool false) ∧ Below w.heap.size w w' := by
  have HT := Lib.hid ht
  clear ht
  go_enter Try.func176, Try.ntmps176
  go_wp2_with (go_at_call 195; refine (idxPair_ok hl _ HT.out _ hv).mono ?_; rintro e w' ⟨rfl, hb_⟩; obtain ⟨os_, d_, rfl⟩ := mo_of hb_; clear hb_)
  go_ret
  exact ⟨rfl, (by repeat' (first | (with_reducible first | assumption | exact Below.refl _ _ | refine Below.drew ?_ | refine Below.alloc ?_ ?_ _ | refine Below.setCell ?_ ?_ _ | refine below_setR ?_ ?_ _ | refine below_dn ?_ _ | refine Below.trans ?_ (below_mo _ _ _ ?_) | refine Below.trans ?_ (below_mq _ _ ?_) | exact Nat.le_refl _) | (simp; done) | (simp; omega) | omega))⟩
theorem ValidTrain_ok {L : Option Addr} {ts : List (Int × Int)} {V : World} {C : Nat} (hl : Prs .i16 .i16 V C L ts) (cl : Nat) (ht : TrOK ts) (w : World) (hv : Below C V w) : Calls Try.prog 108 #[.slice L ts.length cl] w fun e w' => e = .returned (.bool true) ∧ Below w.heap.size w w' := by
  have h4 := ht.len
  have HI : Hid (inR (ts.length : Int) 1 4 = true) := inR_t.2 ⟨by omega, by omega⟩
  have HT := Lib.hid ht
  clear ht
  go_enter Try.func108, Try.ntmps108
  (go_wp2_with fail; refine (within_ok _ _ _ _).mono ?_; rintro e w' ⟨rfl, rfl⟩; rw [HI.out])
  (go_wp2_with fail; refine (hasPair_ok hl _ HT.out _ hv).mono ?_; rintro e w' ⟨rfl, hb_⟩; obtain ⟨os0, d0, rfl⟩ := mo_of hb_; clear hb_)
  go_wp2
  go_ret
  exact ⟨rfl, (by repeat' (first | (with_reducible first | assumption | exact Below.refl _ _ | refine Below.drew ?_ | refine Below.alloc ?_ ?_ _ | refine Below.setCell ?_ ?_ _ | refine below_setR ?_ ?_ _ | refine below_dn ?_ _ | refine Below.trans ?_ (below_mo _ _ _ ?_) | refine Below.trans ?_ (below_mq _ _ ?_) | exact Nat.le_refl _) | (simp; done) | (simp; omega) | omega))⟩
theorem TrOK.mkr {ts : List (Int × Int)} (h : TrOK ts) {k : Nat} (hk : k < ts.length) : MkOK (p1 ts (k : Int)) (p2 ts (k : Int)) := by
  have := h.el k hk
  exact ⟨⟨by omega, by omega⟩, ⟨by omega, by omega⟩⟩
theorem TrOK.rp {ts : List (Int × Int)} (h : TrOK ts) {k : Nat} (hk : k < ts.length) : RtOK (red (p1 ts (k : Int)) (p2 ts (k : Int))) := by
  have a := h.el k hk
  have b := red_pos (h.mkr hk).p.1 (h.mkr hk).q.1
  exact (h.mkr hk).rt (by omega) (by omega)
theorem TrOK.rk {ts : List (Int × Int)} (h : TrOK ts) {k : Nat} (hk : k ≤ ts.length) : RtOK (rtT ts k) := by
  obtain ⟨⟨⟨a1, a2⟩, a3, a4⟩, a5⟩ := rtT_bd h k hk
  have := pw120_bd (k := k) (by have := h.len; omega)
  exact ⟨⟨a1, by omega⟩, ⟨a3, by omega⟩, a5⟩
set_option maxHeartbeats 4000000 in
theorem l03Of_ok {L : Option Addr} {ts : List (Int × Int)} {V : World} {C : Nat} (hl : Prs .i16 .i16 V C L ts) (cl : Nat) (ht : TrOK ts) (w : World) (hv : Below C V w) : Calls Try.prog 105 #[.slice L ts.length cl] w fun e w' => e = .returned (.agg #[.int .i64 (rtO ts).1, .int .i64 (rtO ts).2]) ∧ Below w.heap.size w w' := by
  have h4 := ht.len
  have HE := Lib.hid ht.el
  have KM := Lib.hid (fun (W : World) (k : Nat) (hk : k < ts.length) => l03Made_ok (ht.mkr hk) (ht.rp hk) W)
  have KT := Lib.hid (fun (W : World) (k : Nat) (hk : k < ts.length) => (show Calls Try.prog 142 #[.agg #[.int .i64 (rtT ts k).1, .int .i64 (rtT ts k).2], .agg #[.int .i64 (red (p1 ts (k : Int)) (p2 ts (k : Int))).1, .int .i64 (red (p1 ts (k : Int)) (p2 ts (k : Int))).2]] W fun e w' => e = .returned (.tuple #[.agg #[.int .i64 (rtT ts (k + 1)).1, .int .i64 (rtT ts (k + 1)).2], .int .i64 0]) ∧ Below W.heap.size W w' from
    l03Times_ok (ht.rk (by omega)) (ht.rp hk) ⟨(ht.rk (k := k + 1) (by omega)).p.2, (ht.rk (k := k + 1) (by omega)).q.2⟩ W))
  clear ht
  have HO : Hid (rtO ts = rtT ts ts.length) := rfl
  go_enter Try.func105, Try.ntmps105
  go_wp2
  go_loopw [4] (fun i wr => ∃ (k : Nat) (os : Array Obj) (d : Nat), k ≤ ts.length ∧ i = .int .i64 (k : Int) ∧ wr = mo ((w.alloc (.cells #[.int .i64 0, .int .i64 0] 58)).alloc (.cells #[.int .i64 (rtT ts k).1, .int .i64 (rtT ts k).2] 58)) os d) (fun i _ => ts.length - (intOf i).toNat)
  case atStart => exact ⟨0, #[], _, Nat.zero_le _, rfl, (mo_nil _).symm⟩
  case round =>
    obtain ⟨k, os, d, hk, rfl, rfl⟩ := hrel
    by_cases hlt : k < ts.length
    · obtain ⟨b, off, rfl, hbs, hc0, hc1⟩ := hl.at hv hlt
      obtain ⟨a1, a2⟩ := HE.out k hlt
      have g0 : (0 : Int) ≤ (k : Int) := by omega
      have g1 : (k : Int) < (ts.length : Int) := by omega
      have e1 : IntKind.i64.wrap (p1 ts (k : Int)) = p1 ts (k : Int) := IntWalk.i64_in _ ⟨by omega, by omega⟩
      have e2 : IntKind.i64.wrap (p2 ts (k : Int)) = p2 ts (k : Int) := IntWalk.i64_in _ ⟨by omega, by omega⟩
      have e3 : IntKind.i64.wrap ((k : Int) + 1) = (k : Int) + 1 := IntWalk.i64_in _ ⟨by omega, by omega⟩
      go_wp2
      go_region_with (first | (go_at_call 139; (with_reducible refine (KM.out _ k hlt).mono ?_); rintro e w' ⟨rfl, hb_⟩; obtain ⟨os3, d3, rfl⟩ := mo_of hb_; clear hb_))
      all_goals
        (go_wp2_with fail; refine (KT.out _ k hlt).mono ?_; rintro e w' ⟨rfl, hb_⟩; obtain ⟨os4, d4, rfl⟩ := mo_of hb_; clear hb_)
        go_wp2
        exact ⟨⟨k + 1, _, _, by omega, by go_num, by simp only [mo_mo, mo_alloc, mo_drew, mo_drewN]; rfl⟩, by simp [intOf]; omega⟩
    · obtain rfl : k = ts.length := by omega
      go_wp2
      go_returns
      exact ⟨by rw [HO.out], (by repeat' (first | (with_reducible first | assumption | exact Below.refl _ _ | refine Below.drew ?_ | refine Below.alloc ?_ ?_ _ | refine Below.setCell ?_ ?_ _ | refine below_setR ?_ ?_ _ | refine below_dn ?_ _ | refine Below.trans ?_ (below_mo _ _ _ ?_) | refine Below.trans ?_ (below_mq _ _ ?_) | exact Nat.le_refl _) | (simp; done) | (simp; omega) | omega))⟩
set_option maxHeartbeats 4000000 in
theorem ratio_ok {L : Option Addr} {ts : List (Int × Int)} {V : World} {C : Nat} (hl : Prs .i16 .i16 V C L ts) (cl : Nat) (ht : TrOK ts) (w : World) (hv : Below C V w) : Calls Try.prog 109 #[.slice L ts.length cl] w fun e w' => e = .returned (.agg #[.int .i64 (rtO ts).1, .int .i64 (rtO ts).2]) ∧ Below w.heap.size w w' := by
  have h4 := ht.len
  have HE := Lib.hid ht.el
  have KM := Lib.hid (fun (W : World) (k : Nat) (hk : k < ts.length) => reduced_ok (ht.mkr hk) W)
  have KT := Lib.hid (fun (W : World) (k : Nat) (hk : k < ts.length) => (show Calls Try.prog 140 #[.agg #[.int .i64 (rtT ts k).1, .int .i64 (rtT ts k).2], .agg #[.int .i64 (red (p1 ts (k : Int)) (p2 ts (k : Int))).1, .int .i64 (red (p1 ts (k : Int)) (p2 ts (k : Int))).2]] W fun e w' => e = .returned (.agg #[.int .i64 (rtT ts (k + 1)).1, .int .i64 (rtT ts (k + 1)).2]) ∧ Below W.heap.size W w' from
    times_ok (ht.rk (by omega)) (ht.rp hk) W))
  clear ht
  have HO : Hid (rtO ts = rtT ts ts.length) := rfl
  go_enter Try.func109, Try.ntmps109
  go_wp2
  go_loopw [9] (fun i wr => ∃ (k : Nat) (os : Array Obj) (d : Nat), k ≤ ts.length ∧ i = .int .i64 (k : Int) ∧ wr = mo ((w.alloc (.cells #[.int .i64 0, .int .i64 0] 58)).alloc (.cells #[.int .i64 (rtT ts k).1, .int .i64 (rtT ts k).2] 58)) os d) (fun i _ => ts.length - (intOf i).toNat)
  case atStart => exact ⟨0, #[], _, Nat.zero_le _, rfl, (mo_nil _).symm⟩
  case round =>
    obtain ⟨k, os, d, hk, rfl, rfl⟩ := hrel
    by_cases hlt : k < ts.length
    · obtain ⟨b, off, rfl, hbs, hc0, hc1⟩ := hl.at hv hlt
      obtain ⟨a1, a2⟩ := HE.out k hlt
      have g0 : (0 : Int) ≤ (k : Int) := by omega
      have g1 : (k : Int) < (ts.length : Int) := by omega
      have e1 : IntKind.i64.wrap (p1 ts (k : Int)) = p1 ts (k : Int) := IntWalk.i64_in _ ⟨by omega, by omega⟩
      have e2 : IntKind.i64.wrap (p2 ts (k : Int)) = p2 ts (k : Int) := IntWalk.i64_in _ ⟨by omega, by omega⟩
      have e3 : IntKind.i64.wrap ((k : Int) + 1) = (k : Int) + 1 := IntWalk.i64_in _ ⟨by omega, by omega⟩
      go_wp2
      go_region_with (first | (go_at_call 144; (with_reducible refine (KM.out _ k hlt).mono ?_); rintro e w' ⟨rfl, hb_⟩; obtain ⟨os3, d3, rfl⟩ := mo_of hb_; clear hb_) | (go_at_call 140; (with_reducible refine (KT.out _ k hlt).mono ?_); rintro e w' ⟨rfl, hb_⟩; obtain ⟨os4, d4, rfl⟩ := mo_of hb_; clear hb_))
      all_goals go_wp2
      all_goals exact ⟨⟨k + 1, _, _, by omega, by go_num, by simp only [mo_mo, mo_alloc, mo_drew, mo_drewN]; rfl⟩, by simp [intOf]; omega⟩
    · obtain rfl : k = ts.length := by omega
      go_wp2
      go_returns
      exact ⟨by rw [HO.out], (by repeat' (first | (with_reducible first | assumption | exact Below.refl _ _ | refine Below.drew ?_ | refine Below.alloc ?_ ?_ _ | refine Below.setCell ?_ ?_ _ | refine below_setR ?_ ?_ _ | refine below_dn ?_ _ | refine Below.trans ?_ (below_mo _ _ _ ?_) | refine Below.trans ?_ (below_mq _ _ ?_) | exact Nat.le_refl _) | (simp; done) | (simp; omega) | omega))⟩
end Go.Proofs.Ytkphbagckbbalaa.X
