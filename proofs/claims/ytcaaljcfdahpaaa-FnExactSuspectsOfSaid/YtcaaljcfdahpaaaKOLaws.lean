/- What the laws do with motions: they are copied and compared. Conditions: none. -/
import Derived.Test.YtcaaljcfdahpaaaKMot
namespace Go.Proofs.Ytcaaljcfdahpaaa.X
open Go.RowKit
set_option linter.unusedVariables false
set_option linter.unusedSimpArgs false
set_option maxRecDepth 100000
set_option maxHeartbeats 400000 in
theorem toJoint_any (x y : Int) (w : World) : Calls Try.prog 131 #[.agg #[.int .i8 x, .int .i16 y]] w fun e w' => e = .returned (.agg #[.int .i8 x, .int .i16 y]) ∧ Below w.heap.size w w' := by
  go_enter Try.func131, Try.ntmps131
  go_wp2
  exact bodyPost_ret (v := .agg #[.int .i8 x, .int .i16 y]) (by simp [results, Try.results131, go_sem]) rfl ⟨rfl, (by repeat' (first | (with_reducible first | assumption | exact Below.refl _ _ | refine Below.drew ?_ | refine Below.alloc ?_ ?_ _ | refine Below.setCell ?_ ?_ _ | refine below_setR ?_ ?_ _ | refine below_dn ?_ _ | refine Below.trans ?_ (below_mo _ _ _ ?_) | refine Below.trans ?_ (below_mq _ _ ?_) | exact Nat.le_refl _) | (simp; done) | (simp; omega) | omega))⟩
set_option maxHeartbeats 400000 in
theorem eqJoint_same (x y : Int) (w : World) : Calls Try.prog 136 #[.agg #[.int .i8 x, .int .i16 y], .agg #[.int .i8 x, .int .i16 y]] w fun e w' => e = .returned (.bool true) ∧ Below w.heap.size w w' := by
  go_enter Try.func136, Try.ntmps136
  go_wp2
  go_ret
  exact ⟨rfl, (by repeat' (first | (with_reducible first | assumption | exact Below.refl _ _ | refine Below.drew ?_ | refine Below.alloc ?_ ?_ _ | refine Below.setCell ?_ ?_ _ | refine below_setR ?_ ?_ _ | refine below_dn ?_ _ | refine Below.trans ?_ (below_mo _ _ _ ?_) | refine Below.trans ?_ (below_mq _ _ ?_) | exact Nat.le_refl _) | (simp; done) | (simp; omega) | omega))⟩
theorem szJointS_ok {A : Option Addr} (n c : Nat) (left : Int) (h0 : 0 ≤ left) (h1 : left ≤ 1048576) (w : World) (hl : ¬ left < (n : Int)) : Calls Try.prog 92 #[.slice A n c, .int .i64 left] w fun e w' => e = .returned (.int .i64 (left - n)) ∧ w = w' := by
  have h2 : (n : Int) ≤ left := by omega
  go_enter Try.func92, Try.ntmps92
  go_wp2
  go_ret
  exact ⟨rfl, rfl⟩
theorem szJointS_big {A : Option Addr} (n c : Nat) (left : Int) (h0 : 0 ≤ left) (h1 : left ≤ 1048576) (w : World) (hl : left < (n : Int)) (hn : n ≤ 9223372036854775807) : Calls Try.prog 92 #[.slice A n c, .int .i64 left] w fun e w' => e = .returned (.int .i64 (-1)) ∧ w = w' := by
  go_enter Try.func92, Try.ntmps92
  go_wp2
  go_ret
  exact ⟨rfl, rfl⟩
theorem infoP158 : (Try.prog.info? 158).map (fun i => (i.zero, i.size, i.bytes)) = some (some (.agg #[.int .i8 0, .int .i16 0]), 2, 4) := by kernel_rfl
set_option maxHeartbeats 1000000 in
theorem toJointS_new {L : Option Addr} {log : List (Int × Int)} {V : World} {C : Nat} (hl : Prs .i8 .i16 V C L log) (cl : Nat) (w : World) (hv : Below C V w) :
    Calls Try.prog 94 #[.slice L log.length cl] w (RetP2 .i8 .i16 log w) := by
  obtain ⟨i0, hi, hz0, hz1, hz2⟩ := info_parts infoP158
  have hll := hl.len
  have hmk : ∀ W : World, (Instr.makeSlice 56 (.int .i64 (log.length : Int)) (.int .i64 (log.length : Int))).run Try.prog W = .ok (.slice (some ⟨W.heap.size, 0, none⟩) log.length log.length) (W.alloc (.cells (madeCells #[.int .i8 0, .int .i16 0] (log.length * 2)) 158)) := fun W => by
    have := run_make (P := Try.prog) W 56 158 i0 _ Try.underlying56 hi hz0 .i64 .i64 log.length log.length (by omega) (by omega) (by rw [hz2]; omega) (by omega)
    rw [hz1, Int.toNat_natCast] at this
    exact this
  clear hi hz0 hz1 hz2
  go_enter Try.func94, Try.ntmps94
  go_wp2
  clear hmk
  go_loopw [4] (fun i wr => ∃ (k : Nat) (cur : Array Value) (os : Array Obj) (d : Nat), k ≤ log.length ∧ i = .int .i64 k ∧ wr = mo (w.alloc (.cells cur 158)) os d ∧ cur.size = log.length * 2 ∧ Fill 2 (encP .i8 .i16) cur log k) (fun i _ => log.length - (intOf i).toNat)
  case atStart => exact ⟨0, _, #[], _, Nat.zero_le _, rfl, (mo_nil _).symm, size_madeCells _ _, Fill.zero⟩
  case round =>
    obtain ⟨k, cur, os, d, hk, rfl, rfl, hcur, hall⟩ := hrel
    have HC := Lib.hid hcur
    have HA := Lib.hid hall
    clear hcur hall
    by_cases hlt : k < log.length
    · obtain ⟨b, off, rfl, hbs, hc0, hc1⟩ := hl.at hv hlt
      obtain ⟨v0, hv0⟩ : ∃ v, cur[k * 2]? = some v := ⟨_, Array.getElem?_eq_getElem (by have := HC.out; omega)⟩
      obtain ⟨v1, hv1⟩ : ∃ v, cur[k * 2 + 1]? = some v := ⟨_, Array.getElem?_eq_getElem (by have := HC.out; omega)⟩
      go_wp2_with (go_at_call 131; refine (toJoint_any _ _ _).mono ?_; rintro e w' ⟨rfl, hb_⟩; obtain ⟨os_, d_, rfl⟩ := mo_of hb_; clear hb_)
      exact ⟨⟨k + 1, _, _, _, by omega, by go_num, mo_mo _ _ _ _ _, by simp [HC.out], Fill.step2 HA.out (by have := HC.out; omega)⟩, by simp [intOf]; omega⟩
    · obtain rfl : k = log.length := by omega
      go_wp2
      go_ret
      exact ⟨_, _, rfl, ⟨HA.out.done (Nat.le_refl _), hl.len, Nat.le_refl _⟩, fun b off e => (by injection e with e; injection e with e1; omega), (by repeat' (first | (with_reducible first | assumption | exact Below.refl _ _ | refine Below.drew ?_ | refine Below.alloc ?_ ?_ _ | refine Below.setCell ?_ ?_ _ | refine below_setR ?_ ?_ _ | refine below_dn ?_ _ | refine Below.trans ?_ (below_mo _ _ _ ?_) | refine Below.trans ?_ (below_mq _ _ ?_) | exact Nat.le_refl _) | (simp; done) | (simp; omega) | omega))⟩
theorem toJointS_any {L : Option Addr} {log : List (Int × Int)} {V : World} {C : Nat} (hl : Prs .i8 .i16 V C L log) (cl : Nat) (w : World) (hv : Below C V w) : Calls Try.prog 94 #[.slice L log.length cl] w (RetP .i8 .i16 log w) := (toJointS_new hl cl w hv).mono fun _ _ => retP_of
set_option maxHeartbeats 1000000 in
theorem eqJointS_same {L L' : Option Addr} {log : List (Int × Int)} {V V' : World} {C C' : Nat} (hl : Prs .i8 .i16 V C L log) (hl' : Prs .i8 .i16 V' C' L' log) (c c' : Nat) (w : World) (hv : Below C V w) (hv' : Below C' V' w) :
    Calls Try.prog 98 #[.slice L log.length c, .slice L' log.length c'] w fun e w' => e = .returned (.bool true) ∧ Below w.heap.size w w' := by
  have hll := hl.len
  go_enter Try.func98, Try.ntmps98
  go_wp2
  go_loopw [5] (fun i wr => ∃ k : Nat, k ≤ log.length ∧ i = .int .i64 k ∧ ∃ os d, wr = mo w os d) (fun i _ => log.length - (intOf i).toNat)
  case atStart => exact ⟨0, Nat.zero_le _, rfl, #[], _, (mo_nil _).symm⟩
  case round =>
    obtain ⟨k, hk, rfl, os, d, rfl⟩ := hrel
    by_cases hlt : k < log.length
    · obtain ⟨b, off, rfl, hbs, hc0, hc1⟩ := hl.at hv hlt
      obtain ⟨b', off', rfl, hbs', hc0', hc1'⟩ := hl'.at hv' hlt
      have h0 : (0 : Int) ≤ (k : Int) := by omega
      have h1 : (k : Int) < (log.length : Int) := by omega
      go_wp2
      (refine wp_region_mq (by kernel_rfl) (by kernel_rfl) ?_; (repeat (first | go_big_quiet_step ((first | (go_at_call 136; with_reducible exact quietQ (eqJoint_same _ _ _) ))) | quiet_step ((first | (go_at_call 136; with_reducible exact quietQ (eqJoint_same _ _ _) ))))); refine wpQuiet_nil ?_; intro _ hq_; obtain ⟨q_, rfl⟩ := hq_)
      go_wp2
      exact ⟨⟨k + 1, by omega, by go_num, mo_of (by repeat' (first | (with_reducible first | assumption | exact Below.refl _ _ | refine Below.drew ?_ | refine Below.alloc ?_ ?_ _ | refine Below.setCell ?_ ?_ _ | refine below_setR ?_ ?_ _ | refine below_dn ?_ _ | refine Below.trans ?_ (below_mo _ _ _ ?_) | refine Below.trans ?_ (below_mq _ _ ?_) | exact Nat.le_refl _) | (simp; done) | (simp; omega) | omega))⟩, by simp [intOf]; omega⟩
    · go_wp2
      go_ret
      exact ⟨rfl, (by repeat' (first | (with_reducible first | assumption | exact Below.refl _ _ | refine Below.drew ?_ | refine Below.alloc ?_ ?_ _ | refine Below.setCell ?_ ?_ _ | refine below_setR ?_ ?_ _ | refine below_dn ?_ _ | refine Below.trans ?_ (below_mo _ _ _ ?_) | refine Below.trans ?_ (below_mq _ _ ?_) | exact Nat.le_refl _) | (simp; done) | (simp; omega) | omega))⟩
theorem Nums.up {q : IntKind} {W w : World} {A : Option Addr} {xs : List Int} (h : Nums q W W.heap.size A xs) (hb : Below W.heap.size W w) : Nums q w w.heap.size A xs := ⟨h.sl.keep hb (Nat.le_refl _) hb.size, h.len, Nat.le_refl _⟩
theorem Prs.up {k0 k1 : IntKind} {W w : World} {A : Option Addr} {xs : List (Int × Int)} (h : Prs k0 k1 W W.heap.size A xs) (hb : Below W.heap.size W w) : Prs k0 k1 w w.heap.size A xs := ⟨h.sl.keep hb (Nat.le_refl _) hb.size, h.len, Nat.le_refl _⟩
theorem szStk_big {A : Option Addr} (n c : Nat) (left : Int) (h0 : 0 ≤ left) (h1 : left ≤ 1048576) (w : World) (hl : left < (n : Int)) (hn : n ≤ 9223372036854775807) : Calls Try.prog 91 #[.slice A n c, .int .i64 left] w fun e w' => e = .returned (.int .i64 (-1)) ∧ w = w' := by
  go_enter Try.func91, Try.ntmps91
  go_wp2
  go_ret
  exact ⟨rfl, rfl⟩
theorem szStk_ok {A : Option Addr} (n c : Nat) (left : Int) (h0 : 0 ≤ left) (h1 : left ≤ 1048576) (w : World) (hl : ¬ left < (n : Int)) : Calls Try.prog 91 #[.slice A n c, .int .i64 left] w fun e w' => e = .returned (.int .i64 (left - n)) ∧ w = w' := by
  have h2 : (n : Int) ≤ left := by omega
  go_enter Try.func91, Try.ntmps91
  go_wp2
  go_ret
  exact ⟨rfl, rfl⟩
/-- what is left of a measure behind a motion -/
def szO (left : Int) (n m : Nat) : Int := if left < (n : Int) then -1 else if left - n < (m : Int) then -1 else left - n - m
set_option maxHeartbeats 1000000 in
theorem szMotion_any {A L : Option Addr} (n c m d : Nat) (left : Int) (h0 : 0 ≤ left) (h1 : left ≤ 1048576) (w : World) (hn : n ≤ 9223372036854775807) (hm : m ≤ 9223372036854775807) : Calls Try.prog 32 #[.agg #[.slice A n c, .slice L m d], .int .i64 left] w fun e w' => e = .returned (.int .i64 (szO left n m)) ∧ Below w.heap.size w w' := by
  by_cases hl : left < (n : Int)
  · have HR : Hid (szO left n m = -1) := by unfold Hid szO; rw [if_pos hl]
    go_enter Try.func32, Try.ntmps32
    go_wp2_with (go_at_call 91; refine (szStk_big n c left h0 h1 _ hl hn).mono ?_; rintro e w' ⟨rfl, rfl⟩)
    go_ret
    exact ⟨(by first | (rw [HR.out]; done) | (rw [HR.out]; rfl)), (by repeat' (first | (with_reducible first | assumption | exact Below.refl _ _ | refine Below.drew ?_ | refine Below.alloc ?_ ?_ _ | refine Below.setCell ?_ ?_ _ | refine below_setR ?_ ?_ _ | refine below_dn ?_ _ | refine Below.trans ?_ (below_mo _ _ _ ?_) | refine Below.trans ?_ (below_mq _ _ ?_) | exact Nat.le_refl _) | (simp; done) | (simp; omega) | omega))⟩
  · by_cases hk : left - n < (m : Int)
    · have HR : Hid (szO left n m = -1) := by unfold Hid szO; rw [if_neg hl, if_pos hk]
      go_enter Try.func32, Try.ntmps32
      go_wp2_with (first | (go_at_call 91; refine (szStk_ok n c left h0 h1 _ (by omega)).mono ?_; rintro e w' ⟨rfl, rfl⟩) | (go_at_call 92; refine (szJointS_big m d (left - n) (by omega) (by omega) _ hk hm).mono ?_; rintro e w' ⟨rfl, rfl⟩))
      go_ret
      exact ⟨(by first | (rw [HR.out]; done) | (rw [HR.out]; rfl)), (by repeat' (first | (with_reducible first | assumption | exact Below.refl _ _ | refine Below.drew ?_ | refine Below.alloc ?_ ?_ _ | refine Below.setCell ?_ ?_ _ | refine below_setR ?_ ?_ _ | refine below_dn ?_ _ | refine Below.trans ?_ (below_mo _ _ _ ?_) | refine Below.trans ?_ (below_mq _ _ ?_) | exact Nat.le_refl _) | (simp; done) | (simp; omega) | omega))⟩
    · have HR : Hid (szO left n m = left - n - m) := by unfold Hid szO; rw [if_neg hl, if_neg hk]
      have h2 : (n : Int) ≤ left := by omega
      have h3 : (m : Int) ≤ left - n := by omega
      have h4 : 0 ≤ left - n - m := by omega
      have h5 : 0 ≤ left - n := by omega
      go_enter Try.func32, Try.ntmps32
      go_wp2_with (first | (go_at_call 91; refine (szStk_ok n c left h0 h1 _ (by omega)).mono ?_; rintro e w' ⟨rfl, rfl⟩) | (go_at_call 92; refine (szJointS_ok m d (left - n) (by omega) (by omega) _ (by omega)).mono ?_; rintro e w' ⟨rfl, rfl⟩))
      go_ret
      exact ⟨(by first | (rw [HR.out]; done) | (rw [HR.out]; rfl)), (by repeat' (first | (with_reducible first | assumption | exact Below.refl _ _ | refine Below.drew ?_ | refine Below.alloc ?_ ?_ _ | refine Below.setCell ?_ ?_ _ | refine below_setR ?_ ?_ _ | refine below_dn ?_ _ | refine Below.trans ?_ (below_mo _ _ _ ?_) | refine Below.trans ?_ (below_mq _ _ ?_) | exact Nat.le_refl _) | (simp; done) | (simp; omega) | omega))⟩
/-- The call hands back a motion that lies in new memory. -/
def RetO (xs : List Int) (js : List (Int × Int)) (w : World) (e : Ending) (w' : World) : Prop :=
  ∃ A d L dl, e = .returned (.agg #[.slice A xs.length d, .slice L js.length dl]) ∧ Nums .u8 w' w'.heap.size A xs ∧ Prs .i8 .i16 w' w'.heap.size L js ∧ Below w.heap.size w w'
set_option maxHeartbeats 1000000 in
theorem toMotion_any {A : Option Addr} {xs : List Int} {W : World} {B : Nat} (hs : Nums .u8 W B A xs) (h8 : b8 xs) (c : Nat) {L : Option Addr} {js : List (Int × Int)} {V : World} {C : Nat} (hl : Prs .i8 .i16 V C L js) (hj : j8 js) (cl : Nat) (w : World) (hb : Below B W w) (hv : Below C V w) : Calls Try.prog 34 #[.agg #[.slice A xs.length c, .slice L js.length cl]] w (RetO xs js w) := by
  have hB := hs.bsz hb
  have hC := hl.bsz hv
  go_enter Try.func34, Try.ntmps34
  go_wp2_with fail
  refine (toStack_new hs h8 _ _ rfl _ (by repeat' (first | (with_reducible first | assumption | exact Below.refl _ _ | refine Below.drew ?_ | refine Below.alloc ?_ ?_ _ | refine Below.setCell ?_ ?_ _ | refine below_setR ?_ ?_ _ | refine below_dn ?_ _ | refine Below.trans ?_ (below_mo _ _ _ ?_) | refine Below.trans ?_ (below_mq _ _ ?_) | exact Nat.le_refl _) | (simp; done) | (simp; omega) | omega))).mono ?_
  rintro e w' ⟨A1, c1, rfl, h1, hn1, hb_⟩
  obtain ⟨os1, d1, rfl⟩ := mo_of hb_
  clear hb_
  go_wp2_with fail
  refine (toJointS_new hl _ _ (by repeat' (first | (with_reducible first | assumption | exact Below.refl _ _ | refine Below.drew ?_ | refine Below.alloc ?_ ?_ _ | refine Below.setCell ?_ ?_ _ | refine below_setR ?_ ?_ _ | refine below_dn ?_ _ | refine Below.trans ?_ (below_mo _ _ _ ?_) | refine Below.trans ?_ (below_mq _ _ ?_) | exact Nat.le_refl _) | (simp; done) | (simp; omega) | omega))).mono ?_
  rintro e w' ⟨L1, dl1, rfl, h2, hn2, hb_⟩
  obtain ⟨os2, d2, rfl⟩ := mo_of hb_
  clear hb_
  go_wp2
  refine bodyPost_ret (v := .agg #[.slice A1 xs.length c1, .slice L1 js.length dl1]) (by simp [results, Try.results34, go_sem]) rfl ⟨A1, c1, L1, dl1, rfl, ?_, ?_, (by repeat' (first | (with_reducible first | assumption | exact Below.refl _ _ | refine Below.drew ?_ | refine Below.alloc ?_ ?_ _ | refine Below.setCell ?_ ?_ _ | refine below_setR ?_ ?_ _ | refine below_dn ?_ _ | refine Below.trans ?_ (below_mo _ _ _ ?_) | refine Below.trans ?_ (below_mq _ _ ?_) | exact Nat.le_refl _) | (simp; done) | (simp; omega) | omega))⟩
  · exact (h1.swap (by simp) hn1).up (below_mo _ _ _ (Nat.le_refl _))
  · rw [mo_mo] at h2 ⊢
    exact h2.swap (by simp) (fun b off e => by have := hn2 b off e; simp only [size_mo] at this; omega)
set_option maxHeartbeats 1000000 in
theorem eqMotion_same {A A' : Option Addr} {xs : List Int} {W W' : World} {B B' : Nat} (hs : Nums .u8 W B A xs) (hs' : Nums .u8 W' B' A' xs) {L L' : Option Addr} {js : List (Int × Int)} {V V' : World} {C C' : Nat} (hl : Prs .i8 .i16 V C L js) (hl' : Prs .i8 .i16 V' C' L' js) (c c' d d' : Nat) (w : World) (hb : Below B W w) (hb' : Below B' W' w) (hv : Below C V w) (hv' : Below C' V' w) :
    Calls Try.prog 37 #[.agg #[.slice A xs.length c, .slice L js.length d], .agg #[.slice A' xs.length c', .slice L' js.length d']] w fun e w' => e = .returned (.bool true) ∧ Below w.heap.size w w' := by
  have hB := hs.bsz hb
  have hB' := hs'.bsz hb'
  have hC := hl.bsz hv
  have hC' := hl'.bsz hv'
  go_enter Try.func37, Try.ntmps37
  go_wp2_with (first | (go_at_call 30; refine (eqStack_same hs hs' _ _ _ rfl _ (by repeat' (first | (with_reducible first | assumption | exact Below.refl _ _ | refine Below.drew ?_ | refine Below.alloc ?_ ?_ _ | refine Below.setCell ?_ ?_ _ | refine below_setR ?_ ?_ _ | refine below_dn ?_ _ | refine Below.trans ?_ (below_mo _ _ _ ?_) | refine Below.trans ?_ (below_mq _ _ ?_) | exact Nat.le_refl _) | (simp; done) | (simp; omega) | omega)) (by repeat' (first | (with_reducible first | assumption | exact Below.refl _ _ | refine Below.drew ?_ | refine Below.alloc ?_ ?_ _ | refine Below.setCell ?_ ?_ _ | refine below_setR ?_ ?_ _ | refine below_dn ?_ _ | refine Below.trans ?_ (below_mo _ _ _ ?_) | refine Below.trans ?_ (below_mq _ _ ?_) | exact Nat.le_refl _) | (simp; done) | (simp; omega) | omega))).mono ?_; rintro e w' ⟨rfl, hb_⟩; obtain ⟨os_, d_, rfl⟩ := mo_of hb_; clear hb_) | (go_at_call 98; refine (eqJointS_same hl hl' _ _ _ (by repeat' (first | (with_reducible first | assumption | exact Below.refl _ _ | refine Below.drew ?_ | refine Below.alloc ?_ ?_ _ | refine Below.setCell ?_ ?_ _ | refine below_setR ?_ ?_ _ | refine below_dn ?_ _ | refine Below.trans ?_ (below_mo _ _ _ ?_) | refine Below.trans ?_ (below_mq _ _ ?_) | exact Nat.le_refl _) | (simp; done) | (simp; omega) | omega)) (by repeat' (first | (with_reducible first | assumption | exact Below.refl _ _ | refine Below.drew ?_ | refine Below.alloc ?_ ?_ _ | refine Below.setCell ?_ ?_ _ | refine below_setR ?_ ?_ _ | refine below_dn ?_ _ | refine Below.trans ?_ (below_mo _ _ _ ?_) | refine Below.trans ?_ (below_mq _ _ ?_) | exact Nat.le_refl _) | (simp; done) | (simp; omega) | omega))).mono ?_; rintro e w' ⟨rfl, hb_⟩; obtain ⟨os_, d_, rfl⟩ := mo_of hb_; clear hb_))
  go_ret
  exact ⟨rfl, (by repeat' (first | (with_reducible first | assumption | exact Below.refl _ _ | refine Below.drew ?_ | refine Below.alloc ?_ ?_ _ | refine Below.setCell ?_ ?_ _ | refine below_setR ?_ ?_ _ | refine below_dn ?_ _ | refine Below.trans ?_ (below_mo _ _ _ ?_) | refine Below.trans ?_ (below_mq _ _ ?_) | exact Nat.le_refl _) | (simp; done) | (simp; omega) | omega))⟩
end Go.Proofs.Ytcaaljcfdahpaaa.X
