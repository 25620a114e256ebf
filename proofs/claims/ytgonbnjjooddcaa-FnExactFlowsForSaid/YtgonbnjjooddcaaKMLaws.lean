/- What the laws do with meters: they are copied and compared. Conditions: none. -/
import Derived.Test.YtgonbnjjooddcaaKMeter
namespace Go.Proofs.Ytgonbnjjooddcaa.X
open Go.RowKit
set_option linter.unusedVariables false
set_option linter.unusedSimpArgs false
set_option maxRecDepth 100000
theorem szStack_ok {A : Option Addr} (n c : Nat) (left : Int) (h0 : 0 ≤ left) (h1 : left ≤ 1048576) (w : World) (hl : ¬ left < (n : Int)) : Calls Try.prog 58 #[.slice A n c, .int .i64 left] w fun e w' => e = .returned (.int .i64 (left - n)) ∧ w = w' := by
  have h2 : (n : Int) ≤ left := by omega
  go_enter Try.func58, Try.ntmps58
  go_wp2
  go_ret
  exact ⟨rfl, rfl⟩
theorem szStack_big {A : Option Addr} (n c : Nat) (left : Int) (h0 : 0 ≤ left) (h1 : left ≤ 1048576) (w : World) (hl : left < (n : Int)) (hn : n ≤ 9223372036854775807) : Calls Try.prog 58 #[.slice A n c, .int .i64 left] w fun e w' => e = .returned (.int .i64 (-1)) ∧ w = w' := by
  go_enter Try.func58, Try.ntmps58
  go_wp2
  go_ret
  exact ⟨rfl, rfl⟩
theorem szMeter_ok {A : Option Addr} (n c : Nat) (p q s : Int) (left : Int) (h0 : 0 ≤ left) (h1 : left ≤ 1048576) (w : World) (hl : ¬ left < (n : Int)) : Calls Try.prog 20 #[.agg #[.slice A n c, .int .i64 p, .int .i64 q, .int .i64 s], .int .i64 left] w fun e w' => e = .returned (.int .i64 (left - n)) ∧ Below w.heap.size w w' := by
  have h2 : (n : Int) ≤ left := by omega
  go_enter Try.func20, Try.ntmps20
  go_wp2_with (go_at_call 58; refine (szStack_ok _ _ _ h0 h1 _ hl).mono ?_; rintro e w' ⟨rfl, rfl⟩)
  go_ret
  exact ⟨rfl, (by repeat' (first | (with_reducible first | assumption | exact Below.refl _ _ | refine Below.drew ?_ | refine Below.alloc ?_ ?_ _ | refine Below.setCell ?_ ?_ _ | refine below_dn ?_ _ | refine Below.trans ?_ (below_mo _ _ _ ?_) | refine Below.trans ?_ (below_mq _ _ ?_) | exact Nat.le_refl _) | (simp; done) | (simp; omega) | omega))⟩
theorem szMeter_big {A : Option Addr} (n c : Nat) (p q s : Int) (left : Int) (h0 : 0 ≤ left) (h1 : left ≤ 1048576) (w : World) (hl : left < (n : Int)) (hn : n ≤ 9223372036854775807) : Calls Try.prog 20 #[.agg #[.slice A n c, .int .i64 p, .int .i64 q, .int .i64 s], .int .i64 left] w fun e w' => e = .returned (.int .i64 (-1)) ∧ Below w.heap.size w w' := by
  go_enter Try.func20, Try.ntmps20
  go_wp2_with (go_at_call 58; refine (szStack_big _ _ _ h0 h1 _ hl hn).mono ?_; rintro e w' ⟨rfl, rfl⟩)
  go_ret
  exact ⟨rfl, (by repeat' (first | (with_reducible first | assumption | exact Below.refl _ _ | refine Below.drew ?_ | refine Below.alloc ?_ ?_ _ | refine Below.setCell ?_ ?_ _ | refine below_dn ?_ _ | refine Below.trans ?_ (below_mo _ _ _ ?_) | refine Below.trans ?_ (below_mq _ _ ?_) | exact Nat.le_refl _) | (simp; done) | (simp; omega) | omega))⟩
/-- The call hands back a meter whose stack lies in new memory. -/
def RetM (xs : List Int) (p q s : Int) (w : World) (e : Ending) (w' : World) : Prop :=
  ∃ A d, e = .returned (.agg #[.slice A xs.length d, .int .i64 p, .int .i64 q, .int .i64 s]) ∧ Nums .u8 w' w'.heap.size A xs ∧ Below w.heap.size w w'
set_option maxHeartbeats 1000000 in
theorem toMeter_any {A : Option Addr} {xs : List Int} {W : World} {B : Nat} (hs : Nums .u8 W B A xs) (h8 : b8 xs) (c : Nat) (p q s : Int) (w : World) (hb : Below B W w) : Calls Try.prog 22 #[.agg #[.slice A xs.length c, .int .i64 p, .int .i64 q, .int .i64 s]] w (RetM xs p q s w) := by
  have hB := hs.bsz hb
  go_enter Try.func22, Try.ntmps22
  go_wp2_with fail
  refine (toStack_new hs h8 _ _ rfl _ (by repeat' (first | (with_reducible first | assumption | exact Below.refl _ _ | refine Below.drew ?_ | refine Below.alloc ?_ ?_ _ | refine Below.setCell ?_ ?_ _ | refine below_dn ?_ _ | refine Below.trans ?_ (below_mo _ _ _ ?_) | refine Below.trans ?_ (below_mq _ _ ?_) | exact Nat.le_refl _) | (simp; done) | (simp; omega) | omega))).mono ?_
  rintro e w' ⟨A1, c1, rfl, h1, hn1, hb_⟩
  obtain ⟨os1, d1, rfl⟩ := mo_of hb_
  clear hb_
  go_wp2
  refine bodyPost_ret (v := .agg #[.slice A1 xs.length c1, .int .i64 p, .int .i64 q, .int .i64 s]) (by simp [results, Try.results22, go_sem]) rfl ⟨A1, c1, rfl, h1.swap (by simp) hn1, (by repeat' (first | (with_reducible first | assumption | exact Below.refl _ _ | refine Below.drew ?_ | refine Below.alloc ?_ ?_ _ | refine Below.setCell ?_ ?_ _ | refine below_dn ?_ _ | refine Below.trans ?_ (below_mo _ _ _ ?_) | refine Below.trans ?_ (below_mq _ _ ?_) | exact Nat.le_refl _) | (simp; done) | (simp; omega) | omega))⟩
set_option maxHeartbeats 1000000 in
theorem eqMeter_same {A A' : Option Addr} {xs : List Int} {W W' : World} {B B' : Nat} (hs : Nums .u8 W B A xs) (hs' : Nums .u8 W' B' A' xs) (c c' : Nat) (p q s : Int) (w : World) (hb : Below B W w) (hb' : Below B' W' w) :
    Calls Try.prog 24 #[.agg #[.slice A xs.length c, .int .i64 p, .int .i64 q, .int .i64 s], .agg #[.slice A' xs.length c', .int .i64 p, .int .i64 q, .int .i64 s]] w fun e w' => e = .returned (.bool true) ∧ Below w.heap.size w w' := by
  have hB := hs.bsz hb
  have hB' := hs'.bsz hb'
  go_enter Try.func24, Try.ntmps24
  go_wp2_with (go_at_call 19; refine (eqStack_same hs hs' _ _ _ rfl _ (by repeat' (first | (with_reducible first | assumption | exact Below.refl _ _ | refine Below.drew ?_ | refine Below.alloc ?_ ?_ _ | refine Below.setCell ?_ ?_ _ | refine below_dn ?_ _ | refine Below.trans ?_ (below_mo _ _ _ ?_) | refine Below.trans ?_ (below_mq _ _ ?_) | exact Nat.le_refl _) | (simp; done) | (simp; omega) | omega)) (by repeat' (first | (with_reducible first | assumption | exact Below.refl _ _ | refine Below.drew ?_ | refine Below.alloc ?_ ?_ _ | refine Below.setCell ?_ ?_ _ | refine below_dn ?_ _ | refine Below.trans ?_ (below_mo _ _ _ ?_) | refine Below.trans ?_ (below_mq _ _ ?_) | exact Nat.le_refl _) | (simp; done) | (simp; omega) | omega))).mono ?_; rintro e w' ⟨rfl, hb_⟩; obtain ⟨os_, d_, rfl⟩ := mo_of hb_; clear hb_)
  go_ret
  exact ⟨rfl, (by repeat' (first | (with_reducible first | assumption | exact Below.refl _ _ | refine Below.drew ?_ | refine Below.alloc ?_ ?_ _ | refine Below.setCell ?_ ?_ _ | refine below_dn ?_ _ | refine Below.trans ?_ (below_mo _ _ _ ?_) | refine Below.trans ?_ (below_mq _ _ ?_) | exact Nat.le_refl _) | (simp; done) | (simp; omega) | omega))⟩
end Go.Proofs.Ytgonbnjjooddcaa.X
