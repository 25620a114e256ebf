/- AddTo, steps. Conditions: none. -/
import Derived.Test.YtkphbagckbbalaaKAdd2
namespace Go.Proofs.Ytkphbagckbbalaa.X
open Go.RowKit
set_option linter.unusedVariables false
set_option linter.unusedSimpArgs false
set_option maxRecDepth 100000
/-- what AddTo returns -/
def addV (xs : List Int) (f : Nat → Int) (v : Int) : (Nat → Int) × Int × Int := if okD xs f then if inR v (-1000000000000) 1000000000000 then (dg xs ((vl xs f + v) % szS xs), (vl xs f + v) / szS xs, 0) else (fun _ => 0, 0, 2) else (fun _ => 0, 0, 1)
theorem addV_1 {xs : List Int} {f : Nat → Int} {v : Int} (h : okD xs f = false) : addV xs f v = (fun _ => 0, 0, 1) := by unfold addV; rw [h]; rfl
theorem addV_2 {xs : List Int} {f : Nat → Int} {v : Int} (h : okD xs f = true) (g : inR v (-1000000000000) 1000000000000 = false) : addV xs f v = (fun _ => 0, 0, 2) := by unfold addV; rw [h, g]; rfl
theorem addV_3 {xs : List Int} {f : Nat → Int} {v : Int} (h : okD xs f = true) (g : inR v (-1000000000000) 1000000000000 = true) : addV xs f v = (dg xs ((vl xs f + v) % szS xs), (vl xs f + v) / szS xs, 0) := by unfold addV; rw [h, g]; rfl
theorem l01Count_any (v : Int) (w : World) : Calls Try.prog 118 #[.int .i64 v] w fun e w' => e = .returned (.bool (inR v (-1000000000000) 1000000000000)) ∧ w = w' := by
  go_enter Try.func118, Try.ntmps118
  go_wp2_with (go_at_call 85; refine (l00In_ok _ _ _ _).mono ?_; rintro e w' ⟨rfl, rfl⟩)
  go_ret
  exact ⟨rfl, rfl⟩
set_option maxHeartbeats 1000000 in
theorem specAddTo_any {A : Option Addr} {xs : List Int} {W : World} {B : Nat} (hs : Nums .u8 W B A xs) (h8 : b8 xs) (n c : Nat) (hn : xs.length = n) (w : World) (hb : Below B W w) (f : Nat → Int) (hf : d8 f) (v : Int) : Calls Try.prog 36 #[.slice A n c, .agg #[.int .u8 (f 0), .int .u8 (f 1), .int .u8 (f 2), .int .u8 (f 3), .int .u8 (f 4), .int .u8 (f 5), .int .u8 (f 6), .int .u8 (f 7)], .int .i64 v] w fun e w' => e = .returned (.tuple #[.agg #[.int .u8 ((addV xs f v).1 0), .int .u8 ((addV xs f v).1 1), .int .u8 ((addV xs f v).1 2), .int .u8 ((addV xs f v).1 3), .int .u8 ((addV xs f v).1 4), .int .u8 ((addV xs f v).1 5), .int .u8 ((addV xs f v).1 6), .int .u8 ((addV xs f v).1 7)], .int .i64 (addV xs f v).2.1, .int .i64 (addV xs f v).2.2]) ∧ Below w.heap.size w w' := by
  obtain rfl := hn
  have hB := hs.bsz hb
  have HF := Lib.hid hf
  clear hf
  cases hk : okD xs f
  · have HR := Lib.hid (addV_1 (v := v) hk)
    go_enter Try.func36, Try.ntmps36
    go_wp2_with (go_at_call 117; refine (specValidDigits_any hs h8 _ _ rfl _ (by repeat' (first | (with_reducible first | assumption | exact Below.refl _ _ | refine Below.drew ?_ | refine Below.alloc ?_ ?_ _ | refine Below.setCell ?_ ?_ _ | refine below_setR ?_ ?_ _ | refine below_dn ?_ _ | refine Below.trans ?_ (below_mo _ _ _ ?_) | refine Below.trans ?_ (below_mq _ _ ?_) | exact Nat.le_refl _) | (simp; done) | (simp; omega) | omega)) f HF.out).mono ?_; rintro e w' ⟨rfl, hb_⟩; obtain ⟨os_, d_, rfl⟩ := mo_of hb_; clear hb_)
    go_returns
    exact ⟨by rw [HR.out], (by repeat' (first | (with_reducible first | assumption | exact Below.refl _ _ | refine Below.drew ?_ | refine Below.alloc ?_ ?_ _ | refine Below.setCell ?_ ?_ _ | refine below_setR ?_ ?_ _ | refine below_dn ?_ _ | refine Below.trans ?_ (below_mo _ _ _ ?_) | refine Below.trans ?_ (below_mq _ _ ?_) | exact Nat.le_refl _) | (simp; done) | (simp; omega) | omega))⟩
  · have HK := Lib.hid hk
    cases hr : inR v (-1000000000000) 1000000000000
    · have HR := Lib.hid (addV_2 hk hr)
      go_enter Try.func36, Try.ntmps36
      go_wp2_with (first | (go_at_call 117; refine (specValidDigits_any hs h8 _ _ rfl _ (by repeat' (first | (with_reducible first | assumption | exact Below.refl _ _ | refine Below.drew ?_ | refine Below.alloc ?_ ?_ _ | refine Below.setCell ?_ ?_ _ | refine below_setR ?_ ?_ _ | refine below_dn ?_ _ | refine Below.trans ?_ (below_mo _ _ _ ?_) | refine Below.trans ?_ (below_mq _ _ ?_) | exact Nat.le_refl _) | (simp; done) | (simp; omega) | omega)) f HF.out).mono ?_; rintro e w' ⟨rfl, hb_⟩; obtain ⟨os_, d_, rfl⟩ := mo_of hb_; clear hb_) | (go_at_call 118; refine (l01Count_any _ _).mono ?_; rintro e w' ⟨rfl, rfl⟩))
      go_returns
      exact ⟨by rw [HR.out], (by repeat' (first | (with_reducible first | assumption | exact Below.refl _ _ | refine Below.drew ?_ | refine Below.alloc ?_ ?_ _ | refine Below.setCell ?_ ?_ _ | refine below_setR ?_ ?_ _ | refine below_dn ?_ _ | refine Below.trans ?_ (below_mo _ _ _ ?_) | refine Below.trans ?_ (below_mq _ _ ?_) | exact Nat.le_refl _) | (simp; done) | (simp; omega) | omega))⟩
    · have HR := Lib.hid (addV_3 hk hr)
      have hv := inR_t.1 hr
      go_enter Try.func36, Try.ntmps36
      go_wp2_with (first | (go_at_call 117; refine (specValidDigits_any hs h8 _ _ rfl _ (by repeat' (first | (with_reducible first | assumption | exact Below.refl _ _ | refine Below.drew ?_ | refine Below.alloc ?_ ?_ _ | refine Below.setCell ?_ ?_ _ | refine below_setR ?_ ?_ _ | refine below_dn ?_ _ | refine Below.trans ?_ (below_mo _ _ _ ?_) | refine Below.trans ?_ (below_mq _ _ ?_) | exact Nat.le_refl _) | (simp; done) | (simp; omega) | omega)) f HF.out).mono ?_; rintro e w' ⟨rfl, hb_⟩; obtain ⟨os_, d_, rfl⟩ := mo_of hb_; clear hb_) | (go_at_call 118; refine (l01Count_any _ _).mono ?_; rintro e w' ⟨rfl, rfl⟩) | (go_at_call 119; refine (l01Add_any hs h8 _ _ rfl _ (by repeat' (first | (with_reducible first | assumption | exact Below.refl _ _ | refine Below.drew ?_ | refine Below.alloc ?_ ?_ _ | refine Below.setCell ?_ ?_ _ | refine below_setR ?_ ?_ _ | refine below_dn ?_ _ | refine Below.trans ?_ (below_mo _ _ _ ?_) | refine Below.trans ?_ (below_mq _ _ ?_) | exact Nat.le_refl _) | (simp; done) | (simp; omega) | omega)) f HF.out HK.out v hv).mono ?_; rintro e w' ⟨rfl, hb_⟩; obtain ⟨os_, d_, rfl⟩ := mo_of hb_; clear hb_))
      go_returns
      exact ⟨by rw [HR.out], (by repeat' (first | (with_reducible first | assumption | exact Below.refl _ _ | refine Below.drew ?_ | refine Below.alloc ?_ ?_ _ | refine Below.setCell ?_ ?_ _ | refine below_setR ?_ ?_ _ | refine below_dn ?_ _ | refine Below.trans ?_ (below_mo _ _ _ ?_) | refine Below.trans ?_ (below_mq _ _ ?_) | exact Nat.le_refl _) | (simp; done) | (simp; omega) | omega))⟩
set_option maxHeartbeats 1000000 in
theorem implAddTo_any {A : Option Addr} {xs : List Int} {W : World} {B : Nat} (hs : Nums .u8 W B A xs) (h8 : b8 xs) (n c : Nat) (hn : xs.length = n) (w : World) (hb : Below B W w) (f : Nat → Int) (hf : d8 f) (v : Int) : Calls Try.prog 35 #[.slice A n c, .agg #[.int .u8 (f 0), .int .u8 (f 1), .int .u8 (f 2), .int .u8 (f 3), .int .u8 (f 4), .int .u8 (f 5), .int .u8 (f 6), .int .u8 (f 7)], .int .i64 v] w fun e w' => e = .returned (.tuple #[.agg #[.int .u8 ((addV xs f v).1 0), .int .u8 ((addV xs f v).1 1), .int .u8 ((addV xs f v).1 2), .int .u8 ((addV xs f v).1 3), .int .u8 ((addV xs f v).1 4), .int .u8 ((addV xs f v).1 5), .int .u8 ((addV xs f v).1 6), .int .u8 ((addV xs f v).1 7)], .int .i64 (addV xs f v).2.1, .int .i64 (addV xs f v).2.2]) ∧ Below w.heap.size w w' := by
  obtain rfl := hn
  have hB := hs.bsz hb
  have HF := Lib.hid hf
  clear hf
  cases hk : okD xs f
  · have HR := Lib.hid (addV_1 (v := v) hk)
    go_enter Try.func35, Try.ntmps35
    go_wp2_with (go_at_call 115; refine (ValidDigits_any hs h8 _ _ rfl _ (by repeat' (first | (with_reducible first | assumption | exact Below.refl _ _ | refine Below.drew ?_ | refine Below.alloc ?_ ?_ _ | refine Below.setCell ?_ ?_ _ | refine below_setR ?_ ?_ _ | refine below_dn ?_ _ | refine Below.trans ?_ (below_mo _ _ _ ?_) | refine Below.trans ?_ (below_mq _ _ ?_) | exact Nat.le_refl _) | (simp; done) | (simp; omega) | omega)) f HF.out).mono ?_; rintro e w' ⟨rfl, hb_⟩; obtain ⟨os_, d_, rfl⟩ := mo_of hb_; clear hb_)
    go_returns
    exact ⟨by rw [HR.out], (by repeat' (first | (with_reducible first | assumption | exact Below.refl _ _ | refine Below.drew ?_ | refine Below.alloc ?_ ?_ _ | refine Below.setCell ?_ ?_ _ | refine below_setR ?_ ?_ _ | refine below_dn ?_ _ | refine Below.trans ?_ (below_mo _ _ _ ?_) | refine Below.trans ?_ (below_mq _ _ ?_) | exact Nat.le_refl _) | (simp; done) | (simp; omega) | omega))⟩
  · have HK := Lib.hid hk
    cases hr : inR v (-1000000000000) 1000000000000
    · have HR := Lib.hid (addV_2 hk hr)
      go_enter Try.func35, Try.ntmps35
      go_wp2_with (first | (go_at_call 115; refine (ValidDigits_any hs h8 _ _ rfl _ (by repeat' (first | (with_reducible first | assumption | exact Below.refl _ _ | refine Below.drew ?_ | refine Below.alloc ?_ ?_ _ | refine Below.setCell ?_ ?_ _ | refine below_setR ?_ ?_ _ | refine below_dn ?_ _ | refine Below.trans ?_ (below_mo _ _ _ ?_) | refine Below.trans ?_ (below_mq _ _ ?_) | exact Nat.le_refl _) | (simp; done) | (simp; omega) | omega)) f HF.out).mono ?_; rintro e w' ⟨rfl, hb_⟩; obtain ⟨os_, d_, rfl⟩ := mo_of hb_; clear hb_) | (go_at_call 80; refine (within_ok _ _ _ _).mono ?_; rintro e w' ⟨rfl, rfl⟩))
      go_returns
      exact ⟨by rw [HR.out], (by repeat' (first | (with_reducible first | assumption | exact Below.refl _ _ | refine Below.drew ?_ | refine Below.alloc ?_ ?_ _ | refine Below.setCell ?_ ?_ _ | refine below_setR ?_ ?_ _ | refine below_dn ?_ _ | refine Below.trans ?_ (below_mo _ _ _ ?_) | refine Below.trans ?_ (below_mq _ _ ?_) | exact Nat.le_refl _) | (simp; done) | (simp; omega) | omega))⟩
    · have HR := Lib.hid (addV_3 hk hr)
      have hv := inR_t.1 hr
      go_enter Try.func35, Try.ntmps35
      go_wp2_with (first | (go_at_call 115; refine (ValidDigits_any hs h8 _ _ rfl _ (by repeat' (first | (with_reducible first | assumption | exact Below.refl _ _ | refine Below.drew ?_ | refine Below.alloc ?_ ?_ _ | refine Below.setCell ?_ ?_ _ | refine below_setR ?_ ?_ _ | refine below_dn ?_ _ | refine Below.trans ?_ (below_mo _ _ _ ?_) | refine Below.trans ?_ (below_mq _ _ ?_) | exact Nat.le_refl _) | (simp; done) | (simp; omega) | omega)) f HF.out).mono ?_; rintro e w' ⟨rfl, hb_⟩; obtain ⟨os_, d_, rfl⟩ := mo_of hb_; clear hb_) | (go_at_call 80; refine (within_ok _ _ _ _).mono ?_; rintro e w' ⟨rfl, rfl⟩) | (go_at_call 116; refine (added_any hs h8 _ _ rfl _ (by repeat' (first | (with_reducible first | assumption | exact Below.refl _ _ | refine Below.drew ?_ | refine Below.alloc ?_ ?_ _ | refine Below.setCell ?_ ?_ _ | refine below_setR ?_ ?_ _ | refine below_dn ?_ _ | refine Below.trans ?_ (below_mo _ _ _ ?_) | refine Below.trans ?_ (below_mq _ _ ?_) | exact Nat.le_refl _) | (simp; done) | (simp; omega) | omega)) f HF.out HK.out v hv).mono ?_; rintro e w' ⟨rfl, hb_⟩; obtain ⟨os_, d_, rfl⟩ := mo_of hb_; clear hb_))
      go_returns
      exact ⟨by rw [HR.out], (by repeat' (first | (with_reducible first | assumption | exact Below.refl _ _ | refine Below.drew ?_ | refine Below.alloc ?_ ?_ _ | refine Below.setCell ?_ ?_ _ | refine below_setR ?_ ?_ _ | refine below_dn ?_ _ | refine Below.trans ?_ (below_mo _ _ _ ?_) | refine Below.trans ?_ (below_mq _ _ ?_) | exact Nat.le_refl _) | (simp; done) | (simp; omega) | omega))⟩
/-- how many of the first k digits differ -/
def mvTo (g f : Nat → Int) : Nat → Int
  | 0 => 0
  | k + 1 => mvTo g f k + if g k = f k then 0 else 1
theorem mvTo_bd (g f : Nat → Int) : ∀ k : Nat, 0 ≤ mvTo g f k ∧ mvTo g f k ≤ k
  | 0 => by simp [mvTo]
  | k + 1 => by
    have := mvTo_bd g f k
    unfold mvTo
    split <;> omega
theorem mvTo_len {g f : Nat → Int} {n : Nat} : ∀ d : Nat, (∀ i : Nat, n ≤ i → i < n + d → g i = f i) → mvTo g f (n + d) = mvTo g f n
  | 0, _ => rfl
  | d + 1, h => by
    have h1 := mvTo_len (g := g) (f := f) (n := n) d (fun i a b => h i a (by omega))
    show mvTo g f (n + d) + _ = _
    rw [h1]
    have h2 : g (n.add d) = f (n.add d) := h (n + d) (by omega) (by omega)
    rw [if_pos h2]
    omega
/-- what a step returns -/
def stV (xs : List Int) (f : Nat → Int) (v : Int) : (Nat → Int) × Int × Int := if okD xs f then (dg xs ((vl xs f + v) % szS xs), mvTo (dg xs ((vl xs f + v) % szS xs)) f 8, 0) else (fun _ => 0, 0, 1)
theorem stV_1 {xs : List Int} {f : Nat → Int} {v : Int} (h : okD xs f = false) : stV xs f v = (fun _ => 0, 0, 1) := by unfold stV; rw [h]; rfl
theorem stV_2 {xs : List Int} {f : Nat → Int} {v : Int} (h : okD xs f = true) : stV xs f v = (dg xs ((vl xs f + v) % szS xs), mvTo (dg xs ((vl xs f + v) % szS xs)) f 8, 0) := by unfold stV; rw [h]; rfl
theorem mv_eq {xs : List Int} {f : Nat → Int} (h : okD xs f = true) (z : Int) : mvTo (dg xs z) f 8 = mvTo (dg xs z) f xs.length := by
  obtain ⟨h1, _, h3⟩ := okD_parts h
  have hl := okS_len h1
  have e : 8 = xs.length + (8 - xs.length) := by omega
  rw [e]
  refine mvTo_len _ fun i a b => ?_
  rw [h3 i (by omega) a]
  unfold dg dgTo
  rw [if_neg (by omega)]
end Go.Proofs.Ytkphbagckbbalaa.X
