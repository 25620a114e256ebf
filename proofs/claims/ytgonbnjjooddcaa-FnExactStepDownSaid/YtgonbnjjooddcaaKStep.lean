/- AddTo, steps. Conditions: none. -/
import Derived.Test.YtgonbnjjooddcaaKAdd2
namespace Go.Proofs.Ytgonbnjjooddcaa.X
open Go.RowKit
set_option linter.unusedVariables false
set_option linter.unusedSimpArgs false
set_option maxRecDepth 100000
/-- what AddTo returns -/
def addV (xs : List Int) (f : Nat → Int) (v : Int) : (Nat → Int) × Int × Int := if okD xs f then if inR v (-1000000000000) 1000000000000 then (dg xs ((vl xs f + v) % szS xs), (vl xs f + v) / szS xs, 0) else (fun _ => 0, 0, 2) else (fun _ => 0, 0, 1)
theorem addV_1 {xs : List Int} {f : Nat → Int} {v : Int} (h : okD xs f = false) : addV xs f v = (fun _ => 0, 0, 1) := by unfold addV; rw [h]; rfl
theorem addV_2 {xs : List Int} {f : Nat → Int} {v : Int} (h : okD xs f = true) (g : inR v (-1000000000000) 1000000000000 = false) : addV xs f v = (fun _ => 0, 0, 2) := by unfold addV; rw [h, g]; rfl
theorem addV_3 {xs : List Int} {f : Nat → Int} {v : Int} (h : okD xs f = true) (g : inR v (-1000000000000) 1000000000000 = true) : addV xs f v = (dg xs ((vl xs f + v) % szS xs), (vl xs f + v) / szS xs, 0) := by unfold addV; rw [h, g]; rfl
theorem l01Count_any (v : Int) (w : World) : Calls Try.prog 77 #[.int .i64 v] w fun e w' => e = .returned (.bool (inR v (-1000000000000) 1000000000000)) ∧ w = w' := by
  go_enter Try.func77, Try.ntmps77
  go_wp2_with (go_at_call 52; refine (l00In_ok _ _ _ _).mono ?_; rintro e w' ⟨rfl, rfl⟩)
  go_ret
  exact ⟨rfl, rfl⟩
set_option maxHeartbeats 1000000 in
theorem specAddTo_any {A : Option Addr} {xs : List Int} {W : World} {B : Nat} (hs : Nums .u8 W B A xs) (h8 : b8 xs) (n c : Nat) (hn : xs.length = n) (w : World) (hb : Below B W w) (f : Nat → Int) (hf : d8 f) (v : Int) : Calls Try.prog 44 #[.slice A n c, .agg #[.int .u8 (f 0), .int .u8 (f 1), .int .u8 (f 2), .int .u8 (f 3), .int .u8 (f 4), .int .u8 (f 5), .int .u8 (f 6), .int .u8 (f 7)], .int .i64 v] w fun e w' => e = .returned (.tuple #[.agg #[.int .u8 ((addV xs f v).1 0), .int .u8 ((addV xs f v).1 1), .int .u8 ((addV xs f v).1 2), .int .u8 ((addV xs f v).1 3), .int .u8 ((addV xs f v).1 4), .int .u8 ((addV xs f v).1 5), .int .u8 ((addV xs f v).1 6), .int .u8 ((addV xs f v).1 7)], .int .i64 (addV xs f v).2.1, .int .i64 (addV xs f v).2.2]) ∧ Below w.heap.size w w' := by
  obtain rfl := hn
  have hB := hs.bsz hb
  have HF := Lib.hid hf
  clear hf
  cases hk : okD xs f
  · have HR := Lib.hid (addV_1 (v := v) hk)
    go_enter Try.func44, Try.ntmps44
    go_wp2_with (go_at_call 76; refine (specValidDigits_any hs h8 _ _ rfl _ (by repeat' (first | (with_reducible first | assumption | exact Below.refl _ _ | refine Below.trans ?_ (below_mo _ _ _ ?_) | refine Below.trans ?_ (below_mq _ _ ?_) | refine Below.alloc ?_ ?_ _ | refine Below.setCell ?_ ?_ _ | refine Below.drew ?_ | refine below_dn ?_ _ | exact Nat.le_refl _) | (simp; done) | (simp; omega) | omega)) f HF.out).mono ?_; rintro e w' ⟨rfl, hb_⟩; obtain ⟨os_, d_, rfl⟩ := mo_of hb_; clear hb_)
    go_returns
    exact ⟨by rw [HR.out], (by repeat' (first | (with_reducible first | assumption | exact Below.refl _ _ | refine Below.trans ?_ (below_mo _ _ _ ?_) | refine Below.trans ?_ (below_mq _ _ ?_) | refine Below.alloc ?_ ?_ _ | refine Below.setCell ?_ ?_ _ | refine Below.drew ?_ | refine below_dn ?_ _ | exact Nat.le_refl _) | (simp; done) | (simp; omega) | omega))⟩
  · have HK := Lib.hid hk
    cases hr : inR v (-1000000000000) 1000000000000
    · have HR := Lib.hid (addV_2 hk hr)
      go_enter Try.func44, Try.ntmps44
      go_wp2_with (first | (go_at_call 76; refine (specValidDigits_any hs h8 _ _ rfl _ (by repeat' (first | (with_reducible first | assumption | exact Below.refl _ _ | refine Below.trans ?_ (below_mo _ _ _ ?_) | refine Below.trans ?_ (below_mq _ _ ?_) | refine Below.alloc ?_ ?_ _ | refine Below.setCell ?_ ?_ _ | refine Below.drew ?_ | refine below_dn ?_ _ | exact Nat.le_refl _) | (simp; done) | (simp; omega) | omega)) f HF.out).mono ?_; rintro e w' ⟨rfl, hb_⟩; obtain ⟨os_, d_, rfl⟩ := mo_of hb_; clear hb_) | (go_at_call 77; refine (l01Count_any _ _).mono ?_; rintro e w' ⟨rfl, rfl⟩))
      go_returns
      exact ⟨by rw [HR.out], (by repeat' (first | (with_reducible first | assumption | exact Below.refl _ _ | refine Below.trans ?_ (below_mo _ _ _ ?_) | refine Below.trans ?_ (below_mq _ _ ?_) | refine Below.alloc ?_ ?_ _ | refine Below.setCell ?_ ?_ _ | refine Below.drew ?_ | refine below_dn ?_ _ | exact Nat.le_refl _) | (simp; done) | (simp; omega) | omega))⟩
    · have HR := Lib.hid (addV_3 hk hr)
      have hv := inR_t.1 hr
      go_enter Try.func44, Try.ntmps44
      go_wp2_with (first | (go_at_call 76; refine (specValidDigits_any hs h8 _ _ rfl _ (by repeat' (first | (with_reducible first | assumption | exact Below.refl _ _ | refine Below.trans ?_ (below_mo _ _ _ ?_) | refine Below.trans ?_ (below_mq _ _ ?_) | refine Below.alloc ?_ ?_ _ | refine Below.setCell ?_ ?_ _ | refine Below.drew ?_ | refine below_dn ?_ _ | exact Nat.le_refl _) | (simp; done) | (simp; omega) | omega)) f HF.out).mono ?_; rintro e w' ⟨rfl, hb_⟩; obtain ⟨os_, d_, rfl⟩ := mo_of hb_; clear hb_) | (go_at_call 77; refine (l01Count_any _ _).mono ?_; rintro e w' ⟨rfl, rfl⟩) | (go_at_call 78; refine (l01Add_any hs h8 _ _ rfl _ (by repeat' (first | (with_reducible first | assumption | exact Below.refl _ _ | refine Below.trans ?_ (below_mo _ _ _ ?_) | refine Below.trans ?_ (below_mq _ _ ?_) | refine Below.alloc ?_ ?_ _ | refine Below.setCell ?_ ?_ _ | refine Below.drew ?_ | refine below_dn ?_ _ | exact Nat.le_refl _) | (simp; done) | (simp; omega) | omega)) f HF.out HK.out v hv).mono ?_; rintro e w' ⟨rfl, hb_⟩; obtain ⟨os_, d_, rfl⟩ := mo_of hb_; clear hb_))
      go_returns
      exact ⟨by rw [HR.out], (by repeat' (first | (with_reducible first | assumption | exact Below.refl _ _ | refine Below.trans ?_ (below_mo _ _ _ ?_) | refine Below.trans ?_ (below_mq _ _ ?_) | refine Below.alloc ?_ ?_ _ | refine Below.setCell ?_ ?_ _ | refine Below.drew ?_ | refine below_dn ?_ _ | exact Nat.le_refl _) | (simp; done) | (simp; omega) | omega))⟩
set_option maxHeartbeats 1000000 in
theorem implAddTo_any {A : Option Addr} {xs : List Int} {W : World} {B : Nat} (hs : Nums .u8 W B A xs) (h8 : b8 xs) (n c : Nat) (hn : xs.length = n) (w : World) (hb : Below B W w) (f : Nat → Int) (hf : d8 f) (v : Int) : Calls Try.prog 46 #[.slice A n c, .agg #[.int .u8 (f 0), .int .u8 (f 1), .int .u8 (f 2), .int .u8 (f 3), .int .u8 (f 4), .int .u8 (f 5), .int .u8 (f 6), .int .u8 (f 7)], .int .i64 v] w fun e w' => e = .returned (.tuple #[.agg #[.int .u8 ((addV xs f v).1 0), .int .u8 ((addV xs f v).1 1), .int .u8 ((addV xs f v).1 2), .int .u8 ((addV xs f v).1 3), .int .u8 ((addV xs f v).1 4), .int .u8 ((addV xs f v).1 5), .int .u8 ((addV xs f v).1 6), .int .u8 ((addV xs f v).1 7)], .int .i64 (addV xs f v).2.1, .int .i64 (addV xs f v).2.2]) ∧ Below w.heap.size w w' := by
  obtain rfl := hn
  have hB := hs.bsz hb
  have HF := Lib.hid hf
  clear hf
  cases hk : okD xs f
  · have HR := Lib.hid (addV_1 (v := v) hk)
    go_enter Try.func46, Try.ntmps46
    go_wp2_with (go_at_call 79; refine (ValidDigits_any hs h8 _ _ rfl _ (by repeat' (first | (with_reducible first | assumption | exact Below.refl _ _ | refine Below.trans ?_ (below_mo _ _ _ ?_) | refine Below.trans ?_ (below_mq _ _ ?_) | refine Below.alloc ?_ ?_ _ | refine Below.setCell ?_ ?_ _ | refine Below.drew ?_ | refine below_dn ?_ _ | exact Nat.le_refl _) | (simp; done) | (simp; omega) | omega)) f HF.out).mono ?_; rintro e w' ⟨rfl, hb_⟩; obtain ⟨os_, d_, rfl⟩ := mo_of hb_; clear hb_)
    go_returns
    exact ⟨by rw [HR.out], (by repeat' (first | (with_reducible first | assumption | exact Below.refl _ _ | refine Below.trans ?_ (below_mo _ _ _ ?_) | refine Below.trans ?_ (below_mq _ _ ?_) | refine Below.alloc ?_ ?_ _ | refine Below.setCell ?_ ?_ _ | refine Below.drew ?_ | refine below_dn ?_ _ | exact Nat.le_refl _) | (simp; done) | (simp; omega) | omega))⟩
  · have HK := Lib.hid hk
    cases hr : inR v (-1000000000000) 1000000000000
    · have HR := Lib.hid (addV_2 hk hr)
      go_enter Try.func46, Try.ntmps46
      go_wp2_with (first | (go_at_call 79; refine (ValidDigits_any hs h8 _ _ rfl _ (by repeat' (first | (with_reducible first | assumption | exact Below.refl _ _ | refine Below.trans ?_ (below_mo _ _ _ ?_) | refine Below.trans ?_ (below_mq _ _ ?_) | refine Below.alloc ?_ ?_ _ | refine Below.setCell ?_ ?_ _ | refine Below.drew ?_ | refine below_dn ?_ _ | exact Nat.le_refl _) | (simp; done) | (simp; omega) | omega)) f HF.out).mono ?_; rintro e w' ⟨rfl, hb_⟩; obtain ⟨os_, d_, rfl⟩ := mo_of hb_; clear hb_) | (go_at_call 60; refine (within_ok _ _ _ _).mono ?_; rintro e w' ⟨rfl, rfl⟩))
      go_returns
      exact ⟨by rw [HR.out], (by repeat' (first | (with_reducible first | assumption | exact Below.refl _ _ | refine Below.trans ?_ (below_mo _ _ _ ?_) | refine Below.trans ?_ (below_mq _ _ ?_) | refine Below.alloc ?_ ?_ _ | refine Below.setCell ?_ ?_ _ | refine Below.drew ?_ | refine below_dn ?_ _ | exact Nat.le_refl _) | (simp; done) | (simp; omega) | omega))⟩
    · have HR := Lib.hid (addV_3 hk hr)
      have hv := inR_t.1 hr
      go_enter Try.func46, Try.ntmps46
      go_wp2_with (first | (go_at_call 79; refine (ValidDigits_any hs h8 _ _ rfl _ (by repeat' (first | (with_reducible first | assumption | exact Below.refl _ _ | refine Below.trans ?_ (below_mo _ _ _ ?_) | refine Below.trans ?_ (below_mq _ _ ?_) | refine Below.alloc ?_ ?_ _ | refine Below.setCell ?_ ?_ _ | refine Below.drew ?_ | refine below_dn ?_ _ | exact Nat.le_refl _) | (simp; done) | (simp; omega) | omega)) f HF.out).mono ?_; rintro e w' ⟨rfl, hb_⟩; obtain ⟨os_, d_, rfl⟩ := mo_of hb_; clear hb_) | (go_at_call 60; refine (within_ok _ _ _ _).mono ?_; rintro e w' ⟨rfl, rfl⟩) | (go_at_call 80; refine (added_any hs h8 _ _ rfl _ (by repeat' (first | (with_reducible first | assumption | exact Below.refl _ _ | refine Below.trans ?_ (below_mo _ _ _ ?_) | refine Below.trans ?_ (below_mq _ _ ?_) | refine Below.alloc ?_ ?_ _ | refine Below.setCell ?_ ?_ _ | refine Below.drew ?_ | refine below_dn ?_ _ | exact Nat.le_refl _) | (simp; done) | (simp; omega) | omega)) f HF.out HK.out v hv).mono ?_; rintro e w' ⟨rfl, hb_⟩; obtain ⟨os_, d_, rfl⟩ := mo_of hb_; clear hb_))
      go_returns
      exact ⟨by rw [HR.out], (by repeat' (first | (with_reducible first | assumption | exact Below.refl _ _ | refine Below.trans ?_ (below_mo _ _ _ ?_) | refine Below.trans ?_ (below_mq _ _ ?_) | refine Below.alloc ?_ ?_ _ | refine Below.setCell ?_ ?_ _ | refine Below.drew ?_ | refine below_dn ?_ _ | exact Nat.le_refl _) | (simp; done) | (simp; omega) | omega))⟩
/-- how many of the first k digits differ -/
def mvTo (g f : Nat → Int) : Nat → Int
  | 0 => 0
  | k + 1 => mvTo g f k + if g k = f k then 0 else 1
theorem mvTo_bd (g f : Nat → Int) : ∀ k : Nat, 0 ≤ mvTo g f k ∧ mvTo g f k ≤ k
  | 0 => by simp [mvTo]
  | k + 1 => by
    have := mvTo_bd g f k
    unfold mvTo
    split <;> omega
theorem mvTo_len {g f : Nat → Int} {n : Nat} : ∀ d : Nat, (∀ i : Nat, n ≤ i → i < n + d → g i = f i) → mvTo g f (n + d) = mvTo g f n
  | 0, _ => rfl
  | d + 1, h => by
    have h1 := mvTo_len (g := g) (f := f) (n := n) d (fun i a b => h i a (by omega))
    show mvTo g f (n + d) + _ = _
    rw [h1]
    have h2 : g (n.add d) = f (n.add d) := h (n + d) (by omega) (by omega)
    rw [if_pos h2]
    omega
/-- what a step returns -/
def stV (xs : List Int) (f : Nat → Int) (v : Int) : (Nat → Int) × Int × Int := if okD xs f then (dg xs ((vl xs f + v) % szS xs), mvTo (dg xs ((vl xs f + v) % szS xs)) f 8, 0) else (fun _ => 0, 0, 1)
theorem stV_1 {xs : List Int} {f : Nat → Int} {v : Int} (h : okD xs f = false) : stV xs f v = (fun _ => 0, 0, 1) := by unfold stV; rw [h]; rfl
theorem stV_2 {xs : List Int} {f : Nat → Int} {v : Int} (h : okD xs f = true) : stV xs f v = (dg xs ((vl xs f + v) % szS xs), mvTo (dg xs ((vl xs f + v) % szS xs)) f 8, 0) := by unfold stV; rw [h]; rfl
theorem mv_eq {xs : List Int} {f : Nat → Int} (h : okD xs f = true) (z : Int) : mvTo (dg xs z) f 8 = mvTo (dg xs z) f xs.length := by
  obtain ⟨h1, _, h3⟩ := okD_parts h
  have hl := okS_len h1
  have e : 8 = xs.length + (8 - xs.length) := by omega
  rw [e]
  refine mvTo_len _ fun i a b => ?_
  rw [h3 i (by omega) a]
  unfold dg dgTo
  rw [if_neg (by omega)]
set_option maxHeartbeats 2000000 in
theorem stepped_any {A : Option Addr} {xs : List Int} {W : World} {B : Nat} (hs : Nums .u8 W B A xs) (h8 : b8 xs) (n c : Nat) (hn : xs.length = n) (w : World) (hb : Below B W w) (f : Nat → Int) (hf : d8 f) (v : Int) (hv : -1000000000000 ≤ v ∧ v ≤ 1000000000000) : Calls Try.prog 82 #[.slice A n c, .agg #[.int .u8 (f 0), .int .u8 (f 1), .int .u8 (f 2), .int .u8 (f 3), .int .u8 (f 4), .int .u8 (f 5), .int .u8 (f 6), .int .u8 (f 7)], .int .i64 v] w fun e w' => e = .returned (.tuple #[.agg #[.int .u8 ((stV xs f v).1 0), .int .u8 ((stV xs f v).1 1), .int .u8 ((stV xs f v).1 2), .int .u8 ((stV xs f v).1 3), .int .u8 ((stV xs f v).1 4), .int .u8 ((stV xs f v).1 5), .int .u8 ((stV xs f v).1 6), .int .u8 ((stV xs f v).1 7)], .int .i64 (stV xs f v).2.1, .int .i64 (stV xs f v).2.2]) ∧ Below w.heap.size w w' := by
  obtain rfl := hn
  have hB := hs.bsz hb
  have HF := Lib.hid hf
  clear hf
  cases hk : okD xs f
  · have HR := Lib.hid (stV_1 (v := v) hk)
    go_enter Try.func82, Try.ntmps82
    go_wp2_with (go_at_call 79; refine (ValidDigits_any hs h8 _ _ rfl _ (by repeat' (first | (with_reducible first | assumption | exact Below.refl _ _ | refine Below.trans ?_ (below_mo _ _ _ ?_) | refine Below.trans ?_ (below_mq _ _ ?_) | refine Below.alloc ?_ ?_ _ | refine Below.setCell ?_ ?_ _ | refine Below.drew ?_ | refine below_dn ?_ _ | exact Nat.le_refl _) | (simp; done) | (simp; omega) | omega)) f HF.out).mono ?_; rintro e w' ⟨rfl, hb_⟩; obtain ⟨os_, d_, rfl⟩ := mo_of hb_; clear hb_)
    go_returns
    exact ⟨by rw [HR.out], (by repeat' (first | (with_reducible first | assumption | exact Below.refl _ _ | refine Below.trans ?_ (below_mo _ _ _ ?_) | refine Below.trans ?_ (below_mq _ _ ?_) | refine Below.alloc ?_ ?_ _ | refine Below.setCell ?_ ?_ _ | refine Below.drew ?_ | refine below_dn ?_ _ | exact Nat.le_refl _) | (simp; done) | (simp; omega) | omega))⟩
  · have HR := Lib.hid (stV_2 (v := v) hk)
    have HM := Lib.hid (mv_eq hk ((vl xs f + v) % szS xs))
    have hl := okS_len (okD_parts hk).1
    have HK := Lib.hid hk
    obtain ⟨g, hg⟩ : ∃ g, g = dg xs ((vl xs f + v) % szS xs) := ⟨_, rfl⟩
    rw [← hg] at HR HM
    have HG := Lib.hid hg
    go_enter Try.func82, Try.ntmps82
    (go_wp2_with fail; refine (ValidDigits_any hs h8 _ _ rfl _ (by repeat' (first | (with_reducible first | assumption | exact Below.refl _ _ | refine Below.trans ?_ (below_mo _ _ _ ?_) | refine Below.trans ?_ (below_mq _ _ ?_) | refine Below.alloc ?_ ?_ _ | refine Below.setCell ?_ ?_ _ | refine Below.drew ?_ | refine below_dn ?_ _ | exact Nat.le_refl _) | (simp; done) | (simp; omega) | omega)) f HF.out).mono ?_; rintro e w' ⟨rfl, hb_⟩; obtain ⟨os1, d1, rfl⟩ := mo_of hb_; clear hb_)
    (go_wp2_with fail; refine (added_any hs h8 _ _ rfl _ (by repeat' (first | (with_reducible first | assumption | exact Below.refl _ _ | refine Below.trans ?_ (below_mo _ _ _ ?_) | refine Below.trans ?_ (below_mq _ _ ?_) | refine Below.alloc ?_ ?_ _ | refine Below.setCell ?_ ?_ _ | refine Below.drew ?_ | refine below_dn ?_ _ | exact Nat.le_refl _) | (simp; done) | (simp; omega) | omega)) f HF.out HK.out v hv).mono ?_; rintro e w' ⟨rfl, hb_⟩; obtain ⟨os2, d2, rfl⟩ := mo_of hb_; clear hb_)
    rw [← HG.out]
    clear hg hk
    go_wp2
    go_loopw [25, 11] (fun i t wr => ∃ k : Nat, k ≤ 8 ∧ i = .int .i64 k ∧ t = .int .i64 (mvTo g f k) ∧ ∃ os d, wr = mo ((mo (mo ((w.alloc (.cells #[.int .u8 (f 0), .int .u8 (f 1), .int .u8 (f 2), .int .u8 (f 3), .int .u8 (f 4), .int .u8 (f 5), .int .u8 (f 6), .int .u8 (f 7)] 24)).alloc (.cells #[.int .u8 0, .int .u8 0, .int .u8 0, .int .u8 0, .int .u8 0, .int .u8 0, .int .u8 0, .int .u8 0] 24)) os1 d1) os2 d2).alloc (.cells #[.int .u8 (g 0), .int .u8 (g 1), .int .u8 (g 2), .int .u8 (g 3), .int .u8 (g 4), .int .u8 (g 5), .int .u8 (g 6), .int .u8 (g 7)] 24)) os d) (fun i _ _ => 8 - (intOf i).toNat)
    case atStart => exact ⟨0, Nat.zero_le _, rfl, rfl, #[], _, (mo_nil _).symm⟩
    case round =>
      obtain ⟨k, hk, rfl, rfl, os, d, rfl⟩ := hrel
      obtain ⟨hm0, hm1⟩ := mvTo_bd g f k
      by_cases hlt : k < 8
      · have g0 : (0 : Int) ≤ (k : Int) := by omega
        have g1 : (k : Int) < 8 := by omega
        have g2 : k < 8 := by omega
        by_cases he : g k = f k
        · have HN : Hid (mvTo g f (k + 1) = mvTo g f k) := by show mvTo g f k + (if g k = f k then 0 else 1) = _; rw [if_pos he]; omega
          have l1 : (g k == f k) = true := beq_iff_eq.2 he
          have l2 : (g k != f k) = false := congrArg not l1
          clear he
          go_wp2
          go_quiet (fail)
          go_wp2
          exact ⟨⟨k + 1, by omega, by go_num, by rw [HN.out], _, _, mo_drewN _ _ _ _⟩, by simp [intOf]; omega⟩
        · have HN : Hid (mvTo g f (k + 1) = mvTo g f k + 1) := by show mvTo g f k + (if g k = f k then 0 else 1) = _; rw [if_neg he]
          have l1 : (g k == f k) = false := beq_eq_false_iff_ne.2 he
          have l2 : (g k != f k) = true := congrArg not l1
          clear he
          go_wp2
          go_quiet (fail)
          go_wp2
          exact ⟨⟨k + 1, by omega, by go_num, by rw [HN.out], _, _, mo_drewN _ _ _ _⟩, by simp [intOf]; omega⟩
      · obtain rfl : k = 8 := by omega
        go_wp2
        go_returns
        exact ⟨by rw [HR.out], (by repeat' (first | (with_reducible first | assumption | exact Below.refl _ _ | refine Below.trans ?_ (below_mo _ _ _ ?_) | refine Below.trans ?_ (below_mq _ _ ?_) | refine Below.alloc ?_ ?_ _ | refine Below.setCell ?_ ?_ _ | refine Below.drew ?_ | refine below_dn ?_ _ | exact Nat.le_refl _) | (simp; done) | (simp; omega) | omega))⟩
set_option maxHeartbeats 2000000 in
theorem l01Step_any {A : Option Addr} {xs : List Int} {W : World} {B : Nat} (hs : Nums .u8 W B A xs) (h8 : b8 xs) (n c : Nat) (hn : xs.length = n) (w : World) (hb : Below B W w) (f : Nat → Int) (hf : d8 f) (v : Int) (hv : -1000000000000 ≤ v ∧ v ≤ 1000000000000) : Calls Try.prog 81 #[.slice A n c, .agg #[.int .u8 (f 0), .int .u8 (f 1), .int .u8 (f 2), .int .u8 (f 3), .int .u8 (f 4), .int .u8 (f 5), .int .u8 (f 6), .int .u8 (f 7)], .int .i64 v] w fun e w' => e = .returned (.tuple #[.agg #[.int .u8 ((stV xs f v).1 0), .int .u8 ((stV xs f v).1 1), .int .u8 ((stV xs f v).1 2), .int .u8 ((stV xs f v).1 3), .int .u8 ((stV xs f v).1 4), .int .u8 ((stV xs f v).1 5), .int .u8 ((stV xs f v).1 6), .int .u8 ((stV xs f v).1 7)], .int .i64 (stV xs f v).2.1, .int .i64 (stV xs f v).2.2]) ∧ Below w.heap.size w w' := by
  obtain rfl := hn
  have hB := hs.bsz hb
  have HF := Lib.hid hf
  clear hf
  cases hk : okD xs f
  · have HR := Lib.hid (stV_1 (v := v) hk)
    go_enter Try.func81, Try.ntmps81
    go_wp2_with (go_at_call 76; refine (specValidDigits_any hs h8 _ _ rfl _ (by repeat' (first | (with_reducible first | assumption | exact Below.refl _ _ | refine Below.trans ?_ (below_mo _ _ _ ?_) | refine Below.trans ?_ (below_mq _ _ ?_) | refine Below.alloc ?_ ?_ _ | refine Below.setCell ?_ ?_ _ | refine Below.drew ?_ | refine below_dn ?_ _ | exact Nat.le_refl _) | (simp; done) | (simp; omega) | omega)) f HF.out).mono ?_; rintro e w' ⟨rfl, hb_⟩; obtain ⟨os_, d_, rfl⟩ := mo_of hb_; clear hb_)
    go_returns
    exact ⟨by rw [HR.out], (by repeat' (first | (with_reducible first | assumption | exact Below.refl _ _ | refine Below.trans ?_ (below_mo _ _ _ ?_) | refine Below.trans ?_ (below_mq _ _ ?_) | refine Below.alloc ?_ ?_ _ | refine Below.setCell ?_ ?_ _ | refine Below.drew ?_ | refine below_dn ?_ _ | exact Nat.le_refl _) | (simp; done) | (simp; omega) | omega))⟩
  · have HR := Lib.hid (stV_2 (v := v) hk)
    have HM := Lib.hid (mv_eq hk ((vl xs f + v) % szS xs))
    have hl := okS_len (okD_parts hk).1
    have HK := Lib.hid hk
    obtain ⟨g, hg⟩ : ∃ g, g = dg xs ((vl xs f + v) % szS xs) := ⟨_, rfl⟩
    rw [← hg] at HR HM
    have HG := Lib.hid hg
    go_enter Try.func81, Try.ntmps81
    (go_wp2_with fail; refine (specValidDigits_any hs h8 _ _ rfl _ (by repeat' (first | (with_reducible first | assumption | exact Below.refl _ _ | refine Below.trans ?_ (below_mo _ _ _ ?_) | refine Below.trans ?_ (below_mq _ _ ?_) | refine Below.alloc ?_ ?_ _ | refine Below.setCell ?_ ?_ _ | refine Below.drew ?_ | refine below_dn ?_ _ | exact Nat.le_refl _) | (simp; done) | (simp; omega) | omega)) f HF.out).mono ?_; rintro e w' ⟨rfl, hb_⟩; obtain ⟨os1, d1, rfl⟩ := mo_of hb_; clear hb_)
    (go_wp2_with fail; refine (l01Add_any hs h8 _ _ rfl _ (by repeat' (first | (with_reducible first | assumption | exact Below.refl _ _ | refine Below.trans ?_ (below_mo _ _ _ ?_) | refine Below.trans ?_ (below_mq _ _ ?_) | refine Below.alloc ?_ ?_ _ | refine Below.setCell ?_ ?_ _ | refine Below.drew ?_ | refine below_dn ?_ _ | exact Nat.le_refl _) | (simp; done) | (simp; omega) | omega)) f HF.out HK.out v hv).mono ?_; rintro e w' ⟨rfl, hb_⟩; obtain ⟨os2, d2, rfl⟩ := mo_of hb_; clear hb_)
    rw [← HG.out]
    clear hg hk
    go_wp2
    go_loopw [12, 11] (fun i t wr => ∃ k : Nat, k ≤ xs.length ∧ i = .int .i64 k ∧ t = .int .i64 (mvTo g f k) ∧ ∃ os d, wr = mo ((mo (mo ((w.alloc (.cells #[.int .u8 (f 0), .int .u8 (f 1), .int .u8 (f 2), .int .u8 (f 3), .int .u8 (f 4), .int .u8 (f 5), .int .u8 (f 6), .int .u8 (f 7)] 24)).alloc (.cells #[.int .u8 0, .int .u8 0, .int .u8 0, .int .u8 0, .int .u8 0, .int .u8 0, .int .u8 0, .int .u8 0] 24)) os1 d1) os2 d2).alloc (.cells #[.int .u8 (g 0), .int .u8 (g 1), .int .u8 (g 2), .int .u8 (g 3), .int .u8 (g 4), .int .u8 (g 5), .int .u8 (g 6), .int .u8 (g 7)] 24)) os d) (fun i _ _ => xs.length - (intOf i).toNat)
    case atStart => exact ⟨0, Nat.zero_le _, rfl, rfl, #[], _, (mo_nil _).symm⟩
    case round =>
      obtain ⟨k, hk, rfl, rfl, os, d, rfl⟩ := hrel
      obtain ⟨hm0, hm1⟩ := mvTo_bd g f k
      by_cases hlt : k < xs.length
      · have g0 : (0 : Int) ≤ (k : Int) := by omega
        have g1 : (k : Int) < 8 := by omega
        have g2 : k < 8 := by omega
        by_cases he : g k = f k
        · have HN : Hid (mvTo g f (k + 1) = mvTo g f k) := by show mvTo g f k + (if g k = f k then 0 else 1) = _; rw [if_pos he]; omega
          have l1 : (g k == f k) = true := beq_iff_eq.2 he
          have l2 : (g k != f k) = false := congrArg not l1
          clear he
          go_wp2
          go_quiet (fail)
          go_wp2
          exact ⟨⟨k + 1, by omega, by go_num, by rw [HN.out], _, _, mo_drewN _ _ _ _⟩, by simp [intOf]; omega⟩
        · have HN : Hid (mvTo g f (k + 1) = mvTo g f k + 1) := by show mvTo g f k + (if g k = f k then 0 else 1) = _; rw [if_neg he]
          have l1 : (g k == f k) = false := beq_eq_false_iff_ne.2 he
          have l2 : (g k != f k) = true := congrArg not l1
          clear he
          go_wp2
          go_quiet (fail)
          go_wp2
          exact ⟨⟨k + 1, by omega, by go_num, by rw [HN.out], _, _, mo_drewN _ _ _ _⟩, by simp [intOf]; omega⟩
      · obtain rfl : k = xs.length := by omega
        go_wp2
        go_returns
        exact ⟨by rw [HR.out, HM.out], (by repeat' (first | (with_reducible first | assumption | exact Below.refl _ _ | refine Below.trans ?_ (below_mo _ _ _ ?_) | refine Below.trans ?_ (below_mq _ _ ?_) | refine Below.alloc ?_ ?_ _ | refine Below.setCell ?_ ?_ _ | refine Below.drew ?_ | refine below_dn ?_ _ | exact Nat.le_refl _) | (simp; done) | (simp; omega) | omega))⟩
set_option maxHeartbeats 1000000 in
theorem implStepUp_any {A : Option Addr} {xs : List Int} {W : World} {B : Nat} (hs : Nums .u8 W B A xs) (h8 : b8 xs) (n c : Nat) (hn : xs.length = n) (w : World) (hb : Below B W w) (f : Nat → Int) (hf : d8 f) : Calls Try.prog 50 #[.slice A n c, .agg #[.int .u8 (f 0), .int .u8 (f 1), .int .u8 (f 2), .int .u8 (f 3), .int .u8 (f 4), .int .u8 (f 5), .int .u8 (f 6), .int .u8 (f 7)]] w fun e w' => e = .returned (.tuple #[.agg #[.int .u8 ((stV xs f 1).1 0), .int .u8 ((stV xs f 1).1 1), .int .u8 ((stV xs f 1).1 2), .int .u8 ((stV xs f 1).1 3), .int .u8 ((stV xs f 1).1 4), .int .u8 ((stV xs f 1).1 5), .int .u8 ((stV xs f 1).1 6), .int .u8 ((stV xs f 1).1 7)], .int .i64 (stV xs f 1).2.1, .int .i64 (stV xs f 1).2.2]) ∧ Below w.heap.size w w' := by
  obtain rfl := hn
  have hB := hs.bsz hb
  have HF := Lib.hid hf
  clear hf
  go_enter Try.func50, Try.ntmps50
  go_wp2_with (go_at_call 82; refine (stepped_any hs h8 _ _ rfl _ (by repeat' (first | (with_reducible first | assumption | exact Below.refl _ _ | refine Below.trans ?_ (below_mo _ _ _ ?_) | refine Below.trans ?_ (below_mq _ _ ?_) | refine Below.alloc ?_ ?_ _ | refine Below.setCell ?_ ?_ _ | refine Below.drew ?_ | refine below_dn ?_ _ | exact Nat.le_refl _) | (simp; done) | (simp; omega) | omega)) f HF.out 1 (by omega)).mono ?_; rintro e w' ⟨rfl, hb_⟩; obtain ⟨os_, d_, rfl⟩ := mo_of hb_; clear hb_)
  go_returns
  exact ⟨rfl, (by repeat' (first | (with_reducible first | assumption | exact Below.refl _ _ | refine Below.trans ?_ (below_mo _ _ _ ?_) | refine Below.trans ?_ (below_mq _ _ ?_) | refine Below.alloc ?_ ?_ _ | refine Below.setCell ?_ ?_ _ | refine Below.drew ?_ | refine below_dn ?_ _ | exact Nat.le_refl _) | (simp; done) | (simp; omega) | omega))⟩
set_option maxHeartbeats 1000000 in
theorem implStepDown_any {A : Option Addr} {xs : List Int} {W : World} {B : Nat} (hs : Nums .u8 W B A xs) (h8 : b8 xs) (n c : Nat) (hn : xs.length = n) (w : World) (hb : Below B W w) (f : Nat → Int) (hf : d8 f) : Calls Try.prog 48 #[.slice A n c, .agg #[.int .u8 (f 0), .int .u8 (f 1), .int .u8 (f 2), .int .u8 (f 3), .int .u8 (f 4), .int .u8 (f 5), .int .u8 (f 6), .int .u8 (f 7)]] w fun e w' => e = .returned (.tuple #[.agg #[.int .u8 ((stV xs f (-1)).1 0), .int .u8 ((stV xs f (-1)).1 1), .int .u8 ((stV xs f (-1)).1 2), .int .u8 ((stV xs f (-1)).1 3), .int .u8 ((stV xs f (-1)).1 4), .int .u8 ((stV xs f (-1)).1 5), .int .u8 ((stV xs f (-1)).1 6), .int .u8 ((stV xs f (-1)).1 7)], .int .i64 (stV xs f (-1)).2.1, .int .i64 (stV xs f (-1)).2.2]) ∧ Below w.heap.size w w' := by
  obtain rfl := hn
  have hB := hs.bsz hb
  have HF := Lib.hid hf
  clear hf
  go_enter Try.func48, Try.ntmps48
  go_wp2_with (go_at_call 82; refine (stepped_any hs h8 _ _ rfl _ (by repeat' (first | (with_reducible first | assumption | exact Below.refl _ _ | refine Below.trans ?_ (below_mo _ _ _ ?_) | refine Below.trans ?_ (below_mq _ _ ?_) | refine Below.alloc ?_ ?_ _ | refine Below.setCell ?_ ?_ _ | refine Below.drew ?_ | refine below_dn ?_ _ | exact Nat.le_refl _) | (simp; done) | (simp; omega) | omega)) f HF.out (-1) (by omega)).mono ?_; rintro e w' ⟨rfl, hb_⟩; obtain ⟨os_, d_, rfl⟩ := mo_of hb_; clear hb_)
  go_returns
  exact ⟨rfl, (by repeat' (first | (with_reducible first | assumption | exact Below.refl _ _ | refine Below.trans ?_ (below_mo _ _ _ ?_) | refine Below.trans ?_ (below_mq _ _ ?_) | refine Below.alloc ?_ ?_ _ | refine Below.setCell ?_ ?_ _ | refine Below.drew ?_ | refine below_dn ?_ _ | exact Nat.le_refl _) | (simp; done) | (simp; omega) | omega))⟩
set_option maxHeartbeats 1000000 in
theorem specStepUp_any {A : Option Addr} {xs : List Int} {W : World} {B : Nat} (hs : Nums .u8 W B A xs) (h8 : b8 xs) (n c : Nat) (hn : xs.length = n) (w : World) (hb : Below B W w) (f : Nat → Int) (hf : d8 f) : Calls Try.prog 49 #[.slice A n c, .agg #[.int .u8 (f 0), .int .u8 (f 1), .int .u8 (f 2), .int .u8 (f 3), .int .u8 (f 4), .int .u8 (f 5), .int .u8 (f 6), .int .u8 (f 7)]] w fun e w' => e = .returned (.tuple #[.agg #[.int .u8 ((stV xs f 1).1 0), .int .u8 ((stV xs f 1).1 1), .int .u8 ((stV xs f 1).1 2), .int .u8 ((stV xs f 1).1 3), .int .u8 ((stV xs f 1).1 4), .int .u8 ((stV xs f 1).1 5), .int .u8 ((stV xs f 1).1 6), .int .u8 ((stV xs f 1).1 7)], .int .i64 (stV xs f 1).2.1, .int .i64 (stV xs f 1).2.2]) ∧ Below w.heap.size w w' := by
  obtain rfl := hn
  have hB := hs.bsz hb
  have HF := Lib.hid hf
  clear hf
  go_enter Try.func49, Try.ntmps49
  go_wp2_with (go_at_call 81; refine (l01Step_any hs h8 _ _ rfl _ (by repeat' (first | (with_reducible first | assumption | exact Below.refl _ _ | refine Below.trans ?_ (below_mo _ _ _ ?_) | refine Below.trans ?_ (below_mq _ _ ?_) | refine Below.alloc ?_ ?_ _ | refine Below.setCell ?_ ?_ _ | refine Below.drew ?_ | refine below_dn ?_ _ | exact Nat.le_refl _) | (simp; done) | (simp; omega) | omega)) f HF.out 1 (by omega)).mono ?_; rintro e w' ⟨rfl, hb_⟩; obtain ⟨os_, d_, rfl⟩ := mo_of hb_; clear hb_)
  go_returns
  exact ⟨rfl, (by repeat' (first | (with_reducible first | assumption | exact Below.refl _ _ | refine Below.trans ?_ (below_mo _ _ _ ?_) | refine Below.trans ?_ (below_mq _ _ ?_) | refine Below.alloc ?_ ?_ _ | refine Below.setCell ?_ ?_ _ | refine Below.drew ?_ | refine below_dn ?_ _ | exact Nat.le_refl _) | (simp; done) | (simp; omega) | omega))⟩
set_option maxHeartbeats 1000000 in
theorem specStepDown_any {A : Option Addr} {xs : List Int} {W : World} {B : Nat} (hs : Nums .u8 W B A xs) (h8 : b8 xs) (n c : Nat) (hn : xs.length = n) (w : World) (hb : Below B W w) (f : Nat → Int) (hf : d8 f) : Calls Try.prog 47 #[.slice A n c, .agg #[.int .u8 (f 0), .int .u8 (f 1), .int .u8 (f 2), .int .u8 (f 3), .int .u8 (f 4), .int .u8 (f 5), .int .u8 (f 6), .int .u8 (f 7)]] w fun e w' => e = .returned (.tuple #[.agg #[.int .u8 ((stV xs f (-1)).1 0), .int .u8 ((stV xs f (-1)).1 1), .int .u8 ((stV xs f (-1)).1 2), .int .u8 ((stV xs f (-1)).1 3), .int .u8 ((stV xs f (-1)).1 4), .int .u8 ((stV xs f (-1)).1 5), .int .u8 ((stV xs f (-1)).1 6), .int .u8 ((stV xs f (-1)).1 7)], .int .i64 (stV xs f (-1)).2.1, .int .i64 (stV xs f (-1)).2.2]) ∧ Below w.heap.size w w' := by
  obtain rfl := hn
  have hB := hs.bsz hb
  have HF := Lib.hid hf
  clear hf
  go_enter Try.func47, Try.ntmps47
  go_wp2_with (go_at_call 81; refine (l01Step_any hs h8 _ _ rfl _ (by repeat' (first | (with_reducible first | assumption | exact Below.refl _ _ | refine Below.trans ?_ (below_mo _ _ _ ?_) | refine Below.trans ?_ (below_mq _ _ ?_) | refine Below.alloc ?_ ?_ _ | refine Below.setCell ?_ ?_ _ | refine Below.drew ?_ | refine below_dn ?_ _ | exact Nat.le_refl _) | (simp; done) | (simp; omega) | omega)) f HF.out (-1) (by omega)).mono ?_; rintro e w' ⟨rfl, hb_⟩; obtain ⟨os_, d_, rfl⟩ := mo_of hb_; clear hb_)
  go_returns
  exact ⟨rfl, (by repeat' (first | (with_reducible first | assumption | exact Below.refl _ _ | refine Below.trans ?_ (below_mo _ _ _ ?_) | refine Below.trans ?_ (below_mq _ _ ?_) | refine Below.alloc ?_ ?_ _ | refine Below.setCell ?_ ?_ _ | refine Below.drew ?_ | refine below_dn ?_ _ | exact Nat.le_refl _) | (simp; done) | (simp; omega) | omega))⟩
end Go.Proofs.Ytgonbnjjooddcaa.X
