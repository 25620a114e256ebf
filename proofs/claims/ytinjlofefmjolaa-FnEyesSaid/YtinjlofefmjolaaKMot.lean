/- Motions: stacks with joints; which are valid. Conditions: none. -/
import Derived.Test.YtinjlofefmjolaaKLaws
import Derived.Test.YtinjlofefmjolaaKNum
import Derived.IntWalk
namespace Go.Proofs.Ytinjlofefmjolaa.X
open Go.RowKit
set_option linter.unusedVariables false
set_option linter.unusedSimpArgs false
set_option maxRecDepth 100000
/-- joints are pairs of small numbers -/
def j8 (js : List (Int × Int)) : Prop := ∀ k : Int, (-128 ≤ p1 js k ∧ p1 js k ≤ 127) ∧ -32768 ≤ p2 js k ∧ p2 js k ≤ 32767
/-- a joint is right -/
def jOK (k f : Int) : Bool := if k = 0 then decide (f = 0) else if k = 1 then decide (0 ≤ f) && decide (f < 1000) else false
theorem jOK_eq (k f : Int) : jOK k f = !((k == 0 && f != 0) || (!inR k 0 1 || !inR f 0 999)) := by
  unfold jOK inR
  by_cases h0 : k = 0
  · subst h0
    by_cases h1 : f = 0
    · subst h1; rfl
    · simp [h1]
  · by_cases h1 : k = 1
    · subst h1
      simp
      by_cases h2 : 0 ≤ f <;> by_cases h3 : f < 1000 <;> simp [h2, h3] <;> omega
    · have : ¬ (0 ≤ k ∧ k ≤ 1) := by omega
      simp [h0, h1]
      omega
/-- the first k joints are right -/
def jtTo (js : List (Int × Int)) : Nat → Bool
  | 0 => true
  | k + 1 => jtTo js k && jOK (p1 js k) (p2 js k)
theorem jtTo_all {js : List (Int × Int)} : ∀ {n : Nat}, jtTo js n = true → ∀ k : Nat, k < n → jOK (p1 js k) (p2 js k) = true
  | 0, _, k, hk => absurd hk (by omega)
  | n + 1, h, k, hk => by
    unfold jtTo at h
    rw [Bool.and_eq_true] at h
    by_cases e : k = n
    · subst e; exact h.2
    · exact jtTo_all h.1 k (by omega)
theorem jtTo_no {js : List (Int × Int)} {k n : Nat} (hk : k < n) (h : jOK (p1 js k) (p2 js k) = false) : jtTo js n = false := by
  rw [← Bool.not_eq_true]
  intro g
  have := jtTo_all g k hk
  rw [h] at this
  cases this
/-- a motion is valid -/
def okO (xs : List Int) (js : List (Int × Int)) : Bool := okS xs && decide (js.length = (xs.length : Int) - 1) && jtTo js js.length
theorem okO_parts {xs : List Int} {js : List (Int × Int)} (h : okO xs js = true) : okS xs = true ∧ js.length + 1 = xs.length ∧ ∀ k : Nat, k < js.length → jOK (p1 js k) (p2 js k) = true := by
  unfold okO at h
  simp only [Bool.and_eq_true, decide_eq_true_eq] at h
  exact ⟨h.1.1, by omega, fun k hk => jtTo_all h.2 k hk⟩
set_option maxHeartbeats 1000000 in
theorem jointOK_any (k f : Int) (w : World) : Calls Try.prog 103 #[.agg #[.int .i8 k, .int .i16 f]] w fun e w' => e = .returned (.bool (jOK k f)) ∧ Below w.heap.size w w' := by
  by_cases h0 : k = 0
  · subst h0
    go_enter Try.func103, Try.ntmps103
    go_wp2
    go_ret
    exact ⟨by simp [jOK]; rfl, (by repeat' (first | (with_reducible first | assumption | exact Below.refl _ _ | refine Below.drew ?_ | refine Below.alloc ?_ ?_ _ | refine Below.setCell ?_ ?_ _ | refine below_setR ?_ ?_ _ | refine below_dn ?_ _ | refine Below.trans ?_ (below_mo _ _ _ ?_) | refine Below.trans ?_ (below_mq _ _ ?_) | exact Nat.le_refl _) | (simp; done) | (simp; omega) | omega))⟩
  · have b0 : (k == 0) = false := beq_eq_false_iff_ne.2 h0
    by_cases h1 : k = 1
    · subst h1
      by_cases f0 : 0 ≤ f
      all_goals
        go_enter Try.func103, Try.ntmps103
        go_wp2
        go_ret
        exact ⟨by first | (simp [jOK, *]; done) | (simp [jOK, *]; omega), (by repeat' (first | (with_reducible first | assumption | exact Below.refl _ _ | refine Below.drew ?_ | refine Below.alloc ?_ ?_ _ | refine Below.setCell ?_ ?_ _ | refine below_setR ?_ ?_ _ | refine below_dn ?_ _ | refine Below.trans ?_ (below_mo _ _ _ ?_) | refine Below.trans ?_ (below_mq _ _ ?_) | exact Nat.le_refl _) | (simp; done) | (simp; omega) | omega))⟩
    · have b1 : (k == 1) = false := beq_eq_false_iff_ne.2 h1
      go_enter Try.func103, Try.ntmps103
      go_wp2
      go_ret
      exact ⟨by simp [jOK, *], (by repeat' (first | (with_reducible first | assumption | exact Below.refl _ _ | refine Below.drew ?_ | refine Below.alloc ?_ ?_ _ | refine Below.setCell ?_ ?_ _ | refine below_setR ?_ ?_ _ | refine below_dn ?_ _ | refine Below.trans ?_ (below_mo _ _ _ ?_) | refine Below.trans ?_ (below_mq _ _ ?_) | exact Nat.le_refl _) | (simp; done) | (simp; omega) | omega))⟩
set_option maxHeartbeats 1000000 in
theorem badJoint_any (k f : Int) (w : World) : Calls Try.prog 102 #[.agg #[.int .i8 k, .int .i16 f]] w fun e w' => e = .returned (.bool (!jOK k f)) ∧ Below w.heap.size w w' := by
  go_enter Try.func102, Try.ntmps102
  go_wp2_with (go_at_call 103; refine (jointOK_any _ _ _).mono ?_; rintro e w' ⟨rfl, hb_⟩; obtain ⟨os_, d_, rfl⟩ := mo_of hb_; clear hb_)
  go_ret
  exact ⟨rfl, (by repeat' (first | (with_reducible first | assumption | exact Below.refl _ _ | refine Below.drew ?_ | refine Below.alloc ?_ ?_ _ | refine Below.setCell ?_ ?_ _ | refine below_setR ?_ ?_ _ | refine below_dn ?_ _ | refine Below.trans ?_ (below_mo _ _ _ ?_) | refine Below.trans ?_ (below_mq _ _ ?_) | exact Nat.le_refl _) | (simp; done) | (simp; omega) | omega))⟩
def IdxAnsB (p : Bool) (w : World) (e : Ending) (w' : World) : Prop := ∃ r : Int, e = .returned (.int .i64 r) ∧ (decide (0 ≤ r)) = p ∧ Below w.heap.size w w'
set_option maxHeartbeats 1000000 in
theorem idxJoint_any {L : Option Addr} {js : List (Int × Int)} {V : World} {C : Nat} (hl : Prs .i8 .i16 V C L js) (cl : Nat) (w : World) (hv : Below C V w) : Calls Try.prog 113 #[.slice L js.length cl, .func (.func 102) #[] #[]] w (IdxAnsB (!jtTo js js.length) w) := by
  have hll := hl.len
  have hC := hl.bsz hv
  go_enter Try.func113, Try.ntmps113
  go_wp2
  go_loopw [8] (fun i wr => ∃ (k : Nat) (os : Array Obj) (d : Nat), k ≤ js.length ∧ i = .int .i64 k ∧ Hid (jtTo js k = true) ∧ wr = mo w os d) (fun i _ => js.length - (intOf i).toNat)
  case atStart => exact ⟨0, #[], _, Nat.zero_le _, rfl, (rfl : jtTo js 0 = true), (mo_nil _).symm⟩
  case round =>
    obtain ⟨k, os, d, hk, rfl, HA, rfl⟩ := hrel
    by_cases hlt : k < js.length
    · obtain ⟨b, off, rfl, hbs, hc0, hc1⟩ := hl.at hv hlt
      cases ho : jOK (p1 js k) (p2 js k)
      · have HN := Lib.hid (jtTo_no hlt ho)
        go_wp2_with (go_at_call 102; refine (badJoint_any _ _ _).mono ?_; rintro e w' ⟨rfl, hb_⟩; obtain ⟨os_, d_, rfl⟩ := mo_of hb_; clear hb_)
        go_ret
        exact ⟨k, rfl, by rw [HN.out]; simp, (by repeat' (first | (with_reducible first | assumption | exact Below.refl _ _ | refine Below.drew ?_ | refine Below.alloc ?_ ?_ _ | refine Below.setCell ?_ ?_ _ | refine below_setR ?_ ?_ _ | refine below_dn ?_ _ | refine Below.trans ?_ (below_mo _ _ _ ?_) | refine Below.trans ?_ (below_mq _ _ ?_) | exact Nat.le_refl _) | (simp; done) | (simp; omega) | omega))⟩
      · have HN : Hid (jtTo js (k + 1) = true) := by unfold Hid jtTo; rw [HA.out, ho]; rfl
        go_wp2_with (go_at_call 102; refine (badJoint_any _ _ _).mono ?_; rintro e w' ⟨rfl, hb_⟩; obtain ⟨os_, d_, rfl⟩ := mo_of hb_; clear hb_)
        exact ⟨⟨k + 1, _, _, by omega, by go_num, HN, mo_mo _ _ _ _ _⟩, by simp [intOf]; omega⟩
    · obtain rfl : k = js.length := by omega
      go_wp2
      go_ret
      exact ⟨-1, rfl, by rw [HA.out]; rfl, (by repeat' (first | (with_reducible first | assumption | exact Below.refl _ _ | refine Below.drew ?_ | refine Below.alloc ?_ ?_ _ | refine Below.setCell ?_ ?_ _ | refine below_setR ?_ ?_ _ | refine below_dn ?_ _ | refine Below.trans ?_ (below_mo _ _ _ ?_) | refine Below.trans ?_ (below_mq _ _ ?_) | exact Nat.le_refl _) | (simp; done) | (simp; omega) | omega))⟩
theorem hasJoint_any {L : Option Addr} {js : List (Int × Int)} {V : World} {C : Nat} (hl : Prs .i8 .i16 V C L js) (cl : Nat) (w : World) (hv : Below C V w) : Calls Try.prog 101 #[.slice L js.length cl, .func (.func 102) #[] #[]] w fun e w' => e = .returned (.bool (!jtTo js js.length)) ∧ Below w.heap.size w w' := by
  go_enter Try.func101, Try.ntmps101
  go_wp2_with (go_at_call 113; refine (idxJoint_any hl _ _ hv).mono ?_; rintro e w' ⟨r, rfl, hr, hb_⟩; obtain ⟨os_, d_, rfl⟩ := mo_of hb_; clear hb_)
  go_ret
  exact ⟨by rw [← hr]; rfl, (by repeat' (first | (with_reducible first | assumption | exact Below.refl _ _ | refine Below.drew ?_ | refine Below.alloc ?_ ?_ _ | refine Below.setCell ?_ ?_ _ | refine below_setR ?_ ?_ _ | refine below_dn ?_ _ | refine Below.trans ?_ (below_mo _ _ _ ?_) | refine Below.trans ?_ (below_mq _ _ ?_) | exact Nat.le_refl _) | (simp; done) | (simp; omega) | omega))⟩
set_option maxHeartbeats 2000000 in
theorem ValidMotion_any {A : Option Addr} {xs : List Int} {W : World} {B : Nat} (hs : Nums .u8 W B A xs) (h8 : b8 xs) (c : Nat) {L : Option Addr} {js : List (Int × Int)} {V : World} {C : Nat} (hl : Prs .i8 .i16 V C L js) (hj : j8 js) (cl : Nat) (w : World) (hb : Below B W w) (hv : Below C V w) : Calls Try.prog 70 #[.agg #[.slice A xs.length c, .slice L js.length cl]] w fun e w' => e = .returned (.bool (okO xs js)) ∧ Below w.heap.size w w' := by
  have hB := hs.bsz hb
  have hC := hl.bsz hv
  have hn := hs.len
  have hn2 := hl.len
  cases h1 : okS xs
  · go_enter Try.func70, Try.ntmps70
    go_wp2_with (go_at_call 100; refine (ValidStack_any hs h8 _ _ rfl _ (by repeat' (first | (with_reducible first | assumption | exact Below.refl _ _ | refine Below.drew ?_ | refine Below.alloc ?_ ?_ _ | refine Below.setCell ?_ ?_ _ | refine below_setR ?_ ?_ _ | refine below_dn ?_ _ | refine Below.trans ?_ (below_mo _ _ _ ?_) | refine Below.trans ?_ (below_mq _ _ ?_) | exact Nat.le_refl _) | (simp; done) | (simp; omega) | omega))).mono ?_; rintro e w' ⟨rfl, rfl⟩)
    go_ret
    exact ⟨by simp [okO, h1], (by repeat' (first | (with_reducible first | assumption | exact Below.refl _ _ | refine Below.drew ?_ | refine Below.alloc ?_ ?_ _ | refine Below.setCell ?_ ?_ _ | refine below_setR ?_ ?_ _ | refine below_dn ?_ _ | refine Below.trans ?_ (below_mo _ _ _ ?_) | refine Below.trans ?_ (below_mq _ _ ?_) | exact Nat.le_refl _) | (simp; done) | (simp; omega) | omega))⟩
  · have hl0 := (okS_len h1).1
    by_cases h2 : js.length = (xs.length : Int) - 1
    · have b2 : ((js.length : Int) == (xs.length : Int) - 1) = true := beq_iff_eq.2 h2
      have H1 := Lib.hid h1
      have H2 := Lib.hid h2
      clear h2
      go_enter Try.func70, Try.ntmps70
      go_wp2_with (first | (go_at_call 100; refine (ValidStack_any hs h8 _ _ rfl _ (by repeat' (first | (with_reducible first | assumption | exact Below.refl _ _ | refine Below.drew ?_ | refine Below.alloc ?_ ?_ _ | refine Below.setCell ?_ ?_ _ | refine below_setR ?_ ?_ _ | refine below_dn ?_ _ | refine Below.trans ?_ (below_mo _ _ _ ?_) | refine Below.trans ?_ (below_mq _ _ ?_) | exact Nat.le_refl _) | (simp; done) | (simp; omega) | omega))).mono ?_; rintro e w' ⟨rfl, rfl⟩) | (go_at_call 101; refine (hasJoint_any hl _ _ (by repeat' (first | (with_reducible first | assumption | exact Below.refl _ _ | refine Below.drew ?_ | refine Below.alloc ?_ ?_ _ | refine Below.setCell ?_ ?_ _ | refine below_setR ?_ ?_ _ | refine below_dn ?_ _ | refine Below.trans ?_ (below_mo _ _ _ ?_) | refine Below.trans ?_ (below_mq _ _ ?_) | exact Nat.le_refl _) | (simp; done) | (simp; omega) | omega))).mono ?_; rintro e w' ⟨rfl, hb_⟩; obtain ⟨os_, d_, rfl⟩ := mo_of hb_; clear hb_))
      go_ret
      exact ⟨by simp [okO, H1.out, H2.out], (by repeat' (first | (with_reducible first | assumption | exact Below.refl _ _ | refine Below.drew ?_ | refine Below.alloc ?_ ?_ _ | refine Below.setCell ?_ ?_ _ | refine below_setR ?_ ?_ _ | refine below_dn ?_ _ | refine Below.trans ?_ (below_mo _ _ _ ?_) | refine Below.trans ?_ (below_mq _ _ ?_) | exact Nat.le_refl _) | (simp; done) | (simp; omega) | omega))⟩
    · have b2 : ((js.length : Int) == (xs.length : Int) - 1) = false := beq_eq_false_iff_ne.2 h2
      go_enter Try.func70, Try.ntmps70
      go_wp2_with (first | (go_at_call 100; refine (ValidStack_any hs h8 _ _ rfl _ (by repeat' (first | (with_reducible first | assumption | exact Below.refl _ _ | refine Below.drew ?_ | refine Below.alloc ?_ ?_ _ | refine Below.setCell ?_ ?_ _ | refine below_setR ?_ ?_ _ | refine below_dn ?_ _ | refine Below.trans ?_ (below_mo _ _ _ ?_) | refine Below.trans ?_ (below_mq _ _ ?_) | exact Nat.le_refl _) | (simp; done) | (simp; omega) | omega))).mono ?_; rintro e w' ⟨rfl, rfl⟩))
      go_ret
      exact ⟨by simp [okO, h1, h2], (by repeat' (first | (with_reducible first | assumption | exact Below.refl _ _ | refine Below.drew ?_ | refine Below.alloc ?_ ?_ _ | refine Below.setCell ?_ ?_ _ | refine below_setR ?_ ?_ _ | refine below_dn ?_ _ | refine Below.trans ?_ (below_mo _ _ _ ?_) | refine Below.trans ?_ (below_mq _ _ ?_) | exact Nat.le_refl _) | (simp; done) | (simp; omega) | omega))⟩
theorem specValidStack_any {A : Option Addr} {xs : List Int} {W : World} {B : Nat} (hs : Nums .u8 W B A xs) (h8 : b8 xs) (n c : Nat) (hn : xs.length = n) (w : World) (hb : Below B W w) : Calls Try.prog 105 #[.slice A n c] w fun e w' => e = .returned (.bool (okS xs)) ∧ w = w' := by
  go_enter Try.func105, Try.ntmps105
  go_wp2_with (go_at_call 97; refine (l01Ok_any hs h8 _ _ hn _ hb).mono ?_; rintro e w' ⟨rfl, rfl⟩)
  go_ret
  exact ⟨rfl, rfl⟩
theorem specSizeOf_any {A : Option Addr} {xs : List Int} {W : World} {B : Nat} (hs : Nums .u8 W B A xs) (h8 : b8 xs) (n c : Nat) (hn : xs.length = n) (w : World) (hb : Below B W w) (hk : okS xs = true) : Calls Try.prog 95 #[.slice A n c] w fun e w' => e = .returned (.tuple #[.int .i64 (sizeTo xs n), .int .i64 0]) ∧ w = w' := by
  obtain rfl := hn
  go_enter Try.func95, Try.ntmps95
  go_wp2_with (first | (go_at_call 97; refine (l01Ok_any hs h8 _ _ rfl _ hb).mono ?_; rintro e w' ⟨rfl, rfl⟩) | (go_at_call 98; refine (l01Size_any hs h8 _ _ rfl _ hb).mono ?_; rintro e w' ⟨rfl, rfl⟩))
  go_returns
  exact ⟨rfl, rfl⟩
set_option maxHeartbeats 4000000 in
theorem l02Ok_any {A : Option Addr} {xs : List Int} {W : World} {B : Nat} (hs : Nums .u8 W B A xs) (h8 : b8 xs) (c : Nat) {L : Option Addr} {js : List (Int × Int)} {V : World} {C : Nat} (hl : Prs .i8 .i16 V C L js) (hj : j8 js) (cl : Nat) (w : World) (hb : Below B W w) (hv : Below C V w) (g : Nat) (k0 : w.cell? ⟨g, 0, none⟩ = some (.slice A xs.length c)) (k1 : w.cell? ⟨g, 1, none⟩ = some (.slice L js.length cl)) : Calls Try.prog 75 #[.pointer (some ⟨g, 0, none⟩)] w fun e w' => e = .returned (.bool (okO xs js)) ∧ Below w.heap.size w w' := by
  have hB := hs.bsz hb
  have hC := hl.bsz hv
  have hn := hs.len
  have hn2 := hl.len
  have hg : g < w.heap.size := block_lt_of_cell k0
  cases h1 : okS xs
  · go_enter Try.func75, Try.ntmps75
    go_wp2
    (refine wp_region_mq (by kernel_rfl) (by kernel_rfl) ?_; (repeat (first | go_big_quiet_step ((first | (go_at_call 105; ((with_reducible refine quietSb (specValidStack_any hs h8 _ _ rfl _ ?_) h1) <;> (repeat' (first | (with_reducible first | assumption | exact Below.refl _ _ | refine Below.drew ?_ | refine Below.alloc ?_ ?_ _ | refine Below.setCell ?_ ?_ _ | refine below_setR ?_ ?_ _ | refine below_dn ?_ _ | refine Below.trans ?_ (below_mo _ _ _ ?_) | refine Below.trans ?_ (below_mq _ _ ?_) | exact Nat.le_refl _) | (simp; done) | (simp; omega) | omega)))))) | quiet_step ((first | (go_at_call 105; ((with_reducible refine quietSb (specValidStack_any hs h8 _ _ rfl _ ?_) h1) <;> (repeat' (first | (with_reducible first | assumption | exact Below.refl _ _ | refine Below.drew ?_ | refine Below.alloc ?_ ?_ _ | refine Below.setCell ?_ ?_ _ | refine below_setR ?_ ?_ _ | refine below_dn ?_ _ | refine Below.trans ?_ (below_mo _ _ _ ?_) | refine Below.trans ?_ (below_mq _ _ ?_) | exact Nat.le_refl _) | (simp; done) | (simp; omega) | omega)))))))); refine wpQuiet_nil ?_; intro _ hq_; obtain ⟨q_, rfl⟩ := hq_)
    go_wp2
    go_ret
    exact ⟨by simp [okO, h1], (by repeat' (first | (with_reducible first | assumption | exact Below.refl _ _ | refine Below.drew ?_ | refine Below.alloc ?_ ?_ _ | refine Below.setCell ?_ ?_ _ | refine below_setR ?_ ?_ _ | refine below_dn ?_ _ | refine Below.trans ?_ (below_mo _ _ _ ?_) | refine Below.trans ?_ (below_mq _ _ ?_) | exact Nat.le_refl _) | (simp; done) | (simp; omega) | omega))⟩
  have hl0 := (okS_len h1).1
  have e0 : IntKind.i64.wrap ((xs.length : Int) - 1) = (xs.length : Int) - 1 := IntWalk.i64_in _ ⟨by omega, by omega⟩
  by_cases h2 : js.length = (xs.length : Int) - 1
  · have b2 : ((js.length : Int) == (xs.length : Int) - 1) = true := beq_iff_eq.2 h2
    have b3 : ((js.length : Int) != (xs.length : Int) - 1) = false := congrArg not b2
    have H1 := Lib.hid h1
    have H2 := Lib.hid h2
    clear h2
    go_enter Try.func75, Try.ntmps75
    go_wp2
    (refine wp_region_mq (by kernel_rfl) (by kernel_rfl) ?_; (repeat (first | go_big_quiet_step ((first | (go_at_call 105; ((with_reducible refine quietSb (specValidStack_any hs h8 _ _ rfl _ ?_) h1) <;> (repeat' (first | (with_reducible first | assumption | exact Below.refl _ _ | refine Below.drew ?_ | refine Below.alloc ?_ ?_ _ | refine Below.setCell ?_ ?_ _ | refine below_setR ?_ ?_ _ | refine below_dn ?_ _ | refine Below.trans ?_ (below_mo _ _ _ ?_) | refine Below.trans ?_ (below_mq _ _ ?_) | exact Nat.le_refl _) | (simp; done) | (simp; omega) | omega)))))) | quiet_step ((first | (go_at_call 105; ((with_reducible refine quietSb (specValidStack_any hs h8 _ _ rfl _ ?_) h1) <;> (repeat' (first | (with_reducible first | assumption | exact Below.refl _ _ | refine Below.drew ?_ | refine Below.alloc ?_ ?_ _ | refine Below.setCell ?_ ?_ _ | refine below_setR ?_ ?_ _ | refine below_dn ?_ _ | refine Below.trans ?_ (below_mo _ _ _ ?_) | refine Below.trans ?_ (below_mq _ _ ?_) | exact Nat.le_refl _) | (simp; done) | (simp; omega) | omega)))))))); refine wpQuiet_nil ?_; intro _ hq_; obtain ⟨q_, rfl⟩ := hq_)
    go_wp2
    clear b2 b3 e0 h1
    go_loopw [3] (fun i wr => ∃ (k : Nat) (os : Array Obj) (d : Nat), k ≤ js.length ∧ i = .int .i64 k ∧ Hid (jtTo js k = true) ∧ wr = mo w os d) (fun i _ => js.length - (intOf i).toNat)
    case atStart => exact ⟨0, _, _, Nat.zero_le _, rfl, (rfl : jtTo js 0 = true), rfl⟩
    case round =>
      obtain ⟨k, os, d, hk, rfl, HA, rfl⟩ := hrel
      by_cases hlt : k < js.length
      · obtain ⟨b, off, rfl, hbs, hc0, hc1⟩ := hl.at hv hlt
        obtain ⟨⟨x0, x1⟩, x2, x3⟩ := hj k
        have HJ := Lib.hid (jOK_eq (p1 js k) (p2 js k))
        have g0 : (0 : Int) ≤ (k : Int) := by omega
        have g1 : (k : Int) < (js.length : Int) := by omega
        cases hA : (p1 js k == 0) <;> cases hB2 : (p2 js k != 0) <;> cases hC2 : inR (p1 js k) 0 1 <;> cases hD : inR (p2 js k) 0 999
        all_goals
          first
          | (have HN : Hid (jtTo js (k + 1) = true) := by unfold Hid jtTo; rw [HA.out, HJ.out, hA, hB2, hC2, hD]; rfl
             clear HJ
             go_wp2_with (go_at_call 58; refine (l00In_ok _ _ _ _).mono ?_; rintro e w' ⟨rfl, rfl⟩)
             exact ⟨⟨k + 1, _, _, by omega, by go_num, HN, by first | rfl | (rw [mo_alloc])⟩, by simp [intOf]; omega⟩)
          | (have HN : Hid (jtTo js js.length = false) := jtTo_no hlt (by rw [HJ.out, hA, hB2, hC2, hD]; rfl)
             clear HJ
             go_wp2_with (go_at_call 58; refine (l00In_ok _ _ _ _).mono ?_; rintro e w' ⟨rfl, rfl⟩)
             go_ret
             exact ⟨by simp [okO, HN.out], (by repeat' (first | (with_reducible first | assumption | exact Below.refl _ _ | refine Below.drew ?_ | refine Below.alloc ?_ ?_ _ | refine Below.setCell ?_ ?_ _ | refine below_setR ?_ ?_ _ | refine below_dn ?_ _ | refine Below.trans ?_ (below_mo _ _ _ ?_) | refine Below.trans ?_ (below_mq _ _ ?_) | exact Nat.le_refl _) | (simp; done) | (simp; omega) | omega))⟩)
      · obtain rfl : k = js.length := by omega
        go_wp2
        go_ret
        exact ⟨by simp [okO, H1.out, H2.out, HA.out], (by repeat' (first | (with_reducible first | assumption | exact Below.refl _ _ | refine Below.drew ?_ | refine Below.alloc ?_ ?_ _ | refine Below.setCell ?_ ?_ _ | refine below_setR ?_ ?_ _ | refine below_dn ?_ _ | refine Below.trans ?_ (below_mo _ _ _ ?_) | refine Below.trans ?_ (below_mq _ _ ?_) | exact Nat.le_refl _) | (simp; done) | (simp; omega) | omega))⟩
  · have b2 : ((js.length : Int) == (xs.length : Int) - 1) = false := beq_eq_false_iff_ne.2 h2
    have b3 : ((js.length : Int) != (xs.length : Int) - 1) = true := congrArg not b2
    go_enter Try.func75, Try.ntmps75
    go_wp2
    (refine wp_region_mq (by kernel_rfl) (by kernel_rfl) ?_; (repeat (first | go_big_quiet_step ((first | (go_at_call 105; ((with_reducible refine quietSb (specValidStack_any hs h8 _ _ rfl _ ?_) h1) <;> (repeat' (first | (with_reducible first | assumption | exact Below.refl _ _ | refine Below.drew ?_ | refine Below.alloc ?_ ?_ _ | refine Below.setCell ?_ ?_ _ | refine below_setR ?_ ?_ _ | refine below_dn ?_ _ | refine Below.trans ?_ (below_mo _ _ _ ?_) | refine Below.trans ?_ (below_mq _ _ ?_) | exact Nat.le_refl _) | (simp; done) | (simp; omega) | omega)))))) | quiet_step ((first | (go_at_call 105; ((with_reducible refine quietSb (specValidStack_any hs h8 _ _ rfl _ ?_) h1) <;> (repeat' (first | (with_reducible first | assumption | exact Below.refl _ _ | refine Below.drew ?_ | refine Below.alloc ?_ ?_ _ | refine Below.setCell ?_ ?_ _ | refine below_setR ?_ ?_ _ | refine below_dn ?_ _ | refine Below.trans ?_ (below_mo _ _ _ ?_) | refine Below.trans ?_ (below_mq _ _ ?_) | exact Nat.le_refl _) | (simp; done) | (simp; omega) | omega)))))))); refine wpQuiet_nil ?_; intro _ hq_; obtain ⟨q_, rfl⟩ := hq_)
    go_wp2
    go_ret
    exact ⟨by simp [okO, h1, h2], (by repeat' (first | (with_reducible first | assumption | exact Below.refl _ _ | refine Below.drew ?_ | refine Below.alloc ?_ ?_ _ | refine Below.setCell ?_ ?_ _ | refine below_setR ?_ ?_ _ | refine below_dn ?_ _ | refine Below.trans ?_ (below_mo _ _ _ ?_) | refine Below.trans ?_ (below_mq _ _ ?_) | exact Nat.le_refl _) | (simp; done) | (simp; omega) | omega))⟩
end Go.Proofs.Ytinjlofefmjolaa.X
