/- A digit is marked, or not, in a photo. Conditions: none. -/
import Derived.Test.YtdmnblmonndkmaaKPh
namespace Go.Proofs.Ytdmnblmonndkmaa.X
open Go.RowKit
set_option linter.unusedVariables false
set_option linter.unusedSimpArgs false
set_option maxRecDepth 100000
attribute [local go_sem] a16_zero
theorem ofInt_wrap (A : BitVec 64) : BitVec.ofInt 64 (IntKind.u64.wrap (A.toNat : Int)) = A := by
  have h := A.isLt
  rw [IntKind.wrap_u64, show ((A.toNat : Int) % 18446744073709551616) = (A.toNat : Int) by omega]
  exact (BitVec.ofInt_natCast 64 A.toNat).trans (BitVec.ofNat_toNat 64 A |>.trans (BitVec.setWidth_eq A))
theorem xor_or (x b : Int) : bits .xor .u64 (bits .or .u64 x b) b = bits .andNot .u64 x b := by
  unfold bits
  show IntKind.u64.wrap ((BitVec.ofInt 64 (IntKind.u64.wrap (((BitVec.ofInt 64 x ||| BitVec.ofInt 64 b).toNat : Nat) : Int)) ^^^ BitVec.ofInt 64 b).toNat : Int) = IntKind.u64.wrap ((BitVec.ofInt 64 x &&& ~~~ BitVec.ofInt 64 b).toNat : Int)
  rw [ofInt_wrap]
  congr 3
  apply BitVec.eq_of_getLsbD_eq
  intro i hi
  simp only [BitVec.getLsbD_xor, BitVec.getLsbD_or, BitVec.getLsbD_and, BitVec.getLsbD_not, hi, decide_true, Bool.true_and]
  cases (BitVec.ofInt 64 x).getLsbD i <;> cases (BitVec.ofInt 64 b).getLsbD i <;> rfl
theorem wi_false (x y d : Int) : wi x y d false = (if d < 64 then (bits .xor .u64 (wi x y d true).1 (bitD d), (wi x y d true).2) else ((wi x y d true).1, bits .xor .u64 (wi x y d true).2 (bitD d))) := by
  unfold wi
  by_cases h : d < 64 <;> simp [h, xor_or]
/-- is a wheel, and a digit of it, there -/
def okWD (xs : List Int) (wh dg : Int) : Bool := inR wh 0 (xs.length - 1) && inR dg 0 (el xs wh - 1)
/-- the photo with a digit marked, or not -/
def wdP (p : Nat → Int) (k : Nat) (dg : Int) (m : Bool) : Nat → Int := upd2 p k (wi (p (2 * k)) (p (2 * k + 1)) dg m).1 (wi (p (2 * k)) (p (2 * k + 1)) dg m).2
/-- what WithDigit returns -/
def wdV (xs : List Int) (p : Nat → Int) (wh dg : Int) (m : Bool) : (Nat → Int) × Int :=
  if okP xs p then if okWD xs wh dg then if phOK xs (wdP p wh.toNat dg m) then (wdP p wh.toNat dg m, 0) else (fun _ => 0, 4) else (fun _ => 0, 2) else (fun _ => 0, 1)
theorem wdV_1 {xs : List Int} {p : Nat → Int} {wh dg : Int} {m : Bool} (h : okP xs p = false) : wdV xs p wh dg m = (fun _ => 0, 1) := by unfold wdV; rw [h]; rfl
theorem wdV_2 {xs : List Int} {p : Nat → Int} {wh dg : Int} {m : Bool} (h : okP xs p = true) (g : okWD xs wh dg = false) : wdV xs p wh dg m = (fun _ => 0, 2) := by unfold wdV; rw [h, g]; rfl
theorem wdV_3 {xs : List Int} {p : Nat → Int} {wh dg : Int} {m b : Bool} (h : okP xs p = true) (g : okWD xs wh dg = true) (k : phOK xs (wdP p wh.toNat dg m) = b) : wdV xs p wh dg m = if b then (wdP p wh.toNat dg m, 0) else (fun _ => 0, 4) := by unfold wdV; rw [h, g, k]; rfl
theorem wdV_k {xs : List Int} {p q : Nat → Int} {k : Nat} {dg : Int} {m b : Bool} (h : okP xs p = true) (g : okWD xs k dg = true) (hq : q = wdP p k dg m) (hb : phOK xs q = b) : wdV xs p k dg m = if b then (q, 0) else (fun _ => 0, 4) := by
  unfold wdV
  rw [h, g, Int.toNat_natCast, ← hq, hb]; rfl
theorem hasWheel_any (wh : Int) (n c : Nat) (A : Option Addr) (hn : n ≤ 1048576) (w : World) : Calls Try.prog 107 #[.slice A n c, .int .i64 wh] w fun e w' => e = .returned (.bool (inR wh 0 (n - 1))) ∧ w = w' := by
  go_enter Try.func107, Try.ntmps107
  go_wp2_with (first | (go_at_call 93; refine (wheels_any _ _ _ _ hn).mono ?_; rintro e w' ⟨rfl, rfl⟩) | (go_at_call 87; refine (within_ok _ _ _ _).mono ?_; rintro e w' ⟨rfl, rfl⟩))
  go_ret
  exact ⟨rfl, rfl⟩
theorem l01Wheel_any (wh : Int) (n c : Nat) (A : Option Addr) (hn : n ≤ 1048576) (w : World) : Calls Try.prog 76 #[.slice A n c, .int .i64 wh] w fun e w' => e = .returned (.bool (inR wh 0 (n - 1))) ∧ w = w' := by
  go_enter Try.func76, Try.ntmps76
  go_wp2_with (go_at_call 77; refine (l00In_ok _ _ _ _).mono ?_; rintro e w' ⟨rfl, rfl⟩)
  go_ret
  exact ⟨rfl, rfl⟩
set_option maxHeartbeats 1000000 in
theorem hasDigit_any {A : Option Addr} {xs : List Int} {W : World} {B : Nat} (hs : Nums .u8 W B A xs) (h8 : b8 xs) (n c : Nat) (hn : xs.length = n) (w : World) (hb : Below B W w) (wh dg : Int) : Calls Try.prog 79 #[.slice A n c, .int .i64 wh, .int .i64 dg] w fun e w' => e = .returned (.bool (okWD xs wh dg)) ∧ w = w' := by
  have hl := hs.len
  obtain rfl := hn
  cases h1 : inR wh 0 (xs.length - 1)
  · go_enter Try.func79, Try.ntmps79
    go_wp2_with (go_at_call 107; refine (hasWheel_any _ _ _ _ hl _).mono ?_; rintro e w' ⟨rfl, rfl⟩)
    go_ret
    exact ⟨by simp [okWD, h1], rfl⟩
  · obtain ⟨w0, w1⟩ := inR_t.1 h1
    obtain ⟨k, rfl⟩ : ∃ k : Nat, wh = k := ⟨wh.toNat, by omega⟩
    obtain ⟨b, off, rfl, hbs, hc⟩ := hs.at hb (k := k) (by omega)
    obtain ⟨e0, e1⟩ := h8 k
    have g1 : (k : Int) < (xs.length : Int) := by omega
    have g2 : k < xs.length := by omega
    go_enter Try.func79, Try.ntmps79
    go_wp2_with (first | (go_at_call 107; refine (hasWheel_any _ _ _ _ hl _).mono ?_; rintro e w' ⟨rfl, rfl⟩) | (go_at_call 87; refine (within_ok _ _ _ _).mono ?_; rintro e w' ⟨rfl, rfl⟩))
    go_ret
    exact ⟨by simp [okWD, h1], rfl⟩
set_option maxHeartbeats 4000000 in
theorem implWith_any {A : Option Addr} {xs : List Int} {W : World} {B : Nat} (hs : Nums .u8 W B A xs) (h8 : b8 xs) (n c : Nat) (hn : xs.length = n) (w : World) (hb : Below B W w) (p : Nat → Int) (wh dg : Int) (m : Bool) : Calls Try.prog 31 #[.slice A n c, .agg (a16 p), .int .i64 wh, .int .i64 dg, .bool m] w fun e w' => e = .returned (.tuple #[.agg (a16 (wdV xs p wh dg m).1), .int .i64 (wdV xs p wh dg m).2]) ∧ Below w.heap.size w w' := by
  obtain rfl := hn
  have hB := hs.bsz hb
  have hlen := hs.len
  cases h1 : okP xs p
  · have HR := Lib.hid (wdV_1 (wh := wh) (dg := dg) (m := m) h1)
    go_enter Try.func31, Try.ntmps31
    go_wp2_with (go_at_call 22; refine (implVP hs h8 _ _ rfl _ (by repeat' (first | (with_reducible first | assumption | exact Below.refl _ _ | refine Below.drew ?_ | refine Below.alloc ?_ ?_ _ | refine Below.setCell ?_ ?_ _ | refine below_setR ?_ ?_ _ | refine below_dn ?_ _ | refine Below.trans ?_ (below_mo _ _ _ ?_) | refine Below.trans ?_ (below_mq _ _ ?_) | exact Nat.le_refl _) | (simp; done) | (simp; omega) | omega)) _).mono ?_; rintro e w' ⟨rfl, hb_⟩; obtain ⟨os_, d_, rfl⟩ := mo_of hb_; clear hb_)
    (apply ret16; rfl; rfl; (repeat' (first | (with_reducible assumption) | (with_reducible refine heap_mo_at ?_) | (with_reducible refine heap_mq_at ?_) | (with_reducible refine heap_drew_at ?_) | ((with_reducible refine heap_alloc_at ?_); first | rfl | (simp; done)) | (with_reducible refine heap_alloc_past ?_) | ((with_reducible apply heap_set_at); (first | rfl | (simp; done))) | ((with_reducible apply heap_set_past); (first | (simp; done) | (simp; omega) | omega)) | ((with_reducible apply heap_setC_past); (first | (simp; done) | (simp; omega) | omega)) | fail)); (first | rfl | (simp; done)); rfl)
    exact ⟨(by first | (rw [HR.out]; done) | (rw [HR.out]; rfl)), (by repeat' (first | (with_reducible first | assumption | exact Below.refl _ _ | refine Below.drew ?_ | refine Below.alloc ?_ ?_ _ | refine Below.setCell ?_ ?_ _ | refine below_setR ?_ ?_ _ | refine below_dn ?_ _ | refine Below.trans ?_ (below_mo _ _ _ ?_) | refine Below.trans ?_ (below_mq _ _ ?_) | exact Nat.le_refl _) | (simp; done) | (simp; omega) | omega))⟩
  cases h2 : okWD xs wh dg
  · have HR := Lib.hid (wdV_2 (m := m) h1 h2)
    go_enter Try.func31, Try.ntmps31
    go_wp2_with (first | (go_at_call 22; refine (implVP hs h8 _ _ rfl _ (by repeat' (first | (with_reducible first | assumption | exact Below.refl _ _ | refine Below.drew ?_ | refine Below.alloc ?_ ?_ _ | refine Below.setCell ?_ ?_ _ | refine below_setR ?_ ?_ _ | refine below_dn ?_ _ | refine Below.trans ?_ (below_mo _ _ _ ?_) | refine Below.trans ?_ (below_mq _ _ ?_) | exact Nat.le_refl _) | (simp; done) | (simp; omega) | omega)) _).mono ?_; rintro e w' ⟨rfl, hb_⟩; obtain ⟨os_, d_, rfl⟩ := mo_of hb_; clear hb_) | (go_at_call 79; refine (hasDigit_any hs h8 _ _ rfl _ (by repeat' (first | (with_reducible first | assumption | exact Below.refl _ _ | refine Below.drew ?_ | refine Below.alloc ?_ ?_ _ | refine Below.setCell ?_ ?_ _ | refine below_setR ?_ ?_ _ | refine below_dn ?_ _ | refine Below.trans ?_ (below_mo _ _ _ ?_) | refine Below.trans ?_ (below_mq _ _ ?_) | exact Nat.le_refl _) | (simp; done) | (simp; omega) | omega)) _ _).mono ?_; rintro e w' ⟨rfl, rfl⟩))
    (apply ret16; rfl; rfl; (repeat' (first | (with_reducible assumption) | (with_reducible refine heap_mo_at ?_) | (with_reducible refine heap_mq_at ?_) | (with_reducible refine heap_drew_at ?_) | ((with_reducible refine heap_alloc_at ?_); first | rfl | (simp; done)) | (with_reducible refine heap_alloc_past ?_) | ((with_reducible apply heap_set_at); (first | rfl | (simp; done))) | ((with_reducible apply heap_set_past); (first | (simp; done) | (simp; omega) | omega)) | ((with_reducible apply heap_setC_past); (first | (simp; done) | (simp; omega) | omega)) | fail)); (first | rfl | (simp; done)); rfl)
    exact ⟨(by first | (rw [HR.out]; done) | (rw [HR.out]; rfl)), (by repeat' (first | (with_reducible first | assumption | exact Below.refl _ _ | refine Below.drew ?_ | refine Below.alloc ?_ ?_ _ | refine Below.setCell ?_ ?_ _ | refine below_setR ?_ ?_ _ | refine below_dn ?_ _ | refine Below.trans ?_ (below_mo _ _ _ ?_) | refine Below.trans ?_ (below_mq _ _ ?_) | exact Nat.le_refl _) | (simp; done) | (simp; omega) | omega))⟩
  have HK := Lib.hid (okP_S h1)
  have hl8 := (okS_len (okP_S h1)).2
  have hw : inR wh 0 (xs.length - 1) = true ∧ inR dg 0 (el xs wh - 1) = true := by unfold okWD at h2; rwa [Bool.and_eq_true] at h2
  obtain ⟨w0, w1⟩ := inR_t.1 hw.1
  obtain ⟨k, rfl⟩ : ∃ k : Nat, wh = k := ⟨wh.toNat, by omega⟩
  have hd := inR_t.1 hw.2
  have he := okS_el (okP_S h1) (k := k) (by omega)
  have d0 : 0 ≤ dg := hd.1
  have d1 : dg < 128 := by omega
  have hk8 : k < 8 := by omega
  clear hw hd he
  have a0 := a16_e0 p hk8
  have a1 := a16_e1 p hk8
  have g0 : (0 : Int) ≤ (k : Int) := by omega
  have g1 : (k : Int) < 8 := by omega
  obtain ⟨q, hq⟩ : ∃ q, q = wdP p k dg m := ⟨_, rfl⟩
  have HQ := Lib.hid hq
  have hS : ((a16 p).setIfInBounds (k * 2) (.int .u64 (wi (p (2 * k)) (p (2 * k + 1)) dg m).1)).setIfInBounds (k * 2 + 1) (.int .u64 (wi (p (2 * k)) (p (2 * k + 1)) dg m).2) = a16 q := (a16_set p _ _ hk8).trans (by rw [hq]; rfl)
  clear hq
  cases h3 : phOK xs q
  all_goals
    have HR := Lib.hid (wdV_k h1 h2 HQ.out h3)
    go_enter Try.func31, Try.ntmps31
    go_wp2_with (first | (go_at_call 22; refine (implVP hs h8 _ _ rfl _ (by repeat' (first | (with_reducible first | assumption | exact Below.refl _ _ | refine Below.drew ?_ | refine Below.alloc ?_ ?_ _ | refine Below.setCell ?_ ?_ _ | refine below_setR ?_ ?_ _ | refine below_dn ?_ _ | refine Below.trans ?_ (below_mo _ _ _ ?_) | refine Below.trans ?_ (below_mq _ _ ?_) | exact Nat.le_refl _) | (simp; done) | (simp; omega) | omega)) _).mono ?_; rintro e w' ⟨rfl, hb_⟩; obtain ⟨os_, d_, rfl⟩ := mo_of hb_; clear hb_) | (go_at_call 79; refine (hasDigit_any hs h8 _ _ rfl _ (by repeat' (first | (with_reducible first | assumption | exact Below.refl _ _ | refine Below.drew ?_ | refine Below.alloc ?_ ?_ _ | refine Below.setCell ?_ ?_ _ | refine below_setR ?_ ?_ _ | refine below_dn ?_ _ | refine Below.trans ?_ (below_mo _ _ _ ?_) | refine Below.trans ?_ (below_mq _ _ ?_) | exact Nat.le_refl _) | (simp; done) | (simp; omega) | omega)) _ _).mono ?_; rintro e w' ⟨rfl, rfl⟩) | (go_at_call 75; refine (with_any _ _ dg m d0 d1 _).mono ?_; rintro e w' ⟨rfl, hb_⟩; obtain ⟨os_, d_, rfl⟩ := mo_of hb_; clear hb_) | (go_at_call 71; refine (photoOKa hs h8 _ _ rfl _ (by repeat' (first | (with_reducible first | assumption | exact Below.refl _ _ | refine Below.drew ?_ | refine Below.alloc ?_ ?_ _ | refine Below.setCell ?_ ?_ _ | refine below_setR ?_ ?_ _ | refine below_dn ?_ _ | refine Below.trans ?_ (below_mo _ _ _ ?_) | refine Below.trans ?_ (below_mq _ _ ?_) | exact Nat.le_refl _) | (simp; done) | (simp; omega) | omega)) q HK.out).mono ?_; rintro e w' ⟨rfl, hb_⟩; obtain ⟨os_, d_, rfl⟩ := mo_of hb_; clear hb_))
    (apply ret16; rfl; rfl; (repeat' (first | (with_reducible assumption) | (with_reducible refine heap_mo_at ?_) | (with_reducible refine heap_mq_at ?_) | (with_reducible refine heap_drew_at ?_) | ((with_reducible refine heap_alloc_at ?_); first | rfl | (simp; done)) | (with_reducible refine heap_alloc_past ?_) | ((with_reducible apply heap_set_at); (first | rfl | (simp; done))) | ((with_reducible apply heap_set_past); (first | (simp; done) | (simp; omega) | omega)) | ((with_reducible apply heap_setC_past); (first | (simp; done) | (simp; omega) | omega)) | fail)); (first | rfl | (simp; done)); rfl)
    exact ⟨(by first | (rw [HR.out]; done) | (rw [HR.out]; rfl)), (by repeat' (first | (with_reducible first | assumption | exact Below.refl _ _ | refine Below.drew ?_ | refine Below.alloc ?_ ?_ _ | refine Below.setCell ?_ ?_ _ | refine below_setR ?_ ?_ _ | refine below_dn ?_ _ | refine Below.trans ?_ (below_mo _ _ _ ?_) | refine Below.trans ?_ (below_mq _ _ ?_) | exact Nat.le_refl _) | (simp; done) | (simp; omega) | omega))⟩
set_option maxHeartbeats 4000000 in
theorem specWith_any {A : Option Addr} {xs : List Int} {W : World} {B : Nat} (hs : Nums .u8 W B A xs) (h8 : b8 xs) (n c : Nat) (hn : xs.length = n) (w : World) (hb : Below B W w) (p : Nat → Int) (wh dg : Int) (m : Bool) : Calls Try.prog 30 #[.slice A n c, .agg (a16 p), .int .i64 wh, .int .i64 dg, .bool m] w fun e w' => e = .returned (.tuple #[.agg (a16 (wdV xs p wh dg m).1), .int .i64 (wdV xs p wh dg m).2]) ∧ Below w.heap.size w w' := by
  obtain rfl := hn
  have hB := hs.bsz hb
  have hlen := hs.len
  cases h1 : okP xs p
  · have HR := Lib.hid (wdV_1 (wh := wh) (dg := dg) (m := m) h1)
    go_enter Try.func30, Try.ntmps30
    go_wp2_with (go_at_call 20; refine (specVP hs h8 _ _ rfl _ (by repeat' (first | (with_reducible first | assumption | exact Below.refl _ _ | refine Below.drew ?_ | refine Below.alloc ?_ ?_ _ | refine Below.setCell ?_ ?_ _ | refine below_setR ?_ ?_ _ | refine below_dn ?_ _ | refine Below.trans ?_ (below_mo _ _ _ ?_) | refine Below.trans ?_ (below_mq _ _ ?_) | exact Nat.le_refl _) | (simp; done) | (simp; omega) | omega)) _).mono ?_; rintro e w' ⟨rfl, hb_⟩; obtain ⟨os_, d_, rfl⟩ := mo_of hb_; clear hb_)
    (apply ret16; rfl; rfl; (repeat' (first | (with_reducible assumption) | (with_reducible refine heap_mo_at ?_) | (with_reducible refine heap_mq_at ?_) | (with_reducible refine heap_drew_at ?_) | ((with_reducible refine heap_alloc_at ?_); first | rfl | (simp; done)) | (with_reducible refine heap_alloc_past ?_) | ((with_reducible apply heap_set_at); (first | rfl | (simp; done))) | ((with_reducible apply heap_set_past); (first | (simp; done) | (simp; omega) | omega)) | ((with_reducible apply heap_setC_past); (first | (simp; done) | (simp; omega) | omega)) | fail)); (first | rfl | (simp; done)); rfl)
    exact ⟨(by first | (rw [HR.out]; done) | (rw [HR.out]; rfl)), (by repeat' (first | (with_reducible first | assumption | exact Below.refl _ _ | refine Below.drew ?_ | refine Below.alloc ?_ ?_ _ | refine Below.setCell ?_ ?_ _ | refine below_setR ?_ ?_ _ | refine below_dn ?_ _ | refine Below.trans ?_ (below_mo _ _ _ ?_) | refine Below.trans ?_ (below_mq _ _ ?_) | exact Nat.le_refl _) | (simp; done) | (simp; omega) | omega))⟩
  cases h5 : inR wh 0 (xs.length - 1)
  · have HR := Lib.hid (wdV_2 (wh := wh) (dg := dg) (m := m) h1 (by unfold okWD; rw [h5]; rfl))
    go_enter Try.func30, Try.ntmps30
    go_wp2_with (first | (go_at_call 20; refine (specVP hs h8 _ _ rfl _ (by repeat' (first | (with_reducible first | assumption | exact Below.refl _ _ | refine Below.drew ?_ | refine Below.alloc ?_ ?_ _ | refine Below.setCell ?_ ?_ _ | refine below_setR ?_ ?_ _ | refine below_dn ?_ _ | refine Below.trans ?_ (below_mo _ _ _ ?_) | refine Below.trans ?_ (below_mq _ _ ?_) | exact Nat.le_refl _) | (simp; done) | (simp; omega) | omega)) _).mono ?_; rintro e w' ⟨rfl, hb_⟩; obtain ⟨os_, d_, rfl⟩ := mo_of hb_; clear hb_) | (go_at_call 76; refine (l01Wheel_any _ _ _ _ hlen _).mono ?_; rintro e w' ⟨rfl, rfl⟩))
    (apply ret16; rfl; rfl; (repeat' (first | (with_reducible assumption) | (with_reducible refine heap_mo_at ?_) | (with_reducible refine heap_mq_at ?_) | (with_reducible refine heap_drew_at ?_) | ((with_reducible refine heap_alloc_at ?_); first | rfl | (simp; done)) | (with_reducible refine heap_alloc_past ?_) | ((with_reducible apply heap_set_at); (first | rfl | (simp; done))) | ((with_reducible apply heap_set_past); (first | (simp; done) | (simp; omega) | omega)) | ((with_reducible apply heap_setC_past); (first | (simp; done) | (simp; omega) | omega)) | fail)); (first | rfl | (simp; done)); rfl)
    exact ⟨(by first | (rw [HR.out]; done) | (rw [HR.out]; rfl)), (by repeat' (first | (with_reducible first | assumption | exact Below.refl _ _ | refine Below.drew ?_ | refine Below.alloc ?_ ?_ _ | refine Below.setCell ?_ ?_ _ | refine below_setR ?_ ?_ _ | refine below_dn ?_ _ | refine Below.trans ?_ (below_mo _ _ _ ?_) | refine Below.trans ?_ (below_mq _ _ ?_) | exact Nat.le_refl _) | (simp; done) | (simp; omega) | omega))⟩
  obtain ⟨w0, w1⟩ := inR_t.1 h5
  obtain ⟨k, rfl⟩ : ∃ k : Nat, wh = k := ⟨wh.toNat, by omega⟩
  obtain ⟨b, off, rfl, hbs, hc⟩ := hs.at hb (k := k) (by omega)
  obtain ⟨e0, e1⟩ := h8 k
  have g0 : (0 : Int) ≤ (k : Int) := by omega
  have g4 : (k : Int) < (xs.length : Int) := by omega
  have g5 : k < xs.length := by omega
  cases h6 : inR dg 0 (el xs k - 1)
  · have HR := Lib.hid (wdV_2 (wh := (k : Int)) (dg := dg) (m := m) h1 (by unfold okWD; rw [h5, h6]; rfl))
    go_enter Try.func30, Try.ntmps30
    go_wp2_with (first | (go_at_call 20; refine (specVP hs h8 _ _ rfl _ (by repeat' (first | (with_reducible first | assumption | exact Below.refl _ _ | refine Below.drew ?_ | refine Below.alloc ?_ ?_ _ | refine Below.setCell ?_ ?_ _ | refine below_setR ?_ ?_ _ | refine below_dn ?_ _ | refine Below.trans ?_ (below_mo _ _ _ ?_) | refine Below.trans ?_ (below_mq _ _ ?_) | exact Nat.le_refl _) | (simp; done) | (simp; omega) | omega)) _).mono ?_; rintro e w' ⟨rfl, hb_⟩; obtain ⟨os_, d_, rfl⟩ := mo_of hb_; clear hb_) | (go_at_call 76; refine (l01Wheel_any _ _ _ _ hlen _).mono ?_; rintro e w' ⟨rfl, rfl⟩) | (go_at_call 77; refine (l00In_ok _ _ _ _).mono ?_; rintro e w' ⟨rfl, rfl⟩))
    (apply ret16; rfl; rfl; (repeat' (first | (with_reducible assumption) | (with_reducible refine heap_mo_at ?_) | (with_reducible refine heap_mq_at ?_) | (with_reducible refine heap_drew_at ?_) | ((with_reducible refine heap_alloc_at ?_); first | rfl | (simp; done)) | (with_reducible refine heap_alloc_past ?_) | ((with_reducible apply heap_set_at); (first | rfl | (simp; done))) | ((with_reducible apply heap_set_past); (first | (simp; done) | (simp; omega) | omega)) | ((with_reducible apply heap_setC_past); (first | (simp; done) | (simp; omega) | omega)) | fail)); (first | rfl | (simp; done)); rfl)
    exact ⟨(by first | (rw [HR.out]; done) | (rw [HR.out]; rfl)), (by repeat' (first | (with_reducible first | assumption | exact Below.refl _ _ | refine Below.drew ?_ | refine Below.alloc ?_ ?_ _ | refine Below.setCell ?_ ?_ _ | refine below_setR ?_ ?_ _ | refine below_dn ?_ _ | refine Below.trans ?_ (below_mo _ _ _ ?_) | refine Below.trans ?_ (below_mq _ _ ?_) | exact Nat.le_refl _) | (simp; done) | (simp; omega) | omega))⟩
  have h2 : okWD xs k dg = true := by unfold okWD; rw [h5, h6]; rfl
  have HK := Lib.hid (okP_S h1)
  have hl8 := (okS_len (okP_S h1)).2
  have hd := inR_t.1 h6
  have he := okS_el (okP_S h1) (k := k) (by omega)
  have d0 : 0 ≤ dg := hd.1
  have d1 : dg < 128 := by omega
  have hk8 : k < 8 := by omega
  clear hd he
  have a0 := a16_e0 p hk8
  have a1 := a16_e1 p hk8
  have g1 : (k : Int) < 8 := by omega
  obtain ⟨q, hq⟩ : ∃ q, q = wdP p k dg m := ⟨_, rfl⟩
  have HQ := Lib.hid hq
  have hS : ((a16 p).setIfInBounds (k * 2) (.int .u64 (wi (p (2 * k)) (p (2 * k + 1)) dg m).1)).setIfInBounds (k * 2 + 1) (.int .u64 (wi (p (2 * k)) (p (2 * k + 1)) dg m).2) = a16 q := (a16_set p _ _ hk8).trans (by rw [hq]; rfl)
  clear hq
  have h2' : inR dg 0 (el xs k - 1) = true := h6
  cases m
  · rw [wi_false] at hS
    have e2 : 0 ≤ dg % 64 := by omega
    have e3 : dg % 64 < 64 := by omega
    by_cases hd : dg < 64
    all_goals
      have e1 : dg / 64 = if dg < 64 then 0 else 1 := by split <;> omega
      simp only [hd, if_true, if_false] at e1 hS
      unfold bitD at hS
      cases h3 : phOK xs q
    all_goals
      have HR := Lib.hid (wdV_k h1 h2 HQ.out h3)
      go_enter Try.func30, Try.ntmps30
      go_wp2_with (first | (go_at_call 20; refine (specVP hs h8 _ _ rfl _ (by repeat' (first | (with_reducible first | assumption | exact Below.refl _ _ | refine Below.drew ?_ | refine Below.alloc ?_ ?_ _ | refine Below.setCell ?_ ?_ _ | refine below_setR ?_ ?_ _ | refine below_dn ?_ _ | refine Below.trans ?_ (below_mo _ _ _ ?_) | refine Below.trans ?_ (below_mq _ _ ?_) | exact Nat.le_refl _) | (simp; done) | (simp; omega) | omega)) _).mono ?_; rintro e w' ⟨rfl, hb_⟩; obtain ⟨os_, d_, rfl⟩ := mo_of hb_; clear hb_) | (go_at_call 76; refine (l01Wheel_any _ _ _ _ hlen _).mono ?_; rintro e w' ⟨rfl, rfl⟩) | (go_at_call 77; refine (l00In_ok _ _ _ _).mono ?_; rintro e w' ⟨rfl, rfl⟩) | (go_at_call 78; refine (l05Put_any _ _ dg d0 d1 _).mono ?_; rintro e w' ⟨rfl, hb_⟩; obtain ⟨os_, d_, rfl⟩ := mo_of hb_; clear hb_) | (go_at_call 69; refine (l05Ok_any hs h8 _ _ rfl _ (by repeat' (first | (with_reducible first | assumption | exact Below.refl _ _ | refine Below.drew ?_ | refine Below.alloc ?_ ?_ _ | refine Below.setCell ?_ ?_ _ | refine below_setR ?_ ?_ _ | refine below_dn ?_ _ | refine Below.trans ?_ (below_mo _ _ _ ?_) | refine Below.trans ?_ (below_mq _ _ ?_) | exact Nat.le_refl _) | (simp; done) | (simp; omega) | omega)) q w.heap.size (phIn_of (by repeat' (first | (with_reducible assumption) | (with_reducible refine heap_mo_at ?_) | (with_reducible refine heap_mq_at ?_) | (with_reducible refine heap_drew_at ?_) | ((with_reducible refine heap_alloc_at ?_); first | rfl | (simp; done)) | (with_reducible refine heap_alloc_past ?_) | ((with_reducible apply heap_set_at); (first | rfl | (simp; done))) | ((with_reducible apply heap_set_past); (first | (simp; done) | (simp; omega) | omega)) | ((with_reducible apply heap_setC_past); (first | (simp; done) | (simp; omega) | omega)) | fail))) HK.out).mono ?_; rintro e w' ⟨rfl, hb_⟩; obtain ⟨os_, d_, rfl⟩ := mo_of hb_; clear hb_))
      (apply ret16; rfl; rfl; (repeat' (first | (with_reducible assumption) | (with_reducible refine heap_mo_at ?_) | (with_reducible refine heap_mq_at ?_) | (with_reducible refine heap_drew_at ?_) | ((with_reducible refine heap_alloc_at ?_); first | rfl | (simp; done)) | (with_reducible refine heap_alloc_past ?_) | ((with_reducible apply heap_set_at); (first | rfl | (simp; done))) | ((with_reducible apply heap_set_past); (first | (simp; done) | (simp; omega) | omega)) | ((with_reducible apply heap_setC_past); (first | (simp; done) | (simp; omega) | omega)) | fail)); (first | rfl | (simp; done)); rfl)
      exact ⟨(by first | (rw [HR.out]; done) | (rw [HR.out]; rfl)), (by repeat' (first | (with_reducible first | assumption | exact Below.refl _ _ | refine Below.drew ?_ | refine Below.alloc ?_ ?_ _ | refine Below.setCell ?_ ?_ _ | refine below_setR ?_ ?_ _ | refine below_dn ?_ _ | refine Below.trans ?_ (below_mo _ _ _ ?_) | refine Below.trans ?_ (below_mq _ _ ?_) | exact Nat.le_refl _) | (simp; done) | (simp; omega) | omega))⟩
  · cases h3 : phOK xs q
    all_goals
      have HR := Lib.hid (wdV_k h1 h2 HQ.out h3)
      go_enter Try.func30, Try.ntmps30
      go_wp2_with (first | (go_at_call 20; refine (specVP hs h8 _ _ rfl _ (by repeat' (first | (with_reducible first | assumption | exact Below.refl _ _ | refine Below.drew ?_ | refine Below.alloc ?_ ?_ _ | refine Below.setCell ?_ ?_ _ | refine below_setR ?_ ?_ _ | refine below_dn ?_ _ | refine Below.trans ?_ (below_mo _ _ _ ?_) | refine Below.trans ?_ (below_mq _ _ ?_) | exact Nat.le_refl _) | (simp; done) | (simp; omega) | omega)) _).mono ?_; rintro e w' ⟨rfl, hb_⟩; obtain ⟨os_, d_, rfl⟩ := mo_of hb_; clear hb_) | (go_at_call 76; refine (l01Wheel_any _ _ _ _ hlen _).mono ?_; rintro e w' ⟨rfl, rfl⟩) | (go_at_call 77; refine (l00In_ok _ _ _ _).mono ?_; rintro e w' ⟨rfl, rfl⟩) | (go_at_call 78; refine (l05Put_any _ _ dg d0 d1 _).mono ?_; rintro e w' ⟨rfl, hb_⟩; obtain ⟨os_, d_, rfl⟩ := mo_of hb_; clear hb_) | (go_at_call 69; refine (l05Ok_any hs h8 _ _ rfl _ (by repeat' (first | (with_reducible first | assumption | exact Below.refl _ _ | refine Below.drew ?_ | refine Below.alloc ?_ ?_ _ | refine Below.setCell ?_ ?_ _ | refine below_setR ?_ ?_ _ | refine below_dn ?_ _ | refine Below.trans ?_ (below_mo _ _ _ ?_) | refine Below.trans ?_ (below_mq _ _ ?_) | exact Nat.le_refl _) | (simp; done) | (simp; omega) | omega)) q w.heap.size (phIn_of (by repeat' (first | (with_reducible assumption) | (with_reducible refine heap_mo_at ?_) | (with_reducible refine heap_mq_at ?_) | (with_reducible refine heap_drew_at ?_) | ((with_reducible refine heap_alloc_at ?_); first | rfl | (simp; done)) | (with_reducible refine heap_alloc_past ?_) | ((with_reducible apply heap_set_at); (first | rfl | (simp; done))) | ((with_reducible apply heap_set_past); (first | (simp; done) | (simp; omega) | omega)) | ((with_reducible apply heap_setC_past); (first | (simp; done) | (simp; omega) | omega)) | fail))) HK.out).mono ?_; rintro e w' ⟨rfl, hb_⟩; obtain ⟨os_, d_, rfl⟩ := mo_of hb_; clear hb_))
      (apply ret16; rfl; rfl; (repeat' (first | (with_reducible assumption) | (with_reducible refine heap_mo_at ?_) | (with_reducible refine heap_mq_at ?_) | (with_reducible refine heap_drew_at ?_) | ((with_reducible refine heap_alloc_at ?_); first | rfl | (simp; done)) | (with_reducible refine heap_alloc_past ?_) | ((with_reducible apply heap_set_at); (first | rfl | (simp; done))) | ((with_reducible apply heap_set_past); (first | (simp; done) | (simp; omega) | omega)) | ((with_reducible apply heap_setC_past); (first | (simp; done) | (simp; omega) | omega)) | fail)); (first | rfl | (simp; done)); rfl)
      exact ⟨(by first | (rw [HR.out]; done) | (rw [HR.out]; rfl)), (by repeat' (first | (with_reducible first | assumption | exact Below.refl _ _ | refine Below.drew ?_ | refine Below.alloc ?_ ?_ _ | refine Below.setCell ?_ ?_ _ | refine below_setR ?_ ?_ _ | refine below_dn ?_ _ | refine Below.trans ?_ (below_mo _ _ _ ?_) | refine Below.trans ?_ (below_mq _ _ ?_) | exact Nat.le_refl _) | (simp; done) | (simp; omega) | omega))⟩
theorem specWithL {A : Option Addr} {xs : List Int} {W : World} {B : Nat} (hs : Nums .u8 W B A xs) (h8 : b8 xs) (n c : Nat) (hn : xs.length = n) (w : World) (hb : Below B W w) (p : Nat → Int) (wh dg : Int) (m : Bool) {R : Nat → Int} {cR : Int} (hR : wdV xs p wh dg m = (R, cR)) : Calls Try.prog 30 #[.slice A n c, .agg (a16 p), .int .i64 wh, .int .i64 dg, .bool m] w fun e w' => e = .returned (.tuple #[.agg (a16 R), .int .i64 cR]) ∧ Below w.heap.size w w' := by
  have h := specWith_any hs h8 n c hn w hb p wh dg m
  rw [hR] at h
  exact h
theorem implWithL {A : Option Addr} {xs : List Int} {W : World} {B : Nat} (hs : Nums .u8 W B A xs) (h8 : b8 xs) (n c : Nat) (hn : xs.length = n) (w : World) (hb : Below B W w) (p : Nat → Int) (wh dg : Int) (m : Bool) {R : Nat → Int} {cR : Int} (hR : wdV xs p wh dg m = (R, cR)) : Calls Try.prog 31 #[.slice A n c, .agg (a16 p), .int .i64 wh, .int .i64 dg, .bool m] w fun e w' => e = .returned (.tuple #[.agg (a16 R), .int .i64 cR]) ∧ Below w.heap.size w w' := by
  have h := implWith_any hs h8 n c hn w hb p wh dg m
  rw [hR] at h
  exact h
end Go.Proofs.Ytdmnblmonndkmaa.X
