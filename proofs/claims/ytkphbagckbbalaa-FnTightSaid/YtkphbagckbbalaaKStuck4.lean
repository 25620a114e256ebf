/- StuckSince, the paper's answer. Conditions: none. -/
import Derived.Test.YtkphbagckbbalaaKStuck3
namespace Go.Proofs.Ytkphbagckbbalaa.X
open Go.RowKit
set_option linter.unusedVariables false
set_option linter.unusedSimpArgs false
set_option maxRecDepth 100000
theorem rel_s0 {xs : List Int} {log : List (Int × Int)} {wn a j : Nat} {X W : World} (h : j + 1 = a) (ha : a < log.length) (HA : Hid (∀ i : Nat, a ≤ i → i < log.length → dg xs (p2 log i) wn = dg xs (p2 log ((log.length - 1 : Nat) : Int)) wn)) (he : dg xs (p2 log j) wn = dg xs (p2 log ((log.length - 1 : Nat) : Int)) wn) (hw : ∃ os d, W = mo X os d) : ∃ (a' : Nat) (os : Array Obj) (d : Nat), a' < log.length ∧ Value.int .i64 (j : Int) = .int .i64 (a' : Int) ∧ Hid (∀ i : Nat, a' ≤ i → i < log.length → dg xs (p2 log i) wn = dg xs (p2 log ((log.length - 1 : Nat) : Int)) wn) ∧ W = mo X os d := by
  obtain ⟨os, d, e⟩ := hw
  refine ⟨j, os, d, by omega, rfl, fun i h1 h2 => ?_, e⟩
  by_cases c : i = j
  · rw [c]; exact he
  · exact HA.out i (by omega) h2
/-- what has been seen of the readings a + 1 .. k - 1 -/
def MvP (xs : List Int) (log : List (Int × Int)) (wn a k : Nat) (mv : Bool) : Prop := if mv then ssR xs log wn = ((a : Int), 0) else ∀ i u : Nat, a < i → i < k → wn < u → u < xs.length → dg xs (p2 log a) u = dg xs (p2 log i) u
/-- and of the wheels up to u of reading k -/
def MuP (xs : List Int) (log : List (Int × Int)) (wn a k u : Nat) (mv : Bool) : Prop := if mv then ssR xs log wn = ((a : Int), 0) else (∀ i u : Nat, a < i → i < k → wn < u → u < xs.length → dg xs (p2 log a) u = dg xs (p2 log i) u) ∧ ∀ v : Nat, wn < v → v < u → dg xs (p2 log a) v = dg xs (p2 log k) v
theorem MuP_0 {xs : List Int} {log : List (Int × Int)} {wn a k : Nat} {mv : Bool} (h : MvP xs log wn a k mv) : MuP xs log wn a k (wn + 1) mv := by
  cases mv
  · exact ⟨h, fun v h1 h2 => absurd h2 (by omega)⟩
  · exact h
theorem MuP_t {xs : List Int} {log : List (Int × Int)} {wn a k u v : Nat} (h : MuP xs log wn a k u true) : MuP xs log wn a k v true := h
theorem MuP_y {xs : List Int} {log : List (Int × Int)} {wn a k u : Nat} (h : MuP xs log wn a k u false) (he : dg xs (p2 log a) u = dg xs (p2 log k) u) : MuP xs log wn a k (u + 1) false := ⟨h.1, fun v h1 h2 => by
  by_cases c : v = u
  · rw [c]; exact he
  · exact h.2 v h1 (by omega)⟩
theorem MuP_n {xs : List Int} {log : List (Int × Int)} {wn a k u : Nat} (hA : AtP xs log wn a) (h1 : a < k) (h2 : k < log.length) (h3 : wn < u) (h4 : u < xs.length) (he : ¬ dg xs (p2 log a) u = dg xs (p2 log k) u) : MuP xs log wn a k (u + 1) true := ssR_moved hA h1 h2 h3 h4 he
theorem MuP_e {xs : List Int} {log : List (Int × Int)} {wn a k u : Nat} {mv : Bool} (h : MuP xs log wn a k u mv) (hu : ¬ u < xs.length) : MvP xs log wn a (k + 1) mv := by
  cases mv
  · intro i v h1 h2 h3 h4
    by_cases c : i = k
    · rw [c]; exact h.2 v h3 (by omega)
    · exact h.1 i v h1 (by omega) h3 h4
  · exact h
theorem MvP_st {xs : List Int} {log : List (Int × Int)} {wn a : Nat} {X W : World} (ha : a < log.length) (hw : ∃ os d, W = mo X os d) : ∃ (k : Nat) (mv : Bool) (os : Array Obj) (d : Nat), a + 1 ≤ k ∧ k ≤ log.length ∧ Value.int .i64 ((a : Int) + 1) = .int .i64 (k : Int) ∧ Value.bool false = .bool mv ∧ Hid (MvP xs log wn a k mv) ∧ W = mo X os d := by
  obtain ⟨os, d, e⟩ := hw
  exact ⟨a + 1, false, os, d, Nat.le_refl _, ha, by rw [Int.natCast_succ], rfl, fun i u h1 h2 => absurd h2 (by omega), e⟩
theorem MuP_st {xs : List Int} {log : List (Int × Int)} {wn a k : Nat} {mv : Bool} {U : World} (h : Hid (MvP xs log wn a k mv)) (hx : wn < xs.length) : ∃ (u : Nat) (mv' : Bool) (os : Array Obj) (d : Nat), wn < u ∧ u ≤ xs.length ∧ Value.int .i64 ((wn : Int) + 1) = .int .i64 (u : Int) ∧ Value.bool mv = .bool mv' ∧ Hid (MuP xs log wn a k u mv') ∧ U = mo U os d :=
  ⟨wn + 1, mv, #[], _, by omega, hx, by rw [Int.natCast_succ], rfl, MuP_0 h.out, (mo_nil _).symm⟩
theorem rel_u {xs : List Int} {log : List (Int × Int)} {wn a k u : Nat} {mv : Bool} {X W : World} (hu : wn < u) (h : (u : Int) < (xs.length : Int)) (HN : Hid (MuP xs log wn a k (u + 1) mv)) {os : Array Obj} {d : Nat} (hw : W = mo X os d) : ∃ (u' : Nat) (mv' : Bool) (os : Array Obj) (d : Nat), wn < u' ∧ u' ≤ xs.length ∧ Value.int .i64 ((u : Int) + 1) = .int .i64 (u' : Int) ∧ Value.bool mv = .bool mv' ∧ Hid (MuP xs log wn a k u' mv') ∧ W = mo X os d :=
  ⟨u + 1, mv, os, d, by omega, by omega, by rw [Int.natCast_succ], rfl, HN, hw⟩
theorem rel_k {xs : List Int} {log : List (Int × Int)} {wn a k : Nat} {mv : Bool} {X W : World} (hu : a + 1 ≤ k) (h : (k : Int) < (log.length : Int)) (HN : Hid (MvP xs log wn a (k + 1) mv)) (hw : ∃ os d, W = mo X os d) : ∃ (k' : Nat) (mv' : Bool) (os : Array Obj) (d : Nat), a + 1 ≤ k' ∧ k' ≤ log.length ∧ Value.int .i64 ((k : Int) + 1) = .int .i64 (k' : Int) ∧ Value.bool mv = .bool mv' ∧ Hid (MvP xs log wn a k' mv') ∧ W = mo X os d := by
  obtain ⟨os, d, e⟩ := hw
  exact ⟨k + 1, mv, os, d, by omega, by omega, by rw [Int.natCast_succ], rfl, HN, e⟩
theorem cell_row {w : World} {b k : Nat} {vals : List Value} {t : TypeId} {fr : Nat × Nat} (h : w.heap[b]? = some (.cells ⟨vals⟩ t fr)) {v : Value} (hk : vals[k]? = some v) : w.cell? ⟨b, k, none⟩ = some v := by
  simp [World.cell?, h]
  exact hk
theorem lt_of_row {w : World} {b : Nat} {o : Obj} (h : w.heap[b]? = some o) : b < w.heap.size := (Array.getElem?_eq_some_iff.1 h).1
set_option maxHeartbeats 4000000 in
theorem specStuck_any {A : Option Addr} {xs : List Int} {W : World} {B : Nat} (hs : Nums .u8 W B A xs) (h8 : b8 xs) (n c : Nat) (hn : xs.length = n) (w : World) (hb : Below B W w) {L : Option Addr} {log : List (Int × Int)} {V : World} {C : Nat} (hl : Prs .i64 .i64 V C L log) (cl : Nat) (hv : Below C V w) (wh : Int) : Calls Try.prog 18 #[.slice A n c, .slice L log.length cl, .int .i64 wh] w fun e w' => e = .returned (.tuple #[.int .i64 (ssV xs log wh).1, .int .i64 (ssV xs log wh).2]) ∧ Below w.heap.size w w' := by
  obtain rfl := hn
  have hB := hs.bsz hb
  have hC := hl.bsz hv
  have hxl := hs.len
  cases h1 : okL xs log
  · have HR : Hid (ssV xs log wh = (0, 1)) := by unfold Hid ssV; rw [h1]; rfl
    go_enter Try.func18, Try.ntmps18
    (go_wp2_with fail; refine (l04Ok_any hs h8 _ _ rfl _ (by repeat' (first | (with_reducible first | assumption | exact Below.refl _ _ | refine Below.drew ?_ | refine Below.alloc ?_ ?_ _ | refine Below.setCell ?_ ?_ _ | refine below_setR ?_ ?_ _ | refine below_dn ?_ _ | refine Below.trans ?_ (below_mo _ _ _ ?_) | refine Below.trans ?_ (below_mq _ _ ?_) | exact Nat.le_refl _) | (simp; done) | (simp; omega) | omega)) hl _ (by repeat' (first | (with_reducible first | assumption | exact Below.refl _ _ | refine Below.drew ?_ | refine Below.alloc ?_ ?_ _ | refine Below.setCell ?_ ?_ _ | refine below_setR ?_ ?_ _ | refine below_dn ?_ _ | refine Below.trans ?_ (below_mo _ _ _ ?_) | refine Below.trans ?_ (below_mq _ _ ?_) | exact Nat.le_refl _) | (simp; done) | (simp; omega) | omega))).mono ?_; rintro e w' ⟨rfl, hb_⟩; obtain ⟨os0, d0, rfl⟩ := mo_of hb_; clear hb_)
    rw [h1]
    go_wp2
    go_returns
    exact ⟨(by first | (rw [HR.out]; done) | (rw [HR.out]; rfl)), (by repeat' (first | (with_reducible first | assumption | exact Below.refl _ _ | refine Below.drew ?_ | refine Below.alloc ?_ ?_ _ | refine Below.setCell ?_ ?_ _ | refine below_setR ?_ ?_ _ | refine below_dn ?_ _ | refine Below.trans ?_ (below_mo _ _ _ ?_) | refine Below.trans ?_ (below_mq _ _ ?_) | exact Nat.le_refl _) | (simp; done) | (simp; omega) | omega))⟩
  cases h2 : inR wh 0 ((xs.length : Int) - 1)
  · have HR : Hid (ssV xs log wh = (0, 2)) := by unfold Hid ssV; rw [h1, h2]; rfl
    have HK := Lib.hid h1
    clear h1
    go_enter Try.func18, Try.ntmps18
    (go_wp2_with fail; refine (l04Ok_any hs h8 _ _ rfl _ (by repeat' (first | (with_reducible first | assumption | exact Below.refl _ _ | refine Below.drew ?_ | refine Below.alloc ?_ ?_ _ | refine Below.setCell ?_ ?_ _ | refine below_setR ?_ ?_ _ | refine below_dn ?_ _ | refine Below.trans ?_ (below_mo _ _ _ ?_) | refine Below.trans ?_ (below_mq _ _ ?_) | exact Nat.le_refl _) | (simp; done) | (simp; omega) | omega)) hl _ (by repeat' (first | (with_reducible first | assumption | exact Below.refl _ _ | refine Below.drew ?_ | refine Below.alloc ?_ ?_ _ | refine Below.setCell ?_ ?_ _ | refine below_setR ?_ ?_ _ | refine below_dn ?_ _ | refine Below.trans ?_ (below_mo _ _ _ ?_) | refine Below.trans ?_ (below_mq _ _ ?_) | exact Nat.le_refl _) | (simp; done) | (simp; omega) | omega))).mono ?_; rintro e w' ⟨rfl, hb_⟩; obtain ⟨os0, d0, rfl⟩ := mo_of hb_; clear hb_)
    rw [HK.out]
    go_wp2_with (go_at_call 95; refine (l01WheelS_any _ _ _ _ hxl _).mono ?_; rintro e w' ⟨rfl, rfl⟩)
    go_returns
    exact ⟨(by first | (rw [HR.out]; done) | (rw [HR.out]; rfl)), (by repeat' (first | (with_reducible first | assumption | exact Below.refl _ _ | refine Below.drew ?_ | refine Below.alloc ?_ ?_ _ | refine Below.setCell ?_ ?_ _ | refine below_setR ?_ ?_ _ | refine below_dn ?_ _ | refine Below.trans ?_ (below_mo _ _ _ ?_) | refine Below.trans ?_ (below_mq _ _ ?_) | exact Nat.le_refl _) | (simp; done) | (simp; omega) | omega))⟩
  obtain ⟨a0, a1⟩ := inR_t.1 h2
  obtain ⟨wn, rfl⟩ := Int.eq_ofNat_of_zero_le a0
  have HR : Hid (ssV xs log (wn : Int) = ssR xs log wn) := by unfold Hid ssV; rw [h1, h2, Int.toNat_natCast]; rfl
  obtain ⟨o1, o2, o3⟩ := okL_parts h1
  have hx8 := (okS_len o1).2
  have HK := Lib.hid h1
  have H2 := Lib.hid h2
  have hz := szS_bd o1
  have hwn : wn < 8 := by omega
  have HD : Hid (∀ (k : Nat) (z : Int), z = (k : Int) → k < log.length → ∀ W', Below B W W' → Calls Try.prog 96 #[.slice A xs.length c, .int .i64 (p2 log z)] W' fun e w' => e = .returned (.agg #[.int .u8 (dg xs (p2 log z) 0), .int .u8 (dg xs (p2 log z) 1), .int .u8 (dg xs (p2 log z) 2), .int .u8 (dg xs (p2 log z) 3), .int .u8 (dg xs (p2 log z) 4), .int .u8 (dg xs (p2 log z) 5), .int .u8 (dg xs (p2 log z) 6), .int .u8 (dg xs (p2 log z) 7)]) ∧ Below W'.heap.size W' w') := by
    unfold Hid
    rintro k z rfl hk W' hW
    have := (okL_at h1 hk).2
    exact l01Of_any hs h8 _ _ rfl _ hW o1 (p2 log k) this.1 (by omega)
  clear h1 h2 o1 o3 hz
  by_cases h0 : log.length = 0
  · have HV := Lib.hid (ssR_none (xs := xs) (log := log) (wh := wn) (fun k hq => by
      have := hq.1
      omega))
    have e1 : IntKind.i64.wrap ((log.length : Int) - 1) = -1 := (IntWalk.i64_in _ ⟨by omega, by omega⟩).trans (by omega)
    have g0 : ¬ (0 : Int) < (log.length : Int) := by omega
    have g1 : ¬ 0 < log.length := by omega
    clear h0
    go_enter Try.func18, Try.ntmps18
    (go_wp2_with fail; refine (l04Ok_any hs h8 _ _ rfl _ (by repeat' (first | (with_reducible first | assumption | exact Below.refl _ _ | refine Below.drew ?_ | refine Below.alloc ?_ ?_ _ | refine Below.setCell ?_ ?_ _ | refine below_setR ?_ ?_ _ | refine below_dn ?_ _ | refine Below.trans ?_ (below_mo _ _ _ ?_) | refine Below.trans ?_ (below_mq _ _ ?_) | exact Nat.le_refl _) | (simp; done) | (simp; omega) | omega)) hl _ (by repeat' (first | (with_reducible first | assumption | exact Below.refl _ _ | refine Below.drew ?_ | refine Below.alloc ?_ ?_ _ | refine Below.setCell ?_ ?_ _ | refine below_setR ?_ ?_ _ | refine below_dn ?_ _ | refine Below.trans ?_ (below_mo _ _ _ ?_) | refine Below.trans ?_ (below_mq _ _ ?_) | exact Nat.le_refl _) | (simp; done) | (simp; omega) | omega))).mono ?_; rintro e w' ⟨rfl, hb_⟩; obtain ⟨os0, d0, rfl⟩ := mo_of hb_; clear hb_)
    rw [HK.out]
    (go_wp2_with fail; refine (l01WheelS_any _ _ _ _ hxl _).mono ?_; rintro e w' ⟨rfl, rfl⟩; rw [H2.out])
    go_wp2
    go_loopw [9] (fun v wr => v = .int .i64 (-1) ∧ ∃ (os : Array Obj) (d : Nat), wr = mo w os d) (fun _ _ => 0)
    case atStart => exact ⟨rfl, mo_of (by repeat' (first | (with_reducible first | assumption | exact Below.refl _ _ | refine Below.drew ?_ | refine Below.alloc ?_ ?_ _ | refine Below.setCell ?_ ?_ _ | refine below_setR ?_ ?_ _ | refine below_dn ?_ _ | refine Below.trans ?_ (below_mo _ _ _ ?_) | refine Below.trans ?_ (below_mq _ _ ?_) | exact Nat.le_refl _) | (simp; done) | (simp; omega) | omega))⟩
    case round =>
      obtain ⟨rfl, os, d, rfl⟩ := hrel
      go_wp2
      go_quiet (fail)
      go_wp2
      go_loopw [11, 10] (fun v b wr => v = .int .i64 0 ∧ b = .bool false ∧ ∃ (os : Array Obj) (d : Nat), wr = mo w os d) (fun _ _ _ => 0)
      case atStart => exact ⟨rfl, rfl, mo_of (by repeat' (first | (with_reducible first | assumption | exact Below.refl _ _ | refine Below.drew ?_ | refine Below.alloc ?_ ?_ _ | refine Below.setCell ?_ ?_ _ | refine below_setR ?_ ?_ _ | refine below_dn ?_ _ | refine Below.trans ?_ (below_mo _ _ _ ?_) | refine Below.trans ?_ (below_mq _ _ ?_) | exact Nat.le_refl _) | (simp; done) | (simp; omega) | omega))⟩
      case round =>
        obtain ⟨rfl, rfl, os, d, rfl⟩ := hrel
        go_wp2
        go_returns
        exact ⟨by rw [HR.out, HV.out]; first | done | rfl, (by repeat' (first | (with_reducible first | assumption | exact Below.refl _ _ | refine Below.drew ?_ | refine Below.alloc ?_ ?_ _ | refine Below.setCell ?_ ?_ _ | refine below_setR ?_ ?_ _ | refine below_dn ?_ _ | refine Below.trans ?_ (below_mo _ _ _ ?_) | refine Below.trans ?_ (below_mq _ _ ?_) | exact Nat.le_refl _) | (simp; done) | (simp; omega) | omega))⟩
  obtain ⟨m, hm⟩ : ∃ m, m + 1 = log.length := ⟨log.length - 1, by omega⟩
  have hm2 : log.length - 1 = m := by omega
  have e0 : IntKind.i64.wrap ((log.length : Int) - 1) = (m : Int) := (IntWalk.i64_in _ ⟨by omega, by omega⟩).trans (by omega)
  have q0 : (0 : Int) ≤ (m : Int) := by omega
  have q1 : (m : Int) < (log.length : Int) := by omega
  have q2 : (0 : Int) ≤ (wn : Int) := by omega
  have q3 : (wn : Int) < 8 := by omega
  have q4 : m < log.length := by omega
  have HM := Lib.hid hm
  have HM2 := Lib.hid hm2
  clear hm hm2 h0
  go_enter Try.func18, Try.ntmps18
  (go_wp2_with fail; refine (l04Ok_any hs h8 _ _ rfl _ (by repeat' (first | (with_reducible first | assumption | exact Below.refl _ _ | refine Below.drew ?_ | refine Below.alloc ?_ ?_ _ | refine Below.setCell ?_ ?_ _ | refine below_setR ?_ ?_ _ | refine below_dn ?_ _ | refine Below.trans ?_ (below_mo _ _ _ ?_) | refine Below.trans ?_ (below_mq _ _ ?_) | exact Nat.le_refl _) | (simp; done) | (simp; omega) | omega)) hl _ (by repeat' (first | (with_reducible first | assumption | exact Below.refl _ _ | refine Below.drew ?_ | refine Below.alloc ?_ ?_ _ | refine Below.setCell ?_ ?_ _ | refine below_setR ?_ ?_ _ | refine below_dn ?_ _ | refine Below.trans ?_ (below_mo _ _ _ ?_) | refine Below.trans ?_ (below_mq _ _ ?_) | exact Nat.le_refl _) | (simp; done) | (simp; omega) | omega))).mono ?_; rintro e w' ⟨rfl, hb_⟩; obtain ⟨os0, d0, rfl⟩ := mo_of hb_; clear hb_)
  rw [HK.out]
  (go_wp2_with fail; refine (l01WheelS_any _ _ _ _ hxl _).mono ?_; rintro e w' ⟨rfl, rfl⟩; rw [H2.out])
  go_wp2
  go_loopw [9] (fun v wr => ∃ (a : Nat) (os : Array Obj) (d : Nat), a < log.length ∧ v = .int .i64 (a : Int) ∧ Hid (∀ i : Nat, a ≤ i → i < log.length → dg xs (p2 log i) wn = dg xs (p2 log ((log.length - 1 : Nat) : Int)) wn) ∧ wr = mo w os d) (fun v _ => (intOf v).toNat)
  case atStart => exact ⟨m, _, _, q4, rfl, fun i h1 h2 => by rw [HM2.out, show i = m by have := HM.out; omega], rfl⟩
  case round =>
    obtain ⟨a, os, d, hal, rfl, HA, rfl⟩ := hrel
    obtain ⟨b, off, hL, hbs, hc0, hc1⟩ := hl.at hv (k := a) hal
    by_cases ha0 : (0 : Int) < (a : Int)
    · obtain ⟨j, hj⟩ : ∃ j, j + 1 = a := ⟨a - 1, by omega⟩
      obtain ⟨b2, off2, hL2, hbs2, hd0, hd1⟩ := hl.at hv (k := j) (by omega)
      obtain ⟨b3, off3, hL3, hbs3, hf0, hf1⟩ := hl.at hv (k := m) q4
      subst hL
      obtain ⟨rfl, rfl⟩ := addr_same hL2
      obtain ⟨rfl, rfl⟩ := addr_same hL3
      have e1 : IntKind.i64.wrap ((a : Int) - 1) = (j : Int) := (IntWalk.i64_in _ ⟨by omega, by omega⟩).trans (by omega)
      have g0 : (0 : Int) ≤ (j : Int) := by omega
      have g1 : (j : Int) < (log.length : Int) := by omega
      have D1 := Lib.hid (HD.out j _ rfl (by omega))
      have D2 := Lib.hid (HD.out m _ rfl q4)
      have HJ := Lib.hid hj
      have HAL := Lib.hid hal
      have l0 : decide (0 < a) = true := decide_eq_true (by omega)
      clear hj hL2 hL3
      have i1 := fun W => idx8 (dg xs (p2 log j)) hwn W
      have i2 := fun W => idx8 (dg xs (p2 log m)) hwn W
      by_cases he : dg xs (p2 log j) wn = dg xs (p2 log m) wn
      · have HE := Lib.hid he
        have l1 : (dg xs (p2 log j) wn == dg xs (p2 log m) wn) = true := beq_iff_eq.2 he
        clear he
        go_wp2
        (refine wp_region_mq (by kernel_rfl) (by kernel_rfl) ?_; (repeat (first | go_big_quiet_step ((first | (go_at_call 96; ((with_reducible refine quietQ (D1.out _ ?_) ) <;> (repeat' (first | (with_reducible first | assumption | exact Below.refl _ _ | refine Below.drew ?_ | refine Below.alloc ?_ ?_ _ | refine Below.setCell ?_ ?_ _ | refine below_setR ?_ ?_ _ | refine below_dn ?_ _ | refine Below.trans ?_ (below_mo _ _ _ ?_) | refine Below.trans ?_ (below_mq _ _ ?_) | exact Nat.le_refl _) | (simp; done) | (simp; omega) | omega)))) | (go_at_call 96; ((with_reducible refine quietQ (D2.out _ ?_) ) <;> (repeat' (first | (with_reducible first | assumption | exact Below.refl _ _ | refine Below.drew ?_ | refine Below.alloc ?_ ?_ _ | refine Below.setCell ?_ ?_ _ | refine below_setR ?_ ?_ _ | refine below_dn ?_ _ | refine Below.trans ?_ (below_mo _ _ _ ?_) | refine Below.trans ?_ (below_mq _ _ ?_) | exact Nat.le_refl _) | (simp; done) | (simp; omega) | omega)))))) | quiet_step ((first | (go_at_call 96; ((with_reducible refine quietQ (D1.out _ ?_) ) <;> (repeat' (first | (with_reducible first | assumption | exact Below.refl _ _ | refine Below.drew ?_ | refine Below.alloc ?_ ?_ _ | refine Below.setCell ?_ ?_ _ | refine below_setR ?_ ?_ _ | refine below_dn ?_ _ | refine Below.trans ?_ (below_mo _ _ _ ?_) | refine Below.trans ?_ (below_mq _ _ ?_) | exact Nat.le_refl _) | (simp; done) | (simp; omega) | omega)))) | (go_at_call 96; ((with_reducible refine quietQ (D2.out _ ?_) ) <;> (repeat' (first | (with_reducible first | assumption | exact Below.refl _ _ | refine Below.drew ?_ | refine Below.alloc ?_ ?_ _ | refine Below.setCell ?_ ?_ _ | refine below_setR ?_ ?_ _ | refine below_dn ?_ _ | refine Below.trans ?_ (below_mo _ _ _ ?_) | refine Below.trans ?_ (below_mq _ _ ?_) | exact Nat.le_refl _) | (simp; done) | (simp; omega) | omega)))))))); refine wpQuiet_nil ?_; intro _ hq_; obtain ⟨q_, rfl⟩ := hq_)
        go_wp2
        exact ⟨rel_s0 HJ.out hal HA (by rw [HM2.out]; exact HE.out) (mo_of (by repeat' (first | (with_reducible first | assumption | exact Below.refl _ _ | refine Below.drew ?_ | refine Below.alloc ?_ ?_ _ | refine Below.setCell ?_ ?_ _ | refine below_setR ?_ ?_ _ | refine below_dn ?_ _ | refine Below.trans ?_ (below_mo _ _ _ ?_) | refine Below.trans ?_ (below_mq _ _ ?_) | exact Nat.le_refl _) | (simp; done) | (simp; omega) | omega))), by have := HJ.out; simp [intOf]; omega⟩
      · have HE := Lib.hid he
        have l1 : (dg xs (p2 log j) wn == dg xs (p2 log m) wn) = false := beq_eq_false_iff_ne.2 he
        clear he
        go_wp2
        (refine wp_region_mq (by kernel_rfl) (by kernel_rfl) ?_; (repeat (first | go_big_quiet_step ((first | (go_at_call 96; ((with_reducible refine quietQ (D1.out _ ?_) ) <;> (repeat' (first | (with_reducible first | assumption | exact Below.refl _ _ | refine Below.drew ?_ | refine Below.alloc ?_ ?_ _ | refine Below.setCell ?_ ?_ _ | refine below_setR ?_ ?_ _ | refine below_dn ?_ _ | refine Below.trans ?_ (below_mo _ _ _ ?_) | refine Below.trans ?_ (below_mq _ _ ?_) | exact Nat.le_refl _) | (simp; done) | (simp; omega) | omega)))) | (go_at_call 96; ((with_reducible refine quietQ (D2.out _ ?_) ) <;> (repeat' (first | (with_reducible first | assumption | exact Below.refl _ _ | refine Below.drew ?_ | refine Below.alloc ?_ ?_ _ | refine Below.setCell ?_ ?_ _ | refine below_setR ?_ ?_ _ | refine below_dn ?_ _ | refine Below.trans ?_ (below_mo _ _ _ ?_) | refine Below.trans ?_ (below_mq _ _ ?_) | exact Nat.le_refl _) | (simp; done) | (simp; omega) | omega)))))) | quiet_step ((first | (go_at_call 96; ((with_reducible refine quietQ (D1.out _ ?_) ) <;> (repeat' (first | (with_reducible first | assumption | exact Below.refl _ _ | refine Below.drew ?_ | refine Below.alloc ?_ ?_ _ | refine Below.setCell ?_ ?_ _ | refine below_setR ?_ ?_ _ | refine below_dn ?_ _ | refine Below.trans ?_ (below_mo _ _ _ ?_) | refine Below.trans ?_ (below_mq _ _ ?_) | exact Nat.le_refl _) | (simp; done) | (simp; omega) | omega)))) | (go_at_call 96; ((with_reducible refine quietQ (D2.out _ ?_) ) <;> (repeat' (first | (with_reducible first | assumption | exact Below.refl _ _ | refine Below.drew ?_ | refine Below.alloc ?_ ?_ _ | refine Below.setCell ?_ ?_ _ | refine below_setR ?_ ?_ _ | refine below_dn ?_ _ | refine Below.trans ?_ (below_mo _ _ _ ?_) | refine Below.trans ?_ (below_mq _ _ ?_) | exact Nat.le_refl _) | (simp; done) | (simp; omega) | omega)))))))); refine wpQuiet_nil ?_; intro _ hq_; obtain ⟨q_, rfl⟩ := hq_)
        go_wp2
        have HP : Hid (AtP xs log wn a) := ⟨HA.out, .inr (by rw [HM2.out, show a - 1 = j by have := HJ.out; omega]; exact HE.out)⟩
        have D1 := Lib.hid (HD.out a _ rfl hal)
        have e5 : IntKind.i64.wrap ((a : Int) + 1) = (a : Int) + 1 := IntWalk.i64_in _ ⟨by omega, by omega⟩
        go_loopw [11, 10] (fun v b wr => ∃ (k : Nat) (mv : Bool) (os : Array Obj) (d : Nat), a + 1 ≤ k ∧ k ≤ log.length ∧ v = .int .i64 (k : Int) ∧ b = .bool mv ∧ Hid (MvP xs log wn a k mv) ∧ wr = mo w os d) (fun v _ _ => log.length - (intOf v).toNat)
        case atStart => exact MvP_st hal (mo_of (by repeat' (first | (with_reducible first | assumption | exact Below.refl _ _ | refine Below.drew ?_ | refine Below.alloc ?_ ?_ _ | refine Below.setCell ?_ ?_ _ | refine below_setR ?_ ?_ _ | refine below_dn ?_ _ | refine Below.trans ?_ (below_mo _ _ _ ?_) | refine Below.trans ?_ (below_mq _ _ ?_) | exact Nat.le_refl _) | (simp; done) | (simp; omega) | omega)))
        case round =>
          obtain ⟨k, mv, os, d, hk1, hk2, rfl, rfl, HM1, rfl⟩ := hrel
          by_cases hlt : (k : Int) < (log.length : Int)
          · have D2 := Lib.hid (HD.out k _ rfl (by omega))
            obtain ⟨b4, off4, hL4, hbs4, hp0, hp1⟩ := hl.at hv (k := k) (by omega)
            obtain ⟨rfl, rfl⟩ := addr_same hL4
            clear hL4
            have g2 : (0 : Int) ≤ (k : Int) := by omega
            have g3 : (a : Int) < (log.length : Int) := by omega
            have g4 : (0 : Int) ≤ (a : Int) := by omega
            have e6 : IntKind.i64.wrap ((wn : Int) + 1) = (wn : Int) + 1 := IntWalk.i64_in _ ⟨by omega, by omega⟩
            (go_wp2_with fail; refine (D1.out _ (by repeat' (first | (with_reducible first | assumption | exact Below.refl _ _ | refine Below.drew ?_ | refine Below.alloc ?_ ?_ _ | refine Below.setCell ?_ ?_ _ | refine below_setR ?_ ?_ _ | refine below_dn ?_ _ | refine Below.trans ?_ (below_mo _ _ _ ?_) | refine Below.trans ?_ (below_mq _ _ ?_) | exact Nat.le_refl _) | (simp; done) | (simp; omega) | omega))).mono ?_; rintro e w' ⟨rfl, hb_⟩; obtain ⟨os1, d1, rfl⟩ := mo_of hb_; clear hb_)
            (go_wp2_with fail; refine (D2.out _ (by repeat' (first | (with_reducible first | assumption | exact Below.refl _ _ | refine Below.drew ?_ | refine Below.alloc ?_ ?_ _ | refine Below.setCell ?_ ?_ _ | refine below_setR ?_ ?_ _ | refine below_dn ?_ _ | refine Below.trans ?_ (below_mo _ _ _ ?_) | refine Below.trans ?_ (below_mq _ _ ?_) | exact Nat.le_refl _) | (simp; done) | (simp; omega) | omega))).mono ?_; rintro e w' ⟨rfl, hb_⟩; obtain ⟨os2, d2, rfl⟩ := mo_of hb_; clear hb_)
            go_wp2
            refine wp_at (fun u => u.heap[w.heap.size + os.size + os1.size]? = some (.cells #[.int .u8 (dg xs (p2 log a) 0), .int .u8 (dg xs (p2 log a) 1), .int .u8 (dg xs (p2 log a) 2), .int .u8 (dg xs (p2 log a) 3), .int .u8 (dg xs (p2 log a) 4), .int .u8 (dg xs (p2 log a) 5), .int .u8 (dg xs (p2 log a) 6), .int .u8 (dg xs (p2 log a) 7)] 43 (0, 0)) ∧ u.heap[w.heap.size + os.size + os1.size + 1 + os2.size]? = some (.cells #[.int .u8 (dg xs (p2 log k) 0), .int .u8 (dg xs (p2 log k) 1), .int .u8 (dg xs (p2 log k) 2), .int .u8 (dg xs (p2 log k) 3), .int .u8 (dg xs (p2 log k) 4), .int .u8 (dg xs (p2 log k) 5), .int .u8 (dg xs (p2 log k) 6), .int .u8 (dg xs (p2 log k) 7)] 43 (0, 0)) ∧ Below w.heap.size w u) _ ⟨(by repeat' (first | (with_reducible assumption) | (with_reducible refine heap_mo_at ?_) | (with_reducible refine heap_mq_at ?_) | (with_reducible refine heap_drew_at ?_) | ((with_reducible refine heap_alloc_at ?_); first | rfl | (simp; done)) | (with_reducible refine heap_alloc_past ?_) | ((with_reducible apply heap_set_at); (first | rfl | (simp; done))) | ((with_reducible apply heap_set_past); (first | (simp; done) | (simp; omega) | omega)) | ((with_reducible apply heap_setC_past); (first | (simp; done) | (simp; omega) | omega)) | fail)), (by repeat' (first | (with_reducible assumption) | (with_reducible refine heap_mo_at ?_) | (with_reducible refine heap_mq_at ?_) | (with_reducible refine heap_drew_at ?_) | ((with_reducible refine heap_alloc_at ?_); first | rfl | (simp; done)) | (with_reducible refine heap_alloc_past ?_) | ((with_reducible apply heap_set_at); (first | rfl | (simp; done))) | ((with_reducible apply heap_set_past); (first | (simp; done) | (simp; omega) | omega)) | ((with_reducible apply heap_setC_past); (first | (simp; done) | (simp; omega) | omega)) | fail)), (by repeat' (first | (with_reducible first | assumption | exact Below.refl _ _ | refine Below.drew ?_ | refine Below.alloc ?_ ?_ _ | refine Below.setCell ?_ ?_ _ | refine below_setR ?_ ?_ _ | refine below_dn ?_ _ | refine Below.trans ?_ (below_mo _ _ _ ?_) | refine Below.trans ?_ (below_mq _ _ ?_) | exact Nat.le_refl _) | (simp; done) | (simp; omega) | omega))⟩ ?_
            rintro U ⟨hA, hB', hU⟩
            have hUz := hU.size
            have hUa : w.heap.size + os.size + os1.size < U.heap.size := lt_of_row hA
            have hUb : w.heap.size + os.size + os1.size + 1 + os2.size < U.heap.size := lt_of_row hB'
            go_loopw [14, 10] (fun v b wr => ∃ (u : Nat) (mv : Bool) (os' : Array Obj) (d' : Nat), wn < u ∧ u ≤ xs.length ∧ v = .int .i64 (u : Int) ∧ b = .bool mv ∧ Hid (MuP xs log wn a k u mv) ∧ wr = mo U os' d') (fun v _ _ => xs.length - (intOf v).toNat)
            case atStart => exact MuP_st HM1 (by omega)
            case round =>
              obtain ⟨u, mu, os', d', hu1, hu2, rfl, rfl, HU, rfl⟩ := hrel
              have hhA := heap_mo_at hA (os := os') (d := d')
              have hhB := heap_mo_at hB' (os := os') (d := d')
              by_cases hlt2 : (u : Int) < (xs.length : Int)
              · have e7 : IntKind.i64.wrap ((u : Int) + 1) = (u : Int) + 1 := IntWalk.i64_in _ ⟨by omega, by omega⟩
                have g5 : (0 : Int) ≤ (u : Int) := by omega
                have g6 : (u : Int) < 8 := by omega
                have g7 : u < 8 := by omega
                have cA := cell_row hhA (a8_at .u8 (dg xs (p2 log a)) g7)
                have cB := cell_row hhB (a8_at .u8 (dg xs (p2 log k)) g7)
                cases mu
                · by_cases he : dg xs (p2 log a) u = dg xs (p2 log k) u
                  · have HN := Lib.hid (MuP_y HU.out he)
                    have l2 : (dg xs (p2 log a) u != dg xs (p2 log k) u) = false := by rw [he]; exact bne_self_eq_false _
                    clear he
                    go_wp2
                    go_quiet (fail)
                    go_wp2
                    exact ⟨rel_u hu1 hlt2 HN (mo_drewN _ _ _ _), by simp [intOf]; omega⟩
                  · have HN := Lib.hid (MuP_n HP.out (by omega) (by omega) hu1 (by omega) he)
                    have l2 : (dg xs (p2 log a) u != dg xs (p2 log k) u) = true := bne_iff_ne.2 he
                    clear he
                    go_wp2
                    go_quiet (fail)
                    go_wp2
                    exact ⟨rel_u hu1 hlt2 HN (mo_drewN _ _ _ _), by simp [intOf]; omega⟩
                · have HN : Hid (MuP xs log wn a k (u + 1) true) := MuP_t HU.out
                  go_wp2
                  go_quiet (fail)
                  go_wp2
                  exact ⟨rel_u hu1 hlt2 HN (mo_drewN _ _ _ _), by simp [intOf]; omega⟩
              · have HN := Lib.hid (MuP_e HU.out (by omega))
                have e7 : IntKind.i64.wrap ((k : Int) + 1) = (k : Int) + 1 := IntWalk.i64_in _ ⟨by omega, by omega⟩
                go_wp2
                exact ⟨rel_k hk1 hlt HN (mo_of (by repeat' (first | (with_reducible first | assumption | exact Below.refl _ _ | refine Below.drew ?_ | refine Below.alloc ?_ ?_ _ | refine Below.setCell ?_ ?_ _ | refine below_setR ?_ ?_ _ | refine below_dn ?_ _ | refine Below.trans ?_ (below_mo _ _ _ ?_) | refine Below.trans ?_ (below_mq _ _ ?_) | exact Nat.le_refl _) | (simp; done) | (simp; omega) | omega))), by simp [intOf]; omega⟩
          · have g2 : ¬ k < log.length := by omega
            cases mv
            · have HV := Lib.hid (ssR_still HP.out hal (fun i u h1 h2 h3 h4 => HM1.out i u h1 (by omega) h3 h4))
              go_wp2
              go_returns
              exact ⟨by rw [HR.out, HV.out]; first | done | rfl, (by repeat' (first | (with_reducible first | assumption | exact Below.refl _ _ | refine Below.drew ?_ | refine Below.alloc ?_ ?_ _ | refine Below.setCell ?_ ?_ _ | refine below_setR ?_ ?_ _ | refine below_dn ?_ _ | refine Below.trans ?_ (below_mo _ _ _ ?_) | refine Below.trans ?_ (below_mq _ _ ?_) | exact Nat.le_refl _) | (simp; done) | (simp; omega) | omega))⟩
            · have HV : Hid (ssR xs log wn = ((a : Int), 0)) := HM1.out
              go_wp2
              go_returns
              exact ⟨by rw [HR.out, HV.out]; first | done | rfl, (by repeat' (first | (with_reducible first | assumption | exact Below.refl _ _ | refine Below.drew ?_ | refine Below.alloc ?_ ?_ _ | refine Below.setCell ?_ ?_ _ | refine below_setR ?_ ?_ _ | refine below_dn ?_ _ | refine Below.trans ?_ (below_mo _ _ _ ?_) | refine Below.trans ?_ (below_mq _ _ ?_) | exact Nat.le_refl _) | (simp; done) | (simp; omega) | omega))⟩
    · have l0 : decide (0 < a) = false := decide_eq_false (by omega)
      go_wp2
      go_quiet (fail)
      go_wp2
      have HP : Hid (AtP xs log wn a) := ⟨HA.out, .inl (by omega)⟩
      have D1 := Lib.hid (HD.out a _ rfl hal)
      have e5 : IntKind.i64.wrap ((a : Int) + 1) = (a : Int) + 1 := IntWalk.i64_in _ ⟨by omega, by omega⟩
      go_loopw [11, 10] (fun v b wr => ∃ (k : Nat) (mv : Bool) (os : Array Obj) (d : Nat), a + 1 ≤ k ∧ k ≤ log.length ∧ v = .int .i64 (k : Int) ∧ b = .bool mv ∧ Hid (MvP xs log wn a k mv) ∧ wr = mo w os d) (fun v _ _ => log.length - (intOf v).toNat)
      case atStart => exact MvP_st hal (mo_of (by repeat' (first | (with_reducible first | assumption | exact Below.refl _ _ | refine Below.drew ?_ | refine Below.alloc ?_ ?_ _ | refine Below.setCell ?_ ?_ _ | refine below_setR ?_ ?_ _ | refine below_dn ?_ _ | refine Below.trans ?_ (below_mo _ _ _ ?_) | refine Below.trans ?_ (below_mq _ _ ?_) | exact Nat.le_refl _) | (simp; done) | (simp; omega) | omega)))
      case round =>
        obtain ⟨k, mv, os, d, hk1, hk2, rfl, rfl, HM1, rfl⟩ := hrel
        by_cases hlt : (k : Int) < (log.length : Int)
        · have D2 := Lib.hid (HD.out k _ rfl (by omega))
          obtain ⟨b4, off4, hL4, hbs4, hp0, hp1⟩ := hl.at hv (k := k) (by omega)
          subst hL
          obtain ⟨rfl, rfl⟩ := addr_same hL4
          clear hL4
          have g2 : (0 : Int) ≤ (k : Int) := by omega
          have g3 : (a : Int) < (log.length : Int) := by omega
          have g4 : (0 : Int) ≤ (a : Int) := by omega
          have e6 : IntKind.i64.wrap ((wn : Int) + 1) = (wn : Int) + 1 := IntWalk.i64_in _ ⟨by omega, by omega⟩
          (go_wp2_with fail; refine (D1.out _ (by repeat' (first | (with_reducible first | assumption | exact Below.refl _ _ | refine Below.drew ?_ | refine Below.alloc ?_ ?_ _ | refine Below.setCell ?_ ?_ _ | refine below_setR ?_ ?_ _ | refine below_dn ?_ _ | refine Below.trans ?_ (below_mo _ _ _ ?_) | refine Below.trans ?_ (below_mq _ _ ?_) | exact Nat.le_refl _) | (simp; done) | (simp; omega) | omega))).mono ?_; rintro e w' ⟨rfl, hb_⟩; obtain ⟨os1, d1, rfl⟩ := mo_of hb_; clear hb_)
          (go_wp2_with fail; refine (D2.out _ (by repeat' (first | (with_reducible first | assumption | exact Below.refl _ _ | refine Below.drew ?_ | refine Below.alloc ?_ ?_ _ | refine Below.setCell ?_ ?_ _ | refine below_setR ?_ ?_ _ | refine below_dn ?_ _ | refine Below.trans ?_ (below_mo _ _ _ ?_) | refine Below.trans ?_ (below_mq _ _ ?_) | exact Nat.le_refl _) | (simp; done) | (simp; omega) | omega))).mono ?_; rintro e w' ⟨rfl, hb_⟩; obtain ⟨os2, d2, rfl⟩ := mo_of hb_; clear hb_)
          go_wp2
          refine wp_at (fun u => u.heap[w.heap.size + os.size + os1.size]? = some (.cells #[.int .u8 (dg xs (p2 log a) 0), .int .u8 (dg xs (p2 log a) 1), .int .u8 (dg xs (p2 log a) 2), .int .u8 (dg xs (p2 log a) 3), .int .u8 (dg xs (p2 log a) 4), .int .u8 (dg xs (p2 log a) 5), .int .u8 (dg xs (p2 log a) 6), .int .u8 (dg xs (p2 log a) 7)] 43 (0, 0)) ∧ u.heap[w.heap.size + os.size + os1.size + 1 + os2.size]? = some (.cells #[.int .u8 (dg xs (p2 log k) 0), .int .u8 (dg xs (p2 log k) 1), .int .u8 (dg xs (p2 log k) 2), .int .u8 (dg xs (p2 log k) 3), .int .u8 (dg xs (p2 log k) 4), .int .u8 (dg xs (p2 log k) 5), .int .u8 (dg xs (p2 log k) 6), .int .u8 (dg xs (p2 log k) 7)] 43 (0, 0)) ∧ Below w.heap.size w u) _ ⟨(by repeat' (first | (with_reducible assumption) | (with_reducible refine heap_mo_at ?_) | (with_reducible refine heap_mq_at ?_) | (with_reducible refine heap_drew_at ?_) | ((with_reducible refine heap_alloc_at ?_); first | rfl | (simp; done)) | (with_reducible refine heap_alloc_past ?_) | ((with_reducible apply heap_set_at); (first | rfl | (simp; done))) | ((with_reducible apply heap_set_past); (first | (simp; done) | (simp; omega) | omega)) | ((with_reducible apply heap_setC_past); (first | (simp; done) | (simp; omega) | omega)) | fail)), (by repeat' (first | (with_reducible assumption) | (with_reducible refine heap_mo_at ?_) | (with_reducible refine heap_mq_at ?_) | (with_reducible refine heap_drew_at ?_) | ((with_reducible refine heap_alloc_at ?_); first | rfl | (simp; done)) | (with_reducible refine heap_alloc_past ?_) | ((with_reducible apply heap_set_at); (first | rfl | (simp; done))) | ((with_reducible apply heap_set_past); (first | (simp; done) | (simp; omega) | omega)) | ((with_reducible apply heap_setC_past); (first | (simp; done) | (simp; omega) | omega)) | fail)), (by repeat' (first | (with_reducible first | assumption | exact Below.refl _ _ | refine Below.drew ?_ | refine Below.alloc ?_ ?_ _ | refine Below.setCell ?_ ?_ _ | refine below_setR ?_ ?_ _ | refine below_dn ?_ _ | refine Below.trans ?_ (below_mo _ _ _ ?_) | refine Below.trans ?_ (below_mq _ _ ?_) | exact Nat.le_refl _) | (simp; done) | (simp; omega) | omega))⟩ ?_
          rintro U ⟨hA, hB', hU⟩
          have hUz := hU.size
          have hUa : w.heap.size + os.size + os1.size < U.heap.size := lt_of_row hA
          have hUb : w.heap.size + os.size + os1.size + 1 + os2.size < U.heap.size := lt_of_row hB'
          go_loopw [14, 10] (fun v b wr => ∃ (u : Nat) (mv : Bool) (os' : Array Obj) (d' : Nat), wn < u ∧ u ≤ xs.length ∧ v = .int .i64 (u : Int) ∧ b = .bool mv ∧ Hid (MuP xs log wn a k u mv) ∧ wr = mo U os' d') (fun v _ _ => xs.length - (intOf v).toNat)
          case atStart => exact MuP_st HM1 (by omega)
          case round =>
            obtain ⟨u, mu, os', d', hu1, hu2, rfl, rfl, HU, rfl⟩ := hrel
            have hhA := heap_mo_at hA (os := os') (d := d')
            have hhB := heap_mo_at hB' (os := os') (d := d')
            by_cases hlt2 : (u : Int) < (xs.length : Int)
            · have e7 : IntKind.i64.wrap ((u : Int) + 1) = (u : Int) + 1 := IntWalk.i64_in _ ⟨by omega, by omega⟩
              have g5 : (0 : Int) ≤ (u : Int) := by omega
              have g6 : (u : Int) < 8 := by omega
              have g7 : u < 8 := by omega
              have cA := cell_row hhA (a8_at .u8 (dg xs (p2 log a)) g7)
              have cB := cell_row hhB (a8_at .u8 (dg xs (p2 log k)) g7)
              cases mu
              · by_cases he : dg xs (p2 log a) u = dg xs (p2 log k) u
                · have HN := Lib.hid (MuP_y HU.out he)
                  have l2 : (dg xs (p2 log a) u != dg xs (p2 log k) u) = false := by rw [he]; exact bne_self_eq_false _
                  clear he
                  go_wp2
                  go_quiet (fail)
                  go_wp2
                  exact ⟨rel_u hu1 hlt2 HN (mo_drewN _ _ _ _), by simp [intOf]; omega⟩
                · have HN := Lib.hid (MuP_n HP.out (by omega) (by omega) hu1 (by omega) he)
                  have l2 : (dg xs (p2 log a) u != dg xs (p2 log k) u) = true := bne_iff_ne.2 he
                  clear he
                  go_wp2
                  go_quiet (fail)
                  go_wp2
                  exact ⟨rel_u hu1 hlt2 HN (mo_drewN _ _ _ _), by simp [intOf]; omega⟩
              · have HN : Hid (MuP xs log wn a k (u + 1) true) := MuP_t HU.out
                go_wp2
                go_quiet (fail)
                go_wp2
                exact ⟨rel_u hu1 hlt2 HN (mo_drewN _ _ _ _), by simp [intOf]; omega⟩
            · have HN := Lib.hid (MuP_e HU.out (by omega))
              have e7 : IntKind.i64.wrap ((k : Int) + 1) = (k : Int) + 1 := IntWalk.i64_in _ ⟨by omega, by omega⟩
              go_wp2
              exact ⟨rel_k hk1 hlt HN (mo_of (by repeat' (first | (with_reducible first | assumption | exact Below.refl _ _ | refine Below.drew ?_ | refine Below.alloc ?_ ?_ _ | refine Below.setCell ?_ ?_ _ | refine below_setR ?_ ?_ _ | refine below_dn ?_ _ | refine Below.trans ?_ (below_mo _ _ _ ?_) | refine Below.trans ?_ (below_mq _ _ ?_) | exact Nat.le_refl _) | (simp; done) | (simp; omega) | omega))), by simp [intOf]; omega⟩
        · have g2 : ¬ k < log.length := by omega
          cases mv
          · have HV := Lib.hid (ssR_still HP.out hal (fun i u h1 h2 h3 h4 => HM1.out i u h1 (by omega) h3 h4))
            go_wp2
            go_returns
            exact ⟨by rw [HR.out, HV.out]; first | done | rfl, (by repeat' (first | (with_reducible first | assumption | exact Below.refl _ _ | refine Below.drew ?_ | refine Below.alloc ?_ ?_ _ | refine Below.setCell ?_ ?_ _ | refine below_setR ?_ ?_ _ | refine below_dn ?_ _ | refine Below.trans ?_ (below_mo _ _ _ ?_) | refine Below.trans ?_ (below_mq _ _ ?_) | exact Nat.le_refl _) | (simp; done) | (simp; omega) | omega))⟩
          · have HV : Hid (ssR xs log wn = ((a : Int), 0)) := HM1.out
            go_wp2
            go_returns
            exact ⟨by rw [HR.out, HV.out]; first | done | rfl, (by repeat' (first | (with_reducible first | assumption | exact Below.refl _ _ | refine Below.drew ?_ | refine Below.alloc ?_ ?_ _ | refine Below.setCell ?_ ?_ _ | refine below_setR ?_ ?_ _ | refine below_dn ?_ _ | refine Below.trans ?_ (below_mo _ _ _ ?_) | refine Below.trans ?_ (below_mq _ _ ?_) | exact Nat.le_refl _) | (simp; done) | (simp; omega) | omega))⟩
end Go.Proofs.Ytkphbagckbbalaa.X
