/- LeastIn, both answers. Conditions: none. -/
import Derived.Test.YtbihgnmiocfelaaKLeastC
namespace Go.Proofs.Ytbihgnmiocfelaa.X
open Go.RowKit
set_option linter.unusedVariables false
set_option linter.unusedSimpArgs false
set_option maxRecDepth 100000
theorem l05Has0 (x y : Int) (hx : 0 ≤ x ∧ x < 18446744073709551616) (hy : 0 ≤ y ∧ y < 18446744073709551616) {b : Bool} (hb : hsB x.toNat y.toNat 0 = b) (w : World) : Calls Try.prog 236 #[.agg #[.int .u64 x, .int .u64 y], .int .i64 0] w fun e w' => e = .returned (.bool b) ∧ Below w.heap.size w w' := by
  have h := l05Has_any x.toNat y.toNat (by omega) (by omega) 0 (by omega) w
  rw [Int.toNat_of_nonneg hx.1, Int.toNat_of_nonneg hy.1, hb] at h
  exact h
theorem l05From0 (x y : Int) (hx : 0 ≤ x ∧ x < 18446744073709551616) (hy : 0 ≤ y ∧ y < 18446744073709551616) {z : Int} (hz : frB x.toNat y.toNat 0 = z) (w : World) : Calls Try.prog 237 #[.agg #[.int .u64 x, .int .u64 y], .int .i64 0] w fun e w' => e = .returned (.int .i64 z) ∧ Below w.heap.size w w' := by
  have h := l05From_any x.toNat y.toNat (by omega) (by omega) 0 (by omega) w
  rw [Int.toNat_of_nonneg hx.1, Int.toNat_of_nonneg hy.1, hz] at h
  exact h
theorem l05From1 (x y : Int) (hx : 0 ≤ x ∧ x < 18446744073709551616) (hy : 0 ≤ y ∧ y < 18446744073709551616) {z : Int} (hz : frB x.toNat y.toNat 1 = z) (w : World) : Calls Try.prog 237 #[.agg #[.int .u64 x, .int .u64 y], .int .i64 1] w fun e w' => e = .returned (.int .i64 z) ∧ Below w.heap.size w w' := by
  have h := l05From_any x.toNat y.toNat (by omega) (by omega) 1 (by omega) w
  rw [Int.toNat_of_nonneg hx.1, Int.toNat_of_nonneg hy.1, hz] at h
  exact h
/-- the digits that the reference has set when it has come to wheel j, below wheel k -/
def nxD (p : Nat → Int) (k j : Nat) : Nat → Int := fun i => if i < j ∨ i = k then frB (p (2 * i)).toNat (p (2 * i + 1)).toNat 0 else 0
theorem nxD_0 (p : Nat → Int) (k : Nat) : upd (fun _ => 0) k (frB (p (2 * k)).toNat (p (2 * k + 1)).toNat 0) = nxD p k 0 := by
  funext i
  unfold upd nxD
  by_cases e : i = k
  · subst e; rw [if_pos rfl, if_pos (.inr rfl)]
  · rw [if_neg e, if_neg (by omega)]
theorem nxD_succ (p : Nat → Int) {k j : Nat} (h : j < k) : upd (nxD p k j) j (frB (p (2 * j)).toNat (p (2 * j + 1)).toNat 0) = nxD p k (j + 1) := by
  funext i
  unfold upd nxD
  by_cases e : i = j
  · subst e; rw [if_pos rfl, if_pos (by omega)]
  · rw [if_neg e]
    by_cases c : i < j ∨ i = k
    · rw [if_pos c, if_pos (by omega)]
    · rw [if_neg c, if_neg (by omega)]
/-- from wheel k on all marks have the digit 0 -/
def All0 (xs : List Int) (p : Nat → Int) (k : Nat) : Prop := ∀ i : Nat, k ≤ i → i < xs.length → hsB (p (2 * i)).toNat (p (2 * i + 1)).toNat 0 = true
theorem All0.ls {xs : List Int} {p : Nat → Int} (h : All0 xs p 0) : lsD xs p = fun _ => 0 := by
  funext i
  by_cases c : i < xs.length
  · rw [lsD_at c]; exact fr_0 (h i (by omega) c)
  · exact lsD_out c
theorem All0.nx {xs : List Int} {p : Nat → Int} {k : Nat} (hk : k < xs.length) (h : All0 xs p (k + 1)) : nxD p k k = lsD xs p := by
  funext i
  unfold nxD
  by_cases c : i < xs.length
  · rw [lsD_at c]
    by_cases e : i < k ∨ i = k
    · rw [if_pos e]
    · rw [if_neg e]; exact (fr_0 (h i (by omega) c)).symm
  · rw [lsD_out c, if_neg (by omega)]
theorem All0.dn {xs : List Int} {p : Nat → Int} {k : Nat} (h : All0 xs p (k + 1)) (h0 : hsB (p (2 * k)).toNat (p (2 * k + 1)).toNat 0 = true) : All0 xs p k := fun i a b => by
  by_cases e : i = k
  · rw [e]; exact h0
  · exact h i (by omega) b
/-- what is known of a valid photo's least digits -/
def LsOK (xs : List Int) (p : Nat → Int) : Prop := ∀ i : Nat, i < xs.length → ∃ k : Nat, frB (p (2 * i)).toNat (p (2 * i + 1)).toNat 0 = (k : Int) ∧ (k : Int) < el xs i ∧ k < 128 ∧ hsB (p (2 * i)).toNat (p (2 * i + 1)).toNat k = true
theorem lsOK_of {xs : List Int} {p : Nat → Int} (hp : u16 p) (h : okP xs p = true) (hb : b8 xs) : LsOK xs p := fun i hi =>
  lsD_in hp h hb hi (okS_len (okP_S h)).2 (fun j hj => by have := okS_el (okP_S h) hj; omega)
theorem LsOK.lt {xs : List Int} {p : Nat → Int} (h : LsOK xs p) : (∀ i : Nat, i < xs.length → lsD xs p i < el xs i) ∧ d8 (lsD xs p) := by
  refine ⟨fun i hi => ?_, fun i => ?_⟩
  · obtain ⟨k, k1, k2, k3, k4⟩ := h i hi
    rw [lsD_at hi, k1]; exact k2
  · by_cases c : i < xs.length
    · obtain ⟨k, k1, k2, k3, k4⟩ := h i c
      rw [lsD_at c, k1]; omega
    · rw [lsD_out c]; omega
set_option maxHeartbeats 4000000 in
theorem l05Next_any {A : Option Addr} {xs : List Int} {W : World} {B : Nat} (hs : Nums .u8 W B A xs) (h8 : b8 xs) (n c : Nat) (hn : xs.length = n) (w : World) (hb : Below B W w) (p : Nat → Int) (hu : u16 p) (hk : okP xs p = true) (g : Nat) (hg : PhIn w g p) : Calls Try.prog 126 #[.slice A n c, .pointer (some ⟨g, 0, none⟩), .agg #[.int .u8 0, .int .u8 0, .int .u8 0, .int .u8 0, .int .u8 0, .int .u8 0, .int .u8 0, .int .u8 0]] w fun e w' => e = .returned (.tuple #[.int .i64 (vl xs (lsD xs p)), .bool true]) ∧ Below w.heap.size w w' := by
  obtain rfl := hn
  have hB := hs.bsz hb
  have hg0 := hg.lt
  obtain ⟨hl0, hl8⟩ := okS_len (okP_S hk)
  have HL := Lib.hid (lsOK_of hu hk h8)
  have HK := Lib.hid (okP_S hk)
  have HU := Lib.hid hu
  have HG := Lib.hid hg
  have ew : ∀ k : Nat, k ≤ 8 → IntKind.i64.wrap ((k : Int) - 1) = (k : Int) - 1 := fun k hk => IntWalk.i64_in _ ⟨by omega, by omega⟩
  have ew1 : ∀ k : Nat, k ≤ 8 → IntKind.i64.wrap ((k : Int) + 1) = (k : Int) + 1 := fun k hk => IntWalk.i64_in _ ⟨by omega, by omega⟩
  have EW := Lib.hid ew
  have EW1 := Lib.hid ew1
  have el0 : IntKind.i64.wrap ((xs.length : Int) - 1) = (xs.length : Int) - 1 := ew _ hl8
  obtain ⟨f0, hf0⟩ : ∃ f : Nat → Int, f = fun _ => 0 := ⟨_, rfl⟩
  have HF0 := Lib.hid hf0
  clear hk hu hg ew ew1 hf0
  go_enter Try.func126, Try.ntmps126
  go_wp2
  go_loopw [8] (fun v wr => ∃ (k : Nat) (os : Array Obj) (d : Nat), k ≤ xs.length ∧ ((k = 0 ∧ v = .int .i64 (-1)) ∨ ∃ j : Nat, k = j + 1 ∧ v = .int .i64 (j : Int)) ∧ Hid (All0 xs p k) ∧ wr = mo (w.alloc (.cells #[.int .u8 (f0 0), .int .u8 (f0 1), .int .u8 (f0 2), .int .u8 (f0 3), .int .u8 (f0 4), .int .u8 (f0 5), .int .u8 (f0 6), .int .u8 (f0 7)] 78)) os d) (fun v _ => (intOf v + 1).toNat)
  case atStart => exact ⟨xs.length, #[], _, Nat.le_refl _, .inr ⟨xs.length - 1, by omega, by rw [show ((xs.length - 1 : Nat) : Int) = (xs.length : Int) - 1 by omega]⟩, fun i a b => by omega, by rw [HF0.out]; exact (mo_nil _).symm⟩
  case round =>
    obtain ⟨k, os, d, hk, hv, HA, rfl⟩ := hrel
    rcases hv with ⟨rfl, rfl⟩ | ⟨j, rfl, rfl⟩
    · have HV := Lib.hid HA.out.ls
      have hd0 : ∀ i : Nat, i < xs.length → (0 : Int) < el xs i := fun i hi => by have := okS_el HK.out hi; omega
      have HV0 : Hid (∀ W2, Below B W W2 → Calls Try.prog 194 #[.slice A xs.length c, .agg #[.int .u8 (f0 0), .int .u8 (f0 1), .int .u8 (f0 2), .int .u8 (f0 3), .int .u8 (f0 4), .int .u8 (f0 5), .int .u8 (f0 6), .int .u8 (f0 7)]] W2 fun e w' => e = .returned (.int .i64 (vl xs (lsD xs p))) ∧ Below W2.heap.size W2 w') := fun W2 h2 => by
        rw [HV.out, HF0.out]
        exact l01Value_any hs h8 _ c rfl W2 h2 HK.out (fun _ => 0) (fun _ => ⟨Int.le_refl 0, (by decide : (0 : Int) ≤ 255)⟩) hd0
      clear hd0
      go_wp2
      go_quiet (fail)
      (go_wp2_with fail; refine (HV0.out _ (by repeat' (first | (with_reducible first | assumption | exact Below.refl _ _ | refine Below.drew ?_ | refine Below.alloc ?_ ?_ _ | refine Below.setCell ?_ ?_ _ | refine below_setR ?_ ?_ _ | refine below_dn ?_ _ | refine Below.trans ?_ (below_mo _ _ _ ?_) | refine Below.trans ?_ (below_mq _ _ ?_) | exact Nat.le_refl _) | (simp; done) | (simp; omega) | omega))).mono ?_; rintro e w' ⟨rfl, hb_⟩; obtain ⟨os7, d7, rfl⟩ := mo_of hb_; clear hb_)
      go_wp2
      go_returns
      exact ⟨rfl, (by repeat' (first | (with_reducible first | assumption | exact Below.refl _ _ | refine Below.drew ?_ | refine Below.alloc ?_ ?_ _ | refine Below.setCell ?_ ?_ _ | refine below_setR ?_ ?_ _ | refine below_dn ?_ _ | refine Below.trans ?_ (below_mo _ _ _ ?_) | refine Below.trans ?_ (below_mq _ _ ?_) | exact Nat.le_refl _) | (simp; done) | (simp; omega) | omega))⟩
    · have hj8 : j < 8 := by omega
      obtain ⟨c0, c1⟩ := HG.out.at' j hj8
      obtain ⟨z, hz0, hz1, hz2, hz3⟩ := HL.out j (by omega)
      have ha := a8_at .u8 f0 hj8
      have hfj : f0 j = 0 := by rw [HF0.out]
      have w0 : IntKind.i64.wrap (f0 j) = f0 j := IntWalk.i64_in _ ⟨by omega, by omega⟩
      have w1 : IntKind.i64.wrap (f0 j + 1) = f0 j + 1 := IntWalk.i64_in _ ⟨by omega, by omega⟩
      have HFJ := Lib.hid hfj
      clear hfj
      have g0 : (0 : Int) ≤ (j : Int) := by omega
      have l0 : decide ((0 : Int) ≤ (j : Int)) = true := decide_eq_true g0
      have l1 : decide (0 ≤ j) = true := decide_eq_true (by omega)
      have g1 : (j : Int) < 8 := by omega
      have g2 := EW.out j (by omega)
      have g3 : ¬ (j : Int) < 0 := by omega
      cases hp : hsB (p (2 * j)).toNat (p (2 * j + 1)).toNat 0
      · have H0 : Hid (∀ W, Calls Try.prog 236 #[.agg #[.int .u64 (p (2 * j)), .int .u64 (p (2 * j + 1))], .int .i64 (f0 j)] W fun e w' => e = .returned (.bool false) ∧ Below W.heap.size W w') := fun W => by rw [HFJ.out]; exact l05Has0 _ _ (HU.out (2 * j)) (HU.out (2 * j + 1)) hp W
        have H1 : Hid (∀ W, Calls Try.prog 237 #[.agg #[.int .u64 (p (2 * j)), .int .u64 (p (2 * j + 1))], .int .i64 (f0 j + 1)] W fun e w' => e = .returned (.int .i64 (z : Int)) ∧ Below W.heap.size W w') := fun W => by rw [HFJ.out]; exact l05From1 _ _ (HU.out (2 * j)) (HU.out (2 * j + 1)) ((fr_1 hp).trans hz0) W
        have HV := Lib.hid (HA.out.nx (by omega))
        have HS := Lib.hid ((a8_set .u8 f0 (frB (p (2 * j)).toNat (p (2 * j + 1)).toNat 0) hj8).trans (by rw [HF0.out, nxD_0]))
        rw [hz0] at HS
        have HVF : Hid (∀ W2, Below B W W2 → Calls Try.prog 194 #[.slice A xs.length c, .agg #[.int .u8 (nxD p j j 0), .int .u8 (nxD p j j 1), .int .u8 (nxD p j j 2), .int .u8 (nxD p j j 3), .int .u8 (nxD p j j 4), .int .u8 (nxD p j j 5), .int .u8 (nxD p j j 6), .int .u8 (nxD p j j 7)]] W2 fun e w' => e = .returned (.int .i64 (vl xs (lsD xs p))) ∧ Below W2.heap.size W2 w') := fun W2 h2 => by
          rw [HV.out]
          exact l01Value_any hs h8 _ c rfl W2 h2 HK.out (lsD xs p) HL.out.lt.2 HL.out.lt.1
        have e8 : IntKind.u8.wrap (z : Int) = (z : Int) := by rw [IntKind.wrap_u8]; omega
        have g4 : ¬ (z : Int) < 0 := by omega
        have g5 : (j : Int) < (xs.length : Int) := by omega
        clear hz3 hp HA
        go_wp2
        (refine wp_region_mq (by kernel_rfl) (by kernel_rfl) ?_; (repeat (first | go_big_quiet_step ((first | (go_at_call 236; with_reducible exact quietQ (H0.out _) ))) | quiet_step ((first | (go_at_call 236; with_reducible exact quietQ (H0.out _) ))))); refine wpQuiet_nil ?_; intro _ hq_; obtain ⟨q_, rfl⟩ := hq_)
        go_wp2
        go_loopw [9] (fun v wr => v = .int .i64 (j : Int) ∧ ∃ (os2 : Array Obj) (d2 : Nat), wr = mo (w.alloc (.cells #[.int .u8 (f0 0), .int .u8 (f0 1), .int .u8 (f0 2), .int .u8 (f0 3), .int .u8 (f0 4), .int .u8 (f0 5), .int .u8 (f0 6), .int .u8 (f0 7)] 78)) os2 d2) (fun _ _ => 0)
        case atStart => exact ⟨rfl, _, _, by first | rfl | exact mo_mo _ _ _ _ _⟩
        case round =>
          obtain ⟨rfl, os2, d2, rfl⟩ := hrel
          go_wp2
          (refine wp_region_mq (by kernel_rfl) (by kernel_rfl) ?_; (repeat (first | go_big_quiet_step ((first | (go_at_call 237; with_reducible exact quietQ (H1.out _) ))) | quiet_step ((first | (go_at_call 237; with_reducible exact quietQ (H1.out _) ))))); refine wpQuiet_nil ?_; intro _ hq_; obtain ⟨q_, rfl⟩ := hq_)
          obtain ⟨os5, d5, hq5⟩ : ∃ os5 d5, mq (mo (w.alloc (.cells #[.int .u8 (f0 0), .int .u8 (f0 1), .int .u8 (f0 2), .int .u8 (f0 3), .int .u8 (f0 4), .int .u8 (f0 5), .int .u8 (f0 6), .int .u8 (f0 7)] 78)) os2 d2) q_ = mo (w.alloc (.cells #[.int .u8 (f0 0), .int .u8 (f0 1), .int .u8 (f0 2), .int .u8 (f0 3), .int .u8 (f0 4), .int .u8 (f0 5), .int .u8 (f0 6), .int .u8 (f0 7)] 78)) os5 d5 := ⟨_, _, mo_mo _ _ _ _ _⟩
          rw [hq5]
          clear hq5
          go_wp2
          go_loopw [11] (fun v wr => ∃ (i : Nat) (os3 : Array Obj) (d3 : Nat), i ≤ j ∧ v = .int .i64 (i : Int) ∧ wr = mo (w.alloc (.cells #[.int .u8 (nxD p j i 0), .int .u8 (nxD p j i 1), .int .u8 (nxD p j i 2), .int .u8 (nxD p j i 3), .int .u8 (nxD p j i 4), .int .u8 (nxD p j i 5), .int .u8 (nxD p j i 6), .int .u8 (nxD p j i 7)] 78)) os3 d3) (fun v _ => j - (intOf v).toNat)
          case atStart => exact ⟨0, _, _, Nat.zero_le _, rfl, by rw [HS.out]⟩
          case round =>
            obtain ⟨i, os3, d3, hi, rfl, rfl⟩ := hrel
            by_cases hlt : i < j
            · have hi8 : i < 8 := by omega
              obtain ⟨c2, c3⟩ := HG.out.at' i hi8
              obtain ⟨y, hy0, hy1, hy2, hy3⟩ := HL.out i (by omega)
              have H2 := Lib.hid (fun W => l05From0 _ _ (HU.out (2 * i)) (HU.out (2 * i + 1)) hy0 W)
              have HT := Lib.hid ((a8_set .u8 (nxD p j i) (frB (p (2 * i)).toNat (p (2 * i + 1)).toNat 0) hi8).trans (by rw [nxD_succ p hlt]))
              rw [hy0] at HT
              have ha2 := a8_at .u8 (nxD p j i) hi8
              have e9 : IntKind.u8.wrap (y : Int) = (y : Int) := by rw [IntKind.wrap_u8]; omega
              have g6 : (0 : Int) ≤ (i : Int) := by omega
              have g7 : (i : Int) < 8 := by omega
              have g8 := EW1.out i (by omega)
              clear hy3
              go_wp2_with (go_at_call 237; refine (H2.out _).mono ?_; rintro e w' ⟨rfl, hb_⟩; obtain ⟨os_, d_, rfl⟩ := mo_of hb_; clear hb_)
              exact ⟨⟨i + 1, _, _, by omega, by go_num, by rw [HT.out]; first | rfl | exact mo_mo _ _ _ _ _⟩, by simp [intOf]; omega⟩
            · obtain rfl : i = j := by omega
              (go_wp2_with fail; refine (HVF.out _ (by repeat' (first | (with_reducible first | assumption | exact Below.refl _ _ | refine Below.drew ?_ | refine Below.alloc ?_ ?_ _ | refine Below.setCell ?_ ?_ _ | refine below_setR ?_ ?_ _ | refine below_dn ?_ _ | refine Below.trans ?_ (below_mo _ _ _ ?_) | refine Below.trans ?_ (below_mq _ _ ?_) | exact Nat.le_refl _) | (simp; done) | (simp; omega) | omega))).mono ?_; rintro e w' ⟨rfl, hb_⟩; obtain ⟨os8, d8, rfl⟩ := mo_of hb_; clear hb_)
              go_wp2
              go_returns
              exact ⟨rfl, (by repeat' (first | (with_reducible first | assumption | exact Below.refl _ _ | refine Below.drew ?_ | refine Below.alloc ?_ ?_ _ | refine Below.setCell ?_ ?_ _ | refine below_setR ?_ ?_ _ | refine below_dn ?_ _ | refine Below.trans ?_ (below_mo _ _ _ ?_) | refine Below.trans ?_ (below_mq _ _ ?_) | exact Nat.le_refl _) | (simp; done) | (simp; omega) | omega))⟩
      · have H0 : Hid (∀ W, Calls Try.prog 236 #[.agg #[.int .u64 (p (2 * j)), .int .u64 (p (2 * j + 1))], .int .i64 (f0 j)] W fun e w' => e = .returned (.bool true) ∧ Below W.heap.size W w') := fun W => by rw [HFJ.out]; exact l05Has0 _ _ (HU.out (2 * j)) (HU.out (2 * j + 1)) hp W
        have HN := Lib.hid (HA.out.dn hp)
        clear hz3 hp
        go_wp2
        (refine wp_region_mq (by kernel_rfl) (by kernel_rfl) ?_; (repeat (first | go_big_quiet_step ((first | (go_at_call 236; with_reducible exact quietQ (H0.out _) ))) | quiet_step ((first | (go_at_call 236; with_reducible exact quietQ (H0.out _) ))))); refine wpQuiet_nil ?_; intro _ hq_; obtain ⟨q_, rfl⟩ := hq_)
        go_wp2
        exact ⟨⟨j, _, _, by omega, by cases j with
          | zero => exact .inl ⟨rfl, rfl⟩
          | succ j => exact .inr ⟨j, rfl, by rw [show ((j + 1 : Nat) : Int) - 1 = (j : Int) by omega]⟩, HN, by first | rfl | exact mo_mo _ _ _ _ _⟩, by first | (simp [intOf]; done) | (simp [intOf]; omega)⟩
set_option maxHeartbeats 2000000 in
theorem specLeastIn_any {A : Option Addr} {xs : List Int} {W : World} {B : Nat} (hs : Nums .u8 W B A xs) (h8 : b8 xs) (n c : Nat) (hn : xs.length = n) (w : World) (hb : Below B W w) (p : Nat → Int) (hu : u16 p) : Calls Try.prog 22 #[.slice A n c, .agg (a16 p)] w fun e w' => e = .returned (.tuple #[.int .i64 (liV xs p).1, .int .i64 (liV xs p).2]) ∧ Below w.heap.size w w' := by
  obtain rfl := hn
  have hB := hs.bsz hb
  have hlen := hs.len
  cases h1 : okP xs p
  · have HR := Lib.hid (liV_1 h1)
    go_enter Try.func22, Try.ntmps22
    go_wp2_with (go_at_call 125; refine (specVP hs h8 _ _ rfl _ (by repeat' (first | (with_reducible first | assumption | exact Below.refl _ _ | refine Below.drew ?_ | refine Below.alloc ?_ ?_ _ | refine Below.setCell ?_ ?_ _ | refine below_setR ?_ ?_ _ | refine below_dn ?_ _ | refine Below.trans ?_ (below_mo _ _ _ ?_) | refine Below.trans ?_ (below_mq _ _ ?_) | exact Nat.le_refl _) | (simp; done) | (simp; omega) | omega)) _).mono ?_; rintro e w' ⟨rfl, hb_⟩; obtain ⟨os_, d_, rfl⟩ := mo_of hb_; clear hb_)
    go_returns
    exact ⟨(by first | (rw [HR.out]; done) | (rw [HR.out]; rfl)), (by repeat' (first | (with_reducible first | assumption | exact Below.refl _ _ | refine Below.drew ?_ | refine Below.alloc ?_ ?_ _ | refine Below.setCell ?_ ?_ _ | refine below_setR ?_ ?_ _ | refine below_dn ?_ _ | refine Below.trans ?_ (below_mo _ _ _ ?_) | refine Below.trans ?_ (below_mq _ _ ?_) | exact Nat.le_refl _) | (simp; done) | (simp; omega) | omega))⟩
  · have HR := Lib.hid (liV_0 h1)
    have HU := Lib.hid hu
    have H1 := Lib.hid h1
    clear hu
    go_enter Try.func22, Try.ntmps22
    go_wp2_with (first | (go_at_call 125; refine (specVP hs h8 _ _ rfl _ (by repeat' (first | (with_reducible first | assumption | exact Below.refl _ _ | refine Below.drew ?_ | refine Below.alloc ?_ ?_ _ | refine Below.setCell ?_ ?_ _ | refine below_setR ?_ ?_ _ | refine below_dn ?_ _ | refine Below.trans ?_ (below_mo _ _ _ ?_) | refine Below.trans ?_ (below_mq _ _ ?_) | exact Nat.le_refl _) | (simp; done) | (simp; omega) | omega)) _).mono ?_; rintro e w' ⟨rfl, hb_⟩; obtain ⟨os_, d_, rfl⟩ := mo_of hb_; clear hb_) | (go_at_call 126; refine (l05Next_any hs h8 _ _ rfl _ (by repeat' (first | (with_reducible first | assumption | exact Below.refl _ _ | refine Below.drew ?_ | refine Below.alloc ?_ ?_ _ | refine Below.setCell ?_ ?_ _ | refine below_setR ?_ ?_ _ | refine below_dn ?_ _ | refine Below.trans ?_ (below_mo _ _ _ ?_) | refine Below.trans ?_ (below_mq _ _ ?_) | exact Nat.le_refl _) | (simp; done) | (simp; omega) | omega)) p HU.out H1.out w.heap.size (phIn_of (by repeat' (first | (with_reducible assumption) | (with_reducible refine heap_mo_at ?_) | (with_reducible refine heap_mq_at ?_) | (with_reducible refine heap_drew_at ?_) | ((with_reducible refine heap_alloc_at ?_); first | rfl | (simp; done)) | (with_reducible refine heap_alloc_past ?_) | ((with_reducible apply heap_set_at); (first | rfl | (simp; done))) | ((with_reducible apply heap_set_past); (first | (simp; done) | (simp; omega) | omega)) | ((with_reducible apply heap_setC_past); (first | (simp; done) | (simp; omega) | omega)) | fail)))).mono ?_; rintro e w' ⟨rfl, hb_⟩; obtain ⟨os_, d_, rfl⟩ := mo_of hb_; clear hb_))
    go_returns
    exact ⟨(by first | (rw [HR.out]; done) | (rw [HR.out]; rfl)), (by repeat' (first | (with_reducible first | assumption | exact Below.refl _ _ | refine Below.drew ?_ | refine Below.alloc ?_ ?_ _ | refine Below.setCell ?_ ?_ _ | refine below_setR ?_ ?_ _ | refine below_dn ?_ _ | refine Below.trans ?_ (below_mo _ _ _ ?_) | refine Below.trans ?_ (below_mq _ _ ?_) | exact Nat.le_refl _) | (simp; done) | (simp; omega) | omega))⟩
set_option maxHeartbeats 2000000 in
theorem implLeastIn_any {A : Option Addr} {xs : List Int} {W : World} {B : Nat} (hs : Nums .u8 W B A xs) (h8 : b8 xs) (n c : Nat) (hn : xs.length = n) (w : World) (hb : Below B W w) (p : Nat → Int) (hu : u16 p) : Calls Try.prog 25 #[.slice A n c, .agg (a16 p)] w fun e w' => e = .returned (.tuple #[.int .i64 (liV xs p).1, .int .i64 (liV xs p).2]) ∧ Below w.heap.size w w' := by
  obtain rfl := hn
  have hB := hs.bsz hb
  have hlen := hs.len
  cases h1 : okP xs p
  · have HR := Lib.hid (liV_1 h1)
    go_enter Try.func25, Try.ntmps25
    go_wp2_with (go_at_call 128; refine (implVP hs h8 _ _ rfl _ (by repeat' (first | (with_reducible first | assumption | exact Below.refl _ _ | refine Below.drew ?_ | refine Below.alloc ?_ ?_ _ | refine Below.setCell ?_ ?_ _ | refine below_setR ?_ ?_ _ | refine below_dn ?_ _ | refine Below.trans ?_ (below_mo _ _ _ ?_) | refine Below.trans ?_ (below_mq _ _ ?_) | exact Nat.le_refl _) | (simp; done) | (simp; omega) | omega)) _).mono ?_; rintro e w' ⟨rfl, hb_⟩; obtain ⟨os_, d_, rfl⟩ := mo_of hb_; clear hb_)
    go_returns
    exact ⟨(by first | (rw [HR.out]; done) | (rw [HR.out]; rfl)), (by repeat' (first | (with_reducible first | assumption | exact Below.refl _ _ | refine Below.drew ?_ | refine Below.alloc ?_ ?_ _ | refine Below.setCell ?_ ?_ _ | refine below_setR ?_ ?_ _ | refine below_dn ?_ _ | refine Below.trans ?_ (below_mo _ _ _ ?_) | refine Below.trans ?_ (below_mq _ _ ?_) | exact Nat.le_refl _) | (simp; done) | (simp; omega) | omega))⟩
  · have HR := Lib.hid (liV_0 h1)
    have hl8 := (okS_len (okP_S h1)).2
    have HL := lsOK_of hu h1 h8
    have HO : Hid (lsOK p xs.length) := fun i hi => by obtain ⟨k, k1, k2, k3, k4⟩ := HL i hi; exact ⟨k, k1, k3, k4⟩
    have HV : Hid (∀ W2, Below B W W2 → Calls Try.prog 129 #[.slice A xs.length c, .agg #[.int .u8 (lsN p xs.length 0), .int .u8 (lsN p xs.length 1), .int .u8 (lsN p xs.length 2), .int .u8 (lsN p xs.length 3), .int .u8 (lsN p xs.length 4), .int .u8 (lsN p xs.length 5), .int .u8 (lsN p xs.length 6), .int .u8 (lsN p xs.length 7)]] W2 fun e w' => e = .returned (.int .i64 (vl xs (lsD xs p))) ∧ Below W2.heap.size W2 w') := fun W2 h2 =>
      value_any hs h8 _ c rfl W2 h2 (okP_S h1) (lsD xs p) (fun k => by have := HL.lt.2 k; omega) HL.lt.1
    have HU := Lib.hid hu
    clear hu HL
    go_enter Try.func25, Try.ntmps25
    go_wp2_with (first | (go_at_call 128; refine (implVP hs h8 _ _ rfl _ (by repeat' (first | (with_reducible first | assumption | exact Below.refl _ _ | refine Below.drew ?_ | refine Below.alloc ?_ ?_ _ | refine Below.setCell ?_ ?_ _ | refine below_setR ?_ ?_ _ | refine below_dn ?_ _ | refine Below.trans ?_ (below_mo _ _ _ ?_) | refine Below.trans ?_ (below_mq _ _ ?_) | exact Nat.le_refl _) | (simp; done) | (simp; omega) | omega)) _).mono ?_; rintro e w' ⟨rfl, hb_⟩; obtain ⟨os_, d_, rfl⟩ := mo_of hb_; clear hb_) | (go_at_call 130; refine (least_any p HU.out xs.length hl8 HO.out w.heap.size _ (phIn_of (by repeat' (first | (with_reducible assumption) | (with_reducible refine heap_mo_at ?_) | (with_reducible refine heap_mq_at ?_) | (with_reducible refine heap_drew_at ?_) | ((with_reducible refine heap_alloc_at ?_); first | rfl | (simp; done)) | (with_reducible refine heap_alloc_past ?_) | ((with_reducible apply heap_set_at); (first | rfl | (simp; done))) | ((with_reducible apply heap_set_past); (first | (simp; done) | (simp; omega) | omega)) | ((with_reducible apply heap_setC_past); (first | (simp; done) | (simp; omega) | omega)) | fail)))).mono ?_; rintro e w' ⟨rfl, hb_⟩; obtain ⟨os_, d_, rfl⟩ := mo_of hb_; clear hb_))
    (go_wp2_with fail; refine (HV.out _ (by repeat' (first | (with_reducible first | assumption | exact Below.refl _ _ | refine Below.drew ?_ | refine Below.alloc ?_ ?_ _ | refine Below.setCell ?_ ?_ _ | refine below_setR ?_ ?_ _ | refine below_dn ?_ _ | refine Below.trans ?_ (below_mo _ _ _ ?_) | refine Below.trans ?_ (below_mq _ _ ?_) | exact Nat.le_refl _) | (simp; done) | (simp; omega) | omega))).mono ?_; rintro e w' ⟨rfl, hb_⟩; obtain ⟨os7, d7, rfl⟩ := mo_of hb_; clear hb_)
    go_wp2
    go_returns
    exact ⟨(by first | (rw [HR.out]; done) | (rw [HR.out]; rfl)), (by repeat' (first | (with_reducible first | assumption | exact Below.refl _ _ | refine Below.drew ?_ | refine Below.alloc ?_ ?_ _ | refine Below.setCell ?_ ?_ _ | refine below_setR ?_ ?_ _ | refine below_dn ?_ _ | refine Below.trans ?_ (below_mo _ _ _ ?_) | refine Below.trans ?_ (below_mq _ _ ?_) | exact Nat.le_refl _) | (simp; done) | (simp; omega) | omega))⟩
end Go.Proofs.Ytbihgnmiocfelaa.X
