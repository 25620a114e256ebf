/- How many values a photo has. Conditions: none. -/
import Derived.Test.YtdmnblmonndkmaaKPh
import Derived.Test.YtdmnblmonndkmaaKPop
import Derived.IntWalk
namespace Go.Proofs.Ytdmnblmonndkmaa.X
open Go.RowKit
set_option linter.unusedVariables false
set_option linter.unusedSimpArgs false
set_option maxRecDepth 100000
/-- how many bits a word has -/
def pcI (x : Int) : Int := (Pop.pcN x.toNat : Nat)
theorem pcI_bd {x : Int} (h : 0 ≤ x ∧ x < 18446744073709551616) : 0 ≤ pcI x ∧ pcI x ≤ 64 := by
  have := Pop.pcN_le 64 x.toNat (by omega)
  unfold pcI
  omega
theorem and64 (a b : Nat) (ha : a < 18446744073709551616) (hb : b < 18446744073709551616) : bits .and .u64 (a : Int) (b : Int) = ((a &&& b : Nat) : Int) := bits_and_u64_nat a b ha hb
theorem and127 (z : Nat) (h1 : z < 4611686018427387904) : bits .and .i64 (z : Int) 127 = ((z % 128 : Nat) : Int) := by
  have e : bits .and .i64 (z : Int) 127 = IntKind.i64.wrap (((BitVec.ofInt 64 (z : Int)) &&& (BitVec.ofInt 64 127)).toNat : Int) := rfl
  rw [e, BitVec.ofInt_natCast, show BitVec.ofInt 64 127 = BitVec.ofNat 64 127 from rfl, BitVec.toNat_and, BitVec.toNat_ofNat, BitVec.toNat_ofNat, Nat.mod_eq_of_lt (show z < 2 ^ 64 by omega), Nat.mod_eq_of_lt (show 127 < 2 ^ 64 by omega),
    show (127 : Nat) = 2 ^ 7 - 1 from rfl, Nat.and_two_pow_sub_one_eq_mod]
  exact IntWalk.i64_in _ ⟨by omega, by omega⟩
theorem wrap_nat (z : Nat) (h : z < 18446744073709551616) : IntKind.u64.wrap (z : Int) = (z : Int) := by
  rw [IntKind.wrap_u64]; omega
/-- the steps of a word's count -/
structure Steps (X Y1 Y2 Y3 Y4 Y5 Y6 : Nat) : Prop where
  h1 : IntKind.u64.wrap (bits .and .u64 ((X : Int) / 2) 6148914691236517205 + bits .and .u64 (X : Int) 6148914691236517205) = (Y1 : Int)
  h2 : IntKind.u64.wrap (bits .and .u64 ((Y1 : Int) / 4) 3689348814741910323 + bits .and .u64 (Y1 : Int) 3689348814741910323) = (Y2 : Int)
  h3 : bits .and .u64 (IntKind.u64.wrap ((Y2 : Int) / 16 + (Y2 : Int))) 1085102592571150095 = (Y3 : Int)
  h4 : IntKind.u64.wrap ((Y3 : Int) + (Y3 : Int) / 256) = (Y4 : Int)
  h5 : IntKind.u64.wrap ((Y4 : Int) + (Y4 : Int) / 65536) = (Y5 : Int)
  h6 : IntKind.u64.wrap ((Y5 : Int) + (Y5 : Int) / 4294967296) = (Y6 : Int)
  h7 : IntKind.i64.wrap (Y6 : Int) = (Y6 : Int)
  h8 : bits .and .i64 (Y6 : Int) 127 = pcI X
theorem steps (X : Nat) (hX : X < 18446744073709551616) : ∃ Y1 Y2 Y3 Y4 Y5 Y6 : Nat, Steps X Y1 Y2 Y3 Y4 Y5 Y6 := by
  obtain ⟨b1, b2, b3, b4, hp⟩ := Pop.pop_all X hX
  have hp := hp _ rfl
  obtain ⟨Y1, e1⟩ : ∃ Y, Y = Pop.sw1 X := ⟨_, rfl⟩
  rw [← e1] at b1 b2 b3 b4 hp
  obtain ⟨Y2, e2⟩ : ∃ Y, Y = Pop.sw2 Y1 := ⟨_, rfl⟩
  rw [← e2] at b2 b3 b4 hp
  obtain ⟨Y3, e3⟩ : ∃ Y, Y = Pop.sw3 Y2 := ⟨_, rfl⟩
  rw [← e3] at b4 hp
  obtain ⟨Y4, e4⟩ : ∃ Y, Y = Y3 + Y3 / 256 := ⟨_, rfl⟩
  rw [← e4] at hp
  obtain ⟨Y5, e5⟩ : ∃ Y, Y = Y4 + Y4 / 65536 := ⟨_, rfl⟩
  rw [← e5] at hp
  obtain ⟨Y6, e6⟩ : ∃ Y, Y = Y5 + Y5 / 4294967296 := ⟨_, rfl⟩
  rw [← e6] at hp
  have c4 : Y4 < 2000000000000000000 := by omega
  have c5 : Y5 < 2100000000000000000 := by omega
  have c6 : Y6 < 2200000000000000000 := by omega
  refine ⟨Y1, Y2, Y3, Y4, Y5, Y6, ?_, ?_, ?_, ?_, ?_, ?_, ?_, ?_⟩
  · have h1 := and64 (X / 2) 6148914691236517205 (by omega) (by omega)
    have h2 := and64 X 6148914691236517205 hX (by omega)
    rw [show ((X / 2 : Nat) : Int) = (X : Int) / 2 by omega, show ((6148914691236517205 : Nat) : Int) = 6148914691236517205 from rfl] at h1
    rw [show ((6148914691236517205 : Nat) : Int) = 6148914691236517205 from rfl] at h2
    rw [h1, h2, e1, show (((X / 2 &&& 6148914691236517205 : Nat) : Int) + ((X &&& 6148914691236517205 : Nat) : Int)) = ((Pop.sw1 X : Nat) : Int) from (Int.natCast_add _ _).symm]
    exact wrap_nat _ (e1 ▸ b1)
  · have h1 := and64 (Y1 / 4) 3689348814741910323 (by omega) (by omega)
    have h2 := and64 Y1 3689348814741910323 b1 (by omega)
    rw [show ((Y1 / 4 : Nat) : Int) = (Y1 : Int) / 4 by omega, show ((3689348814741910323 : Nat) : Int) = 3689348814741910323 from rfl] at h1
    rw [show ((3689348814741910323 : Nat) : Int) = 3689348814741910323 from rfl] at h2
    rw [h1, h2, e2, show (((Y1 / 4 &&& 3689348814741910323 : Nat) : Int) + ((Y1 &&& 3689348814741910323 : Nat) : Int)) = ((Pop.sw2 Y1 : Nat) : Int) from (Int.natCast_add _ _).symm]
    exact wrap_nat _ (e2 ▸ b2)
  · have h0 := wrap_nat (Y2 / 16 + Y2) b3
    rw [show ((Y2 / 16 + Y2 : Nat) : Int) = (Y2 : Int) / 16 + (Y2 : Int) by omega] at h0
    have h1 := and64 (Y2 / 16 + Y2) 1085102592571150095 b3 (by omega)
    rw [show ((Y2 / 16 + Y2 : Nat) : Int) = (Y2 : Int) / 16 + (Y2 : Int) by omega, show ((1085102592571150095 : Nat) : Int) = 1085102592571150095 from rfl] at h1
    rw [h0, h1, e3]; rfl
  · have h0 := wrap_nat Y4 (by omega)
    rw [← h0]; congr 1; omega
  · have h0 := wrap_nat Y5 (by omega)
    rw [← h0]; congr 1; omega
  · have h0 := wrap_nat Y6 (by omega)
    rw [← h0]; congr 1; omega
  · exact IntWalk.i64_in _ ⟨by omega, by omega⟩
  · rw [and127 Y6 (by omega)]
    unfold pcI
    rw [Int.toNat_natCast, ← hp]
set_option maxHeartbeats 1000000 in
theorem ones_any (x : Int) (h : 0 ≤ x ∧ x < 18446744073709551616) (w : World) : Calls Try.prog 131 #[.int .u64 x] w fun e w' => e = .returned (.int .i64 (pcI x)) ∧ w = w' := by
  obtain ⟨X, rfl⟩ : ∃ X : Nat, x = X := ⟨x.toNat, by omega⟩
  have hX : X < 18446744073709551616 := by omega
  obtain ⟨Y1, Y2, Y3, Y4, Y5, Y6, h1, h2, h3, h4, h5, h6, h7, h8⟩ := steps X hX
  have H8 := Lib.hid h8
  clear h hX h8
  go_enter Try.func131, Try.ntmps131
  go_wp2
  go_ret
  exact ⟨ret_i H8.out, rfl⟩
/-- how many digits are marked -/
def cntM (x y : Int) : Int := pcI x + pcI y
theorem cntM_bd {x y : Int} (hx : 0 ≤ x ∧ x < 18446744073709551616) (hy : 0 ≤ y ∧ y < 18446744073709551616) : 0 ≤ cntM x y ∧ cntM x y ≤ 128 := by
  have := pcI_bd hx
  have := pcI_bd hy
  unfold cntM
  omega
/-- how many values the first k wheels have -/
def chTo (p : Nat → Int) : Nat → Int
  | 0 => 1
  | k + 1 => chTo p k * cntM (p (2 * k)) (p (2 * k + 1))
theorem chTo_bd {p : Nat → Int} (h : u16 p) : ∀ k : Nat, 0 ≤ chTo p k ∧ chTo p k ≤ 128 ^ k
  | 0 => by simp [chTo]
  | k + 1 => by
    have ih := chTo_bd h k
    have hc := cntM_bd (h (2 * k)) (h (2 * k + 1))
    unfold chTo
    refine ⟨Int.mul_nonneg ih.1 hc.1, ?_⟩
    have := Int.mul_le_mul ih.2 hc.2 hc.1 (Int.pow_nonneg (by omega))
    rwa [← Int.pow_succ] at this
theorem chTo_small {p : Nat → Int} (h : u16 p) {k : Nat} (hk : k ≤ 8) : 0 ≤ chTo p k ∧ chTo p k ≤ 72057594037927936 := by
  have h1 := chTo_bd h k
  rcases (show k = 0 ∨ k = 1 ∨ k = 2 ∨ k = 3 ∨ k = 4 ∨ k = 5 ∨ k = 6 ∨ k = 7 ∨ k = 8 by omega) with rfl | rfl | rfl | rfl | rfl | rfl | rfl | rfl | rfl <;> (simp only [Int.reducePow] at h1; omega)
set_option maxHeartbeats 1000000 in
theorem count_any (x y : Int) (hx : 0 ≤ x ∧ x < 18446744073709551616) (hy : 0 ≤ y ∧ y < 18446744073709551616) (w : World) : Calls Try.prog 113 #[.agg #[.int .u64 x, .int .u64 y]] w fun e w' => e = .returned (.int .i64 (cntM x y)) ∧ Below w.heap.size w w' := by
  obtain ⟨a0, a1⟩ := pcI_bd hx
  obtain ⟨b0, b1⟩ := pcI_bd hy
  have HX := Lib.hid hx
  have HY := Lib.hid hy
  have e : IntKind.i64.wrap (pcI x + pcI y) = pcI x + pcI y := IntWalk.i64_in _ ⟨by omega, by omega⟩
  clear hx hy
  go_enter Try.func113, Try.ntmps113
  go_wp2
  (refine wp_region_mq (by kernel_rfl) (by kernel_rfl) ?_; (repeat (first | go_big_quiet_step ((first | (go_at_call 131; with_reducible exact quietS (ones_any x HX.out _) ) | (go_at_call 131; with_reducible exact quietS (ones_any y HY.out _) ))) | quiet_step ((first | (go_at_call 131; with_reducible exact quietS (ones_any x HX.out _) ) | (go_at_call 131; with_reducible exact quietS (ones_any y HY.out _) ))))); refine wpQuiet_nil ?_; intro _ hq_; obtain ⟨q_, rfl⟩ := hq_)
  go_wp2
  go_ret
  exact ⟨rfl, (by repeat' (first | (with_reducible first | assumption | exact Below.refl _ _ | refine Below.drew ?_ | refine Below.alloc ?_ ?_ _ | refine Below.setCell ?_ ?_ _ | refine below_setR ?_ ?_ _ | refine below_dn ?_ _ | refine Below.trans ?_ (below_mo _ _ _ ?_) | refine Below.trans ?_ (below_mq _ _ ?_) | exact Nat.le_refl _) | (simp; done) | (simp; omega) | omega))⟩
theorem and1 (N : Nat) (h : N < 18446744073709551616) : bits .and .u64 (N : Int) 1 = ((N % 2 : Nat) : Int) := by
  have h1 := and64 N 1 h (by omega)
  rw [Nat.and_one_is_mod] at h1
  exact h1
theorem pcI_step (N : Nat) : pcI N = ((N % 2 : Nat) : Int) + pcI ((N / 2 : Nat) : Int) := by
  unfold pcI
  rw [Int.toNat_natCast, Int.toNat_natCast, Pop.pcN_eq N]
  omega
theorem pcI_zero : pcI 0 = 0 := by
  unfold pcI
  rw [show (0 : Int).toNat = 0 from rfl, Pop.pcN_zero]; rfl
set_option maxHeartbeats 2000000 in
theorem l05Count_any (x y : Int) (hx : 0 ≤ x ∧ x < 18446744073709551616) (hy : 0 ≤ y ∧ y < 18446744073709551616) (w : World) : Calls Try.prog 112 #[.agg #[.int .u64 x, .int .u64 y]] w fun e w' => e = .returned (.int .i64 (cntM x y)) ∧ Below w.heap.size w w' := by
  have hX := pcI_bd hx
  have hY := pcI_bd hy
  obtain ⟨X, rfl⟩ : ∃ X : Nat, x = X := ⟨x.toNat, by omega⟩
  obtain ⟨Y, rfl⟩ : ∃ Y : Nat, y = Y := ⟨y.toNat, by omega⟩
  have hx1 : X < 18446744073709551616 := by omega
  have hy1 : Y < 18446744073709551616 := by omega
  clear hx hy
  go_enter Try.func112, Try.ntmps112
  go_wp2
  refine wp_loop_rounds 3 ?_
  rw [rounds_succ]
  go_wp2
  go_loopw [3, 5] (fun n b wr => ∃ N : Nat, N < 18446744073709551616 ∧ pcI N ≤ pcI X ∧ b = .int .u64 (N : Int) ∧ n = .int .i64 (pcI X - pcI N) ∧ wr = w.alloc (.cells #[.int .u64 (X : Int), .int .u64 (Y : Int)] 25)) (fun _ b _ => (intOf b).toNat)
  case atStart => exact ⟨X, hx1, Int.le_refl _, rfl, by rw [Int.sub_self], rfl⟩
  case round =>
    obtain ⟨N, hN, hp, rfl, rfl, rfl⟩ := hrel
    have hb := pcI_bd (x := (N : Int)) (by omega)
    by_cases h0 : N = 0
    · subst h0
      rw [show ((0 : Nat) : Int) = 0 from rfl, pcI_zero, Int.sub_zero]
      clear hb hp hN
      go_wp2
      rw [rounds_succ]
      go_wp2
      go_loopw [3, 5] (fun n b wr => ∃ N : Nat, N < 18446744073709551616 ∧ pcI N ≤ pcI Y ∧ b = .int .u64 (N : Int) ∧ n = .int .i64 ((pcI X + pcI Y) - pcI N) ∧ wr = w.alloc (.cells #[.int .u64 (X : Int), .int .u64 (Y : Int)] 25)) (fun _ b _ => (intOf b).toNat)
      case atStart => exact ⟨Y, hy1, Int.le_refl _, rfl, by rw [Int.add_sub_cancel], rfl⟩
      case round =>
        obtain ⟨N, hN, hp, rfl, rfl, rfl⟩ := hrel
        have hb := pcI_bd (x := (N : Int)) (by omega)
        by_cases h0 : N = 0
        · subst h0
          rw [show ((0 : Nat) : Int) = 0 from rfl, pcI_zero, Int.sub_zero]
          clear hb hp hN
          go_wp2
          rw [rounds_succ]
          go_wp2
          go_ret
          exact ⟨rfl, (by repeat' (first | (with_reducible first | assumption | exact Below.refl _ _ | refine Below.drew ?_ | refine Below.alloc ?_ ?_ _ | refine Below.setCell ?_ ?_ _ | refine below_setR ?_ ?_ _ | refine below_dn ?_ _ | refine Below.trans ?_ (below_mo _ _ _ ?_) | refine Below.trans ?_ (below_mq _ _ ?_) | exact Nat.le_refl _) | (simp; done) | (simp; omega) | omega))⟩
        · have h1 : ((N : Int) != 0) = true := by simp [bne]; omega
          have e1 := (and1 N hN).trans (by omega : ((N % 2 : Nat) : Int) = (N : Int) % 2)
          have e2 := pcI_step N
          have hb2 := pcI_bd (x := ((N / 2 : Nat) : Int)) (by omega)
          have e3 : ((N / 2 : Nat) : Int) = (N : Int) / 2 := by omega
          have E3 := Lib.hid e3
          have E2 : Hid ((pcI X + pcI Y) - pcI N + (N : Int) % 2 = (pcI X + pcI Y) - pcI ((N / 2 : Nat) : Int)) := by unfold Hid; omega
          have HP : Hid (pcI ((N / 2 : Nat) : Int) ≤ pcI Y) := by unfold Hid; omega
          clear e2 e3 hb2
          go_wp2
          exact ⟨⟨N / 2, by omega, HP.out, by rw [E3.out], by rw [E2.out], by first | rfl | trivial⟩, by simp [intOf]; omega⟩
    · have h1 : ((N : Int) != 0) = true := by simp [bne]; omega
      have e1 := (and1 N hN).trans (by omega : ((N % 2 : Nat) : Int) = (N : Int) % 2)
      have e2 := pcI_step N
      have hb2 := pcI_bd (x := ((N / 2 : Nat) : Int)) (by omega)
      have e3 : ((N / 2 : Nat) : Int) = (N : Int) / 2 := by omega
      have E3 := Lib.hid e3
      have E2 : Hid (pcI X - pcI N + (N : Int) % 2 = pcI X - pcI ((N / 2 : Nat) : Int)) := by unfold Hid; omega
      have HP : Hid (pcI ((N / 2 : Nat) : Int) ≤ pcI X) := by unfold Hid; omega
      clear e2 e3 hb2
      go_wp2
      exact ⟨⟨N / 2, by omega, HP.out, by rw [E3.out], by rw [E2.out], by first | rfl | trivial⟩, by simp [intOf]; omega⟩
set_option maxHeartbeats 2000000 in
theorem choices_any (p : Nat → Int) (hu : u16 p) (g n : Nat) (hn : n ≤ 8) (w : World) (hg : PhIn w g p) : Calls Try.prog 81 #[.pointer (some ⟨g, 0, none⟩), .int .i64 (n : Int)] w fun e w' => e = .returned (.int .i64 (chTo p n)) ∧ Below w.heap.size w w' := by
  have hg0 := hg.lt
  have HU := Lib.hid hu
  have HG := Lib.hid hg
  clear hu hg
  have n0 : (0 : Int) ≤ (n : Int) := by omega
  have n8 : (n : Int) ≤ 8 := by omega
  go_enter Try.func81, Try.ntmps81
  go_wp2
  go_loopw [5, 13] (fun t i wr => ∃ (k : Nat) (os : Array Obj) (d : Nat), k ≤ n ∧ i = .int .i64 k ∧ t = .int .i64 (chTo p k) ∧ wr = mo w os d) (fun _ i _ => n - (intOf i).toNat)
  case atStart => exact ⟨0, #[], _, Nat.zero_le _, rfl, rfl, (mo_nil _).symm⟩
  case round =>
    obtain ⟨k, os, d, hk, rfl, rfl, rfl⟩ := hrel
    by_cases hlt : k < n
    · obtain ⟨c0, c1⟩ := HG.out.at' k (by omega)
      obtain ⟨m0, m1⟩ := cntM_bd (HU.out (2 * k)) (HU.out (2 * k + 1))
      obtain ⟨s0, s1⟩ := chTo_small HU.out (k := k) (by omega)
      obtain ⟨s2, s3⟩ := chTo_small HU.out (k := k + 1) (by omega)
      have HS : Hid (chTo p k * cntM (p (2 * k)) (p (2 * k + 1)) = chTo p (k + 1)) := rfl
      rw [← HS.out] at s2 s3
      have g0 : (0 : Int) ≤ (k : Int) := by omega
      have g1 : (k : Int) < 8 := by omega
      go_wp2_with (go_at_call 113; refine (count_any _ _ (HU.out _) (HU.out _) _).mono ?_; rintro e w' ⟨rfl, hb_⟩; obtain ⟨os_, d_, rfl⟩ := mo_of hb_; clear hb_)
      exact ⟨⟨k + 1, _, _, by omega, by go_num, by rw [HS.out], by first | exact mo_mo _ _ _ _ _ | (simp only [mo_alloc, mo_mo]; rfl)⟩, by simp [intOf]; omega⟩
    · obtain rfl : k = n := by omega
      go_wp2
      go_ret
      exact ⟨rfl, (by repeat' (first | (with_reducible first | assumption | exact Below.refl _ _ | refine Below.drew ?_ | refine Below.alloc ?_ ?_ _ | refine Below.setCell ?_ ?_ _ | refine below_setR ?_ ?_ _ | refine below_dn ?_ _ | refine Below.trans ?_ (below_mo _ _ _ ?_) | refine Below.trans ?_ (below_mq _ _ ?_) | exact Nat.le_refl _) | (simp; done) | (simp; omega) | omega))⟩
set_option maxHeartbeats 2000000 in
theorem l05Choices_any (p : Nat → Int) (hu : u16 p) (g n : Nat) (hn : n ≤ 8) (w : World) (hg : PhIn w g p) : Calls Try.prog 80 #[.pointer (some ⟨g, 0, none⟩), .int .i64 (n : Int)] w fun e w' => e = .returned (.int .i64 (chTo p n)) ∧ Below w.heap.size w w' := by
  have hg0 := hg.lt
  have HU := Lib.hid hu
  have HG := Lib.hid hg
  clear hu hg
  have n0 : (0 : Int) ≤ (n : Int) := by omega
  have n8 : (n : Int) ≤ 8 := by omega
  go_enter Try.func80, Try.ntmps80
  go_wp2
  go_loopw [5, 6] (fun t i wr => ∃ (k : Nat) (os : Array Obj) (d : Nat), k ≤ n ∧ i = .int .i64 k ∧ t = .int .i64 (chTo p k) ∧ wr = mo w os d) (fun _ i _ => n - (intOf i).toNat)
  case atStart => exact ⟨0, #[], _, Nat.zero_le _, rfl, rfl, (mo_nil _).symm⟩
  case round =>
    obtain ⟨k, os, d, hk, rfl, rfl, rfl⟩ := hrel
    by_cases hlt : k < n
    · obtain ⟨c0, c1⟩ := HG.out.at' k (by omega)
      obtain ⟨m0, m1⟩ := cntM_bd (HU.out (2 * k)) (HU.out (2 * k + 1))
      obtain ⟨s0, s1⟩ := chTo_small HU.out (k := k) (by omega)
      obtain ⟨s2, s3⟩ := chTo_small HU.out (k := k + 1) (by omega)
      have HS : Hid (chTo p k * cntM (p (2 * k)) (p (2 * k + 1)) = chTo p (k + 1)) := rfl
      rw [← HS.out] at s2 s3
      have g0 : (0 : Int) ≤ (k : Int) := by omega
      have g1 : (k : Int) < 8 := by omega
      go_wp2_with (go_at_call 112; refine (l05Count_any _ _ (HU.out _) (HU.out _) _).mono ?_; rintro e w' ⟨rfl, hb_⟩; obtain ⟨os_, d_, rfl⟩ := mo_of hb_; clear hb_)
      exact ⟨⟨k + 1, _, _, by omega, by go_num, by rw [HS.out], by first | exact mo_mo _ _ _ _ _ | (simp only [mo_alloc, mo_mo]; rfl)⟩, by simp [intOf]; omega⟩
    · obtain rfl : k = n := by omega
      go_wp2
      go_ret
      exact ⟨rfl, (by repeat' (first | (with_reducible first | assumption | exact Below.refl _ _ | refine Below.drew ?_ | refine Below.alloc ?_ ?_ _ | refine Below.setCell ?_ ?_ _ | refine below_setR ?_ ?_ _ | refine below_dn ?_ _ | refine Below.trans ?_ (below_mo _ _ _ ?_) | refine Below.trans ?_ (below_mq _ _ ?_) | exact Nat.le_refl _) | (simp; done) | (simp; omega) | omega))⟩
/-- what ChoicesOf returns -/
def coV (xs : List Int) (p : Nat → Int) : Int × Int := if okP xs p then (chTo p xs.length, 0) else (0, 1)
theorem coV_1 {xs : List Int} {p : Nat → Int} (h : okP xs p = false) : coV xs p = (0, 1) := by unfold coV; rw [h]; rfl
theorem coV_2 {xs : List Int} {p : Nat → Int} (h : okP xs p = true) : coV xs p = (chTo p xs.length, 0) := by unfold coV; rw [h]; rfl
set_option maxHeartbeats 2000000 in
theorem implChoices_any {A : Option Addr} {xs : List Int} {W : World} {B : Nat} (hs : Nums .u8 W B A xs) (h8 : b8 xs) (n c : Nat) (hn : xs.length = n) (w : World) (hb : Below B W w) (p : Nat → Int) (hu : u16 p) : Calls Try.prog 33 #[.slice A n c, .agg (a16 p)] w fun e w' => e = .returned (.tuple #[.int .i64 (coV xs p).1, .int .i64 (coV xs p).2]) ∧ Below w.heap.size w w' := by
  obtain rfl := hn
  have hB := hs.bsz hb
  have hlen := hs.len
  cases h1 : okP xs p
  · have HR := Lib.hid (coV_1 h1)
    go_enter Try.func33, Try.ntmps33
    go_wp2_with (go_at_call 22; refine (implVP hs h8 _ _ rfl _ (by repeat' (first | (with_reducible first | assumption | exact Below.refl _ _ | refine Below.drew ?_ | refine Below.alloc ?_ ?_ _ | refine Below.setCell ?_ ?_ _ | refine below_setR ?_ ?_ _ | refine below_dn ?_ _ | refine Below.trans ?_ (below_mo _ _ _ ?_) | refine Below.trans ?_ (below_mq _ _ ?_) | exact Nat.le_refl _) | (simp; done) | (simp; omega) | omega)) _).mono ?_; rintro e w' ⟨rfl, hb_⟩; obtain ⟨os_, d_, rfl⟩ := mo_of hb_; clear hb_)
    go_returns
    exact ⟨(by first | (rw [HR.out]; done) | (rw [HR.out]; rfl)), (by repeat' (first | (with_reducible first | assumption | exact Below.refl _ _ | refine Below.drew ?_ | refine Below.alloc ?_ ?_ _ | refine Below.setCell ?_ ?_ _ | refine below_setR ?_ ?_ _ | refine below_dn ?_ _ | refine Below.trans ?_ (below_mo _ _ _ ?_) | refine Below.trans ?_ (below_mq _ _ ?_) | exact Nat.le_refl _) | (simp; done) | (simp; omega) | omega))⟩
  · have HR := Lib.hid (coV_2 h1)
    have hl8 := (okS_len (okP_S h1)).2
    have HU := Lib.hid hu
    clear hu
    go_enter Try.func33, Try.ntmps33
    go_wp2_with (first | (go_at_call 22; refine (implVP hs h8 _ _ rfl _ (by repeat' (first | (with_reducible first | assumption | exact Below.refl _ _ | refine Below.drew ?_ | refine Below.alloc ?_ ?_ _ | refine Below.setCell ?_ ?_ _ | refine below_setR ?_ ?_ _ | refine below_dn ?_ _ | refine Below.trans ?_ (below_mo _ _ _ ?_) | refine Below.trans ?_ (below_mq _ _ ?_) | exact Nat.le_refl _) | (simp; done) | (simp; omega) | omega)) _).mono ?_; rintro e w' ⟨rfl, hb_⟩; obtain ⟨os_, d_, rfl⟩ := mo_of hb_; clear hb_) | (go_at_call 81; refine (choices_any p HU.out w.heap.size xs.length hl8 _ (phIn_of (by repeat' (first | (with_reducible assumption) | (with_reducible refine heap_mo_at ?_) | (with_reducible refine heap_mq_at ?_) | (with_reducible refine heap_drew_at ?_) | ((with_reducible refine heap_alloc_at ?_); first | rfl | (simp; done)) | (with_reducible refine heap_alloc_past ?_) | ((with_reducible apply heap_set_at); (first | rfl | (simp; done))) | ((with_reducible apply heap_set_past); (first | (simp; done) | (simp; omega) | omega)) | ((with_reducible apply heap_setC_past); (first | (simp; done) | (simp; omega) | omega)) | fail)))).mono ?_; rintro e w' ⟨rfl, hb_⟩; obtain ⟨os_, d_, rfl⟩ := mo_of hb_; clear hb_))
    go_returns
    exact ⟨(by first | (rw [HR.out]; done) | (rw [HR.out]; rfl)), (by repeat' (first | (with_reducible first | assumption | exact Below.refl _ _ | refine Below.drew ?_ | refine Below.alloc ?_ ?_ _ | refine Below.setCell ?_ ?_ _ | refine below_setR ?_ ?_ _ | refine below_dn ?_ _ | refine Below.trans ?_ (below_mo _ _ _ ?_) | refine Below.trans ?_ (below_mq _ _ ?_) | exact Nat.le_refl _) | (simp; done) | (simp; omega) | omega))⟩
set_option maxHeartbeats 2000000 in
theorem specChoices_any {A : Option Addr} {xs : List Int} {W : World} {B : Nat} (hs : Nums .u8 W B A xs) (h8 : b8 xs) (n c : Nat) (hn : xs.length = n) (w : World) (hb : Below B W w) (p : Nat → Int) (hu : u16 p) : Calls Try.prog 32 #[.slice A n c, .agg (a16 p)] w fun e w' => e = .returned (.tuple #[.int .i64 (coV xs p).1, .int .i64 (coV xs p).2]) ∧ Below w.heap.size w w' := by
  obtain rfl := hn
  have hB := hs.bsz hb
  have hlen := hs.len
  cases h1 : okP xs p
  · have HR := Lib.hid (coV_1 h1)
    go_enter Try.func32, Try.ntmps32
    go_wp2_with (go_at_call 20; refine (specVP hs h8 _ _ rfl _ (by repeat' (first | (with_reducible first | assumption | exact Below.refl _ _ | refine Below.drew ?_ | refine Below.alloc ?_ ?_ _ | refine Below.setCell ?_ ?_ _ | refine below_setR ?_ ?_ _ | refine below_dn ?_ _ | refine Below.trans ?_ (below_mo _ _ _ ?_) | refine Below.trans ?_ (below_mq _ _ ?_) | exact Nat.le_refl _) | (simp; done) | (simp; omega) | omega)) _).mono ?_; rintro e w' ⟨rfl, hb_⟩; obtain ⟨os_, d_, rfl⟩ := mo_of hb_; clear hb_)
    go_returns
    exact ⟨(by first | (rw [HR.out]; done) | (rw [HR.out]; rfl)), (by repeat' (first | (with_reducible first | assumption | exact Below.refl _ _ | refine Below.drew ?_ | refine Below.alloc ?_ ?_ _ | refine Below.setCell ?_ ?_ _ | refine below_setR ?_ ?_ _ | refine below_dn ?_ _ | refine Below.trans ?_ (below_mo _ _ _ ?_) | refine Below.trans ?_ (below_mq _ _ ?_) | exact Nat.le_refl _) | (simp; done) | (simp; omega) | omega))⟩
  · have HR := Lib.hid (coV_2 h1)
    have hl8 := (okS_len (okP_S h1)).2
    have HU := Lib.hid hu
    clear hu
    go_enter Try.func32, Try.ntmps32
    go_wp2_with (first | (go_at_call 20; refine (specVP hs h8 _ _ rfl _ (by repeat' (first | (with_reducible first | assumption | exact Below.refl _ _ | refine Below.drew ?_ | refine Below.alloc ?_ ?_ _ | refine Below.setCell ?_ ?_ _ | refine below_setR ?_ ?_ _ | refine below_dn ?_ _ | refine Below.trans ?_ (below_mo _ _ _ ?_) | refine Below.trans ?_ (below_mq _ _ ?_) | exact Nat.le_refl _) | (simp; done) | (simp; omega) | omega)) _).mono ?_; rintro e w' ⟨rfl, hb_⟩; obtain ⟨os_, d_, rfl⟩ := mo_of hb_; clear hb_) | (go_at_call 80; refine (l05Choices_any p HU.out w.heap.size xs.length hl8 _ (phIn_of (by repeat' (first | (with_reducible assumption) | (with_reducible refine heap_mo_at ?_) | (with_reducible refine heap_mq_at ?_) | (with_reducible refine heap_drew_at ?_) | ((with_reducible refine heap_alloc_at ?_); first | rfl | (simp; done)) | (with_reducible refine heap_alloc_past ?_) | ((with_reducible apply heap_set_at); (first | rfl | (simp; done))) | ((with_reducible apply heap_set_past); (first | (simp; done) | (simp; omega) | omega)) | ((with_reducible apply heap_setC_past); (first | (simp; done) | (simp; omega) | omega)) | fail)))).mono ?_; rintro e w' ⟨rfl, hb_⟩; obtain ⟨os_, d_, rfl⟩ := mo_of hb_; clear hb_))
    go_returns
    exact ⟨(by first | (rw [HR.out]; done) | (rw [HR.out]; rfl)), (by repeat' (first | (with_reducible first | assumption | exact Below.refl _ _ | refine Below.drew ?_ | refine Below.alloc ?_ ?_ _ | refine Below.setCell ?_ ?_ _ | refine below_setR ?_ ?_ _ | refine below_dn ?_ _ | refine Below.trans ?_ (below_mo _ _ _ ?_) | refine Below.trans ?_ (below_mq _ _ ?_) | exact Nat.le_refl _) | (simp; done) | (simp; omega) | omega))⟩
end Go.Proofs.Ytdmnblmonndkmaa.X
