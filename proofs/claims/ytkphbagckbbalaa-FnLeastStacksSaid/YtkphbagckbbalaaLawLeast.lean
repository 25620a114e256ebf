/- The law FnLeastStacks, walked. Conditions: none. -/
import Derived.Test.YtkphbagckbbalaaKLsW
import Derived.Test.YtkphbagckbbalaaKP6
import Derived.Test.YtkphbagckbbalaaKMod
import Derived.Test.YtkphbagckbbalaaKOpen
namespace Go.Proofs.Ytkphbagckbbalaa.X
open Go.RowKit
set_option linter.unusedVariables false
set_option linter.unusedSimpArgs false
set_option maxRecDepth 100000
theorem shl_bd {r : Int} (hr : 0 ≤ r ∧ r < 28 ∧ r ≤ 65535) : 1 ≤ wrap64 ((2 : Int) ^ (2 + r).toNat) ∧ wrap64 ((2 : Int) ^ (2 + r).toNat) ≤ 2000000000000 := by
  obtain ⟨k, rfl⟩ := Int.eq_ofNat_of_zero_le hr.1
  have h0 : (2 + (k : Int)).toNat = 2 + k := by omega
  rw [h0]
  have h1 : ((2 : Int) ^ (2 + k)) = ((2 ^ (2 + k) : Nat) : Int) := by simp
  have h2 : 2 ^ (2 + k) ≤ 2 ^ 29 := Nat.pow_le_pow_right (by decide) (by omega)
  have h3 : 1 ≤ 2 ^ (2 + k) := Nat.one_le_two_pow
  rw [h1]
  have e : wrap64 ((2 ^ (2 + k) : Nat) : Int) = ((2 ^ (2 + k) : Nat) : Int) := IntWalk.wrap64_in _ ⟨by omega, by omega⟩
  rw [e]
  omega
theorem all_step (b : Int) {k : Nat} : pwI (b - 1) (k + 1) = pwI (b - 1) k * (b - 1) := rfl
set_option maxHeartbeats 16000000 in
theorem lawLeast (w : World) {A0 : Option Addr} {xs0 : List Int} (c0 : Nat) (hs0 : SL w w.heap.size 1 (fun x => [Value.int .u8 x]) A0 xs0) (hm0 : xs0.length ≤ maxLen) (h80 : b8 xs0) {A1 : Option Addr} {xs1 : List Int} (c1 : Nat) (hs1 : SL w w.heap.size 1 (fun x => [Value.int .u8 x]) A1 xs1) (hm1 : xs1.length ≤ maxLen) (h81 : b8 xs1) :
    Calls Try.prog 4 #[.slice A0 xs0.length c0, .slice A1 xs1.length c1] w fun e w' => e = .returned (.bool true) ∧ Below w.heap.size w w' := by
  by_cases l0 : xs0.length ≤ 4096
  case neg =>
    go_enter Try.func4, Try.ntmps4
    (go_wp2_with fail; refine (f6big_t _ _ l0 _).mono ?_; rintro e w' ⟨rfl, rfl⟩)
    go_wp2
    go_ret
    exact ⟨rfl, (by repeat' (first | (with_reducible first | assumption | exact Below.refl _ _ | refine Below.drew ?_ | refine Below.alloc ?_ ?_ _ | refine Below.setCell ?_ ?_ _ | refine below_setR ?_ ?_ _ | refine below_dn ?_ _ | refine Below.trans ?_ (below_mo _ _ _ ?_) | refine Below.trans ?_ (below_mq _ _ ?_) | exact Nat.le_refl _) | (simp; done) | (simp; omega) | omega))⟩
  by_cases l1 : xs1.length ≤ 4096
  case neg =>
    go_enter Try.func4, Try.ntmps4
    (go_wp2_with fail; refine (f6big_f _ _ l0 _).mono ?_; rintro e w' ⟨rfl, rfl⟩)
    (go_wp2_with fail; refine (f6big_t _ _ l1 _).mono ?_; rintro e w' ⟨rfl, rfl⟩)
    go_wp2
    go_ret
    exact ⟨rfl, (by repeat' (first | (with_reducible first | assumption | exact Below.refl _ _ | refine Below.drew ?_ | refine Below.alloc ?_ ?_ _ | refine Below.setCell ?_ ?_ _ | refine below_setR ?_ ?_ _ | refine below_dn ?_ _ | refine Below.trans ?_ (below_mo _ _ _ ?_) | refine Below.trans ?_ (below_mq _ _ ?_) | exact Nat.le_refl _) | (simp; done) | (simp; omega) | omega))⟩
  have ha0 : Nums .u8 w w.heap.size A0 xs0 := ⟨hs0, by omega, Nat.le_refl _⟩
  have ha1 : Nums .u8 w w.heap.size A1 xs1 := ⟨hs1, by omega, Nat.le_refl _⟩
  clear hs0 hs1 hm0 hm1
  go_enter Try.func4, Try.ntmps4
  (go_wp2_with fail; refine (f6big_f _ _ l0 _).mono ?_; rintro e w' ⟨rfl, rfl⟩)
  (go_wp2_with fail; refine (f6big_f _ _ l1 _).mono ?_; rintro e w' ⟨rfl, rfl⟩)
  (go_wp2_with fail; refine (P6Pick_lo ha1 h81 c1 _ (by repeat' (first | (with_reducible first | assumption | exact Below.refl _ _ | refine Below.drew ?_ | refine Below.alloc ?_ ?_ _ | refine Below.setCell ?_ ?_ _ | refine below_setR ?_ ?_ _ | refine below_dn ?_ _ | refine Below.trans ?_ (below_mo _ _ _ ?_) | refine Below.trans ?_ (below_mq _ _ ?_) | exact Nat.le_refl _) | (simp; done) | (simp; omega) | omega)) 28 (by omega)).mono ?_; rintro e w1 ⟨r, rfl, hr, hb1⟩)
  have hz1 := hb1.size
  (go_wp2_with fail; refine (P6Pick_lo ha0 h80 c0 _ (by repeat' (first | (with_reducible first | assumption | exact Below.refl _ _ | refine Below.drew ?_ | refine Below.alloc ?_ ?_ _ | refine Below.setCell ?_ ?_ _ | refine below_setR ?_ ?_ _ | refine below_dn ?_ _ | refine Below.trans ?_ (below_mo _ _ _ ?_) | refine Below.trans ?_ (below_mq _ _ ?_) | exact Nat.le_refl _) | (simp; done) | (simp; omega) | omega)) _ (shl_bd hr)).mono ?_; rintro e w2 ⟨r2, rfl, hr2, hb2⟩)
  obtain ⟨s, hs⟩ : ∃ s, s = 1 + r2 := ⟨_, rfl⟩
  have hs1 : 1 ≤ s ∧ s ≤ 65536 := by omega
  have e1 : IntKind.i64.wrap (1 + r2) = s := (IntWalk.i64_in _ ⟨by omega, by omega⟩).trans hs.symm
  have HSS := Lib.hid hs
  clear hs
  have hB2 : Below w.heap.size w w2 := below_step hb1 hb2 (Nat.le_refl _)
  have hz2 := hB2.size
  (go_wp2_with fail; refine (P6Pick_lo ha1 h81 c1 _ (by repeat' (first | (with_reducible first | assumption | exact Below.refl _ _ | refine Below.drew ?_ | refine Below.alloc ?_ ?_ _ | refine Below.setCell ?_ ?_ _ | refine below_setR ?_ ?_ _ | refine below_dn ?_ _ | refine Below.trans ?_ (below_mo _ _ _ ?_) | refine Below.trans ?_ (below_mq _ _ ?_) | exact Nat.le_refl _) | (simp; done) | (simp; omega) | omega)) 8 (by omega)).mono ?_; rintro e w3 ⟨r3, rfl, hr3, hb3⟩)
  obtain ⟨m, hm⟩ : ∃ m : Nat, (m : Int) = 1 + r3 := ⟨(1 + r3).toNat, by omega⟩
  have e2 : IntKind.i64.wrap (1 + r3) = (m : Int) := (IntWalk.i64_in _ ⟨by omega, by omega⟩).trans hm.symm
  have hB3 : Below w.heap.size w w3 := below_step hB2 hb3 (Nat.le_refl _)
  have hz3 := hB3.size
  have hm1 : 1 ≤ m ∧ m ≤ 8 := by omega
  clear hb1 hb2 hb3 hB2 hr hr2 hr3 hz1 hz2 hm HSS
  obtain ⟨b, hb⟩ := lsB_ex s m
  have hbd := hb.bd
  by_cases hb9 : b ≤ 100
  case neg =>
    obtain rfl : b = 101 := by omega
    have K1 := Lib.hid (fun W => implLeast_no hs1 hm1 hb W)
    have K2 := Lib.hid (fun W => specLeast_no hs1 hm1 hb W)
    (go_wp2_with fail; refine (K1.out _).mono ?_; rintro e w' ⟨rfl, hb_⟩; obtain ⟨os1, d1, rfl⟩ := mo_of hb_; clear hb_)
    (go_wp2_with fail; refine (K2.out _).mono ?_; rintro e w' ⟨g, rfl, hb_⟩; obtain ⟨os2, d2, rfl⟩ := mo_of hb_; clear hb_)
    have N0 : Nums .u8 w3 w3.heap.size none [] := ⟨fun h => absurd h (by simp), by simp, Nat.le_refl _⟩
    have N1 : Nums .u8 w3 w3.heap.size (some ⟨g, 0, none⟩) [] := ⟨fun h => absurd h (by simp), by simp, Nat.le_refl _⟩
    (go_wp2_with fail; refine (SameStack_ok N0 N1 0 0 0 rfl _ (by repeat' (first | (with_reducible first | assumption | exact Below.refl _ _ | refine Below.drew ?_ | refine Below.alloc ?_ ?_ _ | refine Below.setCell ?_ ?_ _ | refine below_setR ?_ ?_ _ | refine below_dn ?_ _ | refine Below.trans ?_ (below_mo _ _ _ ?_) | refine Below.trans ?_ (below_mq _ _ ?_) | exact Nat.le_refl _) | (simp; done) | (simp; omega) | omega)) (by repeat' (first | (with_reducible first | assumption | exact Below.refl _ _ | refine Below.drew ?_ | refine Below.alloc ?_ ?_ _ | refine Below.setCell ?_ ?_ _ | refine below_setR ?_ ?_ _ | refine below_dn ?_ _ | refine Below.trans ?_ (below_mo _ _ _ ?_) | refine Below.trans ?_ (below_mq _ _ ?_) | exact Nat.le_refl _) | (simp; done) | (simp; omega) | omega))).mono ?_; rintro e w' ⟨rfl, hb_⟩; obtain ⟨os3, d3, rfl⟩ := mo_of hb_; clear hb_)
    go_wp2
    go_ret
    exact ⟨rfl, (by repeat' (first | (with_reducible first | assumption | exact Below.refl _ _ | refine Below.drew ?_ | refine Below.alloc ?_ ?_ _ | refine Below.setCell ?_ ?_ _ | refine below_setR ?_ ?_ _ | refine below_dn ?_ _ | refine Below.trans ?_ (below_mo _ _ _ ?_) | refine Below.trans ?_ (below_mq _ _ ?_) | exact Nat.le_refl _) | (simp; done) | (simp; omega) | omega))⟩
  obtain ⟨l, hl⟩ := lsT_ex hm1.1 hb hb9
  have hld := hl.ld
  have ok := ls_ok hm1 hs1 hb hb9 (l := l) ⟨hld.1, hld.2⟩
  have hlen : (lsL b m l).length = m := lsL_len b hm1.1 l
  have h8 : b8 (lsL b m l) := b8_lsL (by omega) (by omega) m
  have K1 := Lib.hid (fun W => implLeast_yes hs1 hm1 hb hb9 hl W)
  have K2 := Lib.hid (fun W => specLeast_yes hs1 hm1 hb hb9 hl W)
  have hp := lsB_bd hm1 hs1 hb (c := b) ⟨hbd.1, Int.le_refl _⟩
  (go_wp2_with fail; refine (K1.out _).mono ?_; rintro e w4 ⟨v4, rfl, own4, hb4⟩)
  obtain ⟨A4, k4, rfl, N4⟩ := own_numsQ (ys := lsL b m l) (by rw [hlen]; exact own4) (by rw [hlen]; omega)
  have hz4 := hb4.size
  have hB4 : Below w.heap.size w w4 := below_step hB3 hb4 (Nat.le_refl _)
  rw [hlen]
  clear own4 hb4 hB3
  (go_wp2_with fail; refine (K2.out _).mono ?_; rintro e w5 ⟨v5, rfl, own5, hb5⟩)
  obtain ⟨A5, k5, rfl, N5⟩ := own_numsQ (ys := lsL b m l) (by rw [hlen]; exact own5) (by rw [hlen]; omega)
  have hz5 := hb5.size
  have hB5 : Below w.heap.size w w5 := below_step hB4 hb5 (Nat.le_refl _)
  have hB5' := hB5
  rw [hlen]
  clear own5 hB4 K1 K2
  have KS := Lib.hid (fun W (h4 : Below w4.heap.size w4 W) (h5 : Below w5.heap.size w5 W) => SameStack_ok N4 N5 m k4 k5 hlen W h4 h5)
  have KZ := Lib.hid (fun W (h5 : Below w5.heap.size w5 W) => implSizeOf_ok N5 h8 m k5 hlen W h5 ok.1)
  have KV := Lib.hid (fun W (h5 : Below w5.heap.size w5 W) => ValidStack_any N5 h8 m k5 hlen W h5)
  rw [ok.2.1] at KZ
  rw [ok.1] at KV
  (go_wp2_with fail; refine (KS.out _ hb5 (Below.refl _ _)).mono ?_; rintro e w' ⟨rfl, hb_⟩; clear hb5; obtain ⟨os6, d6, rfl⟩ := mo_of hb_; clear hb_)
  have hy := hl.yes
  have hno := hl.no
  have hPb := pwI_pos (b := b) (by omega) (m - 1)
  have hPm : pwI b (m - 1) * (l - 1) ≤ pwI b (m - 1) * l := Int.mul_le_mul_of_nonneg_left (by omega) (by omega)
  have hP0 : 0 ≤ pwI b (m - 1) * (l - 1) := Int.mul_nonneg (by omega) (by omega)
  have hno' : 2 < l → pwI b (m - 1) * (l - 1) < s := fun h => hno (l - 1) (by omega) (by omega)
  have elast : el (lsL b m l) ((m - 1 : Nat) : Int) = l := lsL_hi b l
  obtain ⟨b0, hb0⟩ : ∃ b0, b0 = el (lsL b m l) 0 := ⟨_, rfl⟩
  have hb0c : (m = 1 ∧ b0 = l) ∨ (2 ≤ m ∧ b0 = b) := by
    by_cases h1 : m = 1
    · left
      subst h1
      exact ⟨rfl, by rw [hb0]; exact elast⟩
    · right
      exact ⟨by omega, by rw [hb0]; exact lsL_lo b l (k := 0) (by omega)⟩
  have HEL := Lib.hid (fun (k : Nat) (hk : k < m - 1) => (show el (lsL b m l) (k : Int) = b0 by rw [lsL_lo b l hk]; omega))
  have HPW := Lib.hid (fun (k : Nat) (hk : k ≤ m) => (show 1 ≤ pwI (b0 - 1) k ∧ pwI (b0 - 1) k ≤ 16777216 by
    have a1 := pwI_pos (b := b0 - 1) (by omega) k
    have a2 := pwI_le (b := b0 - 1) (by omega) hk
    have a3 := pwI_mono (b := b0 - 1) (c := b) (by omega) (by omega) m
    omega))
  have HFIN : Hid (m = 1 ∨ b0 = 2 ∨ pwI (b0 - 1) m < s) := by
    show _ ∨ _
    rcases hb0c with ⟨h, _⟩ | ⟨_, h⟩
    · exact .inl h
    · by_cases h2 : b0 = 2
      · exact .inr (.inl h2)
      · exact .inr (.inr (by rw [h]; exact hb.no (b - 1) (by omega) (by omega)))
  have hb0b : 2 ≤ b0 ∧ b0 ≤ 100 := by omega
  obtain ⟨P, hP⟩ : ∃ P, P = pwI b (m - 1) := ⟨_, rfl⟩
  rw [← hP] at ok KZ hy hPb hPm hP0 hno'
  have ediv : (P * l).tdiv l = P := by
    rw [Int.tdiv_eq_ediv_of_nonneg (by omega), Int.mul_ediv_cancel _ (by omega)]
  have hPle : P ≤ P * l := by have := Int.mul_le_mul_of_nonneg_left (show 1 ≤ l by omega) (show 0 ≤ P by omega); omega
  obtain ⟨n, hn⟩ : ∃ n, n = P * l := ⟨_, rfl⟩
  rw [← hn] at ok KZ hy hPm ediv hPle
  have hok := ok.2.2
  obtain ⟨Q, hQ⟩ : ∃ Q, Q = P * (l - 1) := ⟨_, rfl⟩
  rw [← hQ] at hPm hP0 hno'
  have eQ : IntKind.i64.wrap (P * (l - 1)) = Q := by rw [← hQ]; exact IntWalk.i64_in _ ⟨by omega, by omega⟩
  have hns : ¬ n < s := by omega
  have em : IntKind.i64.wrap ((m : Int) - 1) = ((m - 1 : Nat) : Int) := (IntWalk.i64_in _ ⟨by omega, by omega⟩).trans (by omega)
  have el1 : IntKind.i64.wrap l = l := IntWalk.i64_in _ ⟨by omega, by omega⟩
  have el2 : IntKind.i64.wrap (l - 1) = l - 1 := IntWalk.i64_in _ ⟨by omega, by omega⟩
  have eP : IntKind.i64.wrap P = P := IntWalk.i64_in _ ⟨by omega, by omega⟩
  have ez : ¬ l = 0 := by omega
  have ez2 : (l == 0) = false := beq_eq_false_iff_ne.2 ez
  have eb1 : IntKind.i64.wrap b0 = b0 := IntWalk.i64_in _ ⟨by omega, by omega⟩
  have eb2 : IntKind.i64.wrap (b0 - 1) = b0 - 1 := IntWalk.i64_in _ ⟨by omega, by omega⟩
  obtain ⟨g5, o5, ea, hg5, x5⟩ := N5.at (w := w5) (Below.refl _ _) (k := m - 1) (by omega)
  obtain ⟨g5', o5', ea', _, x6⟩ := N5.at (w := w5) (Below.refl _ _) (k := 0) (by omega)
  rw [ea] at ea'
  obtain ⟨rfl, rfl⟩ := addr_same ea'
  rw [elast] at x5
  rw [show el (lsL b m l) ((0 : Nat) : Int) = b0 from hb0.symm, Nat.add_zero] at x6
  have HAT := Lib.hid (fun (k : Nat) (hk : k < m - 1) => (show w5.cell? ⟨g5, o5 + k, none⟩ = some (.int .u8 b0) by
    obtain ⟨g, o, e, _, x⟩ := N5.at (w := w5) (Below.refl _ _) (k := k) (by omega)
    rw [ea] at e
    obtain ⟨rfl, rfl⟩ := addr_same e
    rw [HEL.out k hk] at x
    exact x))
  have i0 : (0 : Int) ≤ ((m - 1 : Nat) : Int) := by omega
  have i1 : ((m - 1 : Nat) : Int) < (m : Int) := by omega
  have i2 : m - 1 < m := by omega
  have i3 : 0 < m := by omega
  have i4 : (0 : Int) < (m : Int) := by omega
  have HKV := Lib.hid KV.out
  clear KS KV HEL ea' hno hPb hb0 hb0c hP hn hQ ok elast hp hb hl hld h8 hy hPm hP0 hok hPle hB5
  have hB5 : Below w.heap.size w w5 := hB5'
  rw [ea] at KZ HKV ⊢
  clear ea N5 N4
  (go_wp2_with fail; refine (KZ.out _ (by repeat' (first | (with_reducible first | assumption | exact Below.refl _ _ | refine Below.drew ?_ | refine Below.alloc ?_ ?_ _ | refine Below.setCell ?_ ?_ _ | refine below_setR ?_ ?_ _ | refine below_dn ?_ _ | refine Below.trans ?_ (below_mo _ _ _ ?_) | refine Below.trans ?_ (below_mq _ _ ?_) | exact Nat.le_refl _) | (simp; done) | (simp; omega) | omega))).mono ?_; rintro e w' ⟨rfl, rfl⟩)
  (go_wp2_with fail; refine (HKV.out _ (by repeat' (first | (with_reducible first | assumption | exact Below.refl _ _ | refine Below.drew ?_ | refine Below.alloc ?_ ?_ _ | refine Below.setCell ?_ ?_ _ | refine below_setR ?_ ?_ _ | refine below_dn ?_ _ | refine Below.trans ?_ (below_mo _ _ _ ?_) | refine Below.trans ?_ (below_mq _ _ ?_) | exact Nat.le_refl _) | (simp; done) | (simp; omega) | omega))).mono ?_; rintro e w' ⟨rfl, rfl⟩)
  by_cases g2 : 2 < l
  · have hq1 : ¬ s ≤ Q := by have := hno' g2; omega
    clear hno'
    go_wp2
    go_loop [15, 16] (fun a i => ∃ k : Nat, k ≤ m ∧ a = .int .i64 (pwI (b0 - 1) k) ∧ i = .int .i64 (k : Int)) (fun _ i => m - (intOf i).toNat)
    case atStart => exact ⟨0, Nat.zero_le _, rfl, rfl⟩
    case round =>
      obtain ⟨k, hk, rfl, rfl⟩ := hrel
      by_cases hlt : k < m
      · have j0 : (0 : Int) ≤ (k : Int) := by omega
        have j1 : (k : Int) < (m : Int) := by omega
        have e3 : IntKind.i64.wrap ((k : Int) + 1) = (k : Int) + 1 := IntWalk.i64_in _ ⟨by omega, by omega⟩
        obtain ⟨p0, p1⟩ := HPW.out (k + 1) (by omega)
        have HE : Hid (pwI (b0 - 1) (k + 1) = pwI (b0 - 1) k * (b0 - 1)) := rfl
        have e4 : IntKind.i64.wrap (pwI (b0 - 1) k * (b0 - 1)) = pwI (b0 - 1) (k + 1) := by rw [← HE.out]; exact IntWalk.i64_in _ ⟨by omega, by omega⟩
        by_cases hk1 : k < m - 1
        · have xk := HAT.out k hk1
          have j2 : (k : Int) < ((m - 1 : Nat) : Int) := by omega
          go_wp2
          exact ⟨⟨k + 1, by omega, rfl, by go_num⟩, by simp [intOf]; omega⟩
        · have j2 : ¬ (k : Int) < ((m - 1 : Nat) : Int) := by omega
          go_wp2
          exact ⟨⟨k + 1, by omega, rfl, by go_num⟩, by simp [intOf]; omega⟩
      · obtain rfl : k = m := by omega
        have hfin := HFIN.out
        by_cases f1 : k = 1
        · have f2 : ((k : Int) == 1) = true := by rw [f1]; rfl
          have f3 : (k : Int) = 1 := by omega
          clear hfin
          go_wp2
          go_ret
          exact ⟨by first | rfl | (simp; done) | (simp; omega), (by repeat' (first | (with_reducible first | assumption | exact Below.refl _ _ | refine Below.drew ?_ | refine Below.alloc ?_ ?_ _ | refine Below.setCell ?_ ?_ _ | refine below_setR ?_ ?_ _ | refine below_dn ?_ _ | refine Below.trans ?_ (below_mo _ _ _ ?_) | refine Below.trans ?_ (below_mq _ _ ?_) | exact Nat.le_refl _) | (simp; done) | (simp; omega) | omega))⟩
        · have f2 : ((k : Int) == 1) = false := beq_eq_false_iff_ne.2 (by omega)
          have f3 : ¬ (k : Int) = 1 := by omega
          by_cases f4 : b0 = 2
          · have f5 : (b0 == 2) = true := by rw [f4]; rfl
            clear hfin
            go_wp2
            go_ret
            exact ⟨by first | rfl | (simp; done) | (simp; omega), (by repeat' (first | (with_reducible first | assumption | exact Below.refl _ _ | refine Below.drew ?_ | refine Below.alloc ?_ ?_ _ | refine Below.setCell ?_ ?_ _ | refine below_setR ?_ ?_ _ | refine below_dn ?_ _ | refine Below.trans ?_ (below_mo _ _ _ ?_) | refine Below.trans ?_ (below_mq _ _ ?_) | exact Nat.le_refl _) | (simp; done) | (simp; omega) | omega))⟩
          · have f5 : (b0 == 2) = false := beq_eq_false_iff_ne.2 f4
            have f6 : pwI (b0 - 1) k < s := by omega
            clear hfin
            go_wp2
            go_ret
            exact ⟨by first | rfl | (simp; done) | (simp; omega), (by repeat' (first | (with_reducible first | assumption | exact Below.refl _ _ | refine Below.drew ?_ | refine Below.alloc ?_ ?_ _ | refine Below.setCell ?_ ?_ _ | refine below_setR ?_ ?_ _ | refine below_dn ?_ _ | refine Below.trans ?_ (below_mo _ _ _ ?_) | refine Below.trans ?_ (below_mq _ _ ?_) | exact Nat.le_refl _) | (simp; done) | (simp; omega) | omega))⟩
  · clear hno'
    go_wp2
    go_loop [15, 16] (fun a i => ∃ k : Nat, k ≤ m ∧ a = .int .i64 (pwI (b0 - 1) k) ∧ i = .int .i64 (k : Int)) (fun _ i => m - (intOf i).toNat)
    case atStart => exact ⟨0, Nat.zero_le _, rfl, rfl⟩
    case round =>
      obtain ⟨k, hk, rfl, rfl⟩ := hrel
      by_cases hlt : k < m
      · have j0 : (0 : Int) ≤ (k : Int) := by omega
        have j1 : (k : Int) < (m : Int) := by omega
        have e3 : IntKind.i64.wrap ((k : Int) + 1) = (k : Int) + 1 := IntWalk.i64_in _ ⟨by omega, by omega⟩
        obtain ⟨p0, p1⟩ := HPW.out (k + 1) (by omega)
        have HE : Hid (pwI (b0 - 1) (k + 1) = pwI (b0 - 1) k * (b0 - 1)) := rfl
        have e4 : IntKind.i64.wrap (pwI (b0 - 1) k * (b0 - 1)) = pwI (b0 - 1) (k + 1) := by rw [← HE.out]; exact IntWalk.i64_in _ ⟨by omega, by omega⟩
        by_cases hk1 : k < m - 1
        · have xk := HAT.out k hk1
          have j2 : (k : Int) < ((m - 1 : Nat) : Int) := by omega
          go_wp2
          exact ⟨⟨k + 1, by omega, rfl, by go_num⟩, by simp [intOf]; omega⟩
        · have j2 : ¬ (k : Int) < ((m - 1 : Nat) : Int) := by omega
          go_wp2
          exact ⟨⟨k + 1, by omega, rfl, by go_num⟩, by simp [intOf]; omega⟩
      · obtain rfl : k = m := by omega
        have hfin := HFIN.out
        by_cases f1 : k = 1
        · have f2 : ((k : Int) == 1) = true := by rw [f1]; rfl
          have f3 : (k : Int) = 1 := by omega
          clear hfin
          go_wp2
          go_ret
          exact ⟨by first | rfl | (simp; done) | (simp; omega), (by repeat' (first | (with_reducible first | assumption | exact Below.refl _ _ | refine Below.drew ?_ | refine Below.alloc ?_ ?_ _ | refine Below.setCell ?_ ?_ _ | refine below_setR ?_ ?_ _ | refine below_dn ?_ _ | refine Below.trans ?_ (below_mo _ _ _ ?_) | refine Below.trans ?_ (below_mq _ _ ?_) | exact Nat.le_refl _) | (simp; done) | (simp; omega) | omega))⟩
        · have f2 : ((k : Int) == 1) = false := beq_eq_false_iff_ne.2 (by omega)
          have f3 : ¬ (k : Int) = 1 := by omega
          by_cases f4 : b0 = 2
          · have f5 : (b0 == 2) = true := by rw [f4]; rfl
            clear hfin
            go_wp2
            go_ret
            exact ⟨by first | rfl | (simp; done) | (simp; omega), (by repeat' (first | (with_reducible first | assumption | exact Below.refl _ _ | refine Below.drew ?_ | refine Below.alloc ?_ ?_ _ | refine Below.setCell ?_ ?_ _ | refine below_setR ?_ ?_ _ | refine below_dn ?_ _ | refine Below.trans ?_ (below_mo _ _ _ ?_) | refine Below.trans ?_ (below_mq _ _ ?_) | exact Nat.le_refl _) | (simp; done) | (simp; omega) | omega))⟩
          · have f5 : (b0 == 2) = false := beq_eq_false_iff_ne.2 f4
            have f6 : pwI (b0 - 1) k < s := by omega
            clear hfin
            go_wp2
            go_ret
            exact ⟨by first | rfl | (simp; done) | (simp; omega), (by repeat' (first | (with_reducible first | assumption | exact Below.refl _ _ | refine Below.drew ?_ | refine Below.alloc ?_ ?_ _ | refine Below.setCell ?_ ?_ _ | refine below_setR ?_ ?_ _ | refine below_dn ?_ _ | refine Below.trans ?_ (below_mo _ _ _ ?_) | refine Below.trans ?_ (below_mq _ _ ?_) | exact Nat.le_refl _) | (simp; done) | (simp; omega) | omega))⟩
end Go.Proofs.Ytkphbagckbbalaa.X
