/- The law FnMeters, walked. Conditions: none. -/
import Derived.Test.YtbihgnmiocfelaaKDrawM
import Derived.Test.YtbihgnmiocfelaaKFlows3
import Derived.Test.YtbihgnmiocfelaaKAt
import Derived.Test.YtbihgnmiocfelaaKOpen
namespace Go.Proofs.Ytbihgnmiocfelaa.X
open Go.RowKit
set_option linter.unusedVariables false
set_option linter.unusedSimpArgs false
set_option maxRecDepth 100000
theorem sizeOfM_any {A : Option Addr} {xs : List Int} {W : World} {B : Nat} (hs : Nums .u8 W B A xs) (h8 : b8 xs) (n c : Nat) (hn : xs.length = n) (w : World) (hb : Below B W w) (hk : okS xs = true) : Calls Try.prog 38 #[.slice A n c] w fun e w' => e = .returned (.tuple #[.int .i64 (sizeTo xs n), .int .i64 0]) ∧ w = w' := by
  have HK := Lib.hid hk
  go_enter Try.func38, Try.ntmps38
  (go_wp2_with fail; refine (l01Ok_any hs h8 _ _ hn _ hb).mono ?_; rintro e w' ⟨rfl, rfl⟩; rw [HK.out])
  (go_wp2_with fail; refine (l01Size_any hs h8 _ _ hn _ hb).mono ?_; rintro e w' ⟨rfl, rfl⟩)
  go_wp2
  go_returns
  exact ⟨rfl, rfl⟩
theorem mo_mo3 (w : World) (a c e : Array Obj) (b d f : Nat) : mo (mo (mo w a b) c d) e f = mo w (a ++ c ++ e) f := by rw [mo_mo, mo_mo, Array.append_assoc]
theorem mul_bdM {a b A B : Int} (ha : 0 ≤ a ∧ a ≤ A) (hb : 0 ≤ b ∧ b ≤ B) : 0 ≤ a * b ∧ a * b ≤ A * B :=
  ⟨Int.mul_nonneg ha.1 hb.1, Int.mul_le_mul ha.2 hb.2 hb.1 (Int.le_trans ha.1 ha.2)⟩
/-- the round at an edge: the flow x behind it shows something else -/
def Other (v r v' r' : Int) : Prop := (v' ≠ v) ∨ (v' = v ∧ r' ≠ r)
theorem other_of {v r v' r' : Int} (h : ¬ (v' = v ∧ r' = r)) : Other v r v' r' := by
  by_cases a : v' = v
  · exact .inr ⟨a, fun b => h ⟨a, b⟩⟩
  · exact .inl a
set_option maxHeartbeats 16000000 in
theorem lawMeters (w : World) {A0 : Option Addr} {xs0 : List Int} (c0 : Nat) (hs0 : SL w w.heap.size 1 (fun x => [Value.int .u8 x]) A0 xs0) (hm0 : xs0.length ≤ maxLen) (h80 : b8 xs0) {A1 : Option Addr} {xs1 : List Int} (c1 : Nat) (hs1 : SL w w.heap.size 1 (fun x => [Value.int .u8 x]) A1 xs1) (hm1 : xs1.length ≤ maxLen) (h81 : b8 xs1) :
    Calls Try.prog 9 #[.slice A0 xs0.length c0, .slice A1 xs1.length c1] w fun e w' => e = .returned (.bool true) ∧ Below w.heap.size w w' := by
  by_cases hl : ¬ (xs0.length ≤ 3000 ∧ xs1.length ≤ 3000)
  · go_enter Try.func9, Try.ntmps9
    go_wp2_with (go_at_call 15; refine (a2Long_big _ _ _ _ hl _).mono ?_; rintro e w' ⟨rfl, rfl⟩)
    go_ret
    exact ⟨rfl, (by repeat' (first | (with_reducible first | assumption | exact Below.refl _ _ | refine Below.drew ?_ | refine Below.alloc ?_ ?_ _ | refine Below.setCell ?_ ?_ _ | refine below_setR ?_ ?_ _ | refine below_dn ?_ _ | refine Below.trans ?_ (below_mo _ _ _ ?_) | refine Below.trans ?_ (below_mq _ _ ?_) | exact Nat.le_refl _) | (simp; done) | (simp; omega) | omega))⟩
  obtain ⟨l0, l1⟩ : xs0.length ≤ 3000 ∧ xs1.length ≤ 3000 := by omega
  have ha0 : Nums .u8 w w.heap.size A0 xs0 := ⟨hs0, by omega, Nat.le_refl _⟩
  have ha1 : Nums .u8 w w.heap.size A1 xs1 := ⟨hs1, by omega, Nat.le_refl _⟩
  clear hs0 hs1 hm0 hm1 hl
  have bm := at2_bd xs1 0 256 (by omega)
  have A10 := Lib.hid (fun W (hW : Below w.heap.size w W) => a2At_any ha1 h81 _ c1 rfl W hW 0 256 (by omega) (by omega))
  obtain ⟨z1, hz1⟩ : ∃ z, z = at2 xs1 0 256 := ⟨_, rfl⟩
  rw [← hz1] at A10 bm
  obtain ⟨F, hF⟩ : ∃ F, F = 5 * z1 := ⟨_, rfl⟩
  have bF : 0 ≤ F ∧ F ≤ 1275 := by omega
  have e1 : IntKind.i64.wrap (5 * z1) = F := (IntWalk.i64_in _ ⟨by omega, by omega⟩).trans hF.symm
  clear hF hz1 bm
  go_enter Try.func9, Try.ntmps9
  (go_wp2_with fail; refine (a2Long_ok _ _ _ _ l0 l1 _).mono ?_; rintro e w' ⟨rfl, rfl⟩)
  (go_wp2_with fail; refine (A2Meter_any ha0 h80 c0 _ (by repeat' (first | (with_reducible first | assumption | exact Below.refl _ _ | refine Below.drew ?_ | refine Below.alloc ?_ ?_ _ | refine Below.setCell ?_ ?_ _ | refine below_setR ?_ ?_ _ | refine below_dn ?_ _ | refine Below.trans ?_ (below_mo _ _ _ ?_) | refine Below.trans ?_ (below_mq _ _ ?_) | exact Nat.le_refl _) | (simp; done) | (simp; omega) | omega))).mono ?_; rintro e w1 ⟨ys, A, c, p, q, s, rfl, hM, N, hb1⟩)
  have hz1 := hb1.size
  obtain ⟨k1, h8, k3, k4⟩ := hM.stk
  have bp := hM.p0
  have bq := hM.q0
  have bs := hM.s0
  have E := edges bp bq bF
  have HM := Lib.hid hM
  obtain ⟨Z, hZ⟩ : ∃ Z, Z = szS ys := ⟨_, rfl⟩
  have KS := Lib.hid (fun W (hW : Below w1.heap.size w1 W) => sizeOfM_any N h8 _ c rfl W hW k1)
  rw [k4, ← hZ] at KS
  rw [← hZ] at k3 bs
  obtain ⟨ct, hct⟩ : ∃ ct, ct = F * p / q := ⟨_, rfl⟩
  rw [← hct] at E
  obtain ⟨lo, hlo⟩ : ∃ lo, lo = fLo p q ct := ⟨_, rfl⟩
  obtain ⟨hi, hhi⟩ : ∃ hi, hi = fHi p q ct := ⟨_, rfl⟩
  rw [← hlo, ← hhi] at E
  obtain ⟨v, hv⟩ : ∃ v, v = (s + ct) % Z := ⟨_, rfl⟩
  obtain ⟨r, hr⟩ : ∃ r, r = (s + ct) / Z := ⟨_, rfl⟩
  have KSH : ∀ x, 0 ≤ x → x ≤ 1000000 → shV ys p q s x = ((s + x * p / q) % Z, (s + x * p / q) / Z, 0) := fun x h0 h1 => by rw [hZ]; exact hM.sh ⟨h0, by omega⟩
  have KI : Hid (∀ x v' r', 0 ≤ x → x ≤ 1000000 → (s + x * p / q) % Z = v' → (s + x * p / q) / Z = r' → ∀ W, Below w1.heap.size w1 W → Calls Try.prog 54 #[.agg #[.slice A ys.length c, .int .i64 p, .int .i64 q, .int .i64 s], .int .i64 x] W fun e w' => e = .returned (.tuple #[.int .i64 v', .int .i64 r', .int .i64 0]) ∧ Below W.heap.size W w') := fun x v' r' h0 h1 e1 e2 W hW => by
    have := implShowsAfter_any N h8 c p q s W hW x
    rw [KSH x h0 h1] at this
    rw [← e1, ← e2]
    exact this
  have K6 : Hid (∀ W, Below w1.heap.size w1 W → Calls Try.prog 53 #[.agg #[.slice A ys.length c, .int .i64 p, .int .i64 q, .int .i64 s], .int .i64 F] W fun e w' => e = .returned (.tuple #[.int .i64 ct, .int .i64 0]) ∧ Below W.heap.size W w') := fun W hW => by
    have := implCountAfter_any N h8 c p q s W hW F
    rw [hM.cnt ⟨bF.1, by omega⟩, ← hct] at this
    exact this
  have K7 := Lib.hid (KI.out F v r bF.1 (by omega) (by rw [← hct, hv]) (by rw [← hct, hr]))
  have K8 : Hid (∀ W, Below w1.heap.size w1 W → Calls Try.prog 55 #[.agg #[.slice A ys.length c, .int .i64 p, .int .i64 q, .int .i64 s], .int .i64 F] W fun e w' => e = .returned (.tuple #[.int .i64 v, .int .i64 r, .int .i64 0]) ∧ Below W.heap.size W w') := fun W hW => by
    have := specShowsAfter_any N h8 c p q s W hW F
    rw [KSH F bF.1 (by omega), ← hct, ← hv, ← hr] at this
    exact this
  have hfl := hM.fl bF
  rw [← hct, ← hZ, ← hv, ← hr, ← hlo, ← hhi] at hfl
  have K9 : Hid (∀ W, Below w1.heap.size w1 W → Calls Try.prog 56 #[.agg #[.slice A ys.length c, .int .i64 p, .int .i64 q, .int .i64 s], .int .i64 r, .int .i64 v] W fun e w' => e = .returned (.tuple #[.int .i64 lo, .int .i64 hi, .int .i64 0]) ∧ Below W.heap.size W w') := fun W hW => by
    have := implFlowsFor_any N h8 c p q s W hW r v
    rw [hfl] at this
    exact this
  have K10 : Hid (∀ W, Below w1.heap.size w1 W → Calls Try.prog 57 #[.agg #[.slice A ys.length c, .int .i64 p, .int .i64 q, .int .i64 s], .int .i64 r, .int .i64 v] W fun e w' => e = .returned (.tuple #[.int .i64 lo, .int .i64 hi, .int .i64 0]) ∧ Below W.heap.size W w') := fun W hW => by
    have := specFlowsFor_any N h8 c p q s W hW r v
    rw [hfl] at this
    exact this
  have K11 : Hid (∀ W, Below w1.heap.size w1 W → Calls Try.prog 58 #[.agg #[.slice A ys.length c, .int .i64 p, .int .i64 q, .int .i64 s]] W fun e w' => e = .returned (.bool true) ∧ Below W.heap.size W w') := fun W hW => by
    have := ValidMeter_any N h8 c p q s W hW
    rw [hM.okm] at this
    exact this
  have c0' := E.c0
  have el := E.l0
  have eh := E.h0
  have m1 := E.m1
  have m2 := E.m2
  have KL := Lib.hid (KI.out lo v r el.1 (by omega) (by rw [E.lc, hv]) (by rw [E.lc, hr]))
  have KH := Lib.hid (KI.out hi v r (by omega) (by omega) (by rw [E.hc, hv]) (by rw [E.hc, hr]))
  have z0 : 0 < Z := by omega
  have KL1 : Hid (1 ≤ lo → ∃ v' r', Other v r v' r' ∧ ∀ W, Below w1.heap.size w1 W → Calls Try.prog 54 #[.agg #[.slice A ys.length c, .int .i64 p, .int .i64 q, .int .i64 s], .int .i64 (lo - 1)] W fun e w' => e = .returned (.tuple #[.int .i64 v', .int .i64 r', .int .i64 0]) ∧ Below W.heap.size W w') := fun h =>
    ⟨_, _, other_of (by rw [hv, hr]; exact sh_ne z0 (by have := E.ld h; omega)), KI.out (lo - 1) _ _ (by omega) (by omega) rfl rfl⟩
  have KH1 : Hid (∃ v' r', Other v r v' r' ∧ ∀ W, Below w1.heap.size w1 W → Calls Try.prog 54 #[.agg #[.slice A ys.length c, .int .i64 p, .int .i64 q, .int .i64 s], .int .i64 (hi + 1)] W fun e w' => e = .returned (.tuple #[.int .i64 v', .int .i64 r', .int .i64 0]) ∧ Below W.heap.size W w') :=
    ⟨_, _, other_of (by rw [hv, hr]; exact sh_ne z0 (by have := E.hd; omega)), KI.out (hi + 1) _ _ (by omega) (by omega) rfl rfl⟩
  have dm := Int.mul_ediv_add_emod (s + ct) Z
  rw [Int.mul_comm, ← hr, ← hv] at dm
  have rr0 := Int.ediv_nonneg (show 0 ≤ s + ct by omega) (show 0 ≤ Z by omega)
  have vv0 := Int.emod_nonneg (s + ct) (show Z ≠ 0 by omega)
  have vv1 := Int.emod_lt_of_pos (s + ct) z0
  rw [← hr] at rr0
  rw [← hv] at vv0 vv1
  have n1 := mul_bdM (show 0 ≤ ct ∧ ct ≤ 11475 by omega) (show 0 ≤ q ∧ q ≤ 9 by omega)
  have n2 := mul_bdM (show 0 ≤ F ∧ F ≤ 1275 by omega) (show 0 ≤ p ∧ p ≤ 9 by omega)
  have n3 := mul_bdM (show 0 ≤ ct + 1 ∧ ct + 1 ≤ 11476 by omega) (show 0 ≤ q ∧ q ≤ 9 by omega)
  have f1 : IntKind.i64.wrap (ct * q) = ct * q := IntWalk.i64_in _ ⟨by omega, by omega⟩
  have f2 : IntKind.i64.wrap (F * p) = F * p := IntWalk.i64_in _ ⟨by omega, by omega⟩
  have f3 : ¬ F * p < ct * q := by omega
  have f4 : IntKind.i64.wrap (ct + 1) = ct + 1 := IntWalk.i64_in _ ⟨by omega, by omega⟩
  have f5 : IntKind.i64.wrap ((ct + 1) * q) = (ct + 1) * q := IntWalk.i64_in _ ⟨by omega, by omega⟩
  have f6 : ¬ (ct + 1) * q ≤ F * p := by omega
  have f7 : IntKind.i64.wrap (r * Z) = r * Z := IntWalk.i64_in _ ⟨by omega, by omega⟩
  have f8 : IntKind.i64.wrap (r * Z + v) = s + ct := (IntWalk.i64_in _ ⟨by omega, by omega⟩).trans (by omega)
  have f9 : IntKind.i64.wrap (s + ct) = s + ct := IntWalk.i64_in _ ⟨by omega, by omega⟩
  have f10 : ¬ F < lo := by omega
  have f11 : ¬ hi < F := by omega
  have BL : 0 ≤ lo ∧ lo ≤ 100000 := by omega
  have BH : 0 ≤ hi ∧ hi ≤ 200000 := by omega
  clear E c0' el eh m1 m2 dm rr0 vv0 vv1 n1 n2 n3 hfl KSH KI hv hr hlo hhi hct hZ bs bp bq hM k1 k3 k4 z0
  (go_wp2_with fail; refine (A10.out _ (by repeat' (first | (with_reducible first | assumption | exact Below.refl _ _ | refine Below.drew ?_ | refine Below.alloc ?_ ?_ _ | refine Below.setCell ?_ ?_ _ | refine below_setR ?_ ?_ _ | refine below_dn ?_ _ | refine Below.trans ?_ (below_mo _ _ _ ?_) | refine Below.trans ?_ (below_mq _ _ ?_) | exact Nat.le_refl _) | (simp; done) | (simp; omega) | omega))).mono ?_; rintro e w' ⟨rfl, rfl⟩)
  (go_wp2_with fail; refine (KS.out _ (by repeat' (first | (with_reducible first | assumption | exact Below.refl _ _ | refine Below.drew ?_ | refine Below.alloc ?_ ?_ _ | refine Below.setCell ?_ ?_ _ | refine below_setR ?_ ?_ _ | refine below_dn ?_ _ | refine Below.trans ?_ (below_mo _ _ _ ?_) | refine Below.trans ?_ (below_mq _ _ ?_) | exact Nat.le_refl _) | (simp; done) | (simp; omega) | omega))).mono ?_; rintro e w' ⟨rfl, rfl⟩)
  (go_wp2_with fail; refine (K6.out _ (by repeat' (first | (with_reducible first | assumption | exact Below.refl _ _ | refine Below.drew ?_ | refine Below.alloc ?_ ?_ _ | refine Below.setCell ?_ ?_ _ | refine below_setR ?_ ?_ _ | refine below_dn ?_ _ | refine Below.trans ?_ (below_mo _ _ _ ?_) | refine Below.trans ?_ (below_mq _ _ ?_) | exact Nat.le_refl _) | (simp; done) | (simp; omega) | omega))).mono ?_; rintro e w' ⟨rfl, hb_⟩; obtain ⟨os2, d2, rfl⟩ := mo_of hb_; clear hb_)
  (go_wp2_with fail; refine (K7.out _ (by repeat' (first | (with_reducible first | assumption | exact Below.refl _ _ | refine Below.drew ?_ | refine Below.alloc ?_ ?_ _ | refine Below.setCell ?_ ?_ _ | refine below_setR ?_ ?_ _ | refine below_dn ?_ _ | refine Below.trans ?_ (below_mo _ _ _ ?_) | refine Below.trans ?_ (below_mq _ _ ?_) | exact Nat.le_refl _) | (simp; done) | (simp; omega) | omega))).mono ?_; rintro e w' ⟨rfl, hb_⟩; obtain ⟨os3, d3, rfl⟩ := mo_of hb_; clear hb_)
  (go_wp2_with fail; refine (K8.out _ (by repeat' (first | (with_reducible first | assumption | exact Below.refl _ _ | refine Below.drew ?_ | refine Below.alloc ?_ ?_ _ | refine Below.setCell ?_ ?_ _ | refine below_setR ?_ ?_ _ | refine below_dn ?_ _ | refine Below.trans ?_ (below_mo _ _ _ ?_) | refine Below.trans ?_ (below_mq _ _ ?_) | exact Nat.le_refl _) | (simp; done) | (simp; omega) | omega))).mono ?_; rintro e w' ⟨rfl, hb_⟩; obtain ⟨os4, d4, rfl⟩ := mo_of hb_; clear hb_)
  (go_wp2_with fail; refine (K9.out _ (by repeat' (first | (with_reducible first | assumption | exact Below.refl _ _ | refine Below.drew ?_ | refine Below.alloc ?_ ?_ _ | refine Below.setCell ?_ ?_ _ | refine below_setR ?_ ?_ _ | refine below_dn ?_ _ | refine Below.trans ?_ (below_mo _ _ _ ?_) | refine Below.trans ?_ (below_mq _ _ ?_) | exact Nat.le_refl _) | (simp; done) | (simp; omega) | omega))).mono ?_; rintro e w' ⟨rfl, hb_⟩; obtain ⟨os5, d5, rfl⟩ := mo_of hb_; clear hb_)
  (go_wp2_with fail; refine (K10.out _ (by repeat' (first | (with_reducible first | assumption | exact Below.refl _ _ | refine Below.drew ?_ | refine Below.alloc ?_ ?_ _ | refine Below.setCell ?_ ?_ _ | refine below_setR ?_ ?_ _ | refine below_dn ?_ _ | refine Below.trans ?_ (below_mo _ _ _ ?_) | refine Below.trans ?_ (below_mq _ _ ?_) | exact Nat.le_refl _) | (simp; done) | (simp; omega) | omega))).mono ?_; rintro e w' ⟨rfl, hb_⟩; obtain ⟨os6, d6, rfl⟩ := mo_of hb_; clear hb_)
  (go_wp2_with fail; refine (K11.out _ (by repeat' (first | (with_reducible first | assumption | exact Below.refl _ _ | refine Below.drew ?_ | refine Below.alloc ?_ ?_ _ | refine Below.setCell ?_ ?_ _ | refine below_setR ?_ ?_ _ | refine below_dn ?_ _ | refine Below.trans ?_ (below_mo _ _ _ ?_) | refine Below.trans ?_ (below_mq _ _ ?_) | exact Nat.le_refl _) | (simp; done) | (simp; omega) | omega))).mono ?_; rintro e w' ⟨rfl, hb_⟩; obtain ⟨os7, d7, rfl⟩ := mo_of hb_; clear hb_)
  go_wp2
  refine wp_at (fun u => ∃ (os : Array Obj) (dn : Nat), u = mo (w1.alloc (.cells #[.slice A ys.length c, .int .i64 p, .int .i64 q, .int .i64 s] 82)) os dn) _ (mo_of (by repeat' (first | (with_reducible first | assumption | exact Below.refl _ _ | refine Below.drew ?_ | refine Below.alloc ?_ ?_ _ | refine Below.setCell ?_ ?_ _ | refine below_setR ?_ ?_ _ | refine below_dn ?_ _ | refine Below.trans ?_ (below_mo _ _ _ ?_) | refine Below.trans ?_ (below_mq _ _ ?_) | exact Nat.le_refl _) | (simp; done) | (simp; omega) | omega))) ?_
  rintro _ ⟨osX, dnX, rfl⟩
  go_loopw [23] (fun a wr => ∃ (j : Int) (os : Array Obj) (dn : Nat), (j = -1 ∨ j = 1 ∨ j = 3) ∧ a = .int .i64 j ∧ wr = mo (w1.alloc (.cells #[.slice A ys.length c, .int .i64 p, .int .i64 q, .int .i64 s] 82)) os dn) (fun a _ => (3 - intOf a).toNat)
  case atStart => exact ⟨-1, osX, dnX, .inl rfl, rfl, rfl⟩
  case round =>
    obtain ⟨j, os, dn, hj, rfl, rfl⟩ := hrel
    clear e1 f1 f2 f3 f4 f5 f6 f7 f8 f9 f10 f11 K6 K7 K8 K9 K10 K11 KS A10
    rcases hj with rfl | rfl | rfl
    · by_cases h0 : lo = 0
      · subst h0
        (go_wp2_with fail; refine (KL.out _ (by repeat' (first | (with_reducible first | assumption | exact Below.refl _ _ | refine Below.drew ?_ | refine Below.alloc ?_ ?_ _ | refine Below.setCell ?_ ?_ _ | refine below_setR ?_ ?_ _ | refine below_dn ?_ _ | refine Below.trans ?_ (below_mo _ _ _ ?_) | refine Below.trans ?_ (below_mq _ _ ?_) | exact Nat.le_refl _) | (simp; done) | (simp; omega) | omega))).mono ?_; rintro e w' ⟨rfl, hb_⟩; obtain ⟨os8, d8, rfl⟩ := mo_of hb_; clear hb_)
        go_wp2
        exact ⟨⟨1, _, _, .inr (.inl rfl), rfl, mo_mo _ _ _ _ _⟩, by simp [intOf]⟩
      · have i0 : IntKind.i64.wrap (lo + -1) = lo - 1 := (IntWalk.i64_in _ ⟨by omega, by omega⟩).trans (by omega)
        have i1 : ¬ lo - 1 < 0 := by omega
        have i2 : ¬ (1000000000000 : Int) < lo - 1 := by omega
        obtain ⟨v', r', ho, hk⟩ := KL1.out (by omega)
        have HK := Lib.hid hk
        clear hk
        rcases ho with ho | ⟨rfl, ho⟩
        · have o1 : (v' == v) = false := beq_eq_false_iff_ne.2 ho
          (go_wp2_with fail; refine (KL.out _ (by repeat' (first | (with_reducible first | assumption | exact Below.refl _ _ | refine Below.drew ?_ | refine Below.alloc ?_ ?_ _ | refine Below.setCell ?_ ?_ _ | refine below_setR ?_ ?_ _ | refine below_dn ?_ _ | refine Below.trans ?_ (below_mo _ _ _ ?_) | refine Below.trans ?_ (below_mq _ _ ?_) | exact Nat.le_refl _) | (simp; done) | (simp; omega) | omega))).mono ?_; rintro e w' ⟨rfl, hb_⟩; obtain ⟨os8, d8, rfl⟩ := mo_of hb_; clear hb_)
          (go_wp2_with fail; refine (HK.out _ (by repeat' (first | (with_reducible first | assumption | exact Below.refl _ _ | refine Below.drew ?_ | refine Below.alloc ?_ ?_ _ | refine Below.setCell ?_ ?_ _ | refine below_setR ?_ ?_ _ | refine below_dn ?_ _ | refine Below.trans ?_ (below_mo _ _ _ ?_) | refine Below.trans ?_ (below_mq _ _ ?_) | exact Nat.le_refl _) | (simp; done) | (simp; omega) | omega))).mono ?_; rintro e w' ⟨rfl, hb_⟩; obtain ⟨os9, d9, rfl⟩ := mo_of hb_; clear hb_)
          go_wp2
          exact ⟨⟨1, _, _, .inr (.inl rfl), rfl, mo_mo3 _ _ _ _ _ _ _⟩, by simp [intOf]⟩
        · have o1 : (r' == r) = false := beq_eq_false_iff_ne.2 ho
          (go_wp2_with fail; refine (KL.out _ (by repeat' (first | (with_reducible first | assumption | exact Below.refl _ _ | refine Below.drew ?_ | refine Below.alloc ?_ ?_ _ | refine Below.setCell ?_ ?_ _ | refine below_setR ?_ ?_ _ | refine below_dn ?_ _ | refine Below.trans ?_ (below_mo _ _ _ ?_) | refine Below.trans ?_ (below_mq _ _ ?_) | exact Nat.le_refl _) | (simp; done) | (simp; omega) | omega))).mono ?_; rintro e w' ⟨rfl, hb_⟩; obtain ⟨os8, d8, rfl⟩ := mo_of hb_; clear hb_)
          (go_wp2_with fail; refine (HK.out _ (by repeat' (first | (with_reducible first | assumption | exact Below.refl _ _ | refine Below.drew ?_ | refine Below.alloc ?_ ?_ _ | refine Below.setCell ?_ ?_ _ | refine below_setR ?_ ?_ _ | refine below_dn ?_ _ | refine Below.trans ?_ (below_mo _ _ _ ?_) | refine Below.trans ?_ (below_mq _ _ ?_) | exact Nat.le_refl _) | (simp; done) | (simp; omega) | omega))).mono ?_; rintro e w' ⟨rfl, hb_⟩; obtain ⟨os9, d9, rfl⟩ := mo_of hb_; clear hb_)
          go_wp2
          exact ⟨⟨1, _, _, .inr (.inl rfl), rfl, mo_mo3 _ _ _ _ _ _ _⟩, by simp [intOf]⟩
    · have i0 : IntKind.i64.wrap (hi + 1) = hi + 1 := IntWalk.i64_in _ ⟨by omega, by omega⟩
      have i1 : ¬ hi + 1 < 0 := by omega
      have i2 : ¬ (1000000000000 : Int) < hi + 1 := by omega
      obtain ⟨v', r', ho, hk⟩ := KH1.out
      have HK := Lib.hid hk
      clear hk
      rcases ho with ho | ⟨rfl, ho⟩
      · have o1 : (v' == v) = false := beq_eq_false_iff_ne.2 ho
        (go_wp2_with fail; refine (KH.out _ (by repeat' (first | (with_reducible first | assumption | exact Below.refl _ _ | refine Below.drew ?_ | refine Below.alloc ?_ ?_ _ | refine Below.setCell ?_ ?_ _ | refine below_setR ?_ ?_ _ | refine below_dn ?_ _ | refine Below.trans ?_ (below_mo _ _ _ ?_) | refine Below.trans ?_ (below_mq _ _ ?_) | exact Nat.le_refl _) | (simp; done) | (simp; omega) | omega))).mono ?_; rintro e w' ⟨rfl, hb_⟩; obtain ⟨os8, d8, rfl⟩ := mo_of hb_; clear hb_)
        (go_wp2_with fail; refine (HK.out _ (by repeat' (first | (with_reducible first | assumption | exact Below.refl _ _ | refine Below.drew ?_ | refine Below.alloc ?_ ?_ _ | refine Below.setCell ?_ ?_ _ | refine below_setR ?_ ?_ _ | refine below_dn ?_ _ | refine Below.trans ?_ (below_mo _ _ _ ?_) | refine Below.trans ?_ (below_mq _ _ ?_) | exact Nat.le_refl _) | (simp; done) | (simp; omega) | omega))).mono ?_; rintro e w' ⟨rfl, hb_⟩; obtain ⟨os9, d9, rfl⟩ := mo_of hb_; clear hb_)
        go_wp2
        exact ⟨⟨3, _, _, .inr (.inr rfl), rfl, mo_mo3 _ _ _ _ _ _ _⟩, by simp [intOf]⟩
      · have o1 : (r' == r) = false := beq_eq_false_iff_ne.2 ho
        (go_wp2_with fail; refine (KH.out _ (by repeat' (first | (with_reducible first | assumption | exact Below.refl _ _ | refine Below.drew ?_ | refine Below.alloc ?_ ?_ _ | refine Below.setCell ?_ ?_ _ | refine below_setR ?_ ?_ _ | refine below_dn ?_ _ | refine Below.trans ?_ (below_mo _ _ _ ?_) | refine Below.trans ?_ (below_mq _ _ ?_) | exact Nat.le_refl _) | (simp; done) | (simp; omega) | omega))).mono ?_; rintro e w' ⟨rfl, hb_⟩; obtain ⟨os8, d8, rfl⟩ := mo_of hb_; clear hb_)
        (go_wp2_with fail; refine (HK.out _ (by repeat' (first | (with_reducible first | assumption | exact Below.refl _ _ | refine Below.drew ?_ | refine Below.alloc ?_ ?_ _ | refine Below.setCell ?_ ?_ _ | refine below_setR ?_ ?_ _ | refine below_dn ?_ _ | refine Below.trans ?_ (below_mo _ _ _ ?_) | refine Below.trans ?_ (below_mq _ _ ?_) | exact Nat.le_refl _) | (simp; done) | (simp; omega) | omega))).mono ?_; rintro e w' ⟨rfl, hb_⟩; obtain ⟨os9, d9, rfl⟩ := mo_of hb_; clear hb_)
        go_wp2
        exact ⟨⟨3, _, _, .inr (.inr rfl), rfl, mo_mo3 _ _ _ _ _ _ _⟩, by simp [intOf]⟩
    · go_wp2
      go_ret
      exact ⟨rfl, (by repeat' (first | (with_reducible first | assumption | exact Below.refl _ _ | refine Below.drew ?_ | refine Below.alloc ?_ ?_ _ | refine Below.setCell ?_ ?_ _ | refine below_setR ?_ ?_ _ | refine below_dn ?_ _ | refine Below.trans ?_ (below_mo _ _ _ ?_) | refine Below.trans ?_ (below_mq _ _ ?_) | exact Nat.le_refl _) | (simp; done) | (simp; omega) | omega))⟩
end Go.Proofs.Ytbihgnmiocfelaa.X
