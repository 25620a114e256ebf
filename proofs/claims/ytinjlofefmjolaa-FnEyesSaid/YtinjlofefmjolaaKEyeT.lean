/- Turns as the laws draw them. Conditions: none. -/
import Derived.Test.YtinjlofefmjolaaKEyeA
namespace Go.Proofs.Ytinjlofefmjolaa.X
open Go.RowKit
set_option linter.unusedVariables false
set_option linter.unusedSimpArgs false
set_option maxRecDepth 100000
theorem tmod_bdT (a : Int) {b : Int} (hb : 0 < b) : -b < a.tmod b ∧ a.tmod b < b := by
  by_cases h : 0 ≤ a
  · rw [Int.tmod_eq_emod_of_nonneg h]
    have := Int.emod_nonneg a (show b ≠ 0 by omega)
    have := Int.emod_lt_of_pos a hb
    omega
  · obtain ⟨m, rfl⟩ : ∃ m, a = -m := ⟨-a, by omega⟩
    rw [tmod_n (by omega)]
    have := Int.emod_nonneg m (show b ≠ 0 by omega)
    have := Int.emod_lt_of_pos m hb
    omega
theorem mul_bdT {a b : Int} {A B : Int} (ha : 0 ≤ a ∧ a ≤ A) (hb : 0 ≤ b ∧ b ≤ B) : 0 ≤ a * b ∧ a * b ≤ A * B :=
  ⟨Int.mul_nonneg ha.1 hb.1, Int.mul_le_mul ha.2 hb.2 hb.1 (Int.le_trans ha.1 ha.2)⟩
theorem pow_bdT {k : Nat} (hk : k ≤ 3) : (1000 : Int) * 100 ^ k ≤ 1000000000 := by
  rcases (show k = 0 ∨ k = 1 ∨ k = 2 ∨ k = 3 by omega) with rfl | rfl | rfl | rfl <;> decide
theorem turned_cells (w : World) (t : TypeId) {S : Int} (hS : 0 ≤ S ∧ S ≤ 1000000000000000) : ∀ i : Nat, i < 4 → ∃ v : Int, (w.alloc (.cells #[.int .i64 (-1), .int .i64 0, .int .i64 (S - 1), .int .i64 S] t)).cell? ⟨w.heap.size, i, none⟩ = some (.int .i64 v) ∧ -1000000000000000 ≤ v ∧ v ≤ 1000000000000000 := by
  intro i hi
  rcases (show i = 0 ∨ i = 1 ∨ i = 2 ∨ i = 3 by omega) with rfl | rfl | rfl | rfl
  all_goals exact ⟨_, by simp [go_sem]; rfl, by omega, by omega⟩
/-- a turn is drawn: any number of bounded size -/
def TurnedR (gs : Nat) (w : World) (e : Ending) (w' : World) : Prop := ∃ v : Int, e = .returned (.int .i64 v) ∧ (-1000000000000000 ≤ v ∧ v ≤ 1000000000000000) ∧ Below gs w w'
set_option maxHeartbeats 4000000 in
theorem l02Turned_any {A : Option Addr} {xs : List Int} {W : World} {B : Nat} (hs : Nums .u8 W B A xs) (h8 : b8 xs) (c : Nat) {L : Option Addr} {js : List (Int × Int)} {V : World} {C : Nat} (hl : Prs .i8 .i16 V C L js) (hj : j8 js) (cl : Nat) (w : World) (hb : Below B W w) (hv : Below C V w) (g : Nat) (k0 : w.cell? ⟨g, 0, none⟩ = some (.slice A xs.length c)) (k1 : w.cell? ⟨g, 1, none⟩ = some (.slice L js.length cl)) {Z : Option Addr} {zs : List Int} {U : World} {D : Nat} (hz : Nums .u8 U D Z zs) (z8 : b8 zs) (cz : Nat) (hu : Below D U w) (gs : Nat) (hD : D ≤ gs) (hgB : B ≤ gs) (hgC : C ≤ gs) (hgg : g < gs) (src : SrcB w gs Z zs.length cz 0) (hk : okO xs js = true) (hbas : bases xs) (hl4 : 1 ≤ xs.length ∧ xs.length ≤ 4) : Calls Try.prog 64 #[.pointer (some ⟨gs, 0, none⟩), .pointer (some ⟨g, 0, none⟩)] w (TurnedR gs w) := by
  have hB := hs.bsz hb
  have hC := hl.bsz hv
  have hDz := hz.bsz hu
  have hgz := src.ltQ
  have hg : g < w.heap.size := block_lt_of_cell k0
  have HK := Lib.hid hk
  have HS := Lib.hid (okO_parts hk).1
  have HBas := Lib.hid hbas
  have hsz := szS_bd HS.out
  obtain ⟨n, hnn⟩ : ∃ n, xs.length = n + 1 := ⟨xs.length - 1, by omega⟩
  have KO := Lib.hid (fun W' h1 h2 g k0 k1 => l02Ok_any hs h8 c hl hj cl W' h1 h2 g k0 k1)
  rw [HK.out] at KO
  have KS := Lib.hid (fun W' h1 h2 g k0 k1 => l02Span_any hs h8 c hl hj cl W' h1 h2 g k0 k1 HS.out)
  obtain ⟨S, hS⟩ : ∃ S, szS xs * 1000 = S := ⟨_, rfl⟩
  rw [hS] at KS
  have hS1 : 2000 ≤ S ∧ S ≤ 1000000000000000 := by omega
  have s0 : ¬ S = 0 := by omega
  have s1 : (S == 0) = false := beq_eq_false_iff_ne.2 s0
  have e0 : IntKind.i64.wrap (S - 1) = S - 1 := IntWalk.i64_in _ ⟨by omega, by omega⟩
  have hSp : 0 < S := by omega
  clear hk hbas hsz hS
  go_enter Try.func64, Try.ntmps64
  (go_wp2_with fail; refine (KO.out _ (by repeat' (first | (with_reducible first | assumption | exact Below.refl _ _ | refine Below.drew ?_ | refine Below.alloc ?_ ?_ _ | refine Below.setCell ?_ ?_ _ | refine below_setR ?_ ?_ _ | refine below_dn ?_ _ | refine Below.trans ?_ (below_mo _ _ _ ?_) | refine Below.trans ?_ (below_mq _ _ ?_) | exact Nat.le_refl _) | (simp; done) | (simp; omega) | omega)) (by repeat' (first | (with_reducible first | assumption | exact Below.refl _ _ | refine Below.drew ?_ | refine Below.alloc ?_ ?_ _ | refine Below.setCell ?_ ?_ _ | refine below_setR ?_ ?_ _ | refine below_dn ?_ _ | refine Below.trans ?_ (below_mo _ _ _ ?_) | refine Below.trans ?_ (below_mq _ _ ?_) | exact Nat.le_refl _) | (simp; done) | (simp; omega) | omega)) _ (by first | assumption | (simp [go_sem]; done) | (simp [go_sem, *]; done) | (simp [go_sem]; rfl)) (by first | assumption | (simp [go_sem]; done) | (simp [go_sem, *]; done) | (simp [go_sem]; rfl))).mono ?_; rintro e w' ⟨rfl, hb_⟩; obtain ⟨os0, d0, rfl⟩ := mo_of hb_; clear hb_)
  (go_wp2_with fail; refine (KS.out _ (by repeat' (first | (with_reducible first | assumption | exact Below.refl _ _ | refine Below.drew ?_ | refine Below.alloc ?_ ?_ _ | refine Below.setCell ?_ ?_ _ | refine below_setR ?_ ?_ _ | refine below_dn ?_ _ | refine Below.trans ?_ (below_mo _ _ _ ?_) | refine Below.trans ?_ (below_mq _ _ ?_) | exact Nat.le_refl _) | (simp; done) | (simp; omega) | omega)) (by repeat' (first | (with_reducible first | assumption | exact Below.refl _ _ | refine Below.drew ?_ | refine Below.alloc ?_ ?_ _ | refine Below.setCell ?_ ?_ _ | refine below_setR ?_ ?_ _ | refine below_dn ?_ _ | refine Below.trans ?_ (below_mo _ _ _ ?_) | refine Below.trans ?_ (below_mq _ _ ?_) | exact Nat.le_refl _) | (simp; done) | (simp; omega) | omega)) _ (by first | assumption | (simp [go_sem]; done) | (simp [go_sem, *]; done) | (simp [go_sem]; rfl)) (by first | assumption | (simp [go_sem]; done) | (simp [go_sem, *]; done) | (simp [go_sem]; rfl))).mono ?_; rintro e w' ⟨rfl, rfl⟩)
  have src0 := src.keep (w' := mo w os0 d0) (B := w.heap.size) (below_mo _ _ _ (Nat.le_refl _)) hgz
  have HSRC := Lib.hid src0
  (go_wp2_with fail; refine (pick_any hz z8 cz _ (hu.trans (below_mo _ _ _ (by omega))) gs 0 hD (by omega) (by exact HSRC.out) 8 (by omega)).mono ?_; rintro e w1 ⟨r, rfl, hr, src1, ch1⟩)
  have hb1 : Below gs w w1 := ch1.below (below_mo _ _ _ (by omega)) (by simp; omega) (fun k hk => by omega)
  have hz1 := hb1.size
  clear src src0 HSRC ch1
  have q0 := (hb1.cell (p := ⟨g, 0, none⟩) hgg).trans k0
  have q1 := (hb1.cell (p := ⟨g, 1, none⟩) hgg).trans k1
  have hb2 : Below B W w1 := hb.trans (hb1.mono hgB)
  have hv2 : Below C V w1 := hv.trans (hb1.mono hgC)
  have hu2 : Below D U w1 := hu.trans (hb1.mono hD)
  clear k0 k1
  by_cases c0 : r = 0
  · subst c0
    (go_wp2_with fail; refine (amongP_any (fun v => -1000000000000000 ≤ v ∧ v ≤ 1000000000000000) hz z8 cz _ (by repeat' (first | (with_reducible first | assumption | exact Below.refl _ _ | refine Below.drew ?_ | refine Below.alloc ?_ ?_ _ | refine Below.setCell ?_ ?_ _ | refine below_setR ?_ ?_ _ | refine below_dn ?_ _ | refine Below.trans ?_ (below_mo _ _ _ ?_) | refine Below.trans ?_ (below_mq _ _ ?_) | exact Nat.le_refl _) | (simp; done) | (simp; omega) | omega)) gs 2 hD (by omega) (src1.keep (Below.alloc (Below.refl _ _) (Nat.le_refl _) _) (by have := src1.ltQ; omega)) (q := w1.heap.size) (n := 4) (by omega) (by have := src1.ltQ; omega) (turned_cells w1 _ ⟨by omega, by omega⟩)).mono ?_; rintro e w2 ⟨v, rfl, hv3, src2, ch2⟩)
    go_wp2
    go_ret
    exact ⟨v, rfl, hv3, ch2.below (Below.alloc hb1 (by have := src1.ltQ; omega) _) (by simp; have := src1.ltQ; omega) (fun k hk => by omega)⟩
  · have b0 : (r == 0) = false := beq_eq_false_iff_ne.2 c0
    by_cases c1 : r ≤ 3
    · have hl1 : 0 < xs.length := by omega
      rcases (show r = 1 ∨ r = 2 ∨ r = 3 by omega) with rfl | rfl | rfl
      all_goals
        clear b0 c0 c1
        go_wp2
        go_loopw [6, 7] (fun p i wr => ∃ (k : Nat) (P : Int), k + 1 ≤ xs.length ∧ (0 ≤ P ∧ P ≤ 1000 * 100 ^ k) ∧ p = .int .i64 P ∧ i = .int .i64 (k : Int) ∧ wr = w1) (fun _ i _ => xs.length - (intOf i).toNat)
        case atStart => exact ⟨0, 1000, hl1, ⟨by decide, by decide⟩, rfl, rfl, rfl⟩
        case round =>
          obtain ⟨k, P, hk, hP, rfl, rfl, rfl⟩ := hrel
          have e1 : IntKind.i64.wrap ((xs.length : Int) - 1) = (n : Int) := (IntWalk.i64_in _ ⟨by omega, by omega⟩).trans (by omega)
          have hpw := pow_bdT (k := k) (by omega)
          by_cases hlt : k < n
          · obtain ⟨b, off, rfl, hbs, hcc⟩ := hs.at hb2 (k := k) (by omega)
            have he := bases_el HBas.out (j := k) (by omega)
            have g0 : (0 : Int) ≤ (k : Int) := by omega
            have g1 : (k : Int) < (n : Int) := by omega
            have g2 : (k : Int) < (xs.length : Int) := by omega
            have hm := mul_bdT hP (show 0 ≤ el xs (k : Int) ∧ el xs (k : Int) ≤ 100 by omega)
            have e2 : IntKind.i64.wrap (el xs (k : Int)) = el xs (k : Int) := IntWalk.i64_in _ ⟨by omega, by omega⟩
            have e3 : IntKind.i64.wrap (P * el xs (k : Int)) = P * el xs (k : Int) := IntWalk.i64_in _ ⟨by omega, by omega⟩
            go_wp2
            exact ⟨⟨k + 1, _, by omega, ⟨hm.1, by rw [Int.pow_succ, ← Int.mul_assoc]; exact hm.2⟩, rfl, by go_num, by trivial⟩, by simp [intOf]; omega⟩
          · obtain rfl : k = n := by omega
            obtain ⟨b, off, rfl, hbs, hcc⟩ := hs.at hb2 (k := k) (by omega)
            have he := bases_el HBas.out (j := k) (by omega)
            have g0 : (0 : Int) ≤ (k : Int) := by omega
            have g1 : ¬ (k : Int) < (k : Int) := by omega
            have g2 : (k : Int) < (xs.length : Int) := by omega
            have e2 : IntKind.i64.wrap (el xs (k : Int)) = el xs (k : Int) := IntWalk.i64_in _ ⟨by omega, by omega⟩
            have HSRC : Hid (SrcB wr.drew gs Z zs.length cz 2) := Lib.hid src1
            have hb1d : Below gs w wr.drew := Below.drew hb1
            have h1d : gs ≤ wr.drew.heap.size := Nat.le_of_lt src1.ltQ
            have h1 : gs < wr.heap.size := src1.ltQ
            have hP9 : 0 ≤ P ∧ P ≤ 1000000000 := ⟨hP.1, by omega⟩
            have hsD := hz.len
            clear src1 hnn hl4 hl1 hP hpw
            go_upto_region 15 with (fail)
            go_region_with (first | (go_at_call 52; (with_reducible refine (pick_any hz z8 cz _ (by repeat' (first | (with_reducible first | assumption | exact Below.refl _ _ | refine Below.drew ?_ | refine Below.alloc ?_ ?_ _ | refine Below.setCell ?_ ?_ _ | refine below_setR ?_ ?_ _ | refine below_dn ?_ _ | refine Below.trans ?_ (below_mo _ _ _ ?_) | refine Below.trans ?_ (below_mq _ _ ?_) | exact Nat.le_refl _) | (simp; done) | (simp; omega) | omega)) gs 2 hD (by omega) (by exact HSRC.out) (el xs (k : Int)) (by omega)).mono ?_); rintro e w3 ⟨r1, rfl, hr1, src3, ch3⟩; have hc3 : Below gs w w3 := ch3.below hb1d h1d (fun j hj => by omega); have hu3 : Below D U w3 := hu.trans (hc3.mono hD); have e4 : IntKind.i64.wrap (1 + r1) = 1 + r1 := IntWalk.i64_in _ ⟨by omega, by omega⟩; have hm := mul_bdT hP9 (show 0 ≤ 1 + r1 ∧ 1 + r1 ≤ 100 by omega); have e5 : IntKind.i64.wrap (P * (1 + r1)) = P * (1 + r1) := IntWalk.i64_in _ ⟨by omega, by omega⟩) | (go_at_call 52; (with_reducible refine (pick_any hz z8 cz _ (by repeat' (first | (with_reducible first | assumption | exact Below.refl _ _ | refine Below.drew ?_ | refine Below.alloc ?_ ?_ _ | refine Below.setCell ?_ ?_ _ | refine below_setR ?_ ?_ _ | refine below_dn ?_ _ | refine Below.trans ?_ (below_mo _ _ _ ?_) | refine Below.trans ?_ (below_mq _ _ ?_) | exact Nat.le_refl _) | (simp; done) | (simp; omega) | omega)) gs 4 hD (by omega) (by exact src3) 1200 (by omega)).mono ?_); rintro e w4 ⟨r2, rfl, hr2, src4, ch4⟩; have hc4 : Below gs w w4 := ch4.below hc3 (by have := src3.ltQ; omega) (fun j hj => by omega); have e6 : IntKind.i64.wrap (P * (1 + r1) - r2) = P * (1 + r1) - r2 := IntWalk.i64_in _ ⟨by omega, by omega⟩; have tm := tmod_bdT (P * (1 + r1) - r2) hSp; have e7 : IntKind.i64.wrap ((P * (1 + r1) - r2).tmod S) = (P * (1 + r1) - r2).tmod S := IntWalk.i64_in _ ⟨by omega, by omega⟩) | (go_at_call 59; (with_reducible refine (l00Max_st _ _ _).mono ?_); rintro e w5 ⟨rfl, rfl⟩))
            all_goals go_wp2
            all_goals go_ret
            all_goals exact ⟨_, rfl, ⟨by omega, by omega⟩, hc4⟩
    · have b1 : (r == 1) = false := beq_eq_false_iff_ne.2 (by omega)
      have b2 : (r == 2) = false := beq_eq_false_iff_ne.2 (by omega)
      have b3 : (r == 3) = false := beq_eq_false_iff_ne.2 (by omega)
      have n1 : ¬ r = 1 := by omega
      have n2 : ¬ r = 2 := by omega
      have n3 : ¬ r = 3 := by omega
      (go_wp2_with fail; refine (pick_any hz z8 cz _ hu2 gs 2 hD (by omega) (by exact src1) 1000 (by omega)).mono ?_; rintro e w3 ⟨r1, rfl, hr1, src3, ch3⟩)
      have hc3 : Below gs w w3 := ch3.below hb1 (by omega) (fun j hj => by omega)
      have e4 : IntKind.i64.wrap (r1 * 1000) = r1 * 1000 := IntWalk.i64_in _ ⟨by omega, by omega⟩
      (go_wp2_with fail; refine (pick_any hz z8 cz _ (hu.trans (hc3.mono hD)) gs 4 hD (by omega) (by exact src3) 1000 (by omega)).mono ?_; rintro e w4 ⟨r2, rfl, hr2, src4, ch4⟩)
      have hc4 : Below gs w w4 := ch4.below hc3 (by have := src3.ltQ; omega) (fun j hj => by omega)
      have e5 : IntKind.i64.wrap (r1 * 1000 + r2) = r1 * 1000 + r2 := IntWalk.i64_in _ ⟨by omega, by omega⟩
      have m0 := Int.emod_nonneg (r1 * 1000 + r2) s0
      have m1 := Int.emod_lt_of_pos (r1 * 1000 + r2) hSp
      have tm : (r1 * 1000 + r2).tmod S = (r1 * 1000 + r2) % S := Int.tmod_eq_emod_of_nonneg (by omega)
      have e7 : IntKind.i64.wrap ((r1 * 1000 + r2) % S) = (r1 * 1000 + r2) % S := IntWalk.i64_in _ ⟨by omega, by omega⟩
      go_wp2
      go_ret
      exact ⟨(r1 * 1000 + r2) % S, rfl, ⟨by omega, by omega⟩, hc4⟩
set_option maxHeartbeats 2000000 in
theorem A2Turn_any {A : Option Addr} {xs : List Int} {W : World} {B : Nat} (hs : Nums .u8 W B A xs) (h8 : b8 xs) (c : Nat) {L : Option Addr} {js : List (Int × Int)} {V : World} {C : Nat} (hl : Prs .i8 .i16 V C L js) (hj : j8 js) (cl : Nat) (w : World) (hb : Below B W w) (hv : Below C V w) {Z : Option Addr} {zs : List Int} {U : World} {D : Nat} (hz : Nums .u8 U D Z zs) (z8 : b8 zs) (cz : Nat) (hu : Below D U w) (hk : okO xs js = true) (hbas : bases xs) (hl4 : 1 ≤ xs.length ∧ xs.length ≤ 4) : Calls Try.prog 26 #[.slice Z zs.length cz, .agg #[.slice A xs.length c, .slice L js.length cl]] w fun e w' => ∃ v : Int, e = .returned (.int .i64 v) ∧ (0 ≤ v ∧ v < szS xs * 1000) ∧ Below w.heap.size w w' := by
  have hB := hs.bsz hb
  have hC := hl.bsz hv
  have hDz := hz.bsz hu
  have HK := Lib.hid hk
  have HS := Lib.hid (okO_parts hk).1
  have hsz := szS_bd HS.out
  have KS := Lib.hid (fun W' h1 h2 g k0 k1 => l02Span_any hs h8 c hl hj cl W' h1 h2 g k0 k1 HS.out)
  obtain ⟨S, hS⟩ : ∃ S, szS xs * 1000 = S := ⟨_, rfl⟩
  rw [hS] at KS ⊢
  have hS1 : 2000 ≤ S ∧ S ≤ 1000000000000000 := by omega
  clear hk hsz hS
  go_enter Try.func26, Try.ntmps26
  (go_wp2_with fail; refine (l00From_any _ _ _ _).mono ?_; rintro e w' ⟨rfl, rfl⟩)
  (go_wp2_with fail; refine (l02Turned_any hs h8 c hl hj cl _ (by repeat' (first | (with_reducible first | assumption | exact Below.refl _ _ | refine Below.drew ?_ | refine Below.alloc ?_ ?_ _ | refine Below.setCell ?_ ?_ _ | refine below_setR ?_ ?_ _ | refine below_dn ?_ _ | refine Below.trans ?_ (below_mo _ _ _ ?_) | refine Below.trans ?_ (below_mq _ _ ?_) | exact Nat.le_refl _) | (simp; done) | (simp; omega) | omega)) (by repeat' (first | (with_reducible first | assumption | exact Below.refl _ _ | refine Below.drew ?_ | refine Below.alloc ?_ ?_ _ | refine Below.setCell ?_ ?_ _ | refine below_setR ?_ ?_ _ | refine below_dn ?_ _ | refine Below.trans ?_ (below_mo _ _ _ ?_) | refine Below.trans ?_ (below_mq _ _ ?_) | exact Nat.le_refl _) | (simp; done) | (simp; omega) | omega)) w.heap.size (by first | assumption | (simp [go_sem]; done) | (simp [go_sem, *]; done) | (simp [go_sem]; rfl)) (by first | assumption | (simp [go_sem]; done) | (simp [go_sem, *]; done) | (simp [go_sem]; rfl)) hz z8 cz (by repeat' (first | (with_reducible first | assumption | exact Below.refl _ _ | refine Below.drew ?_ | refine Below.alloc ?_ ?_ _ | refine Below.setCell ?_ ?_ _ | refine below_setR ?_ ?_ _ | refine below_dn ?_ _ | refine Below.trans ?_ (below_mo _ _ _ ?_) | refine Below.trans ?_ (below_mq _ _ ?_) | exact Nat.le_refl _) | (simp; done) | (simp; omega) | omega)) (w.heap.size + 1) (by omega) (by omega) (by omega) (by omega) (by have := srcB_new (w.alloc (.cells #[.slice A xs.length c, .slice L js.length cl] 49)) Z zs.length cz 0; rw [World.size_alloc] at this; exact this) HK.out hbas hl4).mono ?_; rintro e w1 ⟨v, rfl, hvv, hb1⟩)
  have hb2 : Below w.heap.size w w1 := Below.trans (by repeat' (first | (with_reducible first | assumption | exact Below.refl _ _ | refine Below.drew ?_ | refine Below.alloc ?_ ?_ _ | refine Below.setCell ?_ ?_ _ | refine below_setR ?_ ?_ _ | refine below_dn ?_ _ | refine Below.trans ?_ (below_mo _ _ _ ?_) | refine Below.trans ?_ (below_mq _ _ ?_) | exact Nat.le_refl _) | (simp; done) | (simp; omega) | omega)) (hb1.mono (by omega))
  have q0 := (hb1.cell (p := ⟨w.heap.size, 0, none⟩) (by show w.heap.size < w.heap.size + 1; omega)).trans (by simp [go_sem]; rfl)
  have q1 := (hb1.cell (p := ⟨w.heap.size, 1, none⟩) (by show w.heap.size < w.heap.size + 1; omega)).trans (by simp [go_sem]; rfl)
  clear hb1
  (go_wp2_with fail; refine (KS.out _ (hb.trans (hb2.mono hB)) (hv.trans (hb2.mono hC)) w.heap.size q0 q1).mono ?_; rintro e w' ⟨rfl, rfl⟩)
  (go_wp2_with fail; refine (l04Mod_any v S _ (by omega) (by omega)).mono ?_; rintro e w' ⟨rfl, rfl⟩)
  go_wp2
  go_ret
  exact ⟨_, rfl, ⟨Int.emod_nonneg _ (by omega), Int.emod_lt_of_pos _ (by omega)⟩, hb2⟩
end Go.Proofs.Ytinjlofefmjolaa.X
