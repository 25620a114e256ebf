/- How far the wheels of a motion have turned. Conditions: none. -/
import Derived.Test.YtinjlofefmjolaaKMot2
namespace Go.Proofs.Ytinjlofefmjolaa.X
open Go.RowKit
set_option linter.unusedVariables false
set_option linter.unusedSimpArgs false
set_option maxRecDepth 100000
/-- how far a wheel is beyond its digit -/
def byd (b k f q : Int) : Int := if k = 0 then q / b else if q < (b - 1) * 1000 + f then 0 else (q - ((b - 1) * 1000 + f)) * 1000 / (1000 - f)
theorem byd_bd {b k f q : Int} (hb : 2 ≤ b ∧ b ≤ 100) (hj : jOK k f = true) (hq : 0 ≤ q ∧ q < b * 1000) : 0 ≤ byd b k f q ∧ byd b k f q < 1000 := by
  unfold byd
  by_cases h0 : k = 0
  · rw [if_pos h0]
    refine ⟨Int.ediv_nonneg hq.1 (by omega), ?_⟩
    rw [Int.ediv_lt_iff_lt_mul (by omega)]
    omega
  · rw [if_neg h0]
    unfold jOK at hj
    rw [if_neg h0] at hj
    split at hj
    · rw [Bool.and_eq_true, decide_eq_true_eq, decide_eq_true_eq] at hj
      split
      · omega
      · refine ⟨Int.ediv_nonneg (by omega) (by omega), ?_⟩
        rw [Int.ediv_lt_iff_lt_mul (by omega)]
        omega
    · cases hj
/-- the parts of a wheel -/
def ptV (xs : List Int) (js : List (Int × Int)) (t : Int) : Nat → Int
  | 0 => t % (el xs 0 * 1000)
  | i + 1 => dg xs (t / 1000) (i + 1) * 1000 + byd (el xs i) (p1 js i) (p2 js i) (ptV xs js t i)
theorem dg_bd {xs : List Int} {v : Int} (h : okS xs = true) {i : Nat} (hi : i < xs.length) : 0 ≤ dg xs v i ∧ dg xs v i < el xs i := by
  have h1 := okS_el h hi
  unfold dg dgTo
  rw [if_pos hi]
  exact ⟨Int.emod_nonneg _ (by omega), Int.emod_lt_of_pos _ (by omega)⟩
theorem ptV_bd {xs : List Int} {js : List (Int × Int)} {t : Int} (h : okO xs js = true) : ∀ i : Nat, i < xs.length → 0 ≤ ptV xs js t i ∧ ptV xs js t i < el xs i * 1000
  | 0, hi => by
    have h1 := okS_el (okO_parts h).1 hi
    rw [show ((0 : Nat) : Int) = 0 from rfl] at *
    exact ⟨Int.emod_nonneg _ (by omega), Int.emod_lt_of_pos _ (by omega)⟩
  | i + 1, hi => by
    obtain ⟨h1, h2, h3⟩ := okO_parts h
    have ih := ptV_bd (t := t) h i (by omega)
    have h4 := okS_el h1 (k := i) (by omega)
    have h5 := okS_el h1 hi
    have h6 := byd_bd h4 (h3 i (by omega)) ih
    have h7 := dg_bd (v := t / 1000) h1 hi
    unfold ptV
    omega
/-- the first k parts -/
def paTo (xs : List Int) (js : List (Int × Int)) (t : Int) (k : Nat) : Nat → Int := fun i => if i < k then ptV xs js t i else 0
theorem paTo_succ (xs : List Int) (js : List (Int × Int)) (t : Int) (k : Nat) : upd (paTo xs js t k) k (ptV xs js t k) = paTo xs js t (k + 1) := by
  funext i
  unfold upd paTo
  by_cases e : i = k
  · subst e; rw [if_pos rfl, if_pos (by omega)]
  · rw [if_neg e]
    by_cases e2 : i < k
    · rw [if_pos e2, if_pos (by omega)]
    · rw [if_neg e2, if_neg (by omega)]
/-- what PartsAt returns -/
def paV (xs : List Int) (js : List (Int × Int)) (t : Int) : (Nat → Int) × Int := if askO xs js t = 0 then (paTo xs js t xs.length, 0) else (fun _ => 0, askO xs js t)
theorem paV_1 {xs : List Int} {js : List (Int × Int)} {t : Int} (h : ¬ askO xs js t = 0) : paV xs js t = (fun _ => 0, askO xs js t) := by unfold paV; rw [if_neg h]
theorem paV_0 {xs : List Int} {js : List (Int × Int)} {t : Int} (h : askO xs js t = 0) : paV xs js t = (paTo xs js t xs.length, 0) := by unfold paV; rw [if_pos h]
theorem w64_small {z : Int} (h1 : 0 ≤ z) (h2 : z < 1000) : RowKit.wrap64 z = z := (IntWalk.i64_left z).symm.trans (IntWalk.i64_in z ⟨by omega, by omega⟩)
set_option maxHeartbeats 2000000 in
theorem beyond_any {A : Option Addr} {xs : List Int} {W : World} {B : Nat} (hs : Nums .u8 W B A xs) (h8 : b8 xs) (c : Nat) {L : Option Addr} {js : List (Int × Int)} {V : World} {C : Nat} (hl : Prs .i8 .i16 V C L js) (hj : j8 js) (cl : Nat) (w : World) (hb : Below B W w) (hv : Below C V w) (g : Nat) (k0 : w.cell? ⟨g, 0, none⟩ = some (.slice A xs.length c)) (k1 : w.cell? ⟨g, 1, none⟩ = some (.slice L js.length cl)) (j : Nat) (q : Int) (hk : okO xs js = true) (hjl : j < js.length) (hq : 0 ≤ q ∧ q < el xs j * 1000) : Calls Try.prog 77 #[.pointer (some ⟨g, 0, none⟩), .int .i64 ((j : Int) + 1), .int .i64 q] w fun e w' => e = .returned (.int .i64 (byd (el xs j) (p1 js j) (p2 js j) q)) ∧ Below w.heap.size w w' := by
  have hB := hs.bsz hb
  have hC := hl.bsz hv
  have hn := hs.len
  have hg : g < w.heap.size := block_lt_of_cell k0
  obtain ⟨s1, s2, s3⟩ := okO_parts hk
  have hJ := s3 j hjl
  have hE := okS_el s1 (k := j) (by omega)
  obtain ⟨b, off, rfl, hbs, hc⟩ := hs.at hb (k := j) (by omega)
  obtain ⟨b', off', rfl, hbs', hc0, hc1⟩ := hl.at hv hjl
  obtain ⟨E, hE1⟩ : ∃ E, E = el xs j := ⟨_, rfl⟩
  obtain ⟨K, hK1⟩ : ∃ K, K = p1 js j := ⟨_, rfl⟩
  obtain ⟨F, hF1⟩ : ∃ F, F = p2 js j := ⟨_, rfl⟩
  rw [← hE1] at hE hq hc
  rw [← hK1] at hJ hc0
  rw [← hF1] at hJ hc1
  rw [← hE1, ← hK1, ← hF1]
  clear hE1 hK1 hF1 s3 hk
  have g0 : (0 : Int) ≤ (j : Int) := by omega
  have g1 : (j : Int) < (js.length : Int) := by omega
  have g2 : (j : Int) < (xs.length : Int) := by omega
  have g3 : j < xs.length := by omega
  have gl1 : decide ((j : Int) < (xs.length : Int)) = true := decide_eq_true g2
  have gl2 : decide ((j : Int) < (js.length : Int)) = true := decide_eq_true g1
  have e1 : IntKind.i64.wrap ((j : Int) + 1 - 1) = (j : Int) := (IntWalk.i64_in _ ⟨by omega, by omega⟩).trans (by omega)
  have e1b : IntKind.i64.wrap (j : Int) = (j : Int) := IntWalk.i64_in _ ⟨by omega, by omega⟩
  have e2 : IntKind.i64.wrap E = E := IntWalk.i64_in _ ⟨by omega, by omega⟩
  have HBD := Lib.hid (byd_bd hE hJ hq)
  obtain ⟨E0, E1⟩ := hE
  obtain ⟨q0, q1⟩ := hq
  by_cases h0 : K = 0
  · have b0 : (K == 0) = true := beq_iff_eq.2 h0
    have HR : Hid (byd E K F q = q / E) := by unfold Hid byd; rw [if_pos h0]
    clear h0
    have d1 : q.tdiv E = q / E := Int.tdiv_eq_ediv_of_nonneg (by omega)
    have d2 : ¬ E = 0 := by omega
    have d3 : (E == 0) = false := beq_eq_false_iff_ne.2 d2
    go_enter Try.func77, Try.ntmps77
    go_wp2
    go_region_held3 (fun w' => w'.cell? ⟨g, 0, none⟩ = some (.slice (some ⟨b, off, none⟩) xs.length c) ∧ w'.cell? ⟨g, 1, none⟩ = some (.slice (some ⟨b', off', none⟩) js.length cl) ∧ w'.cell? ⟨b, off + j, none⟩ = some (.int .u8 E) ∧ w'.cell? ⟨b', off' + j * 2, none⟩ = some (.int .i8 K) ∧ w'.cell? ⟨b', off' + j * 2 + 1, none⟩ = some (.int .i16 F)) (first | (simp [go_sem]; done) | ((repeat' apply And.intro) <;> (first | (simp [go_sem]; done) | (simp [go_sem, *]; done)))) (first | fail)
    go_wp2
    go_ret
    exact ⟨ret_i (by first | exact HR.out.symm | (have h := HBD.out; rw [HR.out] at h ⊢; exact w64_small h.1 h.2)), (by repeat' (first | (with_reducible first | assumption | exact Below.refl _ _ | refine Below.drew ?_ | refine Below.alloc ?_ ?_ _ | refine Below.setCell ?_ ?_ _ | refine below_setR ?_ ?_ _ | refine below_dn ?_ _ | refine Below.trans ?_ (below_mo _ _ _ ?_) | refine Below.trans ?_ (below_mq _ _ ?_) | exact Nat.le_refl _) | (simp; done) | (simp; omega) | omega))⟩
  · have b0 : (K == 0) = false := beq_eq_false_iff_ne.2 h0
    have hF : 0 ≤ F ∧ F < 1000 := by
      unfold jOK at hJ
      rw [if_neg h0] at hJ
      split at hJ
      · simpa using hJ
      · cases hJ
    obtain ⟨f0, f1⟩ := hF
    by_cases h1 : q < (E - 1) * 1000 + F
    · have HR : Hid (byd E K F q = 0) := by unfold Hid byd; rw [if_neg h0, if_pos h1]
      clear h0
      go_enter Try.func77, Try.ntmps77
      go_wp2
      go_region_held3 (fun w' => w'.cell? ⟨g, 0, none⟩ = some (.slice (some ⟨b, off, none⟩) xs.length c) ∧ w'.cell? ⟨g, 1, none⟩ = some (.slice (some ⟨b', off', none⟩) js.length cl) ∧ w'.cell? ⟨b, off + j, none⟩ = some (.int .u8 E) ∧ w'.cell? ⟨b', off' + j * 2, none⟩ = some (.int .i8 K) ∧ w'.cell? ⟨b', off' + j * 2 + 1, none⟩ = some (.int .i16 F)) (first | (simp [go_sem]; done) | ((repeat' apply And.intro) <;> (first | (simp [go_sem]; done) | (simp [go_sem, *]; done)))) (first | fail)
      go_wp2
      go_ret
      exact ⟨ret_i (by first | exact HR.out.symm | (have h := HBD.out; rw [HR.out] at h ⊢; exact w64_small h.1 h.2)), (by repeat' (first | (with_reducible first | assumption | exact Below.refl _ _ | refine Below.drew ?_ | refine Below.alloc ?_ ?_ _ | refine Below.setCell ?_ ?_ _ | refine below_setR ?_ ?_ _ | refine below_dn ?_ _ | refine Below.trans ?_ (below_mo _ _ _ ?_) | refine Below.trans ?_ (below_mq _ _ ?_) | exact Nat.le_refl _) | (simp; done) | (simp; omega) | omega))⟩
    · have HR : Hid (byd E K F q = (q - ((E - 1) * 1000 + F)) * 1000 / (1000 - F)) := by unfold Hid byd; rw [if_neg h0, if_neg h1]
      clear h0
      have d2 : ¬ 1000 - F = 0 := by omega
      have d3 : (1000 - F == 0) = false := beq_eq_false_iff_ne.2 d2
      have d4 : 0 ≤ (q - ((E - 1) * 1000 + F)) * 1000 := by omega
      have d1 : ((q - ((E - 1) * 1000 + F)) * 1000).tdiv (1000 - F) = (q - ((E - 1) * 1000 + F)) * 1000 / (1000 - F) := Int.tdiv_eq_ediv_of_nonneg d4
      go_enter Try.func77, Try.ntmps77
      go_wp2
      go_region_held3 (fun w' => w'.cell? ⟨g, 0, none⟩ = some (.slice (some ⟨b, off, none⟩) xs.length c) ∧ w'.cell? ⟨g, 1, none⟩ = some (.slice (some ⟨b', off', none⟩) js.length cl) ∧ w'.cell? ⟨b, off + j, none⟩ = some (.int .u8 E) ∧ w'.cell? ⟨b', off' + j * 2, none⟩ = some (.int .i8 K) ∧ w'.cell? ⟨b', off' + j * 2 + 1, none⟩ = some (.int .i16 F)) (first | (simp [go_sem]; done) | ((repeat' apply And.intro) <;> (first | (simp [go_sem]; done) | (simp [go_sem, *]; done)))) (first | fail)
      go_wp2
      go_ret
      exact ⟨ret_i (by first | exact HR.out.symm | (have h := HBD.out; rw [HR.out] at h ⊢; exact w64_small h.1 h.2)), (by repeat' (first | (with_reducible first | assumption | exact Below.refl _ _ | refine Below.drew ?_ | refine Below.alloc ?_ ?_ _ | refine Below.setCell ?_ ?_ _ | refine below_setR ?_ ?_ _ | refine below_dn ?_ _ | refine Below.trans ?_ (below_mo _ _ _ ?_) | refine Below.trans ?_ (below_mq _ _ ?_) | exact Nat.le_refl _) | (simp; done) | (simp; omega) | omega))⟩
set_option maxHeartbeats 2000000 in
theorem l02Beyond_any {A : Option Addr} {xs : List Int} {W : World} {B : Nat} (hs : Nums .u8 W B A xs) (h8 : b8 xs) (c : Nat) {L : Option Addr} {js : List (Int × Int)} {V : World} {C : Nat} (hl : Prs .i8 .i16 V C L js) (hj : j8 js) (cl : Nat) (w : World) (hb : Below B W w) (hv : Below C V w) (g : Nat) (k0 : w.cell? ⟨g, 0, none⟩ = some (.slice A xs.length c)) (k1 : w.cell? ⟨g, 1, none⟩ = some (.slice L js.length cl)) (j : Nat) (q : Int) (hk : okO xs js = true) (hjl : j < js.length) (hq : 0 ≤ q ∧ q < el xs j * 1000) : Calls Try.prog 96 #[.pointer (some ⟨g, 0, none⟩), .int .i64 ((j : Int) + 1), .int .i64 q] w fun e w' => e = .returned (.int .i64 (byd (el xs j) (p1 js j) (p2 js j) q)) ∧ Below w.heap.size w w' := by
  have hB := hs.bsz hb
  have hC := hl.bsz hv
  have hn := hs.len
  have hg : g < w.heap.size := block_lt_of_cell k0
  obtain ⟨s1, s2, s3⟩ := okO_parts hk
  have hJ := s3 j hjl
  have hE := okS_el s1 (k := j) (by omega)
  obtain ⟨b, off, rfl, hbs, hc⟩ := hs.at hb (k := j) (by omega)
  obtain ⟨b', off', rfl, hbs', hc0, hc1⟩ := hl.at hv hjl
  obtain ⟨E, hE1⟩ : ∃ E, E = el xs j := ⟨_, rfl⟩
  obtain ⟨K, hK1⟩ : ∃ K, K = p1 js j := ⟨_, rfl⟩
  obtain ⟨F, hF1⟩ : ∃ F, F = p2 js j := ⟨_, rfl⟩
  rw [← hE1] at hE hq hc
  rw [← hK1] at hJ hc0
  rw [← hF1] at hJ hc1
  rw [← hE1, ← hK1, ← hF1]
  clear hE1 hK1 hF1 s3 hk
  have g0 : (0 : Int) ≤ (j : Int) := by omega
  have g1 : (j : Int) < (js.length : Int) := by omega
  have g2 : (j : Int) < (xs.length : Int) := by omega
  have g3 : j < xs.length := by omega
  have gl1 : decide ((j : Int) < (xs.length : Int)) = true := decide_eq_true g2
  have gl2 : decide ((j : Int) < (js.length : Int)) = true := decide_eq_true g1
  have e1 : IntKind.i64.wrap ((j : Int) + 1 - 1) = (j : Int) := (IntWalk.i64_in _ ⟨by omega, by omega⟩).trans (by omega)
  have e1b : IntKind.i64.wrap (j : Int) = (j : Int) := IntWalk.i64_in _ ⟨by omega, by omega⟩
  have e2 : IntKind.i64.wrap E = E := IntWalk.i64_in _ ⟨by omega, by omega⟩
  have HBD := Lib.hid (byd_bd hE hJ hq)
  obtain ⟨E0, E1⟩ := hE
  obtain ⟨q0, q1⟩ := hq
  by_cases h0 : K = 0
  · have b0 : (K == 0) = true := beq_iff_eq.2 h0
    have HR : Hid (byd E K F q = q / E) := by unfold Hid byd; rw [if_pos h0]
    clear h0
    have d1 : q.tdiv E = q / E := Int.tdiv_eq_ediv_of_nonneg (by omega)
    have d2 : ¬ E = 0 := by omega
    have d3 : (E == 0) = false := beq_eq_false_iff_ne.2 d2
    go_enter Try.func96, Try.ntmps96
    go_wp2
    go_ret
    exact ⟨ret_i (by first | exact HR.out.symm | (have h := HBD.out; rw [HR.out] at h ⊢; exact w64_small h.1 h.2)), (by repeat' (first | (with_reducible first | assumption | exact Below.refl _ _ | refine Below.drew ?_ | refine Below.alloc ?_ ?_ _ | refine Below.setCell ?_ ?_ _ | refine below_setR ?_ ?_ _ | refine below_dn ?_ _ | refine Below.trans ?_ (below_mo _ _ _ ?_) | refine Below.trans ?_ (below_mq _ _ ?_) | exact Nat.le_refl _) | (simp; done) | (simp; omega) | omega))⟩
  · have b0 : (K == 0) = false := beq_eq_false_iff_ne.2 h0
    have hF : 0 ≤ F ∧ F < 1000 := by
      unfold jOK at hJ
      rw [if_neg h0] at hJ
      split at hJ
      · simpa using hJ
      · cases hJ
    obtain ⟨f0, f1⟩ := hF
    by_cases h1 : q < (E - 1) * 1000 + F
    · have HR : Hid (byd E K F q = 0) := by unfold Hid byd; rw [if_neg h0, if_pos h1]
      clear h0
      go_enter Try.func96, Try.ntmps96
      go_wp2
      go_ret
      exact ⟨ret_i (by first | exact HR.out.symm | (have h := HBD.out; rw [HR.out] at h ⊢; exact w64_small h.1 h.2)), (by repeat' (first | (with_reducible first | assumption | exact Below.refl _ _ | refine Below.drew ?_ | refine Below.alloc ?_ ?_ _ | refine Below.setCell ?_ ?_ _ | refine below_setR ?_ ?_ _ | refine below_dn ?_ _ | refine Below.trans ?_ (below_mo _ _ _ ?_) | refine Below.trans ?_ (below_mq _ _ ?_) | exact Nat.le_refl _) | (simp; done) | (simp; omega) | omega))⟩
    · have HR : Hid (byd E K F q = (q - ((E - 1) * 1000 + F)) * 1000 / (1000 - F)) := by unfold Hid byd; rw [if_neg h0, if_neg h1]
      clear h0
      have d2 : ¬ 1000 - F = 0 := by omega
      have d3 : (1000 - F == 0) = false := beq_eq_false_iff_ne.2 d2
      have d4 : 0 ≤ (q - ((E - 1) * 1000 + F)) * 1000 := by omega
      have d1 : ((q - ((E - 1) * 1000 + F)) * 1000).tdiv (1000 - F) = (q - ((E - 1) * 1000 + F)) * 1000 / (1000 - F) := Int.tdiv_eq_ediv_of_nonneg d4
      go_enter Try.func96, Try.ntmps96
      go_wp2
      go_ret
      exact ⟨ret_i (by first | exact HR.out.symm | (have h := HBD.out; rw [HR.out] at h ⊢; exact w64_small h.1 h.2)), (by repeat' (first | (with_reducible first | assumption | exact Below.refl _ _ | refine Below.drew ?_ | refine Below.alloc ?_ ?_ _ | refine Below.setCell ?_ ?_ _ | refine below_setR ?_ ?_ _ | refine below_dn ?_ _ | refine Below.trans ?_ (below_mo _ _ _ ?_) | refine Below.trans ?_ (below_mq _ _ ?_) | exact Nat.le_refl _) | (simp; done) | (simp; omega) | omega))⟩
end Go.Proofs.Ytinjlofefmjolaa.X
