/- CountsByDay, both answers. Conditions: none. -/
import Derived.Test.YtaahfebnbholmaaKTot2
import Derived.Test.YtaahfebnbholmaaKTail
namespace Go.Proofs.Ytaahfebnbholmaa.X
open Go.RowKit
set_option linter.unusedVariables false
set_option linter.unusedSimpArgs false
set_option maxRecDepth 100000
theorem onV_bd {xs : List (Int × Int)} {d : Int} (hv : vt xs) (hc : Cov xs d) : 0 ≤ onV xs d ∧ onV xs d ≤ 200000000000000000 := by
  by_cases h : ∃ m, LastAt xs d m
  · obtain ⟨m, hm⟩ := h
    rw [onV_eq hm]
    obtain ⟨h1, h2, h3⟩ := hm
    have c1 := vt_cnt hv m h1
    unfold valD
    split
    · omega
    · rename_i hne
      by_cases hl : m + 1 < xs.length
      · have c2 := vt_cnt hv (m + 1) hl
        have c3 := vt_cstep hv m hl
        have d1 := vt_day hv m h1
        have d2 := vt_day hv (m + 1) hl
        have d3 := h3 (m + 1) (by omega) hl
        rw [show ((m + 1 : Nat) : Int) = (m : Int) + 1 by omega] at c2 d2 d3
        have p := prod_bound (a := tC xs ((m : Int) + 1) - tC xs m) (b := d - tD xs m) ⟨by omega, by omega⟩ ⟨by omega, by omega⟩
        have q := div_bound (b := tD xs ((m : Int) + 1) - tD xs m) p (by omega)
        omega
      · have e : (m : Int) = (xs.length : Int) - 1 := by omega
        have := hc.2.2
        rw [← e] at this
        omega
  · have : onV xs d = 0 := by unfold onV; rw [dif_neg h]
    omega
/-- what is counted at the j-th day -/
noncomputable def dyF (xs : List (Int × Int)) (j : Nat) : Int := onV xs (tD xs 0 + j + 1) - onV xs (tD xs 0 + j)
noncomputable def dyL (xs : List (Int × Int)) : Nat → List Int
  | 0 => []
  | k + 1 => dyL xs k ++ [dyF xs k]
theorem dyL_len (xs : List (Int × Int)) : ∀ k, (dyL xs k).length = k
  | 0 => rfl
  | k + 1 => by
    show (dyL xs k ++ [dyF xs k]).length = k + 1
    rw [List.length_append, dyL_len xs k]; rfl
theorem dyL_up (xs : List (Int × Int)) (k : Nat) : dyL xs (k + 1) = dyL xs k ++ [dyF xs k] := rfl
def dyN (xs : List (Int × Int)) : Int := tD xs ((xs.length : Int) - 1) - tD xs 0
noncomputable def cdC (xs : List (Int × Int)) : Int := if vtB xs then if xs.length = 0 then 6 else if 400 < dyN xs then 3 else 0 else 1
noncomputable def cdL (xs : List (Int × Int)) : List Int := if cdC xs = 0 then dyL xs (dyN xs).toNat else []
theorem cdC_1 {xs : List (Int × Int)} (h : vtB xs = false) : cdC xs = 1 := by unfold cdC; rw [h]; rfl
theorem cdC_6 {xs : List (Int × Int)} (h : vtB xs = true) (g : xs.length = 0) : cdC xs = 6 := by unfold cdC; rw [h, if_pos rfl, if_pos g]
theorem cdC_3 {xs : List (Int × Int)} (h : vtB xs = true) (g : ¬ xs.length = 0) (l : 400 < dyN xs) : cdC xs = 3 := by unfold cdC; rw [h, if_pos rfl, if_neg g, if_pos l]
theorem cdC_0 {xs : List (Int × Int)} (h : vtB xs = true) (g : ¬ xs.length = 0) (l : ¬ 400 < dyN xs) : cdC xs = 0 := by unfold cdC; rw [h, if_pos rfl, if_neg g, if_neg l]
theorem cdL_no {xs : List (Int × Int)} (h : ¬ cdC xs = 0) : cdL xs = [] := by unfold cdL; rw [if_neg h]
theorem cdL_0 {xs : List (Int × Int)} (h : cdC xs = 0) : cdL xs = dyL xs (dyN xs).toNat := by unfold cdL; rw [if_pos h]
theorem cdL_len (xs : List (Int × Int)) : (cdL xs).length ≤ 1048576 := by
  by_cases h : cdC xs = 0
  · rw [cdL_0 h, dyL_len]
    cases h1 : vtB xs
    · rw [cdC_1 h1] at h; omega
    · by_cases h2 : xs.length = 0
      · rw [cdC_6 h1 h2] at h; omega
      · by_cases h3 : 400 < dyN xs
        · rw [cdC_3 h1 h2 h3] at h; omega
        · omega
  · rw [cdL_no h]; exact Nat.zero_le _
theorem tot_sl {L : Option Addr} {xs : List (Int × Int)} {V w : World} {C : Nat} (hl : Prs .i64 .i64 V C L xs) (hv : Below C V w) : SL w C 2 e2 L xs := hl.sl.keep hv (Nat.le_refl _) (Nat.le_refl _)
/-- the days that are asked for are told -/
theorem cov_at {xs : List (Int × Int)} (h0 : ¬ xs.length = 0) {k : Nat} (hk : (k : Int) ≤ dyN xs) : Cov xs (tD xs 0 + k) := by
  unfold dyN at hk
  exact ⟨by omega, by omega, by omega⟩
theorem day_bd {xs : List (Int × Int)} (hv : vt xs) (h0 : ¬ xs.length = 0) : (0 ≤ tD xs 0 ∧ tD xs 0 ≤ 100000) ∧ 0 ≤ tD xs ((xs.length : Int) - 1) ∧ tD xs ((xs.length : Int) - 1) ≤ 100000 := by
  have a := vt_day hv 0 (by omega)
  have b := vt_day hv (xs.length - 1) (by omega)
  rw [show ((xs.length - 1 : Nat) : Int) = (xs.length : Int) - 1 by omega] at b
  exact ⟨a, b⟩
set_option maxHeartbeats 1000000 in
theorem more_any {L : Option Addr} {xs : List (Int × Int)} {V : World} {C : Nat} (hl : Prs .i64 .i64 V C L xs) (cl : Nat) (w : World) (hv : Below C V w) (k : Nat) (hvt : vt xs) (h0 : ¬ xs.length = 0) (hk : (k : Int) < dyN xs) : Calls Try.prog 88 #[.slice L xs.length cl, .int .i64 (tD xs 0 + k)] w fun e w' => e = .returned (.int .i64 (dyF xs k)) ∧ Below w.heap.size w w' := by
  have hC := hl.bsz hv
  obtain ⟨d1, d2⟩ := day_bd hvt h0
  have hn : dyN xs = tD xs ((xs.length : Int) - 1) - tD xs 0 := rfl
  have c0 := cov_at h0 (k := k) (by omega)
  have c1 := cov_at h0 (k := k + 1) (by omega)
  rw [show tD xs 0 + ((k + 1 : Nat) : Int) = tD xs 0 + k + 1 by omega] at c1
  have b0 := onV_bd hvt c0
  have b1 := onV_bd hvt c1
  have K1 := Lib.hid (fun W (hW : Below C V W) => countOn_any L xs xs.length cl C (tD xs 0 + k + 1) W rfl (hl.bsz hW) (tot_sl hl hW) hvt c1 ⟨by omega, by omega⟩)
  have K0 := Lib.hid (fun W (hW : Below C V W) => countOn_any L xs xs.length cl C (tD xs 0 + k) W rfl (hl.bsz hW) (tot_sl hl hW) hvt c0 ⟨by omega, by omega⟩)
  have e1 : IntKind.i64.wrap (tD xs 0 + (k : Int) + 1) = tD xs 0 + (k : Int) + 1 := IntWalk.i64_in _ ⟨by omega, by omega⟩
  have e2' : IntKind.i64.wrap (onV xs (tD xs 0 + (k : Int) + 1) - onV xs (tD xs 0 + (k : Int))) = onV xs (tD xs 0 + (k : Int) + 1) - onV xs (tD xs 0 + (k : Int)) := IntWalk.i64_in _ ⟨by omega, by omega⟩
  clear c0 c1 hk hvt hn
  go_enter Try.func88, Try.ntmps88
  (go_wp2_with fail; refine (K1.out _ (by repeat' (first | (with_reducible first | assumption | exact Below.refl _ _ | refine Below.drew ?_ | refine Below.alloc ?_ ?_ _ | refine Below.setCell ?_ ?_ _ | refine below_setR ?_ ?_ _ | refine below_dn ?_ _ | refine Below.trans ?_ (below_mo _ _ _ ?_) | refine Below.trans ?_ (below_mq _ _ ?_) | exact Nat.le_refl _) | (simp; done) | (simp; omega) | omega))).mono ?_; rintro e w' ⟨rfl, hb_⟩; obtain ⟨os1, d1, rfl⟩ := mo_of hb_; clear hb_)
  (go_wp2_with fail; refine (K0.out _ (by repeat' (first | (with_reducible first | assumption | exact Below.refl _ _ | refine Below.drew ?_ | refine Below.alloc ?_ ?_ _ | refine Below.setCell ?_ ?_ _ | refine below_setR ?_ ?_ _ | refine below_dn ?_ _ | refine Below.trans ?_ (below_mo _ _ _ ?_) | refine Below.trans ?_ (below_mq _ _ ?_) | exact Nat.le_refl _) | (simp; done) | (simp; omega) | omega))).mono ?_; rintro e w' ⟨rfl, hb_⟩; obtain ⟨os0, d0, rfl⟩ := mo_of hb_; clear hb_)
  go_wp2
  go_ret
  exact ⟨rfl, (by repeat' (first | (with_reducible first | assumption | exact Below.refl _ _ | refine Below.drew ?_ | refine Below.alloc ?_ ?_ _ | refine Below.setCell ?_ ?_ _ | refine below_setR ?_ ?_ _ | refine below_dn ?_ _ | refine Below.trans ?_ (below_mo _ _ _ ?_) | refine Below.trans ?_ (below_mq _ _ ?_) | exact Nat.le_refl _) | (simp; done) | (simp; omega) | omega))⟩
set_option maxHeartbeats 2000000 in
theorem implDays_any {L : Option Addr} {xs : List (Int × Int)} {V : World} {C : Nat} (hl : Prs .i64 .i64 V C L xs) (cl : Nat) (w : World) (hv : Below C V w) : Calls Try.prog 53 #[.slice L xs.length cl] w (RetL (cdL xs) (cdC xs) w) := by
  have hC := hl.bsz hv
  have hll := hl.len
  have KV := Lib.hid (fun W (hW : Below C V W) => implValidTotals_any L xs xs.length cl C W rfl (by unfold maxLen; omega) (hl.bsz hW) (tot_sl hl hW))
  cases h1 : vtB xs
  · have HR := Lib.hid (cdC_1 h1)
    have HV := Lib.hid (cdL_no (show ¬ cdC xs = 0 by rw [HR.out]; omega))
    have H1 := Lib.hid h1
    clear h1
    go_enter Try.func53, Try.ntmps53
    (go_wp2_with fail; refine (KV.out _ (by repeat' (first | (with_reducible first | assumption | exact Below.refl _ _ | refine Below.drew ?_ | refine Below.alloc ?_ ?_ _ | refine Below.setCell ?_ ?_ _ | refine below_setR ?_ ?_ _ | refine below_dn ?_ _ | refine Below.trans ?_ (below_mo _ _ _ ?_) | refine Below.trans ?_ (below_mq _ _ ?_) | exact Nat.le_refl _) | (simp; done) | (simp; omega) | omega))).mono ?_; rintro e w' ⟨rfl, hb_⟩; obtain ⟨os0, d0, rfl⟩ := mo_of hb_; clear hb_)
    rw [H1.out]
    go_wp2
    go_returns
    exact ⟨.slice none 0 0, by rw [HR.out]; rfl, by rw [HV.out]; exact World.ownsRow_nil _ _ _ _, (by repeat' (first | (with_reducible first | assumption | exact Below.refl _ _ | refine Below.drew ?_ | refine Below.alloc ?_ ?_ _ | refine Below.setCell ?_ ?_ _ | refine below_setR ?_ ?_ _ | refine below_dn ?_ _ | refine Below.trans ?_ (below_mo _ _ _ ?_) | refine Below.trans ?_ (below_mq _ _ ?_) | exact Nat.le_refl _) | (simp; done) | (simp; omega) | omega))⟩
  by_cases h2 : xs.length = 0
  · have HR := Lib.hid (cdC_6 h1 h2)
    have HV := Lib.hid (cdL_no (show ¬ cdC xs = 0 by rw [HR.out]; omega))
    have H1 := Lib.hid h1
    have b1 : ((xs.length : Int) == 0) = true := by rw [h2]; rfl
    clear h1 h2
    go_enter Try.func53, Try.ntmps53
    (go_wp2_with fail; refine (KV.out _ (by repeat' (first | (with_reducible first | assumption | exact Below.refl _ _ | refine Below.drew ?_ | refine Below.alloc ?_ ?_ _ | refine Below.setCell ?_ ?_ _ | refine below_setR ?_ ?_ _ | refine below_dn ?_ _ | refine Below.trans ?_ (below_mo _ _ _ ?_) | refine Below.trans ?_ (below_mq _ _ ?_) | exact Nat.le_refl _) | (simp; done) | (simp; omega) | omega))).mono ?_; rintro e w' ⟨rfl, hb_⟩; obtain ⟨os0, d0, rfl⟩ := mo_of hb_; clear hb_)
    rw [H1.out]
    go_wp2
    go_returns
    exact ⟨.slice none 0 0, by rw [HR.out]; rfl, by rw [HV.out]; exact World.ownsRow_nil _ _ _ _, (by repeat' (first | (with_reducible first | assumption | exact Below.refl _ _ | refine Below.drew ?_ | refine Below.alloc ?_ ?_ _ | refine Below.setCell ?_ ?_ _ | refine below_setR ?_ ?_ _ | refine below_dn ?_ _ | refine Below.trans ?_ (below_mo _ _ _ ?_) | refine Below.trans ?_ (below_mq _ _ ?_) | exact Nat.le_refl _) | (simp; done) | (simp; omega) | omega))⟩
  have hvt := (vtB_iff xs).1 h1
  obtain ⟨⟨d0, d1⟩, d2, d3⟩ := day_bd hvt h2
  have H1 := Lib.hid h1
  have b1 : ((xs.length : Int) == 0) = false := beq_eq_false_iff_ne.2 (by omega)
  obtain ⟨b, off, rfl, hbs, z0, _⟩ := hl.at hv (k := 0) (by omega)
  obtain ⟨b', off', he, _, y0, _⟩ := hl.at hv (k := xs.length - 1) (by omega)
  obtain ⟨rfl, rfl⟩ := addr_same he
  clear he
  have eL : ((xs.length - 1 : Nat) : Int) = (xs.length : Int) - 1 := by omega
  rw [eL] at y0
  rw [show ((0 : Nat) : Int) = 0 from rfl, Nat.zero_mul, Nat.add_zero] at z0
  have z1 : w.cell? ⟨b, off, none⟩ = some (.int .i64 (tD xs 0)) := z0
  have y1 : w.cell? ⟨b, off + (xs.length - 1) * 2, none⟩ = some (.int .i64 (tD xs ((xs.length : Int) - 1))) := y0
  have q3 : (0 : Int) ≤ (xs.length : Int) - 1 := by omega
  have q4 : (1 : Int) ≤ (xs.length : Int) := by omega
  have q5 : ((xs.length : Int) - 1).toNat = xs.length - 1 := by omega
  have q6 : (0 : Int) < (xs.length : Int) := by omega
  have q7 : (xs.length : Int) - 1 < (xs.length : Int) := by omega
  have q8 : IntKind.i64.wrap ((xs.length : Int) - 1) = (xs.length : Int) - 1 := IntWalk.i64_in _ ⟨by omega, by omega⟩
  have q9 : IntKind.i64.wrap (tD xs ((xs.length : Int) - 1) - tD xs 0) = tD xs ((xs.length : Int) - 1) - tD xs 0 := IntWalk.i64_in _ ⟨by omega, by omega⟩
  have hnd : dyN xs = tD xs ((xs.length : Int) - 1) - tD xs 0 := rfl
  clear z0 y0 eL
  have l1 : 400 < dyN xs ∨ dyN xs ≤ 400 := by omega
  rcases l1 with l1 | l1
  · have HR := Lib.hid (cdC_3 h1 h2 l1)
    have HV := Lib.hid (cdL_no (show ¬ cdC xs = 0 by rw [HR.out]; omega))
    rw [hnd] at l1
    clear h1 hnd hvt
    go_enter Try.func53, Try.ntmps53
    (go_wp2_with fail; refine (KV.out _ (by repeat' (first | (with_reducible first | assumption | exact Below.refl _ _ | refine Below.drew ?_ | refine Below.alloc ?_ ?_ _ | refine Below.setCell ?_ ?_ _ | refine below_setR ?_ ?_ _ | refine below_dn ?_ _ | refine Below.trans ?_ (below_mo _ _ _ ?_) | refine Below.trans ?_ (below_mq _ _ ?_) | exact Nat.le_refl _) | (simp; done) | (simp; omega) | omega))).mono ?_; rintro e w' ⟨rfl, hb_⟩; obtain ⟨os0, d0, rfl⟩ := mo_of hb_; clear hb_)
    rw [H1.out]
    go_wp2
    go_quiet (fail)
    go_wp2
    go_returns
    exact ⟨.slice none 0 0, by rw [HR.out]; rfl, by rw [HV.out]; exact World.ownsRow_nil _ _ _ _, (by repeat' (first | (with_reducible first | assumption | exact Below.refl _ _ | refine Below.drew ?_ | refine Below.alloc ?_ ?_ _ | refine Below.setCell ?_ ?_ _ | refine below_setR ?_ ?_ _ | refine below_dn ?_ _ | refine Below.trans ?_ (below_mo _ _ _ ?_) | refine Below.trans ?_ (below_mq _ _ ?_) | exact Nat.le_refl _) | (simp; done) | (simp; omega) | omega))⟩
  · have HR := Lib.hid (cdC_0 h1 h2 (by omega))
    have HV := Lib.hid (cdL_0 HR.out)
    have HVT := Lib.hid hvt
    have HND := Lib.hid hnd
    have l2 : ¬ 400 < tD xs ((xs.length : Int) - 1) - tD xs 0 := by omega
    have l3 : dyN xs ≤ 400 := l1
    have l4 : 0 ≤ dyN xs := by
      by_cases e : xs.length = 1
      · rw [hnd, e]; simp
      · have := vt_lt hvt 0 (xs.length - 1) (by omega) (by omega)
        rw [show ((xs.length - 1 : Nat) : Int) = (xs.length : Int) - 1 by omega, show ((0 : Nat) : Int) = 0 from rfl] at this
        omega
    obtain ⟨i0, hi, hz0, hz1, hz2⟩ := info_parts infoI
    clear h1 hnd hvt l1
    go_enter Try.func53, Try.ntmps53
    (go_wp2_with fail; refine (KV.out _ (by repeat' (first | (with_reducible first | assumption | exact Below.refl _ _ | refine Below.drew ?_ | refine Below.alloc ?_ ?_ _ | refine Below.setCell ?_ ?_ _ | refine below_setR ?_ ?_ _ | refine below_dn ?_ _ | refine Below.trans ?_ (below_mo _ _ _ ?_) | refine Below.trans ?_ (below_mq _ _ ?_) | exact Nat.le_refl _) | (simp; done) | (simp; omega) | omega))).mono ?_; rintro e w' ⟨rfl, hb_⟩; obtain ⟨os0, d0, rfl⟩ := mo_of hb_; clear hb_)
    rw [H1.out]
    go_wp2
    go_quiet (fail)
    go_wp2
    go_loopw [6, 7] (fun v i wr => ∃ k : Nat, (k : Int) ≤ dyN xs ∧ i = .int .i64 (tD xs 0 + k) ∧ wr.ownsRow w.heap.size 2 1 v (dyL xs k).length ((dyL xs k).map (Value.int .i64)) ∧ Below w.heap.size w wr) (fun _ i _ => (tD xs ((xs.length : Int) - 1) - intOf i).toNat)
    case atStart => exact ⟨0, by omega, by simp, own_new _ _ (by first | (simp; done) | (simp; omega)) _ _ (by first | (simp; done) | (simp; omega)), (by repeat' (first | (with_reducible first | assumption | exact Below.refl _ _ | refine Below.drew ?_ | refine Below.alloc ?_ ?_ _ | refine Below.setCell ?_ ?_ _ | refine below_setR ?_ ?_ _ | refine below_dn ?_ _ | refine Below.trans ?_ (below_mo _ _ _ ?_) | refine Below.trans ?_ (below_mq _ _ ?_) | exact Nat.le_refl _) | (simp; done) | (simp; omega) | omega))⟩
    case round =>
      obtain ⟨k, hk, rfl, hown, hnx⟩ := hrel
      have hsize := hnx.size
      have HL : Hid ((dyL xs k).length = k) := dyL_len xs k
      by_cases hlt : (k : Int) < dyN xs
      · have hlt' : tD xs 0 + (k : Int) < tD xs ((xs.length : Int) - 1) := by have := HND.out; omega
        have e1 : IntKind.i64.wrap (tD xs 0 + (k : Int) + 1) = tD xs 0 + (k : Int) + 1 := IntWalk.i64_in _ ⟨by omega, by omega⟩
        have hown0 := hown
        (go_wp2_with fail; refine (more_any hl _ _ (hl.nb hv hnx) k HVT.out h2 hlt).mono ?_; rintro e w2 ⟨rfl, hb2⟩)
        have own2 := (Chg.of_below hb2 (fun _ => False)).row hown (fun _ _ h => h)
        have hnx2 := hnx.trans (hb2.mono hsize)
        have hsz2 := hb2.size
        have hnq : (k : Int) + 1 ≤ dyN xs := by omega
        go_wp2_with (first | (at_builtin; refine wpList_append_own _ rfl _ _ 31 rfl w.heap.size 2 i0 (.int .i64 0) 1 8 undI hi hz0 hz1 hz2 rfl (by decide) _ _ _ rfl (own2.alloc _) ⟨w2.heap.size, 0, none⟩ 1 1 [.int .i64 (dyF xs k)] rfl rfl (cell_one_new _ _ _) (fun x hx => by simp at hx; subst hx; rfl) (by have := HL.out; unfold maxLen; omega) (by have := HL.out; omega) (by simp; omega) ?_; intro v' w3 hown' hgrow3 hnil3))
        exact ⟨⟨k + 1, by omega, by go_num, by rw [dyL_up, List.map_append, List.length_append]; exact hown', (hnx2.alloc (by omega) _).grown hgrow3 (by first | (simp; done) | (simp; omega)) (fun q hq => (hown0.lt q hq).1)⟩, by simp [intOf]; omega⟩
      · have hnd := HND.out
        have hlt' : ¬ tD xs 0 + (k : Int) < tD xs ((xs.length : Int) - 1) := by omega
        have HE : Hid ((dyN xs).toNat = k) := by unfold Hid; omega
        clear hnd
        go_wp2
        go_returns
        exact ⟨u6, by rw [HR.out]; rfl, by rw [HV.out, HE.out]; exact hown, hnx⟩
set_option maxHeartbeats 2000000 in
theorem specDays_any {L : Option Addr} {xs : List (Int × Int)} {V : World} {C : Nat} (hl : Prs .i64 .i64 V C L xs) (cl : Nat) (w : World) (hv : Below C V w) : Calls Try.prog 52 #[.slice L xs.length cl] w (RetL (cdL xs) (cdC xs) w) := by
  have hC := hl.bsz hv
  have hll := hl.len
  have KV := Lib.hid (fun W (hW : Below C V W) => l06Totals_any L xs xs.length cl C W rfl (by unfold maxLen; omega) (hl.bsz hW) (tot_sl hl hW))
  cases h1 : vtB xs
  · have HR := Lib.hid (cdC_1 h1)
    have HV := Lib.hid (cdL_no (show ¬ cdC xs = 0 by rw [HR.out]; omega))
    have H1 := Lib.hid h1
    clear h1
    go_enter Try.func52, Try.ntmps52
    (go_wp2_with fail; refine (KV.out _ (by repeat' (first | (with_reducible first | assumption | exact Below.refl _ _ | refine Below.drew ?_ | refine Below.alloc ?_ ?_ _ | refine Below.setCell ?_ ?_ _ | refine below_setR ?_ ?_ _ | refine below_dn ?_ _ | refine Below.trans ?_ (below_mo _ _ _ ?_) | refine Below.trans ?_ (below_mq _ _ ?_) | exact Nat.le_refl _) | (simp; done) | (simp; omega) | omega))).mono ?_; rintro e w' ⟨rfl, hb_⟩; obtain ⟨os0, d0, rfl⟩ := mo_of hb_; clear hb_)
    rw [H1.out]
    go_wp2
    go_returns
    exact ⟨.slice (some ⟨w.heap.size + os0.size, 0, none⟩) 0 0, by rw [HR.out]; rfl, by rw [HV.out]; exact own_new _ _ (by simp) _ _ (by simp), (by repeat' (first | (with_reducible first | assumption | exact Below.refl _ _ | refine Below.drew ?_ | refine Below.alloc ?_ ?_ _ | refine Below.setCell ?_ ?_ _ | refine below_setR ?_ ?_ _ | refine below_dn ?_ _ | refine Below.trans ?_ (below_mo _ _ _ ?_) | refine Below.trans ?_ (below_mq _ _ ?_) | exact Nat.le_refl _) | (simp; done) | (simp; omega) | omega))⟩
  by_cases h2 : xs.length = 0
  · have HR := Lib.hid (cdC_6 h1 h2)
    have HV := Lib.hid (cdL_no (show ¬ cdC xs = 0 by rw [HR.out]; omega))
    have H1 := Lib.hid h1
    have b1 : ((xs.length : Int) == 0) = true := by rw [h2]; rfl
    clear h1 h2
    go_enter Try.func52, Try.ntmps52
    (go_wp2_with fail; refine (KV.out _ (by repeat' (first | (with_reducible first | assumption | exact Below.refl _ _ | refine Below.drew ?_ | refine Below.alloc ?_ ?_ _ | refine Below.setCell ?_ ?_ _ | refine below_setR ?_ ?_ _ | refine below_dn ?_ _ | refine Below.trans ?_ (below_mo _ _ _ ?_) | refine Below.trans ?_ (below_mq _ _ ?_) | exact Nat.le_refl _) | (simp; done) | (simp; omega) | omega))).mono ?_; rintro e w' ⟨rfl, hb_⟩; obtain ⟨os0, d0, rfl⟩ := mo_of hb_; clear hb_)
    rw [H1.out]
    go_wp2
    go_returns
    exact ⟨.slice (some ⟨w.heap.size + os0.size, 0, none⟩) 0 0, by rw [HR.out]; rfl, by rw [HV.out]; exact own_new _ _ (by simp) _ _ (by simp), (by repeat' (first | (with_reducible first | assumption | exact Below.refl _ _ | refine Below.drew ?_ | refine Below.alloc ?_ ?_ _ | refine Below.setCell ?_ ?_ _ | refine below_setR ?_ ?_ _ | refine below_dn ?_ _ | refine Below.trans ?_ (below_mo _ _ _ ?_) | refine Below.trans ?_ (below_mq _ _ ?_) | exact Nat.le_refl _) | (simp; done) | (simp; omega) | omega))⟩
  have hvt := (vtB_iff xs).1 h1
  obtain ⟨⟨d0, d1⟩, d2, d3⟩ := day_bd hvt h2
  have H1 := Lib.hid h1
  have b1 : ((xs.length : Int) == 0) = false := beq_eq_false_iff_ne.2 (by omega)
  obtain ⟨b, off, rfl, hbs, z0, _⟩ := hl.at hv (k := 0) (by omega)
  obtain ⟨b', off', he, _, y0, _⟩ := hl.at hv (k := xs.length - 1) (by omega)
  obtain ⟨rfl, rfl⟩ := addr_same he
  clear he
  have eL : ((xs.length - 1 : Nat) : Int) = (xs.length : Int) - 1 := by omega
  rw [eL] at y0
  rw [show ((0 : Nat) : Int) = 0 from rfl, Nat.zero_mul, Nat.add_zero] at z0
  have z1 : w.cell? ⟨b, off, none⟩ = some (.int .i64 (tD xs 0)) := z0
  have y1 : w.cell? ⟨b, off + (xs.length - 1) * 2, none⟩ = some (.int .i64 (tD xs ((xs.length : Int) - 1))) := y0
  have q3 : (0 : Int) ≤ (xs.length : Int) - 1 := by omega
  have q4 : (1 : Int) ≤ (xs.length : Int) := by omega
  have q5 : ((xs.length : Int) - 1).toNat = xs.length - 1 := by omega
  have q6 : (0 : Int) < (xs.length : Int) := by omega
  have q7 : (xs.length : Int) - 1 < (xs.length : Int) := by omega
  have q8 : IntKind.i64.wrap ((xs.length : Int) - 1) = (xs.length : Int) - 1 := IntWalk.i64_in _ ⟨by omega, by omega⟩
  have q9 : IntKind.i64.wrap (tD xs ((xs.length : Int) - 1) - tD xs 0) = tD xs ((xs.length : Int) - 1) - tD xs 0 := IntWalk.i64_in _ ⟨by omega, by omega⟩
  have hnd : dyN xs = tD xs ((xs.length : Int) - 1) - tD xs 0 := rfl
  clear z0 y0 eL
  have l1 : 400 < dyN xs ∨ dyN xs ≤ 400 := by omega
  rcases l1 with l1 | l1
  · have HR := Lib.hid (cdC_3 h1 h2 l1)
    have HV := Lib.hid (cdL_no (show ¬ cdC xs = 0 by rw [HR.out]; omega))
    rw [hnd] at l1
    clear h1 hnd hvt
    go_enter Try.func52, Try.ntmps52
    (go_wp2_with fail; refine (KV.out _ (by repeat' (first | (with_reducible first | assumption | exact Below.refl _ _ | refine Below.drew ?_ | refine Below.alloc ?_ ?_ _ | refine Below.setCell ?_ ?_ _ | refine below_setR ?_ ?_ _ | refine below_dn ?_ _ | refine Below.trans ?_ (below_mo _ _ _ ?_) | refine Below.trans ?_ (below_mq _ _ ?_) | exact Nat.le_refl _) | (simp; done) | (simp; omega) | omega))).mono ?_; rintro e w' ⟨rfl, hb_⟩; obtain ⟨os0, d0, rfl⟩ := mo_of hb_; clear hb_)
    rw [H1.out]
    go_wp2
    go_quiet (fail)
    go_wp2
    go_returns
    exact ⟨.slice (some ⟨w.heap.size + os0.size, 0, none⟩) 0 0, by rw [HR.out]; rfl, by rw [HV.out]; exact own_new _ _ (by simp) _ _ (by simp), (by repeat' (first | (with_reducible first | assumption | exact Below.refl _ _ | refine Below.drew ?_ | refine Below.alloc ?_ ?_ _ | refine Below.setCell ?_ ?_ _ | refine below_setR ?_ ?_ _ | refine below_dn ?_ _ | refine Below.trans ?_ (below_mo _ _ _ ?_) | refine Below.trans ?_ (below_mq _ _ ?_) | exact Nat.le_refl _) | (simp; done) | (simp; omega) | omega))⟩
  · have HR := Lib.hid (cdC_0 h1 h2 (by omega))
    have HV := Lib.hid (cdL_0 HR.out)
    have HVT := Lib.hid hvt
    have HND := Lib.hid hnd
    have l2 : ¬ 400 < tD xs ((xs.length : Int) - 1) - tD xs 0 := by omega
    have l3 : dyN xs ≤ 400 := l1
    have l4 : 0 ≤ dyN xs := by
      by_cases e : xs.length = 1
      · rw [hnd, e]; simp
      · have := vt_lt hvt 0 (xs.length - 1) (by omega) (by omega)
        rw [show ((xs.length - 1 : Nat) : Int) = (xs.length : Int) - 1 by omega, show ((0 : Nat) : Int) = 0 from rfl] at this
        omega
    obtain ⟨i0, hi, hz0, hz1, hz2⟩ := info_parts infoI
    clear h1 hnd hvt l1
    go_enter Try.func52, Try.ntmps52
    (go_wp2_with fail; refine (KV.out _ (by repeat' (first | (with_reducible first | assumption | exact Below.refl _ _ | refine Below.drew ?_ | refine Below.alloc ?_ ?_ _ | refine Below.setCell ?_ ?_ _ | refine below_setR ?_ ?_ _ | refine below_dn ?_ _ | refine Below.trans ?_ (below_mo _ _ _ ?_) | refine Below.trans ?_ (below_mq _ _ ?_) | exact Nat.le_refl _) | (simp; done) | (simp; omega) | omega))).mono ?_; rintro e w' ⟨rfl, hb_⟩; obtain ⟨os0, d0, rfl⟩ := mo_of hb_; clear hb_)
    rw [H1.out]
    go_wp2
    go_quiet (fail)
    go_wp2
    go_loopw [5, 6] (fun v i wr => ∃ k : Nat, (k : Int) ≤ dyN xs ∧ i = .int .i64 (tD xs 0 + k) ∧ wr.ownsRow w.heap.size 2 1 v (dyL xs k).length ((dyL xs k).map (Value.int .i64)) ∧ Below w.heap.size w wr) (fun _ i _ => (tD xs ((xs.length : Int) - 1) - intOf i).toNat)
    case atStart => exact ⟨0, by omega, by simp, own_new _ _ (by first | (simp; done) | (simp; omega)) _ _ (by first | (simp; done) | (simp; omega)), (by repeat' (first | (with_reducible first | assumption | exact Below.refl _ _ | refine Below.drew ?_ | refine Below.alloc ?_ ?_ _ | refine Below.setCell ?_ ?_ _ | refine below_setR ?_ ?_ _ | refine below_dn ?_ _ | refine Below.trans ?_ (below_mo _ _ _ ?_) | refine Below.trans ?_ (below_mq _ _ ?_) | exact Nat.le_refl _) | (simp; done) | (simp; omega) | omega))⟩
    case round =>
      obtain ⟨k, hk, rfl, hown, hnx⟩ := hrel
      have hsize := hnx.size
      have HL : Hid ((dyL xs k).length = k) := dyL_len xs k
      by_cases hlt : (k : Int) < dyN xs
      · have hlt' : tD xs 0 + (k : Int) < tD xs ((xs.length : Int) - 1) := by have := HND.out; omega
        have e1 : IntKind.i64.wrap (tD xs 0 + (k : Int) + 1) = tD xs 0 + (k : Int) + 1 := IntWalk.i64_in _ ⟨by omega, by omega⟩
        have hown0 := hown
        have hnd' := HND.out
        have c0 := cov_at h2 (k := k) (by omega)
        have c1 := cov_at h2 (k := k + 1) (by omega)
        rw [show tD xs 0 + ((k + 1 : Nat) : Int) = tD xs 0 + k + 1 by omega] at c1
        have b0 := onV_bd HVT.out c0
        have b1' := onV_bd HVT.out c1
        have e3 : IntKind.i64.wrap (onV xs (tD xs 0 + (k : Int) + 1) - onV xs (tD xs 0 + (k : Int))) = dyF xs k := IntWalk.i64_in _ ⟨by omega, by omega⟩
        have K1 := Lib.hid (fun W (hW : Below C V W) => l06On_cov (some ⟨b, off, none⟩) xs xs.length cl C (tD xs 0 + k + 1) W rfl (hl.bsz hW) (tot_sl hl hW) HVT.out c1 ⟨by omega, by omega⟩)
        have K0 := Lib.hid (fun W (hW : Below C V W) => l06On_cov (some ⟨b, off, none⟩) xs xs.length cl C (tD xs 0 + k) W rfl (hl.bsz hW) (tot_sl hl hW) HVT.out c0 ⟨by omega, by omega⟩)
        have y2 := (hnx.cell (p := ⟨b, off + (xs.length - 1) * 2, none⟩) hbs).trans y1
        have hbr : b < wr.heap.size := by omega
        have hvr := hl.nb hv hnx
        clear c0 c1 hnd' b0 b1'
        (go_wp2_with fail; refine (K0.out _ hvr).mono ?_; rintro e w4 ⟨rfl, hb4⟩)
        (go_wp2_with fail; refine (K1.out _ (hl.nb hvr hb4)).mono ?_; rintro e w2 ⟨rfl, hb5⟩)
        have hb2 := hb4.trans (hb5.mono hb4.size)
        have own2 := (Chg.of_below hb2 (fun _ => False)).row hown (fun _ _ h => h)
        have hnx2 := hnx.trans (hb2.mono hsize)
        have hsz2 := hb2.size
        clear y2
        have hnq : (k : Int) + 1 ≤ dyN xs := by omega
        go_wp2_with (first | (at_builtin; refine wpList_append_own _ rfl _ _ 31 rfl w.heap.size 2 i0 (.int .i64 0) 1 8 undI hi hz0 hz1 hz2 rfl (by decide) _ _ _ rfl (own2.alloc _) ⟨w2.heap.size, 0, none⟩ 1 1 [.int .i64 (dyF xs k)] rfl rfl (cell_one_new _ _ _) (fun x hx => by simp at hx; subst hx; rfl) (by have := HL.out; unfold maxLen; omega) (by have := HL.out; omega) (by simp; omega) ?_; intro v' w3 hown' hgrow3 hnil3))
        exact ⟨⟨k + 1, by omega, by go_num, by rw [dyL_up, List.map_append, List.length_append]; exact hown', (hnx2.alloc (by omega) _).grown hgrow3 (by first | (simp; done) | (simp; omega)) (fun q hq => (hown0.lt q hq).1)⟩, by simp [intOf]; omega⟩
      · have y2 := (hnx.cell (p := ⟨b, off + (xs.length - 1) * 2, none⟩) hbs).trans y1
        have hbr : b < wr.heap.size := by omega
        have hnd := HND.out
        have hlt' : ¬ tD xs 0 + (k : Int) < tD xs ((xs.length : Int) - 1) := by omega
        have HE : Hid ((dyN xs).toNat = k) := by unfold Hid; omega
        clear hnd
        go_wp2
        go_returns
        exact ⟨u5, by rw [HR.out]; rfl, by rw [HV.out, HE.out]; exact hown, hnx⟩
end Go.Proofs.Ytaahfebnbholmaa.X
