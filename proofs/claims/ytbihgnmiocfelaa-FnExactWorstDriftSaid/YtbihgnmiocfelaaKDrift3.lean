/- WorstDrift of the program. Conditions: none. -/
import Derived.Test.YtbihgnmiocfelaaKDrift2
namespace Go.Proofs.Ytbihgnmiocfelaa.X
open Go.RowKit
set_option linter.unusedVariables false
set_option linter.unusedSimpArgs false
set_option maxRecDepth 100000
theorem wd_cases {xs ys : List (Int × Int)} (hx : vtB xs = true) (hy : vtB ys = true) : ((-1 ≤ (coD xs ys).1 ∧ (coD xs ys).1 ≤ 100000) ∧ -1 ≤ (coD xs ys).2 ∧ (coD xs ys).2 ≤ 100000) ∧ ((wdC xs ys = 6 ∧ (coD xs ys).2 < (coD xs ys).1) ∨ (wdC xs ys = 3 ∧ ¬ (coD xs ys).2 < (coD xs ys).1 ∧ 400 < (coD xs ys).2 - (coD xs ys).1 + 1) ∨ (wdC xs ys = 0 ∧ coD xs ys = (cF xs ys, cL xs ys))) := by
  have hW := wdC_v hx hy
  by_cases a : xs.length = 0 ∨ ys.length = 0
  · rw [if_pos a] at hW
    have e : coD xs ys = (0, -1) := by unfold coD; rw [if_pos a]
    rw [e]
    exact ⟨⟨by omega, by omega⟩, .inl ⟨hW, by omega⟩⟩
  · rw [if_neg a] at hW
    have e : coD xs ys = (cF xs ys, cL xs ys) := by unfold coD; rw [if_neg a]
    have cb := com_bd ((vtB_iff xs).1 hx) ((vtB_iff ys).1 hy) (fun h => a (.inl h)) (fun h => a (.inr h))
    rw [e]
    refine ⟨⟨by omega, by omega⟩, ?_⟩
    by_cases b : cL xs ys < cF xs ys
    · rw [if_pos b] at hW; exact .inl ⟨hW, b⟩
    · rw [if_neg b] at hW
      by_cases c : 400 < cL xs ys - cF xs ys + 1
      · rw [if_pos c] at hW; exact .inr (.inl ⟨hW, b, c⟩)
      · rw [if_neg c] at hW; exact .inr (.inr ⟨hW, rfl⟩)
noncomputable def drL (xs ys : List (Int × Int)) (k : Nat) : List Int := (List.range k).map (drF xs ys)
theorem drL_len (xs ys : List (Int × Int)) (k : Nat) : (drL xs ys k).length = k := by simp [drL]
theorem drL_up (xs ys : List (Int × Int)) (k : Nat) : drL xs ys (k + 1) = drL xs ys k ++ [drF xs ys k] := by simp [drL, List.range_succ]
theorem drL_el {xs ys : List (Int × Int)} {n k : Nat} (h : k < n) : el (drL xs ys n) (k : Int) = drF xs ys k := by
  unfold el drL
  rw [Int.toNat_natCast, List.getD_eq_getElem?_getD, List.getElem?_map, List.getElem?_range h]; rfl
/-- The call hands back drifts, the first day and a code. -/
def RetDr (ds : List Int) (f c : Int) (w : World) (e : Ending) (w' : World) : Prop :=
  ∃ v, e = .returned (.tuple #[v, .int .i64 f, .int .i64 c]) ∧ w'.ownsRow w.heap.size 2 1 v ds.length (ds.map (Value.int .i64)) ∧ Below w.heap.size w w'
set_option maxHeartbeats 4000000 in
theorem drifts_no {A B : Option Addr} {xs ys : List (Int × Int)} {V V2 : World} {C C2 : Nat} (hl : Prs .i64 .i64 V C A xs) (c1 : Nat) (hl2 : Prs .i64 .i64 V2 C2 B ys) (c2 : Nat) (w : World) (hv : Below C V w) (hv2 : Below C2 V2 w) (h0 : ¬ wdC xs ys = 0) :
    Calls Try.prog 142 #[.slice A xs.length c1, .slice B ys.length c2] w (RetDr [] 0 (wdC xs ys) w) := by
  have hC := hl.bsz hv
  have hC2 := hl2.bsz hv2
  have hll := hl.len
  have hll2 := hl2.len
  have KX := Lib.hid (fun W (hW : Below C V W) => implValidTotals_any A xs xs.length c1 C W rfl (by unfold maxLen; omega) (hl.bsz hW) (tot_sl hl hW))
  have KY := Lib.hid (fun W (hW : Below C2 V2 W) => implValidTotals_any B ys ys.length c2 C2 W rfl (by unfold maxLen; omega) (hl2.bsz hW) (tot_sl hl2 hW))
  cases hx : vtB xs
  · have HR := Lib.hid (wdC_1 (xs := xs) (ys := ys) (fun h => by rw [hx] at h; exact absurd h.1 (by simp)))
    rw [hx] at KX
    go_enter Try.func142, Try.ntmps142
    (go_wp2_with fail; refine (KX.out _ (by repeat' (first | (with_reducible first | assumption | exact Below.refl _ _ | refine Below.drew ?_ | refine Below.alloc ?_ ?_ _ | refine Below.setCell ?_ ?_ _ | refine below_setR ?_ ?_ _ | refine below_dn ?_ _ | refine Below.trans ?_ (below_mo _ _ _ ?_) | refine Below.trans ?_ (below_mq _ _ ?_) | exact Nat.le_refl _) | (simp; done) | (simp; omega) | omega))).mono ?_; rintro e w' ⟨rfl, hb_⟩; obtain ⟨os1, d1, rfl⟩ := mo_of hb_; clear hb_)
    go_wp2
    go_returns
    exact ⟨.slice none 0 0, by rw [HR.out]; rfl, World.ownsRow_nil _ _ _ _, (by repeat' (first | (with_reducible first | assumption | exact Below.refl _ _ | refine Below.drew ?_ | refine Below.alloc ?_ ?_ _ | refine Below.setCell ?_ ?_ _ | refine below_setR ?_ ?_ _ | refine below_dn ?_ _ | refine Below.trans ?_ (below_mo _ _ _ ?_) | refine Below.trans ?_ (below_mq _ _ ?_) | exact Nat.le_refl _) | (simp; done) | (simp; omega) | omega))⟩
  cases hy : vtB ys
  · have HR := Lib.hid (wdC_1 (xs := xs) (ys := ys) (fun h => by rw [hy] at h; exact absurd h.2 (by simp)))
    rw [hx] at KX
    rw [hy] at KY
    go_enter Try.func142, Try.ntmps142
    (go_wp2_with fail; refine (KX.out _ (by repeat' (first | (with_reducible first | assumption | exact Below.refl _ _ | refine Below.drew ?_ | refine Below.alloc ?_ ?_ _ | refine Below.setCell ?_ ?_ _ | refine below_setR ?_ ?_ _ | refine below_dn ?_ _ | refine Below.trans ?_ (below_mo _ _ _ ?_) | refine Below.trans ?_ (below_mq _ _ ?_) | exact Nat.le_refl _) | (simp; done) | (simp; omega) | omega))).mono ?_; rintro e w' ⟨rfl, hb_⟩; obtain ⟨os1, d1, rfl⟩ := mo_of hb_; clear hb_)
    (go_wp2_with fail; refine (KY.out _ (by repeat' (first | (with_reducible first | assumption | exact Below.refl _ _ | refine Below.drew ?_ | refine Below.alloc ?_ ?_ _ | refine Below.setCell ?_ ?_ _ | refine below_setR ?_ ?_ _ | refine below_dn ?_ _ | refine Below.trans ?_ (below_mo _ _ _ ?_) | refine Below.trans ?_ (below_mq _ _ ?_) | exact Nat.le_refl _) | (simp; done) | (simp; omega) | omega))).mono ?_; rintro e w' ⟨rfl, hb_⟩; obtain ⟨os2, d2, rfl⟩ := mo_of hb_; clear hb_)
    go_wp2
    go_returns
    exact ⟨.slice none 0 0, by rw [HR.out]; rfl, World.ownsRow_nil _ _ _ _, (by repeat' (first | (with_reducible first | assumption | exact Below.refl _ _ | refine Below.drew ?_ | refine Below.alloc ?_ ?_ _ | refine Below.setCell ?_ ?_ _ | refine below_setR ?_ ?_ _ | refine below_dn ?_ _ | refine Below.trans ?_ (below_mo _ _ _ ?_) | refine Below.trans ?_ (below_mq _ _ ?_) | exact Nat.le_refl _) | (simp; done) | (simp; omega) | omega))⟩
  · have KC := Lib.hid (fun W (h1 : Below C V W) (h2 : Below C2 V2 W) (g : Nat) (a : W.cell? ⟨g, 0, none⟩ = some (.slice A xs.length c1)) (b : W.cell? ⟨g, 1, none⟩ = some (.slice B ys.length c2)) => commonDays_any hl c1 hl2 c2 W h1 h2 hx hy g a b)
    obtain ⟨cb, cc⟩ := wd_cases hx hy
    obtain ⟨F, hF⟩ : ∃ F, F = (coD xs ys).1 := ⟨_, rfl⟩
    obtain ⟨L, hL⟩ : ∃ L, L = (coD xs ys).2 := ⟨_, rfl⟩
    rw [← hF, ← hL] at cb cc KC
    have e1 : IntKind.i64.wrap (L - F) = L - F := IntWalk.i64_in _ ⟨by omega, by omega⟩
    have e2' : IntKind.i64.wrap (L - F + 1) = L - F + 1 := IntWalk.i64_in _ ⟨by omega, by omega⟩
    rw [hx] at KX
    rw [hy] at KY
    rcases cc with ⟨hR, l1⟩ | ⟨hR, l1, l2⟩ | ⟨hR, _⟩
    · have HR := Lib.hid hR
      clear hR hF hL cb hx hy h0
      go_enter Try.func142, Try.ntmps142
      (go_wp2_with fail; refine (KX.out _ (by repeat' (first | (with_reducible first | assumption | exact Below.refl _ _ | refine Below.drew ?_ | refine Below.alloc ?_ ?_ _ | refine Below.setCell ?_ ?_ _ | refine below_setR ?_ ?_ _ | refine below_dn ?_ _ | refine Below.trans ?_ (below_mo _ _ _ ?_) | refine Below.trans ?_ (below_mq _ _ ?_) | exact Nat.le_refl _) | (simp; done) | (simp; omega) | omega))).mono ?_; rintro e w' ⟨rfl, hb_⟩; obtain ⟨os1, d1, rfl⟩ := mo_of hb_; clear hb_)
      (go_wp2_with fail; refine (KY.out _ (by repeat' (first | (with_reducible first | assumption | exact Below.refl _ _ | refine Below.drew ?_ | refine Below.alloc ?_ ?_ _ | refine Below.setCell ?_ ?_ _ | refine below_setR ?_ ?_ _ | refine below_dn ?_ _ | refine Below.trans ?_ (below_mo _ _ _ ?_) | refine Below.trans ?_ (below_mq _ _ ?_) | exact Nat.le_refl _) | (simp; done) | (simp; omega) | omega))).mono ?_; rintro e w' ⟨rfl, hb_⟩; obtain ⟨os2, d2, rfl⟩ := mo_of hb_; clear hb_)
      (go_wp2_with fail; refine (KC.out _ (by repeat' (first | (with_reducible first | assumption | exact Below.refl _ _ | refine Below.drew ?_ | refine Below.alloc ?_ ?_ _ | refine Below.setCell ?_ ?_ _ | refine below_setR ?_ ?_ _ | refine below_dn ?_ _ | refine Below.trans ?_ (below_mo _ _ _ ?_) | refine Below.trans ?_ (below_mq _ _ ?_) | exact Nat.le_refl _) | (simp; done) | (simp; omega) | omega)) (by repeat' (first | (with_reducible first | assumption | exact Below.refl _ _ | refine Below.drew ?_ | refine Below.alloc ?_ ?_ _ | refine Below.setCell ?_ ?_ _ | refine below_setR ?_ ?_ _ | refine below_dn ?_ _ | refine Below.trans ?_ (below_mo _ _ _ ?_) | refine Below.trans ?_ (below_mq _ _ ?_) | exact Nat.le_refl _) | (simp; done) | (simp; omega) | omega)) _ (by first | (simp [go_sem]; done) | (simp [go_sem]; rfl)) (by first | (simp [go_sem]; done) | (simp [go_sem]; rfl))).mono ?_; rintro e w' ⟨rfl, hb_⟩; obtain ⟨os3, d3, rfl⟩ := mo_of hb_; clear hb_)
      go_wp2
      go_returns
      exact ⟨.slice none 0 0, by rw [HR.out]; rfl, World.ownsRow_nil _ _ _ _, (by repeat' (first | (with_reducible first | assumption | exact Below.refl _ _ | refine Below.drew ?_ | refine Below.alloc ?_ ?_ _ | refine Below.setCell ?_ ?_ _ | refine below_setR ?_ ?_ _ | refine below_dn ?_ _ | refine Below.trans ?_ (below_mo _ _ _ ?_) | refine Below.trans ?_ (below_mq _ _ ?_) | exact Nat.le_refl _) | (simp; done) | (simp; omega) | omega))⟩
    · have HR := Lib.hid hR
      clear hR hF hL cb hx hy h0
      go_enter Try.func142, Try.ntmps142
      (go_wp2_with fail; refine (KX.out _ (by repeat' (first | (with_reducible first | assumption | exact Below.refl _ _ | refine Below.drew ?_ | refine Below.alloc ?_ ?_ _ | refine Below.setCell ?_ ?_ _ | refine below_setR ?_ ?_ _ | refine below_dn ?_ _ | refine Below.trans ?_ (below_mo _ _ _ ?_) | refine Below.trans ?_ (below_mq _ _ ?_) | exact Nat.le_refl _) | (simp; done) | (simp; omega) | omega))).mono ?_; rintro e w' ⟨rfl, hb_⟩; obtain ⟨os1, d1, rfl⟩ := mo_of hb_; clear hb_)
      (go_wp2_with fail; refine (KY.out _ (by repeat' (first | (with_reducible first | assumption | exact Below.refl _ _ | refine Below.drew ?_ | refine Below.alloc ?_ ?_ _ | refine Below.setCell ?_ ?_ _ | refine below_setR ?_ ?_ _ | refine below_dn ?_ _ | refine Below.trans ?_ (below_mo _ _ _ ?_) | refine Below.trans ?_ (below_mq _ _ ?_) | exact Nat.le_refl _) | (simp; done) | (simp; omega) | omega))).mono ?_; rintro e w' ⟨rfl, hb_⟩; obtain ⟨os2, d2, rfl⟩ := mo_of hb_; clear hb_)
      (go_wp2_with fail; refine (KC.out _ (by repeat' (first | (with_reducible first | assumption | exact Below.refl _ _ | refine Below.drew ?_ | refine Below.alloc ?_ ?_ _ | refine Below.setCell ?_ ?_ _ | refine below_setR ?_ ?_ _ | refine below_dn ?_ _ | refine Below.trans ?_ (below_mo _ _ _ ?_) | refine Below.trans ?_ (below_mq _ _ ?_) | exact Nat.le_refl _) | (simp; done) | (simp; omega) | omega)) (by repeat' (first | (with_reducible first | assumption | exact Below.refl _ _ | refine Below.drew ?_ | refine Below.alloc ?_ ?_ _ | refine Below.setCell ?_ ?_ _ | refine below_setR ?_ ?_ _ | refine below_dn ?_ _ | refine Below.trans ?_ (below_mo _ _ _ ?_) | refine Below.trans ?_ (below_mq _ _ ?_) | exact Nat.le_refl _) | (simp; done) | (simp; omega) | omega)) _ (by first | (simp [go_sem]; done) | (simp [go_sem]; rfl)) (by first | (simp [go_sem]; done) | (simp [go_sem]; rfl))).mono ?_; rintro e w' ⟨rfl, hb_⟩; obtain ⟨os3, d3, rfl⟩ := mo_of hb_; clear hb_)
      go_wp2
      go_returns
      exact ⟨.slice none 0 0, by rw [HR.out]; rfl, World.ownsRow_nil _ _ _ _, (by repeat' (first | (with_reducible first | assumption | exact Below.refl _ _ | refine Below.drew ?_ | refine Below.alloc ?_ ?_ _ | refine Below.setCell ?_ ?_ _ | refine below_setR ?_ ?_ _ | refine below_dn ?_ _ | refine Below.trans ?_ (below_mo _ _ _ ?_) | refine Below.trans ?_ (below_mq _ _ ?_) | exact Nat.le_refl _) | (simp; done) | (simp; omega) | omega))⟩
    · exact absurd hR h0
set_option maxHeartbeats 4000000 in
theorem drifts_ok {A B : Option Addr} {xs ys : List (Int × Int)} {V V2 : World} {C C2 : Nat} (hl : Prs .i64 .i64 V C A xs) (c1 : Nat) (hl2 : Prs .i64 .i64 V2 C2 B ys) (c2 : Nat) (w : World) (hv : Below C V w) (hv2 : Below C2 V2 w) (h0 : wdC xs ys = 0) (n : Nat) (hn : (cL xs ys - cF xs ys).toNat = n) :
    Calls Try.prog 142 #[.slice A xs.length c1, .slice B ys.length c2] w (RetDr (drL xs ys (n + 1)) (cF xs ys) 0 w) := by
  have hC := hl.bsz hv
  have hC2 := hl2.bsz hv2
  have hll := hl.len
  have hll2 := hl2.len
  have KX := Lib.hid (fun W (hW : Below C V W) => implValidTotals_any A xs xs.length c1 C W rfl (by unfold maxLen; omega) (hl.bsz hW) (tot_sl hl hW))
  have KY := Lib.hid (fun W (hW : Below C2 V2 W) => implValidTotals_any B ys ys.length c2 C2 W rfl (by unfold maxLen; omega) (hl2.bsz hW) (tot_sl hl2 hW))
  obtain ⟨vx, vy, x0, y0, fl, le⟩ := wd_parts h0
  have hx := (vtB_iff xs).2 vx
  have hy := (vtB_iff ys).2 vy
  have KC := Lib.hid (fun W (h1 : Below C V W) (h2 : Below C2 V2 W) (g : Nat) (a : W.cell? ⟨g, 0, none⟩ = some (.slice A xs.length c1)) (b : W.cell? ⟨g, 1, none⟩ = some (.slice B ys.length c2)) => commonDays_any hl c1 hl2 c2 W h1 h2 hx hy g a b)
  rw [show coD xs ys = (cF xs ys, cL xs ys) by unfold coD; rw [if_neg (by omega)]] at KC
  rw [hx] at KX
  rw [hy] at KY
  have hLn : cL xs ys = cF xs ys + (n : Int) := by omega
  have cb := com_bd vx vy x0 y0
  have KA : Hid (∀ k : Nat, k ≤ n → ∀ W, Below C V W → Calls Try.prog 248 #[.slice A xs.length c1, .int .i64 (cF xs ys + (k : Int))] W fun e w' => e = .returned (.int .i64 (onV xs (cF xs ys + (k : Int)))) ∧ Below W.heap.size W w') := fun k hk W h1 =>
    countOn_any A xs xs.length c1 C _ W rfl (hl.bsz h1) (tot_sl hl h1) vx (com_cov x0 y0 (by omega)).1 ⟨by omega, by omega⟩
  have KB : Hid (∀ k : Nat, k ≤ n → ∀ W, Below C2 V2 W → Calls Try.prog 248 #[.slice B ys.length c2, .int .i64 (cF xs ys + (k : Int))] W fun e w' => e = .returned (.int .i64 (onV ys (cF xs ys + (k : Int)))) ∧ Below W.heap.size W w') := fun k hk W h1 =>
    countOn_any B ys ys.length c2 C2 _ W rfl (hl2.bsz h1) (tot_sl hl2 h1) vy (com_cov x0 y0 (by omega)).2 ⟨by omega, by omega⟩
  have KE : Hid (∀ k : Nat, k ≤ n → IntKind.i64.wrap (onV xs (cF xs ys + (k : Int)) - onV ys (cF xs ys + (k : Int))) = drF xs ys k) := fun k hk => by
    have := drF_bd vx vy x0 y0 (k := k) (by omega)
    exact IntWalk.i64_in _ ⟨by unfold drF at this; omega, by unfold drF at this; omega⟩
  obtain ⟨F, hF⟩ : ∃ F, F = cF xs ys := ⟨_, rfl⟩
  rw [hLn] at KC
  rw [← hF] at KC KA KB KE cb
  have hF0 : 0 ≤ F ∧ F ≤ 100000 := cb.1
  have hn4 : n ≤ 399 := by omega
  have l1 : ¬ F + (n : Int) < F := by omega
  have e1 : IntKind.i64.wrap (F + (n : Int) - F) = (n : Int) := (IntWalk.i64_in _ ⟨by omega, by omega⟩).trans (by omega)
  have e2' : IntKind.i64.wrap ((n : Int) + 1) = (n : Int) + 1 := IntWalk.i64_in _ ⟨by omega, by omega⟩
  have l2 : ¬ (400 : Int) < (n : Int) + 1 := by omega
  have HF := Lib.hid hF
  obtain ⟨i0, hi, hz0, hz1, hz2⟩ := info_parts infoI
  clear vx vy x0 y0 fl le cb h0 hn hLn hF hx hy
  go_enter Try.func142, Try.ntmps142
  (go_wp2_with fail; refine (KX.out _ (by repeat' (first | (with_reducible first | assumption | exact Below.refl _ _ | refine Below.drew ?_ | refine Below.alloc ?_ ?_ _ | refine Below.setCell ?_ ?_ _ | refine below_setR ?_ ?_ _ | refine below_dn ?_ _ | refine Below.trans ?_ (below_mo _ _ _ ?_) | refine Below.trans ?_ (below_mq _ _ ?_) | exact Nat.le_refl _) | (simp; done) | (simp; omega) | omega))).mono ?_; rintro e w' ⟨rfl, hb_⟩; obtain ⟨os1, d1, rfl⟩ := mo_of hb_; clear hb_)
  (go_wp2_with fail; refine (KY.out _ (by repeat' (first | (with_reducible first | assumption | exact Below.refl _ _ | refine Below.drew ?_ | refine Below.alloc ?_ ?_ _ | refine Below.setCell ?_ ?_ _ | refine below_setR ?_ ?_ _ | refine below_dn ?_ _ | refine Below.trans ?_ (below_mo _ _ _ ?_) | refine Below.trans ?_ (below_mq _ _ ?_) | exact Nat.le_refl _) | (simp; done) | (simp; omega) | omega))).mono ?_; rintro e w' ⟨rfl, hb_⟩; obtain ⟨os2, d2, rfl⟩ := mo_of hb_; clear hb_)
  (go_wp2_with fail; refine (KC.out _ (by repeat' (first | (with_reducible first | assumption | exact Below.refl _ _ | refine Below.drew ?_ | refine Below.alloc ?_ ?_ _ | refine Below.setCell ?_ ?_ _ | refine below_setR ?_ ?_ _ | refine below_dn ?_ _ | refine Below.trans ?_ (below_mo _ _ _ ?_) | refine Below.trans ?_ (below_mq _ _ ?_) | exact Nat.le_refl _) | (simp; done) | (simp; omega) | omega)) (by repeat' (first | (with_reducible first | assumption | exact Below.refl _ _ | refine Below.drew ?_ | refine Below.alloc ?_ ?_ _ | refine Below.setCell ?_ ?_ _ | refine below_setR ?_ ?_ _ | refine below_dn ?_ _ | refine Below.trans ?_ (below_mo _ _ _ ?_) | refine Below.trans ?_ (below_mq _ _ ?_) | exact Nat.le_refl _) | (simp; done) | (simp; omega) | omega)) _ (by first | (simp [go_sem]; done) | (simp [go_sem]; rfl)) (by first | (simp [go_sem]; done) | (simp [go_sem]; rfl))).mono ?_; rintro e w' ⟨rfl, hb_⟩; obtain ⟨os3, d3, rfl⟩ := mo_of hb_; clear hb_)
  go_wp2
  go_loopw [9, 10] (fun v i wr => ∃ k : Nat, k ≤ n + 1 ∧ i = .int .i64 (F + (k : Int)) ∧ wr.ownsRow w.heap.size 2 1 v (drL xs ys k).length ((drL xs ys k).map (Value.int .i64)) ∧ Below w.heap.size w wr) (fun _ i _ => (F + (n : Int) + 1 - intOf i).toNat)
  case atStart => exact ⟨0, by omega, by simp, own_new _ _ (by first | (simp; done) | (simp; omega)) _ _ (by first | (simp; done) | (simp; omega)), (by repeat' (first | (with_reducible first | assumption | exact Below.refl _ _ | refine Below.drew ?_ | refine Below.alloc ?_ ?_ _ | refine Below.setCell ?_ ?_ _ | refine below_setR ?_ ?_ _ | refine below_dn ?_ _ | refine Below.trans ?_ (below_mo _ _ _ ?_) | refine Below.trans ?_ (below_mq _ _ ?_) | exact Nat.le_refl _) | (simp; done) | (simp; omega) | omega))⟩
  case round =>
    obtain ⟨k, hk, rfl, hown, hnx⟩ := hrel
    have hsize := hnx.size
    have HL : Hid ((drL xs ys k).length = k) := drL_len xs ys k
    by_cases hlt : k ≤ n
    · have hlt' : F + (k : Int) ≤ F + (n : Int) := by omega
      have e3 : IntKind.i64.wrap (F + (k : Int) + 1) = F + (k : Int) + 1 := IntWalk.i64_in _ ⟨by omega, by omega⟩
      have e4 := KE.out k hlt
      have HA := Lib.hid (KA.out k hlt)
      have HB := Lib.hid (KB.out k hlt)
      have hown0 := hown
      (go_wp2_with fail; refine (HA.out _ (hl.nb hv hnx)).mono ?_; rintro e w4 ⟨rfl, hb4⟩)
      (go_wp2_with fail; refine (HB.out _ (hl2.nb (hl2.nb hv2 hnx) hb4)).mono ?_; rintro e w2 ⟨rfl, hb5⟩)
      have hb2 := hb4.trans (hb5.mono hb4.size)
      have own2 := (Chg.of_below hb2 (fun _ => False)).row hown (fun _ _ h => h)
      have hnx2 := hnx.trans (hb2.mono hsize)
      have hsz2 := hb2.size
      go_wp2_with (first | (at_builtin; refine wpList_append_own _ rfl _ _ 47 rfl w.heap.size 2 i0 (.int .i64 0) 1 8 undI hi hz0 hz1 hz2 rfl (by decide) _ _ _ rfl (own2.alloc _) ⟨w2.heap.size, 0, none⟩ 1 1 [.int .i64 (drF xs ys k)] rfl rfl (cell_one_new _ _ _) (fun x hx => by simp at hx; subst hx; rfl) (by have := HL.out; unfold maxLen; omega) (by have := HL.out; omega) (by simp; omega) ?_; intro v' w3 hown' hgrow3 hnil3))
      exact ⟨⟨k + 1, by omega, by go_num, by rw [drL_up, List.map_append, List.length_append]; exact hown', (hnx2.alloc (by omega) _).grown hgrow3 (by first | (simp; done) | (simp; omega)) (fun q hq => (hown0.lt q hq).1)⟩, by simp [intOf]; omega⟩
    · obtain rfl : k = n + 1 := by omega
      have hlt' : ¬ F + ((n + 1 : Nat) : Int) ≤ F + (n : Int) := by omega
      have hlt2 : ¬ F + ((n : Int) + 1) ≤ F + (n : Int) := by omega
      go_wp2
      go_returns
      exact ⟨u9, by rw [HF.out]; rfl, hown, hnx⟩
set_option maxHeartbeats 4000000 in
theorem implWorst_any {A B : Option Addr} {xs ys : List (Int × Int)} {V V2 : World} {C C2 : Nat} (hl : Prs .i64 .i64 V C A xs) (c1 : Nat) (hl2 : Prs .i64 .i64 V2 C2 B ys) (c2 : Nat) (w : World) (hv : Below C V w) (hv2 : Below C2 V2 w) :
    Calls Try.prog 35 #[.slice A xs.length c1, .slice B ys.length c2] w fun e w' => e = .returned (.tuple #[.int .i64 (wdV xs ys).1, .int .i64 (wdV xs ys).2, .int .i64 (wdC xs ys)]) ∧ Below w.heap.size w w' := by
  by_cases h0 : wdC xs ys = 0
  · obtain ⟨vx, vy, x0, y0, fl, le⟩ := wd_parts h0
    have cb := com_bd vx vy x0 y0
    have HR := Lib.hid (wdV_0 h0)
    have H0 := Lib.hid h0
    obtain ⟨n, hn⟩ : ∃ n : Nat, (cL xs ys - cF xs ys).toNat = n := ⟨_, rfl⟩
    rw [hn] at HR
    have KD := Lib.hid (drifts_ok hl c1 hl2 c2 w hv hv2 h0 n hn)
    have KE : Hid (∀ k : Nat, k ≤ n → -200000000000000000 ≤ drF xs ys k ∧ drF xs ys k ≤ 200000000000000000) := fun k hk => drF_bd vx vy x0 y0 (by omega)
    obtain ⟨F, hF⟩ : ∃ F, F = cF xs ys := ⟨_, rfl⟩
    rw [← hF] at KD HR cb
    have hF0 : 0 ≤ F ∧ F ≤ 100000 := cb.1
    have hn4 : n ≤ 399 := by omega
    have hDL := drL_len xs ys (n + 1)
    clear vx vy x0 y0 fl le cb h0 hn hF
    go_enter Try.func35, Try.ntmps35
    (go_wp2_with fail; refine KD.out.mono ?_; rintro e w1 ⟨v1, rfl, own1, hb1⟩)
    obtain ⟨A1, cc1, hv1, N1⟩ := own_nums own1 (by omega)
    subst hv1
    have hB1 := hb1.size
    rw [hDL]
    clear own1 KD
    go_wp2
    go_loopw [10, 25] (fun a i wr => ∃ (k : Nat) (os : Array Obj) (dn : Nat), k ≤ n + 1 ∧ a = .int .i64 (wb (drF xs ys) (k - 1) : Int) ∧ i = .int .i64 (k : Int) ∧ wr = mo w1 os dn) (fun _ i _ => n + 1 - (intOf i).toNat)
    case atStart => exact ⟨0, #[], _, Nat.zero_le _, rfl, rfl, (mo_nil _).symm⟩
    case round =>
      obtain ⟨k, os, dn, hk, rfl, rfl, rfl⟩ := hrel
      by_cases hlt : k < n + 1
      · have hw := wb_le (drF xs ys) (k - 1)
        obtain ⟨b, off, hA, hbs, hc0⟩ := N1.at (w := w1) (Below.refl _ _) (k := k) (by omega)
        subst hA
        obtain ⟨b', off', hA, _, hc1⟩ := N1.at (w := w1) (Below.refl _ _) (k := wb (drF xs ys) (k - 1)) (by omega)
        obtain ⟨rfl, rfl⟩ := addr_same hA
        rw [drL_el hlt] at hc0
        rw [drL_el (by omega)] at hc1
        have ⟨a0, a1⟩ := KE.out k (by omega)
        have ⟨a2, a3⟩ := KE.out (wb (drF xs ys) (k - 1)) (by omega)
        have HW1 : Hid (abI (drF xs ys (wb (drF xs ys) (k - 1))) < abI (drF xs ys k) → wb (drF xs ys) (k + 1 - 1) = k) := fun h => by
          cases k with
          | zero => exact absurd h (by simp [wb])
          | succ k => exact wb_yes h
        have HW2 : Hid (¬ abI (drF xs ys (wb (drF xs ys) (k - 1))) < abI (drF xs ys k) → wb (drF xs ys) (k + 1 - 1) = wb (drF xs ys) (k - 1)) := fun h => by
          cases k with
          | zero => rfl
          | succ k => exact wb_no h
        obtain ⟨j, hj⟩ : ∃ j, j = wb (drF xs ys) (k - 1) := ⟨_, rfl⟩
        rw [← hj] at hw hc1 a2 a3 HW1 HW2
        rw [← hj]
        obtain ⟨x, hx⟩ : ∃ x, x = drF xs ys k := ⟨_, rfl⟩
        obtain ⟨y, hy⟩ : ∃ y, y = drF xs ys j := ⟨_, rfl⟩
        rw [← hx] at hc0 a0 a1 HW1 HW2
        rw [← hy] at hc1 a2 a3 HW1 HW2
        have AX := Lib.hid (fun W => absolute_any x ⟨by omega, by omega⟩ W)
        have AY := Lib.hid (fun W => absolute_any y ⟨by omega, by omega⟩ W)
        obtain ⟨ax, hax⟩ : ∃ a, a = abI x := ⟨_, rfl⟩
        obtain ⟨ay, hay⟩ : ∃ a, a = abI y := ⟨_, rfl⟩
        rw [← hax] at AX HW1 HW2
        rw [← hay] at AY HW1 HW2
        have g0 : (0 : Int) ≤ (k : Int) := by omega
        have g1 : (k : Int) < (n : Int) + 1 := by omega
        have g2 : (0 : Int) ≤ (j : Int) := by omega
        have g3 : (j : Int) < (n : Int) + 1 := by omega
        have g4 : j < n + 1 := by omega
        have e3 : IntKind.i64.wrap ((k : Int) + 1) = (k : Int) + 1 := IntWalk.i64_in _ ⟨by omega, by omega⟩
        have l0 : ax ≤ ay ∨ ay < ax := by omega
        clear hx hy hw a0 a1 a2 a3 hax hay hj
        rcases l0 with l0 | l0
        · have HN := Lib.hid (HW2.out (by omega))
          have l1 : ¬ ay < ax := by omega
          go_wp2
          (refine wp_region_mq (by kernel_rfl) (by kernel_rfl) ?_; (repeat (first | go_big_quiet_step ((first | (go_at_call 143; with_reducible exact quietS (AX.out _) ) | (go_at_call 143; with_reducible exact quietS (AY.out _) ))) | quiet_step ((first | (go_at_call 143; with_reducible exact quietS (AX.out _) ) | (go_at_call 143; with_reducible exact quietS (AY.out _) ))))); refine wpQuiet_nil ?_; intro _ hq_; obtain ⟨q_, rfl⟩ := hq_)
          go_wp2
          exact ⟨⟨k + 1, _, _, by omega, by rw [HN.out], by go_num, by first | rfl | exact mo_mo _ _ _ _ _⟩, by simp [intOf]; omega⟩
        · have HN := Lib.hid (HW1.out l0)
          go_wp2
          (refine wp_region_mq (by kernel_rfl) (by kernel_rfl) ?_; (repeat (first | go_big_quiet_step ((first | (go_at_call 143; with_reducible exact quietS (AX.out _) ) | (go_at_call 143; with_reducible exact quietS (AY.out _) ))) | quiet_step ((first | (go_at_call 143; with_reducible exact quietS (AX.out _) ) | (go_at_call 143; with_reducible exact quietS (AY.out _) ))))); refine wpQuiet_nil ?_; intro _ hq_; obtain ⟨q_, rfl⟩ := hq_)
          go_wp2
          exact ⟨⟨k + 1, _, _, by omega, by rw [HN.out], by go_num, by first | rfl | exact mo_mo _ _ _ _ _⟩, by simp [intOf]; omega⟩
      · obtain rfl : k = n + 1 := by omega
        have hw := wb_le (drF xs ys) n
        obtain ⟨b', off', hA, hbs, hc1⟩ := N1.at (w := w1) (Below.refl _ _) (k := wb (drF xs ys) n) (by omega)
        subst hA
        rw [drL_el (by omega)] at hc1
        have e9 : (n + 1 - 1 : Nat) = n := by omega
        obtain ⟨j, hj⟩ : ∃ j, j = wb (drF xs ys) n := ⟨_, rfl⟩
        rw [e9]
        rw [← hj] at hw hc1 HR
        rw [← hj]
        have g2 : (0 : Int) ≤ (j : Int) := by omega
        have g3 : (j : Int) < (n : Int) + 1 := by omega
        have g4 : j < n + 1 := by omega
        have e1 : IntKind.i64.wrap (F + (j : Int)) = F + (j : Int) := IntWalk.i64_in _ ⟨by omega, by omega⟩
        clear hj e9
        go_wp2
        go_quiet (fail)
        go_wp2
        go_returns
        exact ⟨by rw [HR.out, H0.out]; rfl, (by repeat' (first | (with_reducible first | assumption | exact Below.refl _ _ | refine Below.drew ?_ | refine Below.alloc ?_ ?_ _ | refine Below.setCell ?_ ?_ _ | refine below_setR ?_ ?_ _ | refine below_dn ?_ _ | refine Below.trans ?_ (below_mo _ _ _ ?_) | refine Below.trans ?_ (below_mq _ _ ?_) | exact Nat.le_refl _) | (simp; done) | (simp; omega) | omega))⟩
  · have HR := Lib.hid (wdV_no h0)
    have KD := Lib.hid (drifts_no hl c1 hl2 c2 w hv hv2 h0)
    have b0 : (wdC xs ys != 0) = true := bne_iff_ne.2 h0
    have b1 : (wdC xs ys == 0) = false := beq_eq_false_iff_ne.2 h0
    go_enter Try.func35, Try.ntmps35
    (go_wp2_with fail; refine KD.out.mono ?_; rintro e w1 ⟨v1, rfl, own1, hb1⟩)
    go_wp2
    go_returns
    exact ⟨(by first | (rw [HR.out]; done) | (rw [HR.out]; rfl)), hb1⟩
end Go.Proofs.Ytbihgnmiocfelaa.X
