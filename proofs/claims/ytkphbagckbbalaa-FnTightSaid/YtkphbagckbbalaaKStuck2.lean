/- Since when a wheel is stuck: the plain law. Conditions: none. -/
import Derived.Test.YtkphbagckbbalaaKStuck
namespace Go.Proofs.Ytkphbagckbbalaa.X
open Go.RowKit
set_option linter.unusedVariables false
set_option linter.unusedSimpArgs false
set_option maxRecDepth 100000
theorem Prs.drop {k0 k1 : IntKind} {V : World} {C b off : Nat} {log : List (Int × Int)} (h : Prs k0 k1 V C (some ⟨b, off, none⟩) log) (i : Nat) : Prs k0 k1 V C (some ⟨b, off + i * 2, none⟩) (log.drop i) := by
  refine ⟨fun hn => ?_, by have := h.len; rw [List.length_drop]; omega, h.le⟩
  rw [List.length_drop] at hn
  obtain ⟨b', off', e, hlt, hc⟩ := h.sl (by omega)
  obtain ⟨rfl, rfl⟩ := addr_same e
  refine ⟨b, off + i * 2, rfl, hlt, fun k x hx j u hu => ?_⟩
  rw [List.getElem?_drop] at hx
  have := hc (i + k) x hx j u hu
  rw [Nat.add_mul] at this
  rw [show off + i * 2 + k * 2 + j = off + (i * 2 + k * 2) + j by omega]
  exact this
theorem p2_drop (log : List (Int × Int)) (i j : Nat) : p2 (log.drop i) (j : Int) = p2 log ((i + j : Nat) : Int) := by
  unfold p2
  rw [Int.toNat_natCast, Int.toNat_natCast, List.getD_eq_getElem?_getD, List.getD_eq_getElem?_getD, List.getElem?_drop]
theorem syTo_iff {xs : List Int} {lg : List (Int × Int)} {w : Nat} : ∀ {k : Nat}, syTo xs lg w k = true ↔ ∀ j : Nat, j < k → dg xs (p2 lg j) w = dg xs (p2 lg 0) w
  | 0 => ⟨fun _ j hj => absurd hj (by omega), fun _ => rfl⟩
  | k + 1 => by
    unfold syTo
    rw [Bool.and_eq_true, syTo_iff, decide_eq_true_eq]
    refine ⟨fun h j hj => ?_, fun h => ⟨fun j hj => h j (by omega), h k (by omega)⟩⟩
    by_cases e : j = k
    · subst e; exact h.2
    · exact h.1 j (by omega)
/-- from reading i on wheel w shows the same digit -/
def SyP (xs : List Int) (log : List (Int × Int)) (i w : Nat) : Prop := ∀ j : Nat, i ≤ j → j < log.length → dg xs (p2 log j) w = dg xs (p2 log i) w
theorem syTo_SyP {xs : List Int} {log : List (Int × Int)} {i w : Nat} (hi : i < log.length) : syTo xs (log.drop i) w (log.drop i).length = true ↔ SyP xs log i w := by
  rw [syTo_iff, List.length_drop]
  have e0 : p2 (log.drop i) 0 = p2 log i := by
    have := p2_drop log i 0
    rwa [Nat.add_zero] at this
  refine ⟨fun h j h1 h2 => ?_, fun h j hj => ?_⟩
  · have := h (j - i) (by omega)
    rw [p2_drop, e0, show i + (j - i) = j by omega] at this
    exact this
  · rw [p2_drop, e0]
    exact h (i + j) (by omega) (by omega)
/-- the wheel stays from reading i on, and one above it moves -/
def QP (xs : List Int) (log : List (Int × Int)) (wh i : Nat) : Prop := i + 1 < log.length ∧ SyP xs log i wh ∧ ∃ w, wh < w ∧ w < xs.length ∧ ¬ SyP xs log i w
section
open Classical
noncomputable def ssR (xs : List Int) (log : List (Int × Int)) (wh : Nat) : Int × Int := if h : ∃ i, QP xs log wh i ∧ ∀ k, k < i → ¬ QP xs log wh k then ((h.choose : Nat) , 0) else (0, 6)
theorem ssR_at {xs : List Int} {log : List (Int × Int)} {wh i : Nat} (h : QP xs log wh i) (hm : ∀ k, k < i → ¬ QP xs log wh k) : ssR xs log wh = ((i : Int), 0) := by
  have hx : ∃ i, QP xs log wh i ∧ ∀ k, k < i → ¬ QP xs log wh k := ⟨i, h, hm⟩
  unfold ssR
  rw [dif_pos hx]
  obtain ⟨a, b⟩ := hx.choose_spec
  have e : hx.choose = i := by
    rcases Nat.lt_trichotomy hx.choose i with c | c | c
    · exact absurd a (hm _ c)
    · exact c
    · exact absurd h (b _ c)
  rw [e]
theorem ssR_none {xs : List Int} {log : List (Int × Int)} {wh : Nat} (h : ∀ i, ¬ QP xs log wh i) : ssR xs log wh = (0, 6) := by
  unfold ssR
  rw [dif_neg (fun ⟨i, hi, _⟩ => h i hi)]
end
/-- what the paper's first loop finds: all from a on show the last one's digit, the one before a does not -/
def AtP (xs : List Int) (log : List (Int × Int)) (wh a : Nat) : Prop := (∀ j : Nat, a ≤ j → j < log.length → dg xs (p2 log j) wh = dg xs (p2 log ((log.length - 1 : Nat) : Int)) wh) ∧ (a = 0 ∨ ¬ dg xs (p2 log ((a - 1 : Nat) : Int)) wh = dg xs (p2 log ((log.length - 1 : Nat) : Int)) wh)
theorem AtP.low {xs : List Int} {log : List (Int × Int)} {wh a : Nat} (h : AtP xs log wh a) (ha : a < log.length) {k : Nat} (hk : k < a) : ¬ SyP xs log k wh := fun hs => by
  rcases h.2 with e | e
  · omega
  · have a1 := hs (a - 1) (by omega) (by omega)
    have a2 := hs (log.length - 1) (by omega) (by omega)
    exact e (a1.trans a2.symm)
theorem AtP.stay {xs : List Int} {log : List (Int × Int)} {wh a : Nat} (h : AtP xs log wh a) (ha : a < log.length) : SyP xs log a wh := fun j h1 h2 => (h.1 j h1 h2).trans (h.1 a (Nat.le_refl _) ha).symm
/-- something above the wheel moves behind reading a -/
theorem ssR_moved {xs : List Int} {log : List (Int × Int)} {wh a i w : Nat} (h : AtP xs log wh a) (hi : a < i) (hin : i < log.length) (hw : wh < w) (hwx : w < xs.length) (hd : ¬ dg xs (p2 log a) w = dg xs (p2 log i) w) : ssR xs log wh = ((a : Int), 0) :=
  ssR_at ⟨by omega, h.stay (by omega), w, hw, hwx, fun hs => hd (hs i (by omega) hin).symm⟩ (fun _ hk hq => h.low (by omega) hk hq.2.1)
theorem ssR_still {xs : List Int} {log : List (Int × Int)} {wh a : Nat} (h : AtP xs log wh a) (ha : a < log.length) (hd : ∀ i w : Nat, a < i → i < log.length → wh < w → w < xs.length → dg xs (p2 log a) w = dg xs (p2 log i) w) : ssR xs log wh = (0, 6) :=
  ssR_none fun k hq => by
    obtain ⟨h1, h2, w, h3, h4, h5⟩ := hq
    rcases Nat.lt_or_ge k a with c | c
    · exact h.low ha c h2
    · refine h5 fun j hj hjn => ?_
      have e : ∀ i : Nat, a ≤ i → i < log.length → dg xs (p2 log i) w = dg xs (p2 log a) w := fun i g1 g2 => by
        rcases Nat.lt_or_ge a i with g | g
        · exact (hd i w g g2 h3 h4).symm
        · rw [show i = a by omega]
      exact (e j (by omega) hjn).trans (e k c (by omega)).symm
end Go.Proofs.Ytkphbagckbbalaa.X
