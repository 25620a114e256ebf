/- CountsBetween, RoundsBetween, SetBackBy of the program and of the reference. Conditions: none. -/
import Derived.Test.YtkphbagckbbalaaKCounts
namespace Go.Proofs.Ytkphbagckbbalaa.X
open Go.RowKit
set_option linter.unusedVariables false
set_option linter.unusedSimpArgs false
set_option maxRecDepth 100000
/-- the code of two readings and a flow -/
def pairC (xs : List Int) (ad av bd bv fl fh : Int) : Int := if okS xs && okR xs ad av && okR xs bd bv && okF fl fh then if bd ≤ ad then 2 else 0 else 1
theorem pairC_1 {xs : List Int} (ad av bd bv fl fh : Int) (h : okS xs = false ∨ okR xs ad av = false ∨ okR xs bd bv = false ∨ okF fl fh = false) : pairC xs ad av bd bv fl fh = 1 := by
  unfold pairC
  rcases h with h | h | h | h <;> rw [h] <;> simp
theorem pairC_2 {xs : List Int} {ad av bd bv fl fh : Int} (h1 : okS xs = true) (h2 : okR xs ad av = true) (h3 : okR xs bd bv = true) (h4 : okF fl fh = true) (h5 : bd ≤ ad) : pairC xs ad av bd bv fl fh = 2 := by
  unfold pairC
  rw [h1, h2, h3, h4, if_pos h5]
  rfl
theorem pairC_0 {xs : List Int} {ad av bd bv fl fh : Int} (h1 : okS xs = true) (h2 : okR xs ad av = true) (h3 : okR xs bd bv = true) (h4 : okF fl fh = true) (h5 : ¬ bd ≤ ad) : pairC xs ad av bd bv fl fh = 0 := by
  unfold pairC
  rw [h1, h2, h3, h4, if_neg h5]
  rfl
theorem pairC_fine {xs : List Int} {ad av bd bv fl fh : Int} (h : pairC xs ad av bd bv fl fh = 0) : Fine xs ad av bd bv fl fh := by
  unfold pairC at h
  split at h
  · rename_i h1
    simp only [Bool.and_eq_true] at h1
    split at h
    · cases h
    · obtain ⟨⟨⟨g1, g2⟩, g3⟩, g4⟩ := h1
      have e1 := okR_t g2
      have e2 := okR_t g3
      exact ⟨g1, e1.2, e2.2, e1.1, e2.1, by omega, okF_t g4⟩
  · cases h
/-- what CountsBetween returns -/
def cbV (xs : List Int) (ad av bd bv fl fh : Int) : Int × Int × Int := if pairC xs ad av bd bv fl fh = 0 then if cOk xs ad av bd bv fl fh then (cLow xs ad av bd bv fl, cHigh xs ad av bd bv fh, 0) else (0, 0, 6) else (0, 0, pairC xs ad av bd bv fl fh)
theorem cbV_1 {xs : List Int} {ad av bd bv fl fh : Int} (h : ¬ pairC xs ad av bd bv fl fh = 0) : cbV xs ad av bd bv fl fh = (0, 0, pairC xs ad av bd bv fl fh) := by unfold cbV; rw [if_neg h]
theorem cbV_2 {xs : List Int} {ad av bd bv fl fh : Int} (h : pairC xs ad av bd bv fl fh = 0) (g : cOk xs ad av bd bv fl fh = false) : cbV xs ad av bd bv fl fh = (0, 0, 6) := by unfold cbV; rw [if_pos h, g]; rfl
theorem cbV_3 {xs : List Int} {ad av bd bv fl fh : Int} (h : pairC xs ad av bd bv fl fh = 0) (g : cOk xs ad av bd bv fl fh = true) : cbV xs ad av bd bv fl fh = (cLow xs ad av bd bv fl, cHigh xs ad av bd bv fh, 0) := by unfold cbV; rw [if_pos h, g]; rfl
theorem bne_f {a : Int} (h : ¬ a = 0) : (a == 0) = false ∧ (a != 0) = true := ⟨beq_eq_false_iff_ne.2 h, by simp [bne, h]⟩
theorem bne_t {a : Int} (h : a = 0) : (a == 0) = true ∧ (a != 0) = false := ⟨beq_iff_eq.2 h, by simp [bne, h]⟩
/-- what RoundsBetween returns -/
def rbV (xs : List Int) (ad av bd bv fl fh : Int) : Int × Int × Int := if (cbV xs ad av bd bv fl fh).2.2 = 0 then ((av + (cbV xs ad av bd bv fl fh).1) / szS xs, (av + (cbV xs ad av bd bv fl fh).2.1) / szS xs, 0) else (0, 0, (cbV xs ad av bd bv fl fh).2.2)
theorem cbV_0 {xs : List Int} {ad av bd bv fl fh : Int} (h : (cbV xs ad av bd bv fl fh).2.2 = 0) : pairC xs ad av bd bv fl fh = 0 ∧ cOk xs ad av bd bv fl fh = true := by
  unfold cbV at h
  split at h
  · rename_i h1
    cases ho : cOk xs ad av bd bv fl fh
    · rw [ho] at h; cases h
    · exact ⟨h1, rfl⟩
  · rename_i h1; exact absurd h h1
theorem rb_bd {xs : List Int} {ad av bd bv fl fh : Int} (h : (cbV xs ad av bd bv fl fh).2.2 = 0) : (0 ≤ av + (cbV xs ad av bd bv fl fh).1 ∧ av + (cbV xs ad av bd bv fl fh).1 ≤ 4000000000000) ∧ (0 ≤ av + (cbV xs ad av bd bv fl fh).2.1 ∧ av + (cbV xs ad av bd bv fl fh).2.1 ≤ 4000000000000) ∧ (2 ≤ szS xs ∧ szS xs ≤ 1000000000000) := by
  obtain ⟨h1, h2⟩ := cbV_0 h
  have hf := pairC_fine h1
  obtain ⟨⟨e1, e2⟩, ⟨e3, e4⟩, e5, e6, e7⟩ := hf.bd
  obtain ⟨⟨u0, u1⟩, u2, u3⟩ := hf.cs
  have e8 := hf.high h2
  have e9 := hf.a
  rw [cbV_3 h1 h2]
  simp only
  unfold cLow cHigh at *
  omega
def sbFirst (xs : List Int) (ad av bd bv fl : Int) : Int := (av + fl * (bd - ad) - bv) % szS xs
/-- what SetBackBy returns -/
def sbV (xs : List Int) (ad av bd bv fl fh : Int) : Int × Int := if pairC xs ad av bd bv fl fh = 0 then if szS xs ≤ sbFirst xs ad av bd bv fl + fh * (bd - ad) - fl * (bd - ad) then (0, 0) else (sbFirst xs ad av bd bv fl, 0) else (0, pairC xs ad av bd bv fl fh)
theorem sbV_1 {xs : List Int} {ad av bd bv fl fh : Int} (h : ¬ pairC xs ad av bd bv fl fh = 0) : sbV xs ad av bd bv fl fh = (0, pairC xs ad av bd bv fl fh) := by unfold sbV; rw [if_neg h]
theorem sbV_2 {xs : List Int} {ad av bd bv fl fh : Int} (h : pairC xs ad av bd bv fl fh = 0) (g : szS xs ≤ sbFirst xs ad av bd bv fl + fh * (bd - ad) - fl * (bd - ad)) : sbV xs ad av bd bv fl fh = (0, 0) := by unfold sbV; rw [if_pos h, if_pos g]
theorem sbV_3 {xs : List Int} {ad av bd bv fl fh : Int} (h : pairC xs ad av bd bv fl fh = 0) (g : ¬ szS xs ≤ sbFirst xs ad av bd bv fl + fh * (bd - ad) - fl * (bd - ad)) : sbV xs ad av bd bv fl fh = (sbFirst xs ad av bd bv fl, 0) := by unfold sbV; rw [if_pos h, if_neg g]
end Go.Proofs.Ytkphbagckbbalaa.X
