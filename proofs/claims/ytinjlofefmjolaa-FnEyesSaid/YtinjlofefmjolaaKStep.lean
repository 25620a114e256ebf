/- AddTo, steps. Conditions: none. -/
import Derived.Test.YtinjlofefmjolaaKAdd2
namespace Go.Proofs.Ytinjlofefmjolaa.X
open Go.RowKit
set_option linter.unusedVariables false
set_option linter.unusedSimpArgs false
set_option maxRecDepth 100000
/-- what AddTo returns -/
def addV (xs : List Int) (f : Nat → Int) (v : Int) : (Nat → Int) × Int × Int := if okD xs f then if inR v (-1000000000000) 1000000000000 then (dg xs ((vl xs f + v) % szS xs), (vl xs f + v) / szS xs, 0) else (fun _ => 0, 0, 2) else (fun _ => 0, 0, 1)
theorem addV_1 {xs : List Int} {f : Nat → Int} {v : Int} (h : okD xs f = false) : addV xs f v = (fun _ => 0, 0, 1) := by unfold addV; rw [h]; rfl
theorem addV_2 {xs : List Int} {f : Nat → Int} {v : Int} (h : okD xs f = true) (g : inR v (-1000000000000) 1000000000000 = false) : addV xs f v = (fun _ => 0, 0, 2) := by unfold addV; rw [h, g]; rfl
theorem addV_3 {xs : List Int} {f : Nat → Int} {v : Int} (h : okD xs f = true) (g : inR v (-1000000000000) 1000000000000 = true) : addV xs f v = (dg xs ((vl xs f + v) % szS xs), (vl xs f + v) / szS xs, 0) := by unfold addV; rw [h, g]; rfl
/-- how many of the first k digits differ -/
def mvTo (g f : Nat → Int) : Nat → Int
  | 0 => 0
  | k + 1 => mvTo g f k + if g k = f k then 0 else 1
theorem mvTo_bd (g f : Nat → Int) : ∀ k : Nat, 0 ≤ mvTo g f k ∧ mvTo g f k ≤ k
  | 0 => by simp [mvTo]
  | k + 1 => by
    have := mvTo_bd g f k
    unfold mvTo
    split <;> omega
theorem mvTo_len {g f : Nat → Int} {n : Nat} : ∀ d : Nat, (∀ i : Nat, n ≤ i → i < n + d → g i = f i) → mvTo g f (n + d) = mvTo g f n
  | 0, _ => rfl
  | d + 1, h => by
    have h1 := mvTo_len (g := g) (f := f) (n := n) d (fun i a b => h i a (by omega))
    show mvTo g f (n + d) + _ = _
    rw [h1]
    have h2 : g (n.add d) = f (n.add d) := h (n + d) (by omega) (by omega)
    rw [if_pos h2]
    omega
/-- what a step returns -/
def stV (xs : List Int) (f : Nat → Int) (v : Int) : (Nat → Int) × Int × Int := if okD xs f then (dg xs ((vl xs f + v) % szS xs), mvTo (dg xs ((vl xs f + v) % szS xs)) f 8, 0) else (fun _ => 0, 0, 1)
theorem stV_1 {xs : List Int} {f : Nat → Int} {v : Int} (h : okD xs f = false) : stV xs f v = (fun _ => 0, 0, 1) := by unfold stV; rw [h]; rfl
theorem stV_2 {xs : List Int} {f : Nat → Int} {v : Int} (h : okD xs f = true) : stV xs f v = (dg xs ((vl xs f + v) % szS xs), mvTo (dg xs ((vl xs f + v) % szS xs)) f 8, 0) := by unfold stV; rw [h]; rfl
theorem mv_eq {xs : List Int} {f : Nat → Int} (h : okD xs f = true) (z : Int) : mvTo (dg xs z) f 8 = mvTo (dg xs z) f xs.length := by
  obtain ⟨h1, _, h3⟩ := okD_parts h
  have hl := okS_len h1
  have e : 8 = xs.length + (8 - xs.length) := by omega
  rw [e]
  refine mvTo_len _ fun i a b => ?_
  rw [h3 i (by omega) a]
  unfold dg dgTo
  rw [if_neg (by omega)]
end Go.Proofs.Ytinjlofefmjolaa.X
