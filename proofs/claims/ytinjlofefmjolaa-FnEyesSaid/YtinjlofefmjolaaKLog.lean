/- Readings, logs, flows: which are valid, which counts are possible. Conditions: none. -/
import Derived.Test.YtinjlofefmjolaaKLaws
import Derived.Test.YtinjlofefmjolaaKNum
namespace Go.Proofs.Ytinjlofefmjolaa.X
open Go.RowKit
set_option linter.unusedVariables false
set_option linter.unusedSimpArgs false
set_option maxRecDepth 100000
/-- a reading is valid -/
def okR (xs : List Int) (d v : Int) : Bool := inR d 0 100000 && inR v 0 (sizeTo xs xs.length - 1)
/-- the first k readings are valid -/
def lgTo (xs : List Int) (log : List (Int × Int)) : Nat → Bool
  | 0 => true
  | k + 1 => lgTo xs log k && (okR xs (p1 log k) (p2 log k) && (decide (k = 0) || decide (p1 log ((k : Int) - 1) < p1 log k)))
/-- a log is valid -/
def okL (xs : List Int) (log : List (Int × Int)) : Bool := okS xs && decide (log.length ≤ 40) && lgTo xs log log.length
theorem lgTo_mono {xs : List Int} {log : List (Int × Int)} {k : Nat} (h : lgTo xs log k = false) : ∀ d : Nat, lgTo xs log (k + d) = false
  | 0 => h
  | d + 1 => by
    have := lgTo_mono h d
    show (lgTo xs log (k + d) && _) = false
    rw [this]; rfl
theorem lgTo_no {xs : List Int} {log : List (Int × Int)} {k n : Nat} (hk : k < n) (h : (okR xs (p1 log k) (p2 log k) && (decide (k = 0) || decide (p1 log ((k : Int) - 1) < p1 log k))) = false) : lgTo xs log n = false := by
  have h1 : lgTo xs log (k + 1) = false := by
    show (lgTo xs log k && _) = false
    rw [h, Bool.and_false]
  have := lgTo_mono h1 (n - (k + 1))
  rwa [show k + 1 + (n - (k + 1)) = n by omega] at this
end Go.Proofs.Ytinjlofefmjolaa.X
