/- What the laws do with stacks and digits: they are copied and compared. Conditions: none. -/
import Derived.Test.YtaahfebnbholmaaKDigits
namespace Go.Proofs.Ytaahfebnbholmaa.X
open Go.RowKit
set_option linter.unusedVariables false
set_option linter.unusedSimpArgs false
set_option maxRecDepth 100000
/-- what DigitsOf returns -/
def dgOf (xs : List Int) (v : Int) : (Nat → Int) × Int := if okS xs then if inR v 0 (sizeTo xs xs.length - 1) then (dg xs v, 0) else (fun _ => 0, 2) else (fun _ => 0, 1)
end Go.Proofs.Ytaahfebnbholmaa.X
