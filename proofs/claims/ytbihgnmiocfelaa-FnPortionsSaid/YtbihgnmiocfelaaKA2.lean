/- What the laws do with lists of pairs of numbers: they are copied and compared. Conditions: none. -/
import Derived.Test.YtbihgnmiocfelaaKPLaws
import Derived.Deep.RegionHeld3
namespace Go.Proofs.Ytbihgnmiocfelaa.X
open Go.RowKit
set_option linter.unusedVariables false
set_option linter.unusedSimpArgs false
set_option maxRecDepth 100000
end Go.Proofs.Ytbihgnmiocfelaa.X
