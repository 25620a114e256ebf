/- Photos that are the same. Conditions: none. -/
import Derived.Test.YtbihgnmiocfelaaKLaws
namespace Go.Proofs.Ytbihgnmiocfelaa.X
open Go.RowKit
set_option linter.unusedVariables false
set_option linter.unusedSimpArgs false
set_option maxRecDepth 100000
end Go.Proofs.Ytbihgnmiocfelaa.X
