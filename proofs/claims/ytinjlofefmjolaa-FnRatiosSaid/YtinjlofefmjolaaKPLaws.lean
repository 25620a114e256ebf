/- What the laws do with readings, totals, flows, portions: they are copied and compared. Conditions: none. -/
import Derived.Test.YtinjlofefmjolaaKBase
namespace Go.Proofs.Ytinjlofefmjolaa.X
open Go.RowKit
set_option linter.unusedVariables false
set_option linter.unusedSimpArgs false
set_option maxRecDepth 100000
end Go.Proofs.Ytinjlofefmjolaa.X
