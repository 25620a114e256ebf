/- Counts are added to digits, in steps too. Conditions: none. -/
import Derived.Test.YtinjlofefmjolaaKAdd
namespace Go.Proofs.Ytinjlofefmjolaa.X
open Go.RowKit
set_option linter.unusedVariables false
set_option linter.unusedSimpArgs false
set_option maxRecDepth 100000
end Go.Proofs.Ytinjlofefmjolaa.X
