/- Eq of the reference on lists of values: as the plain data are. Conditions: none. -/
import Derived.Test.YtmalaomcolgfcaaOwnSet
import Derived.Test.YtmalaomcolgfcaaEq
namespace Go.Proofs.Ytmalaomcolgfcaa
open Go.RowKit
set_option linter.unusedVariables false
set_option linter.unusedSimpArgs false
set_option maxRecDepth 100000
end Go.Proofs.Ytmalaomcolgfcaa
