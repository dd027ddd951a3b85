/- What the parts say: Eq of the reference on lists of values: as the plain data are. Conditions: none. -/
import Derived.Test.YtbkjhdohkdeniaaGreatDoorP10
import Derived.Test.YtbkjhdohkdeniaaGreatDoorP05
set_option linter.unusedVariables false
set_option linter.unusedSimpArgs false
namespace Go.Proofs.YtbkjhdohkdeniaaGreatDoor
open Go.RowKit
set_option maxRecDepth 100000
end Go.Proofs.YtbkjhdohkdeniaaGreatDoor
