/- What the parts say: The contracts of package cell's Check and Same and of their references: each returns a plain function of its values. Conditions: the numbers are numbers of 64 bits. -/
import Derived.Test.YtbkjhdohkdeniaaGreatDoorP04
import Derived.Test.YtbkjhdohkdeniaaGreatDoorP05
set_option linter.unusedVariables false
set_option linter.unusedSimpArgs false
namespace Go.Proofs.YtbkjhdohkdeniaaGreatDoor
open Go.RowKit
set_option maxRecDepth 100000

def valE (v : Val) : Int := if v.is = true then (if keyOk v.key = true then (if v.n = 0 then 0 else 5) else 1) else (if inR v.n (-2147483648) 2147483647 = true then (if v.key = Key.zero then 0 else 5) else 1)

end Go.Proofs.YtbkjhdohkdeniaaGreatDoor
