/- What the parts say: The contracts of the operations of package keys: each returns a plain function of its keys, and the memory that was there is as it was. Conditions: the numbers of a key are numbers of 64 bits. -/
import Derived.Test.YtbkjhdohkdeniaaGreatDoorP01
set_option linter.unusedVariables false
set_option linter.unusedSimpArgs false
namespace Go.Proofs.YtbkjhdohkdeniaaGreatDoor
open Go.RowKit
set_option maxRecDepth 100000

@[go_sem] theorem lt_add2 (n : Nat) : n < n + 1 + 1 := by omega
@[go_sem] theorem lt_add3 (n : Nat) : n < n + 1 + 1 + 1 := by omega
@[go_sem] theorem lt_add4 (n : Nat) : n < n + 1 + 1 + 1 + 1 := by omega
@[go_sem] theorem lt_plus2 (n : Nat) : n < n + 2 := by omega
@[go_sem] theorem lt_plus3 (n : Nat) : n < n + 3 := by omega
@[go_sem] theorem lt_plus12 (n : Nat) : n + 1 < n + 2 := by omega
@[go_sem] theorem lt_plus13 (n : Nat) : n + 1 < n + 3 := by omega
@[go_sem] theorem lt_plus23 (n : Nat) : n + 2 < n + 3 := by omega

end Go.Proofs.YtbkjhdohkdeniaaGreatDoor
namespace Go.Proofs.YtbkjhdohkdeniaaGreatDoor
open Go.RowKit
set_option maxRecDepth 100000

end Go.Proofs.YtbkjhdohkdeniaaGreatDoor
