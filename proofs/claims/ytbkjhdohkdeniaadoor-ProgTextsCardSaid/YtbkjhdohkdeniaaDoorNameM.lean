/- Names of a program, as plain data: letters and digits, a letter first, at most twelve. Conditions: none. -/
import Derived.Test.YtbkjhdohkdeniaaDoorModel
import Derived.Lib.Index
namespace Go.Proofs.YtbkjhdohkdeniaaDoor
open Go.RowKit
set_option linter.unusedVariables false
set_option linter.unusedSimpArgs false
set_option maxRecDepth 100000

/-- a byte of a name -/
def nameC (c : UInt8) : Bool := (decide (97 ≤ c.toNat) && decide (c.toNat ≤ 122)) || (decide (48 ≤ c.toNat) && decide (c.toNat ≤ 57))
def nameB (l : List UInt8) : Bool := decide (1 ≤ l.length) && decide (l.length ≤ 12) && (match l with | [] => false | c :: _ => decide (97 ≤ c.toNat) && decide (c.toNat ≤ 122)) && l.all nameC
/-- the rune r is none of a name -/
def badR (r : Nat) : Bool := (decide (r < 97) || decide (122 < r)) && (decide (r < 48) || decide (57 < r))
end Go.Proofs.YtbkjhdohkdeniaaDoor
