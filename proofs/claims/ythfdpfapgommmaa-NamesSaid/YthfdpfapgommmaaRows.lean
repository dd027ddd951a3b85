/-
  No cell of these rows narrows 'for every input' (looked for: loops, veiled, ifaces, maps, wideKeys, modest, calm, conditions, laid).
  DERIVED. THE GIVEN ROWS OF THIS SEAT. 12 by the template 'for every input the law returns true; each argument reads behind the call as it read before'; 0 by the template 'total and deterministic' (their statements: YthfdpfapgommmaaTotals.lean).
  GIVEN WITH THE SEED: the statements are not yours to turn. If you find one false, say at which input.
  Laid BY PROGRAM, IN A SANDBOX (cutbox-rows.mjs): the forced cells as the released guide's own fill.sh prints them over the translation 2b8ea63feecef73e… (all of the seat's roots in one cut). By AI agents, Wed Nov 11 2026. No macro, syntax, notation, axiom, sorry.
-/
import Derived.Test.YthfdpfapgommmaaChecked
import GoSem.Claim
import GoSem.ClaimJoined
import GoSem.ClaimMapViews
import Derived.JoinedTies
import Derived.KernelRfl
namespace Go.Proofs.Ythfdpfapgommmaa
/- THE CELL 'sum', in the pinned program and in every row, IS THE sha256 OF THE DUMP (.gsa) THAT YthfdpfapgommmaaProg.lean LOADS. Nothing in Lean hashes anything: it is a label: what it is worth is what the hold of that sum in a sandbox is worth. -/
noncomputable def Try.pinned : Pinned := { name := "ythfdpfapgommmaa", sum := "2b8ea63feecef73ed8af73c8addcf5e20e43b9303117e1d1a2e0f3fdc5fabfda", checked := Try.checked }
namespace Rows
def none {H : Type} : Left H := { results := [], args := [] }

/-- 'custodianlaw.Names': WHATEVER THE INPUT: true; the input reads as it did. -/
def namesSpec : ChangeSpec := { name := "names", fn := fun _ => fun
  | [] => { results := [.lit (.bool true)], args := [] }
  | _ => none }
def namesRow : OpenClaim := { program := "ythfdpfapgommmaa", sum := "2b8ea63feecef73ed8af73c8addcf5e20e43b9303117e1d1a2e0f3fdc5fabfda", func := "custodian/custodianlaw.Names", spec := "names", apart := false }
def NamesSaid : Prop := namesRow.holds Try.pinned (OpenSpec.ofChange namesSpec)

/-- ITS FALSE NEIGHBOUR: 'it returns false'. Refute it at one input. -/
def namesWrong : ChangeSpec := { name := "names", fn := fun _ => fun
  | [] => { results := [.lit (.bool false)], args := [] }
  | _ => none }
def NamesWrongFalsely : Prop := namesRow.holds Try.pinned (OpenSpec.ofChange namesWrong)

/-- 'custodianlaw.PermWithins': WHATEVER THE INPUT: true; the input reads as it did. -/
def permWithinsSpec : ChangeSpec := { name := "permWithins", fn := fun _ => fun
  | [d1, d2] => { results := [.lit (.bool true)], args := [d1, d2] }
  | _ => none }
def permWithinsRow : OpenClaim := { program := "ythfdpfapgommmaa", sum := "2b8ea63feecef73ed8af73c8addcf5e20e43b9303117e1d1a2e0f3fdc5fabfda", func := "custodian/custodianlaw.PermWithins", spec := "permWithins", apart := false }
def PermWithinsSaid : Prop := permWithinsRow.holds Try.pinned (OpenSpec.ofChange permWithinsSpec)

/-- ITS FALSE NEIGHBOUR: 'it returns false'. Refute it at one input. -/
def permWithinsWrong : ChangeSpec := { name := "permWithins", fn := fun _ => fun
  | [d1, d2] => { results := [.lit (.bool false)], args := [d1, d2] }
  | _ => none }
def PermWithinsWrongFalsely : Prop := permWithinsRow.holds Try.pinned (OpenSpec.ofChange permWithinsWrong)

/-- 'custodianlaw.NumDivs': WHATEVER THE INPUT: true; the input reads as it did. -/
def numDivsSpec : ChangeSpec := { name := "numDivs", fn := fun _ => fun
  | [d1, d2] => { results := [.lit (.bool true)], args := [d1, d2] }
  | _ => none }
def numDivsRow : OpenClaim := { program := "ythfdpfapgommmaa", sum := "2b8ea63feecef73ed8af73c8addcf5e20e43b9303117e1d1a2e0f3fdc5fabfda", func := "custodian/custodianlaw.NumDivs", spec := "numDivs", apart := false }
def NumDivsSaid : Prop := numDivsRow.holds Try.pinned (OpenSpec.ofChange numDivsSpec)

/-- ITS FALSE NEIGHBOUR: 'it returns false'. Refute it at one input. -/
def numDivsWrong : ChangeSpec := { name := "numDivs", fn := fun _ => fun
  | [d1, d2] => { results := [.lit (.bool false)], args := [d1, d2] }
  | _ => none }
def NumDivsWrongFalsely : Prop := numDivsRow.holds Try.pinned (OpenSpec.ofChange numDivsWrong)

/-- 'custodianlaw.LinkFinds': WHATEVER THE INPUT: true; the input reads as it did. -/
def linkFindsSpec : ChangeSpec := { name := "linkFinds", fn := fun _ => fun
  | [d1, d2] => { results := [.lit (.bool true)], args := [d1, d2] }
  | _ => none }
def linkFindsRow : OpenClaim := { program := "ythfdpfapgommmaa", sum := "2b8ea63feecef73ed8af73c8addcf5e20e43b9303117e1d1a2e0f3fdc5fabfda", func := "custodian/custodianlaw.LinkFinds", spec := "linkFinds", apart := false }
def LinkFindsSaid : Prop := linkFindsRow.holds Try.pinned (OpenSpec.ofChange linkFindsSpec)

/-- ITS FALSE NEIGHBOUR: 'it returns false'. Refute it at one input. -/
def linkFindsWrong : ChangeSpec := { name := "linkFinds", fn := fun _ => fun
  | [d1, d2] => { results := [.lit (.bool false)], args := [d1, d2] }
  | _ => none }
def LinkFindsWrongFalsely : Prop := linkFindsRow.holds Try.pinned (OpenSpec.ofChange linkFindsWrong)

/-- 'custodianlaw.NumCalcs': WHATEVER THE INPUT: true; the input reads as it did. -/
def numCalcsSpec : ChangeSpec := { name := "numCalcs", fn := fun _ => fun
  | [d1, d2] => { results := [.lit (.bool true)], args := [d1, d2] }
  | _ => none }
def numCalcsRow : OpenClaim := { program := "ythfdpfapgommmaa", sum := "2b8ea63feecef73ed8af73c8addcf5e20e43b9303117e1d1a2e0f3fdc5fabfda", func := "custodian/custodianlaw.NumCalcs", spec := "numCalcs", apart := false }
def NumCalcsSaid : Prop := numCalcsRow.holds Try.pinned (OpenSpec.ofChange numCalcsSpec)

/-- ITS FALSE NEIGHBOUR: 'it returns false'. Refute it at one input. -/
def numCalcsWrong : ChangeSpec := { name := "numCalcs", fn := fun _ => fun
  | [d1, d2] => { results := [.lit (.bool false)], args := [d1, d2] }
  | _ => none }
def NumCalcsWrongFalsely : Prop := numCalcsRow.holds Try.pinned (OpenSpec.ofChange numCalcsWrong)

/-- 'custodianlaw.KeysMay': WHATEVER THE INPUT: true; the input reads as it did. -/
def keysMaySpec : ChangeSpec := { name := "keysMay", fn := fun _ => fun
  | [d1, d2, d3] => { results := [.lit (.bool true)], args := [d1, d2, d3] }
  | _ => none }
def keysMayRow : OpenClaim := { program := "ythfdpfapgommmaa", sum := "2b8ea63feecef73ed8af73c8addcf5e20e43b9303117e1d1a2e0f3fdc5fabfda", func := "custodian/custodianlaw.KeysMay", spec := "keysMay", apart := false }
def KeysMaySaid : Prop := keysMayRow.holds Try.pinned (OpenSpec.ofChange keysMaySpec)

/-- ITS FALSE NEIGHBOUR: 'it returns false'. Refute it at one input. -/
def keysMayWrong : ChangeSpec := { name := "keysMay", fn := fun _ => fun
  | [d1, d2, d3] => { results := [.lit (.bool false)], args := [d1, d2, d3] }
  | _ => none }
def KeysMayWrongFalsely : Prop := keysMayRow.holds Try.pinned (OpenSpec.ofChange keysMayWrong)

/-- 'custodianlaw.HeapChecks': WHATEVER THE INPUT: true; the input reads as it did. -/
def heapChecksSpec : ChangeSpec := { name := "heapChecks", fn := fun _ => fun
  | [d] => { results := [.lit (.bool true)], args := [d] }
  | _ => none }
def heapChecksRow : OpenClaim := { program := "ythfdpfapgommmaa", sum := "2b8ea63feecef73ed8af73c8addcf5e20e43b9303117e1d1a2e0f3fdc5fabfda", func := "custodian/custodianlaw.HeapChecks", spec := "heapChecks", apart := false }
def HeapChecksSaid : Prop := heapChecksRow.holds Try.pinned (OpenSpec.ofChange heapChecksSpec)

/-- ITS FALSE NEIGHBOUR: 'it returns false'. Refute it at one input. -/
def heapChecksWrong : ChangeSpec := { name := "heapChecks", fn := fun _ => fun
  | [d] => { results := [.lit (.bool false)], args := [d] }
  | _ => none }
def HeapChecksWrongFalsely : Prop := heapChecksRow.holds Try.pinned (OpenSpec.ofChange heapChecksWrong)

/-- 'custodianlaw.KeysDrops': WHATEVER THE INPUT: true; the input reads as it did. -/
def keysDropsSpec : ChangeSpec := { name := "keysDrops", fn := fun _ => fun
  | [d1, d2] => { results := [.lit (.bool true)], args := [d1, d2] }
  | _ => none }
def keysDropsRow : OpenClaim := { program := "ythfdpfapgommmaa", sum := "2b8ea63feecef73ed8af73c8addcf5e20e43b9303117e1d1a2e0f3fdc5fabfda", func := "custodian/custodianlaw.KeysDrops", spec := "keysDrops", apart := false }
def KeysDropsSaid : Prop := keysDropsRow.holds Try.pinned (OpenSpec.ofChange keysDropsSpec)

/-- ITS FALSE NEIGHBOUR: 'it returns false'. Refute it at one input. -/
def keysDropsWrong : ChangeSpec := { name := "keysDrops", fn := fun _ => fun
  | [d1, d2] => { results := [.lit (.bool false)], args := [d1, d2] }
  | _ => none }
def KeysDropsWrongFalsely : Prop := keysDropsRow.holds Try.pinned (OpenSpec.ofChange keysDropsWrong)

/-- 'custodianlaw.CellChecks': WHATEVER THE INPUT: true; the input reads as it did. -/
def cellChecksSpec : ChangeSpec := { name := "cellChecks", fn := fun _ => fun
  | [d1, d2] => { results := [.lit (.bool true)], args := [d1, d2] }
  | _ => none }
def cellChecksRow : OpenClaim := { program := "ythfdpfapgommmaa", sum := "2b8ea63feecef73ed8af73c8addcf5e20e43b9303117e1d1a2e0f3fdc5fabfda", func := "custodian/custodianlaw.CellChecks", spec := "cellChecks", apart := false }
def CellChecksSaid : Prop := cellChecksRow.holds Try.pinned (OpenSpec.ofChange cellChecksSpec)

/-- ITS FALSE NEIGHBOUR: 'it returns false'. Refute it at one input. -/
def cellChecksWrong : ChangeSpec := { name := "cellChecks", fn := fun _ => fun
  | [d1, d2] => { results := [.lit (.bool false)], args := [d1, d2] }
  | _ => none }
def CellChecksWrongFalsely : Prop := cellChecksRow.holds Try.pinned (OpenSpec.ofChange cellChecksWrong)

/-- 'custodianlaw.HeapNews': WHATEVER THE INPUT: true; the input reads as it did. -/
def heapNewsSpec : ChangeSpec := { name := "heapNews", fn := fun _ => fun
  | [d1, d2, d3] => { results := [.lit (.bool true)], args := [d1, d2, d3] }
  | _ => none }
def heapNewsRow : OpenClaim := { program := "ythfdpfapgommmaa", sum := "2b8ea63feecef73ed8af73c8addcf5e20e43b9303117e1d1a2e0f3fdc5fabfda", func := "custodian/custodianlaw.HeapNews", spec := "heapNews", apart := false }
def HeapNewsSaid : Prop := heapNewsRow.holds Try.pinned (OpenSpec.ofChange heapNewsSpec)

/-- ITS FALSE NEIGHBOUR: 'it returns false'. Refute it at one input. -/
def heapNewsWrong : ChangeSpec := { name := "heapNews", fn := fun _ => fun
  | [d1, d2, d3] => { results := [.lit (.bool false)], args := [d1, d2, d3] }
  | _ => none }
def HeapNewsWrongFalsely : Prop := heapNewsRow.holds Try.pinned (OpenSpec.ofChange heapNewsWrong)

/-- 'custodianlaw.RoundOuts': WHATEVER THE INPUT: true; the input reads as it did. -/
def roundOutsSpec : ChangeSpec := { name := "roundOuts", fn := fun _ => fun
  | [d1, d2] => { results := [.lit (.bool true)], args := [d1, d2] }
  | _ => none }
def roundOutsRow : OpenClaim := { program := "ythfdpfapgommmaa", sum := "2b8ea63feecef73ed8af73c8addcf5e20e43b9303117e1d1a2e0f3fdc5fabfda", func := "custodian/custodianlaw.RoundOuts", spec := "roundOuts", apart := false }
def RoundOutsSaid : Prop := roundOutsRow.holds Try.pinned (OpenSpec.ofChange roundOutsSpec)

/-- ITS FALSE NEIGHBOUR: 'it returns false'. Refute it at one input. -/
def roundOutsWrong : ChangeSpec := { name := "roundOuts", fn := fun _ => fun
  | [d1, d2] => { results := [.lit (.bool false)], args := [d1, d2] }
  | _ => none }
def RoundOutsWrongFalsely : Prop := roundOutsRow.holds Try.pinned (OpenSpec.ofChange roundOutsWrong)

/-- 'custodianlaw.RoundFits': WHATEVER THE INPUT: true; the input reads as it did. -/
def roundFitsSpec : ChangeSpec := { name := "roundFits", fn := fun _ => fun
  | [d1, d2] => { results := [.lit (.bool true)], args := [d1, d2] }
  | _ => none }
def roundFitsRow : OpenClaim := { program := "ythfdpfapgommmaa", sum := "2b8ea63feecef73ed8af73c8addcf5e20e43b9303117e1d1a2e0f3fdc5fabfda", func := "custodian/custodianlaw.RoundFits", spec := "roundFits", apart := false }
def RoundFitsSaid : Prop := roundFitsRow.holds Try.pinned (OpenSpec.ofChange roundFitsSpec)

/-- ITS FALSE NEIGHBOUR: 'it returns false'. Refute it at one input. -/
def roundFitsWrong : ChangeSpec := { name := "roundFits", fn := fun _ => fun
  | [d1, d2] => { results := [.lit (.bool false)], args := [d1, d2] }
  | _ => none }
def RoundFitsWrongFalsely : Prop := roundFitsRow.holds Try.pinned (OpenSpec.ofChange roundFitsWrong)

/- THE SECOND FORM. 'bulk': how many values and letters a reading holds, each counted each time it is reached (what is shared counts as often as it is met; a slice's spare places count too). A statement '..UptoSaid' is the law's where the arguments, and the package variables that the reading takes, are together of bulk at most 1048576: NARROWER than '..Said'. Prove '..Said' where nothing that the law and all that it calls make is longer than what came in: it says more and counts as full. Else prove '..UptoSaid'. A law counts once. -/
mutual
def uptoBulk {H : Type} : DataW H → Nat
  | .lit (.string bytes) => bytes.length + 1
  | .lit _ => 1
  | .nil => 1
  | .ptr d => uptoBulk d + 1
  | .slice elems spare => uptoBulkAll elems + uptoBulkAll spare + 1
  | .agg parts => uptoBulkAll parts + 1
  | .iface _ d => uptoBulk d + 1
  | .map entries => uptoBulkEntries entries + 1
  | .held _ => 1
def uptoBulkAll {H : Type} : List (DataW H) → Nat
  | [] => 0
  | d :: r => uptoBulk d + uptoBulkAll r
def uptoBulkEntries {H : Type} : List (Lit × DataW H) → Nat
  | [] => 0
  | x :: r => uptoBulkEntry x + uptoBulkEntries r
def uptoBulkEntry {H : Type} : Lit × DataW H → Nat
  | (.string bytes, d) => bytes.length + uptoBulk d + 1
  | (_, d) => uptoBulk d + 1
 end
def uptoSmall : (H : Type) → List (DataW H) → Bool := fun _ ds => decide (uptoBulkAll ds ≤ 1048576)
def OpenSpec.upto (s : _root_.Go.ChangeSpec) : _root_.Go.OpenSpec := { _root_.Go.OpenSpec.ofChange s with cond := some uptoSmall }

/-- 'custodianlaw.Names', WHERE WHAT IT READS IS OF BULK AT MOST 1048576: true; the input reads as it did. -/
def namesUptoRow : OpenClaim := { program := "ythfdpfapgommmaa", sum := "2b8ea63feecef73ed8af73c8addcf5e20e43b9303117e1d1a2e0f3fdc5fabfda", func := "custodian/custodianlaw.Names", spec := "names", apart := false, narrowed := true }
def NamesUptoSaid : Prop := namesUptoRow.holds Try.pinned (OpenSpec.upto namesSpec)

/-- 'custodianlaw.PermWithins', WHERE WHAT IT READS IS OF BULK AT MOST 1048576: true; the input reads as it did. -/
def permWithinsUptoRow : OpenClaim := { program := "ythfdpfapgommmaa", sum := "2b8ea63feecef73ed8af73c8addcf5e20e43b9303117e1d1a2e0f3fdc5fabfda", func := "custodian/custodianlaw.PermWithins", spec := "permWithins", apart := false, narrowed := true }
def PermWithinsUptoSaid : Prop := permWithinsUptoRow.holds Try.pinned (OpenSpec.upto permWithinsSpec)

/-- 'custodianlaw.NumDivs', WHERE WHAT IT READS IS OF BULK AT MOST 1048576: true; the input reads as it did. -/
def numDivsUptoRow : OpenClaim := { program := "ythfdpfapgommmaa", sum := "2b8ea63feecef73ed8af73c8addcf5e20e43b9303117e1d1a2e0f3fdc5fabfda", func := "custodian/custodianlaw.NumDivs", spec := "numDivs", apart := false, narrowed := true }
def NumDivsUptoSaid : Prop := numDivsUptoRow.holds Try.pinned (OpenSpec.upto numDivsSpec)

/-- 'custodianlaw.LinkFinds', WHERE WHAT IT READS IS OF BULK AT MOST 1048576: true; the input reads as it did. -/
def linkFindsUptoRow : OpenClaim := { program := "ythfdpfapgommmaa", sum := "2b8ea63feecef73ed8af73c8addcf5e20e43b9303117e1d1a2e0f3fdc5fabfda", func := "custodian/custodianlaw.LinkFinds", spec := "linkFinds", apart := false, narrowed := true }
def LinkFindsUptoSaid : Prop := linkFindsUptoRow.holds Try.pinned (OpenSpec.upto linkFindsSpec)

/-- 'custodianlaw.NumCalcs', WHERE WHAT IT READS IS OF BULK AT MOST 1048576: true; the input reads as it did. -/
def numCalcsUptoRow : OpenClaim := { program := "ythfdpfapgommmaa", sum := "2b8ea63feecef73ed8af73c8addcf5e20e43b9303117e1d1a2e0f3fdc5fabfda", func := "custodian/custodianlaw.NumCalcs", spec := "numCalcs", apart := false, narrowed := true }
def NumCalcsUptoSaid : Prop := numCalcsUptoRow.holds Try.pinned (OpenSpec.upto numCalcsSpec)

/-- 'custodianlaw.KeysMay', WHERE WHAT IT READS IS OF BULK AT MOST 1048576: true; the input reads as it did. -/
def keysMayUptoRow : OpenClaim := { program := "ythfdpfapgommmaa", sum := "2b8ea63feecef73ed8af73c8addcf5e20e43b9303117e1d1a2e0f3fdc5fabfda", func := "custodian/custodianlaw.KeysMay", spec := "keysMay", apart := false, narrowed := true }
def KeysMayUptoSaid : Prop := keysMayUptoRow.holds Try.pinned (OpenSpec.upto keysMaySpec)

/-- 'custodianlaw.HeapChecks', WHERE WHAT IT READS IS OF BULK AT MOST 1048576: true; the input reads as it did. -/
def heapChecksUptoRow : OpenClaim := { program := "ythfdpfapgommmaa", sum := "2b8ea63feecef73ed8af73c8addcf5e20e43b9303117e1d1a2e0f3fdc5fabfda", func := "custodian/custodianlaw.HeapChecks", spec := "heapChecks", apart := false, narrowed := true }
def HeapChecksUptoSaid : Prop := heapChecksUptoRow.holds Try.pinned (OpenSpec.upto heapChecksSpec)

/-- 'custodianlaw.KeysDrops', WHERE WHAT IT READS IS OF BULK AT MOST 1048576: true; the input reads as it did. -/
def keysDropsUptoRow : OpenClaim := { program := "ythfdpfapgommmaa", sum := "2b8ea63feecef73ed8af73c8addcf5e20e43b9303117e1d1a2e0f3fdc5fabfda", func := "custodian/custodianlaw.KeysDrops", spec := "keysDrops", apart := false, narrowed := true }
def KeysDropsUptoSaid : Prop := keysDropsUptoRow.holds Try.pinned (OpenSpec.upto keysDropsSpec)

/-- 'custodianlaw.CellChecks', WHERE WHAT IT READS IS OF BULK AT MOST 1048576: true; the input reads as it did. -/
def cellChecksUptoRow : OpenClaim := { program := "ythfdpfapgommmaa", sum := "2b8ea63feecef73ed8af73c8addcf5e20e43b9303117e1d1a2e0f3fdc5fabfda", func := "custodian/custodianlaw.CellChecks", spec := "cellChecks", apart := false, narrowed := true }
def CellChecksUptoSaid : Prop := cellChecksUptoRow.holds Try.pinned (OpenSpec.upto cellChecksSpec)

/-- 'custodianlaw.HeapNews', WHERE WHAT IT READS IS OF BULK AT MOST 1048576: true; the input reads as it did. -/
def heapNewsUptoRow : OpenClaim := { program := "ythfdpfapgommmaa", sum := "2b8ea63feecef73ed8af73c8addcf5e20e43b9303117e1d1a2e0f3fdc5fabfda", func := "custodian/custodianlaw.HeapNews", spec := "heapNews", apart := false, narrowed := true }
def HeapNewsUptoSaid : Prop := heapNewsUptoRow.holds Try.pinned (OpenSpec.upto heapNewsSpec)

/-- 'custodianlaw.RoundOuts', WHERE WHAT IT READS IS OF BULK AT MOST 1048576: true; the input reads as it did. -/
def roundOutsUptoRow : OpenClaim := { program := "ythfdpfapgommmaa", sum := "2b8ea63feecef73ed8af73c8addcf5e20e43b9303117e1d1a2e0f3fdc5fabfda", func := "custodian/custodianlaw.RoundOuts", spec := "roundOuts", apart := false, narrowed := true }
def RoundOutsUptoSaid : Prop := roundOutsUptoRow.holds Try.pinned (OpenSpec.upto roundOutsSpec)

/-- 'custodianlaw.RoundFits', WHERE WHAT IT READS IS OF BULK AT MOST 1048576: true; the input reads as it did. -/
def roundFitsUptoRow : OpenClaim := { program := "ythfdpfapgommmaa", sum := "2b8ea63feecef73ed8af73c8addcf5e20e43b9303117e1d1a2e0f3fdc5fabfda", func := "custodian/custodianlaw.RoundFits", spec := "roundFits", apart := false, narrowed := true }
def RoundFitsUptoSaid : Prop := roundFitsUptoRow.holds Try.pinned (OpenSpec.upto roundFitsSpec)

end Rows
end Go.Proofs.Ythfdpfapgommmaa
