/-
  No cell of these rows narrows 'for every input' (looked for: loops, veiled, ifaces, maps, wideKeys, modest, calm, conditions, laid).
  DERIVED. THE GIVEN ROWS OF THIS SEAT. 12 by the template 'for every input the law returns true; each argument reads behind the call as it read before'; 0 by the template 'total and deterministic' (their statements: YtmalaomcolgfcaaTotals.lean).
  GIVEN WITH THE SEED: the statements are not yours to turn. If you find one false, say at which input.
  Laid BY PROGRAM, IN A SANDBOX (cutbox-rows.mjs): the forced cells as the released guide's own fill.sh prints them over the translation 6d2d24c25cd807cd… (all of the seat's roots in one cut). By AI agents, Wed Nov 11 2026. No macro, syntax, notation, axiom, sorry.
-/
import Derived.Test.YtmalaomcolgfcaaChecked
import GoSem.Claim
import GoSem.ClaimJoined
import GoSem.ClaimMapViews
import Derived.JoinedTies
import Derived.KernelRfl
namespace Go.Proofs.Ytmalaomcolgfcaa
/- THE CELL 'sum', in the pinned program and in every row, IS THE sha256 OF THE DUMP (.gsa) THAT YtmalaomcolgfcaaProg.lean LOADS. Nothing in Lean hashes anything: it is a label: what it is worth is what the hold of that sum in a sandbox is worth. -/
noncomputable def Try.pinned : Pinned := { name := "ytmalaomcolgfcaa", sum := "6d2d24c25cd807cd2c09736a6f3cc2f55079c6aaadd51381fe934213f08871b5", checked := Try.checked }
namespace Rows
def none {H : Type} : Left H := { results := [], args := [] }

/-- 'custodianlaw.MemChecks': WHATEVER THE INPUT: true; the input reads as it did. -/
def memChecksSpec : ChangeSpec := { name := "memChecks", fn := fun _ => fun
  | [d] => { results := [.lit (.bool true)], args := [d] }
  | _ => none }
def memChecksRow : OpenClaim := { program := "ytmalaomcolgfcaa", sum := "6d2d24c25cd807cd2c09736a6f3cc2f55079c6aaadd51381fe934213f08871b5", func := "custodian/custodianlaw.MemChecks", spec := "memChecks", apart := false }
def MemChecksSaid : Prop := memChecksRow.holds Try.pinned (OpenSpec.ofChange memChecksSpec)

/-- ITS FALSE NEIGHBOUR: 'it returns false'. Refute it at one input. -/
def memChecksWrong : ChangeSpec := { name := "memChecks", fn := fun _ => fun
  | [d] => { results := [.lit (.bool false)], args := [d] }
  | _ => none }
def MemChecksWrongFalsely : Prop := memChecksRow.holds Try.pinned (OpenSpec.ofChange memChecksWrong)

/-- 'custodianlaw.HeapCleans': WHATEVER THE INPUT: true; the input reads as it did. -/
def heapCleansSpec : ChangeSpec := { name := "heapCleans", fn := fun _ => fun
  | [d] => { results := [.lit (.bool true)], args := [d] }
  | _ => none }
def heapCleansRow : OpenClaim := { program := "ytmalaomcolgfcaa", sum := "6d2d24c25cd807cd2c09736a6f3cc2f55079c6aaadd51381fe934213f08871b5", func := "custodian/custodianlaw.HeapCleans", spec := "heapCleans", apart := false }
def HeapCleansSaid : Prop := heapCleansRow.holds Try.pinned (OpenSpec.ofChange heapCleansSpec)

/-- ITS FALSE NEIGHBOUR: 'it returns false'. Refute it at one input. -/
def heapCleansWrong : ChangeSpec := { name := "heapCleans", fn := fun _ => fun
  | [d] => { results := [.lit (.bool false)], args := [d] }
  | _ => none }
def HeapCleansWrongFalsely : Prop := heapCleansRow.holds Try.pinned (OpenSpec.ofChange heapCleansWrong)

/-- 'custodianlaw.RoundShorts': WHATEVER THE INPUT: true; the input reads as it did. -/
def roundShortsSpec : ChangeSpec := { name := "roundShorts", fn := fun _ => fun
  | [d1, d2] => { results := [.lit (.bool true)], args := [d1, d2] }
  | _ => none }
def roundShortsRow : OpenClaim := { program := "ytmalaomcolgfcaa", sum := "6d2d24c25cd807cd2c09736a6f3cc2f55079c6aaadd51381fe934213f08871b5", func := "custodian/custodianlaw.RoundShorts", spec := "roundShorts", apart := false }
def RoundShortsSaid : Prop := roundShortsRow.holds Try.pinned (OpenSpec.ofChange roundShortsSpec)

/-- ITS FALSE NEIGHBOUR: 'it returns false'. Refute it at one input. -/
def roundShortsWrong : ChangeSpec := { name := "roundShorts", fn := fun _ => fun
  | [d1, d2] => { results := [.lit (.bool false)], args := [d1, d2] }
  | _ => none }
def RoundShortsWrongFalsely : Prop := roundShortsRow.holds Try.pinned (OpenSpec.ofChange roundShortsWrong)

/-- 'custodianlaw.KeysMoves': WHATEVER THE INPUT: true; the input reads as it did. -/
def keysMovesSpec : ChangeSpec := { name := "keysMoves", fn := fun _ => fun
  | [d1, d2] => { results := [.lit (.bool true)], args := [d1, d2] }
  | _ => none }
def keysMovesRow : OpenClaim := { program := "ytmalaomcolgfcaa", sum := "6d2d24c25cd807cd2c09736a6f3cc2f55079c6aaadd51381fe934213f08871b5", func := "custodian/custodianlaw.KeysMoves", spec := "keysMoves", apart := false }
def KeysMovesSaid : Prop := keysMovesRow.holds Try.pinned (OpenSpec.ofChange keysMovesSpec)

/-- ITS FALSE NEIGHBOUR: 'it returns false'. Refute it at one input. -/
def keysMovesWrong : ChangeSpec := { name := "keysMoves", fn := fun _ => fun
  | [d1, d2] => { results := [.lit (.bool false)], args := [d1, d2] }
  | _ => none }
def KeysMovesWrongFalsely : Prop := keysMovesRow.holds Try.pinned (OpenSpec.ofChange keysMovesWrong)

/-- 'custodianlaw.KeysOpens': WHATEVER THE INPUT: true; the input reads as it did. -/
def keysOpensSpec : ChangeSpec := { name := "keysOpens", fn := fun _ => fun
  | [d1, d2] => { results := [.lit (.bool true)], args := [d1, d2] }
  | _ => none }
def keysOpensRow : OpenClaim := { program := "ytmalaomcolgfcaa", sum := "6d2d24c25cd807cd2c09736a6f3cc2f55079c6aaadd51381fe934213f08871b5", func := "custodian/custodianlaw.KeysOpens", spec := "keysOpens", apart := false }
def KeysOpensSaid : Prop := keysOpensRow.holds Try.pinned (OpenSpec.ofChange keysOpensSpec)

/-- ITS FALSE NEIGHBOUR: 'it returns false'. Refute it at one input. -/
def keysOpensWrong : ChangeSpec := { name := "keysOpens", fn := fun _ => fun
  | [d1, d2] => { results := [.lit (.bool false)], args := [d1, d2] }
  | _ => none }
def KeysOpensWrongFalsely : Prop := keysOpensRow.holds Try.pinned (OpenSpec.ofChange keysOpensWrong)

/-- 'custodianlaw.HeapBacks': WHATEVER THE INPUT: true; the input reads as it did. -/
def heapBacksSpec : ChangeSpec := { name := "heapBacks", fn := fun _ => fun
  | [d1, d2] => { results := [.lit (.bool true)], args := [d1, d2] }
  | _ => none }
def heapBacksRow : OpenClaim := { program := "ytmalaomcolgfcaa", sum := "6d2d24c25cd807cd2c09736a6f3cc2f55079c6aaadd51381fe934213f08871b5", func := "custodian/custodianlaw.HeapBacks", spec := "heapBacks", unfollowed := true, recurses := true, apart := false }
def HeapBacksSaid : Prop := heapBacksRow.holds Try.pinned (OpenSpec.ofChange heapBacksSpec)

/-- ITS FALSE NEIGHBOUR: 'it returns false'. Refute it at one input. -/
def heapBacksWrong : ChangeSpec := { name := "heapBacks", fn := fun _ => fun
  | [d1, d2] => { results := [.lit (.bool false)], args := [d1, d2] }
  | _ => none }
def HeapBacksWrongFalsely : Prop := heapBacksRow.holds Try.pinned (OpenSpec.ofChange heapBacksWrong)

/-- 'custodianlaw.RoundLongs': WHATEVER THE INPUT: true; the input reads as it did. -/
def roundLongsSpec : ChangeSpec := { name := "roundLongs", fn := fun _ => fun
  | [d] => { results := [.lit (.bool true)], args := [d] }
  | _ => none }
def roundLongsRow : OpenClaim := { program := "ytmalaomcolgfcaa", sum := "6d2d24c25cd807cd2c09736a6f3cc2f55079c6aaadd51381fe934213f08871b5", func := "custodian/custodianlaw.RoundLongs", spec := "roundLongs", apart := false }
def RoundLongsSaid : Prop := roundLongsRow.holds Try.pinned (OpenSpec.ofChange roundLongsSpec)

/-- ITS FALSE NEIGHBOUR: 'it returns false'. Refute it at one input. -/
def roundLongsWrong : ChangeSpec := { name := "roundLongs", fn := fun _ => fun
  | [d] => { results := [.lit (.bool false)], args := [d] }
  | _ => none }
def RoundLongsWrongFalsely : Prop := roundLongsRow.holds Try.pinned (OpenSpec.ofChange roundLongsWrong)

/-- 'custodianlaw.EnterChecks': WHATEVER THE INPUT: true; the input reads as it did. -/
def enterChecksSpec : ChangeSpec := { name := "enterChecks", fn := fun _ => fun
  | [d] => { results := [.lit (.bool true)], args := [d] }
  | _ => none }
def enterChecksRow : OpenClaim := { program := "ytmalaomcolgfcaa", sum := "6d2d24c25cd807cd2c09736a6f3cc2f55079c6aaadd51381fe934213f08871b5", func := "custodian/custodianlaw.EnterChecks", spec := "enterChecks", apart := false }
def EnterChecksSaid : Prop := enterChecksRow.holds Try.pinned (OpenSpec.ofChange enterChecksSpec)

/-- ITS FALSE NEIGHBOUR: 'it returns false'. Refute it at one input. -/
def enterChecksWrong : ChangeSpec := { name := "enterChecks", fn := fun _ => fun
  | [d] => { results := [.lit (.bool false)], args := [d] }
  | _ => none }
def EnterChecksWrongFalsely : Prop := enterChecksRow.holds Try.pinned (OpenSpec.ofChange enterChecksWrong)

/-- 'custodianlaw.CellPacks': WHATEVER THE INPUT: true; the input reads as it did. -/
def cellPacksSpec : ChangeSpec := { name := "cellPacks", fn := fun _ => fun
  | [d1, d2] => { results := [.lit (.bool true)], args := [d1, d2] }
  | _ => none }
def cellPacksRow : OpenClaim := { program := "ytmalaomcolgfcaa", sum := "6d2d24c25cd807cd2c09736a6f3cc2f55079c6aaadd51381fe934213f08871b5", func := "custodian/custodianlaw.CellPacks", spec := "cellPacks", recurses := true, apart := false }
def CellPacksSaid : Prop := cellPacksRow.holds Try.pinned (OpenSpec.ofChange cellPacksSpec)

/-- ITS FALSE NEIGHBOUR: 'it returns false'. Refute it at one input. -/
def cellPacksWrong : ChangeSpec := { name := "cellPacks", fn := fun _ => fun
  | [d1, d2] => { results := [.lit (.bool false)], args := [d1, d2] }
  | _ => none }
def CellPacksWrongFalsely : Prop := cellPacksRow.holds Try.pinned (OpenSpec.ofChange cellPacksWrong)

/-- 'custodianlaw.KeysSeals': WHATEVER THE INPUT: true; the input reads as it did. -/
def keysSealsSpec : ChangeSpec := { name := "keysSeals", fn := fun _ => fun
  | [d1, d2] => { results := [.lit (.bool true)], args := [d1, d2] }
  | _ => none }
def keysSealsRow : OpenClaim := { program := "ytmalaomcolgfcaa", sum := "6d2d24c25cd807cd2c09736a6f3cc2f55079c6aaadd51381fe934213f08871b5", func := "custodian/custodianlaw.KeysSeals", spec := "keysSeals", apart := false }
def KeysSealsSaid : Prop := keysSealsRow.holds Try.pinned (OpenSpec.ofChange keysSealsSpec)

/-- ITS FALSE NEIGHBOUR: 'it returns false'. Refute it at one input. -/
def keysSealsWrong : ChangeSpec := { name := "keysSeals", fn := fun _ => fun
  | [d1, d2] => { results := [.lit (.bool false)], args := [d1, d2] }
  | _ => none }
def KeysSealsWrongFalsely : Prop := keysSealsRow.holds Try.pinned (OpenSpec.ofChange keysSealsWrong)

/-- 'custodianlaw.CellReads': WHATEVER THE INPUT: true; the input reads as it did. -/
def cellReadsSpec : ChangeSpec := { name := "cellReads", fn := fun _ => fun
  | [d] => { results := [.lit (.bool true)], args := [d] }
  | _ => none }
def cellReadsRow : OpenClaim := { program := "ytmalaomcolgfcaa", sum := "6d2d24c25cd807cd2c09736a6f3cc2f55079c6aaadd51381fe934213f08871b5", func := "custodian/custodianlaw.CellReads", spec := "cellReads", recurses := true, apart := false }
def CellReadsSaid : Prop := cellReadsRow.holds Try.pinned (OpenSpec.ofChange cellReadsSpec)

/-- ITS FALSE NEIGHBOUR: 'it returns false'. Refute it at one input. -/
def cellReadsWrong : ChangeSpec := { name := "cellReads", fn := fun _ => fun
  | [d] => { results := [.lit (.bool false)], args := [d] }
  | _ => none }
def CellReadsWrongFalsely : Prop := cellReadsRow.holds Try.pinned (OpenSpec.ofChange cellReadsWrong)

/-- 'custodianlaw.HeapGives': WHATEVER THE INPUT: true; the input reads as it did. -/
def heapGivesSpec : ChangeSpec := { name := "heapGives", fn := fun _ => fun
  | [d1, d2] => { results := [.lit (.bool true)], args := [d1, d2] }
  | _ => none }
def heapGivesRow : OpenClaim := { program := "ytmalaomcolgfcaa", sum := "6d2d24c25cd807cd2c09736a6f3cc2f55079c6aaadd51381fe934213f08871b5", func := "custodian/custodianlaw.HeapGives", spec := "heapGives", inPlace := ["slices.overlaps[custodian/api.Piece]"], unfollowed := true, recurses := true, apart := false }
def HeapGivesSaid : Prop := heapGivesRow.holds Try.pinned (OpenSpec.ofChange heapGivesSpec)

/-- ITS FALSE NEIGHBOUR: 'it returns false'. Refute it at one input. -/
def heapGivesWrong : ChangeSpec := { name := "heapGives", fn := fun _ => fun
  | [d1, d2] => { results := [.lit (.bool false)], args := [d1, d2] }
  | _ => none }
def HeapGivesWrongFalsely : Prop := heapGivesRow.holds Try.pinned (OpenSpec.ofChange heapGivesWrong)

/- THE SECOND FORM. 'bulk': how many values and letters a reading holds, each counted each time it is reached (what is shared counts as often as it is met; a slice's spare places count too). A statement '..UptoSaid' is the law's where the arguments, and the package variables that the reading takes, are together of bulk at most 1048576: NARROWER than '..Said'. Prove '..Said' where nothing that the law and all that it calls make is longer than what came in: it says more and counts as full. Else prove '..UptoSaid'. A law counts once. -/
mutual
def uptoBulk {H : Type} : DataW H → Nat
  | .lit (.string bytes) => bytes.length + 1
  | .lit _ => 1
  | .nil => 1
  | .ptr d => uptoBulk d + 1
  | .slice elems spare => uptoBulkAll elems + uptoBulkAll spare + 1
  | .agg parts => uptoBulkAll parts + 1
  | .iface _ d => uptoBulk d + 1
  | .map entries => uptoBulkEntries entries + 1
  | .held _ => 1
def uptoBulkAll {H : Type} : List (DataW H) → Nat
  | [] => 0
  | d :: r => uptoBulk d + uptoBulkAll r
def uptoBulkEntries {H : Type} : List (Lit × DataW H) → Nat
  | [] => 0
  | x :: r => uptoBulkEntry x + uptoBulkEntries r
def uptoBulkEntry {H : Type} : Lit × DataW H → Nat
  | (.string bytes, d) => bytes.length + uptoBulk d + 1
  | (_, d) => uptoBulk d + 1
 end
def uptoSmall : (H : Type) → List (DataW H) → Bool := fun _ ds => decide (uptoBulkAll ds ≤ 1048576)
def OpenSpec.upto (s : _root_.Go.ChangeSpec) : _root_.Go.OpenSpec := { _root_.Go.OpenSpec.ofChange s with cond := some uptoSmall }

/-- 'custodianlaw.MemChecks', WHERE WHAT IT READS IS OF BULK AT MOST 1048576: true; the input reads as it did. -/
def memChecksUptoRow : OpenClaim := { program := "ytmalaomcolgfcaa", sum := "6d2d24c25cd807cd2c09736a6f3cc2f55079c6aaadd51381fe934213f08871b5", func := "custodian/custodianlaw.MemChecks", spec := "memChecks", apart := false, narrowed := true }
def MemChecksUptoSaid : Prop := memChecksUptoRow.holds Try.pinned (OpenSpec.upto memChecksSpec)

/-- 'custodianlaw.HeapCleans', WHERE WHAT IT READS IS OF BULK AT MOST 1048576: true; the input reads as it did. -/
def heapCleansUptoRow : OpenClaim := { program := "ytmalaomcolgfcaa", sum := "6d2d24c25cd807cd2c09736a6f3cc2f55079c6aaadd51381fe934213f08871b5", func := "custodian/custodianlaw.HeapCleans", spec := "heapCleans", apart := false, narrowed := true }
def HeapCleansUptoSaid : Prop := heapCleansUptoRow.holds Try.pinned (OpenSpec.upto heapCleansSpec)

/-- 'custodianlaw.RoundShorts', WHERE WHAT IT READS IS OF BULK AT MOST 1048576: true; the input reads as it did. -/
def roundShortsUptoRow : OpenClaim := { program := "ytmalaomcolgfcaa", sum := "6d2d24c25cd807cd2c09736a6f3cc2f55079c6aaadd51381fe934213f08871b5", func := "custodian/custodianlaw.RoundShorts", spec := "roundShorts", apart := false, narrowed := true }
def RoundShortsUptoSaid : Prop := roundShortsUptoRow.holds Try.pinned (OpenSpec.upto roundShortsSpec)

/-- 'custodianlaw.KeysMoves', WHERE WHAT IT READS IS OF BULK AT MOST 1048576: true; the input reads as it did. -/
def keysMovesUptoRow : OpenClaim := { program := "ytmalaomcolgfcaa", sum := "6d2d24c25cd807cd2c09736a6f3cc2f55079c6aaadd51381fe934213f08871b5", func := "custodian/custodianlaw.KeysMoves", spec := "keysMoves", apart := false, narrowed := true }
def KeysMovesUptoSaid : Prop := keysMovesUptoRow.holds Try.pinned (OpenSpec.upto keysMovesSpec)

/-- 'custodianlaw.KeysOpens', WHERE WHAT IT READS IS OF BULK AT MOST 1048576: true; the input reads as it did. -/
def keysOpensUptoRow : OpenClaim := { program := "ytmalaomcolgfcaa", sum := "6d2d24c25cd807cd2c09736a6f3cc2f55079c6aaadd51381fe934213f08871b5", func := "custodian/custodianlaw.KeysOpens", spec := "keysOpens", apart := false, narrowed := true }
def KeysOpensUptoSaid : Prop := keysOpensUptoRow.holds Try.pinned (OpenSpec.upto keysOpensSpec)

/-- 'custodianlaw.HeapBacks', WHERE WHAT IT READS IS OF BULK AT MOST 1048576: true; the input reads as it did. -/
def heapBacksUptoRow : OpenClaim := { program := "ytmalaomcolgfcaa", sum := "6d2d24c25cd807cd2c09736a6f3cc2f55079c6aaadd51381fe934213f08871b5", func := "custodian/custodianlaw.HeapBacks", spec := "heapBacks", unfollowed := true, recurses := true, apart := false, narrowed := true }
def HeapBacksUptoSaid : Prop := heapBacksUptoRow.holds Try.pinned (OpenSpec.upto heapBacksSpec)

/-- 'custodianlaw.RoundLongs', WHERE WHAT IT READS IS OF BULK AT MOST 1048576: true; the input reads as it did. -/
def roundLongsUptoRow : OpenClaim := { program := "ytmalaomcolgfcaa", sum := "6d2d24c25cd807cd2c09736a6f3cc2f55079c6aaadd51381fe934213f08871b5", func := "custodian/custodianlaw.RoundLongs", spec := "roundLongs", apart := false, narrowed := true }
def RoundLongsUptoSaid : Prop := roundLongsUptoRow.holds Try.pinned (OpenSpec.upto roundLongsSpec)

/-- 'custodianlaw.EnterChecks', WHERE WHAT IT READS IS OF BULK AT MOST 1048576: true; the input reads as it did. -/
def enterChecksUptoRow : OpenClaim := { program := "ytmalaomcolgfcaa", sum := "6d2d24c25cd807cd2c09736a6f3cc2f55079c6aaadd51381fe934213f08871b5", func := "custodian/custodianlaw.EnterChecks", spec := "enterChecks", apart := false, narrowed := true }
def EnterChecksUptoSaid : Prop := enterChecksUptoRow.holds Try.pinned (OpenSpec.upto enterChecksSpec)

/-- 'custodianlaw.CellPacks', WHERE WHAT IT READS IS OF BULK AT MOST 1048576: true; the input reads as it did. -/
def cellPacksUptoRow : OpenClaim := { program := "ytmalaomcolgfcaa", sum := "6d2d24c25cd807cd2c09736a6f3cc2f55079c6aaadd51381fe934213f08871b5", func := "custodian/custodianlaw.CellPacks", spec := "cellPacks", recurses := true, apart := false, narrowed := true }
def CellPacksUptoSaid : Prop := cellPacksUptoRow.holds Try.pinned (OpenSpec.upto cellPacksSpec)

/-- 'custodianlaw.KeysSeals', WHERE WHAT IT READS IS OF BULK AT MOST 1048576: true; the input reads as it did. -/
def keysSealsUptoRow : OpenClaim := { program := "ytmalaomcolgfcaa", sum := "6d2d24c25cd807cd2c09736a6f3cc2f55079c6aaadd51381fe934213f08871b5", func := "custodian/custodianlaw.KeysSeals", spec := "keysSeals", apart := false, narrowed := true }
def KeysSealsUptoSaid : Prop := keysSealsUptoRow.holds Try.pinned (OpenSpec.upto keysSealsSpec)

/-- 'custodianlaw.CellReads', WHERE WHAT IT READS IS OF BULK AT MOST 1048576: true; the input reads as it did. -/
def cellReadsUptoRow : OpenClaim := { program := "ytmalaomcolgfcaa", sum := "6d2d24c25cd807cd2c09736a6f3cc2f55079c6aaadd51381fe934213f08871b5", func := "custodian/custodianlaw.CellReads", spec := "cellReads", recurses := true, apart := false, narrowed := true }
def CellReadsUptoSaid : Prop := cellReadsUptoRow.holds Try.pinned (OpenSpec.upto cellReadsSpec)

/-- 'custodianlaw.HeapGives', WHERE WHAT IT READS IS OF BULK AT MOST 1048576: true; the input reads as it did. -/
def heapGivesUptoRow : OpenClaim := { program := "ytmalaomcolgfcaa", sum := "6d2d24c25cd807cd2c09736a6f3cc2f55079c6aaadd51381fe934213f08871b5", func := "custodian/custodianlaw.HeapGives", spec := "heapGives", inPlace := ["slices.overlaps[custodian/api.Piece]"], unfollowed := true, recurses := true, apart := false, narrowed := true }
def HeapGivesUptoSaid : Prop := heapGivesUptoRow.holds Try.pinned (OpenSpec.upto heapGivesSpec)

end Rows
end Go.Proofs.Ytmalaomcolgfcaa
