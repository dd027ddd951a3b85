/-
  No cell of these rows narrows 'for every input' (looked for: loops, veiled, ifaces, maps, wideKeys, modest, calm, conditions, laid).
  DERIVED. THE GIVEN ROWS OF THIS SEAT. 6 by the template 'for every input the law returns true; each argument reads behind the call as it read before'; 0 by the template 'total and deterministic' (their statements: YthdlfepakkihnaaTotals.lean).
  GIVEN WITH THE SEED: the statements are not yours to turn. If you find one false, say at which input.
  Laid BY PROGRAM, IN A SANDBOX (cutbox-rows.mjs): the forced cells as the released guide's own fill.sh prints them over the translation fbe41cfd53d8d738… (all of the seat's roots in one cut). By AI agents, Wed Nov 11 2026. No macro, syntax, notation, axiom, sorry.
-/
import Derived.Test.YthdlfepakkihnaaChecked
import GoSem.Claim
import GoSem.ClaimJoined
import GoSem.ClaimMapViews
import Derived.JoinedTies
import Derived.KernelRfl
namespace Go.Proofs.Ythdlfepakkihnaa
/- THE CELL 'sum', in the pinned program and in every row, IS THE sha256 OF THE DUMP (.gsa) THAT YthdlfepakkihnaaProg.lean LOADS. Nothing in Lean hashes anything: it is a label: what it is worth is what the hold of that sum in a sandbox is worth. -/
noncomputable def Try.pinned : Pinned := { name := "ythdlfepakkihnaa", sum := "fbe41cfd53d8d738aa032aacc94bfd774d333fa059a234b8f69d945f8e8d8cfc", checked := Try.checked }
namespace Rows
def none {H : Type} : Left H := { results := [], args := [] }

/-- 'custodianlaw.ReachCells': WHATEVER THE INPUT: true; the input reads as it did. -/
def reachCellsSpec : ChangeSpec := { name := "reachCells", fn := fun _ => fun
  | [d1, d2, d3] => { results := [.lit (.bool true)], args := [d1, d2, d3] }
  | _ => none }
def reachCellsRow : OpenClaim := { program := "ythdlfepakkihnaa", sum := "fbe41cfd53d8d738aa032aacc94bfd774d333fa059a234b8f69d945f8e8d8cfc", func := "custodian/custodianlaw.ReachCells", spec := "reachCells", unfollowed := true, recurses := true, plainKeys := false, apart := false }
def ReachCellsSaid : Prop := reachCellsRow.holds Try.pinned (OpenSpec.ofChange reachCellsSpec)

/-- ITS FALSE NEIGHBOUR: 'it returns false'. Refute it at one input. -/
def reachCellsWrong : ChangeSpec := { name := "reachCells", fn := fun _ => fun
  | [d1, d2, d3] => { results := [.lit (.bool false)], args := [d1, d2, d3] }
  | _ => none }
def ReachCellsWrongFalsely : Prop := reachCellsRow.holds Try.pinned (OpenSpec.ofChange reachCellsWrong)

/-- 'custodianlaw.ReachSeals': WHATEVER THE INPUT: true; the input reads as it did. -/
def reachSealsSpec : ChangeSpec := { name := "reachSeals", fn := fun _ => fun
  | [d1, d2, d3] => { results := [.lit (.bool true)], args := [d1, d2, d3] }
  | _ => none }
def reachSealsRow : OpenClaim := { program := "ythdlfepakkihnaa", sum := "fbe41cfd53d8d738aa032aacc94bfd774d333fa059a234b8f69d945f8e8d8cfc", func := "custodian/custodianlaw.ReachSeals", spec := "reachSeals", unfollowed := true, recurses := true, plainKeys := false, apart := false }
def ReachSealsSaid : Prop := reachSealsRow.holds Try.pinned (OpenSpec.ofChange reachSealsSpec)

/-- ITS FALSE NEIGHBOUR: 'it returns false'. Refute it at one input. -/
def reachSealsWrong : ChangeSpec := { name := "reachSeals", fn := fun _ => fun
  | [d1, d2, d3] => { results := [.lit (.bool false)], args := [d1, d2, d3] }
  | _ => none }
def ReachSealsWrongFalsely : Prop := reachSealsRow.holds Try.pinned (OpenSpec.ofChange reachSealsWrong)

/-- 'custodianlaw.LinkLinks': WHATEVER THE INPUT: true; the input reads as it did. -/
def linkLinksSpec : ChangeSpec := { name := "linkLinks", fn := fun _ => fun
  | [d] => { results := [.lit (.bool true)], args := [d] }
  | _ => none }
def linkLinksRow : OpenClaim := { program := "ythdlfepakkihnaa", sum := "fbe41cfd53d8d738aa032aacc94bfd774d333fa059a234b8f69d945f8e8d8cfc", func := "custodian/custodianlaw.LinkLinks", spec := "linkLinks", inPlace := ["internal/bytealg.IndexByteString", "internal/bytealg.IndexString"], unfollowed := true, recurses := true, named := ["internal/bytealg.MaxLen"], plainKeys := false, apart := false }
def LinkLinksSaid : Prop := linkLinksRow.holds Try.pinned (OpenSpec.ofChange linkLinksSpec)

/-- ITS FALSE NEIGHBOUR: 'it returns false'. Refute it at one input. -/
def linkLinksWrong : ChangeSpec := { name := "linkLinks", fn := fun _ => fun
  | [d] => { results := [.lit (.bool false)], args := [d] }
  | _ => none }
def LinkLinksWrongFalsely : Prop := linkLinksRow.holds Try.pinned (OpenSpec.ofChange linkLinksWrong)

/-- 'custodianlaw.FilePacks': WHATEVER THE INPUT: true; the input reads as it did. -/
def filePacksSpec : ChangeSpec := { name := "filePacks", fn := fun _ => fun
  | [d] => { results := [.lit (.bool true)], args := [d] }
  | _ => none }
def filePacksRow : OpenClaim := { program := "ythdlfepakkihnaa", sum := "fbe41cfd53d8d738aa032aacc94bfd774d333fa059a234b8f69d945f8e8d8cfc", func := "custodian/custodianlaw.FilePacks", spec := "filePacks", inPlace := ["internal/bytealg.IndexByteString", "internal/bytealg.IndexString"], unfollowed := true, recurses := true, named := ["internal/bytealg.MaxLen"], plainKeys := false, apart := false }
def FilePacksSaid : Prop := filePacksRow.holds Try.pinned (OpenSpec.ofChange filePacksSpec)

/-- ITS FALSE NEIGHBOUR: 'it returns false'. Refute it at one input. -/
def filePacksWrong : ChangeSpec := { name := "filePacks", fn := fun _ => fun
  | [d] => { results := [.lit (.bool false)], args := [d] }
  | _ => none }
def FilePacksWrongFalsely : Prop := filePacksRow.holds Try.pinned (OpenSpec.ofChange filePacksWrong)

/-- 'custodianlaw.FileReads': WHATEVER THE INPUT: true; the input reads as it did. -/
def fileReadsSpec : ChangeSpec := { name := "fileReads", fn := fun _ => fun
  | [d] => { results := [.lit (.bool true)], args := [d] }
  | _ => none }
def fileReadsRow : OpenClaim := { program := "ythdlfepakkihnaa", sum := "fbe41cfd53d8d738aa032aacc94bfd774d333fa059a234b8f69d945f8e8d8cfc", func := "custodian/custodianlaw.FileReads", spec := "fileReads", inPlace := ["internal/bytealg.IndexByteString", "internal/bytealg.IndexString"], unfollowed := true, recurses := true, named := ["internal/bytealg.MaxLen"], plainKeys := false, apart := false }
def FileReadsSaid : Prop := fileReadsRow.holds Try.pinned (OpenSpec.ofChange fileReadsSpec)

/-- ITS FALSE NEIGHBOUR: 'it returns false'. Refute it at one input. -/
def fileReadsWrong : ChangeSpec := { name := "fileReads", fn := fun _ => fun
  | [d] => { results := [.lit (.bool false)], args := [d] }
  | _ => none }
def FileReadsWrongFalsely : Prop := fileReadsRow.holds Try.pinned (OpenSpec.ofChange fileReadsWrong)

/-- 'custodianlaw.ReachKeys': WHATEVER THE INPUT: true; the input reads as it did. -/
def reachKeysSpec : ChangeSpec := { name := "reachKeys", fn := fun _ => fun
  | [d1, d2] => { results := [.lit (.bool true)], args := [d1, d2] }
  | _ => none }
def reachKeysRow : OpenClaim := { program := "ythdlfepakkihnaa", sum := "fbe41cfd53d8d738aa032aacc94bfd774d333fa059a234b8f69d945f8e8d8cfc", func := "custodian/custodianlaw.ReachKeys", spec := "reachKeys", unfollowed := true, recurses := true, plainKeys := false, apart := false }
def ReachKeysSaid : Prop := reachKeysRow.holds Try.pinned (OpenSpec.ofChange reachKeysSpec)

/-- ITS FALSE NEIGHBOUR: 'it returns false'. Refute it at one input. -/
def reachKeysWrong : ChangeSpec := { name := "reachKeys", fn := fun _ => fun
  | [d1, d2] => { results := [.lit (.bool false)], args := [d1, d2] }
  | _ => none }
def ReachKeysWrongFalsely : Prop := reachKeysRow.holds Try.pinned (OpenSpec.ofChange reachKeysWrong)

/- THE SECOND FORM. 'bulk': how many values and letters a reading holds, each counted each time it is reached (what is shared counts as often as it is met; a slice's spare places count too). A statement '..UptoSaid' is the law's where the arguments, and the package variables that the reading takes, are together of bulk at most 1048576: NARROWER than '..Said'. Prove '..Said' where nothing that the law and all that it calls make is longer than what came in: it says more and counts as full. Else prove '..UptoSaid'. A law counts once. -/
mutual
def uptoBulk {H : Type} : DataW H → Nat
  | .lit (.string bytes) => bytes.length + 1
  | .lit _ => 1
  | .nil => 1
  | .ptr d => uptoBulk d + 1
  | .slice elems spare => uptoBulkAll elems + uptoBulkAll spare + 1
  | .agg parts => uptoBulkAll parts + 1
  | .iface _ d => uptoBulk d + 1
  | .map entries => uptoBulkEntries entries + 1
  | .held _ => 1
def uptoBulkAll {H : Type} : List (DataW H) → Nat
  | [] => 0
  | d :: r => uptoBulk d + uptoBulkAll r
def uptoBulkEntries {H : Type} : List (Lit × DataW H) → Nat
  | [] => 0
  | x :: r => uptoBulkEntry x + uptoBulkEntries r
def uptoBulkEntry {H : Type} : Lit × DataW H → Nat
  | (.string bytes, d) => bytes.length + uptoBulk d + 1
  | (_, d) => uptoBulk d + 1
 end
def uptoSmall : (H : Type) → List (DataW H) → Bool := fun _ ds => decide (uptoBulkAll ds ≤ 1048576)
def OpenSpec.upto (s : _root_.Go.ChangeSpec) : _root_.Go.OpenSpec := { _root_.Go.OpenSpec.ofChange s with cond := some uptoSmall }

/-- 'custodianlaw.ReachCells', WHERE WHAT IT READS IS OF BULK AT MOST 1048576: true; the input reads as it did. -/
def reachCellsUptoRow : OpenClaim := { program := "ythdlfepakkihnaa", sum := "fbe41cfd53d8d738aa032aacc94bfd774d333fa059a234b8f69d945f8e8d8cfc", func := "custodian/custodianlaw.ReachCells", spec := "reachCells", unfollowed := true, recurses := true, plainKeys := false, apart := false, narrowed := true }
def ReachCellsUptoSaid : Prop := reachCellsUptoRow.holds Try.pinned (OpenSpec.upto reachCellsSpec)

/-- 'custodianlaw.ReachSeals', WHERE WHAT IT READS IS OF BULK AT MOST 1048576: true; the input reads as it did. -/
def reachSealsUptoRow : OpenClaim := { program := "ythdlfepakkihnaa", sum := "fbe41cfd53d8d738aa032aacc94bfd774d333fa059a234b8f69d945f8e8d8cfc", func := "custodian/custodianlaw.ReachSeals", spec := "reachSeals", unfollowed := true, recurses := true, plainKeys := false, apart := false, narrowed := true }
def ReachSealsUptoSaid : Prop := reachSealsUptoRow.holds Try.pinned (OpenSpec.upto reachSealsSpec)

/-- 'custodianlaw.LinkLinks', WHERE WHAT IT READS IS OF BULK AT MOST 1048576: true; the input reads as it did. -/
def linkLinksUptoRow : OpenClaim := { program := "ythdlfepakkihnaa", sum := "fbe41cfd53d8d738aa032aacc94bfd774d333fa059a234b8f69d945f8e8d8cfc", func := "custodian/custodianlaw.LinkLinks", spec := "linkLinks", inPlace := ["internal/bytealg.IndexByteString", "internal/bytealg.IndexString"], unfollowed := true, recurses := true, named := ["internal/bytealg.MaxLen"], plainKeys := false, apart := false, narrowed := true }
def LinkLinksUptoSaid : Prop := linkLinksUptoRow.holds Try.pinned (OpenSpec.upto linkLinksSpec)

/-- 'custodianlaw.FilePacks', WHERE WHAT IT READS IS OF BULK AT MOST 1048576: true; the input reads as it did. -/
def filePacksUptoRow : OpenClaim := { program := "ythdlfepakkihnaa", sum := "fbe41cfd53d8d738aa032aacc94bfd774d333fa059a234b8f69d945f8e8d8cfc", func := "custodian/custodianlaw.FilePacks", spec := "filePacks", inPlace := ["internal/bytealg.IndexByteString", "internal/bytealg.IndexString"], unfollowed := true, recurses := true, named := ["internal/bytealg.MaxLen"], plainKeys := false, apart := false, narrowed := true }
def FilePacksUptoSaid : Prop := filePacksUptoRow.holds Try.pinned (OpenSpec.upto filePacksSpec)

/-- 'custodianlaw.FileReads', WHERE WHAT IT READS IS OF BULK AT MOST 1048576: true; the input reads as it did. -/
def fileReadsUptoRow : OpenClaim := { program := "ythdlfepakkihnaa", sum := "fbe41cfd53d8d738aa032aacc94bfd774d333fa059a234b8f69d945f8e8d8cfc", func := "custodian/custodianlaw.FileReads", spec := "fileReads", inPlace := ["internal/bytealg.IndexByteString", "internal/bytealg.IndexString"], unfollowed := true, recurses := true, named := ["internal/bytealg.MaxLen"], plainKeys := false, apart := false, narrowed := true }
def FileReadsUptoSaid : Prop := fileReadsUptoRow.holds Try.pinned (OpenSpec.upto fileReadsSpec)

/-- 'custodianlaw.ReachKeys', WHERE WHAT IT READS IS OF BULK AT MOST 1048576: true; the input reads as it did. -/
def reachKeysUptoRow : OpenClaim := { program := "ythdlfepakkihnaa", sum := "fbe41cfd53d8d738aa032aacc94bfd774d333fa059a234b8f69d945f8e8d8cfc", func := "custodian/custodianlaw.ReachKeys", spec := "reachKeys", unfollowed := true, recurses := true, plainKeys := false, apart := false, narrowed := true }
def ReachKeysUptoSaid : Prop := reachKeysUptoRow.holds Try.pinned (OpenSpec.upto reachKeysSpec)

end Rows
end Go.Proofs.Ythdlfepakkihnaa
