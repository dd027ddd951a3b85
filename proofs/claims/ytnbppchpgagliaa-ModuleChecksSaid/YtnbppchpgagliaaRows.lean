/-
  No cell of these rows narrows 'for every input' (looked for: loops, veiled, ifaces, maps, wideKeys, modest, calm, conditions, laid).
  DERIVED. THE GIVEN ROWS OF THIS SEAT. 12 by the template 'for every input the law returns true; each argument reads behind the call as it read before'; 0 by the template 'total and deterministic' (their statements: YtnbppchpgagliaaTotals.lean).
  GIVEN WITH THE SEED: the statements are not yours to turn. If you find one false, say at which input.
  Laid BY PROGRAM, IN A SANDBOX (cutbox-rows.mjs): the forced cells as the released guide's own fill.sh prints them over the translation 49cc86737fbcf748… (all of the seat's roots in one cut). By AI agents, Wed Nov 11 2026. No macro, syntax, notation, axiom, sorry.
-/
import Derived.Test.YtnbppchpgagliaaChecked
import GoSem.Claim
import GoSem.ClaimJoined
import GoSem.ClaimMapViews
import Derived.JoinedTies
import Derived.KernelRfl
namespace Go.Proofs.Ytnbppchpgagliaa
/- THE CELL 'sum', in the pinned program and in every row, IS THE sha256 OF THE DUMP (.gsa) THAT YtnbppchpgagliaaProg.lean LOADS. Nothing in Lean hashes anything: it is a label: what it is worth is what the hold of that sum in a sandbox is worth. -/
noncomputable def Try.pinned : Pinned := { name := "ytnbppchpgagliaa", sum := "49cc86737fbcf7481dbc4ddff218437c43f916835f346b60af545a4bc28963ab", checked := Try.checked }
namespace Rows
def none {H : Type} : Left H := { results := [], args := [] }

/-- 'custodianlaw.LinkFinds': WHATEVER THE INPUT: true; the input reads as it did. -/
def linkFindsSpec : ChangeSpec := { name := "linkFinds", fn := fun _ => fun
  | [d1, d2] => { results := [.lit (.bool true)], args := [d1, d2] }
  | _ => none }
def linkFindsRow : OpenClaim := { program := "ytnbppchpgagliaa", sum := "49cc86737fbcf7481dbc4ddff218437c43f916835f346b60af545a4bc28963ab", func := "custodian/custodianlaw.LinkFinds", spec := "linkFinds", plainKeys := false, apart := false }
def LinkFindsSaid : Prop := linkFindsRow.holds Try.pinned (OpenSpec.ofChange linkFindsSpec)

/-- ITS FALSE NEIGHBOUR: 'it returns false'. Refute it at one input. -/
def linkFindsWrong : ChangeSpec := { name := "linkFinds", fn := fun _ => fun
  | [d1, d2] => { results := [.lit (.bool false)], args := [d1, d2] }
  | _ => none }
def LinkFindsWrongFalsely : Prop := linkFindsRow.holds Try.pinned (OpenSpec.ofChange linkFindsWrong)

/-- 'custodianlaw.MemLoads': WHATEVER THE INPUT: true; the input reads as it did. -/
def memLoadsSpec : ChangeSpec := { name := "memLoads", fn := fun _ => fun
  | [d1, d2, d3] => { results := [.lit (.bool true)], args := [d1, d2, d3] }
  | _ => none }
def memLoadsRow : OpenClaim := { program := "ytnbppchpgagliaa", sum := "49cc86737fbcf7481dbc4ddff218437c43f916835f346b60af545a4bc28963ab", func := "custodian/custodianlaw.MemLoads", spec := "memLoads", plainKeys := false, apart := false }
def MemLoadsSaid : Prop := memLoadsRow.holds Try.pinned (OpenSpec.ofChange memLoadsSpec)

/-- ITS FALSE NEIGHBOUR: 'it returns false'. Refute it at one input. -/
def memLoadsWrong : ChangeSpec := { name := "memLoads", fn := fun _ => fun
  | [d1, d2, d3] => { results := [.lit (.bool false)], args := [d1, d2, d3] }
  | _ => none }
def MemLoadsWrongFalsely : Prop := memLoadsRow.holds Try.pinned (OpenSpec.ofChange memLoadsWrong)

/-- 'custodianlaw.StepChecks': WHATEVER THE INPUT: true; the input reads as it did. -/
def stepChecksSpec : ChangeSpec := { name := "stepChecks", fn := fun _ => fun
  | [d] => { results := [.lit (.bool true)], args := [d] }
  | _ => none }
def stepChecksRow : OpenClaim := { program := "ytnbppchpgagliaa", sum := "49cc86737fbcf7481dbc4ddff218437c43f916835f346b60af545a4bc28963ab", func := "custodian/custodianlaw.StepChecks", spec := "stepChecks", plainKeys := false, apart := false }
def StepChecksSaid : Prop := stepChecksRow.holds Try.pinned (OpenSpec.ofChange stepChecksSpec)

/-- ITS FALSE NEIGHBOUR: 'it returns false'. Refute it at one input. -/
def stepChecksWrong : ChangeSpec := { name := "stepChecks", fn := fun _ => fun
  | [d] => { results := [.lit (.bool false)], args := [d] }
  | _ => none }
def StepChecksWrongFalsely : Prop := stepChecksRow.holds Try.pinned (OpenSpec.ofChange stepChecksWrong)

/-- 'custodianlaw.MemStores': WHATEVER THE INPUT: true; the input reads as it did. -/
def memStoresSpec : ChangeSpec := { name := "memStores", fn := fun _ => fun
  | [d1, d2, d3, d4] => { results := [.lit (.bool true)], args := [d1, d2, d3, d4] }
  | _ => none }
def memStoresRow : OpenClaim := { program := "ytnbppchpgagliaa", sum := "49cc86737fbcf7481dbc4ddff218437c43f916835f346b60af545a4bc28963ab", func := "custodian/custodianlaw.MemStores", spec := "memStores", plainKeys := false, apart := false }
def MemStoresSaid : Prop := memStoresRow.holds Try.pinned (OpenSpec.ofChange memStoresSpec)

/-- ITS FALSE NEIGHBOUR: 'it returns false'. Refute it at one input. -/
def memStoresWrong : ChangeSpec := { name := "memStores", fn := fun _ => fun
  | [d1, d2, d3, d4] => { results := [.lit (.bool false)], args := [d1, d2, d3, d4] }
  | _ => none }
def MemStoresWrongFalsely : Prop := memStoresRow.holds Try.pinned (OpenSpec.ofChange memStoresWrong)

/-- 'custodianlaw.EnterEnters': WHATEVER THE INPUT: true; the input reads as it did. -/
def enterEntersSpec : ChangeSpec := { name := "enterEnters", fn := fun _ => fun
  | [d1, d2, d3] => { results := [.lit (.bool true)], args := [d1, d2, d3] }
  | _ => none }
def enterEntersRow : OpenClaim := { program := "ytnbppchpgagliaa", sum := "49cc86737fbcf7481dbc4ddff218437c43f916835f346b60af545a4bc28963ab", func := "custodian/custodianlaw.EnterEnters", spec := "enterEnters", plainKeys := false, apart := false }
def EnterEntersSaid : Prop := enterEntersRow.holds Try.pinned (OpenSpec.ofChange enterEntersSpec)

/-- ITS FALSE NEIGHBOUR: 'it returns false'. Refute it at one input. -/
def enterEntersWrong : ChangeSpec := { name := "enterEnters", fn := fun _ => fun
  | [d1, d2, d3] => { results := [.lit (.bool false)], args := [d1, d2, d3] }
  | _ => none }
def EnterEntersWrongFalsely : Prop := enterEntersRow.holds Try.pinned (OpenSpec.ofChange enterEntersWrong)

/-- 'custodianlaw.SweepSweeps': WHATEVER THE INPUT: true; the input reads as it did. -/
def sweepSweepsSpec : ChangeSpec := { name := "sweepSweeps", fn := fun _ => fun
  | [d1, d2, d3] => { results := [.lit (.bool true)], args := [d1, d2, d3] }
  | _ => none }
def sweepSweepsRow : OpenClaim := { program := "ytnbppchpgagliaa", sum := "49cc86737fbcf7481dbc4ddff218437c43f916835f346b60af545a4bc28963ab", func := "custodian/custodianlaw.SweepSweeps", spec := "sweepSweeps", unfollowed := true, recurses := true, plainKeys := false, apart := false }
def SweepSweepsSaid : Prop := sweepSweepsRow.holds Try.pinned (OpenSpec.ofChange sweepSweepsSpec)

/-- ITS FALSE NEIGHBOUR: 'it returns false'. Refute it at one input. -/
def sweepSweepsWrong : ChangeSpec := { name := "sweepSweeps", fn := fun _ => fun
  | [d1, d2, d3] => { results := [.lit (.bool false)], args := [d1, d2, d3] }
  | _ => none }
def SweepSweepsWrongFalsely : Prop := sweepSweepsRow.holds Try.pinned (OpenSpec.ofChange sweepSweepsWrong)

/-- 'custodianlaw.SweepHas': WHATEVER THE INPUT: true; the input reads as it did. -/
def sweepHasSpec : ChangeSpec := { name := "sweepHas", fn := fun _ => fun
  | [d1, d2, d3] => { results := [.lit (.bool true)], args := [d1, d2, d3] }
  | _ => none }
def sweepHasRow : OpenClaim := { program := "ytnbppchpgagliaa", sum := "49cc86737fbcf7481dbc4ddff218437c43f916835f346b60af545a4bc28963ab", func := "custodian/custodianlaw.SweepHas", spec := "sweepHas", unfollowed := true, recurses := true, plainKeys := false, apart := false }
def SweepHasSaid : Prop := sweepHasRow.holds Try.pinned (OpenSpec.ofChange sweepHasSpec)

/-- ITS FALSE NEIGHBOUR: 'it returns false'. Refute it at one input. -/
def sweepHasWrong : ChangeSpec := { name := "sweepHas", fn := fun _ => fun
  | [d1, d2, d3] => { results := [.lit (.bool false)], args := [d1, d2, d3] }
  | _ => none }
def SweepHasWrongFalsely : Prop := sweepHasRow.holds Try.pinned (OpenSpec.ofChange sweepHasWrong)

/-- 'custodianlaw.ReachCells': WHATEVER THE INPUT: true; the input reads as it did. -/
def reachCellsSpec : ChangeSpec := { name := "reachCells", fn := fun _ => fun
  | [d1, d2, d3] => { results := [.lit (.bool true)], args := [d1, d2, d3] }
  | _ => none }
def reachCellsRow : OpenClaim := { program := "ytnbppchpgagliaa", sum := "49cc86737fbcf7481dbc4ddff218437c43f916835f346b60af545a4bc28963ab", func := "custodian/custodianlaw.ReachCells", spec := "reachCells", unfollowed := true, recurses := true, plainKeys := false, apart := false }
def ReachCellsSaid : Prop := reachCellsRow.holds Try.pinned (OpenSpec.ofChange reachCellsSpec)

/-- ITS FALSE NEIGHBOUR: 'it returns false'. Refute it at one input. -/
def reachCellsWrong : ChangeSpec := { name := "reachCells", fn := fun _ => fun
  | [d1, d2, d3] => { results := [.lit (.bool false)], args := [d1, d2, d3] }
  | _ => none }
def ReachCellsWrongFalsely : Prop := reachCellsRow.holds Try.pinned (OpenSpec.ofChange reachCellsWrong)

/-- 'custodianlaw.ReachSeals': WHATEVER THE INPUT: true; the input reads as it did. -/
def reachSealsSpec : ChangeSpec := { name := "reachSeals", fn := fun _ => fun
  | [d1, d2, d3] => { results := [.lit (.bool true)], args := [d1, d2, d3] }
  | _ => none }
def reachSealsRow : OpenClaim := { program := "ytnbppchpgagliaa", sum := "49cc86737fbcf7481dbc4ddff218437c43f916835f346b60af545a4bc28963ab", func := "custodian/custodianlaw.ReachSeals", spec := "reachSeals", unfollowed := true, recurses := true, plainKeys := false, apart := false }
def ReachSealsSaid : Prop := reachSealsRow.holds Try.pinned (OpenSpec.ofChange reachSealsSpec)

/-- ITS FALSE NEIGHBOUR: 'it returns false'. Refute it at one input. -/
def reachSealsWrong : ChangeSpec := { name := "reachSeals", fn := fun _ => fun
  | [d1, d2, d3] => { results := [.lit (.bool false)], args := [d1, d2, d3] }
  | _ => none }
def ReachSealsWrongFalsely : Prop := reachSealsRow.holds Try.pinned (OpenSpec.ofChange reachSealsWrong)

/-- 'custodianlaw.ModuleChecks': WHATEVER THE INPUT: true; the input reads as it did. -/
def moduleChecksSpec : ChangeSpec := { name := "moduleChecks", fn := fun _ => fun
  | [d] => { results := [.lit (.bool true)], args := [d] }
  | _ => none }
def moduleChecksRow : OpenClaim := { program := "ytnbppchpgagliaa", sum := "49cc86737fbcf7481dbc4ddff218437c43f916835f346b60af545a4bc28963ab", func := "custodian/custodianlaw.ModuleChecks", spec := "moduleChecks", inPlace := ["internal/bytealg.IndexByteString", "internal/bytealg.IndexString"], unfollowed := true, recurses := true, named := ["internal/bytealg.MaxLen"], plainKeys := false, apart := false }
def ModuleChecksSaid : Prop := moduleChecksRow.holds Try.pinned (OpenSpec.ofChange moduleChecksSpec)

/-- ITS FALSE NEIGHBOUR: 'it returns false'. Refute it at one input. -/
def moduleChecksWrong : ChangeSpec := { name := "moduleChecks", fn := fun _ => fun
  | [d] => { results := [.lit (.bool false)], args := [d] }
  | _ => none }
def ModuleChecksWrongFalsely : Prop := moduleChecksRow.holds Try.pinned (OpenSpec.ofChange moduleChecksWrong)

/-- 'custodianlaw.LinkLinks': WHATEVER THE INPUT: true; the input reads as it did. -/
def linkLinksSpec : ChangeSpec := { name := "linkLinks", fn := fun _ => fun
  | [d] => { results := [.lit (.bool true)], args := [d] }
  | _ => none }
def linkLinksRow : OpenClaim := { program := "ytnbppchpgagliaa", sum := "49cc86737fbcf7481dbc4ddff218437c43f916835f346b60af545a4bc28963ab", func := "custodian/custodianlaw.LinkLinks", spec := "linkLinks", inPlace := ["internal/bytealg.IndexByteString", "internal/bytealg.IndexString"], unfollowed := true, recurses := true, named := ["internal/bytealg.MaxLen"], plainKeys := false, apart := false }
def LinkLinksSaid : Prop := linkLinksRow.holds Try.pinned (OpenSpec.ofChange linkLinksSpec)

/-- ITS FALSE NEIGHBOUR: 'it returns false'. Refute it at one input. -/
def linkLinksWrong : ChangeSpec := { name := "linkLinks", fn := fun _ => fun
  | [d] => { results := [.lit (.bool false)], args := [d] }
  | _ => none }
def LinkLinksWrongFalsely : Prop := linkLinksRow.holds Try.pinned (OpenSpec.ofChange linkLinksWrong)

/-- 'custodianlaw.ReachKeys': WHATEVER THE INPUT: true; the input reads as it did. -/
def reachKeysSpec : ChangeSpec := { name := "reachKeys", fn := fun _ => fun
  | [d1, d2] => { results := [.lit (.bool true)], args := [d1, d2] }
  | _ => none }
def reachKeysRow : OpenClaim := { program := "ytnbppchpgagliaa", sum := "49cc86737fbcf7481dbc4ddff218437c43f916835f346b60af545a4bc28963ab", func := "custodian/custodianlaw.ReachKeys", spec := "reachKeys", unfollowed := true, recurses := true, plainKeys := false, apart := false }
def ReachKeysSaid : Prop := reachKeysRow.holds Try.pinned (OpenSpec.ofChange reachKeysSpec)

/-- ITS FALSE NEIGHBOUR: 'it returns false'. Refute it at one input. -/
def reachKeysWrong : ChangeSpec := { name := "reachKeys", fn := fun _ => fun
  | [d1, d2] => { results := [.lit (.bool false)], args := [d1, d2] }
  | _ => none }
def ReachKeysWrongFalsely : Prop := reachKeysRow.holds Try.pinned (OpenSpec.ofChange reachKeysWrong)

/- THE SECOND FORM. 'bulk': how many values and letters a reading holds, each counted each time it is reached (what is shared counts as often as it is met; a slice's spare places count too). A statement '..UptoSaid' is the law's where the arguments, and the package variables that the reading takes, are together of bulk at most 1048576: NARROWER than '..Said'. Prove '..Said' where nothing that the law and all that it calls make is longer than what came in: it says more and counts as full. Else prove '..UptoSaid'. A law counts once. -/
mutual
def uptoBulk {H : Type} : DataW H → Nat
  | .lit (.string bytes) => bytes.length + 1
  | .lit _ => 1
  | .nil => 1
  | .ptr d => uptoBulk d + 1
  | .slice elems spare => uptoBulkAll elems + uptoBulkAll spare + 1
  | .agg parts => uptoBulkAll parts + 1
  | .iface _ d => uptoBulk d + 1
  | .map entries => uptoBulkEntries entries + 1
  | .held _ => 1
def uptoBulkAll {H : Type} : List (DataW H) → Nat
  | [] => 0
  | d :: r => uptoBulk d + uptoBulkAll r
def uptoBulkEntries {H : Type} : List (Lit × DataW H) → Nat
  | [] => 0
  | x :: r => uptoBulkEntry x + uptoBulkEntries r
def uptoBulkEntry {H : Type} : Lit × DataW H → Nat
  | (.string bytes, d) => bytes.length + uptoBulk d + 1
  | (_, d) => uptoBulk d + 1
 end
def uptoSmall : (H : Type) → List (DataW H) → Bool := fun _ ds => decide (uptoBulkAll ds ≤ 1048576)
def OpenSpec.upto (s : _root_.Go.ChangeSpec) : _root_.Go.OpenSpec := { _root_.Go.OpenSpec.ofChange s with cond := some uptoSmall }

/-- 'custodianlaw.LinkFinds', WHERE WHAT IT READS IS OF BULK AT MOST 1048576: true; the input reads as it did. -/
def linkFindsUptoRow : OpenClaim := { program := "ytnbppchpgagliaa", sum := "49cc86737fbcf7481dbc4ddff218437c43f916835f346b60af545a4bc28963ab", func := "custodian/custodianlaw.LinkFinds", spec := "linkFinds", plainKeys := false, apart := false, narrowed := true }
def LinkFindsUptoSaid : Prop := linkFindsUptoRow.holds Try.pinned (OpenSpec.upto linkFindsSpec)

/-- 'custodianlaw.MemLoads', WHERE WHAT IT READS IS OF BULK AT MOST 1048576: true; the input reads as it did. -/
def memLoadsUptoRow : OpenClaim := { program := "ytnbppchpgagliaa", sum := "49cc86737fbcf7481dbc4ddff218437c43f916835f346b60af545a4bc28963ab", func := "custodian/custodianlaw.MemLoads", spec := "memLoads", plainKeys := false, apart := false, narrowed := true }
def MemLoadsUptoSaid : Prop := memLoadsUptoRow.holds Try.pinned (OpenSpec.upto memLoadsSpec)

/-- 'custodianlaw.StepChecks', WHERE WHAT IT READS IS OF BULK AT MOST 1048576: true; the input reads as it did. -/
def stepChecksUptoRow : OpenClaim := { program := "ytnbppchpgagliaa", sum := "49cc86737fbcf7481dbc4ddff218437c43f916835f346b60af545a4bc28963ab", func := "custodian/custodianlaw.StepChecks", spec := "stepChecks", plainKeys := false, apart := false, narrowed := true }
def StepChecksUptoSaid : Prop := stepChecksUptoRow.holds Try.pinned (OpenSpec.upto stepChecksSpec)

/-- 'custodianlaw.MemStores', WHERE WHAT IT READS IS OF BULK AT MOST 1048576: true; the input reads as it did. -/
def memStoresUptoRow : OpenClaim := { program := "ytnbppchpgagliaa", sum := "49cc86737fbcf7481dbc4ddff218437c43f916835f346b60af545a4bc28963ab", func := "custodian/custodianlaw.MemStores", spec := "memStores", plainKeys := false, apart := false, narrowed := true }
def MemStoresUptoSaid : Prop := memStoresUptoRow.holds Try.pinned (OpenSpec.upto memStoresSpec)

/-- 'custodianlaw.EnterEnters', WHERE WHAT IT READS IS OF BULK AT MOST 1048576: true; the input reads as it did. -/
def enterEntersUptoRow : OpenClaim := { program := "ytnbppchpgagliaa", sum := "49cc86737fbcf7481dbc4ddff218437c43f916835f346b60af545a4bc28963ab", func := "custodian/custodianlaw.EnterEnters", spec := "enterEnters", plainKeys := false, apart := false, narrowed := true }
def EnterEntersUptoSaid : Prop := enterEntersUptoRow.holds Try.pinned (OpenSpec.upto enterEntersSpec)

/-- 'custodianlaw.SweepSweeps', WHERE WHAT IT READS IS OF BULK AT MOST 1048576: true; the input reads as it did. -/
def sweepSweepsUptoRow : OpenClaim := { program := "ytnbppchpgagliaa", sum := "49cc86737fbcf7481dbc4ddff218437c43f916835f346b60af545a4bc28963ab", func := "custodian/custodianlaw.SweepSweeps", spec := "sweepSweeps", unfollowed := true, recurses := true, plainKeys := false, apart := false, narrowed := true }
def SweepSweepsUptoSaid : Prop := sweepSweepsUptoRow.holds Try.pinned (OpenSpec.upto sweepSweepsSpec)

/-- 'custodianlaw.SweepHas', WHERE WHAT IT READS IS OF BULK AT MOST 1048576: true; the input reads as it did. -/
def sweepHasUptoRow : OpenClaim := { program := "ytnbppchpgagliaa", sum := "49cc86737fbcf7481dbc4ddff218437c43f916835f346b60af545a4bc28963ab", func := "custodian/custodianlaw.SweepHas", spec := "sweepHas", unfollowed := true, recurses := true, plainKeys := false, apart := false, narrowed := true }
def SweepHasUptoSaid : Prop := sweepHasUptoRow.holds Try.pinned (OpenSpec.upto sweepHasSpec)

/-- 'custodianlaw.ReachCells', WHERE WHAT IT READS IS OF BULK AT MOST 1048576: true; the input reads as it did. -/
def reachCellsUptoRow : OpenClaim := { program := "ytnbppchpgagliaa", sum := "49cc86737fbcf7481dbc4ddff218437c43f916835f346b60af545a4bc28963ab", func := "custodian/custodianlaw.ReachCells", spec := "reachCells", unfollowed := true, recurses := true, plainKeys := false, apart := false, narrowed := true }
def ReachCellsUptoSaid : Prop := reachCellsUptoRow.holds Try.pinned (OpenSpec.upto reachCellsSpec)

/-- 'custodianlaw.ReachSeals', WHERE WHAT IT READS IS OF BULK AT MOST 1048576: true; the input reads as it did. -/
def reachSealsUptoRow : OpenClaim := { program := "ytnbppchpgagliaa", sum := "49cc86737fbcf7481dbc4ddff218437c43f916835f346b60af545a4bc28963ab", func := "custodian/custodianlaw.ReachSeals", spec := "reachSeals", unfollowed := true, recurses := true, plainKeys := false, apart := false, narrowed := true }
def ReachSealsUptoSaid : Prop := reachSealsUptoRow.holds Try.pinned (OpenSpec.upto reachSealsSpec)

/-- 'custodianlaw.ModuleChecks', WHERE WHAT IT READS IS OF BULK AT MOST 1048576: true; the input reads as it did. -/
def moduleChecksUptoRow : OpenClaim := { program := "ytnbppchpgagliaa", sum := "49cc86737fbcf7481dbc4ddff218437c43f916835f346b60af545a4bc28963ab", func := "custodian/custodianlaw.ModuleChecks", spec := "moduleChecks", inPlace := ["internal/bytealg.IndexByteString", "internal/bytealg.IndexString"], unfollowed := true, recurses := true, named := ["internal/bytealg.MaxLen"], plainKeys := false, apart := false, narrowed := true }
def ModuleChecksUptoSaid : Prop := moduleChecksUptoRow.holds Try.pinned (OpenSpec.upto moduleChecksSpec)

/-- 'custodianlaw.LinkLinks', WHERE WHAT IT READS IS OF BULK AT MOST 1048576: true; the input reads as it did. -/
def linkLinksUptoRow : OpenClaim := { program := "ytnbppchpgagliaa", sum := "49cc86737fbcf7481dbc4ddff218437c43f916835f346b60af545a4bc28963ab", func := "custodian/custodianlaw.LinkLinks", spec := "linkLinks", inPlace := ["internal/bytealg.IndexByteString", "internal/bytealg.IndexString"], unfollowed := true, recurses := true, named := ["internal/bytealg.MaxLen"], plainKeys := false, apart := false, narrowed := true }
def LinkLinksUptoSaid : Prop := linkLinksUptoRow.holds Try.pinned (OpenSpec.upto linkLinksSpec)

/-- 'custodianlaw.ReachKeys', WHERE WHAT IT READS IS OF BULK AT MOST 1048576: true; the input reads as it did. -/
def reachKeysUptoRow : OpenClaim := { program := "ytnbppchpgagliaa", sum := "49cc86737fbcf7481dbc4ddff218437c43f916835f346b60af545a4bc28963ab", func := "custodian/custodianlaw.ReachKeys", spec := "reachKeys", unfollowed := true, recurses := true, plainKeys := false, apart := false, narrowed := true }
def ReachKeysUptoSaid : Prop := reachKeysUptoRow.holds Try.pinned (OpenSpec.upto reachKeysSpec)

end Rows
end Go.Proofs.Ytnbppchpgagliaa
