/-
  DERIVED. GIVEN WITH THE SEED: THE CARDS: each row of YtbkjhdohkdeniaaGreatDoorRows.lean that lists a variable, with what it lists TIED to the program's text (the seventh form; the later family's looks); each row that meets fmt, with fmt's text TOLD by the authors' own Lean function (tested against real Go, not proved from fmt's source: count such statements apart). THE CARD IS WHAT COUNTS. Prove the row's statement (the work); the ties are given (YtbkjhdohkdeniaaGreatDoorTie.lean); close each card by the builder's one call (the guide's Derived/Test/ToyasCard.lean, 'card_holds'). Laid BY PROGRAM, IN A SANDBOX (cutbox-door.mjs). By AI agents, Wed Nov 11 2026. No macro, syntax, notation, axiom, sorry.
-/
import Derived.Test.YtbkjhdohkdeniaaGreatDoorRows
import GoSem.ClaimSeven
namespace Go.Proofs.YtbkjhdohkdeniaaGreatDoor
namespace Rows

/-- THE TIED CARD OF 'custodianlaw.ShopAlls'. -/
def shopAllsCard : Claim7 := { stood := { row := shopAllsRow, standIns := [], harness := (true, "ced0306dc8d2f7649be8d0711d96bda5a9e67566331a331b4aec36e43eff4614"), looks := true }, kinds := [], alts := [], goes := true, laidByText := true, laidKinds := [.data, .listed, .data, .pinned], laidTests := true, laidLooks := .later }
def ShopAllsCardSaid : Prop := Claim7.holds Tryz.pinned (.plain (OpenSpec.ofChange shopAllsSpec)) shopAllsCard

/-- THE TIED CARD OF 'custodianlaw.ProgReads'. -/
def progReadsCard : Claim7 := { stood := { row := progReadsRow, standIns := [], harness := (true, "ced0306dc8d2f7649be8d0711d96bda5a9e67566331a331b4aec36e43eff4614"), looks := true }, kinds := [], alts := [], goes := true, laidByText := true, laidKinds := [.data, .data, .data, .data, .sentinel, .sentinel, .listed, .data, .pinned], laidTests := true, laidLooks := .later }
def ProgReadsCardSaid : Prop := Claim7.holds Tryz.pinned (.plain (OpenSpec.ofChange progReadsSpec)) progReadsCard

/-- THE TIED CARD OF 'custodianlaw.ModuleMakes'. -/
def moduleMakesCard : Claim7 := { stood := { row := moduleMakesRow, standIns := [], harness := (true, "ced0306dc8d2f7649be8d0711d96bda5a9e67566331a331b4aec36e43eff4614"), looks := true }, kinds := [], alts := [], goes := true, laidByText := true, laidKinds := [.data, .data, .data, .data, .sentinel, .sentinel, .listed, .data, .pinned], laidTests := true, laidLooks := .later }
def ModuleMakesCardSaid : Prop := Claim7.holds Tryz.pinned (.plain (OpenSpec.ofChange moduleMakesSpec)) moduleMakesCard

/-- THE TIED CARD OF 'custodianlaw.DeskRuns'. -/
def deskRunsCard : Claim7 := { stood := { row := deskRunsRow, standIns := [], harness := (true, "ced0306dc8d2f7649be8d0711d96bda5a9e67566331a331b4aec36e43eff4614"), looks := true }, kinds := [], alts := [], goes := true, laidByText := true, laidKinds := [.data, .data, .data, .data, .sentinel, .sentinel, .listed, .data, .pinned], laidTests := true, laidLooks := .later }
def DeskRunsCardSaid : Prop := Claim7.holds Tryz.pinned (.plain (OpenSpec.ofChange deskRunsSpec)) deskRunsCard

/-- THE SECOND FORM's CARD OF 'custodianlaw.ShopAlls'. -/
def shopAllsUptoCard : Claim7 := { stood := { row := shopAllsUptoRow, standIns := [], harness := (true, "ced0306dc8d2f7649be8d0711d96bda5a9e67566331a331b4aec36e43eff4614"), looks := true }, kinds := [], alts := [], goes := true, laidByText := true, laidKinds := [.data, .listed, .data, .pinned], laidTests := true, laidLooks := .later }
def ShopAllsUptoCardSaid : Prop := Claim7.holds Tryz.pinned (.plain (OpenSpec.upto shopAllsSpec)) shopAllsUptoCard

/-- THE SECOND FORM's CARD OF 'custodianlaw.ProgReads'. -/
def progReadsUptoCard : Claim7 := { stood := { row := progReadsUptoRow, standIns := [], harness := (true, "ced0306dc8d2f7649be8d0711d96bda5a9e67566331a331b4aec36e43eff4614"), looks := true }, kinds := [], alts := [], goes := true, laidByText := true, laidKinds := [.data, .data, .data, .data, .sentinel, .sentinel, .listed, .data, .pinned], laidTests := true, laidLooks := .later }
def ProgReadsUptoCardSaid : Prop := Claim7.holds Tryz.pinned (.plain (OpenSpec.upto progReadsSpec)) progReadsUptoCard

/-- THE SECOND FORM's CARD OF 'custodianlaw.ModuleMakes'. -/
def moduleMakesUptoCard : Claim7 := { stood := { row := moduleMakesUptoRow, standIns := [], harness := (true, "ced0306dc8d2f7649be8d0711d96bda5a9e67566331a331b4aec36e43eff4614"), looks := true }, kinds := [], alts := [], goes := true, laidByText := true, laidKinds := [.data, .data, .data, .data, .sentinel, .sentinel, .listed, .data, .pinned], laidTests := true, laidLooks := .later }
def ModuleMakesUptoCardSaid : Prop := Claim7.holds Tryz.pinned (.plain (OpenSpec.upto moduleMakesSpec)) moduleMakesUptoCard

/-- THE SECOND FORM's CARD OF 'custodianlaw.DeskRuns'. -/
def deskRunsUptoCard : Claim7 := { stood := { row := deskRunsUptoRow, standIns := [], harness := (true, "ced0306dc8d2f7649be8d0711d96bda5a9e67566331a331b4aec36e43eff4614"), looks := true }, kinds := [], alts := [], goes := true, laidByText := true, laidKinds := [.data, .data, .data, .data, .sentinel, .sentinel, .listed, .data, .pinned], laidTests := true, laidLooks := .later }
def DeskRunsUptoCardSaid : Prop := Claim7.holds Tryz.pinned (.plain (OpenSpec.upto deskRunsSpec)) deskRunsUptoCard
end Rows
end Go.Proofs.YtbkjhdohkdeniaaGreatDoor
