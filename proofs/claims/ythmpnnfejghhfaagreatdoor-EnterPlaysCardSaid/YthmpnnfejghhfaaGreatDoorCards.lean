/-
  DERIVED. GIVEN WITH THE SEED: THE CARDS: each row of YthmpnnfejghhfaaGreatDoorRows.lean that lists a variable, with what it lists TIED to the program's text (the seventh form; the later family's looks); each row that meets fmt, with fmt's text TOLD by the authors' own Lean function (tested against real Go, not proved from fmt's source: count such statements apart). THE CARD IS WHAT COUNTS. Prove the row's statement (the work); the ties are given (YthmpnnfejghhfaaGreatDoorTie.lean); close each card by the builder's one call (the guide's Derived/Test/ToyasCard.lean, 'card_holds'). Laid BY PROGRAM, IN A SANDBOX (cutbox-door.mjs). By AI agents, Wed Nov 11 2026. No macro, syntax, notation, axiom, sorry.
-/
import Derived.Test.YthmpnnfejghhfaaGreatDoorRows
import GoSem.ClaimSeven
namespace Go.Proofs.YthmpnnfejghhfaaGreatDoor
namespace Rows

/-- THE TIED CARD OF 'custodianlaw.StepSteps'. -/
def stepStepsCard : Claim7 := { stood := { row := stepStepsRow, standIns := [], harness := (true, "dac1e98fc7aedb6cc577031650c4393475cdfea510df4a085294d34b515c78d8"), looks := true }, kinds := [], alts := [], laidByText := true, laidKinds := [.data, .listed, .data, .pinned], laidTests := true, laidLooks := .later }
def StepStepsCardSaid : Prop := Claim7.holds Tryz.pinned (.plain (OpenSpec.ofChange stepStepsSpec)) stepStepsCard

/-- THE TIED CARD OF 'custodianlaw.StepNumbers'. -/
def stepNumbersCard : Claim7 := { stood := { row := stepNumbersRow, standIns := [], harness := (true, "dac1e98fc7aedb6cc577031650c4393475cdfea510df4a085294d34b515c78d8"), looks := true }, kinds := [], alts := [], laidByText := true, laidKinds := [.data, .listed, .data, .pinned], laidTests := true, laidLooks := .later }
def StepNumbersCardSaid : Prop := Claim7.holds Tryz.pinned (.plain (OpenSpec.ofChange stepNumbersSpec)) stepNumbersCard

/-- THE TIED CARD OF 'custodianlaw.StepKeys'. -/
def stepKeysCard : Claim7 := { stood := { row := stepKeysRow, standIns := [], harness := (true, "dac1e98fc7aedb6cc577031650c4393475cdfea510df4a085294d34b515c78d8"), looks := true }, kinds := [], alts := [], laidByText := true, laidKinds := [.data, .listed, .data, .pinned], laidTests := true, laidLooks := .later }
def StepKeysCardSaid : Prop := Claim7.holds Tryz.pinned (.plain (OpenSpec.ofChange stepKeysSpec)) stepKeysCard

/-- THE TIED CARD OF 'custodianlaw.StepMoves'. -/
def stepMovesCard : Claim7 := { stood := { row := stepMovesRow, standIns := [], harness := (true, "dac1e98fc7aedb6cc577031650c4393475cdfea510df4a085294d34b515c78d8"), looks := true }, kinds := [], alts := [], laidByText := true, laidKinds := [.data, .listed, .data, .pinned], laidTests := true, laidLooks := .later }
def StepMovesCardSaid : Prop := Claim7.holds Tryz.pinned (.plain (OpenSpec.ofChange stepMovesSpec)) stepMovesCard

/-- THE TIED CARD OF 'custodianlaw.StepTurns'. -/
def stepTurnsCard : Claim7 := { stood := { row := stepTurnsRow, standIns := [], harness := (true, "dac1e98fc7aedb6cc577031650c4393475cdfea510df4a085294d34b515c78d8"), looks := true }, kinds := [], alts := [], laidByText := true, laidKinds := [.data, .listed, .data, .pinned], laidTests := true, laidLooks := .later }
def StepTurnsCardSaid : Prop := Claim7.holds Tryz.pinned (.plain (OpenSpec.ofChange stepTurnsSpec)) stepTurnsCard

/-- THE TIED CARD OF 'custodianlaw.RunRuns'. -/
def runRunsCard : Claim7 := { stood := { row := runRunsRow, standIns := [], harness := (true, "dac1e98fc7aedb6cc577031650c4393475cdfea510df4a085294d34b515c78d8"), looks := true }, kinds := [], alts := [], laidByText := true, laidKinds := [.data, .listed, .data, .pinned], laidTests := true, laidLooks := .later }
def RunRunsCardSaid : Prop := Claim7.holds Tryz.pinned (.plain (OpenSpec.ofChange runRunsSpec)) runRunsCard

/-- THE TIED CARD OF 'custodianlaw.RunPlaces'. -/
def runPlacesCard : Claim7 := { stood := { row := runPlacesRow, standIns := [], harness := (true, "dac1e98fc7aedb6cc577031650c4393475cdfea510df4a085294d34b515c78d8"), looks := true }, kinds := [], alts := [], laidByText := true, laidKinds := [.data, .listed, .data, .pinned], laidTests := true, laidLooks := .later }
def RunPlacesCardSaid : Prop := Claim7.holds Tryz.pinned (.plain (OpenSpec.ofChange runPlacesSpec)) runPlacesCard

/-- THE TIED CARD OF 'custodianlaw.EnterDoes'. -/
def enterDoesCard : Claim7 := { stood := { row := enterDoesRow, standIns := [], harness := (true, "dac1e98fc7aedb6cc577031650c4393475cdfea510df4a085294d34b515c78d8"), looks := true }, kinds := [], alts := [], laidByText := true, laidKinds := [.data, .listed, .data, .pinned], laidTests := true, laidLooks := .later }
def EnterDoesCardSaid : Prop := Claim7.holds Tryz.pinned (.plain (OpenSpec.ofChange enterDoesSpec)) enterDoesCard

/-- THE TIED CARD OF 'custodianlaw.EnterPlays'. -/
def enterPlaysCard : Claim7 := { stood := { row := enterPlaysRow, standIns := [], harness := (true, "dac1e98fc7aedb6cc577031650c4393475cdfea510df4a085294d34b515c78d8"), looks := true }, kinds := [], alts := [], laidByText := true, laidKinds := [.data, .listed, .data, .pinned], laidTests := true, laidLooks := .later }
def EnterPlaysCardSaid : Prop := Claim7.holds Tryz.pinned (.plain (OpenSpec.ofChange enterPlaysSpec)) enterPlaysCard

/-- THE SECOND FORM's CARD OF 'custodianlaw.StepSteps'. -/
def stepStepsUptoCard : Claim7 := { stood := { row := stepStepsUptoRow, standIns := [], harness := (true, "dac1e98fc7aedb6cc577031650c4393475cdfea510df4a085294d34b515c78d8"), looks := true }, kinds := [], alts := [], laidByText := true, laidKinds := [.data, .listed, .data, .pinned], laidTests := true, laidLooks := .later }
def StepStepsUptoCardSaid : Prop := Claim7.holds Tryz.pinned (.plain (OpenSpec.upto stepStepsSpec)) stepStepsUptoCard

/-- THE SECOND FORM's CARD OF 'custodianlaw.StepNumbers'. -/
def stepNumbersUptoCard : Claim7 := { stood := { row := stepNumbersUptoRow, standIns := [], harness := (true, "dac1e98fc7aedb6cc577031650c4393475cdfea510df4a085294d34b515c78d8"), looks := true }, kinds := [], alts := [], laidByText := true, laidKinds := [.data, .listed, .data, .pinned], laidTests := true, laidLooks := .later }
def StepNumbersUptoCardSaid : Prop := Claim7.holds Tryz.pinned (.plain (OpenSpec.upto stepNumbersSpec)) stepNumbersUptoCard

/-- THE SECOND FORM's CARD OF 'custodianlaw.StepKeys'. -/
def stepKeysUptoCard : Claim7 := { stood := { row := stepKeysUptoRow, standIns := [], harness := (true, "dac1e98fc7aedb6cc577031650c4393475cdfea510df4a085294d34b515c78d8"), looks := true }, kinds := [], alts := [], laidByText := true, laidKinds := [.data, .listed, .data, .pinned], laidTests := true, laidLooks := .later }
def StepKeysUptoCardSaid : Prop := Claim7.holds Tryz.pinned (.plain (OpenSpec.upto stepKeysSpec)) stepKeysUptoCard

/-- THE SECOND FORM's CARD OF 'custodianlaw.StepMoves'. -/
def stepMovesUptoCard : Claim7 := { stood := { row := stepMovesUptoRow, standIns := [], harness := (true, "dac1e98fc7aedb6cc577031650c4393475cdfea510df4a085294d34b515c78d8"), looks := true }, kinds := [], alts := [], laidByText := true, laidKinds := [.data, .listed, .data, .pinned], laidTests := true, laidLooks := .later }
def StepMovesUptoCardSaid : Prop := Claim7.holds Tryz.pinned (.plain (OpenSpec.upto stepMovesSpec)) stepMovesUptoCard

/-- THE SECOND FORM's CARD OF 'custodianlaw.StepTurns'. -/
def stepTurnsUptoCard : Claim7 := { stood := { row := stepTurnsUptoRow, standIns := [], harness := (true, "dac1e98fc7aedb6cc577031650c4393475cdfea510df4a085294d34b515c78d8"), looks := true }, kinds := [], alts := [], laidByText := true, laidKinds := [.data, .listed, .data, .pinned], laidTests := true, laidLooks := .later }
def StepTurnsUptoCardSaid : Prop := Claim7.holds Tryz.pinned (.plain (OpenSpec.upto stepTurnsSpec)) stepTurnsUptoCard

/-- THE SECOND FORM's CARD OF 'custodianlaw.RunRuns'. -/
def runRunsUptoCard : Claim7 := { stood := { row := runRunsUptoRow, standIns := [], harness := (true, "dac1e98fc7aedb6cc577031650c4393475cdfea510df4a085294d34b515c78d8"), looks := true }, kinds := [], alts := [], laidByText := true, laidKinds := [.data, .listed, .data, .pinned], laidTests := true, laidLooks := .later }
def RunRunsUptoCardSaid : Prop := Claim7.holds Tryz.pinned (.plain (OpenSpec.upto runRunsSpec)) runRunsUptoCard

/-- THE SECOND FORM's CARD OF 'custodianlaw.RunPlaces'. -/
def runPlacesUptoCard : Claim7 := { stood := { row := runPlacesUptoRow, standIns := [], harness := (true, "dac1e98fc7aedb6cc577031650c4393475cdfea510df4a085294d34b515c78d8"), looks := true }, kinds := [], alts := [], laidByText := true, laidKinds := [.data, .listed, .data, .pinned], laidTests := true, laidLooks := .later }
def RunPlacesUptoCardSaid : Prop := Claim7.holds Tryz.pinned (.plain (OpenSpec.upto runPlacesSpec)) runPlacesUptoCard

/-- THE SECOND FORM's CARD OF 'custodianlaw.EnterDoes'. -/
def enterDoesUptoCard : Claim7 := { stood := { row := enterDoesUptoRow, standIns := [], harness := (true, "dac1e98fc7aedb6cc577031650c4393475cdfea510df4a085294d34b515c78d8"), looks := true }, kinds := [], alts := [], laidByText := true, laidKinds := [.data, .listed, .data, .pinned], laidTests := true, laidLooks := .later }
def EnterDoesUptoCardSaid : Prop := Claim7.holds Tryz.pinned (.plain (OpenSpec.upto enterDoesSpec)) enterDoesUptoCard

/-- THE SECOND FORM's CARD OF 'custodianlaw.EnterPlays'. -/
def enterPlaysUptoCard : Claim7 := { stood := { row := enterPlaysUptoRow, standIns := [], harness := (true, "dac1e98fc7aedb6cc577031650c4393475cdfea510df4a085294d34b515c78d8"), looks := true }, kinds := [], alts := [], laidByText := true, laidKinds := [.data, .listed, .data, .pinned], laidTests := true, laidLooks := .later }
def EnterPlaysUptoCardSaid : Prop := Claim7.holds Tryz.pinned (.plain (OpenSpec.upto enterPlaysSpec)) enterPlaysUptoCard
end Rows
end Go.Proofs.YthmpnnfejghhfaaGreatDoor
