/-
  DERIVED. GIVEN WITH THE SEED: THE CARDS: each row of YthmpnnfejghhfaaDoorRows.lean that lists a variable, with what it lists TIED to the program's text (the seventh form; the later family's looks); each row that meets fmt, with fmt's text TOLD by the authors' own Lean function (tested against real Go, not proved from fmt's source: count such statements apart). THE CARD IS WHAT COUNTS. Prove the row's statement (the work); the ties are given (YthmpnnfejghhfaaDoorTie.lean); close each card by the builder's one call (the guide's Derived/Test/ToyasCard.lean, 'card_holds'). Laid BY PROGRAM, IN A SANDBOX (cutbox-door.mjs). By AI agents, Wed Nov 11 2026. No macro, syntax, notation, axiom, sorry.
-/
import Derived.Test.YthmpnnfejghhfaaDoorRows
import GoSem.ClaimSeven
namespace Go.Proofs.YthmpnnfejghhfaaDoor
namespace Rows

/-- THE TIED CARD OF 'custodianlaw.InstChecks'. -/
def instChecksCard : Claim7 := { stood := { row := instChecksRow, standIns := [], harness := (true, "a0ccb0ab510cb549ee5bc9f82d06e32d038c3cd4371fa54ea2cf07597eca682f"), looks := false }, kinds := [], alts := [], laidByText := true, laidKinds := [.data, .listed, .data, .pinned], laidTests := true, laidLooks := .later }
def InstChecksCardSaid : Prop := Claim7.holds Tryd.pinned (.plain (OpenSpec.ofChange instChecksSpec)) instChecksCard

/-- THE TIED CARD OF 'custodianlaw.InstPacks'. -/
def instPacksCard : Claim7 := { stood := { row := instPacksRow, standIns := [], harness := (true, "a0ccb0ab510cb549ee5bc9f82d06e32d038c3cd4371fa54ea2cf07597eca682f"), looks := false }, kinds := [], alts := [], laidByText := true, laidKinds := [.data, .listed, .data, .pinned], laidTests := true, laidLooks := .later }
def InstPacksCardSaid : Prop := Claim7.holds Tryd.pinned (.plain (OpenSpec.ofChange instPacksSpec)) instPacksCard

/-- THE TIED CARD OF 'custodianlaw.InstReads'. -/
def instReadsCard : Claim7 := { stood := { row := instReadsRow, standIns := [], harness := (true, "a0ccb0ab510cb549ee5bc9f82d06e32d038c3cd4371fa54ea2cf07597eca682f"), looks := false }, kinds := [], alts := [], laidByText := true, laidKinds := [.data, .listed, .data, .pinned], laidTests := true, laidLooks := .later }
def InstReadsCardSaid : Prop := Claim7.holds Tryd.pinned (.plain (OpenSpec.ofChange instReadsSpec)) instReadsCard

/-- THE SECOND FORM's CARD OF 'custodianlaw.InstChecks'. -/
def instChecksUptoCard : Claim7 := { stood := { row := instChecksUptoRow, standIns := [], harness := (true, "a0ccb0ab510cb549ee5bc9f82d06e32d038c3cd4371fa54ea2cf07597eca682f"), looks := false }, kinds := [], alts := [], laidByText := true, laidKinds := [.data, .listed, .data, .pinned], laidTests := true, laidLooks := .later }
def InstChecksUptoCardSaid : Prop := Claim7.holds Tryd.pinned (.plain (OpenSpec.upto instChecksSpec)) instChecksUptoCard

/-- THE SECOND FORM's CARD OF 'custodianlaw.InstPacks'. -/
def instPacksUptoCard : Claim7 := { stood := { row := instPacksUptoRow, standIns := [], harness := (true, "a0ccb0ab510cb549ee5bc9f82d06e32d038c3cd4371fa54ea2cf07597eca682f"), looks := false }, kinds := [], alts := [], laidByText := true, laidKinds := [.data, .listed, .data, .pinned], laidTests := true, laidLooks := .later }
def InstPacksUptoCardSaid : Prop := Claim7.holds Tryd.pinned (.plain (OpenSpec.upto instPacksSpec)) instPacksUptoCard

/-- THE SECOND FORM's CARD OF 'custodianlaw.InstReads'. -/
def instReadsUptoCard : Claim7 := { stood := { row := instReadsUptoRow, standIns := [], harness := (true, "a0ccb0ab510cb549ee5bc9f82d06e32d038c3cd4371fa54ea2cf07597eca682f"), looks := false }, kinds := [], alts := [], laidByText := true, laidKinds := [.data, .listed, .data, .pinned], laidTests := true, laidLooks := .later }
def InstReadsUptoCardSaid : Prop := Claim7.holds Tryd.pinned (.plain (OpenSpec.upto instReadsSpec)) instReadsUptoCard
end Rows
end Go.Proofs.YthmpnnfejghhfaaDoor
