/-
  DERIVED. GIVEN WITH THE SEED: THE CARDS: each row of YtdnabfadigkjgaaGreatDoorRows.lean that lists a variable, with what it lists TIED to the program's text (the seventh form; the later family's looks); each row that meets fmt, with fmt's text TOLD by the authors' own Lean function (tested against real Go, not proved from fmt's source: count such statements apart). THE CARD IS WHAT COUNTS. Prove the row's statement (the work); the ties are given (YtdnabfadigkjgaaGreatDoorTie.lean); close each card by the builder's one call (the guide's Derived/Test/ToyasCard.lean, 'card_holds'). Laid BY PROGRAM, IN A SANDBOX (cutbox-door.mjs). By AI agents, Wed Nov 11 2026. No macro, syntax, notation, axiom, sorry.
-/
import Derived.Test.YtdnabfadigkjgaaGreatDoorRows
import GoSem.ClaimSeven
namespace Go.Proofs.YtdnabfadigkjgaaGreatDoor
namespace Rows

/-- THE TIED CARD OF 'putloglaw39.ArchiveMatchesReference'. -/
def archiveMatchesReferenceCard : Claim7 := { stood := { row := archiveMatchesReferenceRow, standIns := [], harness := (true, "0ca27b150bdc3ce4371c13b8ae815e7f4808c8afd11be6d6622ecd1a1db57973"), looks := true }, kinds := [], alts := [], laidByText := true, laidKinds := [.data], laidTests := true, laidLooks := .later }
def ArchiveMatchesReferenceCardSaid : Prop := Claim7.holds Tryz.pinned (.plain (OpenSpec.ofChange archiveMatchesReferenceSpec)) archiveMatchesReferenceCard

/-- THE TIED CARD OF 'putloglaw39.ArchiveMerges'. -/
def archiveMergesCard : Claim7 := { stood := { row := archiveMergesRow, standIns := [], harness := (true, "0ca27b150bdc3ce4371c13b8ae815e7f4808c8afd11be6d6622ecd1a1db57973"), looks := true }, kinds := [], alts := [], laidByText := true, laidKinds := [.data], laidTests := true, laidLooks := .later }
def ArchiveMergesCardSaid : Prop := Claim7.holds Tryz.pinned (.plain (OpenSpec.ofChange archiveMergesSpec)) archiveMergesCard

/-- THE TIED CARD OF 'putloglaw39.ArchiveOrder'. -/
def archiveOrderCard : Claim7 := { stood := { row := archiveOrderRow, standIns := [], harness := (true, "0ca27b150bdc3ce4371c13b8ae815e7f4808c8afd11be6d6622ecd1a1db57973"), looks := true }, kinds := [], alts := [], laidByText := true, laidKinds := [.data], laidTests := true, laidLooks := .later }
def ArchiveOrderCardSaid : Prop := Claim7.holds Tryz.pinned (.plain (OpenSpec.ofChange archiveOrderSpec)) archiveOrderCard

/-- THE TIED CARD OF 'putloglaw39.ArchiveChains'. -/
def archiveChainsCard : Claim7 := { stood := { row := archiveChainsRow, standIns := [], harness := (true, "0ca27b150bdc3ce4371c13b8ae815e7f4808c8afd11be6d6622ecd1a1db57973"), looks := true }, kinds := [], alts := [], laidByText := true, laidKinds := [.data], laidTests := true, laidLooks := .later }
def ArchiveChainsCardSaid : Prop := Claim7.holds Tryz.pinned (.plain (OpenSpec.ofChange archiveChainsSpec)) archiveChainsCard

/-- THE TIED CARD OF 'putloglaw39.ArchiveForks'. -/
def archiveForksCard : Claim7 := { stood := { row := archiveForksRow, standIns := [], harness := (true, "0ca27b150bdc3ce4371c13b8ae815e7f4808c8afd11be6d6622ecd1a1db57973"), looks := true }, kinds := [], alts := [], laidByText := true, laidKinds := [.data], laidTests := true, laidLooks := .later }
def ArchiveForksCardSaid : Prop := Claim7.holds Tryz.pinned (.plain (OpenSpec.ofChange archiveForksSpec)) archiveForksCard

/-- THE TIED CARD OF 'putloglaw39.ArchiveRetracts'. -/
def archiveRetractsCard : Claim7 := { stood := { row := archiveRetractsRow, standIns := [], harness := (true, "0ca27b150bdc3ce4371c13b8ae815e7f4808c8afd11be6d6622ecd1a1db57973"), looks := true }, kinds := [], alts := [], laidByText := true, laidKinds := [.data], laidTests := true, laidLooks := .later }
def ArchiveRetractsCardSaid : Prop := Claim7.holds Tryz.pinned (.plain (OpenSpec.ofChange archiveRetractsSpec)) archiveRetractsCard

/-- THE TIED CARD OF 'putloglaw39.ArchiveSigns'. -/
def archiveSignsCard : Claim7 := { stood := { row := archiveSignsRow, standIns := [], harness := (true, "0ca27b150bdc3ce4371c13b8ae815e7f4808c8afd11be6d6622ecd1a1db57973"), looks := true }, kinds := [], alts := [], laidByText := true, laidKinds := [.data], laidTests := true, laidLooks := .later }
def ArchiveSignsCardSaid : Prop := Claim7.holds Tryz.pinned (.plain (OpenSpec.ofChange archiveSignsSpec)) archiveSignsCard

/-- THE TIED CARD OF 'putloglaw39.ArchiveCodes'. -/
def archiveCodesCard : Claim7 := { stood := { row := archiveCodesRow, standIns := [], harness := (true, "0ca27b150bdc3ce4371c13b8ae815e7f4808c8afd11be6d6622ecd1a1db57973"), looks := true }, kinds := [], alts := [], laidByText := true, laidKinds := [.data], laidTests := true, laidLooks := .later }
def ArchiveCodesCardSaid : Prop := Claim7.holds Tryz.pinned (.plain (OpenSpec.ofChange archiveCodesSpec)) archiveCodesCard

/-- THE SECOND FORM's CARD OF 'putloglaw39.ArchiveMatchesReference'. -/
def archiveMatchesReferenceUptoCard : Claim7 := { stood := { row := archiveMatchesReferenceUptoRow, standIns := [], harness := (true, "0ca27b150bdc3ce4371c13b8ae815e7f4808c8afd11be6d6622ecd1a1db57973"), looks := true }, kinds := [], alts := [], laidByText := true, laidKinds := [.data], laidTests := true, laidLooks := .later }
def ArchiveMatchesReferenceUptoCardSaid : Prop := Claim7.holds Tryz.pinned (.plain (OpenSpec.upto archiveMatchesReferenceSpec)) archiveMatchesReferenceUptoCard

/-- THE SECOND FORM's CARD OF 'putloglaw39.ArchiveMerges'. -/
def archiveMergesUptoCard : Claim7 := { stood := { row := archiveMergesUptoRow, standIns := [], harness := (true, "0ca27b150bdc3ce4371c13b8ae815e7f4808c8afd11be6d6622ecd1a1db57973"), looks := true }, kinds := [], alts := [], laidByText := true, laidKinds := [.data], laidTests := true, laidLooks := .later }
def ArchiveMergesUptoCardSaid : Prop := Claim7.holds Tryz.pinned (.plain (OpenSpec.upto archiveMergesSpec)) archiveMergesUptoCard

/-- THE SECOND FORM's CARD OF 'putloglaw39.ArchiveOrder'. -/
def archiveOrderUptoCard : Claim7 := { stood := { row := archiveOrderUptoRow, standIns := [], harness := (true, "0ca27b150bdc3ce4371c13b8ae815e7f4808c8afd11be6d6622ecd1a1db57973"), looks := true }, kinds := [], alts := [], laidByText := true, laidKinds := [.data], laidTests := true, laidLooks := .later }
def ArchiveOrderUptoCardSaid : Prop := Claim7.holds Tryz.pinned (.plain (OpenSpec.upto archiveOrderSpec)) archiveOrderUptoCard

/-- THE SECOND FORM's CARD OF 'putloglaw39.ArchiveChains'. -/
def archiveChainsUptoCard : Claim7 := { stood := { row := archiveChainsUptoRow, standIns := [], harness := (true, "0ca27b150bdc3ce4371c13b8ae815e7f4808c8afd11be6d6622ecd1a1db57973"), looks := true }, kinds := [], alts := [], laidByText := true, laidKinds := [.data], laidTests := true, laidLooks := .later }
def ArchiveChainsUptoCardSaid : Prop := Claim7.holds Tryz.pinned (.plain (OpenSpec.upto archiveChainsSpec)) archiveChainsUptoCard

/-- THE SECOND FORM's CARD OF 'putloglaw39.ArchiveForks'. -/
def archiveForksUptoCard : Claim7 := { stood := { row := archiveForksUptoRow, standIns := [], harness := (true, "0ca27b150bdc3ce4371c13b8ae815e7f4808c8afd11be6d6622ecd1a1db57973"), looks := true }, kinds := [], alts := [], laidByText := true, laidKinds := [.data], laidTests := true, laidLooks := .later }
def ArchiveForksUptoCardSaid : Prop := Claim7.holds Tryz.pinned (.plain (OpenSpec.upto archiveForksSpec)) archiveForksUptoCard

/-- THE SECOND FORM's CARD OF 'putloglaw39.ArchiveRetracts'. -/
def archiveRetractsUptoCard : Claim7 := { stood := { row := archiveRetractsUptoRow, standIns := [], harness := (true, "0ca27b150bdc3ce4371c13b8ae815e7f4808c8afd11be6d6622ecd1a1db57973"), looks := true }, kinds := [], alts := [], laidByText := true, laidKinds := [.data], laidTests := true, laidLooks := .later }
def ArchiveRetractsUptoCardSaid : Prop := Claim7.holds Tryz.pinned (.plain (OpenSpec.upto archiveRetractsSpec)) archiveRetractsUptoCard

/-- THE SECOND FORM's CARD OF 'putloglaw39.ArchiveSigns'. -/
def archiveSignsUptoCard : Claim7 := { stood := { row := archiveSignsUptoRow, standIns := [], harness := (true, "0ca27b150bdc3ce4371c13b8ae815e7f4808c8afd11be6d6622ecd1a1db57973"), looks := true }, kinds := [], alts := [], laidByText := true, laidKinds := [.data], laidTests := true, laidLooks := .later }
def ArchiveSignsUptoCardSaid : Prop := Claim7.holds Tryz.pinned (.plain (OpenSpec.upto archiveSignsSpec)) archiveSignsUptoCard

/-- THE SECOND FORM's CARD OF 'putloglaw39.ArchiveCodes'. -/
def archiveCodesUptoCard : Claim7 := { stood := { row := archiveCodesUptoRow, standIns := [], harness := (true, "0ca27b150bdc3ce4371c13b8ae815e7f4808c8afd11be6d6622ecd1a1db57973"), looks := true }, kinds := [], alts := [], laidByText := true, laidKinds := [.data], laidTests := true, laidLooks := .later }
def ArchiveCodesUptoCardSaid : Prop := Claim7.holds Tryz.pinned (.plain (OpenSpec.upto archiveCodesSpec)) archiveCodesUptoCard
end Rows
end Go.Proofs.YtdnabfadigkjgaaGreatDoor
