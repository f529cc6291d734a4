/-
  DERIVED. GIVEN WITH THE SEED: THE CARDS: each row of YtdgabicjcepmeaaGreatDoorRows.lean that lists a variable, with what it lists TIED to the program's text (the seventh form; the later family's looks); each row that meets fmt, with fmt's text TOLD by the authors' own Lean function (tested against real Go, not proved from fmt's source: count such statements apart). THE CARD IS WHAT COUNTS. Prove the row's statement (the work); the ties are given (YtdgabicjcepmeaaGreatDoorTie.lean); close each card by the builder's one call (the guide's Derived/Test/ToyasCard.lean, 'card_holds'). Laid BY PROGRAM, IN A SANDBOX (cutbox-door.mjs). By AI agents, Wed Nov 11 2026. No macro, syntax, notation, axiom, sorry.
-/
import Derived.Test.YtdgabicjcepmeaaGreatDoorRows
import GoSem.ClaimSeven
namespace Go.Proofs.YtdgabicjcepmeaaGreatDoor
namespace Rows

/-- THE TIED CARD OF 'putloglaw25.FieldPartsMatchReference'. -/
def fieldPartsMatchReferenceCard : Claim7 := { stood := { row := fieldPartsMatchReferenceRow, standIns := [], harness := (true, "7a168176fe6686356e64b896862847539ceb742931969f9d64b28658b1e40979"), looks := true }, kinds := [], alts := [], laidByText := true, laidKinds := [.data, .data, .data, .data, .sentinel, .sentinel, .pinned], laidTests := true, laidLooks := .later }
def FieldPartsMatchReferenceCardSaid : Prop := Claim7.holds Tryz.pinned (.plain (OpenSpec.ofChange fieldPartsMatchReferenceSpec)) fieldPartsMatchReferenceCard

/-- THE SECOND FORM's CARD OF 'putloglaw25.FieldPartsMatchReference'. -/
def fieldPartsMatchReferenceUptoCard : Claim7 := { stood := { row := fieldPartsMatchReferenceUptoRow, standIns := [], harness := (true, "7a168176fe6686356e64b896862847539ceb742931969f9d64b28658b1e40979"), looks := true }, kinds := [], alts := [], laidByText := true, laidKinds := [.data, .data, .data, .data, .sentinel, .sentinel, .pinned], laidTests := true, laidLooks := .later }
def FieldPartsMatchReferenceUptoCardSaid : Prop := Claim7.holds Tryz.pinned (.plain (OpenSpec.upto fieldPartsMatchReferenceSpec)) fieldPartsMatchReferenceUptoCard
end Rows
end Go.Proofs.YtdgabicjcepmeaaGreatDoor
