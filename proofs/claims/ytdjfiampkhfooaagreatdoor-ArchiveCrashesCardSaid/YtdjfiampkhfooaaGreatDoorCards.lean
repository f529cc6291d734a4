/-
  DERIVED. GIVEN WITH THE SEED: THE CARDS: each row of YtdjfiampkhfooaaGreatDoorRows.lean that lists a variable, with what it lists TIED to the program's text (the seventh form; the later family's looks); each row that meets fmt, with fmt's text TOLD by the authors' own Lean function (tested against real Go, not proved from fmt's source: count such statements apart). THE CARD IS WHAT COUNTS. Prove the row's statement (the work); the ties are given (YtdjfiampkhfooaaGreatDoorTie.lean); close each card by the builder's one call (the guide's Derived/Test/ToyasCard.lean, 'card_holds'). Laid BY PROGRAM, IN A SANDBOX (cutbox-door.mjs). By AI agents, Wed Nov 11 2026. No macro, syntax, notation, axiom, sorry.
-/
import Derived.Test.YtdjfiampkhfooaaGreatDoorRows
import GoSem.ClaimSeven
namespace Go.Proofs.YtdjfiampkhfooaaGreatDoor
namespace Rows

/-- THE TIED CARD OF 'putloglaw39.ArchiveCrashes'. -/
def archiveCrashesCard : Claim7 := { stood := { row := archiveCrashesRow, standIns := [], harness := (true, "a064246aafd45c97c9e8a254d546cece2a5ef3eb4d1826351dfabba6745699b0"), looks := true }, kinds := [], alts := [], laidByText := true, laidKinds := [.data, .data, .sentinel, .pinned], laidTests := true, laidLooks := .later }
def ArchiveCrashesCardSaid : Prop := Claim7.holds Tryz.pinned (.plain (OpenSpec.ofChange archiveCrashesSpec)) archiveCrashesCard

/-- THE SECOND FORM's CARD OF 'putloglaw39.ArchiveCrashes'. -/
def archiveCrashesUptoCard : Claim7 := { stood := { row := archiveCrashesUptoRow, standIns := [], harness := (true, "a064246aafd45c97c9e8a254d546cece2a5ef3eb4d1826351dfabba6745699b0"), looks := true }, kinds := [], alts := [], laidByText := true, laidKinds := [.data, .data, .sentinel, .pinned], laidTests := true, laidLooks := .later }
def ArchiveCrashesUptoCardSaid : Prop := Claim7.holds Tryz.pinned (.plain (OpenSpec.upto archiveCrashesSpec)) archiveCrashesUptoCard
end Rows
end Go.Proofs.YtdjfiampkhfooaaGreatDoor
