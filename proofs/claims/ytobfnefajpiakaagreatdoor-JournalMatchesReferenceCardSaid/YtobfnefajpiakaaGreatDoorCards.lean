/-
  DERIVED. GIVEN WITH THE SEED: THE CARDS: each row of YtobfnefajpiakaaGreatDoorRows.lean that lists a variable, with what it lists TIED to the program's text (the seventh form; the later family's looks); each row that meets fmt, with fmt's text TOLD by the authors' own Lean function (tested against real Go, not proved from fmt's source: count such statements apart). THE CARD IS WHAT COUNTS. Prove the row's statement (the work); the ties are given (YtobfnefajpiakaaGreatDoorTie.lean); close each card by the builder's one call (the guide's Derived/Test/ToyasCard.lean, 'card_holds'). Laid BY PROGRAM, IN A SANDBOX (cutbox-door.mjs). By AI agents, Wed Nov 11 2026. No macro, syntax, notation, axiom, sorry.
-/
import Derived.Test.YtobfnefajpiakaaGreatDoorRows
import GoSem.ClaimSeven
namespace Go.Proofs.YtobfnefajpiakaaGreatDoor
namespace Rows

/-- THE TIED CARD OF 'putloglaw37.JournalOpensAnything'. -/
def journalOpensAnythingCard : Claim7 := { stood := { row := journalOpensAnythingRow, standIns := [], harness := (true, "62addf912a8c940089cf51a9a10d893f1b94e604b1bfd601847563ce88347e41"), looks := true }, kinds := [], alts := [], laidByText := true, laidKinds := [.data, .data, .sentinel, .pinned], laidTests := true, laidLooks := .later }
def JournalOpensAnythingCardSaid : Prop := Claim7.holds Tryz.pinned (.plain (OpenSpec.ofChange journalOpensAnythingSpec)) journalOpensAnythingCard

/-- THE TIED CARD OF 'putloglaw37.JournalDamaged'. -/
def journalDamagedCard : Claim7 := { stood := { row := journalDamagedRow, standIns := [], harness := (true, "62addf912a8c940089cf51a9a10d893f1b94e604b1bfd601847563ce88347e41"), looks := true }, kinds := [], alts := [], laidByText := true, laidKinds := [.data, .data, .sentinel, .pinned], laidTests := true, laidLooks := .later }
def JournalDamagedCardSaid : Prop := Claim7.holds Tryz.pinned (.plain (OpenSpec.ofChange journalDamagedSpec)) journalDamagedCard

/-- THE TIED CARD OF 'putloglaw37.JournalSurvives'. -/
def journalSurvivesCard : Claim7 := { stood := { row := journalSurvivesRow, standIns := [], harness := (true, "62addf912a8c940089cf51a9a10d893f1b94e604b1bfd601847563ce88347e41"), looks := true }, kinds := [], alts := [], laidByText := true, laidKinds := [.data, .data, .sentinel, .pinned], laidTests := true, laidLooks := .later }
def JournalSurvivesCardSaid : Prop := Claim7.holds Tryz.pinned (.plain (OpenSpec.ofChange journalSurvivesSpec)) journalSurvivesCard

/-- THE TIED CARD OF 'putloglaw37.JournalKeeps'. -/
def journalKeepsCard : Claim7 := { stood := { row := journalKeepsRow, standIns := [], harness := (true, "62addf912a8c940089cf51a9a10d893f1b94e604b1bfd601847563ce88347e41"), looks := true }, kinds := [], alts := [], laidByText := true, laidKinds := [.data, .data, .sentinel, .pinned], laidTests := true, laidLooks := .later }
def JournalKeepsCardSaid : Prop := Claim7.holds Tryz.pinned (.plain (OpenSpec.ofChange journalKeepsSpec)) journalKeepsCard

/-- THE TIED CARD OF 'putloglaw37.JournalMatchesReference'. -/
def journalMatchesReferenceCard : Claim7 := { stood := { row := journalMatchesReferenceRow, standIns := [], harness := (true, "62addf912a8c940089cf51a9a10d893f1b94e604b1bfd601847563ce88347e41"), looks := true }, kinds := [], alts := [], laidByText := true, laidKinds := [.data, .data, .sentinel, .pinned], laidTests := true, laidLooks := .later }
def JournalMatchesReferenceCardSaid : Prop := Claim7.holds Tryz.pinned (.plain (OpenSpec.ofChange journalMatchesReferenceSpec)) journalMatchesReferenceCard

/-- THE SECOND FORM's CARD OF 'putloglaw37.JournalOpensAnything'. -/
def journalOpensAnythingUptoCard : Claim7 := { stood := { row := journalOpensAnythingUptoRow, standIns := [], harness := (true, "62addf912a8c940089cf51a9a10d893f1b94e604b1bfd601847563ce88347e41"), looks := true }, kinds := [], alts := [], laidByText := true, laidKinds := [.data, .data, .sentinel, .pinned], laidTests := true, laidLooks := .later }
def JournalOpensAnythingUptoCardSaid : Prop := Claim7.holds Tryz.pinned (.plain (OpenSpec.upto journalOpensAnythingSpec)) journalOpensAnythingUptoCard

/-- THE SECOND FORM's CARD OF 'putloglaw37.JournalDamaged'. -/
def journalDamagedUptoCard : Claim7 := { stood := { row := journalDamagedUptoRow, standIns := [], harness := (true, "62addf912a8c940089cf51a9a10d893f1b94e604b1bfd601847563ce88347e41"), looks := true }, kinds := [], alts := [], laidByText := true, laidKinds := [.data, .data, .sentinel, .pinned], laidTests := true, laidLooks := .later }
def JournalDamagedUptoCardSaid : Prop := Claim7.holds Tryz.pinned (.plain (OpenSpec.upto journalDamagedSpec)) journalDamagedUptoCard

/-- THE SECOND FORM's CARD OF 'putloglaw37.JournalSurvives'. -/
def journalSurvivesUptoCard : Claim7 := { stood := { row := journalSurvivesUptoRow, standIns := [], harness := (true, "62addf912a8c940089cf51a9a10d893f1b94e604b1bfd601847563ce88347e41"), looks := true }, kinds := [], alts := [], laidByText := true, laidKinds := [.data, .data, .sentinel, .pinned], laidTests := true, laidLooks := .later }
def JournalSurvivesUptoCardSaid : Prop := Claim7.holds Tryz.pinned (.plain (OpenSpec.upto journalSurvivesSpec)) journalSurvivesUptoCard

/-- THE SECOND FORM's CARD OF 'putloglaw37.JournalKeeps'. -/
def journalKeepsUptoCard : Claim7 := { stood := { row := journalKeepsUptoRow, standIns := [], harness := (true, "62addf912a8c940089cf51a9a10d893f1b94e604b1bfd601847563ce88347e41"), looks := true }, kinds := [], alts := [], laidByText := true, laidKinds := [.data, .data, .sentinel, .pinned], laidTests := true, laidLooks := .later }
def JournalKeepsUptoCardSaid : Prop := Claim7.holds Tryz.pinned (.plain (OpenSpec.upto journalKeepsSpec)) journalKeepsUptoCard

/-- THE SECOND FORM's CARD OF 'putloglaw37.JournalMatchesReference'. -/
def journalMatchesReferenceUptoCard : Claim7 := { stood := { row := journalMatchesReferenceUptoRow, standIns := [], harness := (true, "62addf912a8c940089cf51a9a10d893f1b94e604b1bfd601847563ce88347e41"), looks := true }, kinds := [], alts := [], laidByText := true, laidKinds := [.data, .data, .sentinel, .pinned], laidTests := true, laidLooks := .later }
def JournalMatchesReferenceUptoCardSaid : Prop := Claim7.holds Tryz.pinned (.plain (OpenSpec.upto journalMatchesReferenceSpec)) journalMatchesReferenceUptoCard
end Rows
end Go.Proofs.YtobfnefajpiakaaGreatDoor
