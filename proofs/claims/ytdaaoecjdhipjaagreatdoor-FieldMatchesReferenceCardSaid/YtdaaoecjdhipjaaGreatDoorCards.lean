/-
  DERIVED. GIVEN WITH THE SEED: THE CARDS: each row of YtdaaoecjdhipjaaGreatDoorRows.lean that lists a variable, with what it lists TIED to the program's text (the seventh form; the later family's looks); each row that meets fmt, with fmt's text TOLD by the authors' own Lean function (tested against real Go, not proved from fmt's source: count such statements apart). THE CARD IS WHAT COUNTS. Prove the row's statement (the work); the ties are given (YtdaaoecjdhipjaaGreatDoorTie.lean); close each card by the builder's one call (the guide's Derived/Test/ToyasCard.lean, 'card_holds'). Laid BY PROGRAM, IN A SANDBOX (cutbox-door.mjs). By AI agents, Wed Nov 11 2026. No macro, syntax, notation, axiom, sorry.
-/
import Derived.Test.YtdaaoecjdhipjaaGreatDoorRows
import GoSem.ClaimSeven
namespace Go.Proofs.YtdaaoecjdhipjaaGreatDoor
namespace Rows

/-- THE TIED CARD OF 'putloglaw25.FieldMatchesReference'. -/
def fieldMatchesReferenceCard : Claim7 := { stood := { row := fieldMatchesReferenceRow, standIns := [], harness := (true, "b9f24ffc19270c7623d333f3763957d749f2d7ca6adc86edade46994140d8f15"), looks := true }, kinds := [], alts := [], laidByText := true, laidKinds := [.data, .data, .data, .data, .sentinel, .sentinel, .pinned], laidTests := true, laidLooks := .later }
def FieldMatchesReferenceCardSaid : Prop := Claim7.holds Tryz.pinned (.plain (OpenSpec.ofChange fieldMatchesReferenceSpec)) fieldMatchesReferenceCard

/-- THE TIED CARD OF 'putloglaw25.FieldPartsMatchReference'. -/
def fieldPartsMatchReferenceCard : Claim7 := { stood := { row := fieldPartsMatchReferenceRow, standIns := [], harness := (true, "b9f24ffc19270c7623d333f3763957d749f2d7ca6adc86edade46994140d8f15"), looks := true }, kinds := [], alts := [], laidByText := true, laidKinds := [.data, .data, .data, .data, .sentinel, .sentinel, .pinned], laidTests := true, laidLooks := .later }
def FieldPartsMatchReferenceCardSaid : Prop := Claim7.holds Tryz.pinned (.plain (OpenSpec.ofChange fieldPartsMatchReferenceSpec)) fieldPartsMatchReferenceCard

/-- THE TIED CARD OF 'putloglaw25.FieldChanges'. -/
def fieldChangesCard : Claim7 := { stood := { row := fieldChangesRow, standIns := [], harness := (true, "b9f24ffc19270c7623d333f3763957d749f2d7ca6adc86edade46994140d8f15"), looks := true }, kinds := [], alts := [], laidByText := true, laidKinds := [.data, .data, .data, .data, .sentinel, .sentinel, .pinned], laidTests := true, laidLooks := .later }
def FieldChangesCardSaid : Prop := Claim7.holds Tryz.pinned (.plain (OpenSpec.ofChange fieldChangesSpec)) fieldChangesCard

/-- THE TIED CARD OF 'putloglaw25.FieldRefines'. -/
def fieldRefinesCard : Claim7 := { stood := { row := fieldRefinesRow, standIns := [], harness := (true, "b9f24ffc19270c7623d333f3763957d749f2d7ca6adc86edade46994140d8f15"), looks := true }, kinds := [], alts := [], laidByText := true, laidKinds := [.data, .data, .data, .data, .sentinel, .sentinel, .pinned], laidTests := true, laidLooks := .later }
def FieldRefinesCardSaid : Prop := Claim7.holds Tryz.pinned (.plain (OpenSpec.ofChange fieldRefinesSpec)) fieldRefinesCard

/-- THE TIED CARD OF 'putloglaw25.FieldSums'. -/
def fieldSumsCard : Claim7 := { stood := { row := fieldSumsRow, standIns := [], harness := (true, "b9f24ffc19270c7623d333f3763957d749f2d7ca6adc86edade46994140d8f15"), looks := true }, kinds := [], alts := [], laidByText := true, laidKinds := [.data, .data, .data, .data, .sentinel, .sentinel, .pinned], laidTests := true, laidLooks := .later }
def FieldSumsCardSaid : Prop := Claim7.holds Tryz.pinned (.plain (OpenSpec.ofChange fieldSumsSpec)) fieldSumsCard

/-- THE TIED CARD OF 'putloglaw25.FieldBounds'. -/
def fieldBoundsCard : Claim7 := { stood := { row := fieldBoundsRow, standIns := [], harness := (true, "b9f24ffc19270c7623d333f3763957d749f2d7ca6adc86edade46994140d8f15"), looks := true }, kinds := [], alts := [], laidByText := true, laidKinds := [.data, .data, .data, .data, .sentinel, .sentinel, .pinned], laidTests := true, laidLooks := .later }
def FieldBoundsCardSaid : Prop := Claim7.holds Tryz.pinned (.plain (OpenSpec.ofChange fieldBoundsSpec)) fieldBoundsCard

/-- THE TIED CARD OF 'putloglaw25.FieldAreas'. -/
def fieldAreasCard : Claim7 := { stood := { row := fieldAreasRow, standIns := [], harness := (true, "b9f24ffc19270c7623d333f3763957d749f2d7ca6adc86edade46994140d8f15"), looks := true }, kinds := [], alts := [], laidByText := true, laidKinds := [.data, .data, .data, .data, .sentinel, .sentinel, .pinned], laidTests := true, laidLooks := .later }
def FieldAreasCardSaid : Prop := Claim7.holds Tryz.pinned (.plain (OpenSpec.ofChange fieldAreasSpec)) fieldAreasCard

/-- THE TIED CARD OF 'putloglaw25.FieldCuts'. -/
def fieldCutsCard : Claim7 := { stood := { row := fieldCutsRow, standIns := [], harness := (true, "b9f24ffc19270c7623d333f3763957d749f2d7ca6adc86edade46994140d8f15"), looks := true }, kinds := [], alts := [], laidByText := true, laidKinds := [.data, .data, .data, .data, .sentinel, .sentinel, .pinned], laidTests := true, laidLooks := .later }
def FieldCutsCardSaid : Prop := Claim7.holds Tryz.pinned (.plain (OpenSpec.ofChange fieldCutsSpec)) fieldCutsCard

/-- THE TIED CARD OF 'putloglaw25.FieldBetween'. -/
def fieldBetweenCard : Claim7 := { stood := { row := fieldBetweenRow, standIns := [], harness := (true, "b9f24ffc19270c7623d333f3763957d749f2d7ca6adc86edade46994140d8f15"), looks := true }, kinds := [], alts := [], laidByText := true, laidKinds := [.data, .data, .data, .data, .sentinel, .sentinel, .pinned], laidTests := true, laidLooks := .later }
def FieldBetweenCardSaid : Prop := Claim7.holds Tryz.pinned (.plain (OpenSpec.ofChange fieldBetweenSpec)) fieldBetweenCard

/-- THE SECOND FORM's CARD OF 'putloglaw25.FieldMatchesReference'. -/
def fieldMatchesReferenceUptoCard : Claim7 := { stood := { row := fieldMatchesReferenceUptoRow, standIns := [], harness := (true, "b9f24ffc19270c7623d333f3763957d749f2d7ca6adc86edade46994140d8f15"), looks := true }, kinds := [], alts := [], laidByText := true, laidKinds := [.data, .data, .data, .data, .sentinel, .sentinel, .pinned], laidTests := true, laidLooks := .later }
def FieldMatchesReferenceUptoCardSaid : Prop := Claim7.holds Tryz.pinned (.plain (OpenSpec.upto fieldMatchesReferenceSpec)) fieldMatchesReferenceUptoCard

/-- THE SECOND FORM's CARD OF 'putloglaw25.FieldPartsMatchReference'. -/
def fieldPartsMatchReferenceUptoCard : Claim7 := { stood := { row := fieldPartsMatchReferenceUptoRow, standIns := [], harness := (true, "b9f24ffc19270c7623d333f3763957d749f2d7ca6adc86edade46994140d8f15"), looks := true }, kinds := [], alts := [], laidByText := true, laidKinds := [.data, .data, .data, .data, .sentinel, .sentinel, .pinned], laidTests := true, laidLooks := .later }
def FieldPartsMatchReferenceUptoCardSaid : Prop := Claim7.holds Tryz.pinned (.plain (OpenSpec.upto fieldPartsMatchReferenceSpec)) fieldPartsMatchReferenceUptoCard

/-- THE SECOND FORM's CARD OF 'putloglaw25.FieldChanges'. -/
def fieldChangesUptoCard : Claim7 := { stood := { row := fieldChangesUptoRow, standIns := [], harness := (true, "b9f24ffc19270c7623d333f3763957d749f2d7ca6adc86edade46994140d8f15"), looks := true }, kinds := [], alts := [], laidByText := true, laidKinds := [.data, .data, .data, .data, .sentinel, .sentinel, .pinned], laidTests := true, laidLooks := .later }
def FieldChangesUptoCardSaid : Prop := Claim7.holds Tryz.pinned (.plain (OpenSpec.upto fieldChangesSpec)) fieldChangesUptoCard

/-- THE SECOND FORM's CARD OF 'putloglaw25.FieldRefines'. -/
def fieldRefinesUptoCard : Claim7 := { stood := { row := fieldRefinesUptoRow, standIns := [], harness := (true, "b9f24ffc19270c7623d333f3763957d749f2d7ca6adc86edade46994140d8f15"), looks := true }, kinds := [], alts := [], laidByText := true, laidKinds := [.data, .data, .data, .data, .sentinel, .sentinel, .pinned], laidTests := true, laidLooks := .later }
def FieldRefinesUptoCardSaid : Prop := Claim7.holds Tryz.pinned (.plain (OpenSpec.upto fieldRefinesSpec)) fieldRefinesUptoCard

/-- THE SECOND FORM's CARD OF 'putloglaw25.FieldSums'. -/
def fieldSumsUptoCard : Claim7 := { stood := { row := fieldSumsUptoRow, standIns := [], harness := (true, "b9f24ffc19270c7623d333f3763957d749f2d7ca6adc86edade46994140d8f15"), looks := true }, kinds := [], alts := [], laidByText := true, laidKinds := [.data, .data, .data, .data, .sentinel, .sentinel, .pinned], laidTests := true, laidLooks := .later }
def FieldSumsUptoCardSaid : Prop := Claim7.holds Tryz.pinned (.plain (OpenSpec.upto fieldSumsSpec)) fieldSumsUptoCard

/-- THE SECOND FORM's CARD OF 'putloglaw25.FieldBounds'. -/
def fieldBoundsUptoCard : Claim7 := { stood := { row := fieldBoundsUptoRow, standIns := [], harness := (true, "b9f24ffc19270c7623d333f3763957d749f2d7ca6adc86edade46994140d8f15"), looks := true }, kinds := [], alts := [], laidByText := true, laidKinds := [.data, .data, .data, .data, .sentinel, .sentinel, .pinned], laidTests := true, laidLooks := .later }
def FieldBoundsUptoCardSaid : Prop := Claim7.holds Tryz.pinned (.plain (OpenSpec.upto fieldBoundsSpec)) fieldBoundsUptoCard

/-- THE SECOND FORM's CARD OF 'putloglaw25.FieldAreas'. -/
def fieldAreasUptoCard : Claim7 := { stood := { row := fieldAreasUptoRow, standIns := [], harness := (true, "b9f24ffc19270c7623d333f3763957d749f2d7ca6adc86edade46994140d8f15"), looks := true }, kinds := [], alts := [], laidByText := true, laidKinds := [.data, .data, .data, .data, .sentinel, .sentinel, .pinned], laidTests := true, laidLooks := .later }
def FieldAreasUptoCardSaid : Prop := Claim7.holds Tryz.pinned (.plain (OpenSpec.upto fieldAreasSpec)) fieldAreasUptoCard

/-- THE SECOND FORM's CARD OF 'putloglaw25.FieldCuts'. -/
def fieldCutsUptoCard : Claim7 := { stood := { row := fieldCutsUptoRow, standIns := [], harness := (true, "b9f24ffc19270c7623d333f3763957d749f2d7ca6adc86edade46994140d8f15"), looks := true }, kinds := [], alts := [], laidByText := true, laidKinds := [.data, .data, .data, .data, .sentinel, .sentinel, .pinned], laidTests := true, laidLooks := .later }
def FieldCutsUptoCardSaid : Prop := Claim7.holds Tryz.pinned (.plain (OpenSpec.upto fieldCutsSpec)) fieldCutsUptoCard

/-- THE SECOND FORM's CARD OF 'putloglaw25.FieldBetween'. -/
def fieldBetweenUptoCard : Claim7 := { stood := { row := fieldBetweenUptoRow, standIns := [], harness := (true, "b9f24ffc19270c7623d333f3763957d749f2d7ca6adc86edade46994140d8f15"), looks := true }, kinds := [], alts := [], laidByText := true, laidKinds := [.data, .data, .data, .data, .sentinel, .sentinel, .pinned], laidTests := true, laidLooks := .later }
def FieldBetweenUptoCardSaid : Prop := Claim7.holds Tryz.pinned (.plain (OpenSpec.upto fieldBetweenSpec)) fieldBetweenUptoCard
end Rows
end Go.Proofs.YtdaaoecjdhipjaaGreatDoor
