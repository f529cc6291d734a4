/-
  DERIVED. GIVEN WITH THE SEED: THE CARDS: each row of YtechphmljdgoaaaGreatDoorRows.lean that lists a variable, with what it lists TIED to the program's text (the seventh form; the later family's looks); each row that meets fmt, with fmt's text TOLD by the authors' own Lean function (tested against real Go, not proved from fmt's source: count such statements apart). THE CARD IS WHAT COUNTS. Prove the row's statement (the work); the ties are given (YtechphmljdgoaaaGreatDoorTie.lean); close each card by the builder's one call (the guide's Derived/Test/ToyasCard.lean, 'card_holds'). Laid BY PROGRAM, IN A SANDBOX (cutbox-door.mjs). By AI agents, Wed Nov 11 2026. No macro, syntax, notation, axiom, sorry.
-/
import Derived.Test.YtechphmljdgoaaaGreatDoorRows
import GoSem.ClaimSeven
namespace Go.Proofs.YtechphmljdgoaaaGreatDoor
namespace Rows

/-- THE TIED CARD OF 'putloglaw25.FieldRefines'. -/
def fieldRefinesCard : Claim7 := { stood := { row := fieldRefinesRow, standIns := [], harness := (true, "c2ca25c0d881f3db32cbddbfb25d6f0853bda21136ace6c575987390a961bea7"), looks := true }, kinds := [], alts := [], laidByText := true, laidKinds := [.data, .data, .data, .data, .sentinel, .sentinel, .pinned], laidTests := true, laidLooks := .later }
def FieldRefinesCardSaid : Prop := Claim7.holds Tryz.pinned (.plain (OpenSpec.ofChange fieldRefinesSpec)) fieldRefinesCard

/-- THE TIED CARD OF 'putloglaw25.FieldSums'. -/
def fieldSumsCard : Claim7 := { stood := { row := fieldSumsRow, standIns := [], harness := (true, "c2ca25c0d881f3db32cbddbfb25d6f0853bda21136ace6c575987390a961bea7"), looks := true }, kinds := [], alts := [], laidByText := true, laidKinds := [.data, .data, .data, .data, .sentinel, .sentinel, .pinned], laidTests := true, laidLooks := .later }
def FieldSumsCardSaid : Prop := Claim7.holds Tryz.pinned (.plain (OpenSpec.ofChange fieldSumsSpec)) fieldSumsCard

/-- THE TIED CARD OF 'putloglaw25.FieldBounds'. -/
def fieldBoundsCard : Claim7 := { stood := { row := fieldBoundsRow, standIns := [], harness := (true, "c2ca25c0d881f3db32cbddbfb25d6f0853bda21136ace6c575987390a961bea7"), looks := true }, kinds := [], alts := [], laidByText := true, laidKinds := [.data, .data, .data, .data, .sentinel, .sentinel, .pinned], laidTests := true, laidLooks := .later }
def FieldBoundsCardSaid : Prop := Claim7.holds Tryz.pinned (.plain (OpenSpec.ofChange fieldBoundsSpec)) fieldBoundsCard

/-- THE TIED CARD OF 'putloglaw25.FieldAreas'. -/
def fieldAreasCard : Claim7 := { stood := { row := fieldAreasRow, standIns := [], harness := (true, "c2ca25c0d881f3db32cbddbfb25d6f0853bda21136ace6c575987390a961bea7"), looks := true }, kinds := [], alts := [], laidByText := true, laidKinds := [.data, .data, .data, .data, .sentinel, .sentinel, .pinned], laidTests := true, laidLooks := .later }
def FieldAreasCardSaid : Prop := Claim7.holds Tryz.pinned (.plain (OpenSpec.ofChange fieldAreasSpec)) fieldAreasCard

/-- THE TIED CARD OF 'putloglaw25.FieldCuts'. -/
def fieldCutsCard : Claim7 := { stood := { row := fieldCutsRow, standIns := [], harness := (true, "c2ca25c0d881f3db32cbddbfb25d6f0853bda21136ace6c575987390a961bea7"), looks := true }, kinds := [], alts := [], laidByText := true, laidKinds := [.data, .data, .data, .data, .sentinel, .sentinel, .pinned], laidTests := true, laidLooks := .later }
def FieldCutsCardSaid : Prop := Claim7.holds Tryz.pinned (.plain (OpenSpec.ofChange fieldCutsSpec)) fieldCutsCard

/-- THE TIED CARD OF 'putloglaw25.FieldBetween'. -/
def fieldBetweenCard : Claim7 := { stood := { row := fieldBetweenRow, standIns := [], harness := (true, "c2ca25c0d881f3db32cbddbfb25d6f0853bda21136ace6c575987390a961bea7"), looks := true }, kinds := [], alts := [], laidByText := true, laidKinds := [.data, .data, .data, .data, .sentinel, .sentinel, .pinned], laidTests := true, laidLooks := .later }
def FieldBetweenCardSaid : Prop := Claim7.holds Tryz.pinned (.plain (OpenSpec.ofChange fieldBetweenSpec)) fieldBetweenCard

/-- THE SECOND FORM's CARD OF 'putloglaw25.FieldRefines'. -/
def fieldRefinesUptoCard : Claim7 := { stood := { row := fieldRefinesUptoRow, standIns := [], harness := (true, "c2ca25c0d881f3db32cbddbfb25d6f0853bda21136ace6c575987390a961bea7"), looks := true }, kinds := [], alts := [], laidByText := true, laidKinds := [.data, .data, .data, .data, .sentinel, .sentinel, .pinned], laidTests := true, laidLooks := .later }
def FieldRefinesUptoCardSaid : Prop := Claim7.holds Tryz.pinned (.plain (OpenSpec.upto fieldRefinesSpec)) fieldRefinesUptoCard

/-- THE SECOND FORM's CARD OF 'putloglaw25.FieldSums'. -/
def fieldSumsUptoCard : Claim7 := { stood := { row := fieldSumsUptoRow, standIns := [], harness := (true, "c2ca25c0d881f3db32cbddbfb25d6f0853bda21136ace6c575987390a961bea7"), looks := true }, kinds := [], alts := [], laidByText := true, laidKinds := [.data, .data, .data, .data, .sentinel, .sentinel, .pinned], laidTests := true, laidLooks := .later }
def FieldSumsUptoCardSaid : Prop := Claim7.holds Tryz.pinned (.plain (OpenSpec.upto fieldSumsSpec)) fieldSumsUptoCard

/-- THE SECOND FORM's CARD OF 'putloglaw25.FieldBounds'. -/
def fieldBoundsUptoCard : Claim7 := { stood := { row := fieldBoundsUptoRow, standIns := [], harness := (true, "c2ca25c0d881f3db32cbddbfb25d6f0853bda21136ace6c575987390a961bea7"), looks := true }, kinds := [], alts := [], laidByText := true, laidKinds := [.data, .data, .data, .data, .sentinel, .sentinel, .pinned], laidTests := true, laidLooks := .later }
def FieldBoundsUptoCardSaid : Prop := Claim7.holds Tryz.pinned (.plain (OpenSpec.upto fieldBoundsSpec)) fieldBoundsUptoCard

/-- THE SECOND FORM's CARD OF 'putloglaw25.FieldAreas'. -/
def fieldAreasUptoCard : Claim7 := { stood := { row := fieldAreasUptoRow, standIns := [], harness := (true, "c2ca25c0d881f3db32cbddbfb25d6f0853bda21136ace6c575987390a961bea7"), looks := true }, kinds := [], alts := [], laidByText := true, laidKinds := [.data, .data, .data, .data, .sentinel, .sentinel, .pinned], laidTests := true, laidLooks := .later }
def FieldAreasUptoCardSaid : Prop := Claim7.holds Tryz.pinned (.plain (OpenSpec.upto fieldAreasSpec)) fieldAreasUptoCard

/-- THE SECOND FORM's CARD OF 'putloglaw25.FieldCuts'. -/
def fieldCutsUptoCard : Claim7 := { stood := { row := fieldCutsUptoRow, standIns := [], harness := (true, "c2ca25c0d881f3db32cbddbfb25d6f0853bda21136ace6c575987390a961bea7"), looks := true }, kinds := [], alts := [], laidByText := true, laidKinds := [.data, .data, .data, .data, .sentinel, .sentinel, .pinned], laidTests := true, laidLooks := .later }
def FieldCutsUptoCardSaid : Prop := Claim7.holds Tryz.pinned (.plain (OpenSpec.upto fieldCutsSpec)) fieldCutsUptoCard

/-- THE SECOND FORM's CARD OF 'putloglaw25.FieldBetween'. -/
def fieldBetweenUptoCard : Claim7 := { stood := { row := fieldBetweenUptoRow, standIns := [], harness := (true, "c2ca25c0d881f3db32cbddbfb25d6f0853bda21136ace6c575987390a961bea7"), looks := true }, kinds := [], alts := [], laidByText := true, laidKinds := [.data, .data, .data, .data, .sentinel, .sentinel, .pinned], laidTests := true, laidLooks := .later }
def FieldBetweenUptoCardSaid : Prop := Claim7.holds Tryz.pinned (.plain (OpenSpec.upto fieldBetweenSpec)) fieldBetweenUptoCard
end Rows
end Go.Proofs.YtechphmljdgoaaaGreatDoor
