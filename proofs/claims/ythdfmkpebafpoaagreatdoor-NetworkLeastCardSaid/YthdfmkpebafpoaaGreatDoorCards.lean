/-
  DERIVED. GIVEN WITH THE SEED: THE CARDS: each row of YthdfmkpebafpoaaGreatDoorRows.lean that lists a variable, with what it lists TIED to the program's text (the seventh form; the later family's looks); each row that meets fmt, with fmt's text TOLD by the authors' own Lean function (tested against real Go, not proved from fmt's source: count such statements apart). THE CARD IS WHAT COUNTS. Prove the row's statement (the work); the ties are given (YthdfmkpebafpoaaGreatDoorTie.lean); close each card by the builder's one call (the guide's Derived/Test/ToyasCard.lean, 'card_holds'). Laid BY PROGRAM, IN A SANDBOX (cutbox-door.mjs). By AI agents, Wed Nov 11 2026. No macro, syntax, notation, axiom, sorry.
-/
import Derived.Test.YthdfmkpebafpoaaGreatDoorRows
import GoSem.ClaimSeven
namespace Go.Proofs.YthdfmkpebafpoaaGreatDoor
namespace Rows

/-- THE TIED CARD OF 'putloglaw10.NetworkLeast'. -/
def networkLeastCard : Claim7 := { stood := { row := networkLeastRow, standIns := [], harness := (true, "d42224aaaf72d37d6607ad99368c559ae93d706d5cd05b21790d1c3bc0a774d5"), looks := true }, kinds := [], alts := [], laidByText := true, laidKinds := [.data, .data, .data, .data, .sentinel, .sentinel, .pinned], laidTests := true, laidLooks := .later }
def NetworkLeastCardSaid : Prop := Claim7.holds Tryz.pinned (.plain (OpenSpec.ofChange networkLeastSpec)) networkLeastCard

/-- THE SECOND FORM's CARD OF 'putloglaw10.NetworkLeast'. -/
def networkLeastUptoCard : Claim7 := { stood := { row := networkLeastUptoRow, standIns := [], harness := (true, "d42224aaaf72d37d6607ad99368c559ae93d706d5cd05b21790d1c3bc0a774d5"), looks := true }, kinds := [], alts := [], laidByText := true, laidKinds := [.data, .data, .data, .data, .sentinel, .sentinel, .pinned], laidTests := true, laidLooks := .later }
def NetworkLeastUptoCardSaid : Prop := Claim7.holds Tryz.pinned (.plain (OpenSpec.upto networkLeastSpec)) networkLeastUptoCard
end Rows
end Go.Proofs.YthdfmkpebafpoaaGreatDoor
