/-
  DERIVED. GIVEN WITH THE SEED: THE CARDS: each row of YthfgccfaildmfaaGreatDoorRows.lean that lists a variable, with what it lists TIED to the program's text (the seventh form; the later family's looks); each row that meets fmt, with fmt's text TOLD by the authors' own Lean function (tested against real Go, not proved from fmt's source: count such statements apart). THE CARD IS WHAT COUNTS. Prove the row's statement (the work); the ties are given (YthfgccfaildmfaaGreatDoorTie.lean); close each card by the builder's one call (the guide's Derived/Test/ToyasCard.lean, 'card_holds'). Laid BY PROGRAM, IN A SANDBOX (cutbox-door.mjs). By AI agents, Wed Nov 11 2026. No macro, syntax, notation, axiom, sorry.
-/
import Derived.Test.YthfgccfaildmfaaGreatDoorRows
import GoSem.ClaimSeven
namespace Go.Proofs.YthfgccfaildmfaaGreatDoor
namespace Rows

/-- THE TIED CARD OF 'putloglaw22.DatingMatchesReference'. -/
def datingMatchesReferenceCard : Claim7 := { stood := { row := datingMatchesReferenceRow, standIns := [], harness := (true, "5d970535e0b85d91ed2ab7e46629a4429dd2fdddf56953fa9f0b76c1b730ab44"), looks := false }, kinds := [], alts := [], laidByText := true, laidKinds := [.data], laidTests := true, laidLooks := .later }
def DatingMatchesReferenceCardSaid : Prop := Claim7.holds Tryz.pinned (.plain (OpenSpec.ofChange datingMatchesReferenceSpec)) datingMatchesReferenceCard

/-- THE TIED CARD OF 'putloglaw22.DatingExact'. -/
def datingExactCard : Claim7 := { stood := { row := datingExactRow, standIns := [], harness := (true, "5d970535e0b85d91ed2ab7e46629a4429dd2fdddf56953fa9f0b76c1b730ab44"), looks := false }, kinds := [], alts := [], laidByText := true, laidKinds := [.data], laidTests := true, laidLooks := .later }
def DatingExactCardSaid : Prop := Claim7.holds Tryz.pinned (.plain (OpenSpec.ofChange datingExactSpec)) datingExactCard

/-- THE TIED CARD OF 'putloglaw22.DatingSound'. -/
def datingSoundCard : Claim7 := { stood := { row := datingSoundRow, standIns := [], harness := (true, "5d970535e0b85d91ed2ab7e46629a4429dd2fdddf56953fa9f0b76c1b730ab44"), looks := false }, kinds := [], alts := [], laidByText := true, laidKinds := [.data], laidTests := true, laidLooks := .later }
def DatingSoundCardSaid : Prop := Claim7.holds Tryz.pinned (.plain (OpenSpec.ofChange datingSoundSpec)) datingSoundCard

/-- THE TIED CARD OF 'putloglaw22.DatingCertain'. -/
def datingCertainCard : Claim7 := { stood := { row := datingCertainRow, standIns := [], harness := (true, "5d970535e0b85d91ed2ab7e46629a4429dd2fdddf56953fa9f0b76c1b730ab44"), looks := false }, kinds := [], alts := [], laidByText := true, laidKinds := [.data], laidTests := true, laidLooks := .later }
def DatingCertainCardSaid : Prop := Claim7.holds Tryz.pinned (.plain (OpenSpec.ofChange datingCertainSpec)) datingCertainCard

/-- THE TIED CARD OF 'putloglaw22.DatingRetracts'. -/
def datingRetractsCard : Claim7 := { stood := { row := datingRetractsRow, standIns := [], harness := (true, "5d970535e0b85d91ed2ab7e46629a4429dd2fdddf56953fa9f0b76c1b730ab44"), looks := false }, kinds := [], alts := [], laidByText := true, laidKinds := [.data], laidTests := true, laidLooks := .later }
def DatingRetractsCardSaid : Prop := Claim7.holds Tryz.pinned (.plain (OpenSpec.ofChange datingRetractsSpec)) datingRetractsCard

/-- THE TIED CARD OF 'putloglaw22.DatingOrder'. -/
def datingOrderCard : Claim7 := { stood := { row := datingOrderRow, standIns := [], harness := (true, "5d970535e0b85d91ed2ab7e46629a4429dd2fdddf56953fa9f0b76c1b730ab44"), looks := false }, kinds := [], alts := [], laidByText := true, laidKinds := [.data], laidTests := true, laidLooks := .later }
def DatingOrderCardSaid : Prop := Claim7.holds Tryz.pinned (.plain (OpenSpec.ofChange datingOrderSpec)) datingOrderCard

/-- THE TIED CARD OF 'putloglaw22.DatingBlames'. -/
def datingBlamesCard : Claim7 := { stood := { row := datingBlamesRow, standIns := [], harness := (true, "5d970535e0b85d91ed2ab7e46629a4429dd2fdddf56953fa9f0b76c1b730ab44"), looks := false }, kinds := [], alts := [], laidByText := true, laidKinds := [.data], laidTests := true, laidLooks := .later }
def DatingBlamesCardSaid : Prop := Claim7.holds Tryz.pinned (.plain (OpenSpec.ofChange datingBlamesSpec)) datingBlamesCard

/-- THE SECOND FORM's CARD OF 'putloglaw22.DatingExact'. -/
def datingExactUptoCard : Claim7 := { stood := { row := datingExactUptoRow, standIns := [], harness := (true, "5d970535e0b85d91ed2ab7e46629a4429dd2fdddf56953fa9f0b76c1b730ab44"), looks := false }, kinds := [], alts := [], laidByText := true, laidKinds := [.data], laidTests := true, laidLooks := .later }
def DatingExactUptoCardSaid : Prop := Claim7.holds Tryz.pinned (.plain (OpenSpec.upto datingExactSpec)) datingExactUptoCard

/-- THE SECOND FORM's CARD OF 'putloglaw22.DatingCertain'. -/
def datingCertainUptoCard : Claim7 := { stood := { row := datingCertainUptoRow, standIns := [], harness := (true, "5d970535e0b85d91ed2ab7e46629a4429dd2fdddf56953fa9f0b76c1b730ab44"), looks := false }, kinds := [], alts := [], laidByText := true, laidKinds := [.data], laidTests := true, laidLooks := .later }
def DatingCertainUptoCardSaid : Prop := Claim7.holds Tryz.pinned (.plain (OpenSpec.upto datingCertainSpec)) datingCertainUptoCard

/-- THE SECOND FORM's CARD OF 'putloglaw22.DatingRetracts'. -/
def datingRetractsUptoCard : Claim7 := { stood := { row := datingRetractsUptoRow, standIns := [], harness := (true, "5d970535e0b85d91ed2ab7e46629a4429dd2fdddf56953fa9f0b76c1b730ab44"), looks := false }, kinds := [], alts := [], laidByText := true, laidKinds := [.data], laidTests := true, laidLooks := .later }
def DatingRetractsUptoCardSaid : Prop := Claim7.holds Tryz.pinned (.plain (OpenSpec.upto datingRetractsSpec)) datingRetractsUptoCard

/-- THE SECOND FORM's CARD OF 'putloglaw22.DatingBlames'. -/
def datingBlamesUptoCard : Claim7 := { stood := { row := datingBlamesUptoRow, standIns := [], harness := (true, "5d970535e0b85d91ed2ab7e46629a4429dd2fdddf56953fa9f0b76c1b730ab44"), looks := false }, kinds := [], alts := [], laidByText := true, laidKinds := [.data], laidTests := true, laidLooks := .later }
def DatingBlamesUptoCardSaid : Prop := Claim7.holds Tryz.pinned (.plain (OpenSpec.upto datingBlamesSpec)) datingBlamesUptoCard
end Rows
end Go.Proofs.YthfgccfaildmfaaGreatDoor
