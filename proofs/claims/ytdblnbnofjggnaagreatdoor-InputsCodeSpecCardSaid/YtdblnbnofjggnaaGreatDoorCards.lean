/-
  DERIVED. GIVEN WITH THE SEED: THE CARDS: each row of YtdblnbnofjggnaaGreatDoorRows.lean that lists a variable, with what it lists TIED to the program's text (the seventh form; the later family's looks); each row that meets fmt, with fmt's text TOLD by the authors' own Lean function (tested against real Go, not proved from fmt's source: count such statements apart). THE CARD IS WHAT COUNTS. Prove the row's statement (the work); the ties are given (YtdblnbnofjggnaaGreatDoorTie.lean); close each card by the builder's one call (the guide's Derived/Test/ToyasCard.lean, 'card_holds'). Laid BY PROGRAM, IN A SANDBOX (cutbox-door.mjs). By AI agents, Wed Nov 11 2026. No macro, syntax, notation, axiom, sorry.
-/
import Derived.Test.YtdblnbnofjggnaaGreatDoorRows
import GoSem.ClaimSeven
namespace Go.Proofs.YtdblnbnofjggnaaGreatDoor
namespace Rows

/-- THE TIED CARD OF 'overflightlaw49.InputsFields'. -/
def inputsFieldsCard : Claim7 := { stood := { row := inputsFieldsRow, standIns := [], harness := (true, "8eca3bf6144174d8ad2b37a01ba33e1db0163f1e672b81f7357c5c1dea31bbab"), looks := true }, kinds := [], alts := [], laidByText := true, laidKinds := [.data, .data], laidTests := true, laidLooks := .later }
def InputsFieldsCardSaid : Prop := Claim7.holds Tryz.pinned (.plain (OpenSpec.ofChange inputsFieldsSpec)) inputsFieldsCard

/-- THE TIED CARD OF 'overflightlaw49.InputsApart'. -/
def inputsApartCard : Claim7 := { stood := { row := inputsApartRow, standIns := [], harness := (true, "8eca3bf6144174d8ad2b37a01ba33e1db0163f1e672b81f7357c5c1dea31bbab"), looks := true }, kinds := [], alts := [], laidByText := true, laidKinds := [.data, .data], laidTests := true, laidLooks := .later }
def InputsApartCardSaid : Prop := Claim7.holds Tryz.pinned (.plain (OpenSpec.ofChange inputsApartSpec)) inputsApartCard

/-- THE TIED CARD OF 'overflightlaw49.InputsCheckSpec'. -/
def inputsCheckSpecCard : Claim7 := { stood := { row := inputsCheckSpecRow, standIns := [], harness := (true, "8eca3bf6144174d8ad2b37a01ba33e1db0163f1e672b81f7357c5c1dea31bbab"), looks := true }, kinds := [], alts := [], laidByText := true, laidKinds := [.data, .data], laidTests := true, laidLooks := .later }
def InputsCheckSpecCardSaid : Prop := Claim7.holds Tryz.pinned (.plain (OpenSpec.ofChange inputsCheckSpecSpec)) inputsCheckSpecCard

/-- THE TIED CARD OF 'overflightlaw49.InputsCodeSpec'. -/
def inputsCodeSpecCard : Claim7 := { stood := { row := inputsCodeSpecRow, standIns := [], harness := (true, "8eca3bf6144174d8ad2b37a01ba33e1db0163f1e672b81f7357c5c1dea31bbab"), looks := true }, kinds := [], alts := [], laidByText := true, laidKinds := [.data, .data], laidTests := true, laidLooks := .later }
def InputsCodeSpecCardSaid : Prop := Claim7.holds Tryz.pinned (.plain (OpenSpec.ofChange inputsCodeSpecSpec)) inputsCodeSpecCard

/-- THE TIED CARD OF 'overflightlaw49.InputsSignSpec'. -/
def inputsSignSpecCard : Claim7 := { stood := { row := inputsSignSpecRow, standIns := [], harness := (true, "8eca3bf6144174d8ad2b37a01ba33e1db0163f1e672b81f7357c5c1dea31bbab"), looks := true }, kinds := [], alts := [], laidByText := true, laidKinds := [.data, .data], laidTests := true, laidLooks := .later }
def InputsSignSpecCardSaid : Prop := Claim7.holds Tryz.pinned (.plain (OpenSpec.ofChange inputsSignSpecSpec)) inputsSignSpecCard

/-- THE TIED CARD OF 'overflightlaw49.InputsBack'. -/
def inputsBackCard : Claim7 := { stood := { row := inputsBackRow, standIns := [], harness := (true, "8eca3bf6144174d8ad2b37a01ba33e1db0163f1e672b81f7357c5c1dea31bbab"), looks := true }, kinds := [], alts := [], laidByText := true, laidKinds := [.data, .data], laidTests := true, laidLooks := .later }
def InputsBackCardSaid : Prop := Claim7.holds Tryz.pinned (.plain (OpenSpec.ofChange inputsBackSpec)) inputsBackCard

/-- THE TIED CARD OF 'overflightlaw49.InputsSigned'. -/
def inputsSignedCard : Claim7 := { stood := { row := inputsSignedRow, standIns := [], harness := (true, "8eca3bf6144174d8ad2b37a01ba33e1db0163f1e672b81f7357c5c1dea31bbab"), looks := true }, kinds := [], alts := [], laidByText := true, laidKinds := [.data, .data], laidTests := true, laidLooks := .later }
def InputsSignedCardSaid : Prop := Claim7.holds Tryz.pinned (.plain (OpenSpec.ofChange inputsSignedSpec)) inputsSignedCard

/-- THE TIED CARD OF 'overflightlaw49.InputsParts'. -/
def inputsPartsCard : Claim7 := { stood := { row := inputsPartsRow, standIns := [], harness := (true, "8eca3bf6144174d8ad2b37a01ba33e1db0163f1e672b81f7357c5c1dea31bbab"), looks := true }, kinds := [], alts := [], laidByText := true, laidKinds := [.data, .data], laidTests := true, laidLooks := .later }
def InputsPartsCardSaid : Prop := Claim7.holds Tryz.pinned (.plain (OpenSpec.ofChange inputsPartsSpec)) inputsPartsCard

/-- THE SECOND FORM's CARD OF 'overflightlaw49.InputsFields'. -/
def inputsFieldsUptoCard : Claim7 := { stood := { row := inputsFieldsUptoRow, standIns := [], harness := (true, "8eca3bf6144174d8ad2b37a01ba33e1db0163f1e672b81f7357c5c1dea31bbab"), looks := true }, kinds := [], alts := [], laidByText := true, laidKinds := [.data, .data], laidTests := true, laidLooks := .later }
def InputsFieldsUptoCardSaid : Prop := Claim7.holds Tryz.pinned (.plain (OpenSpec.upto inputsFieldsSpec)) inputsFieldsUptoCard

/-- THE SECOND FORM's CARD OF 'overflightlaw49.InputsApart'. -/
def inputsApartUptoCard : Claim7 := { stood := { row := inputsApartUptoRow, standIns := [], harness := (true, "8eca3bf6144174d8ad2b37a01ba33e1db0163f1e672b81f7357c5c1dea31bbab"), looks := true }, kinds := [], alts := [], laidByText := true, laidKinds := [.data, .data], laidTests := true, laidLooks := .later }
def InputsApartUptoCardSaid : Prop := Claim7.holds Tryz.pinned (.plain (OpenSpec.upto inputsApartSpec)) inputsApartUptoCard

/-- THE SECOND FORM's CARD OF 'overflightlaw49.InputsCheckSpec'. -/
def inputsCheckSpecUptoCard : Claim7 := { stood := { row := inputsCheckSpecUptoRow, standIns := [], harness := (true, "8eca3bf6144174d8ad2b37a01ba33e1db0163f1e672b81f7357c5c1dea31bbab"), looks := true }, kinds := [], alts := [], laidByText := true, laidKinds := [.data, .data], laidTests := true, laidLooks := .later }
def InputsCheckSpecUptoCardSaid : Prop := Claim7.holds Tryz.pinned (.plain (OpenSpec.upto inputsCheckSpecSpec)) inputsCheckSpecUptoCard

/-- THE SECOND FORM's CARD OF 'overflightlaw49.InputsCodeSpec'. -/
def inputsCodeSpecUptoCard : Claim7 := { stood := { row := inputsCodeSpecUptoRow, standIns := [], harness := (true, "8eca3bf6144174d8ad2b37a01ba33e1db0163f1e672b81f7357c5c1dea31bbab"), looks := true }, kinds := [], alts := [], laidByText := true, laidKinds := [.data, .data], laidTests := true, laidLooks := .later }
def InputsCodeSpecUptoCardSaid : Prop := Claim7.holds Tryz.pinned (.plain (OpenSpec.upto inputsCodeSpecSpec)) inputsCodeSpecUptoCard

/-- THE SECOND FORM's CARD OF 'overflightlaw49.InputsSignSpec'. -/
def inputsSignSpecUptoCard : Claim7 := { stood := { row := inputsSignSpecUptoRow, standIns := [], harness := (true, "8eca3bf6144174d8ad2b37a01ba33e1db0163f1e672b81f7357c5c1dea31bbab"), looks := true }, kinds := [], alts := [], laidByText := true, laidKinds := [.data, .data], laidTests := true, laidLooks := .later }
def InputsSignSpecUptoCardSaid : Prop := Claim7.holds Tryz.pinned (.plain (OpenSpec.upto inputsSignSpecSpec)) inputsSignSpecUptoCard

/-- THE SECOND FORM's CARD OF 'overflightlaw49.InputsBack'. -/
def inputsBackUptoCard : Claim7 := { stood := { row := inputsBackUptoRow, standIns := [], harness := (true, "8eca3bf6144174d8ad2b37a01ba33e1db0163f1e672b81f7357c5c1dea31bbab"), looks := true }, kinds := [], alts := [], laidByText := true, laidKinds := [.data, .data], laidTests := true, laidLooks := .later }
def InputsBackUptoCardSaid : Prop := Claim7.holds Tryz.pinned (.plain (OpenSpec.upto inputsBackSpec)) inputsBackUptoCard

/-- THE SECOND FORM's CARD OF 'overflightlaw49.InputsSigned'. -/
def inputsSignedUptoCard : Claim7 := { stood := { row := inputsSignedUptoRow, standIns := [], harness := (true, "8eca3bf6144174d8ad2b37a01ba33e1db0163f1e672b81f7357c5c1dea31bbab"), looks := true }, kinds := [], alts := [], laidByText := true, laidKinds := [.data, .data], laidTests := true, laidLooks := .later }
def InputsSignedUptoCardSaid : Prop := Claim7.holds Tryz.pinned (.plain (OpenSpec.upto inputsSignedSpec)) inputsSignedUptoCard

/-- THE SECOND FORM's CARD OF 'overflightlaw49.InputsParts'. -/
def inputsPartsUptoCard : Claim7 := { stood := { row := inputsPartsUptoRow, standIns := [], harness := (true, "8eca3bf6144174d8ad2b37a01ba33e1db0163f1e672b81f7357c5c1dea31bbab"), looks := true }, kinds := [], alts := [], laidByText := true, laidKinds := [.data, .data], laidTests := true, laidLooks := .later }
def InputsPartsUptoCardSaid : Prop := Claim7.holds Tryz.pinned (.plain (OpenSpec.upto inputsPartsSpec)) inputsPartsUptoCard
end Rows
end Go.Proofs.YtdblnbnofjggnaaGreatDoor
