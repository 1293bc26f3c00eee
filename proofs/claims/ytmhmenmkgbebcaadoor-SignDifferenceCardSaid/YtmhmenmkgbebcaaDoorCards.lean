/-
  DERIVED. GIVEN WITH THE SEED: THE CARDS: each row of YtmhmenmkgbebcaaDoorRows.lean that lists a variable, with what it lists TIED to the program's text (the seventh form; the later family's looks); each row that meets fmt, with fmt's text TOLD by the authors' own Lean function (tested against real Go, not proved from fmt's source: count such statements apart). THE CARD IS WHAT COUNTS. Prove the row's statement (the work); the ties are given (YtmhmenmkgbebcaaDoorTie.lean); close each card by the builder's one call (the guide's Derived/Test/ToyasCard.lean, 'card_holds'). Laid BY PROGRAM, IN A SANDBOX (cutbox-door.mjs). By AI agents, Wed Nov 11 2026. No macro, syntax, notation, axiom, sorry.
-/
import Derived.Test.YtmhmenmkgbebcaaDoorRows
import GoSem.ClaimSeven
namespace Go.Proofs.YtmhmenmkgbebcaaDoor
namespace Rows

/-- THE TIED CARD OF 'overflightlaw04.SignPublicSpec'. -/
def signPublicSpecCard : Claim7 := { stood := { row := signPublicSpecRow, standIns := [], harness := (true, "0b61902b29ac49477daeadb16a6d7b893e2e648be1b7bcb6f33f033ad0c1ee62"), looks := false }, kinds := [], alts := [], laidByText := true, laidKinds := [.data, .data], laidTests := true, laidLooks := .later }
def SignPublicSpecCardSaid : Prop := Claim7.holds Tryd.pinned (.plain (OpenSpec.ofChange signPublicSpecSpec)) signPublicSpecCard

/-- THE TIED CARD OF 'overflightlaw04.SignPrivateSpec'. -/
def signPrivateSpecCard : Claim7 := { stood := { row := signPrivateSpecRow, standIns := [], harness := (true, "0b61902b29ac49477daeadb16a6d7b893e2e648be1b7bcb6f33f033ad0c1ee62"), looks := false }, kinds := [], alts := [], laidByText := true, laidKinds := [.data, .data], laidTests := true, laidLooks := .later }
def SignPrivateSpecCardSaid : Prop := Claim7.holds Tryd.pinned (.plain (OpenSpec.ofChange signPrivateSpecSpec)) signPrivateSpecCard

/-- THE TIED CARD OF 'overflightlaw04.SignVerifySpec'. -/
def signVerifySpecCard : Claim7 := { stood := { row := signVerifySpecRow, standIns := [], harness := (true, "0b61902b29ac49477daeadb16a6d7b893e2e648be1b7bcb6f33f033ad0c1ee62"), looks := false }, kinds := [], alts := [], laidByText := true, laidKinds := [.data, .data], laidTests := true, laidLooks := .later }
def SignVerifySpecCardSaid : Prop := Claim7.holds Tryd.pinned (.plain (OpenSpec.ofChange signVerifySpecSpec)) signVerifySpecCard

/-- THE TIED CARD OF 'overflightlaw04.SignVerifies'. -/
def signVerifiesCard : Claim7 := { stood := { row := signVerifiesRow, standIns := [], harness := (true, "0b61902b29ac49477daeadb16a6d7b893e2e648be1b7bcb6f33f033ad0c1ee62"), looks := false }, kinds := [], alts := [], laidByText := true, laidKinds := [.data, .data], laidTests := true, laidLooks := .later }
def SignVerifiesCardSaid : Prop := Claim7.holds Tryd.pinned (.plain (OpenSpec.ofChange signVerifiesSpec)) signVerifiesCard

/-- THE TIED CARD OF 'overflightlaw04.SignEquation'. -/
def signEquationCard : Claim7 := { stood := { row := signEquationRow, standIns := [], harness := (true, "0b61902b29ac49477daeadb16a6d7b893e2e648be1b7bcb6f33f033ad0c1ee62"), looks := false }, kinds := [], alts := [], laidByText := true, laidKinds := [.data, .data], laidTests := true, laidLooks := .later }
def SignEquationCardSaid : Prop := Claim7.holds Tryd.pinned (.plain (OpenSpec.ofChange signEquationSpec)) signEquationCard

/-- THE TIED CARD OF 'overflightlaw04.SignOnly'. -/
def signOnlyCard : Claim7 := { stood := { row := signOnlyRow, standIns := [], harness := (true, "0b61902b29ac49477daeadb16a6d7b893e2e648be1b7bcb6f33f033ad0c1ee62"), looks := false }, kinds := [], alts := [], laidByText := true, laidKinds := [.data, .data], laidTests := true, laidLooks := .later }
def SignOnlyCardSaid : Prop := Claim7.holds Tryd.pinned (.plain (OpenSpec.ofChange signOnlySpec)) signOnlyCard

/-- THE TIED CARD OF 'overflightlaw04.SignNonce'. -/
def signNonceCard : Claim7 := { stood := { row := signNonceRow, standIns := [], harness := (true, "0b61902b29ac49477daeadb16a6d7b893e2e648be1b7bcb6f33f033ad0c1ee62"), looks := false }, kinds := [], alts := [], laidByText := true, laidKinds := [.data, .data], laidTests := true, laidLooks := .later }
def SignNonceCardSaid : Prop := Claim7.holds Tryd.pinned (.plain (OpenSpec.ofChange signNonceSpec)) signNonceCard

/-- THE TIED CARD OF 'overflightlaw04.SignDifference'. -/
def signDifferenceCard : Claim7 := { stood := { row := signDifferenceRow, standIns := [], harness := (true, "0b61902b29ac49477daeadb16a6d7b893e2e648be1b7bcb6f33f033ad0c1ee62"), looks := false }, kinds := [], alts := [], laidByText := true, laidKinds := [.data, .data], laidTests := true, laidLooks := .later }
def SignDifferenceCardSaid : Prop := Claim7.holds Tryd.pinned (.plain (OpenSpec.ofChange signDifferenceSpec)) signDifferenceCard

/-- THE SECOND FORM's CARD OF 'overflightlaw04.SignPublicSpec'. -/
def signPublicSpecUptoCard : Claim7 := { stood := { row := signPublicSpecUptoRow, standIns := [], harness := (true, "0b61902b29ac49477daeadb16a6d7b893e2e648be1b7bcb6f33f033ad0c1ee62"), looks := false }, kinds := [], alts := [], laidByText := true, laidKinds := [.data, .data], laidTests := true, laidLooks := .later }
def SignPublicSpecUptoCardSaid : Prop := Claim7.holds Tryd.pinned (.plain (OpenSpec.upto signPublicSpecSpec)) signPublicSpecUptoCard

/-- THE SECOND FORM's CARD OF 'overflightlaw04.SignPrivateSpec'. -/
def signPrivateSpecUptoCard : Claim7 := { stood := { row := signPrivateSpecUptoRow, standIns := [], harness := (true, "0b61902b29ac49477daeadb16a6d7b893e2e648be1b7bcb6f33f033ad0c1ee62"), looks := false }, kinds := [], alts := [], laidByText := true, laidKinds := [.data, .data], laidTests := true, laidLooks := .later }
def SignPrivateSpecUptoCardSaid : Prop := Claim7.holds Tryd.pinned (.plain (OpenSpec.upto signPrivateSpecSpec)) signPrivateSpecUptoCard

/-- THE SECOND FORM's CARD OF 'overflightlaw04.SignVerifySpec'. -/
def signVerifySpecUptoCard : Claim7 := { stood := { row := signVerifySpecUptoRow, standIns := [], harness := (true, "0b61902b29ac49477daeadb16a6d7b893e2e648be1b7bcb6f33f033ad0c1ee62"), looks := false }, kinds := [], alts := [], laidByText := true, laidKinds := [.data, .data], laidTests := true, laidLooks := .later }
def SignVerifySpecUptoCardSaid : Prop := Claim7.holds Tryd.pinned (.plain (OpenSpec.upto signVerifySpecSpec)) signVerifySpecUptoCard

/-- THE SECOND FORM's CARD OF 'overflightlaw04.SignVerifies'. -/
def signVerifiesUptoCard : Claim7 := { stood := { row := signVerifiesUptoRow, standIns := [], harness := (true, "0b61902b29ac49477daeadb16a6d7b893e2e648be1b7bcb6f33f033ad0c1ee62"), looks := false }, kinds := [], alts := [], laidByText := true, laidKinds := [.data, .data], laidTests := true, laidLooks := .later }
def SignVerifiesUptoCardSaid : Prop := Claim7.holds Tryd.pinned (.plain (OpenSpec.upto signVerifiesSpec)) signVerifiesUptoCard

/-- THE SECOND FORM's CARD OF 'overflightlaw04.SignEquation'. -/
def signEquationUptoCard : Claim7 := { stood := { row := signEquationUptoRow, standIns := [], harness := (true, "0b61902b29ac49477daeadb16a6d7b893e2e648be1b7bcb6f33f033ad0c1ee62"), looks := false }, kinds := [], alts := [], laidByText := true, laidKinds := [.data, .data], laidTests := true, laidLooks := .later }
def SignEquationUptoCardSaid : Prop := Claim7.holds Tryd.pinned (.plain (OpenSpec.upto signEquationSpec)) signEquationUptoCard

/-- THE SECOND FORM's CARD OF 'overflightlaw04.SignOnly'. -/
def signOnlyUptoCard : Claim7 := { stood := { row := signOnlyUptoRow, standIns := [], harness := (true, "0b61902b29ac49477daeadb16a6d7b893e2e648be1b7bcb6f33f033ad0c1ee62"), looks := false }, kinds := [], alts := [], laidByText := true, laidKinds := [.data, .data], laidTests := true, laidLooks := .later }
def SignOnlyUptoCardSaid : Prop := Claim7.holds Tryd.pinned (.plain (OpenSpec.upto signOnlySpec)) signOnlyUptoCard

/-- THE SECOND FORM's CARD OF 'overflightlaw04.SignNonce'. -/
def signNonceUptoCard : Claim7 := { stood := { row := signNonceUptoRow, standIns := [], harness := (true, "0b61902b29ac49477daeadb16a6d7b893e2e648be1b7bcb6f33f033ad0c1ee62"), looks := false }, kinds := [], alts := [], laidByText := true, laidKinds := [.data, .data], laidTests := true, laidLooks := .later }
def SignNonceUptoCardSaid : Prop := Claim7.holds Tryd.pinned (.plain (OpenSpec.upto signNonceSpec)) signNonceUptoCard

/-- THE SECOND FORM's CARD OF 'overflightlaw04.SignDifference'. -/
def signDifferenceUptoCard : Claim7 := { stood := { row := signDifferenceUptoRow, standIns := [], harness := (true, "0b61902b29ac49477daeadb16a6d7b893e2e648be1b7bcb6f33f033ad0c1ee62"), looks := false }, kinds := [], alts := [], laidByText := true, laidKinds := [.data, .data], laidTests := true, laidLooks := .later }
def SignDifferenceUptoCardSaid : Prop := Claim7.holds Tryd.pinned (.plain (OpenSpec.upto signDifferenceSpec)) signDifferenceUptoCard
end Rows
end Go.Proofs.YtmhmenmkgbebcaaDoor
