/-
  DERIVED. GIVEN WITH THE SEED: THE CARDS: each row of YtndifdbaeemicaaDoorRows.lean that lists a variable, with what it lists TIED to the program's text (the seventh form; the later family's looks); each row that meets fmt, with fmt's text TOLD by the authors' own Lean function (tested against real Go, not proved from fmt's source: count such statements apart). THE CARD IS WHAT COUNTS. Prove the row's statement (the work); the ties are given (YtndifdbaeemicaaDoorTie.lean); close each card by the builder's one call (the guide's Derived/Test/ToyasCard.lean, 'card_holds'). Laid BY PROGRAM, IN A SANDBOX (cutbox-door.mjs). By AI agents, Wed Nov 11 2026. No macro, syntax, notation, axiom, sorry.
-/
import Derived.Test.YtndifdbaeemicaaDoorRows
import GoSem.ClaimSeven
namespace Go.Proofs.YtndifdbaeemicaaDoor
namespace Rows

/-- THE TIED CARD OF 'overflightlaw03.GroupScalarsSpec'. -/
def groupScalarsSpecCard : Claim7 := { stood := { row := groupScalarsSpecRow, standIns := [], harness := (true, "b9103990744bf32620fef3b6f739755d4fcb9da91f48d05d83af4054959f3aeb"), looks := false }, kinds := [], alts := [], laidByText := true, laidKinds := [.data, .data], laidTests := true, laidLooks := .later }
def GroupScalarsSpecCardSaid : Prop := Claim7.holds Tryd.pinned (.plain (OpenSpec.ofChange groupScalarsSpecSpec)) groupScalarsSpecCard

/-- THE TIED CARD OF 'overflightlaw03.GroupDetermined'. -/
def groupDeterminedCard : Claim7 := { stood := { row := groupDeterminedRow, standIns := [], harness := (true, "b9103990744bf32620fef3b6f739755d4fcb9da91f48d05d83af4054959f3aeb"), looks := false }, kinds := [], alts := [], laidByText := true, laidKinds := [.data, .data], laidTests := true, laidLooks := .later }
def GroupDeterminedCardSaid : Prop := Claim7.holds Tryd.pinned (.plain (OpenSpec.ofChange groupDeterminedSpec)) groupDeterminedCard

/-- THE SECOND FORM's CARD OF 'overflightlaw03.GroupScalarsSpec'. -/
def groupScalarsSpecUptoCard : Claim7 := { stood := { row := groupScalarsSpecUptoRow, standIns := [], harness := (true, "b9103990744bf32620fef3b6f739755d4fcb9da91f48d05d83af4054959f3aeb"), looks := false }, kinds := [], alts := [], laidByText := true, laidKinds := [.data, .data], laidTests := true, laidLooks := .later }
def GroupScalarsSpecUptoCardSaid : Prop := Claim7.holds Tryd.pinned (.plain (OpenSpec.upto groupScalarsSpecSpec)) groupScalarsSpecUptoCard

/-- THE SECOND FORM's CARD OF 'overflightlaw03.GroupDetermined'. -/
def groupDeterminedUptoCard : Claim7 := { stood := { row := groupDeterminedUptoRow, standIns := [], harness := (true, "b9103990744bf32620fef3b6f739755d4fcb9da91f48d05d83af4054959f3aeb"), looks := false }, kinds := [], alts := [], laidByText := true, laidKinds := [.data, .data], laidTests := true, laidLooks := .later }
def GroupDeterminedUptoCardSaid : Prop := Claim7.holds Tryd.pinned (.plain (OpenSpec.upto groupDeterminedSpec)) groupDeterminedUptoCard
end Rows
end Go.Proofs.YtndifdbaeemicaaDoor
