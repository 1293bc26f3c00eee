/-
  DERIVED. GIVEN WITH THE SEED: THE CARDS: each row of YtbonebmboolemaaDoorRows.lean that lists a variable, with what it lists TIED to the program's text (the seventh form; the later family's looks); each row that meets fmt, with fmt's text TOLD by the authors' own Lean function (tested against real Go, not proved from fmt's source: count such statements apart). THE CARD IS WHAT COUNTS. Prove the row's statement (the work); the ties are given (YtbonebmboolemaaDoorTie.lean); close each card by the builder's one call (the guide's Derived/Test/ToyasCard.lean, 'card_holds'). Laid BY PROGRAM, IN A SANDBOX (cutbox-door.mjs). By AI agents, Wed Nov 11 2026. No macro, syntax, notation, axiom, sorry.
-/
import Derived.Test.YtbonebmboolemaaDoorRows
import GoSem.ClaimSeven
namespace Go.Proofs.YtbonebmboolemaaDoor
namespace Rows

/-- THE TIED CARD OF 'overflightlaw36.CommitmentCheckSpec'. -/
def commitmentCheckSpecCard : Claim7 := { stood := { row := commitmentCheckSpecRow, standIns := [], harness := (true, "360ef386762c7878c39caf8c5d7cdff05e3b129478fa2914b3c3bad5ed81abe2"), looks := false }, kinds := [], alts := [], laidByText := true, laidKinds := [.data, .data], laidTests := true, laidLooks := .later }
def CommitmentCheckSpecCardSaid : Prop := Claim7.holds Tryd.pinned (.plain (OpenSpec.ofChange commitmentCheckSpecSpec)) commitmentCheckSpecCard

/-- THE TIED CARD OF 'overflightlaw36.CommitmentOpenSpec'. -/
def commitmentOpenSpecCard : Claim7 := { stood := { row := commitmentOpenSpecRow, standIns := [], harness := (true, "360ef386762c7878c39caf8c5d7cdff05e3b129478fa2914b3c3bad5ed81abe2"), looks := false }, kinds := [], alts := [], laidByText := true, laidKinds := [.data, .data], laidTests := true, laidLooks := .later }
def CommitmentOpenSpecCardSaid : Prop := Claim7.holds Tryd.pinned (.plain (OpenSpec.ofChange commitmentOpenSpecSpec)) commitmentOpenSpecCard

/-- THE TIED CARD OF 'overflightlaw36.CommitmentOpens'. -/
def commitmentOpensCard : Claim7 := { stood := { row := commitmentOpensRow, standIns := [], harness := (true, "360ef386762c7878c39caf8c5d7cdff05e3b129478fa2914b3c3bad5ed81abe2"), looks := false }, kinds := [], alts := [], laidByText := true, laidKinds := [.data, .data], laidTests := true, laidLooks := .later }
def CommitmentOpensCardSaid : Prop := Claim7.holds Tryd.pinned (.plain (OpenSpec.ofChange commitmentOpensSpec)) commitmentOpensCard

/-- THE TIED CARD OF 'overflightlaw36.CommitmentTrue'. -/
def commitmentTrueCard : Claim7 := { stood := { row := commitmentTrueRow, standIns := [], harness := (true, "360ef386762c7878c39caf8c5d7cdff05e3b129478fa2914b3c3bad5ed81abe2"), looks := false }, kinds := [], alts := [], laidByText := true, laidKinds := [.data, .data], laidTests := true, laidLooks := .later }
def CommitmentTrueCardSaid : Prop := Claim7.holds Tryd.pinned (.plain (OpenSpec.ofChange commitmentTrueSpec)) commitmentTrueCard

/-- THE TIED CARD OF 'overflightlaw36.CommitmentRefuses'. -/
def commitmentRefusesCard : Claim7 := { stood := { row := commitmentRefusesRow, standIns := [], harness := (true, "360ef386762c7878c39caf8c5d7cdff05e3b129478fa2914b3c3bad5ed81abe2"), looks := false }, kinds := [], alts := [], laidByText := true, laidKinds := [.data, .data], laidTests := true, laidLooks := .later }
def CommitmentRefusesCardSaid : Prop := Claim7.holds Tryd.pinned (.plain (OpenSpec.ofChange commitmentRefusesSpec)) commitmentRefusesCard

/-- THE TIED CARD OF 'overflightlaw36.CommitmentNested'. -/
def commitmentNestedCard : Claim7 := { stood := { row := commitmentNestedRow, standIns := [], harness := (true, "360ef386762c7878c39caf8c5d7cdff05e3b129478fa2914b3c3bad5ed81abe2"), looks := false }, kinds := [], alts := [], laidByText := true, laidKinds := [.data, .data], laidTests := true, laidLooks := .later }
def CommitmentNestedCardSaid : Prop := Claim7.holds Tryd.pinned (.plain (OpenSpec.ofChange commitmentNestedSpec)) commitmentNestedCard

/-- THE SECOND FORM's CARD OF 'overflightlaw36.CommitmentCheckSpec'. -/
def commitmentCheckSpecUptoCard : Claim7 := { stood := { row := commitmentCheckSpecUptoRow, standIns := [], harness := (true, "360ef386762c7878c39caf8c5d7cdff05e3b129478fa2914b3c3bad5ed81abe2"), looks := false }, kinds := [], alts := [], laidByText := true, laidKinds := [.data, .data], laidTests := true, laidLooks := .later }
def CommitmentCheckSpecUptoCardSaid : Prop := Claim7.holds Tryd.pinned (.plain (OpenSpec.upto commitmentCheckSpecSpec)) commitmentCheckSpecUptoCard

/-- THE SECOND FORM's CARD OF 'overflightlaw36.CommitmentOpenSpec'. -/
def commitmentOpenSpecUptoCard : Claim7 := { stood := { row := commitmentOpenSpecUptoRow, standIns := [], harness := (true, "360ef386762c7878c39caf8c5d7cdff05e3b129478fa2914b3c3bad5ed81abe2"), looks := false }, kinds := [], alts := [], laidByText := true, laidKinds := [.data, .data], laidTests := true, laidLooks := .later }
def CommitmentOpenSpecUptoCardSaid : Prop := Claim7.holds Tryd.pinned (.plain (OpenSpec.upto commitmentOpenSpecSpec)) commitmentOpenSpecUptoCard

/-- THE SECOND FORM's CARD OF 'overflightlaw36.CommitmentOpens'. -/
def commitmentOpensUptoCard : Claim7 := { stood := { row := commitmentOpensUptoRow, standIns := [], harness := (true, "360ef386762c7878c39caf8c5d7cdff05e3b129478fa2914b3c3bad5ed81abe2"), looks := false }, kinds := [], alts := [], laidByText := true, laidKinds := [.data, .data], laidTests := true, laidLooks := .later }
def CommitmentOpensUptoCardSaid : Prop := Claim7.holds Tryd.pinned (.plain (OpenSpec.upto commitmentOpensSpec)) commitmentOpensUptoCard

/-- THE SECOND FORM's CARD OF 'overflightlaw36.CommitmentTrue'. -/
def commitmentTrueUptoCard : Claim7 := { stood := { row := commitmentTrueUptoRow, standIns := [], harness := (true, "360ef386762c7878c39caf8c5d7cdff05e3b129478fa2914b3c3bad5ed81abe2"), looks := false }, kinds := [], alts := [], laidByText := true, laidKinds := [.data, .data], laidTests := true, laidLooks := .later }
def CommitmentTrueUptoCardSaid : Prop := Claim7.holds Tryd.pinned (.plain (OpenSpec.upto commitmentTrueSpec)) commitmentTrueUptoCard

/-- THE SECOND FORM's CARD OF 'overflightlaw36.CommitmentRefuses'. -/
def commitmentRefusesUptoCard : Claim7 := { stood := { row := commitmentRefusesUptoRow, standIns := [], harness := (true, "360ef386762c7878c39caf8c5d7cdff05e3b129478fa2914b3c3bad5ed81abe2"), looks := false }, kinds := [], alts := [], laidByText := true, laidKinds := [.data, .data], laidTests := true, laidLooks := .later }
def CommitmentRefusesUptoCardSaid : Prop := Claim7.holds Tryd.pinned (.plain (OpenSpec.upto commitmentRefusesSpec)) commitmentRefusesUptoCard

/-- THE SECOND FORM's CARD OF 'overflightlaw36.CommitmentNested'. -/
def commitmentNestedUptoCard : Claim7 := { stood := { row := commitmentNestedUptoRow, standIns := [], harness := (true, "360ef386762c7878c39caf8c5d7cdff05e3b129478fa2914b3c3bad5ed81abe2"), looks := false }, kinds := [], alts := [], laidByText := true, laidKinds := [.data, .data], laidTests := true, laidLooks := .later }
def CommitmentNestedUptoCardSaid : Prop := Claim7.holds Tryd.pinned (.plain (OpenSpec.upto commitmentNestedSpec)) commitmentNestedUptoCard
end Rows
end Go.Proofs.YtbonebmboolemaaDoor
