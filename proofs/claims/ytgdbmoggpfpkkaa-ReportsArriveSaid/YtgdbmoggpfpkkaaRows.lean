/-
  No cell of these rows narrows 'for every input' (looked for: loops, veiled, ifaces, maps, wideKeys, modest, calm, conditions, laid).
  DERIVED. THE GIVEN ROWS OF THIS SEAT. 8 by the template 'for every input the law returns true; each argument reads behind the call as it read before'; 0 by the template 'total and deterministic' (their statements: YtgdbmoggpfpkkaaTotals.lean).
  GIVEN WITH THE SEED: the statements are not yours to turn. If you find one false, say at which input.
  Laid BY PROGRAM, IN A SANDBOX (cutbox-rows.mjs): the forced cells as the released guide's own fill.sh prints them over the translation 2d66dd5355779823… (all of the seat's roots in one cut). By AI agents, Wed Nov 11 2026. No macro, syntax, notation, axiom, sorry.
-/
import Derived.Test.YtgdbmoggpfpkkaaChecked
import GoSem.Claim
import GoSem.ClaimJoined
import GoSem.ClaimMapViews
import Derived.JoinedTies
import Derived.KernelRfl
namespace Go.Proofs.Ytgdbmoggpfpkkaa
/- THE CELL 'sum', in the pinned program and in every row, IS THE sha256 OF THE DUMP (.gsa) THAT YtgdbmoggpfpkkaaProg.lean LOADS. Nothing in Lean hashes anything: it is a label: what it is worth is what the hold of that sum in a sandbox is worth. -/
noncomputable def Try.pinned : Pinned := { name := "ytgdbmoggpfpkkaa", sum := "2d66dd535577982380e43c4650e5b4fc388eaa3a5b1dc06e213d3c7a365a8c85", checked := Try.checked }
namespace Rows
def none {H : Type} : Left H := { results := [], args := [] }

/-- 'overflightlaw22.ReportsCheckSpec': WHATEVER THE INPUT: true; the input reads as it did. -/
def reportsCheckSpecSpec : ChangeSpec := { name := "reportsCheckSpec", fn := fun _ => fun
  | [d1, d2, d3, d4] => { results := [.lit (.bool true)], args := [d1, d2, d3, d4] }
  | _ => none }
def reportsCheckSpecRow : OpenClaim := { program := "ytgdbmoggpfpkkaa", sum := "2d66dd535577982380e43c4650e5b4fc388eaa3a5b1dc06e213d3c7a365a8c85", func := "overflight/overflightlaw22.ReportsCheckSpec", spec := "reportsCheckSpec", inPlace := ["internal/bytealg.IndexByteString", "slices.overlaps[overflight/api.Report]"], unfollowed := true, recurses := true, apart := false }
def ReportsCheckSpecSaid : Prop := reportsCheckSpecRow.holds Try.pinned (OpenSpec.ofChange reportsCheckSpecSpec)

/-- ITS FALSE NEIGHBOUR: 'it returns false'. Refute it at one input. -/
def reportsCheckSpecWrong : ChangeSpec := { name := "reportsCheckSpec", fn := fun _ => fun
  | [d1, d2, d3, d4] => { results := [.lit (.bool false)], args := [d1, d2, d3, d4] }
  | _ => none }
def ReportsCheckSpecWrongFalsely : Prop := reportsCheckSpecRow.holds Try.pinned (OpenSpec.ofChange reportsCheckSpecWrong)

/-- 'overflightlaw22.ReportsCodeSpec': WHATEVER THE INPUT: true; the input reads as it did. -/
def reportsCodeSpecSpec : ChangeSpec := { name := "reportsCodeSpec", fn := fun _ => fun
  | [d1, d2] => { results := [.lit (.bool true)], args := [d1, d2] }
  | _ => none }
def reportsCodeSpecRow : OpenClaim := { program := "ytgdbmoggpfpkkaa", sum := "2d66dd535577982380e43c4650e5b4fc388eaa3a5b1dc06e213d3c7a365a8c85", func := "overflight/overflightlaw22.ReportsCodeSpec", spec := "reportsCodeSpec", inPlace := ["internal/bytealg.IndexByteString", "slices.overlaps[overflight/api.Report]"], unfollowed := true, recurses := true, apart := false }
def ReportsCodeSpecSaid : Prop := reportsCodeSpecRow.holds Try.pinned (OpenSpec.ofChange reportsCodeSpecSpec)

/-- ITS FALSE NEIGHBOUR: 'it returns false'. Refute it at one input. -/
def reportsCodeSpecWrong : ChangeSpec := { name := "reportsCodeSpec", fn := fun _ => fun
  | [d1, d2] => { results := [.lit (.bool false)], args := [d1, d2] }
  | _ => none }
def ReportsCodeSpecWrongFalsely : Prop := reportsCodeSpecRow.holds Try.pinned (OpenSpec.ofChange reportsCodeSpecWrong)

/-- 'overflightlaw22.ReportsAddSpec': WHATEVER THE INPUT: true; the input reads as it did. -/
def reportsAddSpecSpec : ChangeSpec := { name := "reportsAddSpec", fn := fun _ => fun
  | [d1, d2] => { results := [.lit (.bool true)], args := [d1, d2] }
  | _ => none }
def reportsAddSpecRow : OpenClaim := { program := "ytgdbmoggpfpkkaa", sum := "2d66dd535577982380e43c4650e5b4fc388eaa3a5b1dc06e213d3c7a365a8c85", func := "overflight/overflightlaw22.ReportsAddSpec", spec := "reportsAddSpec", inPlace := ["internal/bytealg.IndexByteString", "slices.overlaps[overflight/api.Report]"], unfollowed := true, recurses := true, apart := false }
def ReportsAddSpecSaid : Prop := reportsAddSpecRow.holds Try.pinned (OpenSpec.ofChange reportsAddSpecSpec)

/-- ITS FALSE NEIGHBOUR: 'it returns false'. Refute it at one input. -/
def reportsAddSpecWrong : ChangeSpec := { name := "reportsAddSpec", fn := fun _ => fun
  | [d1, d2] => { results := [.lit (.bool false)], args := [d1, d2] }
  | _ => none }
def ReportsAddSpecWrongFalsely : Prop := reportsAddSpecRow.holds Try.pinned (OpenSpec.ofChange reportsAddSpecWrong)

/-- 'overflightlaw22.ReportsArrive': WHATEVER THE INPUT: true; the input reads as it did. -/
def reportsArriveSpec : ChangeSpec := { name := "reportsArrive", fn := fun _ => fun
  | [d1, d2] => { results := [.lit (.bool true)], args := [d1, d2] }
  | _ => none }
def reportsArriveRow : OpenClaim := { program := "ytgdbmoggpfpkkaa", sum := "2d66dd535577982380e43c4650e5b4fc388eaa3a5b1dc06e213d3c7a365a8c85", func := "overflight/overflightlaw22.ReportsArrive", spec := "reportsArrive", inPlace := ["internal/bytealg.IndexByteString", "slices.overlaps[overflight/api.Report]"], unfollowed := true, recurses := true, apart := false }
def ReportsArriveSaid : Prop := reportsArriveRow.holds Try.pinned (OpenSpec.ofChange reportsArriveSpec)

/-- ITS FALSE NEIGHBOUR: 'it returns false'. Refute it at one input. -/
def reportsArriveWrong : ChangeSpec := { name := "reportsArrive", fn := fun _ => fun
  | [d1, d2] => { results := [.lit (.bool false)], args := [d1, d2] }
  | _ => none }
def ReportsArriveWrongFalsely : Prop := reportsArriveRow.holds Try.pinned (OpenSpec.ofChange reportsArriveWrong)

/-- 'overflightlaw22.ReportsKept': WHATEVER THE INPUT: true; the input reads as it did. -/
def reportsKeptSpec : ChangeSpec := { name := "reportsKept", fn := fun _ => fun
  | [d1, d2] => { results := [.lit (.bool true)], args := [d1, d2] }
  | _ => none }
def reportsKeptRow : OpenClaim := { program := "ytgdbmoggpfpkkaa", sum := "2d66dd535577982380e43c4650e5b4fc388eaa3a5b1dc06e213d3c7a365a8c85", func := "overflight/overflightlaw22.ReportsKept", spec := "reportsKept", inPlace := ["internal/bytealg.IndexByteString", "slices.overlaps[overflight/api.Report]"], unfollowed := true, recurses := true, apart := false }
def ReportsKeptSaid : Prop := reportsKeptRow.holds Try.pinned (OpenSpec.ofChange reportsKeptSpec)

/-- ITS FALSE NEIGHBOUR: 'it returns false'. Refute it at one input. -/
def reportsKeptWrong : ChangeSpec := { name := "reportsKept", fn := fun _ => fun
  | [d1, d2] => { results := [.lit (.bool false)], args := [d1, d2] }
  | _ => none }
def ReportsKeptWrongFalsely : Prop := reportsKeptRow.holds Try.pinned (OpenSpec.ofChange reportsKeptWrong)

/-- 'overflightlaw22.ReportsConflict': WHATEVER THE INPUT: true; the input reads as it did. -/
def reportsConflictSpec : ChangeSpec := { name := "reportsConflict", fn := fun _ => fun
  | [d1, d2, d3] => { results := [.lit (.bool true)], args := [d1, d2, d3] }
  | _ => none }
def reportsConflictRow : OpenClaim := { program := "ytgdbmoggpfpkkaa", sum := "2d66dd535577982380e43c4650e5b4fc388eaa3a5b1dc06e213d3c7a365a8c85", func := "overflight/overflightlaw22.ReportsConflict", spec := "reportsConflict", inPlace := ["internal/bytealg.IndexByteString", "slices.overlaps[overflight/api.Report]"], unfollowed := true, recurses := true, apart := false }
def ReportsConflictSaid : Prop := reportsConflictRow.holds Try.pinned (OpenSpec.ofChange reportsConflictSpec)

/-- ITS FALSE NEIGHBOUR: 'it returns false'. Refute it at one input. -/
def reportsConflictWrong : ChangeSpec := { name := "reportsConflict", fn := fun _ => fun
  | [d1, d2, d3] => { results := [.lit (.bool false)], args := [d1, d2, d3] }
  | _ => none }
def ReportsConflictWrongFalsely : Prop := reportsConflictRow.holds Try.pinned (OpenSpec.ofChange reportsConflictWrong)

/-- 'overflightlaw22.ReportsBack': WHATEVER THE INPUT: true; the input reads as it did. -/
def reportsBackSpec : ChangeSpec := { name := "reportsBack", fn := fun _ => fun
  | [d1, d2] => { results := [.lit (.bool true)], args := [d1, d2] }
  | _ => none }
def reportsBackRow : OpenClaim := { program := "ytgdbmoggpfpkkaa", sum := "2d66dd535577982380e43c4650e5b4fc388eaa3a5b1dc06e213d3c7a365a8c85", func := "overflight/overflightlaw22.ReportsBack", spec := "reportsBack", inPlace := ["internal/bytealg.IndexByteString", "slices.overlaps[overflight/api.Report]"], unfollowed := true, recurses := true, apart := false }
def ReportsBackSaid : Prop := reportsBackRow.holds Try.pinned (OpenSpec.ofChange reportsBackSpec)

/-- ITS FALSE NEIGHBOUR: 'it returns false'. Refute it at one input. -/
def reportsBackWrong : ChangeSpec := { name := "reportsBack", fn := fun _ => fun
  | [d1, d2] => { results := [.lit (.bool false)], args := [d1, d2] }
  | _ => none }
def ReportsBackWrongFalsely : Prop := reportsBackRow.holds Try.pinned (OpenSpec.ofChange reportsBackWrong)

/-- 'overflightlaw22.ReportsMore': WHATEVER THE INPUT: true; the input reads as it did. -/
def reportsMoreSpec : ChangeSpec := { name := "reportsMore", fn := fun _ => fun
  | [d1, d2, d3, d4, d5] => { results := [.lit (.bool true)], args := [d1, d2, d3, d4, d5] }
  | _ => none }
def reportsMoreRow : OpenClaim := { program := "ytgdbmoggpfpkkaa", sum := "2d66dd535577982380e43c4650e5b4fc388eaa3a5b1dc06e213d3c7a365a8c85", func := "overflight/overflightlaw22.ReportsMore", spec := "reportsMore", inPlace := ["internal/bytealg.IndexByteString", "slices.overlaps[overflight/api.Report]"], unfollowed := true, recurses := true, apart := false }
def ReportsMoreSaid : Prop := reportsMoreRow.holds Try.pinned (OpenSpec.ofChange reportsMoreSpec)

/-- ITS FALSE NEIGHBOUR: 'it returns false'. Refute it at one input. -/
def reportsMoreWrong : ChangeSpec := { name := "reportsMore", fn := fun _ => fun
  | [d1, d2, d3, d4, d5] => { results := [.lit (.bool false)], args := [d1, d2, d3, d4, d5] }
  | _ => none }
def ReportsMoreWrongFalsely : Prop := reportsMoreRow.holds Try.pinned (OpenSpec.ofChange reportsMoreWrong)

/- THE SECOND FORM. 'bulk': how many values and letters a reading holds, each counted each time it is reached (what is shared counts as often as it is met; a slice's spare places count too). A statement '..UptoSaid' is the law's where the arguments, and the package variables that the reading takes, are together of bulk at most 1048576: NARROWER than '..Said'. Prove '..Said' where nothing that the law and all that it calls make is longer than what came in: it says more and counts as full. Else prove '..UptoSaid'. A law counts once. -/
mutual
def uptoBulk {H : Type} : DataW H → Nat
  | .lit (.string bytes) => bytes.length + 1
  | .lit _ => 1
  | .nil => 1
  | .ptr d => uptoBulk d + 1
  | .slice elems spare => uptoBulkAll elems + uptoBulkAll spare + 1
  | .agg parts => uptoBulkAll parts + 1
  | .iface _ d => uptoBulk d + 1
  | .map entries => uptoBulkEntries entries + 1
  | .held _ => 1
def uptoBulkAll {H : Type} : List (DataW H) → Nat
  | [] => 0
  | d :: r => uptoBulk d + uptoBulkAll r
def uptoBulkEntries {H : Type} : List (Lit × DataW H) → Nat
  | [] => 0
  | x :: r => uptoBulkEntry x + uptoBulkEntries r
def uptoBulkEntry {H : Type} : Lit × DataW H → Nat
  | (.string bytes, d) => bytes.length + uptoBulk d + 1
  | (_, d) => uptoBulk d + 1
 end
def uptoSmall : (H : Type) → List (DataW H) → Bool := fun _ ds => decide (uptoBulkAll ds ≤ 1048576)
def OpenSpec.upto (s : _root_.Go.ChangeSpec) : _root_.Go.OpenSpec := { _root_.Go.OpenSpec.ofChange s with cond := some uptoSmall }

/-- 'overflightlaw22.ReportsCheckSpec', WHERE WHAT IT READS IS OF BULK AT MOST 1048576: true; the input reads as it did. -/
def reportsCheckSpecUptoRow : OpenClaim := { program := "ytgdbmoggpfpkkaa", sum := "2d66dd535577982380e43c4650e5b4fc388eaa3a5b1dc06e213d3c7a365a8c85", func := "overflight/overflightlaw22.ReportsCheckSpec", spec := "reportsCheckSpec", inPlace := ["internal/bytealg.IndexByteString", "slices.overlaps[overflight/api.Report]"], unfollowed := true, recurses := true, apart := false, narrowed := true }
def ReportsCheckSpecUptoSaid : Prop := reportsCheckSpecUptoRow.holds Try.pinned (OpenSpec.upto reportsCheckSpecSpec)

/-- 'overflightlaw22.ReportsCodeSpec', WHERE WHAT IT READS IS OF BULK AT MOST 1048576: true; the input reads as it did. -/
def reportsCodeSpecUptoRow : OpenClaim := { program := "ytgdbmoggpfpkkaa", sum := "2d66dd535577982380e43c4650e5b4fc388eaa3a5b1dc06e213d3c7a365a8c85", func := "overflight/overflightlaw22.ReportsCodeSpec", spec := "reportsCodeSpec", inPlace := ["internal/bytealg.IndexByteString", "slices.overlaps[overflight/api.Report]"], unfollowed := true, recurses := true, apart := false, narrowed := true }
def ReportsCodeSpecUptoSaid : Prop := reportsCodeSpecUptoRow.holds Try.pinned (OpenSpec.upto reportsCodeSpecSpec)

/-- 'overflightlaw22.ReportsAddSpec', WHERE WHAT IT READS IS OF BULK AT MOST 1048576: true; the input reads as it did. -/
def reportsAddSpecUptoRow : OpenClaim := { program := "ytgdbmoggpfpkkaa", sum := "2d66dd535577982380e43c4650e5b4fc388eaa3a5b1dc06e213d3c7a365a8c85", func := "overflight/overflightlaw22.ReportsAddSpec", spec := "reportsAddSpec", inPlace := ["internal/bytealg.IndexByteString", "slices.overlaps[overflight/api.Report]"], unfollowed := true, recurses := true, apart := false, narrowed := true }
def ReportsAddSpecUptoSaid : Prop := reportsAddSpecUptoRow.holds Try.pinned (OpenSpec.upto reportsAddSpecSpec)

/-- 'overflightlaw22.ReportsArrive', WHERE WHAT IT READS IS OF BULK AT MOST 1048576: true; the input reads as it did. -/
def reportsArriveUptoRow : OpenClaim := { program := "ytgdbmoggpfpkkaa", sum := "2d66dd535577982380e43c4650e5b4fc388eaa3a5b1dc06e213d3c7a365a8c85", func := "overflight/overflightlaw22.ReportsArrive", spec := "reportsArrive", inPlace := ["internal/bytealg.IndexByteString", "slices.overlaps[overflight/api.Report]"], unfollowed := true, recurses := true, apart := false, narrowed := true }
def ReportsArriveUptoSaid : Prop := reportsArriveUptoRow.holds Try.pinned (OpenSpec.upto reportsArriveSpec)

/-- 'overflightlaw22.ReportsKept', WHERE WHAT IT READS IS OF BULK AT MOST 1048576: true; the input reads as it did. -/
def reportsKeptUptoRow : OpenClaim := { program := "ytgdbmoggpfpkkaa", sum := "2d66dd535577982380e43c4650e5b4fc388eaa3a5b1dc06e213d3c7a365a8c85", func := "overflight/overflightlaw22.ReportsKept", spec := "reportsKept", inPlace := ["internal/bytealg.IndexByteString", "slices.overlaps[overflight/api.Report]"], unfollowed := true, recurses := true, apart := false, narrowed := true }
def ReportsKeptUptoSaid : Prop := reportsKeptUptoRow.holds Try.pinned (OpenSpec.upto reportsKeptSpec)

/-- 'overflightlaw22.ReportsConflict', WHERE WHAT IT READS IS OF BULK AT MOST 1048576: true; the input reads as it did. -/
def reportsConflictUptoRow : OpenClaim := { program := "ytgdbmoggpfpkkaa", sum := "2d66dd535577982380e43c4650e5b4fc388eaa3a5b1dc06e213d3c7a365a8c85", func := "overflight/overflightlaw22.ReportsConflict", spec := "reportsConflict", inPlace := ["internal/bytealg.IndexByteString", "slices.overlaps[overflight/api.Report]"], unfollowed := true, recurses := true, apart := false, narrowed := true }
def ReportsConflictUptoSaid : Prop := reportsConflictUptoRow.holds Try.pinned (OpenSpec.upto reportsConflictSpec)

/-- 'overflightlaw22.ReportsBack', WHERE WHAT IT READS IS OF BULK AT MOST 1048576: true; the input reads as it did. -/
def reportsBackUptoRow : OpenClaim := { program := "ytgdbmoggpfpkkaa", sum := "2d66dd535577982380e43c4650e5b4fc388eaa3a5b1dc06e213d3c7a365a8c85", func := "overflight/overflightlaw22.ReportsBack", spec := "reportsBack", inPlace := ["internal/bytealg.IndexByteString", "slices.overlaps[overflight/api.Report]"], unfollowed := true, recurses := true, apart := false, narrowed := true }
def ReportsBackUptoSaid : Prop := reportsBackUptoRow.holds Try.pinned (OpenSpec.upto reportsBackSpec)

/-- 'overflightlaw22.ReportsMore', WHERE WHAT IT READS IS OF BULK AT MOST 1048576: true; the input reads as it did. -/
def reportsMoreUptoRow : OpenClaim := { program := "ytgdbmoggpfpkkaa", sum := "2d66dd535577982380e43c4650e5b4fc388eaa3a5b1dc06e213d3c7a365a8c85", func := "overflight/overflightlaw22.ReportsMore", spec := "reportsMore", inPlace := ["internal/bytealg.IndexByteString", "slices.overlaps[overflight/api.Report]"], unfollowed := true, recurses := true, apart := false, narrowed := true }
def ReportsMoreUptoSaid : Prop := reportsMoreUptoRow.holds Try.pinned (OpenSpec.upto reportsMoreSpec)

end Rows
end Go.Proofs.Ytgdbmoggpfpkkaa
