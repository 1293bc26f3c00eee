/-
  No cell of these rows narrows 'for every input' (looked for: loops, veiled, ifaces, maps, wideKeys, modest, calm, conditions, laid).
  DERIVED. THE GIVEN ROWS OF THIS SEAT. 4 by the template 'for every input the law returns true; each argument reads behind the call as it read before'; 0 by the template 'total and deterministic' (their statements: YtglojhkdabngdaaTotals.lean).
  GIVEN WITH THE SEED: the statements are not yours to turn. If you find one false, say at which input.
  Laid BY PROGRAM, IN A SANDBOX (cutbox-rows.mjs): the forced cells as the released guide's own fill.sh prints them over the translation eb0152ea750795e9… (all of the seat's roots in one cut). By AI agents, Wed Nov 11 2026. No macro, syntax, notation, axiom, sorry.
-/
import Derived.Test.YtglojhkdabngdaaChecked
import GoSem.Claim
import GoSem.ClaimJoined
import GoSem.ClaimMapViews
import Derived.JoinedTies
import Derived.KernelRfl
namespace Go.Proofs.Ytglojhkdabngdaa
/- THE CELL 'sum', in the pinned program and in every row, IS THE sha256 OF THE DUMP (.gsa) THAT YtglojhkdabngdaaProg.lean LOADS. Nothing in Lean hashes anything: it is a label: what it is worth is what the hold of that sum in a sandbox is worth. -/
noncomputable def Try.pinned : Pinned := { name := "ytglojhkdabngdaa", sum := "eb0152ea750795e9d5768a022a6425837d51f584629aae40e68e8a651a4e386c", checked := Try.checked }
namespace Rows
def none {H : Type} : Left H := { results := [], args := [] }

/-- 'overflightlaw03.GroupAxioms': WHATEVER THE INPUT: true; the input reads as it did. -/
def groupAxiomsSpec : ChangeSpec := { name := "groupAxioms", fn := fun _ => fun
  | [d1, d2, d3] => { results := [.lit (.bool true)], args := [d1, d2, d3] }
  | _ => none }
def groupAxiomsRow : OpenClaim := { program := "ytglojhkdabngdaa", sum := "eb0152ea750795e9d5768a022a6425837d51f584629aae40e68e8a651a4e386c", func := "overflight/overflightlaw03.GroupAxioms", spec := "groupAxioms", unfollowed := true, recurses := true, named := ["math/bits.divideError", "math/bits.overflowError"], apart := false }
def GroupAxiomsSaid : Prop := groupAxiomsRow.holds Try.pinned (OpenSpec.ofChange groupAxiomsSpec)

/-- ITS FALSE NEIGHBOUR: 'it returns false'. Refute it at one input. -/
def groupAxiomsWrong : ChangeSpec := { name := "groupAxioms", fn := fun _ => fun
  | [d1, d2, d3] => { results := [.lit (.bool false)], args := [d1, d2, d3] }
  | _ => none }
def GroupAxiomsWrongFalsely : Prop := groupAxiomsRow.holds Try.pinned (OpenSpec.ofChange groupAxiomsWrong)

/-- 'overflightlaw03.GroupPowers': WHATEVER THE INPUT: true; the input reads as it did. -/
def groupPowersSpec : ChangeSpec := { name := "groupPowers", fn := fun _ => fun
  | [d1, d2, d3] => { results := [.lit (.bool true)], args := [d1, d2, d3] }
  | _ => none }
def groupPowersRow : OpenClaim := { program := "ytglojhkdabngdaa", sum := "eb0152ea750795e9d5768a022a6425837d51f584629aae40e68e8a651a4e386c", func := "overflight/overflightlaw03.GroupPowers", spec := "groupPowers", unfollowed := true, recurses := true, named := ["math/bits.divideError", "math/bits.overflowError"], apart := false }
def GroupPowersSaid : Prop := groupPowersRow.holds Try.pinned (OpenSpec.ofChange groupPowersSpec)

/-- ITS FALSE NEIGHBOUR: 'it returns false'. Refute it at one input. -/
def groupPowersWrong : ChangeSpec := { name := "groupPowers", fn := fun _ => fun
  | [d1, d2, d3] => { results := [.lit (.bool false)], args := [d1, d2, d3] }
  | _ => none }
def GroupPowersWrongFalsely : Prop := groupPowersRow.holds Try.pinned (OpenSpec.ofChange groupPowersWrong)

/-- 'overflightlaw03.GroupRing': WHATEVER THE INPUT: true; the input reads as it did. -/
def groupRingSpec : ChangeSpec := { name := "groupRing", fn := fun _ => fun
  | [d1, d2, d3] => { results := [.lit (.bool true)], args := [d1, d2, d3] }
  | _ => none }
def groupRingRow : OpenClaim := { program := "ytglojhkdabngdaa", sum := "eb0152ea750795e9d5768a022a6425837d51f584629aae40e68e8a651a4e386c", func := "overflight/overflightlaw03.GroupRing", spec := "groupRing", unfollowed := true, recurses := true, named := ["math/bits.divideError", "math/bits.overflowError"], apart := false }
def GroupRingSaid : Prop := groupRingRow.holds Try.pinned (OpenSpec.ofChange groupRingSpec)

/-- ITS FALSE NEIGHBOUR: 'it returns false'. Refute it at one input. -/
def groupRingWrong : ChangeSpec := { name := "groupRing", fn := fun _ => fun
  | [d1, d2, d3] => { results := [.lit (.bool false)], args := [d1, d2, d3] }
  | _ => none }
def GroupRingWrongFalsely : Prop := groupRingRow.holds Try.pinned (OpenSpec.ofChange groupRingWrong)

/-- 'overflightlaw03.GroupHalves': WHATEVER THE INPUT: true; the input reads as it did. -/
def groupHalvesSpec : ChangeSpec := { name := "groupHalves", fn := fun _ => fun
  | [d] => { results := [.lit (.bool true)], args := [d] }
  | _ => none }
def groupHalvesRow : OpenClaim := { program := "ytglojhkdabngdaa", sum := "eb0152ea750795e9d5768a022a6425837d51f584629aae40e68e8a651a4e386c", func := "overflight/overflightlaw03.GroupHalves", spec := "groupHalves", unfollowed := true, recurses := true, named := ["math/bits.divideError", "math/bits.overflowError"], apart := false }
def GroupHalvesSaid : Prop := groupHalvesRow.holds Try.pinned (OpenSpec.ofChange groupHalvesSpec)

/-- ITS FALSE NEIGHBOUR: 'it returns false'. Refute it at one input. -/
def groupHalvesWrong : ChangeSpec := { name := "groupHalves", fn := fun _ => fun
  | [d] => { results := [.lit (.bool false)], args := [d] }
  | _ => none }
def GroupHalvesWrongFalsely : Prop := groupHalvesRow.holds Try.pinned (OpenSpec.ofChange groupHalvesWrong)

/- THE SECOND FORM. 'bulk': how many values and letters a reading holds, each counted each time it is reached (what is shared counts as often as it is met; a slice's spare places count too). A statement '..UptoSaid' is the law's where the arguments, and the package variables that the reading takes, are together of bulk at most 1048576: NARROWER than '..Said'. Prove '..Said' where nothing that the law and all that it calls make is longer than what came in: it says more and counts as full. Else prove '..UptoSaid'. A law counts once. -/
mutual
def uptoBulk {H : Type} : DataW H → Nat
  | .lit (.string bytes) => bytes.length + 1
  | .lit _ => 1
  | .nil => 1
  | .ptr d => uptoBulk d + 1
  | .slice elems spare => uptoBulkAll elems + uptoBulkAll spare + 1
  | .agg parts => uptoBulkAll parts + 1
  | .iface _ d => uptoBulk d + 1
  | .map entries => uptoBulkEntries entries + 1
  | .held _ => 1
def uptoBulkAll {H : Type} : List (DataW H) → Nat
  | [] => 0
  | d :: r => uptoBulk d + uptoBulkAll r
def uptoBulkEntries {H : Type} : List (Lit × DataW H) → Nat
  | [] => 0
  | x :: r => uptoBulkEntry x + uptoBulkEntries r
def uptoBulkEntry {H : Type} : Lit × DataW H → Nat
  | (.string bytes, d) => bytes.length + uptoBulk d + 1
  | (_, d) => uptoBulk d + 1
 end
def uptoSmall : (H : Type) → List (DataW H) → Bool := fun _ ds => decide (uptoBulkAll ds ≤ 1048576)
def OpenSpec.upto (s : _root_.Go.ChangeSpec) : _root_.Go.OpenSpec := { _root_.Go.OpenSpec.ofChange s with cond := some uptoSmall }

/-- 'overflightlaw03.GroupAxioms', WHERE WHAT IT READS IS OF BULK AT MOST 1048576: true; the input reads as it did. -/
def groupAxiomsUptoRow : OpenClaim := { program := "ytglojhkdabngdaa", sum := "eb0152ea750795e9d5768a022a6425837d51f584629aae40e68e8a651a4e386c", func := "overflight/overflightlaw03.GroupAxioms", spec := "groupAxioms", unfollowed := true, recurses := true, named := ["math/bits.divideError", "math/bits.overflowError"], apart := false, narrowed := true }
def GroupAxiomsUptoSaid : Prop := groupAxiomsUptoRow.holds Try.pinned (OpenSpec.upto groupAxiomsSpec)

/-- 'overflightlaw03.GroupPowers', WHERE WHAT IT READS IS OF BULK AT MOST 1048576: true; the input reads as it did. -/
def groupPowersUptoRow : OpenClaim := { program := "ytglojhkdabngdaa", sum := "eb0152ea750795e9d5768a022a6425837d51f584629aae40e68e8a651a4e386c", func := "overflight/overflightlaw03.GroupPowers", spec := "groupPowers", unfollowed := true, recurses := true, named := ["math/bits.divideError", "math/bits.overflowError"], apart := false, narrowed := true }
def GroupPowersUptoSaid : Prop := groupPowersUptoRow.holds Try.pinned (OpenSpec.upto groupPowersSpec)

/-- 'overflightlaw03.GroupRing', WHERE WHAT IT READS IS OF BULK AT MOST 1048576: true; the input reads as it did. -/
def groupRingUptoRow : OpenClaim := { program := "ytglojhkdabngdaa", sum := "eb0152ea750795e9d5768a022a6425837d51f584629aae40e68e8a651a4e386c", func := "overflight/overflightlaw03.GroupRing", spec := "groupRing", unfollowed := true, recurses := true, named := ["math/bits.divideError", "math/bits.overflowError"], apart := false, narrowed := true }
def GroupRingUptoSaid : Prop := groupRingUptoRow.holds Try.pinned (OpenSpec.upto groupRingSpec)

/-- 'overflightlaw03.GroupHalves', WHERE WHAT IT READS IS OF BULK AT MOST 1048576: true; the input reads as it did. -/
def groupHalvesUptoRow : OpenClaim := { program := "ytglojhkdabngdaa", sum := "eb0152ea750795e9d5768a022a6425837d51f584629aae40e68e8a651a4e386c", func := "overflight/overflightlaw03.GroupHalves", spec := "groupHalves", unfollowed := true, recurses := true, named := ["math/bits.divideError", "math/bits.overflowError"], apart := false, narrowed := true }
def GroupHalvesUptoSaid : Prop := groupHalvesUptoRow.holds Try.pinned (OpenSpec.upto groupHalvesSpec)

end Rows
end Go.Proofs.Ytglojhkdabngdaa
