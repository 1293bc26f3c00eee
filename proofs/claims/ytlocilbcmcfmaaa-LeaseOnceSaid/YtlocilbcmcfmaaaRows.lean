/-
  No cell of these rows narrows 'for every input' (looked for: loops, veiled, ifaces, maps, wideKeys, modest, calm, conditions, laid).
  DERIVED. THE GIVEN ROWS OF THIS SEAT. 4 by the template 'for every input the law returns true; each argument reads behind the call as it read before'; 0 by the template 'total and deterministic' (their statements: YtlocilbcmcfmaaaTotals.lean).
  GIVEN WITH THE SEED: the statements are not yours to turn. If you find one false, say at which input.
  Laid BY PROGRAM, IN A SANDBOX (cutbox-rows.mjs): the forced cells as the released guide's own fill.sh prints them over the translation ab7d0d364a26db06… (all of the seat's roots in one cut). By AI agents, Wed Nov 11 2026. No macro, syntax, notation, axiom, sorry.
-/
import Derived.Test.YtlocilbcmcfmaaaChecked
import GoSem.Claim
import GoSem.ClaimJoined
import GoSem.ClaimMapViews
import Derived.JoinedTies
import Derived.KernelRfl
namespace Go.Proofs.Ytlocilbcmcfmaaa
/- THE CELL 'sum', in the pinned program and in every row, IS THE sha256 OF THE DUMP (.gsa) THAT YtlocilbcmcfmaaaProg.lean LOADS. Nothing in Lean hashes anything: it is a label: what it is worth is what the hold of that sum in a sandbox is worth. -/
noncomputable def Try.pinned : Pinned := { name := "ytlocilbcmcfmaaa", sum := "ab7d0d364a26db06a2cc7061b98dd1c7207744bc816106cf049be6005f6b2c4e", checked := Try.checked }
namespace Rows
def none {H : Type} : Left H := { results := [], args := [] }

/-- 'overflightlaw35.LeaseOnce': WHATEVER THE INPUT: true; the input reads as it did. -/
def leaseOnceSpec : ChangeSpec := { name := "leaseOnce", fn := fun _ => fun
  | [d] => { results := [.lit (.bool true)], args := [d] }
  | _ => none }
def leaseOnceRow : OpenClaim := { program := "ytlocilbcmcfmaaa", sum := "ab7d0d364a26db06a2cc7061b98dd1c7207744bc816106cf049be6005f6b2c4e", func := "overflight/overflightlaw35.LeaseOnce", spec := "leaseOnce", inPlace := ["slices.overlaps[overflight/api.Lease]"], unfollowed := true, recurses := true, apart := false }
def LeaseOnceSaid : Prop := leaseOnceRow.holds Try.pinned (OpenSpec.ofChange leaseOnceSpec)

/-- ITS FALSE NEIGHBOUR: 'it returns false'. Refute it at one input. -/
def leaseOnceWrong : ChangeSpec := { name := "leaseOnce", fn := fun _ => fun
  | [d] => { results := [.lit (.bool false)], args := [d] }
  | _ => none }
def LeaseOnceWrongFalsely : Prop := leaseOnceRow.holds Try.pinned (OpenSpec.ofChange leaseOnceWrong)

/-- 'overflightlaw35.LeaseFenced': WHATEVER THE INPUT: true; the input reads as it did. -/
def leaseFencedSpec : ChangeSpec := { name := "leaseFenced", fn := fun _ => fun
  | [d1, d2, d3, d4, d5, d6] => { results := [.lit (.bool true)], args := [d1, d2, d3, d4, d5, d6] }
  | _ => none }
def leaseFencedRow : OpenClaim := { program := "ytlocilbcmcfmaaa", sum := "ab7d0d364a26db06a2cc7061b98dd1c7207744bc816106cf049be6005f6b2c4e", func := "overflight/overflightlaw35.LeaseFenced", spec := "leaseFenced", inPlace := ["slices.overlaps[overflight/api.Lease]"], unfollowed := true, recurses := true, apart := false }
def LeaseFencedSaid : Prop := leaseFencedRow.holds Try.pinned (OpenSpec.ofChange leaseFencedSpec)

/-- ITS FALSE NEIGHBOUR: 'it returns false'. Refute it at one input. -/
def leaseFencedWrong : ChangeSpec := { name := "leaseFenced", fn := fun _ => fun
  | [d1, d2, d3, d4, d5, d6] => { results := [.lit (.bool false)], args := [d1, d2, d3, d4, d5, d6] }
  | _ => none }
def LeaseFencedWrongFalsely : Prop := leaseFencedRow.holds Try.pinned (OpenSpec.ofChange leaseFencedWrong)

/-- 'overflightlaw35.LeaseTokens': WHATEVER THE INPUT: true; the input reads as it did. -/
def leaseTokensSpec : ChangeSpec := { name := "leaseTokens", fn := fun _ => fun
  | [d] => { results := [.lit (.bool true)], args := [d] }
  | _ => none }
def leaseTokensRow : OpenClaim := { program := "ytlocilbcmcfmaaa", sum := "ab7d0d364a26db06a2cc7061b98dd1c7207744bc816106cf049be6005f6b2c4e", func := "overflight/overflightlaw35.LeaseTokens", spec := "leaseTokens", inPlace := ["slices.overlaps[overflight/api.Lease]"], unfollowed := true, recurses := true, apart := false }
def LeaseTokensSaid : Prop := leaseTokensRow.holds Try.pinned (OpenSpec.ofChange leaseTokensSpec)

/-- ITS FALSE NEIGHBOUR: 'it returns false'. Refute it at one input. -/
def leaseTokensWrong : ChangeSpec := { name := "leaseTokens", fn := fun _ => fun
  | [d] => { results := [.lit (.bool false)], args := [d] }
  | _ => none }
def LeaseTokensWrongFalsely : Prop := leaseTokensRow.holds Try.pinned (OpenSpec.ofChange leaseTokensWrong)

/-- 'overflightlaw35.LeaseOthers': WHATEVER THE INPUT: true; the input reads as it did. -/
def leaseOthersSpec : ChangeSpec := { name := "leaseOthers", fn := fun _ => fun
  | [d1, d2, d3] => { results := [.lit (.bool true)], args := [d1, d2, d3] }
  | _ => none }
def leaseOthersRow : OpenClaim := { program := "ytlocilbcmcfmaaa", sum := "ab7d0d364a26db06a2cc7061b98dd1c7207744bc816106cf049be6005f6b2c4e", func := "overflight/overflightlaw35.LeaseOthers", spec := "leaseOthers", inPlace := ["slices.overlaps[overflight/api.Lease]"], unfollowed := true, recurses := true, apart := false }
def LeaseOthersSaid : Prop := leaseOthersRow.holds Try.pinned (OpenSpec.ofChange leaseOthersSpec)

/-- ITS FALSE NEIGHBOUR: 'it returns false'. Refute it at one input. -/
def leaseOthersWrong : ChangeSpec := { name := "leaseOthers", fn := fun _ => fun
  | [d1, d2, d3] => { results := [.lit (.bool false)], args := [d1, d2, d3] }
  | _ => none }
def LeaseOthersWrongFalsely : Prop := leaseOthersRow.holds Try.pinned (OpenSpec.ofChange leaseOthersWrong)

/- THE SECOND FORM. 'bulk': how many values and letters a reading holds, each counted each time it is reached (what is shared counts as often as it is met; a slice's spare places count too). A statement '..UptoSaid' is the law's where the arguments, and the package variables that the reading takes, are together of bulk at most 1048576: NARROWER than '..Said'. Prove '..Said' where nothing that the law and all that it calls make is longer than what came in: it says more and counts as full. Else prove '..UptoSaid'. A law counts once. -/
mutual
def uptoBulk {H : Type} : DataW H → Nat
  | .lit (.string bytes) => bytes.length + 1
  | .lit _ => 1
  | .nil => 1
  | .ptr d => uptoBulk d + 1
  | .slice elems spare => uptoBulkAll elems + uptoBulkAll spare + 1
  | .agg parts => uptoBulkAll parts + 1
  | .iface _ d => uptoBulk d + 1
  | .map entries => uptoBulkEntries entries + 1
  | .held _ => 1
def uptoBulkAll {H : Type} : List (DataW H) → Nat
  | [] => 0
  | d :: r => uptoBulk d + uptoBulkAll r
def uptoBulkEntries {H : Type} : List (Lit × DataW H) → Nat
  | [] => 0
  | x :: r => uptoBulkEntry x + uptoBulkEntries r
def uptoBulkEntry {H : Type} : Lit × DataW H → Nat
  | (.string bytes, d) => bytes.length + uptoBulk d + 1
  | (_, d) => uptoBulk d + 1
 end
def uptoSmall : (H : Type) → List (DataW H) → Bool := fun _ ds => decide (uptoBulkAll ds ≤ 1048576)
def OpenSpec.upto (s : _root_.Go.ChangeSpec) : _root_.Go.OpenSpec := { _root_.Go.OpenSpec.ofChange s with cond := some uptoSmall }

/-- 'overflightlaw35.LeaseOnce', WHERE WHAT IT READS IS OF BULK AT MOST 1048576: true; the input reads as it did. -/
def leaseOnceUptoRow : OpenClaim := { program := "ytlocilbcmcfmaaa", sum := "ab7d0d364a26db06a2cc7061b98dd1c7207744bc816106cf049be6005f6b2c4e", func := "overflight/overflightlaw35.LeaseOnce", spec := "leaseOnce", inPlace := ["slices.overlaps[overflight/api.Lease]"], unfollowed := true, recurses := true, apart := false, narrowed := true }
def LeaseOnceUptoSaid : Prop := leaseOnceUptoRow.holds Try.pinned (OpenSpec.upto leaseOnceSpec)

/-- 'overflightlaw35.LeaseFenced', WHERE WHAT IT READS IS OF BULK AT MOST 1048576: true; the input reads as it did. -/
def leaseFencedUptoRow : OpenClaim := { program := "ytlocilbcmcfmaaa", sum := "ab7d0d364a26db06a2cc7061b98dd1c7207744bc816106cf049be6005f6b2c4e", func := "overflight/overflightlaw35.LeaseFenced", spec := "leaseFenced", inPlace := ["slices.overlaps[overflight/api.Lease]"], unfollowed := true, recurses := true, apart := false, narrowed := true }
def LeaseFencedUptoSaid : Prop := leaseFencedUptoRow.holds Try.pinned (OpenSpec.upto leaseFencedSpec)

/-- 'overflightlaw35.LeaseTokens', WHERE WHAT IT READS IS OF BULK AT MOST 1048576: true; the input reads as it did. -/
def leaseTokensUptoRow : OpenClaim := { program := "ytlocilbcmcfmaaa", sum := "ab7d0d364a26db06a2cc7061b98dd1c7207744bc816106cf049be6005f6b2c4e", func := "overflight/overflightlaw35.LeaseTokens", spec := "leaseTokens", inPlace := ["slices.overlaps[overflight/api.Lease]"], unfollowed := true, recurses := true, apart := false, narrowed := true }
def LeaseTokensUptoSaid : Prop := leaseTokensUptoRow.holds Try.pinned (OpenSpec.upto leaseTokensSpec)

/-- 'overflightlaw35.LeaseOthers', WHERE WHAT IT READS IS OF BULK AT MOST 1048576: true; the input reads as it did. -/
def leaseOthersUptoRow : OpenClaim := { program := "ytlocilbcmcfmaaa", sum := "ab7d0d364a26db06a2cc7061b98dd1c7207744bc816106cf049be6005f6b2c4e", func := "overflight/overflightlaw35.LeaseOthers", spec := "leaseOthers", inPlace := ["slices.overlaps[overflight/api.Lease]"], unfollowed := true, recurses := true, apart := false, narrowed := true }
def LeaseOthersUptoSaid : Prop := leaseOthersUptoRow.holds Try.pinned (OpenSpec.upto leaseOthersSpec)

end Rows
end Go.Proofs.Ytlocilbcmcfmaaa
