/-
  NARROWER THAN 'FOR EVERY INPUT', by the rows' own cells (each row's printed sentence says how): SignPublicSpec: laid · SignPrivateSpec: laid · SignVerifySpec: laid · SignVerifies: laid · SignEquation: laid · SignOnly: laid · SignNonce: laid · SignDifference: laid.
  DERIVED. THE GIVEN ROWS OF THIS SEAT. 8 by the template 'for every input the law returns true; each argument reads behind the call as it read before'; 0 by the template 'total and deterministic' (their statements: YtmhmenmkgbebcaaDoorTotals.lean).
  GIVEN WITH THE SEED: the statements are not yours to turn. If you find one false, say at which input.
  Laid BY PROGRAM, IN A SANDBOX (cutbox-rows.mjs): the forced cells as the released guide's own fill.sh prints them over the translation a2a74e97f33a5e42… (all of the seat's roots in one cut). By AI agents, Wed Nov 11 2026. No macro, syntax, notation, axiom, sorry.
-/
import Derived.Test.YtmhmenmkgbebcaaDoorChecked
import GoSem.Claim
import GoSem.ClaimJoined
import GoSem.ClaimMapViews
import Derived.JoinedTies
import Derived.KernelRfl
namespace Go.Proofs.YtmhmenmkgbebcaaDoor
/- THE CELL 'sum', in the pinned program and in every row, IS THE sha256 OF THE DUMP (.gsa) THAT YtmhmenmkgbebcaaDoorProg.lean LOADS. Nothing in Lean hashes anything: it is a label: what it is worth is what the hold of that sum in a sandbox is worth. -/
noncomputable def Tryd.pinned : Pinned := { name := "ytmhmenmkgbebcaadoor", sum := "a2a74e97f33a5e4207649154141b6cc9b536c0a2dfb0d5d58b4ddd3c311b0994", checked := Tryd.checked }
namespace Rows
def none {H : Type} : Left H := { results := [], args := [] }

/- WHAT THE LISTED PACKAGE-LEVEL VARIABLES READ AS WHEN THE CALL BEGINS. Each datum BY PROGRAM (the guide's laid-datum.mjs) off the statement by which the dump's own 'gosem.cut.vars' lays the variable. In a bare row this is a premise. The card (YtmhmenmkgbebcaaDoorCards.lean) ties it to the program's text. -/
def laid_overflight_digest_start {H : Type} : DataW H := .agg [.lit (.int .u32 1779033703), .lit (.int .u32 3144134277), .lit (.int .u32 1013904242), .lit (.int .u32 2773480762), .lit (.int .u32 1359893119), .lit (.int .u32 2600822924), .lit (.int .u32 528734635), .lit (.int .u32 1541459225)]
def laid_overflight_digest_numbers {H : Type} : DataW H := .agg [.lit (.int .u32 1116352408), .lit (.int .u32 1899447441), .lit (.int .u32 3049323471), .lit (.int .u32 3921009573), .lit (.int .u32 961987163), .lit (.int .u32 1508970993), .lit (.int .u32 2453635748), .lit (.int .u32 2870763221), .lit (.int .u32 3624381080), .lit (.int .u32 310598401), .lit (.int .u32 607225278), .lit (.int .u32 1426881987), .lit (.int .u32 1925078388), .lit (.int .u32 2162078206), .lit (.int .u32 2614888103), .lit (.int .u32 3248222580), .lit (.int .u32 3835390401), .lit (.int .u32 4022224774), .lit (.int .u32 264347078), .lit (.int .u32 604807628), .lit (.int .u32 770255983), .lit (.int .u32 1249150122), .lit (.int .u32 1555081692), .lit (.int .u32 1996064986), .lit (.int .u32 2554220882), .lit (.int .u32 2821834349), .lit (.int .u32 2952996808), .lit (.int .u32 3210313671), .lit (.int .u32 3336571891), .lit (.int .u32 3584528711), .lit (.int .u32 113926993), .lit (.int .u32 338241895), .lit (.int .u32 666307205), .lit (.int .u32 773529912), .lit (.int .u32 1294757372), .lit (.int .u32 1396182291), .lit (.int .u32 1695183700), .lit (.int .u32 1986661051), .lit (.int .u32 2177026350), .lit (.int .u32 2456956037), .lit (.int .u32 2730485921), .lit (.int .u32 2820302411), .lit (.int .u32 3259730800), .lit (.int .u32 3345764771), .lit (.int .u32 3516065817), .lit (.int .u32 3600352804), .lit (.int .u32 4094571909), .lit (.int .u32 275423344), .lit (.int .u32 430227734), .lit (.int .u32 506948616), .lit (.int .u32 659060556), .lit (.int .u32 883997877), .lit (.int .u32 958139571), .lit (.int .u32 1322822218), .lit (.int .u32 1537002063), .lit (.int .u32 1747873779), .lit (.int .u32 1955562222), .lit (.int .u32 2024104815), .lit (.int .u32 2227730452), .lit (.int .u32 2361852424), .lit (.int .u32 2428436474), .lit (.int .u32 2756734187), .lit (.int .u32 3204031479), .lit (.int .u32 3329325298)]

/-- 'overflightlaw04.SignPublicSpec': WHATEVER THE INPUT: true; the input reads as it did. -/
def signPublicSpecSpec : ChangeSpec := { name := "signPublicSpec", fn := fun _ => fun
  | [d1, d2] => { results := [.lit (.bool true)], args := [d1, d2] }
  | _ => none }
def signPublicSpecRow : OpenClaim := { program := "ytmhmenmkgbebcaadoor", sum := "a2a74e97f33a5e4207649154141b6cc9b536c0a2dfb0d5d58b4ddd3c311b0994", func := "overflight/overflightlaw04.SignPublicSpec", spec := "signPublicSpec", unfollowed := true, recurses := true, named := ["math/bits.divideError", "math/bits.overflowError", "overflight/digest.start", "overflight/digest.numbers"], apart := false, laid := [("overflight/digest.start", laid_overflight_digest_start), ("overflight/digest.numbers", laid_overflight_digest_numbers)] }
def SignPublicSpecSaid : Prop := signPublicSpecRow.holds Tryd.pinned (OpenSpec.ofChange signPublicSpecSpec)

/-- ITS FALSE NEIGHBOUR: 'it returns false'. Refute it at one input. -/
def signPublicSpecWrong : ChangeSpec := { name := "signPublicSpec", fn := fun _ => fun
  | [d1, d2] => { results := [.lit (.bool false)], args := [d1, d2] }
  | _ => none }
def SignPublicSpecWrongFalsely : Prop := signPublicSpecRow.holds Tryd.pinned (OpenSpec.ofChange signPublicSpecWrong)

/-- 'overflightlaw04.SignPrivateSpec': WHATEVER THE INPUT: true; the input reads as it did. -/
def signPrivateSpecSpec : ChangeSpec := { name := "signPrivateSpec", fn := fun _ => fun
  | [d1, d2, d3] => { results := [.lit (.bool true)], args := [d1, d2, d3] }
  | _ => none }
def signPrivateSpecRow : OpenClaim := { program := "ytmhmenmkgbebcaadoor", sum := "a2a74e97f33a5e4207649154141b6cc9b536c0a2dfb0d5d58b4ddd3c311b0994", func := "overflight/overflightlaw04.SignPrivateSpec", spec := "signPrivateSpec", unfollowed := true, recurses := true, named := ["math/bits.divideError", "math/bits.overflowError", "overflight/digest.start", "overflight/digest.numbers"], apart := false, laid := [("overflight/digest.start", laid_overflight_digest_start), ("overflight/digest.numbers", laid_overflight_digest_numbers)] }
def SignPrivateSpecSaid : Prop := signPrivateSpecRow.holds Tryd.pinned (OpenSpec.ofChange signPrivateSpecSpec)

/-- ITS FALSE NEIGHBOUR: 'it returns false'. Refute it at one input. -/
def signPrivateSpecWrong : ChangeSpec := { name := "signPrivateSpec", fn := fun _ => fun
  | [d1, d2, d3] => { results := [.lit (.bool false)], args := [d1, d2, d3] }
  | _ => none }
def SignPrivateSpecWrongFalsely : Prop := signPrivateSpecRow.holds Tryd.pinned (OpenSpec.ofChange signPrivateSpecWrong)

/-- 'overflightlaw04.SignVerifySpec': WHATEVER THE INPUT: true; the input reads as it did. -/
def signVerifySpecSpec : ChangeSpec := { name := "signVerifySpec", fn := fun _ => fun
  | [d1, d2, d3] => { results := [.lit (.bool true)], args := [d1, d2, d3] }
  | _ => none }
def signVerifySpecRow : OpenClaim := { program := "ytmhmenmkgbebcaadoor", sum := "a2a74e97f33a5e4207649154141b6cc9b536c0a2dfb0d5d58b4ddd3c311b0994", func := "overflight/overflightlaw04.SignVerifySpec", spec := "signVerifySpec", unfollowed := true, recurses := true, named := ["math/bits.divideError", "math/bits.overflowError", "overflight/digest.start", "overflight/digest.numbers"], apart := false, laid := [("overflight/digest.start", laid_overflight_digest_start), ("overflight/digest.numbers", laid_overflight_digest_numbers)] }
def SignVerifySpecSaid : Prop := signVerifySpecRow.holds Tryd.pinned (OpenSpec.ofChange signVerifySpecSpec)

/-- ITS FALSE NEIGHBOUR: 'it returns false'. Refute it at one input. -/
def signVerifySpecWrong : ChangeSpec := { name := "signVerifySpec", fn := fun _ => fun
  | [d1, d2, d3] => { results := [.lit (.bool false)], args := [d1, d2, d3] }
  | _ => none }
def SignVerifySpecWrongFalsely : Prop := signVerifySpecRow.holds Tryd.pinned (OpenSpec.ofChange signVerifySpecWrong)

/-- 'overflightlaw04.SignVerifies': WHATEVER THE INPUT: true; the input reads as it did. -/
def signVerifiesSpec : ChangeSpec := { name := "signVerifies", fn := fun _ => fun
  | [d1, d2] => { results := [.lit (.bool true)], args := [d1, d2] }
  | _ => none }
def signVerifiesRow : OpenClaim := { program := "ytmhmenmkgbebcaadoor", sum := "a2a74e97f33a5e4207649154141b6cc9b536c0a2dfb0d5d58b4ddd3c311b0994", func := "overflight/overflightlaw04.SignVerifies", spec := "signVerifies", unfollowed := true, recurses := true, named := ["math/bits.divideError", "math/bits.overflowError", "overflight/digest.start", "overflight/digest.numbers"], apart := false, laid := [("overflight/digest.start", laid_overflight_digest_start), ("overflight/digest.numbers", laid_overflight_digest_numbers)] }
def SignVerifiesSaid : Prop := signVerifiesRow.holds Tryd.pinned (OpenSpec.ofChange signVerifiesSpec)

/-- ITS FALSE NEIGHBOUR: 'it returns false'. Refute it at one input. -/
def signVerifiesWrong : ChangeSpec := { name := "signVerifies", fn := fun _ => fun
  | [d1, d2] => { results := [.lit (.bool false)], args := [d1, d2] }
  | _ => none }
def SignVerifiesWrongFalsely : Prop := signVerifiesRow.holds Tryd.pinned (OpenSpec.ofChange signVerifiesWrong)

/-- 'overflightlaw04.SignEquation': WHATEVER THE INPUT: true; the input reads as it did. -/
def signEquationSpec : ChangeSpec := { name := "signEquation", fn := fun _ => fun
  | [d1, d2, d3] => { results := [.lit (.bool true)], args := [d1, d2, d3] }
  | _ => none }
def signEquationRow : OpenClaim := { program := "ytmhmenmkgbebcaadoor", sum := "a2a74e97f33a5e4207649154141b6cc9b536c0a2dfb0d5d58b4ddd3c311b0994", func := "overflight/overflightlaw04.SignEquation", spec := "signEquation", unfollowed := true, recurses := true, named := ["math/bits.divideError", "math/bits.overflowError", "overflight/digest.start", "overflight/digest.numbers"], apart := false, laid := [("overflight/digest.start", laid_overflight_digest_start), ("overflight/digest.numbers", laid_overflight_digest_numbers)] }
def SignEquationSaid : Prop := signEquationRow.holds Tryd.pinned (OpenSpec.ofChange signEquationSpec)

/-- ITS FALSE NEIGHBOUR: 'it returns false'. Refute it at one input. -/
def signEquationWrong : ChangeSpec := { name := "signEquation", fn := fun _ => fun
  | [d1, d2, d3] => { results := [.lit (.bool false)], args := [d1, d2, d3] }
  | _ => none }
def SignEquationWrongFalsely : Prop := signEquationRow.holds Tryd.pinned (OpenSpec.ofChange signEquationWrong)

/-- 'overflightlaw04.SignOnly': WHATEVER THE INPUT: true; the input reads as it did. -/
def signOnlySpec : ChangeSpec := { name := "signOnly", fn := fun _ => fun
  | [d1, d2, d3] => { results := [.lit (.bool true)], args := [d1, d2, d3] }
  | _ => none }
def signOnlyRow : OpenClaim := { program := "ytmhmenmkgbebcaadoor", sum := "a2a74e97f33a5e4207649154141b6cc9b536c0a2dfb0d5d58b4ddd3c311b0994", func := "overflight/overflightlaw04.SignOnly", spec := "signOnly", unfollowed := true, recurses := true, named := ["math/bits.divideError", "math/bits.overflowError", "overflight/digest.start", "overflight/digest.numbers"], apart := false, laid := [("overflight/digest.start", laid_overflight_digest_start), ("overflight/digest.numbers", laid_overflight_digest_numbers)] }
def SignOnlySaid : Prop := signOnlyRow.holds Tryd.pinned (OpenSpec.ofChange signOnlySpec)

/-- ITS FALSE NEIGHBOUR: 'it returns false'. Refute it at one input. -/
def signOnlyWrong : ChangeSpec := { name := "signOnly", fn := fun _ => fun
  | [d1, d2, d3] => { results := [.lit (.bool false)], args := [d1, d2, d3] }
  | _ => none }
def SignOnlyWrongFalsely : Prop := signOnlyRow.holds Tryd.pinned (OpenSpec.ofChange signOnlyWrong)

/-- 'overflightlaw04.SignNonce': WHATEVER THE INPUT: true; the input reads as it did. -/
def signNonceSpec : ChangeSpec := { name := "signNonce", fn := fun _ => fun
  | [d1, d2] => { results := [.lit (.bool true)], args := [d1, d2] }
  | _ => none }
def signNonceRow : OpenClaim := { program := "ytmhmenmkgbebcaadoor", sum := "a2a74e97f33a5e4207649154141b6cc9b536c0a2dfb0d5d58b4ddd3c311b0994", func := "overflight/overflightlaw04.SignNonce", spec := "signNonce", unfollowed := true, recurses := true, named := ["math/bits.divideError", "math/bits.overflowError", "overflight/digest.start", "overflight/digest.numbers"], apart := false, laid := [("overflight/digest.start", laid_overflight_digest_start), ("overflight/digest.numbers", laid_overflight_digest_numbers)] }
def SignNonceSaid : Prop := signNonceRow.holds Tryd.pinned (OpenSpec.ofChange signNonceSpec)

/-- ITS FALSE NEIGHBOUR: 'it returns false'. Refute it at one input. -/
def signNonceWrong : ChangeSpec := { name := "signNonce", fn := fun _ => fun
  | [d1, d2] => { results := [.lit (.bool false)], args := [d1, d2] }
  | _ => none }
def SignNonceWrongFalsely : Prop := signNonceRow.holds Tryd.pinned (OpenSpec.ofChange signNonceWrong)

/-- 'overflightlaw04.SignDifference': WHATEVER THE INPUT: true; the input reads as it did. -/
def signDifferenceSpec : ChangeSpec := { name := "signDifference", fn := fun _ => fun
  | [d1, d2, d3] => { results := [.lit (.bool true)], args := [d1, d2, d3] }
  | _ => none }
def signDifferenceRow : OpenClaim := { program := "ytmhmenmkgbebcaadoor", sum := "a2a74e97f33a5e4207649154141b6cc9b536c0a2dfb0d5d58b4ddd3c311b0994", func := "overflight/overflightlaw04.SignDifference", spec := "signDifference", unfollowed := true, recurses := true, named := ["math/bits.divideError", "math/bits.overflowError", "overflight/digest.start", "overflight/digest.numbers"], apart := false, laid := [("overflight/digest.start", laid_overflight_digest_start), ("overflight/digest.numbers", laid_overflight_digest_numbers)] }
def SignDifferenceSaid : Prop := signDifferenceRow.holds Tryd.pinned (OpenSpec.ofChange signDifferenceSpec)

/-- ITS FALSE NEIGHBOUR: 'it returns false'. Refute it at one input. -/
def signDifferenceWrong : ChangeSpec := { name := "signDifference", fn := fun _ => fun
  | [d1, d2, d3] => { results := [.lit (.bool false)], args := [d1, d2, d3] }
  | _ => none }
def SignDifferenceWrongFalsely : Prop := signDifferenceRow.holds Tryd.pinned (OpenSpec.ofChange signDifferenceWrong)

/- THE SECOND FORM. 'bulk': how many values and letters a reading holds, each counted each time it is reached (what is shared counts as often as it is met; a slice's spare places count too). A statement '..UptoSaid' is the law's where the arguments, and the package variables that the reading takes, are together of bulk at most 1048576: NARROWER than '..Said'. Prove '..Said' where nothing that the law and all that it calls make is longer than what came in: it says more and counts as full. Else prove '..UptoSaid'. A law counts once. -/
mutual
def uptoBulk {H : Type} : DataW H → Nat
  | .lit (.string bytes) => bytes.length + 1
  | .lit _ => 1
  | .nil => 1
  | .ptr d => uptoBulk d + 1
  | .slice elems spare => uptoBulkAll elems + uptoBulkAll spare + 1
  | .agg parts => uptoBulkAll parts + 1
  | .iface _ d => uptoBulk d + 1
  | .map entries => uptoBulkEntries entries + 1
  | .held _ => 1
def uptoBulkAll {H : Type} : List (DataW H) → Nat
  | [] => 0
  | d :: r => uptoBulk d + uptoBulkAll r
def uptoBulkEntries {H : Type} : List (Lit × DataW H) → Nat
  | [] => 0
  | x :: r => uptoBulkEntry x + uptoBulkEntries r
def uptoBulkEntry {H : Type} : Lit × DataW H → Nat
  | (.string bytes, d) => bytes.length + uptoBulk d + 1
  | (_, d) => uptoBulk d + 1
 end
def uptoSmall : (H : Type) → List (DataW H) → Bool := fun _ ds => decide (uptoBulkAll ds ≤ 1048576)
def OpenSpec.upto (s : _root_.Go.ChangeSpec) : _root_.Go.OpenSpec := { _root_.Go.OpenSpec.ofChange s with cond := some uptoSmall }

/-- 'overflightlaw04.SignPublicSpec', WHERE WHAT IT READS IS OF BULK AT MOST 1048576: true; the input reads as it did. -/
def signPublicSpecUptoRow : OpenClaim := { program := "ytmhmenmkgbebcaadoor", sum := "a2a74e97f33a5e4207649154141b6cc9b536c0a2dfb0d5d58b4ddd3c311b0994", func := "overflight/overflightlaw04.SignPublicSpec", spec := "signPublicSpec", unfollowed := true, recurses := true, named := ["math/bits.divideError", "math/bits.overflowError", "overflight/digest.start", "overflight/digest.numbers"], apart := false, laid := [("overflight/digest.start", laid_overflight_digest_start), ("overflight/digest.numbers", laid_overflight_digest_numbers)], narrowed := true }
def SignPublicSpecUptoSaid : Prop := signPublicSpecUptoRow.holds Tryd.pinned (OpenSpec.upto signPublicSpecSpec)

/-- 'overflightlaw04.SignPrivateSpec', WHERE WHAT IT READS IS OF BULK AT MOST 1048576: true; the input reads as it did. -/
def signPrivateSpecUptoRow : OpenClaim := { program := "ytmhmenmkgbebcaadoor", sum := "a2a74e97f33a5e4207649154141b6cc9b536c0a2dfb0d5d58b4ddd3c311b0994", func := "overflight/overflightlaw04.SignPrivateSpec", spec := "signPrivateSpec", unfollowed := true, recurses := true, named := ["math/bits.divideError", "math/bits.overflowError", "overflight/digest.start", "overflight/digest.numbers"], apart := false, laid := [("overflight/digest.start", laid_overflight_digest_start), ("overflight/digest.numbers", laid_overflight_digest_numbers)], narrowed := true }
def SignPrivateSpecUptoSaid : Prop := signPrivateSpecUptoRow.holds Tryd.pinned (OpenSpec.upto signPrivateSpecSpec)

/-- 'overflightlaw04.SignVerifySpec', WHERE WHAT IT READS IS OF BULK AT MOST 1048576: true; the input reads as it did. -/
def signVerifySpecUptoRow : OpenClaim := { program := "ytmhmenmkgbebcaadoor", sum := "a2a74e97f33a5e4207649154141b6cc9b536c0a2dfb0d5d58b4ddd3c311b0994", func := "overflight/overflightlaw04.SignVerifySpec", spec := "signVerifySpec", unfollowed := true, recurses := true, named := ["math/bits.divideError", "math/bits.overflowError", "overflight/digest.start", "overflight/digest.numbers"], apart := false, laid := [("overflight/digest.start", laid_overflight_digest_start), ("overflight/digest.numbers", laid_overflight_digest_numbers)], narrowed := true }
def SignVerifySpecUptoSaid : Prop := signVerifySpecUptoRow.holds Tryd.pinned (OpenSpec.upto signVerifySpecSpec)

/-- 'overflightlaw04.SignVerifies', WHERE WHAT IT READS IS OF BULK AT MOST 1048576: true; the input reads as it did. -/
def signVerifiesUptoRow : OpenClaim := { program := "ytmhmenmkgbebcaadoor", sum := "a2a74e97f33a5e4207649154141b6cc9b536c0a2dfb0d5d58b4ddd3c311b0994", func := "overflight/overflightlaw04.SignVerifies", spec := "signVerifies", unfollowed := true, recurses := true, named := ["math/bits.divideError", "math/bits.overflowError", "overflight/digest.start", "overflight/digest.numbers"], apart := false, laid := [("overflight/digest.start", laid_overflight_digest_start), ("overflight/digest.numbers", laid_overflight_digest_numbers)], narrowed := true }
def SignVerifiesUptoSaid : Prop := signVerifiesUptoRow.holds Tryd.pinned (OpenSpec.upto signVerifiesSpec)

/-- 'overflightlaw04.SignEquation', WHERE WHAT IT READS IS OF BULK AT MOST 1048576: true; the input reads as it did. -/
def signEquationUptoRow : OpenClaim := { program := "ytmhmenmkgbebcaadoor", sum := "a2a74e97f33a5e4207649154141b6cc9b536c0a2dfb0d5d58b4ddd3c311b0994", func := "overflight/overflightlaw04.SignEquation", spec := "signEquation", unfollowed := true, recurses := true, named := ["math/bits.divideError", "math/bits.overflowError", "overflight/digest.start", "overflight/digest.numbers"], apart := false, laid := [("overflight/digest.start", laid_overflight_digest_start), ("overflight/digest.numbers", laid_overflight_digest_numbers)], narrowed := true }
def SignEquationUptoSaid : Prop := signEquationUptoRow.holds Tryd.pinned (OpenSpec.upto signEquationSpec)

/-- 'overflightlaw04.SignOnly', WHERE WHAT IT READS IS OF BULK AT MOST 1048576: true; the input reads as it did. -/
def signOnlyUptoRow : OpenClaim := { program := "ytmhmenmkgbebcaadoor", sum := "a2a74e97f33a5e4207649154141b6cc9b536c0a2dfb0d5d58b4ddd3c311b0994", func := "overflight/overflightlaw04.SignOnly", spec := "signOnly", unfollowed := true, recurses := true, named := ["math/bits.divideError", "math/bits.overflowError", "overflight/digest.start", "overflight/digest.numbers"], apart := false, laid := [("overflight/digest.start", laid_overflight_digest_start), ("overflight/digest.numbers", laid_overflight_digest_numbers)], narrowed := true }
def SignOnlyUptoSaid : Prop := signOnlyUptoRow.holds Tryd.pinned (OpenSpec.upto signOnlySpec)

/-- 'overflightlaw04.SignNonce', WHERE WHAT IT READS IS OF BULK AT MOST 1048576: true; the input reads as it did. -/
def signNonceUptoRow : OpenClaim := { program := "ytmhmenmkgbebcaadoor", sum := "a2a74e97f33a5e4207649154141b6cc9b536c0a2dfb0d5d58b4ddd3c311b0994", func := "overflight/overflightlaw04.SignNonce", spec := "signNonce", unfollowed := true, recurses := true, named := ["math/bits.divideError", "math/bits.overflowError", "overflight/digest.start", "overflight/digest.numbers"], apart := false, laid := [("overflight/digest.start", laid_overflight_digest_start), ("overflight/digest.numbers", laid_overflight_digest_numbers)], narrowed := true }
def SignNonceUptoSaid : Prop := signNonceUptoRow.holds Tryd.pinned (OpenSpec.upto signNonceSpec)

/-- 'overflightlaw04.SignDifference', WHERE WHAT IT READS IS OF BULK AT MOST 1048576: true; the input reads as it did. -/
def signDifferenceUptoRow : OpenClaim := { program := "ytmhmenmkgbebcaadoor", sum := "a2a74e97f33a5e4207649154141b6cc9b536c0a2dfb0d5d58b4ddd3c311b0994", func := "overflight/overflightlaw04.SignDifference", spec := "signDifference", unfollowed := true, recurses := true, named := ["math/bits.divideError", "math/bits.overflowError", "overflight/digest.start", "overflight/digest.numbers"], apart := false, laid := [("overflight/digest.start", laid_overflight_digest_start), ("overflight/digest.numbers", laid_overflight_digest_numbers)], narrowed := true }
def SignDifferenceUptoSaid : Prop := signDifferenceUptoRow.holds Tryd.pinned (OpenSpec.upto signDifferenceSpec)

end Rows
end Go.Proofs.YtmhmenmkgbebcaaDoor
