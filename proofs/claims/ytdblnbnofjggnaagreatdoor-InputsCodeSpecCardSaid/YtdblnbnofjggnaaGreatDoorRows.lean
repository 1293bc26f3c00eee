/-
  NARROWER THAN 'FOR EVERY INPUT', by the rows' own cells (each row's printed sentence says how): InputsFields: laid · InputsApart: laid · InputsCheckSpec: laid · InputsCodeSpec: laid · InputsSignSpec: laid · InputsBack: laid · InputsSigned: laid · InputsParts: laid.
  DERIVED. THE GIVEN ROWS OF THIS SEAT. 8 by the template 'for every input the law returns true; each argument reads behind the call as it read before'; 0 by the template 'total and deterministic' (their statements: YtdblnbnofjggnaaGreatDoorTotals.lean).
  GIVEN WITH THE SEED: the statements are not yours to turn. If you find one false, say at which input.
  Laid BY PROGRAM, IN A SANDBOX (cutbox-rows.mjs): the forced cells as the released guide's own fill.sh prints them over the translation 0331325abc01b9e9… (all of the seat's roots in one cut). By AI agents, Wed Nov 11 2026. No macro, syntax, notation, axiom, sorry.
-/
import Derived.Test.YtdblnbnofjggnaaGreatDoorChecked
import GoSem.Claim
import GoSem.ClaimJoined
import GoSem.ClaimMapViews
import Derived.JoinedTies
import Derived.KernelRfl
namespace Go.Proofs.YtdblnbnofjggnaaGreatDoor
/- THE CELL 'sum', in the pinned program and in every row, IS THE sha256 OF THE DUMP (.gsa) THAT YtdblnbnofjggnaaGreatDoorProg.lean LOADS. Nothing in Lean hashes anything: it is a label: what it is worth is what the hold of that sum in a sandbox is worth. -/
noncomputable def Tryz.pinned : Pinned := { name := "ytdblnbnofjggnaagreatdoor", sum := "0331325abc01b9e9d4c11f64f9cef2847e6282c13d33ca68d077cdb0b213604d", checked := Tryz.checked }
namespace Rows
def none {H : Type} : Left H := { results := [], args := [] }

/- WHAT THE LISTED PACKAGE-LEVEL VARIABLES READ AS WHEN THE CALL BEGINS. Each datum BY PROGRAM (the guide's laid-datum.mjs) off the statement by which the dump's own 'gosem.cut.vars' lays the variable. In a bare row this is a premise. The card (YtdblnbnofjggnaaGreatDoorCards.lean) ties it to the program's text. -/
def laid_overflight_digest_start {H : Type} : DataW H := .agg [.lit (.int .u32 1779033703), .lit (.int .u32 3144134277), .lit (.int .u32 1013904242), .lit (.int .u32 2773480762), .lit (.int .u32 1359893119), .lit (.int .u32 2600822924), .lit (.int .u32 528734635), .lit (.int .u32 1541459225)]
def laid_overflight_digest_numbers {H : Type} : DataW H := .agg [.lit (.int .u32 1116352408), .lit (.int .u32 1899447441), .lit (.int .u32 3049323471), .lit (.int .u32 3921009573), .lit (.int .u32 961987163), .lit (.int .u32 1508970993), .lit (.int .u32 2453635748), .lit (.int .u32 2870763221), .lit (.int .u32 3624381080), .lit (.int .u32 310598401), .lit (.int .u32 607225278), .lit (.int .u32 1426881987), .lit (.int .u32 1925078388), .lit (.int .u32 2162078206), .lit (.int .u32 2614888103), .lit (.int .u32 3248222580), .lit (.int .u32 3835390401), .lit (.int .u32 4022224774), .lit (.int .u32 264347078), .lit (.int .u32 604807628), .lit (.int .u32 770255983), .lit (.int .u32 1249150122), .lit (.int .u32 1555081692), .lit (.int .u32 1996064986), .lit (.int .u32 2554220882), .lit (.int .u32 2821834349), .lit (.int .u32 2952996808), .lit (.int .u32 3210313671), .lit (.int .u32 3336571891), .lit (.int .u32 3584528711), .lit (.int .u32 113926993), .lit (.int .u32 338241895), .lit (.int .u32 666307205), .lit (.int .u32 773529912), .lit (.int .u32 1294757372), .lit (.int .u32 1396182291), .lit (.int .u32 1695183700), .lit (.int .u32 1986661051), .lit (.int .u32 2177026350), .lit (.int .u32 2456956037), .lit (.int .u32 2730485921), .lit (.int .u32 2820302411), .lit (.int .u32 3259730800), .lit (.int .u32 3345764771), .lit (.int .u32 3516065817), .lit (.int .u32 3600352804), .lit (.int .u32 4094571909), .lit (.int .u32 275423344), .lit (.int .u32 430227734), .lit (.int .u32 506948616), .lit (.int .u32 659060556), .lit (.int .u32 883997877), .lit (.int .u32 958139571), .lit (.int .u32 1322822218), .lit (.int .u32 1537002063), .lit (.int .u32 1747873779), .lit (.int .u32 1955562222), .lit (.int .u32 2024104815), .lit (.int .u32 2227730452), .lit (.int .u32 2361852424), .lit (.int .u32 2428436474), .lit (.int .u32 2756734187), .lit (.int .u32 3204031479), .lit (.int .u32 3329325298)]

/-- 'overflightlaw49.InputsFields': WHATEVER THE INPUT: true; the input reads as it did. -/
def inputsFieldsSpec : ChangeSpec := { name := "inputsFields", fn := fun _ => fun
  | [d1, d2, d3] => { results := [.lit (.bool true)], args := [d1, d2, d3] }
  | _ => none }
def inputsFieldsRow : OpenClaim := { program := "ytdblnbnofjggnaagreatdoor", sum := "0331325abc01b9e9d4c11f64f9cef2847e6282c13d33ca68d077cdb0b213604d", func := "overflight/overflightlaw49.InputsFields", spec := "inputsFields", inPlace := ["internal/bytealg.IndexByteString"], unfollowed := true, recurses := true, named := ["math/bits.divideError", "math/bits.overflowError", "overflight/digest.start", "overflight/digest.numbers"], apart := false, laid := [("overflight/digest.start", laid_overflight_digest_start), ("overflight/digest.numbers", laid_overflight_digest_numbers)] }
def InputsFieldsSaid : Prop := inputsFieldsRow.holds Tryz.pinned (OpenSpec.ofChange inputsFieldsSpec)

/-- ITS FALSE NEIGHBOUR: 'it returns false'. Refute it at one input. -/
def inputsFieldsWrong : ChangeSpec := { name := "inputsFields", fn := fun _ => fun
  | [d1, d2, d3] => { results := [.lit (.bool false)], args := [d1, d2, d3] }
  | _ => none }
def InputsFieldsWrongFalsely : Prop := inputsFieldsRow.holds Tryz.pinned (OpenSpec.ofChange inputsFieldsWrong)

/-- 'overflightlaw49.InputsApart': WHATEVER THE INPUT: true; the input reads as it did. -/
def inputsApartSpec : ChangeSpec := { name := "inputsApart", fn := fun _ => fun
  | [d1, d2, d3] => { results := [.lit (.bool true)], args := [d1, d2, d3] }
  | _ => none }
def inputsApartRow : OpenClaim := { program := "ytdblnbnofjggnaagreatdoor", sum := "0331325abc01b9e9d4c11f64f9cef2847e6282c13d33ca68d077cdb0b213604d", func := "overflight/overflightlaw49.InputsApart", spec := "inputsApart", inPlace := ["internal/bytealg.IndexByteString"], unfollowed := true, recurses := true, named := ["math/bits.divideError", "math/bits.overflowError", "overflight/digest.start", "overflight/digest.numbers"], apart := false, laid := [("overflight/digest.start", laid_overflight_digest_start), ("overflight/digest.numbers", laid_overflight_digest_numbers)] }
def InputsApartSaid : Prop := inputsApartRow.holds Tryz.pinned (OpenSpec.ofChange inputsApartSpec)

/-- ITS FALSE NEIGHBOUR: 'it returns false'. Refute it at one input. -/
def inputsApartWrong : ChangeSpec := { name := "inputsApart", fn := fun _ => fun
  | [d1, d2, d3] => { results := [.lit (.bool false)], args := [d1, d2, d3] }
  | _ => none }
def InputsApartWrongFalsely : Prop := inputsApartRow.holds Tryz.pinned (OpenSpec.ofChange inputsApartWrong)

/-- 'overflightlaw49.InputsCheckSpec': WHATEVER THE INPUT: true; the input reads as it did. -/
def inputsCheckSpecSpec : ChangeSpec := { name := "inputsCheckSpec", fn := fun _ => fun
  | [d1, d2] => { results := [.lit (.bool true)], args := [d1, d2] }
  | _ => none }
def inputsCheckSpecRow : OpenClaim := { program := "ytdblnbnofjggnaagreatdoor", sum := "0331325abc01b9e9d4c11f64f9cef2847e6282c13d33ca68d077cdb0b213604d", func := "overflight/overflightlaw49.InputsCheckSpec", spec := "inputsCheckSpec", inPlace := ["internal/bytealg.IndexByteString"], unfollowed := true, recurses := true, named := ["math/bits.divideError", "math/bits.overflowError", "overflight/digest.start", "overflight/digest.numbers"], apart := false, laid := [("overflight/digest.start", laid_overflight_digest_start), ("overflight/digest.numbers", laid_overflight_digest_numbers)] }
def InputsCheckSpecSaid : Prop := inputsCheckSpecRow.holds Tryz.pinned (OpenSpec.ofChange inputsCheckSpecSpec)

/-- ITS FALSE NEIGHBOUR: 'it returns false'. Refute it at one input. -/
def inputsCheckSpecWrong : ChangeSpec := { name := "inputsCheckSpec", fn := fun _ => fun
  | [d1, d2] => { results := [.lit (.bool false)], args := [d1, d2] }
  | _ => none }
def InputsCheckSpecWrongFalsely : Prop := inputsCheckSpecRow.holds Tryz.pinned (OpenSpec.ofChange inputsCheckSpecWrong)

/-- 'overflightlaw49.InputsCodeSpec': WHATEVER THE INPUT: true; the input reads as it did. -/
def inputsCodeSpecSpec : ChangeSpec := { name := "inputsCodeSpec", fn := fun _ => fun
  | [d1, d2] => { results := [.lit (.bool true)], args := [d1, d2] }
  | _ => none }
def inputsCodeSpecRow : OpenClaim := { program := "ytdblnbnofjggnaagreatdoor", sum := "0331325abc01b9e9d4c11f64f9cef2847e6282c13d33ca68d077cdb0b213604d", func := "overflight/overflightlaw49.InputsCodeSpec", spec := "inputsCodeSpec", inPlace := ["internal/bytealg.IndexByteString"], unfollowed := true, recurses := true, named := ["math/bits.divideError", "math/bits.overflowError", "overflight/digest.start", "overflight/digest.numbers"], apart := false, laid := [("overflight/digest.start", laid_overflight_digest_start), ("overflight/digest.numbers", laid_overflight_digest_numbers)] }
def InputsCodeSpecSaid : Prop := inputsCodeSpecRow.holds Tryz.pinned (OpenSpec.ofChange inputsCodeSpecSpec)

/-- ITS FALSE NEIGHBOUR: 'it returns false'. Refute it at one input. -/
def inputsCodeSpecWrong : ChangeSpec := { name := "inputsCodeSpec", fn := fun _ => fun
  | [d1, d2] => { results := [.lit (.bool false)], args := [d1, d2] }
  | _ => none }
def InputsCodeSpecWrongFalsely : Prop := inputsCodeSpecRow.holds Tryz.pinned (OpenSpec.ofChange inputsCodeSpecWrong)

/-- 'overflightlaw49.InputsSignSpec': WHATEVER THE INPUT: true; the input reads as it did. -/
def inputsSignSpecSpec : ChangeSpec := { name := "inputsSignSpec", fn := fun _ => fun
  | [d1, d2, d3] => { results := [.lit (.bool true)], args := [d1, d2, d3] }
  | _ => none }
def inputsSignSpecRow : OpenClaim := { program := "ytdblnbnofjggnaagreatdoor", sum := "0331325abc01b9e9d4c11f64f9cef2847e6282c13d33ca68d077cdb0b213604d", func := "overflight/overflightlaw49.InputsSignSpec", spec := "inputsSignSpec", inPlace := ["internal/bytealg.IndexByteString"], unfollowed := true, recurses := true, named := ["math/bits.divideError", "math/bits.overflowError", "overflight/digest.start", "overflight/digest.numbers"], apart := false, laid := [("overflight/digest.start", laid_overflight_digest_start), ("overflight/digest.numbers", laid_overflight_digest_numbers)] }
def InputsSignSpecSaid : Prop := inputsSignSpecRow.holds Tryz.pinned (OpenSpec.ofChange inputsSignSpecSpec)

/-- ITS FALSE NEIGHBOUR: 'it returns false'. Refute it at one input. -/
def inputsSignSpecWrong : ChangeSpec := { name := "inputsSignSpec", fn := fun _ => fun
  | [d1, d2, d3] => { results := [.lit (.bool false)], args := [d1, d2, d3] }
  | _ => none }
def InputsSignSpecWrongFalsely : Prop := inputsSignSpecRow.holds Tryz.pinned (OpenSpec.ofChange inputsSignSpecWrong)

/-- 'overflightlaw49.InputsBack': WHATEVER THE INPUT: true; the input reads as it did. -/
def inputsBackSpec : ChangeSpec := { name := "inputsBack", fn := fun _ => fun
  | [d1, d2] => { results := [.lit (.bool true)], args := [d1, d2] }
  | _ => none }
def inputsBackRow : OpenClaim := { program := "ytdblnbnofjggnaagreatdoor", sum := "0331325abc01b9e9d4c11f64f9cef2847e6282c13d33ca68d077cdb0b213604d", func := "overflight/overflightlaw49.InputsBack", spec := "inputsBack", inPlace := ["internal/bytealg.IndexByteString"], unfollowed := true, recurses := true, named := ["math/bits.divideError", "math/bits.overflowError", "overflight/digest.start", "overflight/digest.numbers"], apart := false, laid := [("overflight/digest.start", laid_overflight_digest_start), ("overflight/digest.numbers", laid_overflight_digest_numbers)] }
def InputsBackSaid : Prop := inputsBackRow.holds Tryz.pinned (OpenSpec.ofChange inputsBackSpec)

/-- ITS FALSE NEIGHBOUR: 'it returns false'. Refute it at one input. -/
def inputsBackWrong : ChangeSpec := { name := "inputsBack", fn := fun _ => fun
  | [d1, d2] => { results := [.lit (.bool false)], args := [d1, d2] }
  | _ => none }
def InputsBackWrongFalsely : Prop := inputsBackRow.holds Tryz.pinned (OpenSpec.ofChange inputsBackWrong)

/-- 'overflightlaw49.InputsSigned': WHATEVER THE INPUT: true; the input reads as it did. -/
def inputsSignedSpec : ChangeSpec := { name := "inputsSigned", fn := fun _ => fun
  | [d1, d2, d3] => { results := [.lit (.bool true)], args := [d1, d2, d3] }
  | _ => none }
def inputsSignedRow : OpenClaim := { program := "ytdblnbnofjggnaagreatdoor", sum := "0331325abc01b9e9d4c11f64f9cef2847e6282c13d33ca68d077cdb0b213604d", func := "overflight/overflightlaw49.InputsSigned", spec := "inputsSigned", inPlace := ["internal/bytealg.IndexByteString"], unfollowed := true, recurses := true, named := ["math/bits.divideError", "math/bits.overflowError", "overflight/digest.start", "overflight/digest.numbers"], apart := false, laid := [("overflight/digest.start", laid_overflight_digest_start), ("overflight/digest.numbers", laid_overflight_digest_numbers)] }
def InputsSignedSaid : Prop := inputsSignedRow.holds Tryz.pinned (OpenSpec.ofChange inputsSignedSpec)

/-- ITS FALSE NEIGHBOUR: 'it returns false'. Refute it at one input. -/
def inputsSignedWrong : ChangeSpec := { name := "inputsSigned", fn := fun _ => fun
  | [d1, d2, d3] => { results := [.lit (.bool false)], args := [d1, d2, d3] }
  | _ => none }
def InputsSignedWrongFalsely : Prop := inputsSignedRow.holds Tryz.pinned (OpenSpec.ofChange inputsSignedWrong)

/-- 'overflightlaw49.InputsParts': WHATEVER THE INPUT: true; the input reads as it did. -/
def inputsPartsSpec : ChangeSpec := { name := "inputsParts", fn := fun _ => fun
  | [d1, d2, d3, d4] => { results := [.lit (.bool true)], args := [d1, d2, d3, d4] }
  | _ => none }
def inputsPartsRow : OpenClaim := { program := "ytdblnbnofjggnaagreatdoor", sum := "0331325abc01b9e9d4c11f64f9cef2847e6282c13d33ca68d077cdb0b213604d", func := "overflight/overflightlaw49.InputsParts", spec := "inputsParts", inPlace := ["internal/bytealg.IndexByteString"], unfollowed := true, recurses := true, named := ["math/bits.divideError", "math/bits.overflowError", "overflight/digest.start", "overflight/digest.numbers"], apart := false, laid := [("overflight/digest.start", laid_overflight_digest_start), ("overflight/digest.numbers", laid_overflight_digest_numbers)] }
def InputsPartsSaid : Prop := inputsPartsRow.holds Tryz.pinned (OpenSpec.ofChange inputsPartsSpec)

/-- ITS FALSE NEIGHBOUR: 'it returns false'. Refute it at one input. -/
def inputsPartsWrong : ChangeSpec := { name := "inputsParts", fn := fun _ => fun
  | [d1, d2, d3, d4] => { results := [.lit (.bool false)], args := [d1, d2, d3, d4] }
  | _ => none }
def InputsPartsWrongFalsely : Prop := inputsPartsRow.holds Tryz.pinned (OpenSpec.ofChange inputsPartsWrong)

/- THE SECOND FORM. 'bulk': how many values and letters a reading holds, each counted each time it is reached (what is shared counts as often as it is met; a slice's spare places count too). A statement '..UptoSaid' is the law's where the arguments, and the package variables that the reading takes, are together of bulk at most 1048576: NARROWER than '..Said'. Prove '..Said' where nothing that the law and all that it calls make is longer than what came in: it says more and counts as full. Else prove '..UptoSaid'. A law counts once. -/
mutual
def uptoBulk {H : Type} : DataW H → Nat
  | .lit (.string bytes) => bytes.length + 1
  | .lit _ => 1
  | .nil => 1
  | .ptr d => uptoBulk d + 1
  | .slice elems spare => uptoBulkAll elems + uptoBulkAll spare + 1
  | .agg parts => uptoBulkAll parts + 1
  | .iface _ d => uptoBulk d + 1
  | .map entries => uptoBulkEntries entries + 1
  | .held _ => 1
def uptoBulkAll {H : Type} : List (DataW H) → Nat
  | [] => 0
  | d :: r => uptoBulk d + uptoBulkAll r
def uptoBulkEntries {H : Type} : List (Lit × DataW H) → Nat
  | [] => 0
  | x :: r => uptoBulkEntry x + uptoBulkEntries r
def uptoBulkEntry {H : Type} : Lit × DataW H → Nat
  | (.string bytes, d) => bytes.length + uptoBulk d + 1
  | (_, d) => uptoBulk d + 1
 end
def uptoSmall : (H : Type) → List (DataW H) → Bool := fun _ ds => decide (uptoBulkAll ds ≤ 1048576)
def OpenSpec.upto (s : _root_.Go.ChangeSpec) : _root_.Go.OpenSpec := { _root_.Go.OpenSpec.ofChange s with cond := some uptoSmall }

/-- 'overflightlaw49.InputsFields', WHERE WHAT IT READS IS OF BULK AT MOST 1048576: true; the input reads as it did. -/
def inputsFieldsUptoRow : OpenClaim := { program := "ytdblnbnofjggnaagreatdoor", sum := "0331325abc01b9e9d4c11f64f9cef2847e6282c13d33ca68d077cdb0b213604d", func := "overflight/overflightlaw49.InputsFields", spec := "inputsFields", inPlace := ["internal/bytealg.IndexByteString"], unfollowed := true, recurses := true, named := ["math/bits.divideError", "math/bits.overflowError", "overflight/digest.start", "overflight/digest.numbers"], apart := false, laid := [("overflight/digest.start", laid_overflight_digest_start), ("overflight/digest.numbers", laid_overflight_digest_numbers)], narrowed := true }
def InputsFieldsUptoSaid : Prop := inputsFieldsUptoRow.holds Tryz.pinned (OpenSpec.upto inputsFieldsSpec)

/-- 'overflightlaw49.InputsApart', WHERE WHAT IT READS IS OF BULK AT MOST 1048576: true; the input reads as it did. -/
def inputsApartUptoRow : OpenClaim := { program := "ytdblnbnofjggnaagreatdoor", sum := "0331325abc01b9e9d4c11f64f9cef2847e6282c13d33ca68d077cdb0b213604d", func := "overflight/overflightlaw49.InputsApart", spec := "inputsApart", inPlace := ["internal/bytealg.IndexByteString"], unfollowed := true, recurses := true, named := ["math/bits.divideError", "math/bits.overflowError", "overflight/digest.start", "overflight/digest.numbers"], apart := false, laid := [("overflight/digest.start", laid_overflight_digest_start), ("overflight/digest.numbers", laid_overflight_digest_numbers)], narrowed := true }
def InputsApartUptoSaid : Prop := inputsApartUptoRow.holds Tryz.pinned (OpenSpec.upto inputsApartSpec)

/-- 'overflightlaw49.InputsCheckSpec', WHERE WHAT IT READS IS OF BULK AT MOST 1048576: true; the input reads as it did. -/
def inputsCheckSpecUptoRow : OpenClaim := { program := "ytdblnbnofjggnaagreatdoor", sum := "0331325abc01b9e9d4c11f64f9cef2847e6282c13d33ca68d077cdb0b213604d", func := "overflight/overflightlaw49.InputsCheckSpec", spec := "inputsCheckSpec", inPlace := ["internal/bytealg.IndexByteString"], unfollowed := true, recurses := true, named := ["math/bits.divideError", "math/bits.overflowError", "overflight/digest.start", "overflight/digest.numbers"], apart := false, laid := [("overflight/digest.start", laid_overflight_digest_start), ("overflight/digest.numbers", laid_overflight_digest_numbers)], narrowed := true }
def InputsCheckSpecUptoSaid : Prop := inputsCheckSpecUptoRow.holds Tryz.pinned (OpenSpec.upto inputsCheckSpecSpec)

/-- 'overflightlaw49.InputsCodeSpec', WHERE WHAT IT READS IS OF BULK AT MOST 1048576: true; the input reads as it did. -/
def inputsCodeSpecUptoRow : OpenClaim := { program := "ytdblnbnofjggnaagreatdoor", sum := "0331325abc01b9e9d4c11f64f9cef2847e6282c13d33ca68d077cdb0b213604d", func := "overflight/overflightlaw49.InputsCodeSpec", spec := "inputsCodeSpec", inPlace := ["internal/bytealg.IndexByteString"], unfollowed := true, recurses := true, named := ["math/bits.divideError", "math/bits.overflowError", "overflight/digest.start", "overflight/digest.numbers"], apart := false, laid := [("overflight/digest.start", laid_overflight_digest_start), ("overflight/digest.numbers", laid_overflight_digest_numbers)], narrowed := true }
def InputsCodeSpecUptoSaid : Prop := inputsCodeSpecUptoRow.holds Tryz.pinned (OpenSpec.upto inputsCodeSpecSpec)

/-- 'overflightlaw49.InputsSignSpec', WHERE WHAT IT READS IS OF BULK AT MOST 1048576: true; the input reads as it did. -/
def inputsSignSpecUptoRow : OpenClaim := { program := "ytdblnbnofjggnaagreatdoor", sum := "0331325abc01b9e9d4c11f64f9cef2847e6282c13d33ca68d077cdb0b213604d", func := "overflight/overflightlaw49.InputsSignSpec", spec := "inputsSignSpec", inPlace := ["internal/bytealg.IndexByteString"], unfollowed := true, recurses := true, named := ["math/bits.divideError", "math/bits.overflowError", "overflight/digest.start", "overflight/digest.numbers"], apart := false, laid := [("overflight/digest.start", laid_overflight_digest_start), ("overflight/digest.numbers", laid_overflight_digest_numbers)], narrowed := true }
def InputsSignSpecUptoSaid : Prop := inputsSignSpecUptoRow.holds Tryz.pinned (OpenSpec.upto inputsSignSpecSpec)

/-- 'overflightlaw49.InputsBack', WHERE WHAT IT READS IS OF BULK AT MOST 1048576: true; the input reads as it did. -/
def inputsBackUptoRow : OpenClaim := { program := "ytdblnbnofjggnaagreatdoor", sum := "0331325abc01b9e9d4c11f64f9cef2847e6282c13d33ca68d077cdb0b213604d", func := "overflight/overflightlaw49.InputsBack", spec := "inputsBack", inPlace := ["internal/bytealg.IndexByteString"], unfollowed := true, recurses := true, named := ["math/bits.divideError", "math/bits.overflowError", "overflight/digest.start", "overflight/digest.numbers"], apart := false, laid := [("overflight/digest.start", laid_overflight_digest_start), ("overflight/digest.numbers", laid_overflight_digest_numbers)], narrowed := true }
def InputsBackUptoSaid : Prop := inputsBackUptoRow.holds Tryz.pinned (OpenSpec.upto inputsBackSpec)

/-- 'overflightlaw49.InputsSigned', WHERE WHAT IT READS IS OF BULK AT MOST 1048576: true; the input reads as it did. -/
def inputsSignedUptoRow : OpenClaim := { program := "ytdblnbnofjggnaagreatdoor", sum := "0331325abc01b9e9d4c11f64f9cef2847e6282c13d33ca68d077cdb0b213604d", func := "overflight/overflightlaw49.InputsSigned", spec := "inputsSigned", inPlace := ["internal/bytealg.IndexByteString"], unfollowed := true, recurses := true, named := ["math/bits.divideError", "math/bits.overflowError", "overflight/digest.start", "overflight/digest.numbers"], apart := false, laid := [("overflight/digest.start", laid_overflight_digest_start), ("overflight/digest.numbers", laid_overflight_digest_numbers)], narrowed := true }
def InputsSignedUptoSaid : Prop := inputsSignedUptoRow.holds Tryz.pinned (OpenSpec.upto inputsSignedSpec)

/-- 'overflightlaw49.InputsParts', WHERE WHAT IT READS IS OF BULK AT MOST 1048576: true; the input reads as it did. -/
def inputsPartsUptoRow : OpenClaim := { program := "ytdblnbnofjggnaagreatdoor", sum := "0331325abc01b9e9d4c11f64f9cef2847e6282c13d33ca68d077cdb0b213604d", func := "overflight/overflightlaw49.InputsParts", spec := "inputsParts", inPlace := ["internal/bytealg.IndexByteString"], unfollowed := true, recurses := true, named := ["math/bits.divideError", "math/bits.overflowError", "overflight/digest.start", "overflight/digest.numbers"], apart := false, laid := [("overflight/digest.start", laid_overflight_digest_start), ("overflight/digest.numbers", laid_overflight_digest_numbers)], narrowed := true }
def InputsPartsUptoSaid : Prop := inputsPartsUptoRow.holds Tryz.pinned (OpenSpec.upto inputsPartsSpec)

end Rows
end Go.Proofs.YtdblnbnofjggnaaGreatDoor
