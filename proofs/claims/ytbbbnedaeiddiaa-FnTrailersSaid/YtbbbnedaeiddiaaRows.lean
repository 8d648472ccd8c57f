/-
  No cell of these rows narrows 'for every input' (looked for: loops, veiled, ifaces, maps, wideKeys, modest, calm, conditions, laid).
  DERIVED. THE GIVEN ROWS OF THIS SEAT. 12 by the template 'for every input the law returns true; each argument reads behind the call as it read before'; 0 by the template 'total and deterministic' (their statements: YtbbbnedaeiddiaaTotals.lean).
  GIVEN WITH THE SEED: the statements are not yours to turn. If you find one false, say at which input.
  Laid BY PROGRAM, IN A SANDBOX (cutbox-rows.mjs): the forced cells as the released guide's own fill.sh prints them over the translation 37aef43c06154810… (all of the seat's roots in one cut). By AI agents, Wed Nov 11 2026. No macro, syntax, notation, axiom, sorry.
-/
import Derived.Test.YtbbbnedaeiddiaaChecked
import GoSem.Claim
import GoSem.ClaimJoined
import GoSem.ClaimMapViews
import Derived.JoinedTies
import Derived.KernelRfl
namespace Go.Proofs.Ytbbbnedaeiddiaa
/- THE CELL 'sum', in the pinned program and in every row, IS THE sha256 OF THE DUMP (.gsa) THAT YtbbbnedaeiddiaaProg.lean LOADS. Nothing in Lean hashes anything: it is a label: what it is worth is what the hold of that sum in a sandbox is worth. -/
noncomputable def Try.pinned : Pinned := { name := "ytbbbnedaeiddiaa", sum := "37aef43c061548103290f67239515331136356611667bcf50fb948ec9136fe02", checked := Try.checked }
namespace Rows
def none {H : Type} : Left H := { results := [], args := [] }

/-- 'laws.FnExactSealText': WHATEVER THE INPUT: true; the input reads as it did. -/
def fnExactSealTextSpec : ChangeSpec := { name := "fnExactSealText", fn := fun _ => fun
  | [d1, d2] => { results := [.lit (.bool true)], args := [d1, d2] }
  | _ => none }
def fnExactSealTextRow : OpenClaim := { program := "ytbbbnedaeiddiaa", sum := "37aef43c061548103290f67239515331136356611667bcf50fb948ec9136fe02", func := "loop.example/g00971/laws.FnExactSealText", spec := "fnExactSealText", inPlace := ["internal/abi.NoEscape"], unfollowed := true, recurses := true, apart := false }
def FnExactSealTextSaid : Prop := fnExactSealTextRow.holds Try.pinned (OpenSpec.ofChange fnExactSealTextSpec)

/-- ITS FALSE NEIGHBOUR: 'it returns false'. Refute it at one input. -/
def fnExactSealTextWrong : ChangeSpec := { name := "fnExactSealText", fn := fun _ => fun
  | [d1, d2] => { results := [.lit (.bool false)], args := [d1, d2] }
  | _ => none }
def FnExactSealTextWrongFalsely : Prop := fnExactSealTextRow.holds Try.pinned (OpenSpec.ofChange fnExactSealTextWrong)

/-- 'laws.FnExactSealedSize': WHATEVER THE INPUT: true; the input reads as it did. -/
def fnExactSealedSizeSpec : ChangeSpec := { name := "fnExactSealedSize", fn := fun _ => fun
  | [d1, d2] => { results := [.lit (.bool true)], args := [d1, d2] }
  | _ => none }
def fnExactSealedSizeRow : OpenClaim := { program := "ytbbbnedaeiddiaa", sum := "37aef43c061548103290f67239515331136356611667bcf50fb948ec9136fe02", func := "loop.example/g00971/laws.FnExactSealedSize", spec := "fnExactSealedSize", inPlace := ["internal/abi.NoEscape"], unfollowed := true, recurses := true, apart := false }
def FnExactSealedSizeSaid : Prop := fnExactSealedSizeRow.holds Try.pinned (OpenSpec.ofChange fnExactSealedSizeSpec)

/-- ITS FALSE NEIGHBOUR: 'it returns false'. Refute it at one input. -/
def fnExactSealedSizeWrong : ChangeSpec := { name := "fnExactSealedSize", fn := fun _ => fun
  | [d1, d2] => { results := [.lit (.bool false)], args := [d1, d2] }
  | _ => none }
def FnExactSealedSizeWrongFalsely : Prop := fnExactSealedSizeRow.holds Try.pinned (OpenSpec.ofChange fnExactSealedSizeWrong)

/-- 'laws.FnExactRecordsIn': WHATEVER THE INPUT: true; the input reads as it did. -/
def fnExactRecordsInSpec : ChangeSpec := { name := "fnExactRecordsIn", fn := fun _ => fun
  | [d] => { results := [.lit (.bool true)], args := [d] }
  | _ => none }
def fnExactRecordsInRow : OpenClaim := { program := "ytbbbnedaeiddiaa", sum := "37aef43c061548103290f67239515331136356611667bcf50fb948ec9136fe02", func := "loop.example/g00971/laws.FnExactRecordsIn", spec := "fnExactRecordsIn", apart := false }
def FnExactRecordsInSaid : Prop := fnExactRecordsInRow.holds Try.pinned (OpenSpec.ofChange fnExactRecordsInSpec)

/-- ITS FALSE NEIGHBOUR: 'it returns false'. Refute it at one input. -/
def fnExactRecordsInWrong : ChangeSpec := { name := "fnExactRecordsIn", fn := fun _ => fun
  | [d] => { results := [.lit (.bool false)], args := [d] }
  | _ => none }
def FnExactRecordsInWrongFalsely : Prop := fnExactRecordsInRow.holds Try.pinned (OpenSpec.ofChange fnExactRecordsInWrong)

/-- 'laws.FnTrailers': WHATEVER THE INPUT: true; the input reads as it did. -/
def fnTrailersSpec : ChangeSpec := { name := "fnTrailers", fn := fun _ => fun
  | [d] => { results := [.lit (.bool true)], args := [d] }
  | _ => none }
def fnTrailersRow : OpenClaim := { program := "ytbbbnedaeiddiaa", sum := "37aef43c061548103290f67239515331136356611667bcf50fb948ec9136fe02", func := "loop.example/g00971/laws.FnTrailers", spec := "fnTrailers", inPlace := ["internal/abi.NoEscape"], apart := false }
def FnTrailersSaid : Prop := fnTrailersRow.holds Try.pinned (OpenSpec.ofChange fnTrailersSpec)

/-- ITS FALSE NEIGHBOUR: 'it returns false'. Refute it at one input. -/
def fnTrailersWrong : ChangeSpec := { name := "fnTrailers", fn := fun _ => fun
  | [d] => { results := [.lit (.bool false)], args := [d] }
  | _ => none }
def FnTrailersWrongFalsely : Prop := fnTrailersRow.holds Try.pinned (OpenSpec.ofChange fnTrailersWrong)

/-- 'laws.FnExactScanText': WHATEVER THE INPUT: true; the input reads as it did. -/
def fnExactScanTextSpec : ChangeSpec := { name := "fnExactScanText", fn := fun _ => fun
  | [d] => { results := [.lit (.bool true)], args := [d] }
  | _ => none }
def fnExactScanTextRow : OpenClaim := { program := "ytbbbnedaeiddiaa", sum := "37aef43c061548103290f67239515331136356611667bcf50fb948ec9136fe02", func := "loop.example/g00971/laws.FnExactScanText", spec := "fnExactScanText", apart := false }
def FnExactScanTextSaid : Prop := fnExactScanTextRow.holds Try.pinned (OpenSpec.ofChange fnExactScanTextSpec)

/-- ITS FALSE NEIGHBOUR: 'it returns false'. Refute it at one input. -/
def fnExactScanTextWrong : ChangeSpec := { name := "fnExactScanText", fn := fun _ => fun
  | [d] => { results := [.lit (.bool false)], args := [d] }
  | _ => none }
def FnExactScanTextWrongFalsely : Prop := fnExactScanTextRow.holds Try.pinned (OpenSpec.ofChange fnExactScanTextWrong)

/-- 'laws.FnTails': WHATEVER THE INPUT: true; the input reads as it did. -/
def fnTailsSpec : ChangeSpec := { name := "fnTails", fn := fun _ => fun
  | [d] => { results := [.lit (.bool true)], args := [d] }
  | _ => none }
def fnTailsRow : OpenClaim := { program := "ytbbbnedaeiddiaa", sum := "37aef43c061548103290f67239515331136356611667bcf50fb948ec9136fe02", func := "loop.example/g00971/laws.FnTails", spec := "fnTails", apart := false }
def FnTailsSaid : Prop := fnTailsRow.holds Try.pinned (OpenSpec.ofChange fnTailsSpec)

/-- ITS FALSE NEIGHBOUR: 'it returns false'. Refute it at one input. -/
def fnTailsWrong : ChangeSpec := { name := "fnTails", fn := fun _ => fun
  | [d] => { results := [.lit (.bool false)], args := [d] }
  | _ => none }
def FnTailsWrongFalsely : Prop := fnTailsRow.holds Try.pinned (OpenSpec.ofChange fnTailsWrong)

/-- 'laws.FnExactResealed': WHATEVER THE INPUT: true; the input reads as it did. -/
def fnExactResealedSpec : ChangeSpec := { name := "fnExactResealed", fn := fun _ => fun
  | [d1, d2] => { results := [.lit (.bool true)], args := [d1, d2] }
  | _ => none }
def fnExactResealedRow : OpenClaim := { program := "ytbbbnedaeiddiaa", sum := "37aef43c061548103290f67239515331136356611667bcf50fb948ec9136fe02", func := "loop.example/g00971/laws.FnExactResealed", spec := "fnExactResealed", inPlace := ["internal/abi.NoEscape"], unfollowed := true, recurses := true, apart := false }
def FnExactResealedSaid : Prop := fnExactResealedRow.holds Try.pinned (OpenSpec.ofChange fnExactResealedSpec)

/-- ITS FALSE NEIGHBOUR: 'it returns false'. Refute it at one input. -/
def fnExactResealedWrong : ChangeSpec := { name := "fnExactResealed", fn := fun _ => fun
  | [d1, d2] => { results := [.lit (.bool false)], args := [d1, d2] }
  | _ => none }
def FnExactResealedWrongFalsely : Prop := fnExactResealedRow.holds Try.pinned (OpenSpec.ofChange fnExactResealedWrong)

/-- 'laws.FnExactSealedOk': WHATEVER THE INPUT: true; the input reads as it did. -/
def fnExactSealedOkSpec : ChangeSpec := { name := "fnExactSealedOk", fn := fun _ => fun
  | [d] => { results := [.lit (.bool true)], args := [d] }
  | _ => none }
def fnExactSealedOkRow : OpenClaim := { program := "ytbbbnedaeiddiaa", sum := "37aef43c061548103290f67239515331136356611667bcf50fb948ec9136fe02", func := "loop.example/g00971/laws.FnExactSealedOk", spec := "fnExactSealedOk", inPlace := ["internal/abi.NoEscape"], unfollowed := true, recurses := true, apart := false }
def FnExactSealedOkSaid : Prop := fnExactSealedOkRow.holds Try.pinned (OpenSpec.ofChange fnExactSealedOkSpec)

/-- ITS FALSE NEIGHBOUR: 'it returns false'. Refute it at one input. -/
def fnExactSealedOkWrong : ChangeSpec := { name := "fnExactSealedOk", fn := fun _ => fun
  | [d] => { results := [.lit (.bool false)], args := [d] }
  | _ => none }
def FnExactSealedOkWrongFalsely : Prop := fnExactSealedOkRow.holds Try.pinned (OpenSpec.ofChange fnExactSealedOkWrong)

/-- 'laws.FnExactSealedAs': WHATEVER THE INPUT: true; the input reads as it did. -/
def fnExactSealedAsSpec : ChangeSpec := { name := "fnExactSealedAs", fn := fun _ => fun
  | [d1, d2] => { results := [.lit (.bool true)], args := [d1, d2] }
  | _ => none }
def fnExactSealedAsRow : OpenClaim := { program := "ytbbbnedaeiddiaa", sum := "37aef43c061548103290f67239515331136356611667bcf50fb948ec9136fe02", func := "loop.example/g00971/laws.FnExactSealedAs", spec := "fnExactSealedAs", inPlace := ["internal/abi.NoEscape"], unfollowed := true, recurses := true, apart := false }
def FnExactSealedAsSaid : Prop := fnExactSealedAsRow.holds Try.pinned (OpenSpec.ofChange fnExactSealedAsSpec)

/-- ITS FALSE NEIGHBOUR: 'it returns false'. Refute it at one input. -/
def fnExactSealedAsWrong : ChangeSpec := { name := "fnExactSealedAs", fn := fun _ => fun
  | [d1, d2] => { results := [.lit (.bool false)], args := [d1, d2] }
  | _ => none }
def FnExactSealedAsWrongFalsely : Prop := fnExactSealedAsRow.holds Try.pinned (OpenSpec.ofChange fnExactSealedAsWrong)

/-- 'laws.FnScans': WHATEVER THE INPUT: true; the input reads as it did. -/
def fnScansSpec : ChangeSpec := { name := "fnScans", fn := fun _ => fun
  | [d] => { results := [.lit (.bool true)], args := [d] }
  | _ => none }
def fnScansRow : OpenClaim := { program := "ytbbbnedaeiddiaa", sum := "37aef43c061548103290f67239515331136356611667bcf50fb948ec9136fe02", func := "loop.example/g00971/laws.FnScans", spec := "fnScans", apart := false }
def FnScansSaid : Prop := fnScansRow.holds Try.pinned (OpenSpec.ofChange fnScansSpec)

/-- ITS FALSE NEIGHBOUR: 'it returns false'. Refute it at one input. -/
def fnScansWrong : ChangeSpec := { name := "fnScans", fn := fun _ => fun
  | [d] => { results := [.lit (.bool false)], args := [d] }
  | _ => none }
def FnScansWrongFalsely : Prop := fnScansRow.holds Try.pinned (OpenSpec.ofChange fnScansWrong)

/-- 'laws.FnExactHeadIn': WHATEVER THE INPUT: true; the input reads as it did. -/
def fnExactHeadInSpec : ChangeSpec := { name := "fnExactHeadIn", fn := fun _ => fun
  | [d] => { results := [.lit (.bool true)], args := [d] }
  | _ => none }
def fnExactHeadInRow : OpenClaim := { program := "ytbbbnedaeiddiaa", sum := "37aef43c061548103290f67239515331136356611667bcf50fb948ec9136fe02", func := "loop.example/g00971/laws.FnExactHeadIn", spec := "fnExactHeadIn", inPlace := ["internal/abi.NoEscape"], unfollowed := true, recurses := true, apart := false }
def FnExactHeadInSaid : Prop := fnExactHeadInRow.holds Try.pinned (OpenSpec.ofChange fnExactHeadInSpec)

/-- ITS FALSE NEIGHBOUR: 'it returns false'. Refute it at one input. -/
def fnExactHeadInWrong : ChangeSpec := { name := "fnExactHeadIn", fn := fun _ => fun
  | [d] => { results := [.lit (.bool false)], args := [d] }
  | _ => none }
def FnExactHeadInWrongFalsely : Prop := fnExactHeadInRow.holds Try.pinned (OpenSpec.ofChange fnExactHeadInWrong)

/-- 'laws.FnExactSeekRecord': WHATEVER THE INPUT: true; the input reads as it did. -/
def fnExactSeekRecordSpec : ChangeSpec := { name := "fnExactSeekRecord", fn := fun _ => fun
  | [d1, d2] => { results := [.lit (.bool true)], args := [d1, d2] }
  | _ => none }
def fnExactSeekRecordRow : OpenClaim := { program := "ytbbbnedaeiddiaa", sum := "37aef43c061548103290f67239515331136356611667bcf50fb948ec9136fe02", func := "loop.example/g00971/laws.FnExactSeekRecord", spec := "fnExactSeekRecord", inPlace := ["internal/abi.NoEscape"], unfollowed := true, recurses := true, apart := false }
def FnExactSeekRecordSaid : Prop := fnExactSeekRecordRow.holds Try.pinned (OpenSpec.ofChange fnExactSeekRecordSpec)

/-- ITS FALSE NEIGHBOUR: 'it returns false'. Refute it at one input. -/
def fnExactSeekRecordWrong : ChangeSpec := { name := "fnExactSeekRecord", fn := fun _ => fun
  | [d1, d2] => { results := [.lit (.bool false)], args := [d1, d2] }
  | _ => none }
def FnExactSeekRecordWrongFalsely : Prop := fnExactSeekRecordRow.holds Try.pinned (OpenSpec.ofChange fnExactSeekRecordWrong)

/- THE SECOND FORM. 'bulk': how many values and letters a reading holds, each counted each time it is reached (what is shared counts as often as it is met; a slice's spare places count too). A statement '..UptoSaid' is the law's where the arguments, and the package variables that the reading takes, are together of bulk at most 1048576: NARROWER than '..Said'. Prove '..Said' where nothing that the law and all that it calls make is longer than what came in: it says more and counts as full. Else prove '..UptoSaid'. A law counts once. -/
mutual
def uptoBulk {H : Type} : DataW H → Nat
  | .lit (.string bytes) => bytes.length + 1
  | .lit _ => 1
  | .nil => 1
  | .ptr d => uptoBulk d + 1
  | .slice elems spare => uptoBulkAll elems + uptoBulkAll spare + 1
  | .agg parts => uptoBulkAll parts + 1
  | .iface _ d => uptoBulk d + 1
  | .map entries => uptoBulkEntries entries + 1
  | .held _ => 1
def uptoBulkAll {H : Type} : List (DataW H) → Nat
  | [] => 0
  | d :: r => uptoBulk d + uptoBulkAll r
def uptoBulkEntries {H : Type} : List (Lit × DataW H) → Nat
  | [] => 0
  | x :: r => uptoBulkEntry x + uptoBulkEntries r
def uptoBulkEntry {H : Type} : Lit × DataW H → Nat
  | (.string bytes, d) => bytes.length + uptoBulk d + 1
  | (_, d) => uptoBulk d + 1
 end
def uptoSmall : (H : Type) → List (DataW H) → Bool := fun _ ds => decide (uptoBulkAll ds ≤ 1048576)
def OpenSpec.upto (s : _root_.Go.ChangeSpec) : _root_.Go.OpenSpec := { _root_.Go.OpenSpec.ofChange s with cond := some uptoSmall }

/-- 'laws.FnExactSealText', WHERE WHAT IT READS IS OF BULK AT MOST 1048576: true; the input reads as it did. -/
def fnExactSealTextUptoRow : OpenClaim := { program := "ytbbbnedaeiddiaa", sum := "37aef43c061548103290f67239515331136356611667bcf50fb948ec9136fe02", func := "loop.example/g00971/laws.FnExactSealText", spec := "fnExactSealText", inPlace := ["internal/abi.NoEscape"], unfollowed := true, recurses := true, apart := false, narrowed := true }
def FnExactSealTextUptoSaid : Prop := fnExactSealTextUptoRow.holds Try.pinned (OpenSpec.upto fnExactSealTextSpec)

/-- 'laws.FnExactSealedSize', WHERE WHAT IT READS IS OF BULK AT MOST 1048576: true; the input reads as it did. -/
def fnExactSealedSizeUptoRow : OpenClaim := { program := "ytbbbnedaeiddiaa", sum := "37aef43c061548103290f67239515331136356611667bcf50fb948ec9136fe02", func := "loop.example/g00971/laws.FnExactSealedSize", spec := "fnExactSealedSize", inPlace := ["internal/abi.NoEscape"], unfollowed := true, recurses := true, apart := false, narrowed := true }
def FnExactSealedSizeUptoSaid : Prop := fnExactSealedSizeUptoRow.holds Try.pinned (OpenSpec.upto fnExactSealedSizeSpec)

/-- 'laws.FnExactRecordsIn', WHERE WHAT IT READS IS OF BULK AT MOST 1048576: true; the input reads as it did. -/
def fnExactRecordsInUptoRow : OpenClaim := { program := "ytbbbnedaeiddiaa", sum := "37aef43c061548103290f67239515331136356611667bcf50fb948ec9136fe02", func := "loop.example/g00971/laws.FnExactRecordsIn", spec := "fnExactRecordsIn", apart := false, narrowed := true }
def FnExactRecordsInUptoSaid : Prop := fnExactRecordsInUptoRow.holds Try.pinned (OpenSpec.upto fnExactRecordsInSpec)

/-- 'laws.FnTrailers', WHERE WHAT IT READS IS OF BULK AT MOST 1048576: true; the input reads as it did. -/
def fnTrailersUptoRow : OpenClaim := { program := "ytbbbnedaeiddiaa", sum := "37aef43c061548103290f67239515331136356611667bcf50fb948ec9136fe02", func := "loop.example/g00971/laws.FnTrailers", spec := "fnTrailers", inPlace := ["internal/abi.NoEscape"], apart := false, narrowed := true }
def FnTrailersUptoSaid : Prop := fnTrailersUptoRow.holds Try.pinned (OpenSpec.upto fnTrailersSpec)

/-- 'laws.FnExactScanText', WHERE WHAT IT READS IS OF BULK AT MOST 1048576: true; the input reads as it did. -/
def fnExactScanTextUptoRow : OpenClaim := { program := "ytbbbnedaeiddiaa", sum := "37aef43c061548103290f67239515331136356611667bcf50fb948ec9136fe02", func := "loop.example/g00971/laws.FnExactScanText", spec := "fnExactScanText", apart := false, narrowed := true }
def FnExactScanTextUptoSaid : Prop := fnExactScanTextUptoRow.holds Try.pinned (OpenSpec.upto fnExactScanTextSpec)

/-- 'laws.FnTails', WHERE WHAT IT READS IS OF BULK AT MOST 1048576: true; the input reads as it did. -/
def fnTailsUptoRow : OpenClaim := { program := "ytbbbnedaeiddiaa", sum := "37aef43c061548103290f67239515331136356611667bcf50fb948ec9136fe02", func := "loop.example/g00971/laws.FnTails", spec := "fnTails", apart := false, narrowed := true }
def FnTailsUptoSaid : Prop := fnTailsUptoRow.holds Try.pinned (OpenSpec.upto fnTailsSpec)

/-- 'laws.FnExactResealed', WHERE WHAT IT READS IS OF BULK AT MOST 1048576: true; the input reads as it did. -/
def fnExactResealedUptoRow : OpenClaim := { program := "ytbbbnedaeiddiaa", sum := "37aef43c061548103290f67239515331136356611667bcf50fb948ec9136fe02", func := "loop.example/g00971/laws.FnExactResealed", spec := "fnExactResealed", inPlace := ["internal/abi.NoEscape"], unfollowed := true, recurses := true, apart := false, narrowed := true }
def FnExactResealedUptoSaid : Prop := fnExactResealedUptoRow.holds Try.pinned (OpenSpec.upto fnExactResealedSpec)

/-- 'laws.FnExactSealedOk', WHERE WHAT IT READS IS OF BULK AT MOST 1048576: true; the input reads as it did. -/
def fnExactSealedOkUptoRow : OpenClaim := { program := "ytbbbnedaeiddiaa", sum := "37aef43c061548103290f67239515331136356611667bcf50fb948ec9136fe02", func := "loop.example/g00971/laws.FnExactSealedOk", spec := "fnExactSealedOk", inPlace := ["internal/abi.NoEscape"], unfollowed := true, recurses := true, apart := false, narrowed := true }
def FnExactSealedOkUptoSaid : Prop := fnExactSealedOkUptoRow.holds Try.pinned (OpenSpec.upto fnExactSealedOkSpec)

/-- 'laws.FnExactSealedAs', WHERE WHAT IT READS IS OF BULK AT MOST 1048576: true; the input reads as it did. -/
def fnExactSealedAsUptoRow : OpenClaim := { program := "ytbbbnedaeiddiaa", sum := "37aef43c061548103290f67239515331136356611667bcf50fb948ec9136fe02", func := "loop.example/g00971/laws.FnExactSealedAs", spec := "fnExactSealedAs", inPlace := ["internal/abi.NoEscape"], unfollowed := true, recurses := true, apart := false, narrowed := true }
def FnExactSealedAsUptoSaid : Prop := fnExactSealedAsUptoRow.holds Try.pinned (OpenSpec.upto fnExactSealedAsSpec)

/-- 'laws.FnScans', WHERE WHAT IT READS IS OF BULK AT MOST 1048576: true; the input reads as it did. -/
def fnScansUptoRow : OpenClaim := { program := "ytbbbnedaeiddiaa", sum := "37aef43c061548103290f67239515331136356611667bcf50fb948ec9136fe02", func := "loop.example/g00971/laws.FnScans", spec := "fnScans", apart := false, narrowed := true }
def FnScansUptoSaid : Prop := fnScansUptoRow.holds Try.pinned (OpenSpec.upto fnScansSpec)

/-- 'laws.FnExactHeadIn', WHERE WHAT IT READS IS OF BULK AT MOST 1048576: true; the input reads as it did. -/
def fnExactHeadInUptoRow : OpenClaim := { program := "ytbbbnedaeiddiaa", sum := "37aef43c061548103290f67239515331136356611667bcf50fb948ec9136fe02", func := "loop.example/g00971/laws.FnExactHeadIn", spec := "fnExactHeadIn", inPlace := ["internal/abi.NoEscape"], unfollowed := true, recurses := true, apart := false, narrowed := true }
def FnExactHeadInUptoSaid : Prop := fnExactHeadInUptoRow.holds Try.pinned (OpenSpec.upto fnExactHeadInSpec)

/-- 'laws.FnExactSeekRecord', WHERE WHAT IT READS IS OF BULK AT MOST 1048576: true; the input reads as it did. -/
def fnExactSeekRecordUptoRow : OpenClaim := { program := "ytbbbnedaeiddiaa", sum := "37aef43c061548103290f67239515331136356611667bcf50fb948ec9136fe02", func := "loop.example/g00971/laws.FnExactSeekRecord", spec := "fnExactSeekRecord", inPlace := ["internal/abi.NoEscape"], unfollowed := true, recurses := true, apart := false, narrowed := true }
def FnExactSeekRecordUptoSaid : Prop := fnExactSeekRecordUptoRow.holds Try.pinned (OpenSpec.upto fnExactSeekRecordSpec)

end Rows
end Go.Proofs.Ytbbbnedaeiddiaa
