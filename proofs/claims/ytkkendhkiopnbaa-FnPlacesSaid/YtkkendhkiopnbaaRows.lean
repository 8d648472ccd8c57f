/-
  No cell of these rows narrows 'for every input' (looked for: loops, veiled, ifaces, maps, wideKeys, modest, calm, conditions, laid).
  DERIVED. THE GIVEN ROWS OF THIS SEAT. 12 by the template 'for every input the law returns true; each argument reads behind the call as it read before'; 0 by the template 'total and deterministic' (their statements: YtkkendhkiopnbaaTotals.lean).
  GIVEN WITH THE SEED: the statements are not yours to turn. If you find one false, say at which input.
  Laid BY PROGRAM, IN A SANDBOX (cutbox-rows.mjs): the forced cells as the released guide's own fill.sh prints them over the translation a946316c765999b9… (all of the seat's roots in one cut). By AI agents, Wed Nov 11 2026. No macro, syntax, notation, axiom, sorry.
-/
import Derived.Test.YtkkendhkiopnbaaChecked
import GoSem.Claim
import GoSem.ClaimJoined
import GoSem.ClaimMapViews
import Derived.JoinedTies
import Derived.KernelRfl
namespace Go.Proofs.Ytkkendhkiopnbaa
/- THE CELL 'sum', in the pinned program and in every row, IS THE sha256 OF THE DUMP (.gsa) THAT YtkkendhkiopnbaaProg.lean LOADS. Nothing in Lean hashes anything: it is a label: what it is worth is what the hold of that sum in a sandbox is worth. -/
noncomputable def Try.pinned : Pinned := { name := "ytkkendhkiopnbaa", sum := "a946316c765999b9473a416e60312175f08487e42b2a49d6c6e919eadc76b85f", checked := Try.checked }
namespace Rows
def none {H : Type} : Left H := { results := [], args := [] }

/-- 'laws.FnExactReadPlaces': WHATEVER THE INPUT: true; the input reads as it did. -/
def fnExactReadPlacesSpec : ChangeSpec := { name := "fnExactReadPlaces", fn := fun _ => fun
  | [d1, d2] => { results := [.lit (.bool true)], args := [d1, d2] }
  | _ => none }
def fnExactReadPlacesRow : OpenClaim := { program := "ytkkendhkiopnbaa", sum := "a946316c765999b9473a416e60312175f08487e42b2a49d6c6e919eadc76b85f", func := "loop.example/g00971/laws.FnExactReadPlaces", spec := "fnExactReadPlaces", apart := false }
def FnExactReadPlacesSaid : Prop := fnExactReadPlacesRow.holds Try.pinned (OpenSpec.ofChange fnExactReadPlacesSpec)

/-- ITS FALSE NEIGHBOUR: 'it returns false'. Refute it at one input. -/
def fnExactReadPlacesWrong : ChangeSpec := { name := "fnExactReadPlaces", fn := fun _ => fun
  | [d1, d2] => { results := [.lit (.bool false)], args := [d1, d2] }
  | _ => none }
def FnExactReadPlacesWrongFalsely : Prop := fnExactReadPlacesRow.holds Try.pinned (OpenSpec.ofChange fnExactReadPlacesWrong)

/-- 'laws.FnExactGoesOn': WHATEVER THE INPUT: true; the input reads as it did. -/
def fnExactGoesOnSpec : ChangeSpec := { name := "fnExactGoesOn", fn := fun _ => fun
  | [d1, d2, d3] => { results := [.lit (.bool true)], args := [d1, d2, d3] }
  | _ => none }
def fnExactGoesOnRow : OpenClaim := { program := "ytkkendhkiopnbaa", sum := "a946316c765999b9473a416e60312175f08487e42b2a49d6c6e919eadc76b85f", func := "loop.example/g00971/laws.FnExactGoesOn", spec := "fnExactGoesOn", apart := false }
def FnExactGoesOnSaid : Prop := fnExactGoesOnRow.holds Try.pinned (OpenSpec.ofChange fnExactGoesOnSpec)

/-- ITS FALSE NEIGHBOUR: 'it returns false'. Refute it at one input. -/
def fnExactGoesOnWrong : ChangeSpec := { name := "fnExactGoesOn", fn := fun _ => fun
  | [d1, d2, d3] => { results := [.lit (.bool false)], args := [d1, d2, d3] }
  | _ => none }
def FnExactGoesOnWrongFalsely : Prop := fnExactGoesOnRow.holds Try.pinned (OpenSpec.ofChange fnExactGoesOnWrong)

/-- 'laws.FnExactReadHead': WHATEVER THE INPUT: true; the input reads as it did. -/
def fnExactReadHeadSpec : ChangeSpec := { name := "fnExactReadHead", fn := fun _ => fun
  | [d] => { results := [.lit (.bool true)], args := [d] }
  | _ => none }
def fnExactReadHeadRow : OpenClaim := { program := "ytkkendhkiopnbaa", sum := "a946316c765999b9473a416e60312175f08487e42b2a49d6c6e919eadc76b85f", func := "loop.example/g00971/laws.FnExactReadHead", spec := "fnExactReadHead", apart := false }
def FnExactReadHeadSaid : Prop := fnExactReadHeadRow.holds Try.pinned (OpenSpec.ofChange fnExactReadHeadSpec)

/-- ITS FALSE NEIGHBOUR: 'it returns false'. Refute it at one input. -/
def fnExactReadHeadWrong : ChangeSpec := { name := "fnExactReadHead", fn := fun _ => fun
  | [d] => { results := [.lit (.bool false)], args := [d] }
  | _ => none }
def FnExactReadHeadWrongFalsely : Prop := fnExactReadHeadRow.holds Try.pinned (OpenSpec.ofChange fnExactReadHeadWrong)

/-- 'laws.FnExactReadFrame': WHATEVER THE INPUT: true; the input reads as it did. -/
def fnExactReadFrameSpec : ChangeSpec := { name := "fnExactReadFrame", fn := fun _ => fun
  | [d1, d2, d3, d4] => { results := [.lit (.bool true)], args := [d1, d2, d3, d4] }
  | _ => none }
def fnExactReadFrameRow : OpenClaim := { program := "ytkkendhkiopnbaa", sum := "a946316c765999b9473a416e60312175f08487e42b2a49d6c6e919eadc76b85f", func := "loop.example/g00971/laws.FnExactReadFrame", spec := "fnExactReadFrame", apart := false }
def FnExactReadFrameSaid : Prop := fnExactReadFrameRow.holds Try.pinned (OpenSpec.ofChange fnExactReadFrameSpec)

/-- ITS FALSE NEIGHBOUR: 'it returns false'. Refute it at one input. -/
def fnExactReadFrameWrong : ChangeSpec := { name := "fnExactReadFrame", fn := fun _ => fun
  | [d1, d2, d3, d4] => { results := [.lit (.bool false)], args := [d1, d2, d3, d4] }
  | _ => none }
def FnExactReadFrameWrongFalsely : Prop := fnExactReadFrameRow.holds Try.pinned (OpenSpec.ofChange fnExactReadFrameWrong)

/-- 'laws.FnExactFootText': WHATEVER THE INPUT: true; the input reads as it did. -/
def fnExactFootTextSpec : ChangeSpec := { name := "fnExactFootText", fn := fun _ => fun
  | [d1, d2, d3] => { results := [.lit (.bool true)], args := [d1, d2, d3] }
  | _ => none }
def fnExactFootTextRow : OpenClaim := { program := "ytkkendhkiopnbaa", sum := "a946316c765999b9473a416e60312175f08487e42b2a49d6c6e919eadc76b85f", func := "loop.example/g00971/laws.FnExactFootText", spec := "fnExactFootText", inPlace := ["internal/abi.NoEscape"], apart := false }
def FnExactFootTextSaid : Prop := fnExactFootTextRow.holds Try.pinned (OpenSpec.ofChange fnExactFootTextSpec)

/-- ITS FALSE NEIGHBOUR: 'it returns false'. Refute it at one input. -/
def fnExactFootTextWrong : ChangeSpec := { name := "fnExactFootText", fn := fun _ => fun
  | [d1, d2, d3] => { results := [.lit (.bool false)], args := [d1, d2, d3] }
  | _ => none }
def FnExactFootTextWrongFalsely : Prop := fnExactFootTextRow.holds Try.pinned (OpenSpec.ofChange fnExactFootTextWrong)

/-- 'laws.FnPlaces': WHATEVER THE INPUT: true; the input reads as it did. -/
def fnPlacesSpec : ChangeSpec := { name := "fnPlaces", fn := fun _ => fun
  | [d] => { results := [.lit (.bool true)], args := [d] }
  | _ => none }
def fnPlacesRow : OpenClaim := { program := "ytkkendhkiopnbaa", sum := "a946316c765999b9473a416e60312175f08487e42b2a49d6c6e919eadc76b85f", func := "loop.example/g00971/laws.FnPlaces", spec := "fnPlaces", inPlace := ["internal/abi.NoEscape"], apart := false }
def FnPlacesSaid : Prop := fnPlacesRow.holds Try.pinned (OpenSpec.ofChange fnPlacesSpec)

/-- ITS FALSE NEIGHBOUR: 'it returns false'. Refute it at one input. -/
def fnPlacesWrong : ChangeSpec := { name := "fnPlaces", fn := fun _ => fun
  | [d] => { results := [.lit (.bool false)], args := [d] }
  | _ => none }
def FnPlacesWrongFalsely : Prop := fnPlacesRow.holds Try.pinned (OpenSpec.ofChange fnPlacesWrong)

/-- 'laws.FnFrames': WHATEVER THE INPUT: true; the input reads as it did. -/
def fnFramesSpec : ChangeSpec := { name := "fnFrames", fn := fun _ => fun
  | [d] => { results := [.lit (.bool true)], args := [d] }
  | _ => none }
def fnFramesRow : OpenClaim := { program := "ytkkendhkiopnbaa", sum := "a946316c765999b9473a416e60312175f08487e42b2a49d6c6e919eadc76b85f", func := "loop.example/g00971/laws.FnFrames", spec := "fnFrames", apart := false }
def FnFramesSaid : Prop := fnFramesRow.holds Try.pinned (OpenSpec.ofChange fnFramesSpec)

/-- ITS FALSE NEIGHBOUR: 'it returns false'. Refute it at one input. -/
def fnFramesWrong : ChangeSpec := { name := "fnFrames", fn := fun _ => fun
  | [d] => { results := [.lit (.bool false)], args := [d] }
  | _ => none }
def FnFramesWrongFalsely : Prop := fnFramesRow.holds Try.pinned (OpenSpec.ofChange fnFramesWrong)

/-- 'laws.FnExactSizeScanned': WHATEVER THE INPUT: true; the input reads as it did. -/
def fnExactSizeScannedSpec : ChangeSpec := { name := "fnExactSizeScanned", fn := fun _ => fun
  | [d] => { results := [.lit (.bool true)], args := [d] }
  | _ => none }
def fnExactSizeScannedRow : OpenClaim := { program := "ytkkendhkiopnbaa", sum := "a946316c765999b9473a416e60312175f08487e42b2a49d6c6e919eadc76b85f", func := "loop.example/g00971/laws.FnExactSizeScanned", spec := "fnExactSizeScanned", apart := false }
def FnExactSizeScannedSaid : Prop := fnExactSizeScannedRow.holds Try.pinned (OpenSpec.ofChange fnExactSizeScannedSpec)

/-- ITS FALSE NEIGHBOUR: 'it returns false'. Refute it at one input. -/
def fnExactSizeScannedWrong : ChangeSpec := { name := "fnExactSizeScanned", fn := fun _ => fun
  | [d] => { results := [.lit (.bool false)], args := [d] }
  | _ => none }
def FnExactSizeScannedWrongFalsely : Prop := fnExactSizeScannedRow.holds Try.pinned (OpenSpec.ofChange fnExactSizeScannedWrong)

/-- 'laws.FnExactTailOf': WHATEVER THE INPUT: true; the input reads as it did. -/
def fnExactTailOfSpec : ChangeSpec := { name := "fnExactTailOf", fn := fun _ => fun
  | [d] => { results := [.lit (.bool true)], args := [d] }
  | _ => none }
def fnExactTailOfRow : OpenClaim := { program := "ytkkendhkiopnbaa", sum := "a946316c765999b9473a416e60312175f08487e42b2a49d6c6e919eadc76b85f", func := "loop.example/g00971/laws.FnExactTailOf", spec := "fnExactTailOf", apart := false }
def FnExactTailOfSaid : Prop := fnExactTailOfRow.holds Try.pinned (OpenSpec.ofChange fnExactTailOfSpec)

/-- ITS FALSE NEIGHBOUR: 'it returns false'. Refute it at one input. -/
def fnExactTailOfWrong : ChangeSpec := { name := "fnExactTailOf", fn := fun _ => fun
  | [d] => { results := [.lit (.bool false)], args := [d] }
  | _ => none }
def FnExactTailOfWrongFalsely : Prop := fnExactTailOfRow.holds Try.pinned (OpenSpec.ofChange fnExactTailOfWrong)

/-- 'laws.FnExactOpenOk': WHATEVER THE INPUT: true; the input reads as it did. -/
def fnExactOpenOkSpec : ChangeSpec := { name := "fnExactOpenOk", fn := fun _ => fun
  | [d] => { results := [.lit (.bool true)], args := [d] }
  | _ => none }
def fnExactOpenOkRow : OpenClaim := { program := "ytkkendhkiopnbaa", sum := "a946316c765999b9473a416e60312175f08487e42b2a49d6c6e919eadc76b85f", func := "loop.example/g00971/laws.FnExactOpenOk", spec := "fnExactOpenOk", apart := false }
def FnExactOpenOkSaid : Prop := fnExactOpenOkRow.holds Try.pinned (OpenSpec.ofChange fnExactOpenOkSpec)

/-- ITS FALSE NEIGHBOUR: 'it returns false'. Refute it at one input. -/
def fnExactOpenOkWrong : ChangeSpec := { name := "fnExactOpenOk", fn := fun _ => fun
  | [d] => { results := [.lit (.bool false)], args := [d] }
  | _ => none }
def FnExactOpenOkWrongFalsely : Prop := fnExactOpenOkRow.holds Try.pinned (OpenSpec.ofChange fnExactOpenOkWrong)

/-- 'laws.FnExactOffsetOf': WHATEVER THE INPUT: true; the input reads as it did. -/
def fnExactOffsetOfSpec : ChangeSpec := { name := "fnExactOffsetOf", fn := fun _ => fun
  | [d1, d2] => { results := [.lit (.bool true)], args := [d1, d2] }
  | _ => none }
def fnExactOffsetOfRow : OpenClaim := { program := "ytkkendhkiopnbaa", sum := "a946316c765999b9473a416e60312175f08487e42b2a49d6c6e919eadc76b85f", func := "loop.example/g00971/laws.FnExactOffsetOf", spec := "fnExactOffsetOf", apart := false }
def FnExactOffsetOfSaid : Prop := fnExactOffsetOfRow.holds Try.pinned (OpenSpec.ofChange fnExactOffsetOfSpec)

/-- ITS FALSE NEIGHBOUR: 'it returns false'. Refute it at one input. -/
def fnExactOffsetOfWrong : ChangeSpec := { name := "fnExactOffsetOf", fn := fun _ => fun
  | [d1, d2] => { results := [.lit (.bool false)], args := [d1, d2] }
  | _ => none }
def FnExactOffsetOfWrongFalsely : Prop := fnExactOffsetOfRow.holds Try.pinned (OpenSpec.ofChange fnExactOffsetOfWrong)

/-- 'laws.FnExactLinkAfter': WHATEVER THE INPUT: true; the input reads as it did. -/
def fnExactLinkAfterSpec : ChangeSpec := { name := "fnExactLinkAfter", fn := fun _ => fun
  | [d] => { results := [.lit (.bool true)], args := [d] }
  | _ => none }
def fnExactLinkAfterRow : OpenClaim := { program := "ytkkendhkiopnbaa", sum := "a946316c765999b9473a416e60312175f08487e42b2a49d6c6e919eadc76b85f", func := "loop.example/g00971/laws.FnExactLinkAfter", spec := "fnExactLinkAfter", apart := false }
def FnExactLinkAfterSaid : Prop := fnExactLinkAfterRow.holds Try.pinned (OpenSpec.ofChange fnExactLinkAfterSpec)

/-- ITS FALSE NEIGHBOUR: 'it returns false'. Refute it at one input. -/
def fnExactLinkAfterWrong : ChangeSpec := { name := "fnExactLinkAfter", fn := fun _ => fun
  | [d] => { results := [.lit (.bool false)], args := [d] }
  | _ => none }
def FnExactLinkAfterWrongFalsely : Prop := fnExactLinkAfterRow.holds Try.pinned (OpenSpec.ofChange fnExactLinkAfterWrong)

/- THE SECOND FORM. 'bulk': how many values and letters a reading holds, each counted each time it is reached (what is shared counts as often as it is met; a slice's spare places count too). A statement '..UptoSaid' is the law's where the arguments, and the package variables that the reading takes, are together of bulk at most 1048576: NARROWER than '..Said'. Prove '..Said' where nothing that the law and all that it calls make is longer than what came in: it says more and counts as full. Else prove '..UptoSaid'. A law counts once. -/
mutual
def uptoBulk {H : Type} : DataW H → Nat
  | .lit (.string bytes) => bytes.length + 1
  | .lit _ => 1
  | .nil => 1
  | .ptr d => uptoBulk d + 1
  | .slice elems spare => uptoBulkAll elems + uptoBulkAll spare + 1
  | .agg parts => uptoBulkAll parts + 1
  | .iface _ d => uptoBulk d + 1
  | .map entries => uptoBulkEntries entries + 1
  | .held _ => 1
def uptoBulkAll {H : Type} : List (DataW H) → Nat
  | [] => 0
  | d :: r => uptoBulk d + uptoBulkAll r
def uptoBulkEntries {H : Type} : List (Lit × DataW H) → Nat
  | [] => 0
  | x :: r => uptoBulkEntry x + uptoBulkEntries r
def uptoBulkEntry {H : Type} : Lit × DataW H → Nat
  | (.string bytes, d) => bytes.length + uptoBulk d + 1
  | (_, d) => uptoBulk d + 1
 end
def uptoSmall : (H : Type) → List (DataW H) → Bool := fun _ ds => decide (uptoBulkAll ds ≤ 1048576)
def OpenSpec.upto (s : _root_.Go.ChangeSpec) : _root_.Go.OpenSpec := { _root_.Go.OpenSpec.ofChange s with cond := some uptoSmall }

/-- 'laws.FnExactReadPlaces', WHERE WHAT IT READS IS OF BULK AT MOST 1048576: true; the input reads as it did. -/
def fnExactReadPlacesUptoRow : OpenClaim := { program := "ytkkendhkiopnbaa", sum := "a946316c765999b9473a416e60312175f08487e42b2a49d6c6e919eadc76b85f", func := "loop.example/g00971/laws.FnExactReadPlaces", spec := "fnExactReadPlaces", apart := false, narrowed := true }
def FnExactReadPlacesUptoSaid : Prop := fnExactReadPlacesUptoRow.holds Try.pinned (OpenSpec.upto fnExactReadPlacesSpec)

/-- 'laws.FnExactGoesOn', WHERE WHAT IT READS IS OF BULK AT MOST 1048576: true; the input reads as it did. -/
def fnExactGoesOnUptoRow : OpenClaim := { program := "ytkkendhkiopnbaa", sum := "a946316c765999b9473a416e60312175f08487e42b2a49d6c6e919eadc76b85f", func := "loop.example/g00971/laws.FnExactGoesOn", spec := "fnExactGoesOn", apart := false, narrowed := true }
def FnExactGoesOnUptoSaid : Prop := fnExactGoesOnUptoRow.holds Try.pinned (OpenSpec.upto fnExactGoesOnSpec)

/-- 'laws.FnExactReadHead', WHERE WHAT IT READS IS OF BULK AT MOST 1048576: true; the input reads as it did. -/
def fnExactReadHeadUptoRow : OpenClaim := { program := "ytkkendhkiopnbaa", sum := "a946316c765999b9473a416e60312175f08487e42b2a49d6c6e919eadc76b85f", func := "loop.example/g00971/laws.FnExactReadHead", spec := "fnExactReadHead", apart := false, narrowed := true }
def FnExactReadHeadUptoSaid : Prop := fnExactReadHeadUptoRow.holds Try.pinned (OpenSpec.upto fnExactReadHeadSpec)

/-- 'laws.FnExactReadFrame', WHERE WHAT IT READS IS OF BULK AT MOST 1048576: true; the input reads as it did. -/
def fnExactReadFrameUptoRow : OpenClaim := { program := "ytkkendhkiopnbaa", sum := "a946316c765999b9473a416e60312175f08487e42b2a49d6c6e919eadc76b85f", func := "loop.example/g00971/laws.FnExactReadFrame", spec := "fnExactReadFrame", apart := false, narrowed := true }
def FnExactReadFrameUptoSaid : Prop := fnExactReadFrameUptoRow.holds Try.pinned (OpenSpec.upto fnExactReadFrameSpec)

/-- 'laws.FnExactFootText', WHERE WHAT IT READS IS OF BULK AT MOST 1048576: true; the input reads as it did. -/
def fnExactFootTextUptoRow : OpenClaim := { program := "ytkkendhkiopnbaa", sum := "a946316c765999b9473a416e60312175f08487e42b2a49d6c6e919eadc76b85f", func := "loop.example/g00971/laws.FnExactFootText", spec := "fnExactFootText", inPlace := ["internal/abi.NoEscape"], apart := false, narrowed := true }
def FnExactFootTextUptoSaid : Prop := fnExactFootTextUptoRow.holds Try.pinned (OpenSpec.upto fnExactFootTextSpec)

/-- 'laws.FnPlaces', WHERE WHAT IT READS IS OF BULK AT MOST 1048576: true; the input reads as it did. -/
def fnPlacesUptoRow : OpenClaim := { program := "ytkkendhkiopnbaa", sum := "a946316c765999b9473a416e60312175f08487e42b2a49d6c6e919eadc76b85f", func := "loop.example/g00971/laws.FnPlaces", spec := "fnPlaces", inPlace := ["internal/abi.NoEscape"], apart := false, narrowed := true }
def FnPlacesUptoSaid : Prop := fnPlacesUptoRow.holds Try.pinned (OpenSpec.upto fnPlacesSpec)

/-- 'laws.FnFrames', WHERE WHAT IT READS IS OF BULK AT MOST 1048576: true; the input reads as it did. -/
def fnFramesUptoRow : OpenClaim := { program := "ytkkendhkiopnbaa", sum := "a946316c765999b9473a416e60312175f08487e42b2a49d6c6e919eadc76b85f", func := "loop.example/g00971/laws.FnFrames", spec := "fnFrames", apart := false, narrowed := true }
def FnFramesUptoSaid : Prop := fnFramesUptoRow.holds Try.pinned (OpenSpec.upto fnFramesSpec)

/-- 'laws.FnExactSizeScanned', WHERE WHAT IT READS IS OF BULK AT MOST 1048576: true; the input reads as it did. -/
def fnExactSizeScannedUptoRow : OpenClaim := { program := "ytkkendhkiopnbaa", sum := "a946316c765999b9473a416e60312175f08487e42b2a49d6c6e919eadc76b85f", func := "loop.example/g00971/laws.FnExactSizeScanned", spec := "fnExactSizeScanned", apart := false, narrowed := true }
def FnExactSizeScannedUptoSaid : Prop := fnExactSizeScannedUptoRow.holds Try.pinned (OpenSpec.upto fnExactSizeScannedSpec)

/-- 'laws.FnExactTailOf', WHERE WHAT IT READS IS OF BULK AT MOST 1048576: true; the input reads as it did. -/
def fnExactTailOfUptoRow : OpenClaim := { program := "ytkkendhkiopnbaa", sum := "a946316c765999b9473a416e60312175f08487e42b2a49d6c6e919eadc76b85f", func := "loop.example/g00971/laws.FnExactTailOf", spec := "fnExactTailOf", apart := false, narrowed := true }
def FnExactTailOfUptoSaid : Prop := fnExactTailOfUptoRow.holds Try.pinned (OpenSpec.upto fnExactTailOfSpec)

/-- 'laws.FnExactOpenOk', WHERE WHAT IT READS IS OF BULK AT MOST 1048576: true; the input reads as it did. -/
def fnExactOpenOkUptoRow : OpenClaim := { program := "ytkkendhkiopnbaa", sum := "a946316c765999b9473a416e60312175f08487e42b2a49d6c6e919eadc76b85f", func := "loop.example/g00971/laws.FnExactOpenOk", spec := "fnExactOpenOk", apart := false, narrowed := true }
def FnExactOpenOkUptoSaid : Prop := fnExactOpenOkUptoRow.holds Try.pinned (OpenSpec.upto fnExactOpenOkSpec)

/-- 'laws.FnExactOffsetOf', WHERE WHAT IT READS IS OF BULK AT MOST 1048576: true; the input reads as it did. -/
def fnExactOffsetOfUptoRow : OpenClaim := { program := "ytkkendhkiopnbaa", sum := "a946316c765999b9473a416e60312175f08487e42b2a49d6c6e919eadc76b85f", func := "loop.example/g00971/laws.FnExactOffsetOf", spec := "fnExactOffsetOf", apart := false, narrowed := true }
def FnExactOffsetOfUptoSaid : Prop := fnExactOffsetOfUptoRow.holds Try.pinned (OpenSpec.upto fnExactOffsetOfSpec)

/-- 'laws.FnExactLinkAfter', WHERE WHAT IT READS IS OF BULK AT MOST 1048576: true; the input reads as it did. -/
def fnExactLinkAfterUptoRow : OpenClaim := { program := "ytkkendhkiopnbaa", sum := "a946316c765999b9473a416e60312175f08487e42b2a49d6c6e919eadc76b85f", func := "loop.example/g00971/laws.FnExactLinkAfter", spec := "fnExactLinkAfter", apart := false, narrowed := true }
def FnExactLinkAfterUptoSaid : Prop := fnExactLinkAfterUptoRow.holds Try.pinned (OpenSpec.upto fnExactLinkAfterSpec)

end Rows
end Go.Proofs.Ytkkendhkiopnbaa
