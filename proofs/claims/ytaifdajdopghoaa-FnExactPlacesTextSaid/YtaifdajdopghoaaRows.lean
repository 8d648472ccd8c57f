/-
  No cell of these rows narrows 'for every input' (looked for: loops, veiled, ifaces, maps, wideKeys, modest, calm, conditions, laid).
  DERIVED. THE GIVEN ROWS OF THIS SEAT. 12 by the template 'for every input the law returns true; each argument reads behind the call as it read before'; 0 by the template 'total and deterministic' (their statements: YtaifdajdopghoaaTotals.lean).
  GIVEN WITH THE SEED: the statements are not yours to turn. If you find one false, say at which input.
  Laid BY PROGRAM, IN A SANDBOX (cutbox-rows.mjs): the forced cells as the released guide's own fill.sh prints them over the translation fd038274c3e339dc… (all of the seat's roots in one cut). By AI agents, Wed Nov 11 2026. No macro, syntax, notation, axiom, sorry.
-/
import Derived.Test.YtaifdajdopghoaaChecked
import GoSem.Claim
import GoSem.ClaimJoined
import GoSem.ClaimMapViews
import Derived.JoinedTies
import Derived.KernelRfl
namespace Go.Proofs.Ytaifdajdopghoaa
/- THE CELL 'sum', in the pinned program and in every row, IS THE sha256 OF THE DUMP (.gsa) THAT YtaifdajdopghoaaProg.lean LOADS. Nothing in Lean hashes anything: it is a label: what it is worth is what the hold of that sum in a sandbox is worth. -/
noncomputable def Try.pinned : Pinned := { name := "ytaifdajdopghoaa", sum := "fd038274c3e339dcb960f11bdc1b206e7481f12daac471b50390e1c27a76f72b", checked := Try.checked }
namespace Rows
def none {H : Type} : Left H := { results := [], args := [] }

/-- 'laws.FnExactFindingName': WHATEVER THE INPUT: true; the input reads as it did. -/
def fnExactFindingNameSpec : ChangeSpec := { name := "fnExactFindingName", fn := fun _ => fun
  | [d] => { results := [.lit (.bool true)], args := [d] }
  | _ => none }
def fnExactFindingNameRow : OpenClaim := { program := "ytaifdajdopghoaa", sum := "fd038274c3e339dcb960f11bdc1b206e7481f12daac471b50390e1c27a76f72b", func := "loop.example/g00971/laws.FnExactFindingName", spec := "fnExactFindingName", apart := false }
def FnExactFindingNameSaid : Prop := fnExactFindingNameRow.holds Try.pinned (OpenSpec.ofChange fnExactFindingNameSpec)

/-- ITS FALSE NEIGHBOUR: 'it returns false'. Refute it at one input. -/
def fnExactFindingNameWrong : ChangeSpec := { name := "fnExactFindingName", fn := fun _ => fun
  | [d] => { results := [.lit (.bool false)], args := [d] }
  | _ => none }
def FnExactFindingNameWrongFalsely : Prop := fnExactFindingNameRow.holds Try.pinned (OpenSpec.ofChange fnExactFindingNameWrong)

/-- 'laws.FnExactTrailerText': WHATEVER THE INPUT: true; the input reads as it did. -/
def fnExactTrailerTextSpec : ChangeSpec := { name := "fnExactTrailerText", fn := fun _ => fun
  | [d1, d2, d3, d4] => { results := [.lit (.bool true)], args := [d1, d2, d3, d4] }
  | _ => none }
def fnExactTrailerTextRow : OpenClaim := { program := "ytaifdajdopghoaa", sum := "fd038274c3e339dcb960f11bdc1b206e7481f12daac471b50390e1c27a76f72b", func := "loop.example/g00971/laws.FnExactTrailerText", spec := "fnExactTrailerText", apart := false }
def FnExactTrailerTextSaid : Prop := fnExactTrailerTextRow.holds Try.pinned (OpenSpec.ofChange fnExactTrailerTextSpec)

/-- ITS FALSE NEIGHBOUR: 'it returns false'. Refute it at one input. -/
def fnExactTrailerTextWrong : ChangeSpec := { name := "fnExactTrailerText", fn := fun _ => fun
  | [d1, d2, d3, d4] => { results := [.lit (.bool false)], args := [d1, d2, d3, d4] }
  | _ => none }
def FnExactTrailerTextWrongFalsely : Prop := fnExactTrailerTextRow.holds Try.pinned (OpenSpec.ofChange fnExactTrailerTextWrong)

/-- 'laws.FnExactPlaceFor': WHATEVER THE INPUT: true; the input reads as it did. -/
def fnExactPlaceForSpec : ChangeSpec := { name := "fnExactPlaceFor", fn := fun _ => fun
  | [d1, d2] => { results := [.lit (.bool true)], args := [d1, d2] }
  | _ => none }
def fnExactPlaceForRow : OpenClaim := { program := "ytaifdajdopghoaa", sum := "fd038274c3e339dcb960f11bdc1b206e7481f12daac471b50390e1c27a76f72b", func := "loop.example/g00971/laws.FnExactPlaceFor", spec := "fnExactPlaceFor", apart := false }
def FnExactPlaceForSaid : Prop := fnExactPlaceForRow.holds Try.pinned (OpenSpec.ofChange fnExactPlaceForSpec)

/-- ITS FALSE NEIGHBOUR: 'it returns false'. Refute it at one input. -/
def fnExactPlaceForWrong : ChangeSpec := { name := "fnExactPlaceFor", fn := fun _ => fun
  | [d1, d2] => { results := [.lit (.bool false)], args := [d1, d2] }
  | _ => none }
def FnExactPlaceForWrongFalsely : Prop := fnExactPlaceForRow.holds Try.pinned (OpenSpec.ofChange fnExactPlaceForWrong)

/-- 'laws.FnExactReadTrailer': WHATEVER THE INPUT: true; the input reads as it did. -/
def fnExactReadTrailerSpec : ChangeSpec := { name := "fnExactReadTrailer", fn := fun _ => fun
  | [d] => { results := [.lit (.bool true)], args := [d] }
  | _ => none }
def fnExactReadTrailerRow : OpenClaim := { program := "ytaifdajdopghoaa", sum := "fd038274c3e339dcb960f11bdc1b206e7481f12daac471b50390e1c27a76f72b", func := "loop.example/g00971/laws.FnExactReadTrailer", spec := "fnExactReadTrailer", apart := false }
def FnExactReadTrailerSaid : Prop := fnExactReadTrailerRow.holds Try.pinned (OpenSpec.ofChange fnExactReadTrailerSpec)

/-- ITS FALSE NEIGHBOUR: 'it returns false'. Refute it at one input. -/
def fnExactReadTrailerWrong : ChangeSpec := { name := "fnExactReadTrailer", fn := fun _ => fun
  | [d] => { results := [.lit (.bool false)], args := [d] }
  | _ => none }
def FnExactReadTrailerWrongFalsely : Prop := fnExactReadTrailerRow.holds Try.pinned (OpenSpec.ofChange fnExactReadTrailerWrong)

/-- 'laws.FnExactWriterNew': WHATEVER THE INPUT: true; the input reads as it did. -/
def fnExactWriterNewSpec : ChangeSpec := { name := "fnExactWriterNew", fn := fun _ => fun
  | [d1, d2, d3] => { results := [.lit (.bool true)], args := [d1, d2, d3] }
  | _ => none }
def fnExactWriterNewRow : OpenClaim := { program := "ytaifdajdopghoaa", sum := "fd038274c3e339dcb960f11bdc1b206e7481f12daac471b50390e1c27a76f72b", func := "loop.example/g00971/laws.FnExactWriterNew", spec := "fnExactWriterNew", apart := false }
def FnExactWriterNewSaid : Prop := fnExactWriterNewRow.holds Try.pinned (OpenSpec.ofChange fnExactWriterNewSpec)

/-- ITS FALSE NEIGHBOUR: 'it returns false'. Refute it at one input. -/
def fnExactWriterNewWrong : ChangeSpec := { name := "fnExactWriterNew", fn := fun _ => fun
  | [d1, d2, d3] => { results := [.lit (.bool false)], args := [d1, d2, d3] }
  | _ => none }
def FnExactWriterNewWrongFalsely : Prop := fnExactWriterNewRow.holds Try.pinned (OpenSpec.ofChange fnExactWriterNewWrong)

/-- 'laws.FnExactEndMark': WHATEVER THE INPUT: true; the input reads as it did. -/
def fnExactEndMarkSpec : ChangeSpec := { name := "fnExactEndMark", fn := fun _ => fun
  | [d1, d2] => { results := [.lit (.bool true)], args := [d1, d2] }
  | _ => none }
def fnExactEndMarkRow : OpenClaim := { program := "ytaifdajdopghoaa", sum := "fd038274c3e339dcb960f11bdc1b206e7481f12daac471b50390e1c27a76f72b", func := "loop.example/g00971/laws.FnExactEndMark", spec := "fnExactEndMark", apart := false }
def FnExactEndMarkSaid : Prop := fnExactEndMarkRow.holds Try.pinned (OpenSpec.ofChange fnExactEndMarkSpec)

/-- ITS FALSE NEIGHBOUR: 'it returns false'. Refute it at one input. -/
def fnExactEndMarkWrong : ChangeSpec := { name := "fnExactEndMark", fn := fun _ => fun
  | [d1, d2] => { results := [.lit (.bool false)], args := [d1, d2] }
  | _ => none }
def FnExactEndMarkWrongFalsely : Prop := fnExactEndMarkRow.holds Try.pinned (OpenSpec.ofChange fnExactEndMarkWrong)

/-- 'laws.FnExactPlacesOf': WHATEVER THE INPUT: true; the input reads as it did. -/
def fnExactPlacesOfSpec : ChangeSpec := { name := "fnExactPlacesOf", fn := fun _ => fun
  | [d1, d2] => { results := [.lit (.bool true)], args := [d1, d2] }
  | _ => none }
def fnExactPlacesOfRow : OpenClaim := { program := "ytaifdajdopghoaa", sum := "fd038274c3e339dcb960f11bdc1b206e7481f12daac471b50390e1c27a76f72b", func := "loop.example/g00971/laws.FnExactPlacesOf", spec := "fnExactPlacesOf", apart := false }
def FnExactPlacesOfSaid : Prop := fnExactPlacesOfRow.holds Try.pinned (OpenSpec.ofChange fnExactPlacesOfSpec)

/-- ITS FALSE NEIGHBOUR: 'it returns false'. Refute it at one input. -/
def fnExactPlacesOfWrong : ChangeSpec := { name := "fnExactPlacesOf", fn := fun _ => fun
  | [d1, d2] => { results := [.lit (.bool false)], args := [d1, d2] }
  | _ => none }
def FnExactPlacesOfWrongFalsely : Prop := fnExactPlacesOfRow.holds Try.pinned (OpenSpec.ofChange fnExactPlacesOfWrong)

/-- 'laws.FnExactMarkAt': WHATEVER THE INPUT: true; the input reads as it did. -/
def fnExactMarkAtSpec : ChangeSpec := { name := "fnExactMarkAt", fn := fun _ => fun
  | [d1, d2, d3, d4] => { results := [.lit (.bool true)], args := [d1, d2, d3, d4] }
  | _ => none }
def fnExactMarkAtRow : OpenClaim := { program := "ytaifdajdopghoaa", sum := "fd038274c3e339dcb960f11bdc1b206e7481f12daac471b50390e1c27a76f72b", func := "loop.example/g00971/laws.FnExactMarkAt", spec := "fnExactMarkAt", apart := false }
def FnExactMarkAtSaid : Prop := fnExactMarkAtRow.holds Try.pinned (OpenSpec.ofChange fnExactMarkAtSpec)

/-- ITS FALSE NEIGHBOUR: 'it returns false'. Refute it at one input. -/
def fnExactMarkAtWrong : ChangeSpec := { name := "fnExactMarkAt", fn := fun _ => fun
  | [d1, d2, d3, d4] => { results := [.lit (.bool false)], args := [d1, d2, d3, d4] }
  | _ => none }
def FnExactMarkAtWrongFalsely : Prop := fnExactMarkAtRow.holds Try.pinned (OpenSpec.ofChange fnExactMarkAtWrong)

/-- 'laws.FnExactFrameText': WHATEVER THE INPUT: true; the input reads as it did. -/
def fnExactFrameTextSpec : ChangeSpec := { name := "fnExactFrameText", fn := fun _ => fun
  | [d1, d2, d3] => { results := [.lit (.bool true)], args := [d1, d2, d3] }
  | _ => none }
def fnExactFrameTextRow : OpenClaim := { program := "ytaifdajdopghoaa", sum := "fd038274c3e339dcb960f11bdc1b206e7481f12daac471b50390e1c27a76f72b", func := "loop.example/g00971/laws.FnExactFrameText", spec := "fnExactFrameText", apart := false }
def FnExactFrameTextSaid : Prop := fnExactFrameTextRow.holds Try.pinned (OpenSpec.ofChange fnExactFrameTextSpec)

/-- ITS FALSE NEIGHBOUR: 'it returns false'. Refute it at one input. -/
def fnExactFrameTextWrong : ChangeSpec := { name := "fnExactFrameText", fn := fun _ => fun
  | [d1, d2, d3] => { results := [.lit (.bool false)], args := [d1, d2, d3] }
  | _ => none }
def FnExactFrameTextWrongFalsely : Prop := fnExactFrameTextRow.holds Try.pinned (OpenSpec.ofChange fnExactFrameTextWrong)

/-- 'laws.FnExactFrameSize': WHATEVER THE INPUT: true; the input reads as it did. -/
def fnExactFrameSizeSpec : ChangeSpec := { name := "fnExactFrameSize", fn := fun _ => fun
  | [d1, d2] => { results := [.lit (.bool true)], args := [d1, d2] }
  | _ => none }
def fnExactFrameSizeRow : OpenClaim := { program := "ytaifdajdopghoaa", sum := "fd038274c3e339dcb960f11bdc1b206e7481f12daac471b50390e1c27a76f72b", func := "loop.example/g00971/laws.FnExactFrameSize", spec := "fnExactFrameSize", apart := false }
def FnExactFrameSizeSaid : Prop := fnExactFrameSizeRow.holds Try.pinned (OpenSpec.ofChange fnExactFrameSizeSpec)

/-- ITS FALSE NEIGHBOUR: 'it returns false'. Refute it at one input. -/
def fnExactFrameSizeWrong : ChangeSpec := { name := "fnExactFrameSize", fn := fun _ => fun
  | [d1, d2] => { results := [.lit (.bool false)], args := [d1, d2] }
  | _ => none }
def FnExactFrameSizeWrongFalsely : Prop := fnExactFrameSizeRow.holds Try.pinned (OpenSpec.ofChange fnExactFrameSizeWrong)

/-- 'laws.FnExactPlacesText': WHATEVER THE INPUT: true; the input reads as it did. -/
def fnExactPlacesTextSpec : ChangeSpec := { name := "fnExactPlacesText", fn := fun _ => fun
  | [d] => { results := [.lit (.bool true)], args := [d] }
  | _ => none }
def fnExactPlacesTextRow : OpenClaim := { program := "ytaifdajdopghoaa", sum := "fd038274c3e339dcb960f11bdc1b206e7481f12daac471b50390e1c27a76f72b", func := "loop.example/g00971/laws.FnExactPlacesText", spec := "fnExactPlacesText", inPlace := ["internal/abi.NoEscape"], apart := false }
def FnExactPlacesTextSaid : Prop := fnExactPlacesTextRow.holds Try.pinned (OpenSpec.ofChange fnExactPlacesTextSpec)

/-- ITS FALSE NEIGHBOUR: 'it returns false'. Refute it at one input. -/
def fnExactPlacesTextWrong : ChangeSpec := { name := "fnExactPlacesText", fn := fun _ => fun
  | [d] => { results := [.lit (.bool false)], args := [d] }
  | _ => none }
def FnExactPlacesTextWrongFalsely : Prop := fnExactPlacesTextRow.holds Try.pinned (OpenSpec.ofChange fnExactPlacesTextWrong)

/-- 'laws.FnLinks': WHATEVER THE INPUT: true; the input reads as it did. -/
def fnLinksSpec : ChangeSpec := { name := "fnLinks", fn := fun _ => fun
  | [d] => { results := [.lit (.bool true)], args := [d] }
  | _ => none }
def fnLinksRow : OpenClaim := { program := "ytaifdajdopghoaa", sum := "fd038274c3e339dcb960f11bdc1b206e7481f12daac471b50390e1c27a76f72b", func := "loop.example/g00971/laws.FnLinks", spec := "fnLinks", apart := false }
def FnLinksSaid : Prop := fnLinksRow.holds Try.pinned (OpenSpec.ofChange fnLinksSpec)

/-- ITS FALSE NEIGHBOUR: 'it returns false'. Refute it at one input. -/
def fnLinksWrong : ChangeSpec := { name := "fnLinks", fn := fun _ => fun
  | [d] => { results := [.lit (.bool false)], args := [d] }
  | _ => none }
def FnLinksWrongFalsely : Prop := fnLinksRow.holds Try.pinned (OpenSpec.ofChange fnLinksWrong)

/- THE SECOND FORM. 'bulk': how many values and letters a reading holds, each counted each time it is reached (what is shared counts as often as it is met; a slice's spare places count too). A statement '..UptoSaid' is the law's where the arguments, and the package variables that the reading takes, are together of bulk at most 1048576: NARROWER than '..Said'. Prove '..Said' where nothing that the law and all that it calls make is longer than what came in: it says more and counts as full. Else prove '..UptoSaid'. A law counts once. -/
mutual
def uptoBulk {H : Type} : DataW H → Nat
  | .lit (.string bytes) => bytes.length + 1
  | .lit _ => 1
  | .nil => 1
  | .ptr d => uptoBulk d + 1
  | .slice elems spare => uptoBulkAll elems + uptoBulkAll spare + 1
  | .agg parts => uptoBulkAll parts + 1
  | .iface _ d => uptoBulk d + 1
  | .map entries => uptoBulkEntries entries + 1
  | .held _ => 1
def uptoBulkAll {H : Type} : List (DataW H) → Nat
  | [] => 0
  | d :: r => uptoBulk d + uptoBulkAll r
def uptoBulkEntries {H : Type} : List (Lit × DataW H) → Nat
  | [] => 0
  | x :: r => uptoBulkEntry x + uptoBulkEntries r
def uptoBulkEntry {H : Type} : Lit × DataW H → Nat
  | (.string bytes, d) => bytes.length + uptoBulk d + 1
  | (_, d) => uptoBulk d + 1
 end
def uptoSmall : (H : Type) → List (DataW H) → Bool := fun _ ds => decide (uptoBulkAll ds ≤ 1048576)
def OpenSpec.upto (s : _root_.Go.ChangeSpec) : _root_.Go.OpenSpec := { _root_.Go.OpenSpec.ofChange s with cond := some uptoSmall }

/-- 'laws.FnExactFindingName', WHERE WHAT IT READS IS OF BULK AT MOST 1048576: true; the input reads as it did. -/
def fnExactFindingNameUptoRow : OpenClaim := { program := "ytaifdajdopghoaa", sum := "fd038274c3e339dcb960f11bdc1b206e7481f12daac471b50390e1c27a76f72b", func := "loop.example/g00971/laws.FnExactFindingName", spec := "fnExactFindingName", apart := false, narrowed := true }
def FnExactFindingNameUptoSaid : Prop := fnExactFindingNameUptoRow.holds Try.pinned (OpenSpec.upto fnExactFindingNameSpec)

/-- 'laws.FnExactTrailerText', WHERE WHAT IT READS IS OF BULK AT MOST 1048576: true; the input reads as it did. -/
def fnExactTrailerTextUptoRow : OpenClaim := { program := "ytaifdajdopghoaa", sum := "fd038274c3e339dcb960f11bdc1b206e7481f12daac471b50390e1c27a76f72b", func := "loop.example/g00971/laws.FnExactTrailerText", spec := "fnExactTrailerText", apart := false, narrowed := true }
def FnExactTrailerTextUptoSaid : Prop := fnExactTrailerTextUptoRow.holds Try.pinned (OpenSpec.upto fnExactTrailerTextSpec)

/-- 'laws.FnExactPlaceFor', WHERE WHAT IT READS IS OF BULK AT MOST 1048576: true; the input reads as it did. -/
def fnExactPlaceForUptoRow : OpenClaim := { program := "ytaifdajdopghoaa", sum := "fd038274c3e339dcb960f11bdc1b206e7481f12daac471b50390e1c27a76f72b", func := "loop.example/g00971/laws.FnExactPlaceFor", spec := "fnExactPlaceFor", apart := false, narrowed := true }
def FnExactPlaceForUptoSaid : Prop := fnExactPlaceForUptoRow.holds Try.pinned (OpenSpec.upto fnExactPlaceForSpec)

/-- 'laws.FnExactReadTrailer', WHERE WHAT IT READS IS OF BULK AT MOST 1048576: true; the input reads as it did. -/
def fnExactReadTrailerUptoRow : OpenClaim := { program := "ytaifdajdopghoaa", sum := "fd038274c3e339dcb960f11bdc1b206e7481f12daac471b50390e1c27a76f72b", func := "loop.example/g00971/laws.FnExactReadTrailer", spec := "fnExactReadTrailer", apart := false, narrowed := true }
def FnExactReadTrailerUptoSaid : Prop := fnExactReadTrailerUptoRow.holds Try.pinned (OpenSpec.upto fnExactReadTrailerSpec)

/-- 'laws.FnExactWriterNew', WHERE WHAT IT READS IS OF BULK AT MOST 1048576: true; the input reads as it did. -/
def fnExactWriterNewUptoRow : OpenClaim := { program := "ytaifdajdopghoaa", sum := "fd038274c3e339dcb960f11bdc1b206e7481f12daac471b50390e1c27a76f72b", func := "loop.example/g00971/laws.FnExactWriterNew", spec := "fnExactWriterNew", apart := false, narrowed := true }
def FnExactWriterNewUptoSaid : Prop := fnExactWriterNewUptoRow.holds Try.pinned (OpenSpec.upto fnExactWriterNewSpec)

/-- 'laws.FnExactEndMark', WHERE WHAT IT READS IS OF BULK AT MOST 1048576: true; the input reads as it did. -/
def fnExactEndMarkUptoRow : OpenClaim := { program := "ytaifdajdopghoaa", sum := "fd038274c3e339dcb960f11bdc1b206e7481f12daac471b50390e1c27a76f72b", func := "loop.example/g00971/laws.FnExactEndMark", spec := "fnExactEndMark", apart := false, narrowed := true }
def FnExactEndMarkUptoSaid : Prop := fnExactEndMarkUptoRow.holds Try.pinned (OpenSpec.upto fnExactEndMarkSpec)

/-- 'laws.FnExactPlacesOf', WHERE WHAT IT READS IS OF BULK AT MOST 1048576: true; the input reads as it did. -/
def fnExactPlacesOfUptoRow : OpenClaim := { program := "ytaifdajdopghoaa", sum := "fd038274c3e339dcb960f11bdc1b206e7481f12daac471b50390e1c27a76f72b", func := "loop.example/g00971/laws.FnExactPlacesOf", spec := "fnExactPlacesOf", apart := false, narrowed := true }
def FnExactPlacesOfUptoSaid : Prop := fnExactPlacesOfUptoRow.holds Try.pinned (OpenSpec.upto fnExactPlacesOfSpec)

/-- 'laws.FnExactMarkAt', WHERE WHAT IT READS IS OF BULK AT MOST 1048576: true; the input reads as it did. -/
def fnExactMarkAtUptoRow : OpenClaim := { program := "ytaifdajdopghoaa", sum := "fd038274c3e339dcb960f11bdc1b206e7481f12daac471b50390e1c27a76f72b", func := "loop.example/g00971/laws.FnExactMarkAt", spec := "fnExactMarkAt", apart := false, narrowed := true }
def FnExactMarkAtUptoSaid : Prop := fnExactMarkAtUptoRow.holds Try.pinned (OpenSpec.upto fnExactMarkAtSpec)

/-- 'laws.FnExactFrameText', WHERE WHAT IT READS IS OF BULK AT MOST 1048576: true; the input reads as it did. -/
def fnExactFrameTextUptoRow : OpenClaim := { program := "ytaifdajdopghoaa", sum := "fd038274c3e339dcb960f11bdc1b206e7481f12daac471b50390e1c27a76f72b", func := "loop.example/g00971/laws.FnExactFrameText", spec := "fnExactFrameText", apart := false, narrowed := true }
def FnExactFrameTextUptoSaid : Prop := fnExactFrameTextUptoRow.holds Try.pinned (OpenSpec.upto fnExactFrameTextSpec)

/-- 'laws.FnExactFrameSize', WHERE WHAT IT READS IS OF BULK AT MOST 1048576: true; the input reads as it did. -/
def fnExactFrameSizeUptoRow : OpenClaim := { program := "ytaifdajdopghoaa", sum := "fd038274c3e339dcb960f11bdc1b206e7481f12daac471b50390e1c27a76f72b", func := "loop.example/g00971/laws.FnExactFrameSize", spec := "fnExactFrameSize", apart := false, narrowed := true }
def FnExactFrameSizeUptoSaid : Prop := fnExactFrameSizeUptoRow.holds Try.pinned (OpenSpec.upto fnExactFrameSizeSpec)

/-- 'laws.FnExactPlacesText', WHERE WHAT IT READS IS OF BULK AT MOST 1048576: true; the input reads as it did. -/
def fnExactPlacesTextUptoRow : OpenClaim := { program := "ytaifdajdopghoaa", sum := "fd038274c3e339dcb960f11bdc1b206e7481f12daac471b50390e1c27a76f72b", func := "loop.example/g00971/laws.FnExactPlacesText", spec := "fnExactPlacesText", inPlace := ["internal/abi.NoEscape"], apart := false, narrowed := true }
def FnExactPlacesTextUptoSaid : Prop := fnExactPlacesTextUptoRow.holds Try.pinned (OpenSpec.upto fnExactPlacesTextSpec)

/-- 'laws.FnLinks', WHERE WHAT IT READS IS OF BULK AT MOST 1048576: true; the input reads as it did. -/
def fnLinksUptoRow : OpenClaim := { program := "ytaifdajdopghoaa", sum := "fd038274c3e339dcb960f11bdc1b206e7481f12daac471b50390e1c27a76f72b", func := "loop.example/g00971/laws.FnLinks", spec := "fnLinks", apart := false, narrowed := true }
def FnLinksUptoSaid : Prop := fnLinksUptoRow.holds Try.pinned (OpenSpec.upto fnLinksSpec)

end Rows
end Go.Proofs.Ytaifdajdopghoaa
