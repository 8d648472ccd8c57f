/-
  No cell of these rows narrows 'for every input' (looked for: loops, veiled, ifaces, maps, wideKeys, modest, calm, conditions, laid).
  DERIVED. THE GIVEN ROWS OF THIS SEAT. 7 by the template 'for every input the law returns true; each argument reads behind the call as it read before'; 0 by the template 'total and deterministic' (their statements: YtnaajggfggijhaaTotals.lean).
  GIVEN WITH THE SEED: the statements are not yours to turn. If you find one false, say at which input.
  Laid BY PROGRAM, IN A SANDBOX (cutbox-rows.mjs): the forced cells as the released guide's own fill.sh prints them over the translation d58ed94f6e5c109d… (all of the seat's roots in one cut). By AI agents, Wed Nov 11 2026. No macro, syntax, notation, axiom, sorry.
-/
import Derived.Test.YtnaajggfggijhaaChecked
import GoSem.Claim
import GoSem.ClaimJoined
import GoSem.ClaimMapViews
import Derived.JoinedTies
import Derived.KernelRfl
namespace Go.Proofs.Ytnaajggfggijhaa
/- THE CELL 'sum', in the pinned program and in every row, IS THE sha256 OF THE DUMP (.gsa) THAT YtnaajggfggijhaaProg.lean LOADS. Nothing in Lean hashes anything: it is a label: what it is worth is what the hold of that sum in a sandbox is worth. -/
noncomputable def Try.pinned : Pinned := { name := "ytnaajggfggijhaa", sum := "d58ed94f6e5c109de321975e35dd561a369861dd083e4e24cd3e666eafa9722d", checked := Try.checked }
namespace Rows
def none {H : Type} : Left H := { results := [], args := [] }

/-- 'laws.FnBent': WHATEVER THE INPUT: true; the input reads as it did. -/
def fnBentSpec : ChangeSpec := { name := "fnBent", fn := fun _ => fun
  | [d] => { results := [.lit (.bool true)], args := [d] }
  | _ => none }
def fnBentRow : OpenClaim := { program := "ytnaajggfggijhaa", sum := "d58ed94f6e5c109de321975e35dd561a369861dd083e4e24cd3e666eafa9722d", func := "loop.example/g00971/laws.FnBent", spec := "fnBent", inPlace := ["internal/abi.NoEscape"], unfollowed := true, recurses := true, apart := false }
def FnBentSaid : Prop := fnBentRow.holds Try.pinned (OpenSpec.ofChange fnBentSpec)

/-- ITS FALSE NEIGHBOUR: 'it returns false'. Refute it at one input. -/
def fnBentWrong : ChangeSpec := { name := "fnBent", fn := fun _ => fun
  | [d] => { results := [.lit (.bool false)], args := [d] }
  | _ => none }
def FnBentWrongFalsely : Prop := fnBentRow.holds Try.pinned (OpenSpec.ofChange fnBentWrong)

/-- 'laws.FnExactReadSealed': WHATEVER THE INPUT: true; the input reads as it did. -/
def fnExactReadSealedSpec : ChangeSpec := { name := "fnExactReadSealed", fn := fun _ => fun
  | [d] => { results := [.lit (.bool true)], args := [d] }
  | _ => none }
def fnExactReadSealedRow : OpenClaim := { program := "ytnaajggfggijhaa", sum := "d58ed94f6e5c109de321975e35dd561a369861dd083e4e24cd3e666eafa9722d", func := "loop.example/g00971/laws.FnExactReadSealed", spec := "fnExactReadSealed", inPlace := ["internal/abi.NoEscape"], unfollowed := true, recurses := true, apart := false }
def FnExactReadSealedSaid : Prop := fnExactReadSealedRow.holds Try.pinned (OpenSpec.ofChange fnExactReadSealedSpec)

/-- ITS FALSE NEIGHBOUR: 'it returns false'. Refute it at one input. -/
def fnExactReadSealedWrong : ChangeSpec := { name := "fnExactReadSealed", fn := fun _ => fun
  | [d] => { results := [.lit (.bool false)], args := [d] }
  | _ => none }
def FnExactReadSealedWrongFalsely : Prop := fnExactReadSealedRow.holds Try.pinned (OpenSpec.ofChange fnExactReadSealedWrong)

/-- 'laws.FnExactListIn': WHATEVER THE INPUT: true; the input reads as it did. -/
def fnExactListInSpec : ChangeSpec := { name := "fnExactListIn", fn := fun _ => fun
  | [d] => { results := [.lit (.bool true)], args := [d] }
  | _ => none }
def fnExactListInRow : OpenClaim := { program := "ytnaajggfggijhaa", sum := "d58ed94f6e5c109de321975e35dd561a369861dd083e4e24cd3e666eafa9722d", func := "loop.example/g00971/laws.FnExactListIn", spec := "fnExactListIn", inPlace := ["internal/abi.NoEscape"], unfollowed := true, recurses := true, apart := false }
def FnExactListInSaid : Prop := fnExactListInRow.holds Try.pinned (OpenSpec.ofChange fnExactListInSpec)

/-- ITS FALSE NEIGHBOUR: 'it returns false'. Refute it at one input. -/
def fnExactListInWrong : ChangeSpec := { name := "fnExactListIn", fn := fun _ => fun
  | [d] => { results := [.lit (.bool false)], args := [d] }
  | _ => none }
def FnExactListInWrongFalsely : Prop := fnExactListInRow.holds Try.pinned (OpenSpec.ofChange fnExactListInWrong)

/-- 'laws.FnExactReadsFor': WHATEVER THE INPUT: true; the input reads as it did. -/
def fnExactReadsForSpec : ChangeSpec := { name := "fnExactReadsFor", fn := fun _ => fun
  | [d1, d2] => { results := [.lit (.bool true)], args := [d1, d2] }
  | _ => none }
def fnExactReadsForRow : OpenClaim := { program := "ytnaajggfggijhaa", sum := "d58ed94f6e5c109de321975e35dd561a369861dd083e4e24cd3e666eafa9722d", func := "loop.example/g00971/laws.FnExactReadsFor", spec := "fnExactReadsFor", inPlace := ["internal/abi.NoEscape"], unfollowed := true, recurses := true, apart := false }
def FnExactReadsForSaid : Prop := fnExactReadsForRow.holds Try.pinned (OpenSpec.ofChange fnExactReadsForSpec)

/-- ITS FALSE NEIGHBOUR: 'it returns false'. Refute it at one input. -/
def fnExactReadsForWrong : ChangeSpec := { name := "fnExactReadsFor", fn := fun _ => fun
  | [d1, d2] => { results := [.lit (.bool false)], args := [d1, d2] }
  | _ => none }
def FnExactReadsForWrongFalsely : Prop := fnExactReadsForRow.holds Try.pinned (OpenSpec.ofChange fnExactReadsForWrong)

/-- 'laws.FnResealed': WHATEVER THE INPUT: true; the input reads as it did. -/
def fnResealedSpec : ChangeSpec := { name := "fnResealed", fn := fun _ => fun
  | [d] => { results := [.lit (.bool true)], args := [d] }
  | _ => none }
def fnResealedRow : OpenClaim := { program := "ytnaajggfggijhaa", sum := "d58ed94f6e5c109de321975e35dd561a369861dd083e4e24cd3e666eafa9722d", func := "loop.example/g00971/laws.FnResealed", spec := "fnResealed", inPlace := ["internal/abi.NoEscape"], unfollowed := true, recurses := true, apart := false }
def FnResealedSaid : Prop := fnResealedRow.holds Try.pinned (OpenSpec.ofChange fnResealedSpec)

/-- ITS FALSE NEIGHBOUR: 'it returns false'. Refute it at one input. -/
def fnResealedWrong : ChangeSpec := { name := "fnResealed", fn := fun _ => fun
  | [d] => { results := [.lit (.bool false)], args := [d] }
  | _ => none }
def FnResealedWrongFalsely : Prop := fnResealedRow.holds Try.pinned (OpenSpec.ofChange fnResealedWrong)

/-- 'laws.FnSealed': WHATEVER THE INPUT: true; the input reads as it did. -/
def fnSealedSpec : ChangeSpec := { name := "fnSealed", fn := fun _ => fun
  | [d] => { results := [.lit (.bool true)], args := [d] }
  | _ => none }
def fnSealedRow : OpenClaim := { program := "ytnaajggfggijhaa", sum := "d58ed94f6e5c109de321975e35dd561a369861dd083e4e24cd3e666eafa9722d", func := "loop.example/g00971/laws.FnSealed", spec := "fnSealed", inPlace := ["internal/abi.NoEscape"], unfollowed := true, recurses := true, apart := false }
def FnSealedSaid : Prop := fnSealedRow.holds Try.pinned (OpenSpec.ofChange fnSealedSpec)

/-- ITS FALSE NEIGHBOUR: 'it returns false'. Refute it at one input. -/
def fnSealedWrong : ChangeSpec := { name := "fnSealed", fn := fun _ => fun
  | [d] => { results := [.lit (.bool false)], args := [d] }
  | _ => none }
def FnSealedWrongFalsely : Prop := fnSealedRow.holds Try.pinned (OpenSpec.ofChange fnSealedWrong)

/-- 'laws.FnSeeks': WHATEVER THE INPUT: true; the input reads as it did. -/
def fnSeeksSpec : ChangeSpec := { name := "fnSeeks", fn := fun _ => fun
  | [d] => { results := [.lit (.bool true)], args := [d] }
  | _ => none }
def fnSeeksRow : OpenClaim := { program := "ytnaajggfggijhaa", sum := "d58ed94f6e5c109de321975e35dd561a369861dd083e4e24cd3e666eafa9722d", func := "loop.example/g00971/laws.FnSeeks", spec := "fnSeeks", inPlace := ["internal/abi.NoEscape"], unfollowed := true, recurses := true, apart := false }
def FnSeeksSaid : Prop := fnSeeksRow.holds Try.pinned (OpenSpec.ofChange fnSeeksSpec)

/-- ITS FALSE NEIGHBOUR: 'it returns false'. Refute it at one input. -/
def fnSeeksWrong : ChangeSpec := { name := "fnSeeks", fn := fun _ => fun
  | [d] => { results := [.lit (.bool false)], args := [d] }
  | _ => none }
def FnSeeksWrongFalsely : Prop := fnSeeksRow.holds Try.pinned (OpenSpec.ofChange fnSeeksWrong)

/- THE SECOND FORM. 'bulk': how many values and letters a reading holds, each counted each time it is reached (what is shared counts as often as it is met; a slice's spare places count too). A statement '..UptoSaid' is the law's where the arguments, and the package variables that the reading takes, are together of bulk at most 1048576: NARROWER than '..Said'. Prove '..Said' where nothing that the law and all that it calls make is longer than what came in: it says more and counts as full. Else prove '..UptoSaid'. A law counts once. -/
mutual
def uptoBulk {H : Type} : DataW H → Nat
  | .lit (.string bytes) => bytes.length + 1
  | .lit _ => 1
  | .nil => 1
  | .ptr d => uptoBulk d + 1
  | .slice elems spare => uptoBulkAll elems + uptoBulkAll spare + 1
  | .agg parts => uptoBulkAll parts + 1
  | .iface _ d => uptoBulk d + 1
  | .map entries => uptoBulkEntries entries + 1
  | .held _ => 1
def uptoBulkAll {H : Type} : List (DataW H) → Nat
  | [] => 0
  | d :: r => uptoBulk d + uptoBulkAll r
def uptoBulkEntries {H : Type} : List (Lit × DataW H) → Nat
  | [] => 0
  | x :: r => uptoBulkEntry x + uptoBulkEntries r
def uptoBulkEntry {H : Type} : Lit × DataW H → Nat
  | (.string bytes, d) => bytes.length + uptoBulk d + 1
  | (_, d) => uptoBulk d + 1
 end
def uptoSmall : (H : Type) → List (DataW H) → Bool := fun _ ds => decide (uptoBulkAll ds ≤ 1048576)
def OpenSpec.upto (s : _root_.Go.ChangeSpec) : _root_.Go.OpenSpec := { _root_.Go.OpenSpec.ofChange s with cond := some uptoSmall }

/-- 'laws.FnBent', WHERE WHAT IT READS IS OF BULK AT MOST 1048576: true; the input reads as it did. -/
def fnBentUptoRow : OpenClaim := { program := "ytnaajggfggijhaa", sum := "d58ed94f6e5c109de321975e35dd561a369861dd083e4e24cd3e666eafa9722d", func := "loop.example/g00971/laws.FnBent", spec := "fnBent", inPlace := ["internal/abi.NoEscape"], unfollowed := true, recurses := true, apart := false, narrowed := true }
def FnBentUptoSaid : Prop := fnBentUptoRow.holds Try.pinned (OpenSpec.upto fnBentSpec)

/-- 'laws.FnExactReadSealed', WHERE WHAT IT READS IS OF BULK AT MOST 1048576: true; the input reads as it did. -/
def fnExactReadSealedUptoRow : OpenClaim := { program := "ytnaajggfggijhaa", sum := "d58ed94f6e5c109de321975e35dd561a369861dd083e4e24cd3e666eafa9722d", func := "loop.example/g00971/laws.FnExactReadSealed", spec := "fnExactReadSealed", inPlace := ["internal/abi.NoEscape"], unfollowed := true, recurses := true, apart := false, narrowed := true }
def FnExactReadSealedUptoSaid : Prop := fnExactReadSealedUptoRow.holds Try.pinned (OpenSpec.upto fnExactReadSealedSpec)

/-- 'laws.FnExactListIn', WHERE WHAT IT READS IS OF BULK AT MOST 1048576: true; the input reads as it did. -/
def fnExactListInUptoRow : OpenClaim := { program := "ytnaajggfggijhaa", sum := "d58ed94f6e5c109de321975e35dd561a369861dd083e4e24cd3e666eafa9722d", func := "loop.example/g00971/laws.FnExactListIn", spec := "fnExactListIn", inPlace := ["internal/abi.NoEscape"], unfollowed := true, recurses := true, apart := false, narrowed := true }
def FnExactListInUptoSaid : Prop := fnExactListInUptoRow.holds Try.pinned (OpenSpec.upto fnExactListInSpec)

/-- 'laws.FnExactReadsFor', WHERE WHAT IT READS IS OF BULK AT MOST 1048576: true; the input reads as it did. -/
def fnExactReadsForUptoRow : OpenClaim := { program := "ytnaajggfggijhaa", sum := "d58ed94f6e5c109de321975e35dd561a369861dd083e4e24cd3e666eafa9722d", func := "loop.example/g00971/laws.FnExactReadsFor", spec := "fnExactReadsFor", inPlace := ["internal/abi.NoEscape"], unfollowed := true, recurses := true, apart := false, narrowed := true }
def FnExactReadsForUptoSaid : Prop := fnExactReadsForUptoRow.holds Try.pinned (OpenSpec.upto fnExactReadsForSpec)

/-- 'laws.FnResealed', WHERE WHAT IT READS IS OF BULK AT MOST 1048576: true; the input reads as it did. -/
def fnResealedUptoRow : OpenClaim := { program := "ytnaajggfggijhaa", sum := "d58ed94f6e5c109de321975e35dd561a369861dd083e4e24cd3e666eafa9722d", func := "loop.example/g00971/laws.FnResealed", spec := "fnResealed", inPlace := ["internal/abi.NoEscape"], unfollowed := true, recurses := true, apart := false, narrowed := true }
def FnResealedUptoSaid : Prop := fnResealedUptoRow.holds Try.pinned (OpenSpec.upto fnResealedSpec)

/-- 'laws.FnSealed', WHERE WHAT IT READS IS OF BULK AT MOST 1048576: true; the input reads as it did. -/
def fnSealedUptoRow : OpenClaim := { program := "ytnaajggfggijhaa", sum := "d58ed94f6e5c109de321975e35dd561a369861dd083e4e24cd3e666eafa9722d", func := "loop.example/g00971/laws.FnSealed", spec := "fnSealed", inPlace := ["internal/abi.NoEscape"], unfollowed := true, recurses := true, apart := false, narrowed := true }
def FnSealedUptoSaid : Prop := fnSealedUptoRow.holds Try.pinned (OpenSpec.upto fnSealedSpec)

/-- 'laws.FnSeeks', WHERE WHAT IT READS IS OF BULK AT MOST 1048576: true; the input reads as it did. -/
def fnSeeksUptoRow : OpenClaim := { program := "ytnaajggfggijhaa", sum := "d58ed94f6e5c109de321975e35dd561a369861dd083e4e24cd3e666eafa9722d", func := "loop.example/g00971/laws.FnSeeks", spec := "fnSeeks", inPlace := ["internal/abi.NoEscape"], unfollowed := true, recurses := true, apart := false, narrowed := true }
def FnSeeksUptoSaid : Prop := fnSeeksUptoRow.holds Try.pinned (OpenSpec.upto fnSeeksSpec)

end Rows
end Go.Proofs.Ytnaajggfggijhaa
