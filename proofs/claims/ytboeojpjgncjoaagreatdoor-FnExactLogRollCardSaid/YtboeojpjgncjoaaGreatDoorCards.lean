/-
  DERIVED. GIVEN WITH THE SEED: THE CARDS: each row of YtboeojpjgncjoaaGreatDoorRows.lean that lists a variable, with what it lists TIED to the program's text (the seventh form; the later family's looks); each row that meets fmt, with fmt's text TOLD by the authors' own Lean function (tested against real Go, not proved from fmt's source: count such statements apart). THE CARD IS WHAT COUNTS. Prove the row's statement (the work); the ties are given (YtboeojpjgncjoaaGreatDoorTie.lean); close each card by the builder's one call (the guide's Derived/Test/ToyasCard.lean, 'card_holds'). Laid BY PROGRAM, IN A SANDBOX (cutbox-door.mjs). By AI agents, Wed Nov 11 2026. No macro, syntax, notation, axiom, sorry.
-/
import Derived.Test.YtboeojpjgncjoaaGreatDoorRows
import GoSem.ClaimSeven
namespace Go.Proofs.YtboeojpjgncjoaaGreatDoor
namespace Rows

/-- THE TIED CARD OF 'laws.FnExactLogRoll'. -/
def fnExactLogRollCard : Claim7 := { stood := { row := fnExactLogRollRow, standIns := [], harness := (true, "357de7870fa8a59a4834a2b84f5edb15ebc2fdf983dafc6f0ce9139143cd0025"), looks := true }, kinds := [], alts := [], laidByText := true, laidKinds := [.data, .data, .data, .sentinel, .sentinel], laidTests := true, laidLooks := .later }
def FnExactLogRollCardSaid : Prop := Claim7.holds Tryz.pinned (.plain (OpenSpec.ofChange fnExactLogRollSpec)) fnExactLogRollCard

/-- THE TIED CARD OF 'laws.FnExactLogSync'. -/
def fnExactLogSyncCard : Claim7 := { stood := { row := fnExactLogSyncRow, standIns := [], harness := (true, "357de7870fa8a59a4834a2b84f5edb15ebc2fdf983dafc6f0ce9139143cd0025"), looks := true }, kinds := [], alts := [], laidByText := true, laidKinds := [.data, .data, .data, .sentinel, .sentinel], laidTests := true, laidLooks := .later }
def FnExactLogSyncCardSaid : Prop := Claim7.holds Tryz.pinned (.plain (OpenSpec.ofChange fnExactLogSyncSpec)) fnExactLogSyncCard

/-- THE SECOND FORM's CARD OF 'laws.FnExactLogRoll'. -/
def fnExactLogRollUptoCard : Claim7 := { stood := { row := fnExactLogRollUptoRow, standIns := [], harness := (true, "357de7870fa8a59a4834a2b84f5edb15ebc2fdf983dafc6f0ce9139143cd0025"), looks := true }, kinds := [], alts := [], laidByText := true, laidKinds := [.data, .data, .data, .sentinel, .sentinel], laidTests := true, laidLooks := .later }
def FnExactLogRollUptoCardSaid : Prop := Claim7.holds Tryz.pinned (.plain (OpenSpec.upto fnExactLogRollSpec)) fnExactLogRollUptoCard

/-- THE SECOND FORM's CARD OF 'laws.FnExactLogSync'. -/
def fnExactLogSyncUptoCard : Claim7 := { stood := { row := fnExactLogSyncUptoRow, standIns := [], harness := (true, "357de7870fa8a59a4834a2b84f5edb15ebc2fdf983dafc6f0ce9139143cd0025"), looks := true }, kinds := [], alts := [], laidByText := true, laidKinds := [.data, .data, .data, .sentinel, .sentinel], laidTests := true, laidLooks := .later }
def FnExactLogSyncUptoCardSaid : Prop := Claim7.holds Tryz.pinned (.plain (OpenSpec.upto fnExactLogSyncSpec)) fnExactLogSyncUptoCard
end Rows
end Go.Proofs.YtboeojpjgncjoaaGreatDoor
