/-
  DERIVED. GIVEN WITH THE SEED: THE CARDS: each row of YthjkdoadeknknaaGreatDoorRows.lean that lists a variable, with what it lists TIED to the program's text (the seventh form; the later family's looks); each row that meets fmt, with fmt's text TOLD by the authors' own Lean function (tested against real Go, not proved from fmt's source: count such statements apart). THE CARD IS WHAT COUNTS. Prove the row's statement (the work); the ties are given (YthjkdoadeknknaaGreatDoorTie.lean); close each card by the builder's one call (the guide's Derived/Test/ToyasCard.lean, 'card_holds'). Laid BY PROGRAM, IN A SANDBOX (cutbox-door.mjs). By AI agents, Wed Nov 11 2026. No macro, syntax, notation, axiom, sorry.
-/
import Derived.Test.YthjkdoadeknknaaGreatDoorRows
import GoSem.ClaimSeven
namespace Go.Proofs.YthjkdoadeknknaaGreatDoor
namespace Rows

/-- THE TIED CARD OF 'laws.FnExactRowLink'. -/
def fnExactRowLinkCard : Claim7 := { stood := { row := fnExactRowLinkRow, standIns := [], harness := (true, "c9d5c0706d9f173ea4de67460cc42bf899dcb39457c46253a73a74a5949ccf5c"), looks := true }, kinds := [], alts := [], laidByText := true, laidKinds := [.data, .data, .data], laidTests := true, laidLooks := .later }
def FnExactRowLinkCardSaid : Prop := Claim7.holds Tryz.pinned (.plain (OpenSpec.ofChange fnExactRowLinkSpec)) fnExactRowLinkCard

/-- THE TIED CARD OF 'laws.FnExactOldOn'. -/
def fnExactOldOnCard : Claim7 := { stood := { row := fnExactOldOnRow, standIns := [], harness := (true, "c9d5c0706d9f173ea4de67460cc42bf899dcb39457c46253a73a74a5949ccf5c"), looks := true }, kinds := [], alts := [], laidByText := true, laidKinds := [.data, .data, .data], laidTests := true, laidLooks := .later }
def FnExactOldOnCardSaid : Prop := Claim7.holds Tryz.pinned (.plain (OpenSpec.ofChange fnExactOldOnSpec)) fnExactOldOnCard

/-- THE TIED CARD OF 'laws.FnExactChainTexts'. -/
def fnExactChainTextsCard : Claim7 := { stood := { row := fnExactChainTextsRow, standIns := [], harness := (true, "c9d5c0706d9f173ea4de67460cc42bf899dcb39457c46253a73a74a5949ccf5c"), looks := true }, kinds := [], alts := [], laidByText := true, laidKinds := [.data, .data, .data], laidTests := true, laidLooks := .later }
def FnExactChainTextsCardSaid : Prop := Claim7.holds Tryz.pinned (.plain (OpenSpec.ofChange fnExactChainTextsSpec)) fnExactChainTextsCard

/-- THE TIED CARD OF 'laws.FnExactRowOf'. -/
def fnExactRowOfCard : Claim7 := { stood := { row := fnExactRowOfRow, standIns := [], harness := (true, "c9d5c0706d9f173ea4de67460cc42bf899dcb39457c46253a73a74a5949ccf5c"), looks := true }, kinds := [], alts := [], laidByText := true, laidKinds := [.data, .data, .data], laidTests := true, laidLooks := .later }
def FnExactRowOfCardSaid : Prop := Claim7.holds Tryz.pinned (.plain (OpenSpec.ofChange fnExactRowOfSpec)) fnExactRowOfCard

/-- THE TIED CARD OF 'laws.FnExactChain'. -/
def fnExactChainCard : Claim7 := { stood := { row := fnExactChainRow, standIns := [], harness := (true, "c9d5c0706d9f173ea4de67460cc42bf899dcb39457c46253a73a74a5949ccf5c"), looks := true }, kinds := [], alts := [], laidByText := true, laidKinds := [.data, .data, .data], laidTests := true, laidLooks := .later }
def FnExactChainCardSaid : Prop := Claim7.holds Tryz.pinned (.plain (OpenSpec.ofChange fnExactChainSpec)) fnExactChainCard

/-- THE TIED CARD OF 'laws.FnExactVersionsOn'. -/
def fnExactVersionsOnCard : Claim7 := { stood := { row := fnExactVersionsOnRow, standIns := [], harness := (true, "c9d5c0706d9f173ea4de67460cc42bf899dcb39457c46253a73a74a5949ccf5c"), looks := true }, kinds := [], alts := [], laidByText := true, laidKinds := [.data, .data, .data], laidTests := true, laidLooks := .later }
def FnExactVersionsOnCardSaid : Prop := Claim7.holds Tryz.pinned (.plain (OpenSpec.ofChange fnExactVersionsOnSpec)) fnExactVersionsOnCard

/-- THE TIED CARD OF 'laws.FnExactBasesBehind'. -/
def fnExactBasesBehindCard : Claim7 := { stood := { row := fnExactBasesBehindRow, standIns := [], harness := (true, "c9d5c0706d9f173ea4de67460cc42bf899dcb39457c46253a73a74a5949ccf5c"), looks := true }, kinds := [], alts := [], laidByText := true, laidKinds := [.data, .data, .data], laidTests := true, laidLooks := .later }
def FnExactBasesBehindCardSaid : Prop := Claim7.holds Tryz.pinned (.plain (OpenSpec.ofChange fnExactBasesBehindSpec)) fnExactBasesBehindCard

/-- THE TIED CARD OF 'laws.FnExactBasesOn'. -/
def fnExactBasesOnCard : Claim7 := { stood := { row := fnExactBasesOnRow, standIns := [], harness := (true, "c9d5c0706d9f173ea4de67460cc42bf899dcb39457c46253a73a74a5949ccf5c"), looks := true }, kinds := [], alts := [], laidByText := true, laidKinds := [.data, .data, .data, .sentinel, .sentinel], laidTests := true, laidLooks := .later }
def FnExactBasesOnCardSaid : Prop := Claim7.holds Tryz.pinned (.plain (OpenSpec.ofChange fnExactBasesOnSpec)) fnExactBasesOnCard

/-- THE TIED CARD OF 'laws.FnExactLooseNames'. -/
def fnExactLooseNamesCard : Claim7 := { stood := { row := fnExactLooseNamesRow, standIns := [], harness := (true, "c9d5c0706d9f173ea4de67460cc42bf899dcb39457c46253a73a74a5949ccf5c"), looks := true }, kinds := [], alts := [], laidByText := true, laidKinds := [.data, .data, .data, .sentinel, .sentinel], laidTests := true, laidLooks := .later }
def FnExactLooseNamesCardSaid : Prop := Claim7.holds Tryz.pinned (.plain (OpenSpec.ofChange fnExactLooseNamesSpec)) fnExactLooseNamesCard

/-- THE TIED CARD OF 'laws.FnExactCleanOn'. -/
def fnExactCleanOnCard : Claim7 := { stood := { row := fnExactCleanOnRow, standIns := [], harness := (true, "c9d5c0706d9f173ea4de67460cc42bf899dcb39457c46253a73a74a5949ccf5c"), looks := true }, kinds := [], alts := [], laidByText := true, laidKinds := [.data, .data, .data, .sentinel, .sentinel], laidTests := true, laidLooks := .later }
def FnExactCleanOnCardSaid : Prop := Claim7.holds Tryz.pinned (.plain (OpenSpec.ofChange fnExactCleanOnSpec)) fnExactCleanOnCard

/-- THE TIED CARD OF 'laws.FnExactNamesWith'. -/
def fnExactNamesWithCard : Claim7 := { stood := { row := fnExactNamesWithRow, standIns := [], harness := (true, "c9d5c0706d9f173ea4de67460cc42bf899dcb39457c46253a73a74a5949ccf5c"), looks := true }, kinds := [], alts := [], laidByText := true, laidKinds := [.data, .data, .data, .sentinel, .sentinel], laidTests := true, laidLooks := .later }
def FnExactNamesWithCardSaid : Prop := Claim7.holds Tryz.pinned (.plain (OpenSpec.ofChange fnExactNamesWithSpec)) fnExactNamesWithCard

/-- THE SECOND FORM's CARD OF 'laws.FnExactRowLink'. -/
def fnExactRowLinkUptoCard : Claim7 := { stood := { row := fnExactRowLinkUptoRow, standIns := [], harness := (true, "c9d5c0706d9f173ea4de67460cc42bf899dcb39457c46253a73a74a5949ccf5c"), looks := true }, kinds := [], alts := [], laidByText := true, laidKinds := [.data, .data, .data], laidTests := true, laidLooks := .later }
def FnExactRowLinkUptoCardSaid : Prop := Claim7.holds Tryz.pinned (.plain (OpenSpec.upto fnExactRowLinkSpec)) fnExactRowLinkUptoCard

/-- THE SECOND FORM's CARD OF 'laws.FnExactOldOn'. -/
def fnExactOldOnUptoCard : Claim7 := { stood := { row := fnExactOldOnUptoRow, standIns := [], harness := (true, "c9d5c0706d9f173ea4de67460cc42bf899dcb39457c46253a73a74a5949ccf5c"), looks := true }, kinds := [], alts := [], laidByText := true, laidKinds := [.data, .data, .data], laidTests := true, laidLooks := .later }
def FnExactOldOnUptoCardSaid : Prop := Claim7.holds Tryz.pinned (.plain (OpenSpec.upto fnExactOldOnSpec)) fnExactOldOnUptoCard

/-- THE SECOND FORM's CARD OF 'laws.FnExactChainTexts'. -/
def fnExactChainTextsUptoCard : Claim7 := { stood := { row := fnExactChainTextsUptoRow, standIns := [], harness := (true, "c9d5c0706d9f173ea4de67460cc42bf899dcb39457c46253a73a74a5949ccf5c"), looks := true }, kinds := [], alts := [], laidByText := true, laidKinds := [.data, .data, .data], laidTests := true, laidLooks := .later }
def FnExactChainTextsUptoCardSaid : Prop := Claim7.holds Tryz.pinned (.plain (OpenSpec.upto fnExactChainTextsSpec)) fnExactChainTextsUptoCard

/-- THE SECOND FORM's CARD OF 'laws.FnExactRowOf'. -/
def fnExactRowOfUptoCard : Claim7 := { stood := { row := fnExactRowOfUptoRow, standIns := [], harness := (true, "c9d5c0706d9f173ea4de67460cc42bf899dcb39457c46253a73a74a5949ccf5c"), looks := true }, kinds := [], alts := [], laidByText := true, laidKinds := [.data, .data, .data], laidTests := true, laidLooks := .later }
def FnExactRowOfUptoCardSaid : Prop := Claim7.holds Tryz.pinned (.plain (OpenSpec.upto fnExactRowOfSpec)) fnExactRowOfUptoCard

/-- THE SECOND FORM's CARD OF 'laws.FnExactChain'. -/
def fnExactChainUptoCard : Claim7 := { stood := { row := fnExactChainUptoRow, standIns := [], harness := (true, "c9d5c0706d9f173ea4de67460cc42bf899dcb39457c46253a73a74a5949ccf5c"), looks := true }, kinds := [], alts := [], laidByText := true, laidKinds := [.data, .data, .data], laidTests := true, laidLooks := .later }
def FnExactChainUptoCardSaid : Prop := Claim7.holds Tryz.pinned (.plain (OpenSpec.upto fnExactChainSpec)) fnExactChainUptoCard

/-- THE SECOND FORM's CARD OF 'laws.FnExactVersionsOn'. -/
def fnExactVersionsOnUptoCard : Claim7 := { stood := { row := fnExactVersionsOnUptoRow, standIns := [], harness := (true, "c9d5c0706d9f173ea4de67460cc42bf899dcb39457c46253a73a74a5949ccf5c"), looks := true }, kinds := [], alts := [], laidByText := true, laidKinds := [.data, .data, .data], laidTests := true, laidLooks := .later }
def FnExactVersionsOnUptoCardSaid : Prop := Claim7.holds Tryz.pinned (.plain (OpenSpec.upto fnExactVersionsOnSpec)) fnExactVersionsOnUptoCard

/-- THE SECOND FORM's CARD OF 'laws.FnExactBasesBehind'. -/
def fnExactBasesBehindUptoCard : Claim7 := { stood := { row := fnExactBasesBehindUptoRow, standIns := [], harness := (true, "c9d5c0706d9f173ea4de67460cc42bf899dcb39457c46253a73a74a5949ccf5c"), looks := true }, kinds := [], alts := [], laidByText := true, laidKinds := [.data, .data, .data], laidTests := true, laidLooks := .later }
def FnExactBasesBehindUptoCardSaid : Prop := Claim7.holds Tryz.pinned (.plain (OpenSpec.upto fnExactBasesBehindSpec)) fnExactBasesBehindUptoCard

/-- THE SECOND FORM's CARD OF 'laws.FnExactBasesOn'. -/
def fnExactBasesOnUptoCard : Claim7 := { stood := { row := fnExactBasesOnUptoRow, standIns := [], harness := (true, "c9d5c0706d9f173ea4de67460cc42bf899dcb39457c46253a73a74a5949ccf5c"), looks := true }, kinds := [], alts := [], laidByText := true, laidKinds := [.data, .data, .data, .sentinel, .sentinel], laidTests := true, laidLooks := .later }
def FnExactBasesOnUptoCardSaid : Prop := Claim7.holds Tryz.pinned (.plain (OpenSpec.upto fnExactBasesOnSpec)) fnExactBasesOnUptoCard

/-- THE SECOND FORM's CARD OF 'laws.FnExactLooseNames'. -/
def fnExactLooseNamesUptoCard : Claim7 := { stood := { row := fnExactLooseNamesUptoRow, standIns := [], harness := (true, "c9d5c0706d9f173ea4de67460cc42bf899dcb39457c46253a73a74a5949ccf5c"), looks := true }, kinds := [], alts := [], laidByText := true, laidKinds := [.data, .data, .data, .sentinel, .sentinel], laidTests := true, laidLooks := .later }
def FnExactLooseNamesUptoCardSaid : Prop := Claim7.holds Tryz.pinned (.plain (OpenSpec.upto fnExactLooseNamesSpec)) fnExactLooseNamesUptoCard

/-- THE SECOND FORM's CARD OF 'laws.FnExactCleanOn'. -/
def fnExactCleanOnUptoCard : Claim7 := { stood := { row := fnExactCleanOnUptoRow, standIns := [], harness := (true, "c9d5c0706d9f173ea4de67460cc42bf899dcb39457c46253a73a74a5949ccf5c"), looks := true }, kinds := [], alts := [], laidByText := true, laidKinds := [.data, .data, .data, .sentinel, .sentinel], laidTests := true, laidLooks := .later }
def FnExactCleanOnUptoCardSaid : Prop := Claim7.holds Tryz.pinned (.plain (OpenSpec.upto fnExactCleanOnSpec)) fnExactCleanOnUptoCard

/-- THE SECOND FORM's CARD OF 'laws.FnExactNamesWith'. -/
def fnExactNamesWithUptoCard : Claim7 := { stood := { row := fnExactNamesWithUptoRow, standIns := [], harness := (true, "c9d5c0706d9f173ea4de67460cc42bf899dcb39457c46253a73a74a5949ccf5c"), looks := true }, kinds := [], alts := [], laidByText := true, laidKinds := [.data, .data, .data, .sentinel, .sentinel], laidTests := true, laidLooks := .later }
def FnExactNamesWithUptoCardSaid : Prop := Claim7.holds Tryz.pinned (.plain (OpenSpec.upto fnExactNamesWithSpec)) fnExactNamesWithUptoCard
end Rows
end Go.Proofs.YthjkdoadeknknaaGreatDoor
