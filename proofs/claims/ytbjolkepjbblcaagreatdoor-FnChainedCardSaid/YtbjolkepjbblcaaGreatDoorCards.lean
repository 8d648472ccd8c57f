/-
  DERIVED. GIVEN WITH THE SEED: THE CARDS: each row of YtbjolkepjbblcaaGreatDoorRows.lean that lists a variable, with what it lists TIED to the program's text (the seventh form; the later family's looks); each row that meets fmt, with fmt's text TOLD by the authors' own Lean function (tested against real Go, not proved from fmt's source: count such statements apart). THE CARD IS WHAT COUNTS. Prove the row's statement (the work); the ties are given (YtbjolkepjbblcaaGreatDoorTie.lean); close each card by the builder's one call (the guide's Derived/Test/ToyasCard.lean, 'card_holds'). Laid BY PROGRAM, IN A SANDBOX (cutbox-door.mjs). By AI agents, Wed Nov 11 2026. No macro, syntax, notation, axiom, sorry.
-/
import Derived.Test.YtbjolkepjbblcaaGreatDoorRows
import GoSem.ClaimSeven
namespace Go.Proofs.YtbjolkepjbblcaaGreatDoor
namespace Rows

/-- THE TIED CARD OF 'laws.FnExactNamesWith'. -/
def fnExactNamesWithCard : Claim7 := { stood := { row := fnExactNamesWithRow, standIns := [], harness := (true, "17b7f88c289c53a7006463fa366d55622fa3641d64035e220098b326dfc89e41"), looks := true }, kinds := [], alts := [], laidByText := true, laidKinds := [.data, .data, .data, .sentinel, .sentinel], laidTests := true, laidLooks := .later }
def FnExactNamesWithCardSaid : Prop := Claim7.holds Tryz.pinned (.plain (OpenSpec.ofChange fnExactNamesWithSpec)) fnExactNamesWithCard

/-- THE TIED CARD OF 'laws.FnExactBasesOn'. -/
def fnExactBasesOnCard : Claim7 := { stood := { row := fnExactBasesOnRow, standIns := [], harness := (true, "17b7f88c289c53a7006463fa366d55622fa3641d64035e220098b326dfc89e41"), looks := true }, kinds := [], alts := [], laidByText := true, laidKinds := [.data, .data, .data, .sentinel, .sentinel], laidTests := true, laidLooks := .later }
def FnExactBasesOnCardSaid : Prop := Claim7.holds Tryz.pinned (.plain (OpenSpec.ofChange fnExactBasesOnSpec)) fnExactBasesOnCard

/-- THE TIED CARD OF 'laws.FnExactLooked'. -/
def fnExactLookedCard : Claim7 := { stood := { row := fnExactLookedRow, standIns := [], harness := (true, "17b7f88c289c53a7006463fa366d55622fa3641d64035e220098b326dfc89e41"), looks := true }, kinds := [], alts := [], laidByText := true, laidKinds := [.data, .data, .data, .sentinel, .sentinel], laidTests := true, laidLooks := .later }
def FnExactLookedCardSaid : Prop := Claim7.holds Tryz.pinned (.plain (OpenSpec.ofChange fnExactLookedSpec)) fnExactLookedCard

/-- THE TIED CARD OF 'laws.FnChained'. -/
def fnChainedCard : Claim7 := { stood := { row := fnChainedRow, standIns := [], harness := (true, "17b7f88c289c53a7006463fa366d55622fa3641d64035e220098b326dfc89e41"), looks := true }, kinds := [], alts := [], laidByText := true, laidKinds := [.data, .data, .data], laidTests := true, laidLooks := .later }
def FnChainedCardSaid : Prop := Claim7.holds Tryz.pinned (.plain (OpenSpec.ofChange fnChainedSpec)) fnChainedCard

/-- THE TIED CARD OF 'laws.FnNamed'. -/
def fnNamedCard : Claim7 := { stood := { row := fnNamedRow, standIns := [], harness := (true, "17b7f88c289c53a7006463fa366d55622fa3641d64035e220098b326dfc89e41"), looks := true }, kinds := [], alts := [], laidByText := true, laidKinds := [.data, .data, .data, .sentinel, .sentinel], laidTests := true, laidLooks := .later }
def FnNamedCardSaid : Prop := Claim7.holds Tryz.pinned (.plain (OpenSpec.ofChange fnNamedSpec)) fnNamedCard

/-- THE TIED CARD OF 'laws.FnRows'. -/
def fnRowsCard : Claim7 := { stood := { row := fnRowsRow, standIns := [], harness := (true, "17b7f88c289c53a7006463fa366d55622fa3641d64035e220098b326dfc89e41"), looks := true }, kinds := [], alts := [], laidByText := true, laidKinds := [.data, .data, .data, .sentinel, .sentinel], laidTests := true, laidLooks := .later }
def FnRowsCardSaid : Prop := Claim7.holds Tryz.pinned (.plain (OpenSpec.ofChange fnRowsSpec)) fnRowsCard

/-- THE TIED CARD OF 'laws.FnLooked'. -/
def fnLookedCard : Claim7 := { stood := { row := fnLookedRow, standIns := [], harness := (true, "17b7f88c289c53a7006463fa366d55622fa3641d64035e220098b326dfc89e41"), looks := true }, kinds := [], alts := [], laidByText := true, laidKinds := [.data, .data, .data, .sentinel, .sentinel], laidTests := true, laidLooks := .later }
def FnLookedCardSaid : Prop := Claim7.holds Tryz.pinned (.plain (OpenSpec.ofChange fnLookedSpec)) fnLookedCard

/-- THE SECOND FORM's CARD OF 'laws.FnExactNamesWith'. -/
def fnExactNamesWithUptoCard : Claim7 := { stood := { row := fnExactNamesWithUptoRow, standIns := [], harness := (true, "17b7f88c289c53a7006463fa366d55622fa3641d64035e220098b326dfc89e41"), looks := true }, kinds := [], alts := [], laidByText := true, laidKinds := [.data, .data, .data, .sentinel, .sentinel], laidTests := true, laidLooks := .later }
def FnExactNamesWithUptoCardSaid : Prop := Claim7.holds Tryz.pinned (.plain (OpenSpec.upto fnExactNamesWithSpec)) fnExactNamesWithUptoCard

/-- THE SECOND FORM's CARD OF 'laws.FnExactBasesOn'. -/
def fnExactBasesOnUptoCard : Claim7 := { stood := { row := fnExactBasesOnUptoRow, standIns := [], harness := (true, "17b7f88c289c53a7006463fa366d55622fa3641d64035e220098b326dfc89e41"), looks := true }, kinds := [], alts := [], laidByText := true, laidKinds := [.data, .data, .data, .sentinel, .sentinel], laidTests := true, laidLooks := .later }
def FnExactBasesOnUptoCardSaid : Prop := Claim7.holds Tryz.pinned (.plain (OpenSpec.upto fnExactBasesOnSpec)) fnExactBasesOnUptoCard

/-- THE SECOND FORM's CARD OF 'laws.FnExactLooked'. -/
def fnExactLookedUptoCard : Claim7 := { stood := { row := fnExactLookedUptoRow, standIns := [], harness := (true, "17b7f88c289c53a7006463fa366d55622fa3641d64035e220098b326dfc89e41"), looks := true }, kinds := [], alts := [], laidByText := true, laidKinds := [.data, .data, .data, .sentinel, .sentinel], laidTests := true, laidLooks := .later }
def FnExactLookedUptoCardSaid : Prop := Claim7.holds Tryz.pinned (.plain (OpenSpec.upto fnExactLookedSpec)) fnExactLookedUptoCard

/-- THE SECOND FORM's CARD OF 'laws.FnChained'. -/
def fnChainedUptoCard : Claim7 := { stood := { row := fnChainedUptoRow, standIns := [], harness := (true, "17b7f88c289c53a7006463fa366d55622fa3641d64035e220098b326dfc89e41"), looks := true }, kinds := [], alts := [], laidByText := true, laidKinds := [.data, .data, .data], laidTests := true, laidLooks := .later }
def FnChainedUptoCardSaid : Prop := Claim7.holds Tryz.pinned (.plain (OpenSpec.upto fnChainedSpec)) fnChainedUptoCard

/-- THE SECOND FORM's CARD OF 'laws.FnNamed'. -/
def fnNamedUptoCard : Claim7 := { stood := { row := fnNamedUptoRow, standIns := [], harness := (true, "17b7f88c289c53a7006463fa366d55622fa3641d64035e220098b326dfc89e41"), looks := true }, kinds := [], alts := [], laidByText := true, laidKinds := [.data, .data, .data, .sentinel, .sentinel], laidTests := true, laidLooks := .later }
def FnNamedUptoCardSaid : Prop := Claim7.holds Tryz.pinned (.plain (OpenSpec.upto fnNamedSpec)) fnNamedUptoCard

/-- THE SECOND FORM's CARD OF 'laws.FnRows'. -/
def fnRowsUptoCard : Claim7 := { stood := { row := fnRowsUptoRow, standIns := [], harness := (true, "17b7f88c289c53a7006463fa366d55622fa3641d64035e220098b326dfc89e41"), looks := true }, kinds := [], alts := [], laidByText := true, laidKinds := [.data, .data, .data, .sentinel, .sentinel], laidTests := true, laidLooks := .later }
def FnRowsUptoCardSaid : Prop := Claim7.holds Tryz.pinned (.plain (OpenSpec.upto fnRowsSpec)) fnRowsUptoCard

/-- THE SECOND FORM's CARD OF 'laws.FnLooked'. -/
def fnLookedUptoCard : Claim7 := { stood := { row := fnLookedUptoRow, standIns := [], harness := (true, "17b7f88c289c53a7006463fa366d55622fa3641d64035e220098b326dfc89e41"), looks := true }, kinds := [], alts := [], laidByText := true, laidKinds := [.data, .data, .data, .sentinel, .sentinel], laidTests := true, laidLooks := .later }
def FnLookedUptoCardSaid : Prop := Claim7.holds Tryz.pinned (.plain (OpenSpec.upto fnLookedSpec)) fnLookedUptoCard
end Rows
end Go.Proofs.YtbjolkepjbblcaaGreatDoor
