/-
  DERIVED. GIVEN WITH THE SEED: THE CARDS: each row of YtgmapjgodibchaaGreatDoorRows.lean that lists a variable, with what it lists TIED to the program's text (the seventh form; the later family's looks); each row that meets fmt, with fmt's text TOLD by the authors' own Lean function (tested against real Go, not proved from fmt's source: count such statements apart). THE CARD IS WHAT COUNTS. Prove the row's statement (the work); the ties are given (YtgmapjgodibchaaGreatDoorTie.lean); close each card by the builder's one call (the guide's Derived/Test/ToyasCard.lean, 'card_holds'). Laid BY PROGRAM, IN A SANDBOX (cutbox-door.mjs). By AI agents, Wed Nov 11 2026. No macro, syntax, notation, axiom, sorry.
-/
import Derived.Test.YtgmapjgodibchaaGreatDoorRows
import GoSem.ClaimSeven
namespace Go.Proofs.YtgmapjgodibchaaGreatDoor
namespace Rows

/-- THE TIED CARD OF 'laws.FnExactCoverNetwork'. -/
def fnExactCoverNetworkCard : Claim7 := { stood := { row := fnExactCoverNetworkRow, standIns := [], harness := (true, "569b5761344ae9ec3c45dce8a8556539b9173c82aa7db11ee16a1f84a42f7cdc"), looks := false }, kinds := [], alts := [], laidByText := true, laidKinds := [.data, .data, .data, .data, .data], laidTests := true, laidLooks := .later }
def FnExactCoverNetworkCardSaid : Prop := Claim7.holds Tryz.pinned (.plain (OpenSpec.ofChange fnExactCoverNetworkSpec)) fnExactCoverNetworkCard

/-- THE TIED CARD OF 'laws.FnExactLevelsAtPlace'. -/
def fnExactLevelsAtPlaceCard : Claim7 := { stood := { row := fnExactLevelsAtPlaceRow, standIns := [], harness := (true, "569b5761344ae9ec3c45dce8a8556539b9173c82aa7db11ee16a1f84a42f7cdc"), looks := false }, kinds := [], alts := [], laidByText := true, laidKinds := [.data, .data, .data, .data, .data], laidTests := true, laidLooks := .later }
def FnExactLevelsAtPlaceCardSaid : Prop := Claim7.holds Tryz.pinned (.plain (OpenSpec.ofChange fnExactLevelsAtPlaceSpec)) fnExactLevelsAtPlaceCard

/-- THE TIED CARD OF 'laws.FnExactExceedingSectors'. -/
def fnExactExceedingSectorsCard : Claim7 := { stood := { row := fnExactExceedingSectorsRow, standIns := [], harness := (true, "569b5761344ae9ec3c45dce8a8556539b9173c82aa7db11ee16a1f84a42f7cdc"), looks := false }, kinds := [], alts := [], laidByText := true, laidKinds := [.data, .data, .data, .data, .data], laidTests := true, laidLooks := .later }
def FnExactExceedingSectorsCardSaid : Prop := Claim7.holds Tryz.pinned (.plain (OpenSpec.ofChange fnExactExceedingSectorsSpec)) fnExactExceedingSectorsCard

/-- THE SECOND FORM's CARD OF 'laws.FnExactCoverNetwork'. -/
def fnExactCoverNetworkUptoCard : Claim7 := { stood := { row := fnExactCoverNetworkUptoRow, standIns := [], harness := (true, "569b5761344ae9ec3c45dce8a8556539b9173c82aa7db11ee16a1f84a42f7cdc"), looks := false }, kinds := [], alts := [], laidByText := true, laidKinds := [.data, .data, .data, .data, .data], laidTests := true, laidLooks := .later }
def FnExactCoverNetworkUptoCardSaid : Prop := Claim7.holds Tryz.pinned (.plain (OpenSpec.upto fnExactCoverNetworkSpec)) fnExactCoverNetworkUptoCard

/-- THE SECOND FORM's CARD OF 'laws.FnExactLevelsAtPlace'. -/
def fnExactLevelsAtPlaceUptoCard : Claim7 := { stood := { row := fnExactLevelsAtPlaceUptoRow, standIns := [], harness := (true, "569b5761344ae9ec3c45dce8a8556539b9173c82aa7db11ee16a1f84a42f7cdc"), looks := false }, kinds := [], alts := [], laidByText := true, laidKinds := [.data, .data, .data, .data, .data], laidTests := true, laidLooks := .later }
def FnExactLevelsAtPlaceUptoCardSaid : Prop := Claim7.holds Tryz.pinned (.plain (OpenSpec.upto fnExactLevelsAtPlaceSpec)) fnExactLevelsAtPlaceUptoCard

/-- THE SECOND FORM's CARD OF 'laws.FnExactExceedingSectors'. -/
def fnExactExceedingSectorsUptoCard : Claim7 := { stood := { row := fnExactExceedingSectorsUptoRow, standIns := [], harness := (true, "569b5761344ae9ec3c45dce8a8556539b9173c82aa7db11ee16a1f84a42f7cdc"), looks := false }, kinds := [], alts := [], laidByText := true, laidKinds := [.data, .data, .data, .data, .data], laidTests := true, laidLooks := .later }
def FnExactExceedingSectorsUptoCardSaid : Prop := Claim7.holds Tryz.pinned (.plain (OpenSpec.upto fnExactExceedingSectorsSpec)) fnExactExceedingSectorsUptoCard
end Rows
end Go.Proofs.YtgmapjgodibchaaGreatDoor
