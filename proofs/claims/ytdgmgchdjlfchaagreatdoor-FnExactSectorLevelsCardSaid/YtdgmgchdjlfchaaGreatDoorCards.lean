/-
  DERIVED. GIVEN WITH THE SEED: THE CARDS: each row of YtdgmgchdjlfchaaGreatDoorRows.lean that lists a variable, with what it lists TIED to the program's text (the seventh form; the later family's looks); each row that meets fmt, with fmt's text TOLD by the authors' own Lean function (tested against real Go, not proved from fmt's source: count such statements apart). THE CARD IS WHAT COUNTS. Prove the row's statement (the work); the ties are given (YtdgmgchdjlfchaaGreatDoorTie.lean); close each card by the builder's one call (the guide's Derived/Test/ToyasCard.lean, 'card_holds'). Laid BY PROGRAM, IN A SANDBOX (cutbox-door.mjs). By AI agents, Wed Nov 11 2026. No macro, syntax, notation, axiom, sorry.
-/
import Derived.Test.YtdgmgchdjlfchaaGreatDoorRows
import GoSem.ClaimSeven
namespace Go.Proofs.YtdgmgchdjlfchaaGreatDoor
namespace Rows

/-- THE TIED CARD OF 'laws.FnExactLevelAt'. -/
def fnExactLevelAtCard : Claim7 := { stood := { row := fnExactLevelAtRow, standIns := [], harness := (true, "6fdfeafb047947af3d3140ce5796a0f07ddea9cb0d80107ce323449fc6c097a9"), looks := false }, kinds := [], alts := [], laidByText := true, laidKinds := [.data, .data, .data, .data, .data], laidTests := true, laidLooks := .later }
def FnExactLevelAtCardSaid : Prop := Claim7.holds Tryz.pinned (.plain (OpenSpec.ofChange fnExactLevelAtSpec)) fnExactLevelAtCard

/-- THE TIED CARD OF 'laws.FnExactLevelsAt'. -/
def fnExactLevelsAtCard : Claim7 := { stood := { row := fnExactLevelsAtRow, standIns := [], harness := (true, "6fdfeafb047947af3d3140ce5796a0f07ddea9cb0d80107ce323449fc6c097a9"), looks := false }, kinds := [], alts := [], laidByText := true, laidKinds := [.data, .data, .data, .data, .data], laidTests := true, laidLooks := .later }
def FnExactLevelsAtCardSaid : Prop := Claim7.holds Tryz.pinned (.plain (OpenSpec.ofChange fnExactLevelsAtSpec)) fnExactLevelsAtCard

/-- THE TIED CARD OF 'laws.FnExactSectorLevels'. -/
def fnExactSectorLevelsCard : Claim7 := { stood := { row := fnExactSectorLevelsRow, standIns := [], harness := (true, "6fdfeafb047947af3d3140ce5796a0f07ddea9cb0d80107ce323449fc6c097a9"), looks := false }, kinds := [], alts := [], laidByText := true, laidKinds := [.data, .data, .data, .data, .data], laidTests := true, laidLooks := .later }
def FnExactSectorLevelsCardSaid : Prop := Claim7.holds Tryz.pinned (.plain (OpenSpec.ofChange fnExactSectorLevelsSpec)) fnExactSectorLevelsCard

/-- THE TIED CARD OF 'laws.FnExactLevelRows'. -/
def fnExactLevelRowsCard : Claim7 := { stood := { row := fnExactLevelRowsRow, standIns := [], harness := (true, "6fdfeafb047947af3d3140ce5796a0f07ddea9cb0d80107ce323449fc6c097a9"), looks := false }, kinds := [], alts := [], laidByText := true, laidKinds := [.data, .data, .data, .data, .data], laidTests := true, laidLooks := .later }
def FnExactLevelRowsCardSaid : Prop := Claim7.holds Tryz.pinned (.plain (OpenSpec.ofChange fnExactLevelRowsSpec)) fnExactLevelRowsCard

/-- THE SECOND FORM's CARD OF 'laws.FnExactLevelAt'. -/
def fnExactLevelAtUptoCard : Claim7 := { stood := { row := fnExactLevelAtUptoRow, standIns := [], harness := (true, "6fdfeafb047947af3d3140ce5796a0f07ddea9cb0d80107ce323449fc6c097a9"), looks := false }, kinds := [], alts := [], laidByText := true, laidKinds := [.data, .data, .data, .data, .data], laidTests := true, laidLooks := .later }
def FnExactLevelAtUptoCardSaid : Prop := Claim7.holds Tryz.pinned (.plain (OpenSpec.upto fnExactLevelAtSpec)) fnExactLevelAtUptoCard

/-- THE SECOND FORM's CARD OF 'laws.FnExactLevelsAt'. -/
def fnExactLevelsAtUptoCard : Claim7 := { stood := { row := fnExactLevelsAtUptoRow, standIns := [], harness := (true, "6fdfeafb047947af3d3140ce5796a0f07ddea9cb0d80107ce323449fc6c097a9"), looks := false }, kinds := [], alts := [], laidByText := true, laidKinds := [.data, .data, .data, .data, .data], laidTests := true, laidLooks := .later }
def FnExactLevelsAtUptoCardSaid : Prop := Claim7.holds Tryz.pinned (.plain (OpenSpec.upto fnExactLevelsAtSpec)) fnExactLevelsAtUptoCard

/-- THE SECOND FORM's CARD OF 'laws.FnExactSectorLevels'. -/
def fnExactSectorLevelsUptoCard : Claim7 := { stood := { row := fnExactSectorLevelsUptoRow, standIns := [], harness := (true, "6fdfeafb047947af3d3140ce5796a0f07ddea9cb0d80107ce323449fc6c097a9"), looks := false }, kinds := [], alts := [], laidByText := true, laidKinds := [.data, .data, .data, .data, .data], laidTests := true, laidLooks := .later }
def FnExactSectorLevelsUptoCardSaid : Prop := Claim7.holds Tryz.pinned (.plain (OpenSpec.upto fnExactSectorLevelsSpec)) fnExactSectorLevelsUptoCard

/-- THE SECOND FORM's CARD OF 'laws.FnExactLevelRows'. -/
def fnExactLevelRowsUptoCard : Claim7 := { stood := { row := fnExactLevelRowsUptoRow, standIns := [], harness := (true, "6fdfeafb047947af3d3140ce5796a0f07ddea9cb0d80107ce323449fc6c097a9"), looks := false }, kinds := [], alts := [], laidByText := true, laidKinds := [.data, .data, .data, .data, .data], laidTests := true, laidLooks := .later }
def FnExactLevelRowsUptoCardSaid : Prop := Claim7.holds Tryz.pinned (.plain (OpenSpec.upto fnExactLevelRowsSpec)) fnExactLevelRowsUptoCard
end Rows
end Go.Proofs.YtdgmgchdjlfchaaGreatDoor
