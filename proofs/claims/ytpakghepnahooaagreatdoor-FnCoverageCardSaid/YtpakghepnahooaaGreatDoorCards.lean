/-
  DERIVED. GIVEN WITH THE SEED: THE CARDS: each row of YtpakghepnahooaaGreatDoorRows.lean that lists a variable, with what it lists TIED to the program's text (the seventh form; the later family's looks); each row that meets fmt, with fmt's text TOLD by the authors' own Lean function (tested against real Go, not proved from fmt's source: count such statements apart). THE CARD IS WHAT COUNTS. Prove the row's statement (the work); the ties are given (YtpakghepnahooaaGreatDoorTie.lean); close each card by the builder's one call (the guide's Derived/Test/ToyasCard.lean, 'card_holds'). Laid BY PROGRAM, IN A SANDBOX (cutbox-door.mjs). By AI agents, Wed Nov 11 2026. No macro, syntax, notation, axiom, sorry.
-/
import Derived.Test.YtpakghepnahooaaGreatDoorRows
import GoSem.ClaimSeven
namespace Go.Proofs.YtpakghepnahooaaGreatDoor
namespace Rows

/-- THE TIED CARD OF 'laws.FnCoverage'. -/
def fnCoverageCard : Claim7 := { stood := { row := fnCoverageRow, standIns := [], harness := (true, "be38a0284828b2b2ed766ade6c17fba767f5f8aa818bdfc87492dd524fe32fe0"), looks := false }, kinds := [], alts := [], laidByText := true, laidKinds := [.data, .data, .data, .data, .data], laidTests := true, laidLooks := .later }
def FnCoverageCardSaid : Prop := Claim7.holds Tryz.pinned (.plain (OpenSpec.ofChange fnCoverageSpec)) fnCoverageCard

/-- THE TIED CARD OF 'laws.FnLimits'. -/
def fnLimitsCard : Claim7 := { stood := { row := fnLimitsRow, standIns := [], harness := (true, "be38a0284828b2b2ed766ade6c17fba767f5f8aa818bdfc87492dd524fe32fe0"), looks := false }, kinds := [], alts := [], laidByText := true, laidKinds := [.data, .data, .data, .data, .data], laidTests := true, laidLooks := .later }
def FnLimitsCardSaid : Prop := Claim7.holds Tryz.pinned (.plain (OpenSpec.ofChange fnLimitsSpec)) fnLimitsCard

/-- THE TIED CARD OF 'laws.FnReceived'. -/
def fnReceivedCard : Claim7 := { stood := { row := fnReceivedRow, standIns := [], harness := (true, "be38a0284828b2b2ed766ade6c17fba767f5f8aa818bdfc87492dd524fe32fe0"), looks := false }, kinds := [], alts := [], laidByText := true, laidKinds := [.data, .data, .data, .data, .data], laidTests := true, laidLooks := .later }
def FnReceivedCardSaid : Prop := Claim7.holds Tryz.pinned (.plain (OpenSpec.ofChange fnReceivedSpec)) fnReceivedCard

/-- THE SECOND FORM's CARD OF 'laws.FnCoverage'. -/
def fnCoverageUptoCard : Claim7 := { stood := { row := fnCoverageUptoRow, standIns := [], harness := (true, "be38a0284828b2b2ed766ade6c17fba767f5f8aa818bdfc87492dd524fe32fe0"), looks := false }, kinds := [], alts := [], laidByText := true, laidKinds := [.data, .data, .data, .data, .data], laidTests := true, laidLooks := .later }
def FnCoverageUptoCardSaid : Prop := Claim7.holds Tryz.pinned (.plain (OpenSpec.upto fnCoverageSpec)) fnCoverageUptoCard

/-- THE SECOND FORM's CARD OF 'laws.FnLimits'. -/
def fnLimitsUptoCard : Claim7 := { stood := { row := fnLimitsUptoRow, standIns := [], harness := (true, "be38a0284828b2b2ed766ade6c17fba767f5f8aa818bdfc87492dd524fe32fe0"), looks := false }, kinds := [], alts := [], laidByText := true, laidKinds := [.data, .data, .data, .data, .data], laidTests := true, laidLooks := .later }
def FnLimitsUptoCardSaid : Prop := Claim7.holds Tryz.pinned (.plain (OpenSpec.upto fnLimitsSpec)) fnLimitsUptoCard

/-- THE SECOND FORM's CARD OF 'laws.FnReceived'. -/
def fnReceivedUptoCard : Claim7 := { stood := { row := fnReceivedUptoRow, standIns := [], harness := (true, "be38a0284828b2b2ed766ade6c17fba767f5f8aa818bdfc87492dd524fe32fe0"), looks := false }, kinds := [], alts := [], laidByText := true, laidKinds := [.data, .data, .data, .data, .data], laidTests := true, laidLooks := .later }
def FnReceivedUptoCardSaid : Prop := Claim7.holds Tryz.pinned (.plain (OpenSpec.upto fnReceivedSpec)) fnReceivedUptoCard
end Rows
end Go.Proofs.YtpakghepnahooaaGreatDoor
