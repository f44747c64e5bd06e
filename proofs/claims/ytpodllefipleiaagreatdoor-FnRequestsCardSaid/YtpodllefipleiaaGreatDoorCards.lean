/-
  DERIVED. GIVEN WITH THE SEED: THE CARDS: each row of YtpodllefipleiaaGreatDoorRows.lean that lists a variable, with what it lists TIED to the program's text (the seventh form; the later family's looks); each row that meets fmt, with fmt's text TOLD by the authors' own Lean function (tested against real Go, not proved from fmt's source: count such statements apart). THE CARD IS WHAT COUNTS. Prove the row's statement (the work); the ties are given (YtpodllefipleiaaGreatDoorTie.lean); close each card by the builder's one call (the guide's Derived/Test/ToyasCard.lean, 'card_holds'). Laid BY PROGRAM, IN A SANDBOX (cutbox-door.mjs). By AI agents, Wed Nov 11 2026. No macro, syntax, notation, axiom, sorry.
-/
import Derived.Test.YtpodllefipleiaaGreatDoorRows
import GoSem.ClaimSeven
namespace Go.Proofs.YtpodllefipleiaaGreatDoor
namespace Rows

/-- THE TIED CARD OF 'laws.FnTuning'. -/
def fnTuningCard : Claim7 := { stood := { row := fnTuningRow, standIns := [], harness := (true, "7b0da778b0f858856e28bcf28af798ba337ee41f1c5ae9c857b4505a9164be3a"), looks := true }, kinds := [], alts := [], laidByText := true, laidKinds := [.data, .data, .data, .data, .sentinel, .sentinel, .pinned], laidTests := true, laidLooks := .later }
def FnTuningCardSaid : Prop := Claim7.holds Tryz.pinned (.plain (OpenSpec.ofChange fnTuningSpec)) fnTuningCard

/-- THE TIED CARD OF 'laws.FnRequests'. -/
def fnRequestsCard : Claim7 := { stood := { row := fnRequestsRow, standIns := [], harness := (true, "7b0da778b0f858856e28bcf28af798ba337ee41f1c5ae9c857b4505a9164be3a"), looks := true }, kinds := [], alts := [], laidByText := true, laidKinds := [.data, .data, .data, .data, .sentinel, .sentinel, .pinned], laidTests := true, laidLooks := .later }
def FnRequestsCardSaid : Prop := Claim7.holds Tryz.pinned (.plain (OpenSpec.ofChange fnRequestsSpec)) fnRequestsCard

/-- THE SECOND FORM's CARD OF 'laws.FnTuning'. -/
def fnTuningUptoCard : Claim7 := { stood := { row := fnTuningUptoRow, standIns := [], harness := (true, "7b0da778b0f858856e28bcf28af798ba337ee41f1c5ae9c857b4505a9164be3a"), looks := true }, kinds := [], alts := [], laidByText := true, laidKinds := [.data, .data, .data, .data, .sentinel, .sentinel, .pinned], laidTests := true, laidLooks := .later }
def FnTuningUptoCardSaid : Prop := Claim7.holds Tryz.pinned (.plain (OpenSpec.upto fnTuningSpec)) fnTuningUptoCard

/-- THE SECOND FORM's CARD OF 'laws.FnRequests'. -/
def fnRequestsUptoCard : Claim7 := { stood := { row := fnRequestsUptoRow, standIns := [], harness := (true, "7b0da778b0f858856e28bcf28af798ba337ee41f1c5ae9c857b4505a9164be3a"), looks := true }, kinds := [], alts := [], laidByText := true, laidKinds := [.data, .data, .data, .data, .sentinel, .sentinel, .pinned], laidTests := true, laidLooks := .later }
def FnRequestsUptoCardSaid : Prop := Claim7.holds Tryz.pinned (.plain (OpenSpec.upto fnRequestsSpec)) fnRequestsUptoCard
end Rows
end Go.Proofs.YtpodllefipleiaaGreatDoor
