/-
  DERIVED. GIVEN WITH THE SEED: THE CARDS: each row of YtjkpadfolkniaaaGreatDoorRows.lean that lists a variable, with what it lists TIED to the program's text (the seventh form; the later family's looks); each row that meets fmt, with fmt's text TOLD by the authors' own Lean function (tested against real Go, not proved from fmt's source: count such statements apart). THE CARD IS WHAT COUNTS. Prove the row's statement (the work); the ties are given (YtjkpadfolkniaaaGreatDoorTie.lean); close each card by the builder's one call (the guide's Derived/Test/ToyasCard.lean, 'card_holds'). Laid BY PROGRAM, IN A SANDBOX (cutbox-door.mjs). By AI agents, Wed Nov 11 2026. No macro, syntax, notation, axiom, sorry.
-/
import Derived.Test.YtjkpadfolkniaaaGreatDoorRows
import GoSem.ClaimSeven
namespace Go.Proofs.YtjkpadfolkniaaaGreatDoor
namespace Rows

/-- THE TIED CARD OF 'laws.FnExactDamagedFrames'. -/
def fnExactDamagedFramesCard : Claim7 := { stood := { row := fnExactDamagedFramesRow, standIns := [], harness := (true, "cb7a820e2bc5ada9b2bf2f0305e325527ffb5be74d4bfdd5353c8a28403d6ce1"), looks := true }, kinds := [], alts := [], laidByText := true, laidKinds := [.data, .data, .data, .data, .sentinel, .sentinel, .pinned], laidTests := true, laidLooks := .later }
def FnExactDamagedFramesCardSaid : Prop := Claim7.holds Tryz.pinned (.plain (OpenSpec.ofChange fnExactDamagedFramesSpec)) fnExactDamagedFramesCard

/-- THE TIED CARD OF 'laws.FnExactLoadRegister'. -/
def fnExactLoadRegisterCard : Claim7 := { stood := { row := fnExactLoadRegisterRow, standIns := [], harness := (true, "cb7a820e2bc5ada9b2bf2f0305e325527ffb5be74d4bfdd5353c8a28403d6ce1"), looks := true }, kinds := [], alts := [], laidByText := true, laidKinds := [.data, .data, .data, .data, .sentinel, .sentinel, .pinned], laidTests := true, laidLooks := .later }
def FnExactLoadRegisterCardSaid : Prop := Claim7.holds Tryz.pinned (.plain (OpenSpec.ofChange fnExactLoadRegisterSpec)) fnExactLoadRegisterCard

/-- THE SECOND FORM's CARD OF 'laws.FnExactDamagedFrames'. -/
def fnExactDamagedFramesUptoCard : Claim7 := { stood := { row := fnExactDamagedFramesUptoRow, standIns := [], harness := (true, "cb7a820e2bc5ada9b2bf2f0305e325527ffb5be74d4bfdd5353c8a28403d6ce1"), looks := true }, kinds := [], alts := [], laidByText := true, laidKinds := [.data, .data, .data, .data, .sentinel, .sentinel, .pinned], laidTests := true, laidLooks := .later }
def FnExactDamagedFramesUptoCardSaid : Prop := Claim7.holds Tryz.pinned (.plain (OpenSpec.upto fnExactDamagedFramesSpec)) fnExactDamagedFramesUptoCard

/-- THE SECOND FORM's CARD OF 'laws.FnExactLoadRegister'. -/
def fnExactLoadRegisterUptoCard : Claim7 := { stood := { row := fnExactLoadRegisterUptoRow, standIns := [], harness := (true, "cb7a820e2bc5ada9b2bf2f0305e325527ffb5be74d4bfdd5353c8a28403d6ce1"), looks := true }, kinds := [], alts := [], laidByText := true, laidKinds := [.data, .data, .data, .data, .sentinel, .sentinel, .pinned], laidTests := true, laidLooks := .later }
def FnExactLoadRegisterUptoCardSaid : Prop := Claim7.holds Tryz.pinned (.plain (OpenSpec.upto fnExactLoadRegisterSpec)) fnExactLoadRegisterUptoCard
end Rows
end Go.Proofs.YtjkpadfolkniaaaGreatDoor
