/-
  DERIVED. GIVEN WITH THE SEED: THE CARDS: each row of YtjkpadfolkniaaaDoorRows.lean that lists a variable, with what it lists TIED to the program's text (the seventh form; the later family's looks); each row that meets fmt, with fmt's text TOLD by the authors' own Lean function (tested against real Go, not proved from fmt's source: count such statements apart). THE CARD IS WHAT COUNTS. Prove the row's statement (the work); the ties are given (YtjkpadfolkniaaaDoorTie.lean); close each card by the builder's one call (the guide's Derived/Test/ToyasCard.lean, 'card_holds'). Laid BY PROGRAM, IN A SANDBOX (cutbox-door.mjs). By AI agents, Wed Nov 11 2026. No macro, syntax, notation, axiom, sorry.
-/
import Derived.Test.YtjkpadfolkniaaaDoorRows
import GoSem.ClaimSeven
namespace Go.Proofs.YtjkpadfolkniaaaDoor
namespace Rows

/-- THE TIED CARD OF 'laws.FnExactSaveRegister'. -/
def fnExactSaveRegisterCard : Claim7 := { stood := { row := fnExactSaveRegisterRow, standIns := [], harness := (true, "ecaf34c101626680c45321fb5d38fa45e8fd819ec8c20378c084b2007a2e0229"), looks := false }, kinds := [], alts := [], laidByText := true, laidKinds := [.data, .data, .data], laidTests := true, laidLooks := .later }
def FnExactSaveRegisterCardSaid : Prop := Claim7.holds Tryd.pinned (.plain (OpenSpec.ofChange fnExactSaveRegisterSpec)) fnExactSaveRegisterCard

/-- THE SECOND FORM's CARD OF 'laws.FnExactSaveRegister'. -/
def fnExactSaveRegisterUptoCard : Claim7 := { stood := { row := fnExactSaveRegisterUptoRow, standIns := [], harness := (true, "ecaf34c101626680c45321fb5d38fa45e8fd819ec8c20378c084b2007a2e0229"), looks := false }, kinds := [], alts := [], laidByText := true, laidKinds := [.data, .data, .data], laidTests := true, laidLooks := .later }
def FnExactSaveRegisterUptoCardSaid : Prop := Claim7.holds Tryd.pinned (.plain (OpenSpec.upto fnExactSaveRegisterSpec)) fnExactSaveRegisterUptoCard
end Rows
end Go.Proofs.YtjkpadfolkniaaaDoor
