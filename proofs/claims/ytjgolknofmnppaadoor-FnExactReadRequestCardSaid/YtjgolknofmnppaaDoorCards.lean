/-
  DERIVED. GIVEN WITH THE SEED: THE CARDS: each row of YtjgolknofmnppaaDoorRows.lean that lists a variable, with what it lists TIED to the program's text (the seventh form; the later family's looks); each row that meets fmt, with fmt's text TOLD by the authors' own Lean function (tested against real Go, not proved from fmt's source: count such statements apart). THE CARD IS WHAT COUNTS. Prove the row's statement (the work); the ties are given (YtjgolknofmnppaaDoorTie.lean); close each card by the builder's one call (the guide's Derived/Test/ToyasCard.lean, 'card_holds'). Laid BY PROGRAM, IN A SANDBOX (cutbox-door.mjs). By AI agents, Wed Nov 11 2026. No macro, syntax, notation, axiom, sorry.
-/
import Derived.Test.YtjgolknofmnppaaDoorRows
import GoSem.ClaimSeven
namespace Go.Proofs.YtjgolknofmnppaaDoor
namespace Rows

/-- THE TIED CARD OF 'laws.FnExactReadSamples'. -/
def fnExactReadSamplesCard : Claim7 := { stood := { row := fnExactReadSamplesRow, standIns := [], harness := (true, "e9bf334993901c1d51614e0960009b9ee8441ea1db5bd8353313d9be2f3f11a9"), looks := true }, kinds := [], alts := [], laidByText := true, laidKinds := [.data, .data, .data, .data, .sentinel, .sentinel, .pinned], laidTests := true, laidLooks := .later }
def FnExactReadSamplesCardSaid : Prop := Claim7.holds Tryd.pinned (.plain (OpenSpec.ofChange fnExactReadSamplesSpec)) fnExactReadSamplesCard

/-- THE TIED CARD OF 'laws.FnExactReadSector'. -/
def fnExactReadSectorCard : Claim7 := { stood := { row := fnExactReadSectorRow, standIns := [], harness := (true, "e9bf334993901c1d51614e0960009b9ee8441ea1db5bd8353313d9be2f3f11a9"), looks := true }, kinds := [], alts := [], laidByText := true, laidKinds := [.data, .data, .data, .data, .sentinel, .sentinel, .pinned], laidTests := true, laidLooks := .later }
def FnExactReadSectorCardSaid : Prop := Claim7.holds Tryd.pinned (.plain (OpenSpec.ofChange fnExactReadSectorSpec)) fnExactReadSectorCard

/-- THE TIED CARD OF 'laws.FnExactReadSite'. -/
def fnExactReadSiteCard : Claim7 := { stood := { row := fnExactReadSiteRow, standIns := [], harness := (true, "e9bf334993901c1d51614e0960009b9ee8441ea1db5bd8353313d9be2f3f11a9"), looks := true }, kinds := [], alts := [], laidByText := true, laidKinds := [.data, .data, .data, .data, .sentinel, .sentinel, .pinned], laidTests := true, laidLooks := .later }
def FnExactReadSiteCardSaid : Prop := Claim7.holds Tryd.pinned (.plain (OpenSpec.ofChange fnExactReadSiteSpec)) fnExactReadSiteCard

/-- THE TIED CARD OF 'laws.FnExactReadRequest'. -/
def fnExactReadRequestCard : Claim7 := { stood := { row := fnExactReadRequestRow, standIns := [], harness := (true, "e9bf334993901c1d51614e0960009b9ee8441ea1db5bd8353313d9be2f3f11a9"), looks := true }, kinds := [], alts := [], laidByText := true, laidKinds := [.data, .data, .data, .data, .sentinel, .sentinel, .pinned], laidTests := true, laidLooks := .later }
def FnExactReadRequestCardSaid : Prop := Claim7.holds Tryd.pinned (.plain (OpenSpec.ofChange fnExactReadRequestSpec)) fnExactReadRequestCard

/-- THE SECOND FORM's CARD OF 'laws.FnExactReadSamples'. -/
def fnExactReadSamplesUptoCard : Claim7 := { stood := { row := fnExactReadSamplesUptoRow, standIns := [], harness := (true, "e9bf334993901c1d51614e0960009b9ee8441ea1db5bd8353313d9be2f3f11a9"), looks := true }, kinds := [], alts := [], laidByText := true, laidKinds := [.data, .data, .data, .data, .sentinel, .sentinel, .pinned], laidTests := true, laidLooks := .later }
def FnExactReadSamplesUptoCardSaid : Prop := Claim7.holds Tryd.pinned (.plain (OpenSpec.upto fnExactReadSamplesSpec)) fnExactReadSamplesUptoCard

/-- THE SECOND FORM's CARD OF 'laws.FnExactReadSector'. -/
def fnExactReadSectorUptoCard : Claim7 := { stood := { row := fnExactReadSectorUptoRow, standIns := [], harness := (true, "e9bf334993901c1d51614e0960009b9ee8441ea1db5bd8353313d9be2f3f11a9"), looks := true }, kinds := [], alts := [], laidByText := true, laidKinds := [.data, .data, .data, .data, .sentinel, .sentinel, .pinned], laidTests := true, laidLooks := .later }
def FnExactReadSectorUptoCardSaid : Prop := Claim7.holds Tryd.pinned (.plain (OpenSpec.upto fnExactReadSectorSpec)) fnExactReadSectorUptoCard

/-- THE SECOND FORM's CARD OF 'laws.FnExactReadSite'. -/
def fnExactReadSiteUptoCard : Claim7 := { stood := { row := fnExactReadSiteUptoRow, standIns := [], harness := (true, "e9bf334993901c1d51614e0960009b9ee8441ea1db5bd8353313d9be2f3f11a9"), looks := true }, kinds := [], alts := [], laidByText := true, laidKinds := [.data, .data, .data, .data, .sentinel, .sentinel, .pinned], laidTests := true, laidLooks := .later }
def FnExactReadSiteUptoCardSaid : Prop := Claim7.holds Tryd.pinned (.plain (OpenSpec.upto fnExactReadSiteSpec)) fnExactReadSiteUptoCard

/-- THE SECOND FORM's CARD OF 'laws.FnExactReadRequest'. -/
def fnExactReadRequestUptoCard : Claim7 := { stood := { row := fnExactReadRequestUptoRow, standIns := [], harness := (true, "e9bf334993901c1d51614e0960009b9ee8441ea1db5bd8353313d9be2f3f11a9"), looks := true }, kinds := [], alts := [], laidByText := true, laidKinds := [.data, .data, .data, .data, .sentinel, .sentinel, .pinned], laidTests := true, laidLooks := .later }
def FnExactReadRequestUptoCardSaid : Prop := Claim7.holds Tryd.pinned (.plain (OpenSpec.upto fnExactReadRequestSpec)) fnExactReadRequestUptoCard
end Rows
end Go.Proofs.YtjgolknofmnppaaDoor
