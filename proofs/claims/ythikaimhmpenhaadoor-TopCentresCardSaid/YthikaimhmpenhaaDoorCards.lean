/-
  DERIVED. GIVEN WITH THE SEED: THE CARDS: each row of YthikaimhmpenhaaDoorRows.lean that lists a variable, with what it lists TIED to the program's text (the seventh form; the later family's looks); each row that meets fmt, with fmt's text TOLD by the authors' own Lean function (tested against real Go, not proved from fmt's source: count such statements apart). THE CARD IS WHAT COUNTS. Prove the row's statement (the work); the ties are given (YthikaimhmpenhaaDoorTie.lean); close each card by the builder's one call (the guide's Derived/Test/ToyasCard.lean, 'card_holds'). Laid BY PROGRAM, IN A SANDBOX (cutbox-door.mjs). By AI agents, Wed Nov 11 2026. No macro, syntax, notation, axiom, sorry.
-/
import Derived.Test.YthikaimhmpenhaaDoorRows
import GoSem.ClaimSeven
namespace Go.Proofs.YthikaimhmpenhaaDoor
namespace Rows

/-- THE TIED CARD OF 'shipyardtop.TopFacets'. -/
def topFacetsCard : Claim7 := { stood := { row := topFacetsRow, standIns := [], harness := (true, "6d715b4b1f528c600b4f495126a24c2180fc83b97fee39a88ef80db5d8a4810e"), looks := false }, kinds := [], alts := [], laidByText := true, laidKinds := [.data], laidTests := true, laidLooks := .later }
def TopFacetsCardSaid : Prop := Claim7.holds Tryd.pinned (.plain (OpenSpec.ofChange topFacetsSpec)) topFacetsCard

/-- THE TIED CARD OF 'shipyardtop.TopCentres'. -/
def topCentresCard : Claim7 := { stood := { row := topCentresRow, standIns := [], harness := (true, "6d715b4b1f528c600b4f495126a24c2180fc83b97fee39a88ef80db5d8a4810e"), looks := false }, kinds := [], alts := [], laidByText := true, laidKinds := [.data], laidTests := true, laidLooks := .later }
def TopCentresCardSaid : Prop := Claim7.holds Tryd.pinned (.plain (OpenSpec.ofChange topCentresSpec)) topCentresCard

/-- THE SECOND FORM's CARD OF 'shipyardtop.TopFacets'. -/
def topFacetsUptoCard : Claim7 := { stood := { row := topFacetsUptoRow, standIns := [], harness := (true, "6d715b4b1f528c600b4f495126a24c2180fc83b97fee39a88ef80db5d8a4810e"), looks := false }, kinds := [], alts := [], laidByText := true, laidKinds := [.data], laidTests := true, laidLooks := .later }
def TopFacetsUptoCardSaid : Prop := Claim7.holds Tryd.pinned (.plain (OpenSpec.upto topFacetsSpec)) topFacetsUptoCard

/-- THE SECOND FORM's CARD OF 'shipyardtop.TopCentres'. -/
def topCentresUptoCard : Claim7 := { stood := { row := topCentresUptoRow, standIns := [], harness := (true, "6d715b4b1f528c600b4f495126a24c2180fc83b97fee39a88ef80db5d8a4810e"), looks := false }, kinds := [], alts := [], laidByText := true, laidKinds := [.data], laidTests := true, laidLooks := .later }
def TopCentresUptoCardSaid : Prop := Claim7.holds Tryd.pinned (.plain (OpenSpec.upto topCentresSpec)) topCentresUptoCard
end Rows
end Go.Proofs.YthikaimhmpenhaaDoor
