/-
  DERIVED. GIVEN WITH THE SEED: THE CARDS: each row of YtfmmnnodihpgmaaDoorRows.lean that lists a variable, with what it lists TIED to the program's text (the seventh form; the later family's looks); each row that meets fmt, with fmt's text TOLD by the authors' own Lean function (tested against real Go, not proved from fmt's source: count such statements apart). THE CARD IS WHAT COUNTS. Prove the row's statement (the work); the ties are given (YtfmmnnodihpgmaaDoorTie.lean); close each card by the builder's one call (the guide's Derived/Test/ToyasCard.lean, 'card_holds'). Laid BY PROGRAM, IN A SANDBOX (cutbox-door.mjs). By AI agents, Wed Nov 11 2026. No macro, syntax, notation, axiom, sorry.
-/
import Derived.Test.YtfmmnnodihpgmaaDoorRows
import GoSem.ClaimSeven
namespace Go.Proofs.YtfmmnnodihpgmaaDoor
namespace Rows

/-- THE TIED CARD OF 'shipyardlaw54.HullChecks'. -/
def hullChecksCard : Claim7 := { stood := { row := hullChecksRow, standIns := [], harness := (true, "48c4dd1d7325528a757950a0c6cbca51cd711f84defa720e0b127fabf1894e75"), looks := false }, kinds := [], alts := [], laidByText := true, laidKinds := [.data], laidTests := true, laidLooks := .later }
def HullChecksCardSaid : Prop := Claim7.holds Tryd.pinned (.plain (OpenSpec.ofChange hullChecksSpec)) hullChecksCard

/-- THE TIED CARD OF 'shipyardlaw54.HullHalves'. -/
def hullHalvesCard : Claim7 := { stood := { row := hullHalvesRow, standIns := [], harness := (true, "48c4dd1d7325528a757950a0c6cbca51cd711f84defa720e0b127fabf1894e75"), looks := false }, kinds := [], alts := [], laidByText := true, laidKinds := [.data], laidTests := true, laidLooks := .later }
def HullHalvesCardSaid : Prop := Claim7.holds Tryd.pinned (.plain (OpenSpec.ofChange hullHalvesSpec)) hullHalvesCard

/-- THE TIED CARD OF 'shipyardlaw54.HullOutlines'. -/
def hullOutlinesCard : Claim7 := { stood := { row := hullOutlinesRow, standIns := [], harness := (true, "48c4dd1d7325528a757950a0c6cbca51cd711f84defa720e0b127fabf1894e75"), looks := false }, kinds := [], alts := [], laidByText := true, laidKinds := [.data], laidTests := true, laidLooks := .later }
def HullOutlinesCardSaid : Prop := Claim7.holds Tryd.pinned (.plain (OpenSpec.ofChange hullOutlinesSpec)) hullOutlinesCard

/-- THE TIED CARD OF 'shipyardlaw54.HullMeshes'. -/
def hullMeshesCard : Claim7 := { stood := { row := hullMeshesRow, standIns := [], harness := (true, "48c4dd1d7325528a757950a0c6cbca51cd711f84defa720e0b127fabf1894e75"), looks := false }, kinds := [], alts := [], laidByText := true, laidKinds := [.data], laidTests := true, laidLooks := .later }
def HullMeshesCardSaid : Prop := Claim7.holds Tryd.pinned (.plain (OpenSpec.ofChange hullMeshesSpec)) hullMeshesCard

/-- THE TIED CARD OF 'shipyardlaw54.HullBoxes'. -/
def hullBoxesCard : Claim7 := { stood := { row := hullBoxesRow, standIns := [], harness := (true, "48c4dd1d7325528a757950a0c6cbca51cd711f84defa720e0b127fabf1894e75"), looks := false }, kinds := [], alts := [], laidByText := true, laidKinds := [.data], laidTests := true, laidLooks := .later }
def HullBoxesCardSaid : Prop := Claim7.holds Tryd.pinned (.plain (OpenSpec.ofChange hullBoxesSpec)) hullBoxesCard

/-- THE TIED CARD OF 'shipyardlaw54.HullClosed'. -/
def hullClosedCard : Claim7 := { stood := { row := hullClosedRow, standIns := [], harness := (true, "48c4dd1d7325528a757950a0c6cbca51cd711f84defa720e0b127fabf1894e75"), looks := false }, kinds := [], alts := [], laidByText := true, laidKinds := [.data], laidTests := true, laidLooks := .later }
def HullClosedCardSaid : Prop := Claim7.holds Tryd.pinned (.plain (OpenSpec.ofChange hullClosedSpec)) hullClosedCard

/-- THE SECOND FORM's CARD OF 'shipyardlaw54.HullChecks'. -/
def hullChecksUptoCard : Claim7 := { stood := { row := hullChecksUptoRow, standIns := [], harness := (true, "48c4dd1d7325528a757950a0c6cbca51cd711f84defa720e0b127fabf1894e75"), looks := false }, kinds := [], alts := [], laidByText := true, laidKinds := [.data], laidTests := true, laidLooks := .later }
def HullChecksUptoCardSaid : Prop := Claim7.holds Tryd.pinned (.plain (OpenSpec.upto hullChecksSpec)) hullChecksUptoCard

/-- THE SECOND FORM's CARD OF 'shipyardlaw54.HullHalves'. -/
def hullHalvesUptoCard : Claim7 := { stood := { row := hullHalvesUptoRow, standIns := [], harness := (true, "48c4dd1d7325528a757950a0c6cbca51cd711f84defa720e0b127fabf1894e75"), looks := false }, kinds := [], alts := [], laidByText := true, laidKinds := [.data], laidTests := true, laidLooks := .later }
def HullHalvesUptoCardSaid : Prop := Claim7.holds Tryd.pinned (.plain (OpenSpec.upto hullHalvesSpec)) hullHalvesUptoCard

/-- THE SECOND FORM's CARD OF 'shipyardlaw54.HullOutlines'. -/
def hullOutlinesUptoCard : Claim7 := { stood := { row := hullOutlinesUptoRow, standIns := [], harness := (true, "48c4dd1d7325528a757950a0c6cbca51cd711f84defa720e0b127fabf1894e75"), looks := false }, kinds := [], alts := [], laidByText := true, laidKinds := [.data], laidTests := true, laidLooks := .later }
def HullOutlinesUptoCardSaid : Prop := Claim7.holds Tryd.pinned (.plain (OpenSpec.upto hullOutlinesSpec)) hullOutlinesUptoCard

/-- THE SECOND FORM's CARD OF 'shipyardlaw54.HullMeshes'. -/
def hullMeshesUptoCard : Claim7 := { stood := { row := hullMeshesUptoRow, standIns := [], harness := (true, "48c4dd1d7325528a757950a0c6cbca51cd711f84defa720e0b127fabf1894e75"), looks := false }, kinds := [], alts := [], laidByText := true, laidKinds := [.data], laidTests := true, laidLooks := .later }
def HullMeshesUptoCardSaid : Prop := Claim7.holds Tryd.pinned (.plain (OpenSpec.upto hullMeshesSpec)) hullMeshesUptoCard

/-- THE SECOND FORM's CARD OF 'shipyardlaw54.HullBoxes'. -/
def hullBoxesUptoCard : Claim7 := { stood := { row := hullBoxesUptoRow, standIns := [], harness := (true, "48c4dd1d7325528a757950a0c6cbca51cd711f84defa720e0b127fabf1894e75"), looks := false }, kinds := [], alts := [], laidByText := true, laidKinds := [.data], laidTests := true, laidLooks := .later }
def HullBoxesUptoCardSaid : Prop := Claim7.holds Tryd.pinned (.plain (OpenSpec.upto hullBoxesSpec)) hullBoxesUptoCard

/-- THE SECOND FORM's CARD OF 'shipyardlaw54.HullClosed'. -/
def hullClosedUptoCard : Claim7 := { stood := { row := hullClosedUptoRow, standIns := [], harness := (true, "48c4dd1d7325528a757950a0c6cbca51cd711f84defa720e0b127fabf1894e75"), looks := false }, kinds := [], alts := [], laidByText := true, laidKinds := [.data], laidTests := true, laidLooks := .later }
def HullClosedUptoCardSaid : Prop := Claim7.holds Tryd.pinned (.plain (OpenSpec.upto hullClosedSpec)) hullClosedUptoCard
end Rows
end Go.Proofs.YtfmmnnodihpgmaaDoor
