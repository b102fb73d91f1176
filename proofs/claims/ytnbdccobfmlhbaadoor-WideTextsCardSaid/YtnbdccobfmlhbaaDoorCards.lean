/-
  DERIVED. GIVEN WITH THE SEED: THE CARDS: each row of YtnbdccobfmlhbaaDoorRows.lean that lists a variable, with what it lists TIED to the program's text (the seventh form; the later family's looks); each row that meets fmt, with fmt's text TOLD by the authors' own Lean function (tested against real Go, not proved from fmt's source: count such statements apart). THE CARD IS WHAT COUNTS. Prove the row's statement (the work); the ties are given (YtnbdccobfmlhbaaDoorTie.lean); close each card by the builder's one call (the guide's Derived/Test/ToyasCard.lean, 'card_holds'). Laid BY PROGRAM, IN A SANDBOX (cutbox-door.mjs). By AI agents, Wed Nov 11 2026. No macro, syntax, notation, axiom, sorry.
-/
import Derived.Test.YtnbdccobfmlhbaaDoorRows
import GoSem.ClaimSeven
namespace Go.Proofs.YtnbdccobfmlhbaaDoor
namespace Rows

/-- THE TIED CARD OF 'shipyardlaw02.WideProducts'. -/
def wideProductsCard : Claim7 := { stood := { row := wideProductsRow, standIns := [], harness := (true, "7dabbf8309af715a8801e4b63e4637706b2515e72e0fdc73f0b3e4e23e494a33"), looks := false }, kinds := [], alts := [], laidByText := true, laidKinds := [.data, .data, .data, .data, .pinned], laidTests := true, laidLooks := .later }
def WideProductsCardSaid : Prop := Claim7.holds Tryd.pinned (.plain (OpenSpec.ofChange wideProductsSpec)) wideProductsCard

/-- THE TIED CARD OF 'shipyardlaw02.WideQuotients'. -/
def wideQuotientsCard : Claim7 := { stood := { row := wideQuotientsRow, standIns := [], harness := (true, "7dabbf8309af715a8801e4b63e4637706b2515e72e0fdc73f0b3e4e23e494a33"), looks := false }, kinds := [], alts := [], laidByText := true, laidKinds := [.data, .data, .data, .data, .pinned], laidTests := true, laidLooks := .later }
def WideQuotientsCardSaid : Prop := Claim7.holds Tryd.pinned (.plain (OpenSpec.ofChange wideQuotientsSpec)) wideQuotientsCard

/-- THE TIED CARD OF 'shipyardlaw02.WideTexts'. -/
def wideTextsCard : Claim7 := { stood := { row := wideTextsRow, standIns := [], harness := (true, "7dabbf8309af715a8801e4b63e4637706b2515e72e0fdc73f0b3e4e23e494a33"), looks := false }, kinds := [], alts := [], laidByText := true, laidKinds := [.data, .data, .data, .data, .pinned], laidTests := true, laidLooks := .later }
def WideTextsCardSaid : Prop := Claim7.holds Tryd.pinned (.plain (OpenSpec.ofChange wideTextsSpec)) wideTextsCard

/-- THE TIED CARD OF 'shipyardlaw02.WideDivisors'. -/
def wideDivisorsCard : Claim7 := { stood := { row := wideDivisorsRow, standIns := [], harness := (true, "7dabbf8309af715a8801e4b63e4637706b2515e72e0fdc73f0b3e4e23e494a33"), looks := false }, kinds := [], alts := [], laidByText := true, laidKinds := [.data, .data, .data, .data, .pinned], laidTests := true, laidLooks := .later }
def WideDivisorsCardSaid : Prop := Claim7.holds Tryd.pinned (.plain (OpenSpec.ofChange wideDivisorsSpec)) wideDivisorsCard

/-- THE TIED CARD OF 'shipyardlaw02.WideRoundTrip'. -/
def wideRoundTripCard : Claim7 := { stood := { row := wideRoundTripRow, standIns := [], harness := (true, "7dabbf8309af715a8801e4b63e4637706b2515e72e0fdc73f0b3e4e23e494a33"), looks := false }, kinds := [], alts := [], laidByText := true, laidKinds := [.data, .data, .data, .data, .pinned], laidTests := true, laidLooks := .later }
def WideRoundTripCardSaid : Prop := Claim7.holds Tryd.pinned (.plain (OpenSpec.ofChange wideRoundTripSpec)) wideRoundTripCard

/-- THE TIED CARD OF 'shipyardlaw02.WideInts'. -/
def wideIntsCard : Claim7 := { stood := { row := wideIntsRow, standIns := [], harness := (true, "7dabbf8309af715a8801e4b63e4637706b2515e72e0fdc73f0b3e4e23e494a33"), looks := false }, kinds := [], alts := [], laidByText := true, laidKinds := [.data, .data, .data, .data, .pinned], laidTests := true, laidLooks := .later }
def WideIntsCardSaid : Prop := Claim7.holds Tryd.pinned (.plain (OpenSpec.ofChange wideIntsSpec)) wideIntsCard

/-- THE TIED CARD OF 'shipyardlaw02.WideSums'. -/
def wideSumsCard : Claim7 := { stood := { row := wideSumsRow, standIns := [], harness := (true, "7dabbf8309af715a8801e4b63e4637706b2515e72e0fdc73f0b3e4e23e494a33"), looks := false }, kinds := [], alts := [], laidByText := true, laidKinds := [.data, .data, .data, .data, .pinned], laidTests := true, laidLooks := .later }
def WideSumsCardSaid : Prop := Claim7.holds Tryd.pinned (.plain (OpenSpec.ofChange wideSumsSpec)) wideSumsCard

/-- THE TIED CARD OF 'shipyardlaw02.WideRing'. -/
def wideRingCard : Claim7 := { stood := { row := wideRingRow, standIns := [], harness := (true, "7dabbf8309af715a8801e4b63e4637706b2515e72e0fdc73f0b3e4e23e494a33"), looks := false }, kinds := [], alts := [], laidByText := true, laidKinds := [.data, .data, .data, .data, .pinned], laidTests := true, laidLooks := .later }
def WideRingCardSaid : Prop := Claim7.holds Tryd.pinned (.plain (OpenSpec.ofChange wideRingSpec)) wideRingCard

/-- THE TIED CARD OF 'shipyardlaw02.WideCompares'. -/
def wideComparesCard : Claim7 := { stood := { row := wideComparesRow, standIns := [], harness := (true, "7dabbf8309af715a8801e4b63e4637706b2515e72e0fdc73f0b3e4e23e494a33"), looks := false }, kinds := [], alts := [], laidByText := true, laidKinds := [.data, .data, .data, .data, .pinned], laidTests := true, laidLooks := .later }
def WideComparesCardSaid : Prop := Claim7.holds Tryd.pinned (.plain (OpenSpec.ofChange wideComparesSpec)) wideComparesCard

/-- THE TIED CARD OF 'shipyardlaw02.WideDivision'. -/
def wideDivisionCard : Claim7 := { stood := { row := wideDivisionRow, standIns := [], harness := (true, "7dabbf8309af715a8801e4b63e4637706b2515e72e0fdc73f0b3e4e23e494a33"), looks := false }, kinds := [], alts := [], laidByText := true, laidKinds := [.data, .data, .data, .data, .pinned], laidTests := true, laidLooks := .later }
def WideDivisionCardSaid : Prop := Claim7.holds Tryd.pinned (.plain (OpenSpec.ofChange wideDivisionSpec)) wideDivisionCard

/-- THE SECOND FORM's CARD OF 'shipyardlaw02.WideProducts'. -/
def wideProductsUptoCard : Claim7 := { stood := { row := wideProductsUptoRow, standIns := [], harness := (true, "7dabbf8309af715a8801e4b63e4637706b2515e72e0fdc73f0b3e4e23e494a33"), looks := false }, kinds := [], alts := [], laidByText := true, laidKinds := [.data, .data, .data, .data, .pinned], laidTests := true, laidLooks := .later }
def WideProductsUptoCardSaid : Prop := Claim7.holds Tryd.pinned (.plain (OpenSpec.upto wideProductsSpec)) wideProductsUptoCard

/-- THE SECOND FORM's CARD OF 'shipyardlaw02.WideQuotients'. -/
def wideQuotientsUptoCard : Claim7 := { stood := { row := wideQuotientsUptoRow, standIns := [], harness := (true, "7dabbf8309af715a8801e4b63e4637706b2515e72e0fdc73f0b3e4e23e494a33"), looks := false }, kinds := [], alts := [], laidByText := true, laidKinds := [.data, .data, .data, .data, .pinned], laidTests := true, laidLooks := .later }
def WideQuotientsUptoCardSaid : Prop := Claim7.holds Tryd.pinned (.plain (OpenSpec.upto wideQuotientsSpec)) wideQuotientsUptoCard

/-- THE SECOND FORM's CARD OF 'shipyardlaw02.WideTexts'. -/
def wideTextsUptoCard : Claim7 := { stood := { row := wideTextsUptoRow, standIns := [], harness := (true, "7dabbf8309af715a8801e4b63e4637706b2515e72e0fdc73f0b3e4e23e494a33"), looks := false }, kinds := [], alts := [], laidByText := true, laidKinds := [.data, .data, .data, .data, .pinned], laidTests := true, laidLooks := .later }
def WideTextsUptoCardSaid : Prop := Claim7.holds Tryd.pinned (.plain (OpenSpec.upto wideTextsSpec)) wideTextsUptoCard

/-- THE SECOND FORM's CARD OF 'shipyardlaw02.WideDivisors'. -/
def wideDivisorsUptoCard : Claim7 := { stood := { row := wideDivisorsUptoRow, standIns := [], harness := (true, "7dabbf8309af715a8801e4b63e4637706b2515e72e0fdc73f0b3e4e23e494a33"), looks := false }, kinds := [], alts := [], laidByText := true, laidKinds := [.data, .data, .data, .data, .pinned], laidTests := true, laidLooks := .later }
def WideDivisorsUptoCardSaid : Prop := Claim7.holds Tryd.pinned (.plain (OpenSpec.upto wideDivisorsSpec)) wideDivisorsUptoCard

/-- THE SECOND FORM's CARD OF 'shipyardlaw02.WideRoundTrip'. -/
def wideRoundTripUptoCard : Claim7 := { stood := { row := wideRoundTripUptoRow, standIns := [], harness := (true, "7dabbf8309af715a8801e4b63e4637706b2515e72e0fdc73f0b3e4e23e494a33"), looks := false }, kinds := [], alts := [], laidByText := true, laidKinds := [.data, .data, .data, .data, .pinned], laidTests := true, laidLooks := .later }
def WideRoundTripUptoCardSaid : Prop := Claim7.holds Tryd.pinned (.plain (OpenSpec.upto wideRoundTripSpec)) wideRoundTripUptoCard

/-- THE SECOND FORM's CARD OF 'shipyardlaw02.WideInts'. -/
def wideIntsUptoCard : Claim7 := { stood := { row := wideIntsUptoRow, standIns := [], harness := (true, "7dabbf8309af715a8801e4b63e4637706b2515e72e0fdc73f0b3e4e23e494a33"), looks := false }, kinds := [], alts := [], laidByText := true, laidKinds := [.data, .data, .data, .data, .pinned], laidTests := true, laidLooks := .later }
def WideIntsUptoCardSaid : Prop := Claim7.holds Tryd.pinned (.plain (OpenSpec.upto wideIntsSpec)) wideIntsUptoCard

/-- THE SECOND FORM's CARD OF 'shipyardlaw02.WideSums'. -/
def wideSumsUptoCard : Claim7 := { stood := { row := wideSumsUptoRow, standIns := [], harness := (true, "7dabbf8309af715a8801e4b63e4637706b2515e72e0fdc73f0b3e4e23e494a33"), looks := false }, kinds := [], alts := [], laidByText := true, laidKinds := [.data, .data, .data, .data, .pinned], laidTests := true, laidLooks := .later }
def WideSumsUptoCardSaid : Prop := Claim7.holds Tryd.pinned (.plain (OpenSpec.upto wideSumsSpec)) wideSumsUptoCard

/-- THE SECOND FORM's CARD OF 'shipyardlaw02.WideRing'. -/
def wideRingUptoCard : Claim7 := { stood := { row := wideRingUptoRow, standIns := [], harness := (true, "7dabbf8309af715a8801e4b63e4637706b2515e72e0fdc73f0b3e4e23e494a33"), looks := false }, kinds := [], alts := [], laidByText := true, laidKinds := [.data, .data, .data, .data, .pinned], laidTests := true, laidLooks := .later }
def WideRingUptoCardSaid : Prop := Claim7.holds Tryd.pinned (.plain (OpenSpec.upto wideRingSpec)) wideRingUptoCard

/-- THE SECOND FORM's CARD OF 'shipyardlaw02.WideCompares'. -/
def wideComparesUptoCard : Claim7 := { stood := { row := wideComparesUptoRow, standIns := [], harness := (true, "7dabbf8309af715a8801e4b63e4637706b2515e72e0fdc73f0b3e4e23e494a33"), looks := false }, kinds := [], alts := [], laidByText := true, laidKinds := [.data, .data, .data, .data, .pinned], laidTests := true, laidLooks := .later }
def WideComparesUptoCardSaid : Prop := Claim7.holds Tryd.pinned (.plain (OpenSpec.upto wideComparesSpec)) wideComparesUptoCard

/-- THE SECOND FORM's CARD OF 'shipyardlaw02.WideDivision'. -/
def wideDivisionUptoCard : Claim7 := { stood := { row := wideDivisionUptoRow, standIns := [], harness := (true, "7dabbf8309af715a8801e4b63e4637706b2515e72e0fdc73f0b3e4e23e494a33"), looks := false }, kinds := [], alts := [], laidByText := true, laidKinds := [.data, .data, .data, .data, .pinned], laidTests := true, laidLooks := .later }
def WideDivisionUptoCardSaid : Prop := Claim7.holds Tryd.pinned (.plain (OpenSpec.upto wideDivisionSpec)) wideDivisionUptoCard
end Rows
end Go.Proofs.YtnbdccobfmlhbaaDoor
