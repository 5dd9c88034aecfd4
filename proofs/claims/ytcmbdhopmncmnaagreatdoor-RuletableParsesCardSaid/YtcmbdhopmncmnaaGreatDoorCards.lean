/-
  DERIVED. GIVEN WITH THE SEED: THE CARDS: each row of YtcmbdhopmncmnaaGreatDoorRows.lean that lists a variable, with what it lists TIED to the program's text (the seventh form; the later family's looks); each row that meets fmt, with fmt's text TOLD by the authors' own Lean function (tested against real Go, not proved from fmt's source: count such statements apart). THE CARD IS WHAT COUNTS. Prove the row's statement (the work); the ties are given (YtcmbdhopmncmnaaGreatDoorTie.lean); close each card by the builder's one call (the guide's Derived/Test/ToyasCard.lean, 'card_holds'). Laid BY PROGRAM, IN A SANDBOX (cutbox-door.mjs). By AI agents, Wed Nov 11 2026. No macro, syntax, notation, axiom, sorry.
-/
import Derived.Test.YtcmbdhopmncmnaaGreatDoorRows
import GoSem.ClaimSeven
namespace Go.Proofs.YtcmbdhopmncmnaaGreatDoor
namespace Rows

/-- THE TIED CARD OF 'cellularlaw11.RuletableRight'. -/
def ruletableRightCard : Claim7 := { stood := { row := ruletableRightRow, standIns := [], harness := (true, "188ebe7778c60a831f015522037bb2b719c9903277c4d5664d3cbb76c904c602"), looks := false }, kinds := [], alts := [], laidByText := true, laidKinds := [.data, .data, .data, .data, .widerDeep, .widerDeep, .pinned], laidTests := true, laidLooks := .later }
def RuletableRightCardSaid : Prop := Claim7.holds Tryz.pinned (.plain (OpenSpec.ofChange ruletableRightSpec)) ruletableRightCard

/-- THE TIED CARD OF 'cellularlaw11.RuletableNext'. -/
def ruletableNextCard : Claim7 := { stood := { row := ruletableNextRow, standIns := [], harness := (true, "188ebe7778c60a831f015522037bb2b719c9903277c4d5664d3cbb76c904c602"), looks := false }, kinds := [], alts := [], laidByText := true, laidKinds := [.data, .data, .data, .data, .widerDeep, .widerDeep, .pinned], laidTests := true, laidLooks := .later }
def RuletableNextCardSaid : Prop := Claim7.holds Tryz.pinned (.plain (OpenSpec.ofChange ruletableNextSpec)) ruletableNextCard

/-- THE TIED CARD OF 'cellularlaw11.RuletableParses'. -/
def ruletableParsesCard : Claim7 := { stood := { row := ruletableParsesRow, standIns := [], harness := (true, "188ebe7778c60a831f015522037bb2b719c9903277c4d5664d3cbb76c904c602"), looks := false }, kinds := [], alts := [], laidByText := true, laidKinds := [.data, .data, .data, .data, .widerDeep, .widerDeep, .pinned], laidTests := true, laidLooks := .later }
def RuletableParsesCardSaid : Prop := Claim7.holds Tryz.pinned (.plain (OpenSpec.ofChange ruletableParsesSpec)) ruletableParsesCard

/-- THE TIED CARD OF 'cellularlaw11.RuletableRoundTrip'. -/
def ruletableRoundTripCard : Claim7 := { stood := { row := ruletableRoundTripRow, standIns := [], harness := (true, "188ebe7778c60a831f015522037bb2b719c9903277c4d5664d3cbb76c904c602"), looks := false }, kinds := [], alts := [], laidByText := true, laidKinds := [.data, .data, .data, .data, .widerDeep, .widerDeep, .pinned], laidTests := true, laidLooks := .later }
def RuletableRoundTripCardSaid : Prop := Claim7.holds Tryz.pinned (.plain (OpenSpec.ofChange ruletableRoundTripSpec)) ruletableRoundTripCard

/-- THE TIED CARD OF 'cellularlaw11.RuletableSymmetric'. -/
def ruletableSymmetricCard : Claim7 := { stood := { row := ruletableSymmetricRow, standIns := [], harness := (true, "188ebe7778c60a831f015522037bb2b719c9903277c4d5664d3cbb76c904c602"), looks := false }, kinds := [], alts := [], laidByText := true, laidKinds := [.data, .data, .data, .data, .widerDeep, .widerDeep, .pinned], laidTests := true, laidLooks := .later }
def RuletableSymmetricCardSaid : Prop := Claim7.holds Tryz.pinned (.plain (OpenSpec.ofChange ruletableSymmetricSpec)) ruletableSymmetricCard

/-- THE SECOND FORM's CARD OF 'cellularlaw11.RuletableRight'. -/
def ruletableRightUptoCard : Claim7 := { stood := { row := ruletableRightUptoRow, standIns := [], harness := (true, "188ebe7778c60a831f015522037bb2b719c9903277c4d5664d3cbb76c904c602"), looks := false }, kinds := [], alts := [], laidByText := true, laidKinds := [.data, .data, .data, .data, .widerDeep, .widerDeep, .pinned], laidTests := true, laidLooks := .later }
def RuletableRightUptoCardSaid : Prop := Claim7.holds Tryz.pinned (.plain (OpenSpec.upto ruletableRightSpec)) ruletableRightUptoCard

/-- THE SECOND FORM's CARD OF 'cellularlaw11.RuletableNext'. -/
def ruletableNextUptoCard : Claim7 := { stood := { row := ruletableNextUptoRow, standIns := [], harness := (true, "188ebe7778c60a831f015522037bb2b719c9903277c4d5664d3cbb76c904c602"), looks := false }, kinds := [], alts := [], laidByText := true, laidKinds := [.data, .data, .data, .data, .widerDeep, .widerDeep, .pinned], laidTests := true, laidLooks := .later }
def RuletableNextUptoCardSaid : Prop := Claim7.holds Tryz.pinned (.plain (OpenSpec.upto ruletableNextSpec)) ruletableNextUptoCard

/-- THE SECOND FORM's CARD OF 'cellularlaw11.RuletableParses'. -/
def ruletableParsesUptoCard : Claim7 := { stood := { row := ruletableParsesUptoRow, standIns := [], harness := (true, "188ebe7778c60a831f015522037bb2b719c9903277c4d5664d3cbb76c904c602"), looks := false }, kinds := [], alts := [], laidByText := true, laidKinds := [.data, .data, .data, .data, .widerDeep, .widerDeep, .pinned], laidTests := true, laidLooks := .later }
def RuletableParsesUptoCardSaid : Prop := Claim7.holds Tryz.pinned (.plain (OpenSpec.upto ruletableParsesSpec)) ruletableParsesUptoCard

/-- THE SECOND FORM's CARD OF 'cellularlaw11.RuletableRoundTrip'. -/
def ruletableRoundTripUptoCard : Claim7 := { stood := { row := ruletableRoundTripUptoRow, standIns := [], harness := (true, "188ebe7778c60a831f015522037bb2b719c9903277c4d5664d3cbb76c904c602"), looks := false }, kinds := [], alts := [], laidByText := true, laidKinds := [.data, .data, .data, .data, .widerDeep, .widerDeep, .pinned], laidTests := true, laidLooks := .later }
def RuletableRoundTripUptoCardSaid : Prop := Claim7.holds Tryz.pinned (.plain (OpenSpec.upto ruletableRoundTripSpec)) ruletableRoundTripUptoCard

/-- THE SECOND FORM's CARD OF 'cellularlaw11.RuletableSymmetric'. -/
def ruletableSymmetricUptoCard : Claim7 := { stood := { row := ruletableSymmetricUptoRow, standIns := [], harness := (true, "188ebe7778c60a831f015522037bb2b719c9903277c4d5664d3cbb76c904c602"), looks := false }, kinds := [], alts := [], laidByText := true, laidKinds := [.data, .data, .data, .data, .widerDeep, .widerDeep, .pinned], laidTests := true, laidLooks := .later }
def RuletableSymmetricUptoCardSaid : Prop := Claim7.holds Tryz.pinned (.plain (OpenSpec.upto ruletableSymmetricSpec)) ruletableSymmetricUptoCard
end Rows
end Go.Proofs.YtcmbdhopmncmnaaGreatDoor
