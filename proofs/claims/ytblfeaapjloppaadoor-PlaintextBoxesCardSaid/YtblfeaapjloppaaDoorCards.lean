/-
  DERIVED. GIVEN WITH THE SEED: THE CARDS: each row of YtblfeaapjloppaaDoorRows.lean that lists a variable, with what it lists TIED to the program's text (the seventh form; the later family's looks); each row that meets fmt, with fmt's text TOLD by the authors' own Lean function (tested against real Go, not proved from fmt's source: count such statements apart). THE CARD IS WHAT COUNTS. Prove the row's statement (the work); the ties are given (YtblfeaapjloppaaDoorTie.lean); close each card by the builder's one call (the guide's Derived/Test/ToyasCard.lean, 'card_holds'). Laid BY PROGRAM, IN A SANDBOX (cutbox-door.mjs). By AI agents, Wed Nov 11 2026. No macro, syntax, notation, axiom, sorry.
-/
import Derived.Test.YtblfeaapjloppaaDoorRows
import GoSem.ClaimSeven
namespace Go.Proofs.YtblfeaapjloppaaDoor
namespace Rows

/-- THE TIED CARD OF 'cellularlaw31.PlaintextParses'. -/
def plaintextParsesCard : Claim7 := { stood := { row := plaintextParsesRow, standIns := [], harness := (true, "ff20e10413ca25270eed2f83c8174cd8682fdb8d8736654ca4f167736ec34f97"), looks := false }, kinds := [], alts := [], laidByText := true, laidKinds := [.data, .pinned], laidTests := true, laidLooks := .later }
def PlaintextParsesCardSaid : Prop := Claim7.holds Tryd.pinned (.plain (OpenSpec.ofChange plaintextParsesSpec)) plaintextParsesCard

/-- THE TIED CARD OF 'cellularlaw31.PlaintextTexts'. -/
def plaintextTextsCard : Claim7 := { stood := { row := plaintextTextsRow, standIns := [], harness := (true, "ff20e10413ca25270eed2f83c8174cd8682fdb8d8736654ca4f167736ec34f97"), looks := false }, kinds := [], alts := [], laidByText := true, laidKinds := [.data, .pinned], laidTests := true, laidLooks := .later }
def PlaintextTextsCardSaid : Prop := Claim7.holds Tryd.pinned (.plain (OpenSpec.ofChange plaintextTextsSpec)) plaintextTextsCard

/-- THE TIED CARD OF 'cellularlaw31.PlaintextLimits'. -/
def plaintextLimitsCard : Claim7 := { stood := { row := plaintextLimitsRow, standIns := [], harness := (true, "ff20e10413ca25270eed2f83c8174cd8682fdb8d8736654ca4f167736ec34f97"), looks := false }, kinds := [], alts := [], laidByText := true, laidKinds := [.data, .pinned], laidTests := true, laidLooks := .later }
def PlaintextLimitsCardSaid : Prop := Claim7.holds Tryd.pinned (.plain (OpenSpec.ofChange plaintextLimitsSpec)) plaintextLimitsCard

/-- THE TIED CARD OF 'cellularlaw31.PlaintextReturns'. -/
def plaintextReturnsCard : Claim7 := { stood := { row := plaintextReturnsRow, standIns := [], harness := (true, "ff20e10413ca25270eed2f83c8174cd8682fdb8d8736654ca4f167736ec34f97"), looks := false }, kinds := [], alts := [], laidByText := true, laidKinds := [.data, .pinned], laidTests := true, laidLooks := .later }
def PlaintextReturnsCardSaid : Prop := Claim7.holds Tryd.pinned (.plain (OpenSpec.ofChange plaintextReturnsSpec)) plaintextReturnsCard

/-- THE TIED CARD OF 'cellularlaw31.PlaintextBoxes'. -/
def plaintextBoxesCard : Claim7 := { stood := { row := plaintextBoxesRow, standIns := [], harness := (true, "ff20e10413ca25270eed2f83c8174cd8682fdb8d8736654ca4f167736ec34f97"), looks := false }, kinds := [], alts := [], laidByText := true, laidKinds := [.data, .pinned], laidTests := true, laidLooks := .later }
def PlaintextBoxesCardSaid : Prop := Claim7.holds Tryd.pinned (.plain (OpenSpec.ofChange plaintextBoxesSpec)) plaintextBoxesCard

/-- THE SECOND FORM's CARD OF 'cellularlaw31.PlaintextParses'. -/
def plaintextParsesUptoCard : Claim7 := { stood := { row := plaintextParsesUptoRow, standIns := [], harness := (true, "ff20e10413ca25270eed2f83c8174cd8682fdb8d8736654ca4f167736ec34f97"), looks := false }, kinds := [], alts := [], laidByText := true, laidKinds := [.data, .pinned], laidTests := true, laidLooks := .later }
def PlaintextParsesUptoCardSaid : Prop := Claim7.holds Tryd.pinned (.plain (OpenSpec.upto plaintextParsesSpec)) plaintextParsesUptoCard

/-- THE SECOND FORM's CARD OF 'cellularlaw31.PlaintextTexts'. -/
def plaintextTextsUptoCard : Claim7 := { stood := { row := plaintextTextsUptoRow, standIns := [], harness := (true, "ff20e10413ca25270eed2f83c8174cd8682fdb8d8736654ca4f167736ec34f97"), looks := false }, kinds := [], alts := [], laidByText := true, laidKinds := [.data, .pinned], laidTests := true, laidLooks := .later }
def PlaintextTextsUptoCardSaid : Prop := Claim7.holds Tryd.pinned (.plain (OpenSpec.upto plaintextTextsSpec)) plaintextTextsUptoCard

/-- THE SECOND FORM's CARD OF 'cellularlaw31.PlaintextLimits'. -/
def plaintextLimitsUptoCard : Claim7 := { stood := { row := plaintextLimitsUptoRow, standIns := [], harness := (true, "ff20e10413ca25270eed2f83c8174cd8682fdb8d8736654ca4f167736ec34f97"), looks := false }, kinds := [], alts := [], laidByText := true, laidKinds := [.data, .pinned], laidTests := true, laidLooks := .later }
def PlaintextLimitsUptoCardSaid : Prop := Claim7.holds Tryd.pinned (.plain (OpenSpec.upto plaintextLimitsSpec)) plaintextLimitsUptoCard

/-- THE SECOND FORM's CARD OF 'cellularlaw31.PlaintextReturns'. -/
def plaintextReturnsUptoCard : Claim7 := { stood := { row := plaintextReturnsUptoRow, standIns := [], harness := (true, "ff20e10413ca25270eed2f83c8174cd8682fdb8d8736654ca4f167736ec34f97"), looks := false }, kinds := [], alts := [], laidByText := true, laidKinds := [.data, .pinned], laidTests := true, laidLooks := .later }
def PlaintextReturnsUptoCardSaid : Prop := Claim7.holds Tryd.pinned (.plain (OpenSpec.upto plaintextReturnsSpec)) plaintextReturnsUptoCard

/-- THE SECOND FORM's CARD OF 'cellularlaw31.PlaintextBoxes'. -/
def plaintextBoxesUptoCard : Claim7 := { stood := { row := plaintextBoxesUptoRow, standIns := [], harness := (true, "ff20e10413ca25270eed2f83c8174cd8682fdb8d8736654ca4f167736ec34f97"), looks := false }, kinds := [], alts := [], laidByText := true, laidKinds := [.data, .pinned], laidTests := true, laidLooks := .later }
def PlaintextBoxesUptoCardSaid : Prop := Claim7.holds Tryd.pinned (.plain (OpenSpec.upto plaintextBoxesSpec)) plaintextBoxesUptoCard
end Rows
end Go.Proofs.YtblfeaapjloppaaDoor
