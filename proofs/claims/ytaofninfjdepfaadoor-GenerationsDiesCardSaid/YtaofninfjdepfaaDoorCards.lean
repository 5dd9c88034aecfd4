/-
  DERIVED. GIVEN WITH THE SEED: THE CARDS: each row of YtaofninfjdepfaaDoorRows.lean that lists a variable, with what it lists TIED to the program's text (the seventh form; the later family's looks); each row that meets fmt, with fmt's text TOLD by the authors' own Lean function (tested against real Go, not proved from fmt's source: count such statements apart). THE CARD IS WHAT COUNTS. Prove the row's statement (the work); the ties are given (YtaofninfjdepfaaDoorTie.lean); close each card by the builder's one call (the guide's Derived/Test/ToyasCard.lean, 'card_holds'). Laid BY PROGRAM, IN A SANDBOX (cutbox-door.mjs). By AI agents, Wed Nov 11 2026. No macro, syntax, notation, axiom, sorry.
-/
import Derived.Test.YtaofninfjdepfaaDoorRows
import GoSem.ClaimSeven
namespace Go.Proofs.YtaofninfjdepfaaDoor
namespace Rows

/-- THE TIED CARD OF 'cellularlaw09.GenerationsParses'. -/
def generationsParsesCard : Claim7 := { stood := { row := generationsParsesRow, standIns := [], harness := (true, "a933de7fc1e5b8bd9321d5c474b05732dae70e2765e2b7dbc9033d5b7db59749"), looks := true }, kinds := [], alts := [], laidByText := true, laidKinds := [.data, .data, .data, .data, .sentinel, .sentinel, .pinned], laidTests := true, laidLooks := .later }
def GenerationsParsesCardSaid : Prop := Claim7.holds Tryd.pinned (.plain (OpenSpec.ofChange generationsParsesSpec)) generationsParsesCard

/-- THE TIED CARD OF 'cellularlaw09.GenerationsTexts'. -/
def generationsTextsCard : Claim7 := { stood := { row := generationsTextsRow, standIns := [], harness := (true, "a933de7fc1e5b8bd9321d5c474b05732dae70e2765e2b7dbc9033d5b7db59749"), looks := true }, kinds := [], alts := [], laidByText := true, laidKinds := [.data, .data, .data, .data, .sentinel, .sentinel, .pinned], laidTests := true, laidLooks := .later }
def GenerationsTextsCardSaid : Prop := Claim7.holds Tryd.pinned (.plain (OpenSpec.ofChange generationsTextsSpec)) generationsTextsCard

/-- THE TIED CARD OF 'cellularlaw09.GenerationsNext'. -/
def generationsNextCard : Claim7 := { stood := { row := generationsNextRow, standIns := [], harness := (true, "a933de7fc1e5b8bd9321d5c474b05732dae70e2765e2b7dbc9033d5b7db59749"), looks := true }, kinds := [], alts := [], laidByText := true, laidKinds := [.data, .data, .data, .data, .sentinel, .sentinel, .pinned], laidTests := true, laidLooks := .later }
def GenerationsNextCardSaid : Prop := Claim7.holds Tryd.pinned (.plain (OpenSpec.ofChange generationsNextSpec)) generationsNextCard

/-- THE TIED CARD OF 'cellularlaw09.GenerationsReturns'. -/
def generationsReturnsCard : Claim7 := { stood := { row := generationsReturnsRow, standIns := [], harness := (true, "a933de7fc1e5b8bd9321d5c474b05732dae70e2765e2b7dbc9033d5b7db59749"), looks := true }, kinds := [], alts := [], laidByText := true, laidKinds := [.data, .data, .data, .data, .sentinel, .sentinel, .pinned], laidTests := true, laidLooks := .later }
def GenerationsReturnsCardSaid : Prop := Claim7.holds Tryd.pinned (.plain (OpenSpec.ofChange generationsReturnsSpec)) generationsReturnsCard

/-- THE TIED CARD OF 'cellularlaw09.GenerationsDies'. -/
def generationsDiesCard : Claim7 := { stood := { row := generationsDiesRow, standIns := [], harness := (true, "a933de7fc1e5b8bd9321d5c474b05732dae70e2765e2b7dbc9033d5b7db59749"), looks := true }, kinds := [], alts := [], laidByText := true, laidKinds := [.data, .data, .data, .data, .sentinel, .sentinel, .pinned], laidTests := true, laidLooks := .later }
def GenerationsDiesCardSaid : Prop := Claim7.holds Tryd.pinned (.plain (OpenSpec.ofChange generationsDiesSpec)) generationsDiesCard

/-- THE TIED CARD OF 'cellularlaw09.GenerationsPlain'. -/
def generationsPlainCard : Claim7 := { stood := { row := generationsPlainRow, standIns := [], harness := (true, "a933de7fc1e5b8bd9321d5c474b05732dae70e2765e2b7dbc9033d5b7db59749"), looks := true }, kinds := [], alts := [], laidByText := true, laidKinds := [.data, .data, .data, .data, .sentinel, .sentinel, .pinned], laidTests := true, laidLooks := .later }
def GenerationsPlainCardSaid : Prop := Claim7.holds Tryd.pinned (.plain (OpenSpec.ofChange generationsPlainSpec)) generationsPlainCard

/-- THE SECOND FORM's CARD OF 'cellularlaw09.GenerationsParses'. -/
def generationsParsesUptoCard : Claim7 := { stood := { row := generationsParsesUptoRow, standIns := [], harness := (true, "a933de7fc1e5b8bd9321d5c474b05732dae70e2765e2b7dbc9033d5b7db59749"), looks := true }, kinds := [], alts := [], laidByText := true, laidKinds := [.data, .data, .data, .data, .sentinel, .sentinel, .pinned], laidTests := true, laidLooks := .later }
def GenerationsParsesUptoCardSaid : Prop := Claim7.holds Tryd.pinned (.plain (OpenSpec.upto generationsParsesSpec)) generationsParsesUptoCard

/-- THE SECOND FORM's CARD OF 'cellularlaw09.GenerationsTexts'. -/
def generationsTextsUptoCard : Claim7 := { stood := { row := generationsTextsUptoRow, standIns := [], harness := (true, "a933de7fc1e5b8bd9321d5c474b05732dae70e2765e2b7dbc9033d5b7db59749"), looks := true }, kinds := [], alts := [], laidByText := true, laidKinds := [.data, .data, .data, .data, .sentinel, .sentinel, .pinned], laidTests := true, laidLooks := .later }
def GenerationsTextsUptoCardSaid : Prop := Claim7.holds Tryd.pinned (.plain (OpenSpec.upto generationsTextsSpec)) generationsTextsUptoCard

/-- THE SECOND FORM's CARD OF 'cellularlaw09.GenerationsNext'. -/
def generationsNextUptoCard : Claim7 := { stood := { row := generationsNextUptoRow, standIns := [], harness := (true, "a933de7fc1e5b8bd9321d5c474b05732dae70e2765e2b7dbc9033d5b7db59749"), looks := true }, kinds := [], alts := [], laidByText := true, laidKinds := [.data, .data, .data, .data, .sentinel, .sentinel, .pinned], laidTests := true, laidLooks := .later }
def GenerationsNextUptoCardSaid : Prop := Claim7.holds Tryd.pinned (.plain (OpenSpec.upto generationsNextSpec)) generationsNextUptoCard

/-- THE SECOND FORM's CARD OF 'cellularlaw09.GenerationsReturns'. -/
def generationsReturnsUptoCard : Claim7 := { stood := { row := generationsReturnsUptoRow, standIns := [], harness := (true, "a933de7fc1e5b8bd9321d5c474b05732dae70e2765e2b7dbc9033d5b7db59749"), looks := true }, kinds := [], alts := [], laidByText := true, laidKinds := [.data, .data, .data, .data, .sentinel, .sentinel, .pinned], laidTests := true, laidLooks := .later }
def GenerationsReturnsUptoCardSaid : Prop := Claim7.holds Tryd.pinned (.plain (OpenSpec.upto generationsReturnsSpec)) generationsReturnsUptoCard

/-- THE SECOND FORM's CARD OF 'cellularlaw09.GenerationsDies'. -/
def generationsDiesUptoCard : Claim7 := { stood := { row := generationsDiesUptoRow, standIns := [], harness := (true, "a933de7fc1e5b8bd9321d5c474b05732dae70e2765e2b7dbc9033d5b7db59749"), looks := true }, kinds := [], alts := [], laidByText := true, laidKinds := [.data, .data, .data, .data, .sentinel, .sentinel, .pinned], laidTests := true, laidLooks := .later }
def GenerationsDiesUptoCardSaid : Prop := Claim7.holds Tryd.pinned (.plain (OpenSpec.upto generationsDiesSpec)) generationsDiesUptoCard

/-- THE SECOND FORM's CARD OF 'cellularlaw09.GenerationsPlain'. -/
def generationsPlainUptoCard : Claim7 := { stood := { row := generationsPlainUptoRow, standIns := [], harness := (true, "a933de7fc1e5b8bd9321d5c474b05732dae70e2765e2b7dbc9033d5b7db59749"), looks := true }, kinds := [], alts := [], laidByText := true, laidKinds := [.data, .data, .data, .data, .sentinel, .sentinel, .pinned], laidTests := true, laidLooks := .later }
def GenerationsPlainUptoCardSaid : Prop := Claim7.holds Tryd.pinned (.plain (OpenSpec.upto generationsPlainSpec)) generationsPlainUptoCard
end Rows
end Go.Proofs.YtaofninfjdepfaaDoor
