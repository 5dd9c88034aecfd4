/-
  DERIVED. GIVEN WITH THE SEED: THE CARDS: each row of YtmlhkbgifnifdaaDoorRows.lean that lists a variable, with what it lists TIED to the program's text (the seventh form; the later family's looks); each row that meets fmt, with fmt's text TOLD by the authors' own Lean function (tested against real Go, not proved from fmt's source: count such statements apart). THE CARD IS WHAT COUNTS. Prove the row's statement (the work); the ties are given (YtmlhkbgifnifdaaDoorTie.lean); close each card by the builder's one call (the guide's Derived/Test/ToyasCard.lean, 'card_holds'). Laid BY PROGRAM, IN A SANDBOX (cutbox-door.mjs). By AI agents, Wed Nov 11 2026. No macro, syntax, notation, axiom, sorry.
-/
import Derived.Test.YtmlhkbgifnifdaaDoorRows
import GoSem.ClaimSeven
namespace Go.Proofs.YtmlhkbgifnifdaaDoor
namespace Rows

/-- THE TIED CARD OF 'cellularlaw14.TotaltreeCells'. -/
def totaltreeCellsCard : Claim7 := { stood := { row := totaltreeCellsRow, standIns := [], harness := (true, "dc38a256e09eb1b40aab45546f4bf1b24b1916214b2974c094be62bd78637462"), looks := false }, kinds := [], alts := [], laidByText := true, laidKinds := [.data, .data, .data], laidTests := true, laidLooks := .later }
def TotaltreeCellsCardSaid : Prop := Claim7.holds Tryd.pinned (.plain (OpenSpec.ofChange totaltreeCellsSpec)) totaltreeCellsCard

/-- THE TIED CARD OF 'cellularlaw14.TotaltreeSums'. -/
def totaltreeSumsCard : Claim7 := { stood := { row := totaltreeSumsRow, standIns := [], harness := (true, "dc38a256e09eb1b40aab45546f4bf1b24b1916214b2974c094be62bd78637462"), looks := false }, kinds := [], alts := [], laidByText := true, laidKinds := [.data, .data, .data], laidTests := true, laidLooks := .later }
def TotaltreeSumsCardSaid : Prop := Claim7.holds Tryd.pinned (.plain (OpenSpec.ofChange totaltreeSumsSpec)) totaltreeSumsCard

/-- THE TIED CARD OF 'cellularlaw14.TotaltreeRows'. -/
def totaltreeRowsCard : Claim7 := { stood := { row := totaltreeRowsRow, standIns := [], harness := (true, "dc38a256e09eb1b40aab45546f4bf1b24b1916214b2974c094be62bd78637462"), looks := false }, kinds := [], alts := [], laidByText := true, laidKinds := [.data, .data, .data], laidTests := true, laidLooks := .later }
def TotaltreeRowsCardSaid : Prop := Claim7.holds Tryd.pinned (.plain (OpenSpec.ofChange totaltreeRowsSpec)) totaltreeRowsCard

/-- THE SECOND FORM's CARD OF 'cellularlaw14.TotaltreeCells'. -/
def totaltreeCellsUptoCard : Claim7 := { stood := { row := totaltreeCellsUptoRow, standIns := [], harness := (true, "dc38a256e09eb1b40aab45546f4bf1b24b1916214b2974c094be62bd78637462"), looks := false }, kinds := [], alts := [], laidByText := true, laidKinds := [.data, .data, .data], laidTests := true, laidLooks := .later }
def TotaltreeCellsUptoCardSaid : Prop := Claim7.holds Tryd.pinned (.plain (OpenSpec.upto totaltreeCellsSpec)) totaltreeCellsUptoCard

/-- THE SECOND FORM's CARD OF 'cellularlaw14.TotaltreeSums'. -/
def totaltreeSumsUptoCard : Claim7 := { stood := { row := totaltreeSumsUptoRow, standIns := [], harness := (true, "dc38a256e09eb1b40aab45546f4bf1b24b1916214b2974c094be62bd78637462"), looks := false }, kinds := [], alts := [], laidByText := true, laidKinds := [.data, .data, .data], laidTests := true, laidLooks := .later }
def TotaltreeSumsUptoCardSaid : Prop := Claim7.holds Tryd.pinned (.plain (OpenSpec.upto totaltreeSumsSpec)) totaltreeSumsUptoCard

/-- THE SECOND FORM's CARD OF 'cellularlaw14.TotaltreeRows'. -/
def totaltreeRowsUptoCard : Claim7 := { stood := { row := totaltreeRowsUptoRow, standIns := [], harness := (true, "dc38a256e09eb1b40aab45546f4bf1b24b1916214b2974c094be62bd78637462"), looks := false }, kinds := [], alts := [], laidByText := true, laidKinds := [.data, .data, .data], laidTests := true, laidLooks := .later }
def TotaltreeRowsUptoCardSaid : Prop := Claim7.holds Tryd.pinned (.plain (OpenSpec.upto totaltreeRowsSpec)) totaltreeRowsUptoCard
end Rows
end Go.Proofs.YtmlhkbgifnifdaaDoor
