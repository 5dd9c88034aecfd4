/-
  DERIVED. GIVEN WITH THE SEED: THE CARDS: each row of YtlegfdllipkggaaDoorRows.lean that lists a variable, with what it lists TIED to the program's text (the seventh form; the later family's looks); each row that meets fmt, with fmt's text TOLD by the authors' own Lean function (tested against real Go, not proved from fmt's source: count such statements apart). THE CARD IS WHAT COUNTS. Prove the row's statement (the work); the ties are given (YtlegfdllipkggaaDoorTie.lean); close each card by the builder's one call (the guide's Derived/Test/ToyasCard.lean, 'card_holds'). Laid BY PROGRAM, IN A SANDBOX (cutbox-door.mjs). By AI agents, Wed Nov 11 2026. No macro, syntax, notation, axiom, sorry.
-/
import Derived.Test.YtlegfdllipkggaaDoorRows
import GoSem.ClaimSeven
namespace Go.Proofs.YtlegfdllipkggaaDoor
namespace Rows

/-- THE TIED CARD OF 'cellularlaw15.TabletreeTables'. -/
def tabletreeTablesCard : Claim7 := { stood := { row := tabletreeTablesRow, standIns := [], harness := (true, "50fb4b4535682497549f5625a0f33c3fdd7acc75755709b9eb4cdcb430459601"), looks := false }, kinds := [], alts := [], laidByText := true, laidKinds := [.data, .data, .data, .widerDeep], laidTests := true, laidLooks := .later }
def TabletreeTablesCardSaid : Prop := Claim7.holds Tryd.pinned (.plain (OpenSpec.ofChange tabletreeTablesSpec)) tabletreeTablesCard

/-- THE TIED CARD OF 'cellularlaw15.TabletreeBack'. -/
def tabletreeBackCard : Claim7 := { stood := { row := tabletreeBackRow, standIns := [], harness := (true, "50fb4b4535682497549f5625a0f33c3fdd7acc75755709b9eb4cdcb430459601"), looks := false }, kinds := [], alts := [], laidByText := true, laidKinds := [.data, .data, .data, .widerDeep], laidTests := true, laidLooks := .later }
def TabletreeBackCardSaid : Prop := Claim7.holds Tryd.pinned (.plain (OpenSpec.ofChange tabletreeBackSpec)) tabletreeBackCard

/-- THE TIED CARD OF 'cellularlaw15.TabletreeRows'. -/
def tabletreeRowsCard : Claim7 := { stood := { row := tabletreeRowsRow, standIns := [], harness := (true, "50fb4b4535682497549f5625a0f33c3fdd7acc75755709b9eb4cdcb430459601"), looks := false }, kinds := [], alts := [], laidByText := true, laidKinds := [.data, .data, .data, .widerDeep], laidTests := true, laidLooks := .later }
def TabletreeRowsCardSaid : Prop := Claim7.holds Tryd.pinned (.plain (OpenSpec.ofChange tabletreeRowsSpec)) tabletreeRowsCard

/-- THE SECOND FORM's CARD OF 'cellularlaw15.TabletreeTables'. -/
def tabletreeTablesUptoCard : Claim7 := { stood := { row := tabletreeTablesUptoRow, standIns := [], harness := (true, "50fb4b4535682497549f5625a0f33c3fdd7acc75755709b9eb4cdcb430459601"), looks := false }, kinds := [], alts := [], laidByText := true, laidKinds := [.data, .data, .data, .widerDeep], laidTests := true, laidLooks := .later }
def TabletreeTablesUptoCardSaid : Prop := Claim7.holds Tryd.pinned (.plain (OpenSpec.upto tabletreeTablesSpec)) tabletreeTablesUptoCard

/-- THE SECOND FORM's CARD OF 'cellularlaw15.TabletreeBack'. -/
def tabletreeBackUptoCard : Claim7 := { stood := { row := tabletreeBackUptoRow, standIns := [], harness := (true, "50fb4b4535682497549f5625a0f33c3fdd7acc75755709b9eb4cdcb430459601"), looks := false }, kinds := [], alts := [], laidByText := true, laidKinds := [.data, .data, .data, .widerDeep], laidTests := true, laidLooks := .later }
def TabletreeBackUptoCardSaid : Prop := Claim7.holds Tryd.pinned (.plain (OpenSpec.upto tabletreeBackSpec)) tabletreeBackUptoCard

/-- THE SECOND FORM's CARD OF 'cellularlaw15.TabletreeRows'. -/
def tabletreeRowsUptoCard : Claim7 := { stood := { row := tabletreeRowsUptoRow, standIns := [], harness := (true, "50fb4b4535682497549f5625a0f33c3fdd7acc75755709b9eb4cdcb430459601"), looks := false }, kinds := [], alts := [], laidByText := true, laidKinds := [.data, .data, .data, .widerDeep], laidTests := true, laidLooks := .later }
def TabletreeRowsUptoCardSaid : Prop := Claim7.holds Tryd.pinned (.plain (OpenSpec.upto tabletreeRowsSpec)) tabletreeRowsUptoCard
end Rows
end Go.Proofs.YtlegfdllipkggaaDoor
