/-
  DERIVED. GIVEN WITH THE SEED: THE CARDS: each row of YtmlhkbgifnifdaaGreatDoorRows.lean that lists a variable, with what it lists TIED to the program's text (the seventh form; the later family's looks); each row that meets fmt, with fmt's text TOLD by the authors' own Lean function (tested against real Go, not proved from fmt's source: count such statements apart). THE CARD IS WHAT COUNTS. Prove the row's statement (the work); the ties are given (YtmlhkbgifnifdaaGreatDoorTie.lean); close each card by the builder's one call (the guide's Derived/Test/ToyasCard.lean, 'card_holds'). Laid BY PROGRAM, IN A SANDBOX (cutbox-door.mjs). By AI agents, Wed Nov 11 2026. No macro, syntax, notation, axiom, sorry.
-/
import Derived.Test.YtmlhkbgifnifdaaGreatDoorRows
import GoSem.ClaimSeven
namespace Go.Proofs.YtmlhkbgifnifdaaGreatDoor
namespace Rows

/-- THE TIED CARD OF 'cellularlaw14.TotaltreeBack'. -/
def totaltreeBackCard : Claim7 := { stood := { row := totaltreeBackRow, standIns := [], harness := (true, "2e26e5e0cf55f287b12a2272ca4e5c99c24de8975e999d3d67538ebcbab27f7b"), looks := false }, kinds := [], alts := [], laidByText := true, laidKinds := [.data, .data, .data], laidTests := true, laidLooks := .later }
def TotaltreeBackCardSaid : Prop := Claim7.holds Tryz.pinned (.plain (OpenSpec.ofChange totaltreeBackSpec)) totaltreeBackCard

/-- THE TIED CARD OF 'cellularlaw14.TotaltreeCounts'. -/
def totaltreeCountsCard : Claim7 := { stood := { row := totaltreeCountsRow, standIns := [], harness := (true, "2e26e5e0cf55f287b12a2272ca4e5c99c24de8975e999d3d67538ebcbab27f7b"), looks := false }, kinds := [], alts := [], laidByText := true, laidKinds := [.data, .data, .data], laidTests := true, laidLooks := .later }
def TotaltreeCountsCardSaid : Prop := Claim7.holds Tryz.pinned (.plain (OpenSpec.ofChange totaltreeCountsSpec)) totaltreeCountsCard

/-- THE SECOND FORM's CARD OF 'cellularlaw14.TotaltreeBack'. -/
def totaltreeBackUptoCard : Claim7 := { stood := { row := totaltreeBackUptoRow, standIns := [], harness := (true, "2e26e5e0cf55f287b12a2272ca4e5c99c24de8975e999d3d67538ebcbab27f7b"), looks := false }, kinds := [], alts := [], laidByText := true, laidKinds := [.data, .data, .data], laidTests := true, laidLooks := .later }
def TotaltreeBackUptoCardSaid : Prop := Claim7.holds Tryz.pinned (.plain (OpenSpec.upto totaltreeBackSpec)) totaltreeBackUptoCard

/-- THE SECOND FORM's CARD OF 'cellularlaw14.TotaltreeCounts'. -/
def totaltreeCountsUptoCard : Claim7 := { stood := { row := totaltreeCountsUptoRow, standIns := [], harness := (true, "2e26e5e0cf55f287b12a2272ca4e5c99c24de8975e999d3d67538ebcbab27f7b"), looks := false }, kinds := [], alts := [], laidByText := true, laidKinds := [.data, .data, .data], laidTests := true, laidLooks := .later }
def TotaltreeCountsUptoCardSaid : Prop := Claim7.holds Tryz.pinned (.plain (OpenSpec.upto totaltreeCountsSpec)) totaltreeCountsUptoCard
end Rows
end Go.Proofs.YtmlhkbgifnifdaaGreatDoor
