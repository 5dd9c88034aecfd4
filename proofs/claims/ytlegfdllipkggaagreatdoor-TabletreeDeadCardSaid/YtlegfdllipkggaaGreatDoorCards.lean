/-
  DERIVED. GIVEN WITH THE SEED: THE CARDS: each row of YtlegfdllipkggaaGreatDoorRows.lean that lists a variable, with what it lists TIED to the program's text (the seventh form; the later family's looks); each row that meets fmt, with fmt's text TOLD by the authors' own Lean function (tested against real Go, not proved from fmt's source: count such statements apart). THE CARD IS WHAT COUNTS. Prove the row's statement (the work); the ties are given (YtlegfdllipkggaaGreatDoorTie.lean); close each card by the builder's one call (the guide's Derived/Test/ToyasCard.lean, 'card_holds'). Laid BY PROGRAM, IN A SANDBOX (cutbox-door.mjs). By AI agents, Wed Nov 11 2026. No macro, syntax, notation, axiom, sorry.
-/
import Derived.Test.YtlegfdllipkggaaGreatDoorRows
import GoSem.ClaimSeven
namespace Go.Proofs.YtlegfdllipkggaaGreatDoor
namespace Rows

/-- THE TIED CARD OF 'cellularlaw15.TabletreeTrees'. -/
def tabletreeTreesCard : Claim7 := { stood := { row := tabletreeTreesRow, standIns := [], harness := (true, "c892637f937e5f0e9eb4d853fdbf9248b16460277a164a5b3ef690f313e3144b"), looks := false }, kinds := [], alts := [], laidByText := true, laidKinds := [.data, .data, .data, .widerDeep], laidTests := true, laidLooks := .later }
def TabletreeTreesCardSaid : Prop := Claim7.holds Tryz.pinned (.plain (OpenSpec.ofChange tabletreeTreesSpec)) tabletreeTreesCard

/-- THE TIED CARD OF 'cellularlaw15.TabletreeLimits'. -/
def tabletreeLimitsCard : Claim7 := { stood := { row := tabletreeLimitsRow, standIns := [], harness := (true, "c892637f937e5f0e9eb4d853fdbf9248b16460277a164a5b3ef690f313e3144b"), looks := false }, kinds := [], alts := [], laidByText := true, laidKinds := [.data, .data, .data, .widerDeep], laidTests := true, laidLooks := .later }
def TabletreeLimitsCardSaid : Prop := Claim7.holds Tryz.pinned (.plain (OpenSpec.ofChange tabletreeLimitsSpec)) tabletreeLimitsCard

/-- THE TIED CARD OF 'cellularlaw15.TabletreeDead'. -/
def tabletreeDeadCard : Claim7 := { stood := { row := tabletreeDeadRow, standIns := [], harness := (true, "c892637f937e5f0e9eb4d853fdbf9248b16460277a164a5b3ef690f313e3144b"), looks := false }, kinds := [], alts := [], laidByText := true, laidKinds := [.data, .data, .data, .widerDeep], laidTests := true, laidLooks := .later }
def TabletreeDeadCardSaid : Prop := Claim7.holds Tryz.pinned (.plain (OpenSpec.ofChange tabletreeDeadSpec)) tabletreeDeadCard

/-- THE SECOND FORM's CARD OF 'cellularlaw15.TabletreeTrees'. -/
def tabletreeTreesUptoCard : Claim7 := { stood := { row := tabletreeTreesUptoRow, standIns := [], harness := (true, "c892637f937e5f0e9eb4d853fdbf9248b16460277a164a5b3ef690f313e3144b"), looks := false }, kinds := [], alts := [], laidByText := true, laidKinds := [.data, .data, .data, .widerDeep], laidTests := true, laidLooks := .later }
def TabletreeTreesUptoCardSaid : Prop := Claim7.holds Tryz.pinned (.plain (OpenSpec.upto tabletreeTreesSpec)) tabletreeTreesUptoCard

/-- THE SECOND FORM's CARD OF 'cellularlaw15.TabletreeLimits'. -/
def tabletreeLimitsUptoCard : Claim7 := { stood := { row := tabletreeLimitsUptoRow, standIns := [], harness := (true, "c892637f937e5f0e9eb4d853fdbf9248b16460277a164a5b3ef690f313e3144b"), looks := false }, kinds := [], alts := [], laidByText := true, laidKinds := [.data, .data, .data, .widerDeep], laidTests := true, laidLooks := .later }
def TabletreeLimitsUptoCardSaid : Prop := Claim7.holds Tryz.pinned (.plain (OpenSpec.upto tabletreeLimitsSpec)) tabletreeLimitsUptoCard

/-- THE SECOND FORM's CARD OF 'cellularlaw15.TabletreeDead'. -/
def tabletreeDeadUptoCard : Claim7 := { stood := { row := tabletreeDeadUptoRow, standIns := [], harness := (true, "c892637f937e5f0e9eb4d853fdbf9248b16460277a164a5b3ef690f313e3144b"), looks := false }, kinds := [], alts := [], laidByText := true, laidKinds := [.data, .data, .data, .widerDeep], laidTests := true, laidLooks := .later }
def TabletreeDeadUptoCardSaid : Prop := Claim7.holds Tryz.pinned (.plain (OpenSpec.upto tabletreeDeadSpec)) tabletreeDeadUptoCard
end Rows
end Go.Proofs.YtlegfdllipkggaaGreatDoor
