/-
  DERIVED. GIVEN WITH THE SEED: THE CARDS: each row of YtojnnfihpiegoaaDoorRows.lean that lists a variable, with what it lists TIED to the program's text (the seventh form; the later family's looks); each row that meets fmt, with fmt's text TOLD by the authors' own Lean function (tested against real Go, not proved from fmt's source: count such statements apart). THE CARD IS WHAT COUNTS. Prove the row's statement (the work); the ties are given (YtojnnfihpiegoaaDoorTie.lean); close each card by the builder's one call (the guide's Derived/Test/ToyasCard.lean, 'card_holds'). Laid BY PROGRAM, IN A SANDBOX (cutbox-door.mjs). By AI agents, Wed Nov 11 2026. No macro, syntax, notation, axiom, sorry.
-/
import Derived.Test.YtojnnfihpiegoaaDoorRows
import GoSem.ClaimSeven
namespace Go.Proofs.YtojnnfihpiegoaaDoor
namespace Rows

/-- THE TIED CARD OF 'cellularlaw13.ReduceTrees'. -/
def reduceTreesCard : Claim7 := { stood := { row := reduceTreesRow, standIns := [], harness := (true, "36795cc9b224b3e7f4da6264a72882aed51aea13c16f2f72d903bd506a410ea2"), looks := false }, kinds := [], alts := [], laidByText := true, laidKinds := [.data, .data, .data, .widerDeep], laidTests := true, laidLooks := .later }
def ReduceTreesCardSaid : Prop := Claim7.holds Tryd.pinned (.plain (OpenSpec.ofChange reduceTreesSpec)) reduceTreesCard

/-- THE TIED CARD OF 'cellularlaw13.ReduceMaps'. -/
def reduceMapsCard : Claim7 := { stood := { row := reduceMapsRow, standIns := [], harness := (true, "36795cc9b224b3e7f4da6264a72882aed51aea13c16f2f72d903bd506a410ea2"), looks := false }, kinds := [], alts := [], laidByText := true, laidKinds := [.data, .data, .data, .widerDeep], laidTests := true, laidLooks := .later }
def ReduceMapsCardSaid : Prop := Claim7.holds Tryd.pinned (.plain (OpenSpec.ofChange reduceMapsSpec)) reduceMapsCard

/-- THE TIED CARD OF 'cellularlaw13.ReduceChooses'. -/
def reduceChoosesCard : Claim7 := { stood := { row := reduceChoosesRow, standIns := [], harness := (true, "36795cc9b224b3e7f4da6264a72882aed51aea13c16f2f72d903bd506a410ea2"), looks := false }, kinds := [], alts := [], laidByText := true, laidKinds := [.data, .data, .data, .widerDeep], laidTests := true, laidLooks := .later }
def ReduceChoosesCardSaid : Prop := Claim7.holds Tryd.pinned (.plain (OpenSpec.ofChange reduceChoosesSpec)) reduceChoosesCard

/-- THE TIED CARD OF 'cellularlaw13.ReduceTurns'. -/
def reduceTurnsCard : Claim7 := { stood := { row := reduceTurnsRow, standIns := [], harness := (true, "36795cc9b224b3e7f4da6264a72882aed51aea13c16f2f72d903bd506a410ea2"), looks := false }, kinds := [], alts := [], laidByText := true, laidKinds := [.data, .data, .data, .widerDeep], laidTests := true, laidLooks := .later }
def ReduceTurnsCardSaid : Prop := Claim7.holds Tryd.pinned (.plain (OpenSpec.ofChange reduceTurnsSpec)) reduceTurnsCard

/-- THE TIED CARD OF 'cellularlaw13.ReduceSmall'. -/
def reduceSmallCard : Claim7 := { stood := { row := reduceSmallRow, standIns := [], harness := (true, "36795cc9b224b3e7f4da6264a72882aed51aea13c16f2f72d903bd506a410ea2"), looks := false }, kinds := [], alts := [], laidByText := true, laidKinds := [.data, .data, .data, .widerDeep], laidTests := true, laidLooks := .later }
def ReduceSmallCardSaid : Prop := Claim7.holds Tryd.pinned (.plain (OpenSpec.ofChange reduceSmallSpec)) reduceSmallCard

/-- THE TIED CARD OF 'cellularlaw13.ReduceTurned'. -/
def reduceTurnedCard : Claim7 := { stood := { row := reduceTurnedRow, standIns := [], harness := (true, "36795cc9b224b3e7f4da6264a72882aed51aea13c16f2f72d903bd506a410ea2"), looks := false }, kinds := [], alts := [], laidByText := true, laidKinds := [.data, .data, .data, .widerDeep], laidTests := true, laidLooks := .later }
def ReduceTurnedCardSaid : Prop := Claim7.holds Tryd.pinned (.plain (OpenSpec.ofChange reduceTurnedSpec)) reduceTurnedCard

/-- THE SECOND FORM's CARD OF 'cellularlaw13.ReduceTrees'. -/
def reduceTreesUptoCard : Claim7 := { stood := { row := reduceTreesUptoRow, standIns := [], harness := (true, "36795cc9b224b3e7f4da6264a72882aed51aea13c16f2f72d903bd506a410ea2"), looks := false }, kinds := [], alts := [], laidByText := true, laidKinds := [.data, .data, .data, .widerDeep], laidTests := true, laidLooks := .later }
def ReduceTreesUptoCardSaid : Prop := Claim7.holds Tryd.pinned (.plain (OpenSpec.upto reduceTreesSpec)) reduceTreesUptoCard

/-- THE SECOND FORM's CARD OF 'cellularlaw13.ReduceMaps'. -/
def reduceMapsUptoCard : Claim7 := { stood := { row := reduceMapsUptoRow, standIns := [], harness := (true, "36795cc9b224b3e7f4da6264a72882aed51aea13c16f2f72d903bd506a410ea2"), looks := false }, kinds := [], alts := [], laidByText := true, laidKinds := [.data, .data, .data, .widerDeep], laidTests := true, laidLooks := .later }
def ReduceMapsUptoCardSaid : Prop := Claim7.holds Tryd.pinned (.plain (OpenSpec.upto reduceMapsSpec)) reduceMapsUptoCard

/-- THE SECOND FORM's CARD OF 'cellularlaw13.ReduceChooses'. -/
def reduceChoosesUptoCard : Claim7 := { stood := { row := reduceChoosesUptoRow, standIns := [], harness := (true, "36795cc9b224b3e7f4da6264a72882aed51aea13c16f2f72d903bd506a410ea2"), looks := false }, kinds := [], alts := [], laidByText := true, laidKinds := [.data, .data, .data, .widerDeep], laidTests := true, laidLooks := .later }
def ReduceChoosesUptoCardSaid : Prop := Claim7.holds Tryd.pinned (.plain (OpenSpec.upto reduceChoosesSpec)) reduceChoosesUptoCard

/-- THE SECOND FORM's CARD OF 'cellularlaw13.ReduceTurns'. -/
def reduceTurnsUptoCard : Claim7 := { stood := { row := reduceTurnsUptoRow, standIns := [], harness := (true, "36795cc9b224b3e7f4da6264a72882aed51aea13c16f2f72d903bd506a410ea2"), looks := false }, kinds := [], alts := [], laidByText := true, laidKinds := [.data, .data, .data, .widerDeep], laidTests := true, laidLooks := .later }
def ReduceTurnsUptoCardSaid : Prop := Claim7.holds Tryd.pinned (.plain (OpenSpec.upto reduceTurnsSpec)) reduceTurnsUptoCard

/-- THE SECOND FORM's CARD OF 'cellularlaw13.ReduceSmall'. -/
def reduceSmallUptoCard : Claim7 := { stood := { row := reduceSmallUptoRow, standIns := [], harness := (true, "36795cc9b224b3e7f4da6264a72882aed51aea13c16f2f72d903bd506a410ea2"), looks := false }, kinds := [], alts := [], laidByText := true, laidKinds := [.data, .data, .data, .widerDeep], laidTests := true, laidLooks := .later }
def ReduceSmallUptoCardSaid : Prop := Claim7.holds Tryd.pinned (.plain (OpenSpec.upto reduceSmallSpec)) reduceSmallUptoCard

/-- THE SECOND FORM's CARD OF 'cellularlaw13.ReduceTurned'. -/
def reduceTurnedUptoCard : Claim7 := { stood := { row := reduceTurnedUptoRow, standIns := [], harness := (true, "36795cc9b224b3e7f4da6264a72882aed51aea13c16f2f72d903bd506a410ea2"), looks := false }, kinds := [], alts := [], laidByText := true, laidKinds := [.data, .data, .data, .widerDeep], laidTests := true, laidLooks := .later }
def ReduceTurnedUptoCardSaid : Prop := Claim7.holds Tryd.pinned (.plain (OpenSpec.upto reduceTurnedSpec)) reduceTurnedUptoCard
end Rows
end Go.Proofs.YtojnnfihpiegoaaDoor
