/-
  DERIVED. GIVEN WITH THE SEED: THE CARDS: each row of YtekmldneinnmoaaDoorRows.lean that lists a variable, with what it lists TIED to the program's text (the seventh form; the later family's looks); each row that meets fmt, with fmt's text TOLD by the authors' own Lean function (tested against real Go, not proved from fmt's source: count such statements apart). THE CARD IS WHAT COUNTS. Prove the row's statement (the work); the ties are given (YtekmldneinnmoaaDoorTie.lean); close each card by the builder's one call (the guide's Derived/Test/ToyasCard.lean, 'card_holds'). Laid BY PROGRAM, IN A SANDBOX (cutbox-door.mjs). By AI agents, Wed Nov 11 2026. No macro, syntax, notation, axiom, sorry.
-/
import Derived.Test.YtekmldneinnmoaaDoorRows
import GoSem.ClaimSeven
namespace Go.Proofs.YtekmldneinnmoaaDoor
namespace Rows

/-- THE TIED CARD OF 'cellularlaw30.RleText'. -/
def rleTextCard : Claim7 := { stood := { row := rleTextRow, standIns := [], harness := (true, "896f27730cc7011d845bd8d0b1e80cd9c0e8ff1f058bf3b5837364624c5e07df"), looks := false }, kinds := [], alts := [], laidByText := true, laidKinds := [.data, .data, .data], laidTests := true, laidLooks := .later }
def RleTextCardSaid : Prop := Claim7.holds Tryd.pinned (.plain (OpenSpec.ofChange rleTextSpec)) rleTextCard

/-- THE TIED CARD OF 'cellularlaw30.RleParses'. -/
def rleParsesCard : Claim7 := { stood := { row := rleParsesRow, standIns := [], harness := (true, "896f27730cc7011d845bd8d0b1e80cd9c0e8ff1f058bf3b5837364624c5e07df"), looks := false }, kinds := [], alts := [], laidByText := true, laidKinds := [.data, .data, .data], laidTests := true, laidLooks := .later }
def RleParsesCardSaid : Prop := Claim7.holds Tryd.pinned (.plain (OpenSpec.ofChange rleParsesSpec)) rleParsesCard

/-- THE TIED CARD OF 'cellularlaw30.RleRoundTrip'. -/
def rleRoundTripCard : Claim7 := { stood := { row := rleRoundTripRow, standIns := [], harness := (true, "896f27730cc7011d845bd8d0b1e80cd9c0e8ff1f058bf3b5837364624c5e07df"), looks := false }, kinds := [], alts := [], laidByText := true, laidKinds := [.data, .data, .data], laidTests := true, laidLooks := .later }
def RleRoundTripCardSaid : Prop := Claim7.holds Tryd.pinned (.plain (OpenSpec.ofChange rleRoundTripSpec)) rleRoundTripCard

/-- THE TIED CARD OF 'cellularlaw30.RleBlanks'. -/
def rleBlanksCard : Claim7 := { stood := { row := rleBlanksRow, standIns := [], harness := (true, "896f27730cc7011d845bd8d0b1e80cd9c0e8ff1f058bf3b5837364624c5e07df"), looks := false }, kinds := [], alts := [], laidByText := true, laidKinds := [.data, .data, .data], laidTests := true, laidLooks := .later }
def RleBlanksCardSaid : Prop := Claim7.holds Tryd.pinned (.plain (OpenSpec.ofChange rleBlanksSpec)) rleBlanksCard

/-- THE SECOND FORM's CARD OF 'cellularlaw30.RleText'. -/
def rleTextUptoCard : Claim7 := { stood := { row := rleTextUptoRow, standIns := [], harness := (true, "896f27730cc7011d845bd8d0b1e80cd9c0e8ff1f058bf3b5837364624c5e07df"), looks := false }, kinds := [], alts := [], laidByText := true, laidKinds := [.data, .data, .data], laidTests := true, laidLooks := .later }
def RleTextUptoCardSaid : Prop := Claim7.holds Tryd.pinned (.plain (OpenSpec.upto rleTextSpec)) rleTextUptoCard

/-- THE SECOND FORM's CARD OF 'cellularlaw30.RleParses'. -/
def rleParsesUptoCard : Claim7 := { stood := { row := rleParsesUptoRow, standIns := [], harness := (true, "896f27730cc7011d845bd8d0b1e80cd9c0e8ff1f058bf3b5837364624c5e07df"), looks := false }, kinds := [], alts := [], laidByText := true, laidKinds := [.data, .data, .data], laidTests := true, laidLooks := .later }
def RleParsesUptoCardSaid : Prop := Claim7.holds Tryd.pinned (.plain (OpenSpec.upto rleParsesSpec)) rleParsesUptoCard

/-- THE SECOND FORM's CARD OF 'cellularlaw30.RleRoundTrip'. -/
def rleRoundTripUptoCard : Claim7 := { stood := { row := rleRoundTripUptoRow, standIns := [], harness := (true, "896f27730cc7011d845bd8d0b1e80cd9c0e8ff1f058bf3b5837364624c5e07df"), looks := false }, kinds := [], alts := [], laidByText := true, laidKinds := [.data, .data, .data], laidTests := true, laidLooks := .later }
def RleRoundTripUptoCardSaid : Prop := Claim7.holds Tryd.pinned (.plain (OpenSpec.upto rleRoundTripSpec)) rleRoundTripUptoCard

/-- THE SECOND FORM's CARD OF 'cellularlaw30.RleBlanks'. -/
def rleBlanksUptoCard : Claim7 := { stood := { row := rleBlanksUptoRow, standIns := [], harness := (true, "896f27730cc7011d845bd8d0b1e80cd9c0e8ff1f058bf3b5837364624c5e07df"), looks := false }, kinds := [], alts := [], laidByText := true, laidKinds := [.data, .data, .data], laidTests := true, laidLooks := .later }
def RleBlanksUptoCardSaid : Prop := Claim7.holds Tryd.pinned (.plain (OpenSpec.upto rleBlanksSpec)) rleBlanksUptoCard
end Rows
end Go.Proofs.YtekmldneinnmoaaDoor
