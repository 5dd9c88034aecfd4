/-
  NARROWER THAN 'FOR EVERY INPUT', by the rows' own cells (each row's printed sentence says how): PlaintextParses: laid · PlaintextTexts: laid · PlaintextLimits: laid · PlaintextReturns: laid · PlaintextBoxes: laid.
  DERIVED. THE GIVEN ROWS OF THIS SEAT. 5 by the template 'for every input the law returns true; each argument reads behind the call as it read before'; 0 by the template 'total and deterministic' (their statements: YtblfeaapjloppaaDoorTotals.lean).
  GIVEN WITH THE SEED: the statements are not yours to turn. If you find one false, say at which input.
  Laid BY PROGRAM, IN A SANDBOX (cutbox-rows.mjs): the forced cells as the released guide's own fill.sh prints them over the translation b3e33e649491d173… (all of the seat's roots in one cut). By AI agents, Wed Nov 11 2026. No macro, syntax, notation, axiom, sorry.
-/
import Derived.Test.YtblfeaapjloppaaDoorChecked
import GoSem.PinnedTables
import GoSem.Claim
import GoSem.ClaimJoined
import GoSem.ClaimMapViews
import Derived.JoinedTies
import Derived.KernelRfl
namespace Go.Proofs.YtblfeaapjloppaaDoor
/- THE CELL 'sum', in the pinned program and in every row, IS THE sha256 OF THE DUMP (.gsa) THAT YtblfeaapjloppaaDoorProg.lean LOADS. Nothing in Lean hashes anything: it is a label: what it is worth is what the hold of that sum in a sandbox is worth. -/
noncomputable def Tryd.pinned : Pinned := { name := "ytblfeaapjloppaadoor", sum := "b3e33e649491d173db0360d9ddc2564972ce5df469359ae98a60b1a207b0d562", checked := Tryd.checked }
namespace Rows
def none {H : Type} : Left H := { results := [], args := [] }

/- WHAT THE LISTED PACKAGE-LEVEL VARIABLES READ AS WHEN THE CALL BEGINS. Each datum BY PROGRAM (the guide's laid-datum.mjs) off the statement by which the dump's own 'gosem.cut.vars' lays the variable. In a bare row this is a premise. The card (YtblfeaapjloppaaDoorCards.lean) ties it to the program's text. -/
def laid_unicode_utf8_acceptRanges {H : Type} : DataW H := .agg [.agg [.lit (.int .u8 128), .lit (.int .u8 191)], .agg [.lit (.int .u8 160), .lit (.int .u8 191)], .agg [.lit (.int .u8 128), .lit (.int .u8 159)], .agg [.lit (.int .u8 144), .lit (.int .u8 191)], .agg [.lit (.int .u8 128), .lit (.int .u8 143)], .agg [.lit (.int .u8 0), .lit (.int .u8 0)], .agg [.lit (.int .u8 0), .lit (.int .u8 0)], .agg [.lit (.int .u8 0), .lit (.int .u8 0)], .agg [.lit (.int .u8 0), .lit (.int .u8 0)], .agg [.lit (.int .u8 0), .lit (.int .u8 0)], .agg [.lit (.int .u8 0), .lit (.int .u8 0)], .agg [.lit (.int .u8 0), .lit (.int .u8 0)], .agg [.lit (.int .u8 0), .lit (.int .u8 0)], .agg [.lit (.int .u8 0), .lit (.int .u8 0)], .agg [.lit (.int .u8 0), .lit (.int .u8 0)], .agg [.lit (.int .u8 0), .lit (.int .u8 0)]]
/-- One of Go's own tables, pinned by name: the form's constant. -/
def laid_unicode_utf8_first : DataW Unit := Go.Pinned.utf8First

/-- 'cellularlaw31.PlaintextParses': WHATEVER THE INPUT: true; the input reads as it did. -/
def plaintextParsesSpec : ChangeSpec := { name := "plaintextParses", fn := fun _ => fun
  | [d] => { results := [.lit (.bool true)], args := [d] }
  | _ => none }
def plaintextParsesRow : OpenClaim := { program := "ytblfeaapjloppaadoor", sum := "b3e33e649491d173db0360d9ddc2564972ce5df469359ae98a60b1a207b0d562", func := "cellular/cellularlaw31.PlaintextParses", spec := "plaintextParses", inPlace := ["internal/bytealg.IndexByteString", "internal/bytealg.IndexString", "internal/abi.NoEscape", "internal/bytealg.MakeNoZero"], unfollowed := true, recurses := true, named := ["unicode/utf8.first", "unicode/utf8.acceptRanges", "internal/bytealg.MaxLen"], apart := false, laid := [("unicode/utf8.acceptRanges", laid_unicode_utf8_acceptRanges), ("unicode/utf8.first", laid_unicode_utf8_first)] }
def PlaintextParsesSaid : Prop := plaintextParsesRow.holds Tryd.pinned (OpenSpec.ofChange plaintextParsesSpec)

/-- ITS FALSE NEIGHBOUR: 'it returns false'. Refute it at one input. -/
def plaintextParsesWrong : ChangeSpec := { name := "plaintextParses", fn := fun _ => fun
  | [d] => { results := [.lit (.bool false)], args := [d] }
  | _ => none }
def PlaintextParsesWrongFalsely : Prop := plaintextParsesRow.holds Tryd.pinned (OpenSpec.ofChange plaintextParsesWrong)

/-- 'cellularlaw31.PlaintextTexts': WHATEVER THE INPUT: true; the input reads as it did. -/
def plaintextTextsSpec : ChangeSpec := { name := "plaintextTexts", fn := fun _ => fun
  | [d] => { results := [.lit (.bool true)], args := [d] }
  | _ => none }
def plaintextTextsRow : OpenClaim := { program := "ytblfeaapjloppaadoor", sum := "b3e33e649491d173db0360d9ddc2564972ce5df469359ae98a60b1a207b0d562", func := "cellular/cellularlaw31.PlaintextTexts", spec := "plaintextTexts", inPlace := ["internal/bytealg.IndexByteString", "internal/bytealg.IndexString", "internal/abi.NoEscape", "internal/bytealg.MakeNoZero"], unfollowed := true, recurses := true, named := ["unicode/utf8.first", "unicode/utf8.acceptRanges", "internal/bytealg.MaxLen"], apart := false, laid := [("unicode/utf8.acceptRanges", laid_unicode_utf8_acceptRanges), ("unicode/utf8.first", laid_unicode_utf8_first)] }
def PlaintextTextsSaid : Prop := plaintextTextsRow.holds Tryd.pinned (OpenSpec.ofChange plaintextTextsSpec)

/-- ITS FALSE NEIGHBOUR: 'it returns false'. Refute it at one input. -/
def plaintextTextsWrong : ChangeSpec := { name := "plaintextTexts", fn := fun _ => fun
  | [d] => { results := [.lit (.bool false)], args := [d] }
  | _ => none }
def PlaintextTextsWrongFalsely : Prop := plaintextTextsRow.holds Tryd.pinned (OpenSpec.ofChange plaintextTextsWrong)

/-- 'cellularlaw31.PlaintextLimits': WHATEVER THE INPUT: true; the input reads as it did. -/
def plaintextLimitsSpec : ChangeSpec := { name := "plaintextLimits", fn := fun _ => fun
  | [d1, d2] => { results := [.lit (.bool true)], args := [d1, d2] }
  | _ => none }
def plaintextLimitsRow : OpenClaim := { program := "ytblfeaapjloppaadoor", sum := "b3e33e649491d173db0360d9ddc2564972ce5df469359ae98a60b1a207b0d562", func := "cellular/cellularlaw31.PlaintextLimits", spec := "plaintextLimits", inPlace := ["internal/bytealg.IndexByteString", "internal/bytealg.IndexString", "internal/abi.NoEscape", "internal/bytealg.MakeNoZero"], unfollowed := true, recurses := true, named := ["unicode/utf8.first", "unicode/utf8.acceptRanges", "internal/bytealg.MaxLen"], apart := false, laid := [("unicode/utf8.acceptRanges", laid_unicode_utf8_acceptRanges), ("unicode/utf8.first", laid_unicode_utf8_first)] }
def PlaintextLimitsSaid : Prop := plaintextLimitsRow.holds Tryd.pinned (OpenSpec.ofChange plaintextLimitsSpec)

/-- ITS FALSE NEIGHBOUR: 'it returns false'. Refute it at one input. -/
def plaintextLimitsWrong : ChangeSpec := { name := "plaintextLimits", fn := fun _ => fun
  | [d1, d2] => { results := [.lit (.bool false)], args := [d1, d2] }
  | _ => none }
def PlaintextLimitsWrongFalsely : Prop := plaintextLimitsRow.holds Tryd.pinned (OpenSpec.ofChange plaintextLimitsWrong)

/-- 'cellularlaw31.PlaintextReturns': WHATEVER THE INPUT: true; the input reads as it did. -/
def plaintextReturnsSpec : ChangeSpec := { name := "plaintextReturns", fn := fun _ => fun
  | [d1, d2] => { results := [.lit (.bool true)], args := [d1, d2] }
  | _ => none }
def plaintextReturnsRow : OpenClaim := { program := "ytblfeaapjloppaadoor", sum := "b3e33e649491d173db0360d9ddc2564972ce5df469359ae98a60b1a207b0d562", func := "cellular/cellularlaw31.PlaintextReturns", spec := "plaintextReturns", inPlace := ["internal/bytealg.IndexByteString", "internal/bytealg.IndexString", "internal/abi.NoEscape", "internal/bytealg.MakeNoZero"], unfollowed := true, recurses := true, named := ["unicode/utf8.first", "unicode/utf8.acceptRanges", "internal/bytealg.MaxLen"], apart := false, laid := [("unicode/utf8.acceptRanges", laid_unicode_utf8_acceptRanges), ("unicode/utf8.first", laid_unicode_utf8_first)] }
def PlaintextReturnsSaid : Prop := plaintextReturnsRow.holds Tryd.pinned (OpenSpec.ofChange plaintextReturnsSpec)

/-- ITS FALSE NEIGHBOUR: 'it returns false'. Refute it at one input. -/
def plaintextReturnsWrong : ChangeSpec := { name := "plaintextReturns", fn := fun _ => fun
  | [d1, d2] => { results := [.lit (.bool false)], args := [d1, d2] }
  | _ => none }
def PlaintextReturnsWrongFalsely : Prop := plaintextReturnsRow.holds Tryd.pinned (OpenSpec.ofChange plaintextReturnsWrong)

/-- 'cellularlaw31.PlaintextBoxes': WHATEVER THE INPUT: true; the input reads as it did. -/
def plaintextBoxesSpec : ChangeSpec := { name := "plaintextBoxes", fn := fun _ => fun
  | [d1, d2] => { results := [.lit (.bool true)], args := [d1, d2] }
  | _ => none }
def plaintextBoxesRow : OpenClaim := { program := "ytblfeaapjloppaadoor", sum := "b3e33e649491d173db0360d9ddc2564972ce5df469359ae98a60b1a207b0d562", func := "cellular/cellularlaw31.PlaintextBoxes", spec := "plaintextBoxes", inPlace := ["internal/bytealg.IndexByteString", "internal/bytealg.IndexString", "internal/abi.NoEscape", "internal/bytealg.MakeNoZero"], unfollowed := true, recurses := true, named := ["unicode/utf8.first", "unicode/utf8.acceptRanges", "internal/bytealg.MaxLen"], apart := false, laid := [("unicode/utf8.acceptRanges", laid_unicode_utf8_acceptRanges), ("unicode/utf8.first", laid_unicode_utf8_first)] }
def PlaintextBoxesSaid : Prop := plaintextBoxesRow.holds Tryd.pinned (OpenSpec.ofChange plaintextBoxesSpec)

/-- ITS FALSE NEIGHBOUR: 'it returns false'. Refute it at one input. -/
def plaintextBoxesWrong : ChangeSpec := { name := "plaintextBoxes", fn := fun _ => fun
  | [d1, d2] => { results := [.lit (.bool false)], args := [d1, d2] }
  | _ => none }
def PlaintextBoxesWrongFalsely : Prop := plaintextBoxesRow.holds Tryd.pinned (OpenSpec.ofChange plaintextBoxesWrong)

/- THE SECOND FORM. 'bulk': how many values and letters a reading holds, each counted each time it is reached (what is shared counts as often as it is met; a slice's spare places count too). A statement '..UptoSaid' is the law's where the arguments, and the package variables that the reading takes, are together of bulk at most 1048576: NARROWER than '..Said'. Prove '..Said' where nothing that the law and all that it calls make is longer than what came in: it says more and counts as full. Else prove '..UptoSaid'. A law counts once. -/
mutual
def uptoBulk {H : Type} : DataW H → Nat
  | .lit (.string bytes) => bytes.length + 1
  | .lit _ => 1
  | .nil => 1
  | .ptr d => uptoBulk d + 1
  | .slice elems spare => uptoBulkAll elems + uptoBulkAll spare + 1
  | .agg parts => uptoBulkAll parts + 1
  | .iface _ d => uptoBulk d + 1
  | .map entries => uptoBulkEntries entries + 1
  | .held _ => 1
def uptoBulkAll {H : Type} : List (DataW H) → Nat
  | [] => 0
  | d :: r => uptoBulk d + uptoBulkAll r
def uptoBulkEntries {H : Type} : List (Lit × DataW H) → Nat
  | [] => 0
  | x :: r => uptoBulkEntry x + uptoBulkEntries r
def uptoBulkEntry {H : Type} : Lit × DataW H → Nat
  | (.string bytes, d) => bytes.length + uptoBulk d + 1
  | (_, d) => uptoBulk d + 1
 end
def uptoSmall : (H : Type) → List (DataW H) → Bool := fun _ ds => decide (uptoBulkAll ds ≤ 1048576)
def OpenSpec.upto (s : _root_.Go.ChangeSpec) : _root_.Go.OpenSpec := { _root_.Go.OpenSpec.ofChange s with cond := some uptoSmall }

/-- 'cellularlaw31.PlaintextParses', WHERE WHAT IT READS IS OF BULK AT MOST 1048576: true; the input reads as it did. -/
def plaintextParsesUptoRow : OpenClaim := { program := "ytblfeaapjloppaadoor", sum := "b3e33e649491d173db0360d9ddc2564972ce5df469359ae98a60b1a207b0d562", func := "cellular/cellularlaw31.PlaintextParses", spec := "plaintextParses", inPlace := ["internal/bytealg.IndexByteString", "internal/bytealg.IndexString", "internal/abi.NoEscape", "internal/bytealg.MakeNoZero"], unfollowed := true, recurses := true, named := ["unicode/utf8.first", "unicode/utf8.acceptRanges", "internal/bytealg.MaxLen"], apart := false, laid := [("unicode/utf8.acceptRanges", laid_unicode_utf8_acceptRanges), ("unicode/utf8.first", laid_unicode_utf8_first)], narrowed := true }
def PlaintextParsesUptoSaid : Prop := plaintextParsesUptoRow.holds Tryd.pinned (OpenSpec.upto plaintextParsesSpec)

/-- 'cellularlaw31.PlaintextTexts', WHERE WHAT IT READS IS OF BULK AT MOST 1048576: true; the input reads as it did. -/
def plaintextTextsUptoRow : OpenClaim := { program := "ytblfeaapjloppaadoor", sum := "b3e33e649491d173db0360d9ddc2564972ce5df469359ae98a60b1a207b0d562", func := "cellular/cellularlaw31.PlaintextTexts", spec := "plaintextTexts", inPlace := ["internal/bytealg.IndexByteString", "internal/bytealg.IndexString", "internal/abi.NoEscape", "internal/bytealg.MakeNoZero"], unfollowed := true, recurses := true, named := ["unicode/utf8.first", "unicode/utf8.acceptRanges", "internal/bytealg.MaxLen"], apart := false, laid := [("unicode/utf8.acceptRanges", laid_unicode_utf8_acceptRanges), ("unicode/utf8.first", laid_unicode_utf8_first)], narrowed := true }
def PlaintextTextsUptoSaid : Prop := plaintextTextsUptoRow.holds Tryd.pinned (OpenSpec.upto plaintextTextsSpec)

/-- 'cellularlaw31.PlaintextLimits', WHERE WHAT IT READS IS OF BULK AT MOST 1048576: true; the input reads as it did. -/
def plaintextLimitsUptoRow : OpenClaim := { program := "ytblfeaapjloppaadoor", sum := "b3e33e649491d173db0360d9ddc2564972ce5df469359ae98a60b1a207b0d562", func := "cellular/cellularlaw31.PlaintextLimits", spec := "plaintextLimits", inPlace := ["internal/bytealg.IndexByteString", "internal/bytealg.IndexString", "internal/abi.NoEscape", "internal/bytealg.MakeNoZero"], unfollowed := true, recurses := true, named := ["unicode/utf8.first", "unicode/utf8.acceptRanges", "internal/bytealg.MaxLen"], apart := false, laid := [("unicode/utf8.acceptRanges", laid_unicode_utf8_acceptRanges), ("unicode/utf8.first", laid_unicode_utf8_first)], narrowed := true }
def PlaintextLimitsUptoSaid : Prop := plaintextLimitsUptoRow.holds Tryd.pinned (OpenSpec.upto plaintextLimitsSpec)

/-- 'cellularlaw31.PlaintextReturns', WHERE WHAT IT READS IS OF BULK AT MOST 1048576: true; the input reads as it did. -/
def plaintextReturnsUptoRow : OpenClaim := { program := "ytblfeaapjloppaadoor", sum := "b3e33e649491d173db0360d9ddc2564972ce5df469359ae98a60b1a207b0d562", func := "cellular/cellularlaw31.PlaintextReturns", spec := "plaintextReturns", inPlace := ["internal/bytealg.IndexByteString", "internal/bytealg.IndexString", "internal/abi.NoEscape", "internal/bytealg.MakeNoZero"], unfollowed := true, recurses := true, named := ["unicode/utf8.first", "unicode/utf8.acceptRanges", "internal/bytealg.MaxLen"], apart := false, laid := [("unicode/utf8.acceptRanges", laid_unicode_utf8_acceptRanges), ("unicode/utf8.first", laid_unicode_utf8_first)], narrowed := true }
def PlaintextReturnsUptoSaid : Prop := plaintextReturnsUptoRow.holds Tryd.pinned (OpenSpec.upto plaintextReturnsSpec)

/-- 'cellularlaw31.PlaintextBoxes', WHERE WHAT IT READS IS OF BULK AT MOST 1048576: true; the input reads as it did. -/
def plaintextBoxesUptoRow : OpenClaim := { program := "ytblfeaapjloppaadoor", sum := "b3e33e649491d173db0360d9ddc2564972ce5df469359ae98a60b1a207b0d562", func := "cellular/cellularlaw31.PlaintextBoxes", spec := "plaintextBoxes", inPlace := ["internal/bytealg.IndexByteString", "internal/bytealg.IndexString", "internal/abi.NoEscape", "internal/bytealg.MakeNoZero"], unfollowed := true, recurses := true, named := ["unicode/utf8.first", "unicode/utf8.acceptRanges", "internal/bytealg.MaxLen"], apart := false, laid := [("unicode/utf8.acceptRanges", laid_unicode_utf8_acceptRanges), ("unicode/utf8.first", laid_unicode_utf8_first)], narrowed := true }
def PlaintextBoxesUptoSaid : Prop := plaintextBoxesUptoRow.holds Tryd.pinned (OpenSpec.upto plaintextBoxesSpec)

end Rows
end Go.Proofs.YtblfeaapjloppaaDoor
