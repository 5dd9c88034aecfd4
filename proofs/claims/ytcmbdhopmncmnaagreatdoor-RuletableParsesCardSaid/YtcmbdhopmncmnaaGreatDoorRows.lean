/-
  NARROWER THAN 'FOR EVERY INPUT', by the rows' own cells (each row's printed sentence says how): RuletableRight: laid · RuletableNext: laid · RuletableParses: laid · RuletableRoundTrip: laid · RuletableSymmetric: laid.
  DERIVED. THE GIVEN ROWS OF THIS SEAT. 5 by the template 'for every input the law returns true; each argument reads behind the call as it read before'; 0 by the template 'total and deterministic' (their statements: YtcmbdhopmncmnaaGreatDoorTotals.lean).
  GIVEN WITH THE SEED: the statements are not yours to turn. If you find one false, say at which input.
  Laid BY PROGRAM, IN A SANDBOX (cutbox-rows.mjs): the forced cells as the released guide's own fill.sh prints them over the translation 57cba6b4cea4d2f4… (all of the seat's roots in one cut). By AI agents, Wed Nov 11 2026. No macro, syntax, notation, axiom, sorry.
-/
import Derived.Test.YtcmbdhopmncmnaaGreatDoorChecked
import GoSem.PinnedTables
import GoSem.Claim
import GoSem.ClaimJoined
import GoSem.ClaimMapViews
import Derived.JoinedTies
import Derived.KernelRfl
namespace Go.Proofs.YtcmbdhopmncmnaaGreatDoor
/- THE CELL 'sum', in the pinned program and in every row, IS THE sha256 OF THE DUMP (.gsa) THAT YtcmbdhopmncmnaaGreatDoorProg.lean LOADS. Nothing in Lean hashes anything: it is a label: what it is worth is what the hold of that sum in a sandbox is worth. -/
noncomputable def Tryz.pinned : Pinned := { name := "ytcmbdhopmncmnaagreatdoor", sum := "57cba6b4cea4d2f408bccc0e51098b03c399d0837528ef36de3c94bf2ab81563", checked := Tryz.checked }
namespace Rows
def none {H : Type} : Left H := { results := [], args := [] }

/- WHAT THE LISTED PACKAGE-LEVEL VARIABLES READ AS WHEN THE CALL BEGINS. Each datum BY PROGRAM (the guide's laid-datum.mjs) off the statement by which the dump's own 'gosem.cut.vars' lays the variable. In a bare row this is a premise. The card (YtcmbdhopmncmnaaGreatDoorCards.lean) ties it to the program's text. -/
def laid_math_bits_deBruijn32tab {H : Type} : DataW H := .agg [.lit (.int .u8 0), .lit (.int .u8 1), .lit (.int .u8 28), .lit (.int .u8 2), .lit (.int .u8 29), .lit (.int .u8 14), .lit (.int .u8 24), .lit (.int .u8 3), .lit (.int .u8 30), .lit (.int .u8 22), .lit (.int .u8 20), .lit (.int .u8 15), .lit (.int .u8 25), .lit (.int .u8 17), .lit (.int .u8 4), .lit (.int .u8 8), .lit (.int .u8 31), .lit (.int .u8 27), .lit (.int .u8 13), .lit (.int .u8 23), .lit (.int .u8 21), .lit (.int .u8 19), .lit (.int .u8 16), .lit (.int .u8 7), .lit (.int .u8 26), .lit (.int .u8 12), .lit (.int .u8 18), .lit (.int .u8 6), .lit (.int .u8 11), .lit (.int .u8 5), .lit (.int .u8 10), .lit (.int .u8 9)]
def laid_math_bits_deBruijn64tab {H : Type} : DataW H := .agg [.lit (.int .u8 0), .lit (.int .u8 1), .lit (.int .u8 56), .lit (.int .u8 2), .lit (.int .u8 57), .lit (.int .u8 49), .lit (.int .u8 28), .lit (.int .u8 3), .lit (.int .u8 61), .lit (.int .u8 58), .lit (.int .u8 42), .lit (.int .u8 50), .lit (.int .u8 38), .lit (.int .u8 29), .lit (.int .u8 17), .lit (.int .u8 4), .lit (.int .u8 62), .lit (.int .u8 47), .lit (.int .u8 59), .lit (.int .u8 36), .lit (.int .u8 45), .lit (.int .u8 43), .lit (.int .u8 51), .lit (.int .u8 22), .lit (.int .u8 53), .lit (.int .u8 39), .lit (.int .u8 33), .lit (.int .u8 30), .lit (.int .u8 24), .lit (.int .u8 18), .lit (.int .u8 12), .lit (.int .u8 5), .lit (.int .u8 63), .lit (.int .u8 55), .lit (.int .u8 48), .lit (.int .u8 27), .lit (.int .u8 60), .lit (.int .u8 41), .lit (.int .u8 37), .lit (.int .u8 16), .lit (.int .u8 46), .lit (.int .u8 35), .lit (.int .u8 44), .lit (.int .u8 21), .lit (.int .u8 52), .lit (.int .u8 32), .lit (.int .u8 23), .lit (.int .u8 11), .lit (.int .u8 54), .lit (.int .u8 26), .lit (.int .u8 40), .lit (.int .u8 15), .lit (.int .u8 34), .lit (.int .u8 20), .lit (.int .u8 31), .lit (.int .u8 10), .lit (.int .u8 25), .lit (.int .u8 14), .lit (.int .u8 19), .lit (.int .u8 9), .lit (.int .u8 13), .lit (.int .u8 8), .lit (.int .u8 7), .lit (.int .u8 6)]
def laid_internal_strconv_uint64pow10 {H : Type} : DataW H := .agg [.lit (.int .u64 1), .lit (.int .u64 10), .lit (.int .u64 100), .lit (.int .u64 1000), .lit (.int .u64 10000), .lit (.int .u64 100000), .lit (.int .u64 1000000), .lit (.int .u64 10000000), .lit (.int .u64 100000000), .lit (.int .u64 1000000000), .lit (.int .u64 10000000000), .lit (.int .u64 100000000000), .lit (.int .u64 1000000000000), .lit (.int .u64 10000000000000), .lit (.int .u64 100000000000000), .lit (.int .u64 1000000000000000), .lit (.int .u64 10000000000000000), .lit (.int .u64 100000000000000000), .lit (.int .u64 1000000000000000000), .lit (.int .u64 10000000000000000000)]
def laid_unicode_utf8_acceptRanges {H : Type} : DataW H := .agg [.agg [.lit (.int .u8 128), .lit (.int .u8 191)], .agg [.lit (.int .u8 160), .lit (.int .u8 191)], .agg [.lit (.int .u8 128), .lit (.int .u8 159)], .agg [.lit (.int .u8 144), .lit (.int .u8 191)], .agg [.lit (.int .u8 128), .lit (.int .u8 143)], .agg [.lit (.int .u8 0), .lit (.int .u8 0)], .agg [.lit (.int .u8 0), .lit (.int .u8 0)], .agg [.lit (.int .u8 0), .lit (.int .u8 0)], .agg [.lit (.int .u8 0), .lit (.int .u8 0)], .agg [.lit (.int .u8 0), .lit (.int .u8 0)], .agg [.lit (.int .u8 0), .lit (.int .u8 0)], .agg [.lit (.int .u8 0), .lit (.int .u8 0)], .agg [.lit (.int .u8 0), .lit (.int .u8 0)], .agg [.lit (.int .u8 0), .lit (.int .u8 0)], .agg [.lit (.int .u8 0), .lit (.int .u8 0)], .agg [.lit (.int .u8 0), .lit (.int .u8 0)]]
def laid_cellular_symmetry_matrices {H : Type} : DataW H := .agg [.agg [.lit (.int .i64 1), .lit (.int .i64 0), .lit (.int .i64 0), .lit (.int .i64 1)], .agg [.lit (.int .i64 0), .lit (.int .i64 (-1)), .lit (.int .i64 1), .lit (.int .i64 0)], .agg [.lit (.int .i64 (-1)), .lit (.int .i64 0), .lit (.int .i64 0), .lit (.int .i64 (-1))], .agg [.lit (.int .i64 0), .lit (.int .i64 1), .lit (.int .i64 (-1)), .lit (.int .i64 0)], .agg [.lit (.int .i64 (-1)), .lit (.int .i64 0), .lit (.int .i64 0), .lit (.int .i64 1)], .agg [.lit (.int .i64 0), .lit (.int .i64 (-1)), .lit (.int .i64 (-1)), .lit (.int .i64 0)], .agg [.lit (.int .i64 1), .lit (.int .i64 0), .lit (.int .i64 0), .lit (.int .i64 (-1))], .agg [.lit (.int .i64 0), .lit (.int .i64 1), .lit (.int .i64 1), .lit (.int .i64 0)]]
def laid_cellular_ruletable_symNames {H : Type} : DataW H := .agg [.lit (.string [110, 111, 110, 101]), .lit (.string [114, 111, 116, 97, 116, 101]), .lit (.string [114, 101, 102, 108, 101, 99, 116]), .lit (.string [112, 101, 114, 109, 117, 116, 101])]
/-- One of Go's own tables, pinned by name: the form's constant. -/
def laid_unicode_utf8_first : DataW Unit := Go.Pinned.utf8First

/-- 'cellularlaw11.RuletableRight': WHATEVER THE INPUT: true; the input reads as it did. -/
def ruletableRightSpec : ChangeSpec := { name := "ruletableRight", fn := fun _ => fun
  | [d1, d2] => { results := [.lit (.bool true)], args := [d1, d2] }
  | _ => none }
def ruletableRightRow : OpenClaim := { program := "ytcmbdhopmncmnaagreatdoor", sum := "57cba6b4cea4d2f408bccc0e51098b03c399d0837528ef36de3c94bf2ab81563", func := "cellular/cellularlaw11.RuletableRight", spec := "ruletableRight", inPlace := ["internal/bytealg.CountString", "internal/bytealg.IndexByteString", "internal/bytealg.IndexString", "internal/abi.NoEscape"], unfollowed := true, recurses := true, named := ["unicode/utf8.first", "unicode/utf8.acceptRanges", "internal/bytealg.MaxLen", "cellular/ruletable.symNames", "cellular/symmetry.matrices", "internal/strconv.uint64pow10", "math/bits.deBruijn32tab", "math/bits.deBruijn64tab"], apart := false, laid := [("math/bits.deBruijn32tab", laid_math_bits_deBruijn32tab), ("math/bits.deBruijn64tab", laid_math_bits_deBruijn64tab), ("internal/strconv.uint64pow10", laid_internal_strconv_uint64pow10), ("unicode/utf8.acceptRanges", laid_unicode_utf8_acceptRanges), ("cellular/symmetry.matrices", laid_cellular_symmetry_matrices), ("cellular/ruletable.symNames", laid_cellular_ruletable_symNames), ("unicode/utf8.first", laid_unicode_utf8_first)] }
def RuletableRightSaid : Prop := ruletableRightRow.holds Tryz.pinned (OpenSpec.ofChange ruletableRightSpec)

/-- ITS FALSE NEIGHBOUR: 'it returns false'. Refute it at one input. -/
def ruletableRightWrong : ChangeSpec := { name := "ruletableRight", fn := fun _ => fun
  | [d1, d2] => { results := [.lit (.bool false)], args := [d1, d2] }
  | _ => none }
def RuletableRightWrongFalsely : Prop := ruletableRightRow.holds Tryz.pinned (OpenSpec.ofChange ruletableRightWrong)

/-- 'cellularlaw11.RuletableNext': WHATEVER THE INPUT: true; the input reads as it did. -/
def ruletableNextSpec : ChangeSpec := { name := "ruletableNext", fn := fun _ => fun
  | [d1, d2, d3] => { results := [.lit (.bool true)], args := [d1, d2, d3] }
  | _ => none }
def ruletableNextRow : OpenClaim := { program := "ytcmbdhopmncmnaagreatdoor", sum := "57cba6b4cea4d2f408bccc0e51098b03c399d0837528ef36de3c94bf2ab81563", func := "cellular/cellularlaw11.RuletableNext", spec := "ruletableNext", inPlace := ["internal/bytealg.CountString", "internal/bytealg.IndexByteString", "internal/bytealg.IndexString", "internal/abi.NoEscape"], unfollowed := true, recurses := true, named := ["unicode/utf8.first", "unicode/utf8.acceptRanges", "internal/bytealg.MaxLen", "cellular/ruletable.symNames", "cellular/symmetry.matrices", "internal/strconv.uint64pow10", "math/bits.deBruijn32tab", "math/bits.deBruijn64tab"], apart := false, laid := [("math/bits.deBruijn32tab", laid_math_bits_deBruijn32tab), ("math/bits.deBruijn64tab", laid_math_bits_deBruijn64tab), ("internal/strconv.uint64pow10", laid_internal_strconv_uint64pow10), ("unicode/utf8.acceptRanges", laid_unicode_utf8_acceptRanges), ("cellular/symmetry.matrices", laid_cellular_symmetry_matrices), ("cellular/ruletable.symNames", laid_cellular_ruletable_symNames), ("unicode/utf8.first", laid_unicode_utf8_first)] }
def RuletableNextSaid : Prop := ruletableNextRow.holds Tryz.pinned (OpenSpec.ofChange ruletableNextSpec)

/-- ITS FALSE NEIGHBOUR: 'it returns false'. Refute it at one input. -/
def ruletableNextWrong : ChangeSpec := { name := "ruletableNext", fn := fun _ => fun
  | [d1, d2, d3] => { results := [.lit (.bool false)], args := [d1, d2, d3] }
  | _ => none }
def RuletableNextWrongFalsely : Prop := ruletableNextRow.holds Tryz.pinned (OpenSpec.ofChange ruletableNextWrong)

/-- 'cellularlaw11.RuletableParses': WHATEVER THE INPUT: true; the input reads as it did. -/
def ruletableParsesSpec : ChangeSpec := { name := "ruletableParses", fn := fun _ => fun
  | [d1, d2] => { results := [.lit (.bool true)], args := [d1, d2] }
  | _ => none }
def ruletableParsesRow : OpenClaim := { program := "ytcmbdhopmncmnaagreatdoor", sum := "57cba6b4cea4d2f408bccc0e51098b03c399d0837528ef36de3c94bf2ab81563", func := "cellular/cellularlaw11.RuletableParses", spec := "ruletableParses", inPlace := ["internal/bytealg.CountString", "internal/bytealg.IndexByteString", "internal/bytealg.IndexString", "internal/abi.NoEscape"], unfollowed := true, recurses := true, named := ["unicode/utf8.first", "unicode/utf8.acceptRanges", "internal/bytealg.MaxLen", "cellular/ruletable.symNames", "cellular/symmetry.matrices", "internal/strconv.uint64pow10", "math/bits.deBruijn32tab", "math/bits.deBruijn64tab"], apart := false, laid := [("math/bits.deBruijn32tab", laid_math_bits_deBruijn32tab), ("math/bits.deBruijn64tab", laid_math_bits_deBruijn64tab), ("internal/strconv.uint64pow10", laid_internal_strconv_uint64pow10), ("unicode/utf8.acceptRanges", laid_unicode_utf8_acceptRanges), ("cellular/symmetry.matrices", laid_cellular_symmetry_matrices), ("cellular/ruletable.symNames", laid_cellular_ruletable_symNames), ("unicode/utf8.first", laid_unicode_utf8_first)] }
def RuletableParsesSaid : Prop := ruletableParsesRow.holds Tryz.pinned (OpenSpec.ofChange ruletableParsesSpec)

/-- ITS FALSE NEIGHBOUR: 'it returns false'. Refute it at one input. -/
def ruletableParsesWrong : ChangeSpec := { name := "ruletableParses", fn := fun _ => fun
  | [d1, d2] => { results := [.lit (.bool false)], args := [d1, d2] }
  | _ => none }
def RuletableParsesWrongFalsely : Prop := ruletableParsesRow.holds Tryz.pinned (OpenSpec.ofChange ruletableParsesWrong)

/-- 'cellularlaw11.RuletableRoundTrip': WHATEVER THE INPUT: true; the input reads as it did. -/
def ruletableRoundTripSpec : ChangeSpec := { name := "ruletableRoundTrip", fn := fun _ => fun
  | [d] => { results := [.lit (.bool true)], args := [d] }
  | _ => none }
def ruletableRoundTripRow : OpenClaim := { program := "ytcmbdhopmncmnaagreatdoor", sum := "57cba6b4cea4d2f408bccc0e51098b03c399d0837528ef36de3c94bf2ab81563", func := "cellular/cellularlaw11.RuletableRoundTrip", spec := "ruletableRoundTrip", inPlace := ["internal/bytealg.CountString", "internal/bytealg.IndexByteString", "internal/bytealg.IndexString", "internal/abi.NoEscape"], unfollowed := true, recurses := true, named := ["unicode/utf8.first", "unicode/utf8.acceptRanges", "internal/bytealg.MaxLen", "cellular/ruletable.symNames", "cellular/symmetry.matrices", "internal/strconv.uint64pow10", "math/bits.deBruijn32tab", "math/bits.deBruijn64tab"], apart := false, laid := [("math/bits.deBruijn32tab", laid_math_bits_deBruijn32tab), ("math/bits.deBruijn64tab", laid_math_bits_deBruijn64tab), ("internal/strconv.uint64pow10", laid_internal_strconv_uint64pow10), ("unicode/utf8.acceptRanges", laid_unicode_utf8_acceptRanges), ("cellular/symmetry.matrices", laid_cellular_symmetry_matrices), ("cellular/ruletable.symNames", laid_cellular_ruletable_symNames), ("unicode/utf8.first", laid_unicode_utf8_first)] }
def RuletableRoundTripSaid : Prop := ruletableRoundTripRow.holds Tryz.pinned (OpenSpec.ofChange ruletableRoundTripSpec)

/-- ITS FALSE NEIGHBOUR: 'it returns false'. Refute it at one input. -/
def ruletableRoundTripWrong : ChangeSpec := { name := "ruletableRoundTrip", fn := fun _ => fun
  | [d] => { results := [.lit (.bool false)], args := [d] }
  | _ => none }
def RuletableRoundTripWrongFalsely : Prop := ruletableRoundTripRow.holds Tryz.pinned (OpenSpec.ofChange ruletableRoundTripWrong)

/-- 'cellularlaw11.RuletableSymmetric': WHATEVER THE INPUT: true; the input reads as it did. -/
def ruletableSymmetricSpec : ChangeSpec := { name := "ruletableSymmetric", fn := fun _ => fun
  | [d1, d2, d3] => { results := [.lit (.bool true)], args := [d1, d2, d3] }
  | _ => none }
def ruletableSymmetricRow : OpenClaim := { program := "ytcmbdhopmncmnaagreatdoor", sum := "57cba6b4cea4d2f408bccc0e51098b03c399d0837528ef36de3c94bf2ab81563", func := "cellular/cellularlaw11.RuletableSymmetric", spec := "ruletableSymmetric", inPlace := ["internal/bytealg.CountString", "internal/bytealg.IndexByteString", "internal/bytealg.IndexString", "internal/abi.NoEscape"], unfollowed := true, recurses := true, named := ["cellular/symmetry.matrices", "unicode/utf8.first", "unicode/utf8.acceptRanges", "internal/bytealg.MaxLen", "cellular/ruletable.symNames", "internal/strconv.uint64pow10", "math/bits.deBruijn32tab", "math/bits.deBruijn64tab"], apart := false, laid := [("math/bits.deBruijn32tab", laid_math_bits_deBruijn32tab), ("math/bits.deBruijn64tab", laid_math_bits_deBruijn64tab), ("internal/strconv.uint64pow10", laid_internal_strconv_uint64pow10), ("unicode/utf8.acceptRanges", laid_unicode_utf8_acceptRanges), ("cellular/symmetry.matrices", laid_cellular_symmetry_matrices), ("cellular/ruletable.symNames", laid_cellular_ruletable_symNames), ("unicode/utf8.first", laid_unicode_utf8_first)] }
def RuletableSymmetricSaid : Prop := ruletableSymmetricRow.holds Tryz.pinned (OpenSpec.ofChange ruletableSymmetricSpec)

/-- ITS FALSE NEIGHBOUR: 'it returns false'. Refute it at one input. -/
def ruletableSymmetricWrong : ChangeSpec := { name := "ruletableSymmetric", fn := fun _ => fun
  | [d1, d2, d3] => { results := [.lit (.bool false)], args := [d1, d2, d3] }
  | _ => none }
def RuletableSymmetricWrongFalsely : Prop := ruletableSymmetricRow.holds Tryz.pinned (OpenSpec.ofChange ruletableSymmetricWrong)

/- THE SECOND FORM. 'bulk': how many values and letters a reading holds, each counted each time it is reached (what is shared counts as often as it is met; a slice's spare places count too). A statement '..UptoSaid' is the law's where the arguments, and the package variables that the reading takes, are together of bulk at most 1048576: NARROWER than '..Said'. Prove '..Said' where nothing that the law and all that it calls make is longer than what came in: it says more and counts as full. Else prove '..UptoSaid'. A law counts once. -/
mutual
def uptoBulk {H : Type} : DataW H → Nat
  | .lit (.string bytes) => bytes.length + 1
  | .lit _ => 1
  | .nil => 1
  | .ptr d => uptoBulk d + 1
  | .slice elems spare => uptoBulkAll elems + uptoBulkAll spare + 1
  | .agg parts => uptoBulkAll parts + 1
  | .iface _ d => uptoBulk d + 1
  | .map entries => uptoBulkEntries entries + 1
  | .held _ => 1
def uptoBulkAll {H : Type} : List (DataW H) → Nat
  | [] => 0
  | d :: r => uptoBulk d + uptoBulkAll r
def uptoBulkEntries {H : Type} : List (Lit × DataW H) → Nat
  | [] => 0
  | x :: r => uptoBulkEntry x + uptoBulkEntries r
def uptoBulkEntry {H : Type} : Lit × DataW H → Nat
  | (.string bytes, d) => bytes.length + uptoBulk d + 1
  | (_, d) => uptoBulk d + 1
 end
def uptoSmall : (H : Type) → List (DataW H) → Bool := fun _ ds => decide (uptoBulkAll ds ≤ 1048576)
def OpenSpec.upto (s : _root_.Go.ChangeSpec) : _root_.Go.OpenSpec := { _root_.Go.OpenSpec.ofChange s with cond := some uptoSmall }

/-- 'cellularlaw11.RuletableRight', WHERE WHAT IT READS IS OF BULK AT MOST 1048576: true; the input reads as it did. -/
def ruletableRightUptoRow : OpenClaim := { program := "ytcmbdhopmncmnaagreatdoor", sum := "57cba6b4cea4d2f408bccc0e51098b03c399d0837528ef36de3c94bf2ab81563", func := "cellular/cellularlaw11.RuletableRight", spec := "ruletableRight", inPlace := ["internal/bytealg.CountString", "internal/bytealg.IndexByteString", "internal/bytealg.IndexString", "internal/abi.NoEscape"], unfollowed := true, recurses := true, named := ["unicode/utf8.first", "unicode/utf8.acceptRanges", "internal/bytealg.MaxLen", "cellular/ruletable.symNames", "cellular/symmetry.matrices", "internal/strconv.uint64pow10", "math/bits.deBruijn32tab", "math/bits.deBruijn64tab"], apart := false, laid := [("math/bits.deBruijn32tab", laid_math_bits_deBruijn32tab), ("math/bits.deBruijn64tab", laid_math_bits_deBruijn64tab), ("internal/strconv.uint64pow10", laid_internal_strconv_uint64pow10), ("unicode/utf8.acceptRanges", laid_unicode_utf8_acceptRanges), ("cellular/symmetry.matrices", laid_cellular_symmetry_matrices), ("cellular/ruletable.symNames", laid_cellular_ruletable_symNames), ("unicode/utf8.first", laid_unicode_utf8_first)], narrowed := true }
def RuletableRightUptoSaid : Prop := ruletableRightUptoRow.holds Tryz.pinned (OpenSpec.upto ruletableRightSpec)

/-- 'cellularlaw11.RuletableNext', WHERE WHAT IT READS IS OF BULK AT MOST 1048576: true; the input reads as it did. -/
def ruletableNextUptoRow : OpenClaim := { program := "ytcmbdhopmncmnaagreatdoor", sum := "57cba6b4cea4d2f408bccc0e51098b03c399d0837528ef36de3c94bf2ab81563", func := "cellular/cellularlaw11.RuletableNext", spec := "ruletableNext", inPlace := ["internal/bytealg.CountString", "internal/bytealg.IndexByteString", "internal/bytealg.IndexString", "internal/abi.NoEscape"], unfollowed := true, recurses := true, named := ["unicode/utf8.first", "unicode/utf8.acceptRanges", "internal/bytealg.MaxLen", "cellular/ruletable.symNames", "cellular/symmetry.matrices", "internal/strconv.uint64pow10", "math/bits.deBruijn32tab", "math/bits.deBruijn64tab"], apart := false, laid := [("math/bits.deBruijn32tab", laid_math_bits_deBruijn32tab), ("math/bits.deBruijn64tab", laid_math_bits_deBruijn64tab), ("internal/strconv.uint64pow10", laid_internal_strconv_uint64pow10), ("unicode/utf8.acceptRanges", laid_unicode_utf8_acceptRanges), ("cellular/symmetry.matrices", laid_cellular_symmetry_matrices), ("cellular/ruletable.symNames", laid_cellular_ruletable_symNames), ("unicode/utf8.first", laid_unicode_utf8_first)], narrowed := true }
def RuletableNextUptoSaid : Prop := ruletableNextUptoRow.holds Tryz.pinned (OpenSpec.upto ruletableNextSpec)

/-- 'cellularlaw11.RuletableParses', WHERE WHAT IT READS IS OF BULK AT MOST 1048576: true; the input reads as it did. -/
def ruletableParsesUptoRow : OpenClaim := { program := "ytcmbdhopmncmnaagreatdoor", sum := "57cba6b4cea4d2f408bccc0e51098b03c399d0837528ef36de3c94bf2ab81563", func := "cellular/cellularlaw11.RuletableParses", spec := "ruletableParses", inPlace := ["internal/bytealg.CountString", "internal/bytealg.IndexByteString", "internal/bytealg.IndexString", "internal/abi.NoEscape"], unfollowed := true, recurses := true, named := ["unicode/utf8.first", "unicode/utf8.acceptRanges", "internal/bytealg.MaxLen", "cellular/ruletable.symNames", "cellular/symmetry.matrices", "internal/strconv.uint64pow10", "math/bits.deBruijn32tab", "math/bits.deBruijn64tab"], apart := false, laid := [("math/bits.deBruijn32tab", laid_math_bits_deBruijn32tab), ("math/bits.deBruijn64tab", laid_math_bits_deBruijn64tab), ("internal/strconv.uint64pow10", laid_internal_strconv_uint64pow10), ("unicode/utf8.acceptRanges", laid_unicode_utf8_acceptRanges), ("cellular/symmetry.matrices", laid_cellular_symmetry_matrices), ("cellular/ruletable.symNames", laid_cellular_ruletable_symNames), ("unicode/utf8.first", laid_unicode_utf8_first)], narrowed := true }
def RuletableParsesUptoSaid : Prop := ruletableParsesUptoRow.holds Tryz.pinned (OpenSpec.upto ruletableParsesSpec)

/-- 'cellularlaw11.RuletableRoundTrip', WHERE WHAT IT READS IS OF BULK AT MOST 1048576: true; the input reads as it did. -/
def ruletableRoundTripUptoRow : OpenClaim := { program := "ytcmbdhopmncmnaagreatdoor", sum := "57cba6b4cea4d2f408bccc0e51098b03c399d0837528ef36de3c94bf2ab81563", func := "cellular/cellularlaw11.RuletableRoundTrip", spec := "ruletableRoundTrip", inPlace := ["internal/bytealg.CountString", "internal/bytealg.IndexByteString", "internal/bytealg.IndexString", "internal/abi.NoEscape"], unfollowed := true, recurses := true, named := ["unicode/utf8.first", "unicode/utf8.acceptRanges", "internal/bytealg.MaxLen", "cellular/ruletable.symNames", "cellular/symmetry.matrices", "internal/strconv.uint64pow10", "math/bits.deBruijn32tab", "math/bits.deBruijn64tab"], apart := false, laid := [("math/bits.deBruijn32tab", laid_math_bits_deBruijn32tab), ("math/bits.deBruijn64tab", laid_math_bits_deBruijn64tab), ("internal/strconv.uint64pow10", laid_internal_strconv_uint64pow10), ("unicode/utf8.acceptRanges", laid_unicode_utf8_acceptRanges), ("cellular/symmetry.matrices", laid_cellular_symmetry_matrices), ("cellular/ruletable.symNames", laid_cellular_ruletable_symNames), ("unicode/utf8.first", laid_unicode_utf8_first)], narrowed := true }
def RuletableRoundTripUptoSaid : Prop := ruletableRoundTripUptoRow.holds Tryz.pinned (OpenSpec.upto ruletableRoundTripSpec)

/-- 'cellularlaw11.RuletableSymmetric', WHERE WHAT IT READS IS OF BULK AT MOST 1048576: true; the input reads as it did. -/
def ruletableSymmetricUptoRow : OpenClaim := { program := "ytcmbdhopmncmnaagreatdoor", sum := "57cba6b4cea4d2f408bccc0e51098b03c399d0837528ef36de3c94bf2ab81563", func := "cellular/cellularlaw11.RuletableSymmetric", spec := "ruletableSymmetric", inPlace := ["internal/bytealg.CountString", "internal/bytealg.IndexByteString", "internal/bytealg.IndexString", "internal/abi.NoEscape"], unfollowed := true, recurses := true, named := ["cellular/symmetry.matrices", "unicode/utf8.first", "unicode/utf8.acceptRanges", "internal/bytealg.MaxLen", "cellular/ruletable.symNames", "internal/strconv.uint64pow10", "math/bits.deBruijn32tab", "math/bits.deBruijn64tab"], apart := false, laid := [("math/bits.deBruijn32tab", laid_math_bits_deBruijn32tab), ("math/bits.deBruijn64tab", laid_math_bits_deBruijn64tab), ("internal/strconv.uint64pow10", laid_internal_strconv_uint64pow10), ("unicode/utf8.acceptRanges", laid_unicode_utf8_acceptRanges), ("cellular/symmetry.matrices", laid_cellular_symmetry_matrices), ("cellular/ruletable.symNames", laid_cellular_ruletable_symNames), ("unicode/utf8.first", laid_unicode_utf8_first)], narrowed := true }
def RuletableSymmetricUptoSaid : Prop := ruletableSymmetricUptoRow.holds Tryz.pinned (OpenSpec.upto ruletableSymmetricSpec)

end Rows
end Go.Proofs.YtcmbdhopmncmnaaGreatDoor
