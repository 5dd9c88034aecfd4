/-
  NARROWER THAN 'FOR EVERY INPUT', by the rows' own cells (each row's printed sentence says how): ReduceTrees: laid · ReduceMaps: laid · ReduceChooses: laid · ReduceTurns: laid · ReduceSmall: laid · ReduceTurned: laid.
  DERIVED. THE GIVEN ROWS OF THIS SEAT. 6 by the template 'for every input the law returns true; each argument reads behind the call as it read before'; 0 by the template 'total and deterministic' (their statements: YtojnnfihpiegoaaDoorTotals.lean).
  GIVEN WITH THE SEED: the statements are not yours to turn. If you find one false, say at which input.
  Laid BY PROGRAM, IN A SANDBOX (cutbox-rows.mjs): the forced cells as the released guide's own fill.sh prints them over the translation f95feb0814bca01c… (all of the seat's roots in one cut). By AI agents, Wed Nov 11 2026. No macro, syntax, notation, axiom, sorry.
-/
import Derived.Test.YtojnnfihpiegoaaDoorChecked
import GoSem.Claim
import GoSem.ClaimJoined
import GoSem.ClaimMapViews
import Derived.JoinedTies
import Derived.KernelRfl
namespace Go.Proofs.YtojnnfihpiegoaaDoor
/- THE CELL 'sum', in the pinned program and in every row, IS THE sha256 OF THE DUMP (.gsa) THAT YtojnnfihpiegoaaDoorProg.lean LOADS. Nothing in Lean hashes anything: it is a label: what it is worth is what the hold of that sum in a sandbox is worth. -/
noncomputable def Tryd.pinned : Pinned := { name := "ytojnnfihpiegoaadoor", sum := "f95feb0814bca01cc1a36933c59ed2573b875225cd22ef1beaadaf1606df7dfc", checked := Tryd.checked }
namespace Rows
def none {H : Type} : Left H := { results := [], args := [] }

/- WHAT THE LISTED PACKAGE-LEVEL VARIABLES READ AS WHEN THE CALL BEGINS. Each datum BY PROGRAM (the guide's laid-datum.mjs) off the statement by which the dump's own 'gosem.cut.vars' lays the variable. In a bare row this is a premise. The card (YtojnnfihpiegoaaDoorCards.lean) ties it to the program's text. -/
def laid_math_bits_deBruijn32tab {H : Type} : DataW H := .agg [.lit (.int .u8 0), .lit (.int .u8 1), .lit (.int .u8 28), .lit (.int .u8 2), .lit (.int .u8 29), .lit (.int .u8 14), .lit (.int .u8 24), .lit (.int .u8 3), .lit (.int .u8 30), .lit (.int .u8 22), .lit (.int .u8 20), .lit (.int .u8 15), .lit (.int .u8 25), .lit (.int .u8 17), .lit (.int .u8 4), .lit (.int .u8 8), .lit (.int .u8 31), .lit (.int .u8 27), .lit (.int .u8 13), .lit (.int .u8 23), .lit (.int .u8 21), .lit (.int .u8 19), .lit (.int .u8 16), .lit (.int .u8 7), .lit (.int .u8 26), .lit (.int .u8 12), .lit (.int .u8 18), .lit (.int .u8 6), .lit (.int .u8 11), .lit (.int .u8 5), .lit (.int .u8 10), .lit (.int .u8 9)]
def laid_math_bits_deBruijn64tab {H : Type} : DataW H := .agg [.lit (.int .u8 0), .lit (.int .u8 1), .lit (.int .u8 56), .lit (.int .u8 2), .lit (.int .u8 57), .lit (.int .u8 49), .lit (.int .u8 28), .lit (.int .u8 3), .lit (.int .u8 61), .lit (.int .u8 58), .lit (.int .u8 42), .lit (.int .u8 50), .lit (.int .u8 38), .lit (.int .u8 29), .lit (.int .u8 17), .lit (.int .u8 4), .lit (.int .u8 62), .lit (.int .u8 47), .lit (.int .u8 59), .lit (.int .u8 36), .lit (.int .u8 45), .lit (.int .u8 43), .lit (.int .u8 51), .lit (.int .u8 22), .lit (.int .u8 53), .lit (.int .u8 39), .lit (.int .u8 33), .lit (.int .u8 30), .lit (.int .u8 24), .lit (.int .u8 18), .lit (.int .u8 12), .lit (.int .u8 5), .lit (.int .u8 63), .lit (.int .u8 55), .lit (.int .u8 48), .lit (.int .u8 27), .lit (.int .u8 60), .lit (.int .u8 41), .lit (.int .u8 37), .lit (.int .u8 16), .lit (.int .u8 46), .lit (.int .u8 35), .lit (.int .u8 44), .lit (.int .u8 21), .lit (.int .u8 52), .lit (.int .u8 32), .lit (.int .u8 23), .lit (.int .u8 11), .lit (.int .u8 54), .lit (.int .u8 26), .lit (.int .u8 40), .lit (.int .u8 15), .lit (.int .u8 34), .lit (.int .u8 20), .lit (.int .u8 31), .lit (.int .u8 10), .lit (.int .u8 25), .lit (.int .u8 14), .lit (.int .u8 19), .lit (.int .u8 9), .lit (.int .u8 13), .lit (.int .u8 8), .lit (.int .u8 7), .lit (.int .u8 6)]
def laid_internal_strconv_uint64pow10 {H : Type} : DataW H := .agg [.lit (.int .u64 1), .lit (.int .u64 10), .lit (.int .u64 100), .lit (.int .u64 1000), .lit (.int .u64 10000), .lit (.int .u64 100000), .lit (.int .u64 1000000), .lit (.int .u64 10000000), .lit (.int .u64 100000000), .lit (.int .u64 1000000000), .lit (.int .u64 10000000000), .lit (.int .u64 100000000000), .lit (.int .u64 1000000000000), .lit (.int .u64 10000000000000), .lit (.int .u64 100000000000000), .lit (.int .u64 1000000000000000), .lit (.int .u64 10000000000000000), .lit (.int .u64 100000000000000000), .lit (.int .u64 1000000000000000000), .lit (.int .u64 10000000000000000000)]
def laid_cellular_symmetry_matrices {H : Type} : DataW H := .agg [.agg [.lit (.int .i64 1), .lit (.int .i64 0), .lit (.int .i64 0), .lit (.int .i64 1)], .agg [.lit (.int .i64 0), .lit (.int .i64 (-1)), .lit (.int .i64 1), .lit (.int .i64 0)], .agg [.lit (.int .i64 (-1)), .lit (.int .i64 0), .lit (.int .i64 0), .lit (.int .i64 (-1))], .agg [.lit (.int .i64 0), .lit (.int .i64 1), .lit (.int .i64 (-1)), .lit (.int .i64 0)], .agg [.lit (.int .i64 (-1)), .lit (.int .i64 0), .lit (.int .i64 0), .lit (.int .i64 1)], .agg [.lit (.int .i64 0), .lit (.int .i64 (-1)), .lit (.int .i64 (-1)), .lit (.int .i64 0)], .agg [.lit (.int .i64 1), .lit (.int .i64 0), .lit (.int .i64 0), .lit (.int .i64 (-1))], .agg [.lit (.int .i64 0), .lit (.int .i64 1), .lit (.int .i64 1), .lit (.int .i64 0)]]

/-- 'cellularlaw13.ReduceTrees': WHATEVER THE INPUT: true; the input reads as it did. -/
def reduceTreesSpec : ChangeSpec := { name := "reduceTrees", fn := fun _ => fun
  | [d1, d2, d3] => { results := [.lit (.bool true)], args := [d1, d2, d3] }
  | _ => none }
def reduceTreesRow : OpenClaim := { program := "ytojnnfihpiegoaadoor", sum := "f95feb0814bca01cc1a36933c59ed2573b875225cd22ef1beaadaf1606df7dfc", func := "cellular/cellularlaw13.ReduceTrees", spec := "reduceTrees", unfollowed := true, recurses := true, named := ["internal/strconv.uint64pow10", "math/bits.deBruijn32tab", "math/bits.deBruijn64tab", "cellular/symmetry.matrices"], apart := false, laid := [("math/bits.deBruijn32tab", laid_math_bits_deBruijn32tab), ("math/bits.deBruijn64tab", laid_math_bits_deBruijn64tab), ("internal/strconv.uint64pow10", laid_internal_strconv_uint64pow10), ("cellular/symmetry.matrices", laid_cellular_symmetry_matrices)] }
def ReduceTreesSaid : Prop := reduceTreesRow.holds Tryd.pinned (OpenSpec.ofChange reduceTreesSpec)

/-- ITS FALSE NEIGHBOUR: 'it returns false'. Refute it at one input. -/
def reduceTreesWrong : ChangeSpec := { name := "reduceTrees", fn := fun _ => fun
  | [d1, d2, d3] => { results := [.lit (.bool false)], args := [d1, d2, d3] }
  | _ => none }
def ReduceTreesWrongFalsely : Prop := reduceTreesRow.holds Tryd.pinned (OpenSpec.ofChange reduceTreesWrong)

/-- 'cellularlaw13.ReduceMaps': WHATEVER THE INPUT: true; the input reads as it did. -/
def reduceMapsSpec : ChangeSpec := { name := "reduceMaps", fn := fun _ => fun
  | [d1, d2, d3] => { results := [.lit (.bool true)], args := [d1, d2, d3] }
  | _ => none }
def reduceMapsRow : OpenClaim := { program := "ytojnnfihpiegoaadoor", sum := "f95feb0814bca01cc1a36933c59ed2573b875225cd22ef1beaadaf1606df7dfc", func := "cellular/cellularlaw13.ReduceMaps", spec := "reduceMaps", unfollowed := true, recurses := true, named := ["internal/strconv.uint64pow10", "math/bits.deBruijn32tab", "math/bits.deBruijn64tab", "cellular/symmetry.matrices"], apart := false, laid := [("math/bits.deBruijn32tab", laid_math_bits_deBruijn32tab), ("math/bits.deBruijn64tab", laid_math_bits_deBruijn64tab), ("internal/strconv.uint64pow10", laid_internal_strconv_uint64pow10), ("cellular/symmetry.matrices", laid_cellular_symmetry_matrices)] }
def ReduceMapsSaid : Prop := reduceMapsRow.holds Tryd.pinned (OpenSpec.ofChange reduceMapsSpec)

/-- ITS FALSE NEIGHBOUR: 'it returns false'. Refute it at one input. -/
def reduceMapsWrong : ChangeSpec := { name := "reduceMaps", fn := fun _ => fun
  | [d1, d2, d3] => { results := [.lit (.bool false)], args := [d1, d2, d3] }
  | _ => none }
def ReduceMapsWrongFalsely : Prop := reduceMapsRow.holds Tryd.pinned (OpenSpec.ofChange reduceMapsWrong)

/-- 'cellularlaw13.ReduceChooses': WHATEVER THE INPUT: true; the input reads as it did. -/
def reduceChoosesSpec : ChangeSpec := { name := "reduceChooses", fn := fun _ => fun
  | [d1, d2] => { results := [.lit (.bool true)], args := [d1, d2] }
  | _ => none }
def reduceChoosesRow : OpenClaim := { program := "ytojnnfihpiegoaadoor", sum := "f95feb0814bca01cc1a36933c59ed2573b875225cd22ef1beaadaf1606df7dfc", func := "cellular/cellularlaw13.ReduceChooses", spec := "reduceChooses", unfollowed := true, recurses := true, named := ["internal/strconv.uint64pow10", "math/bits.deBruijn32tab", "math/bits.deBruijn64tab", "cellular/symmetry.matrices"], apart := false, laid := [("math/bits.deBruijn32tab", laid_math_bits_deBruijn32tab), ("math/bits.deBruijn64tab", laid_math_bits_deBruijn64tab), ("internal/strconv.uint64pow10", laid_internal_strconv_uint64pow10), ("cellular/symmetry.matrices", laid_cellular_symmetry_matrices)] }
def ReduceChoosesSaid : Prop := reduceChoosesRow.holds Tryd.pinned (OpenSpec.ofChange reduceChoosesSpec)

/-- ITS FALSE NEIGHBOUR: 'it returns false'. Refute it at one input. -/
def reduceChoosesWrong : ChangeSpec := { name := "reduceChooses", fn := fun _ => fun
  | [d1, d2] => { results := [.lit (.bool false)], args := [d1, d2] }
  | _ => none }
def ReduceChoosesWrongFalsely : Prop := reduceChoosesRow.holds Tryd.pinned (OpenSpec.ofChange reduceChoosesWrong)

/-- 'cellularlaw13.ReduceTurns': WHATEVER THE INPUT: true; the input reads as it did. -/
def reduceTurnsSpec : ChangeSpec := { name := "reduceTurns", fn := fun _ => fun
  | [d1, d2] => { results := [.lit (.bool true)], args := [d1, d2] }
  | _ => none }
def reduceTurnsRow : OpenClaim := { program := "ytojnnfihpiegoaadoor", sum := "f95feb0814bca01cc1a36933c59ed2573b875225cd22ef1beaadaf1606df7dfc", func := "cellular/cellularlaw13.ReduceTurns", spec := "reduceTurns", unfollowed := true, recurses := true, named := ["internal/strconv.uint64pow10", "math/bits.deBruijn32tab", "math/bits.deBruijn64tab", "cellular/symmetry.matrices"], apart := false, laid := [("math/bits.deBruijn32tab", laid_math_bits_deBruijn32tab), ("math/bits.deBruijn64tab", laid_math_bits_deBruijn64tab), ("internal/strconv.uint64pow10", laid_internal_strconv_uint64pow10), ("cellular/symmetry.matrices", laid_cellular_symmetry_matrices)] }
def ReduceTurnsSaid : Prop := reduceTurnsRow.holds Tryd.pinned (OpenSpec.ofChange reduceTurnsSpec)

/-- ITS FALSE NEIGHBOUR: 'it returns false'. Refute it at one input. -/
def reduceTurnsWrong : ChangeSpec := { name := "reduceTurns", fn := fun _ => fun
  | [d1, d2] => { results := [.lit (.bool false)], args := [d1, d2] }
  | _ => none }
def ReduceTurnsWrongFalsely : Prop := reduceTurnsRow.holds Tryd.pinned (OpenSpec.ofChange reduceTurnsWrong)

/-- 'cellularlaw13.ReduceSmall': WHATEVER THE INPUT: true; the input reads as it did. -/
def reduceSmallSpec : ChangeSpec := { name := "reduceSmall", fn := fun _ => fun
  | [d1, d2] => { results := [.lit (.bool true)], args := [d1, d2] }
  | _ => none }
def reduceSmallRow : OpenClaim := { program := "ytojnnfihpiegoaadoor", sum := "f95feb0814bca01cc1a36933c59ed2573b875225cd22ef1beaadaf1606df7dfc", func := "cellular/cellularlaw13.ReduceSmall", spec := "reduceSmall", unfollowed := true, recurses := true, named := ["internal/strconv.uint64pow10", "math/bits.deBruijn32tab", "math/bits.deBruijn64tab", "cellular/symmetry.matrices"], apart := false, laid := [("math/bits.deBruijn32tab", laid_math_bits_deBruijn32tab), ("math/bits.deBruijn64tab", laid_math_bits_deBruijn64tab), ("internal/strconv.uint64pow10", laid_internal_strconv_uint64pow10), ("cellular/symmetry.matrices", laid_cellular_symmetry_matrices)] }
def ReduceSmallSaid : Prop := reduceSmallRow.holds Tryd.pinned (OpenSpec.ofChange reduceSmallSpec)

/-- ITS FALSE NEIGHBOUR: 'it returns false'. Refute it at one input. -/
def reduceSmallWrong : ChangeSpec := { name := "reduceSmall", fn := fun _ => fun
  | [d1, d2] => { results := [.lit (.bool false)], args := [d1, d2] }
  | _ => none }
def ReduceSmallWrongFalsely : Prop := reduceSmallRow.holds Tryd.pinned (OpenSpec.ofChange reduceSmallWrong)

/-- 'cellularlaw13.ReduceTurned': WHATEVER THE INPUT: true; the input reads as it did. -/
def reduceTurnedSpec : ChangeSpec := { name := "reduceTurned", fn := fun _ => fun
  | [d1, d2, d3] => { results := [.lit (.bool true)], args := [d1, d2, d3] }
  | _ => none }
def reduceTurnedRow : OpenClaim := { program := "ytojnnfihpiegoaadoor", sum := "f95feb0814bca01cc1a36933c59ed2573b875225cd22ef1beaadaf1606df7dfc", func := "cellular/cellularlaw13.ReduceTurned", spec := "reduceTurned", unfollowed := true, recurses := true, named := ["internal/strconv.uint64pow10", "math/bits.deBruijn32tab", "math/bits.deBruijn64tab", "cellular/symmetry.matrices"], apart := false, laid := [("math/bits.deBruijn32tab", laid_math_bits_deBruijn32tab), ("math/bits.deBruijn64tab", laid_math_bits_deBruijn64tab), ("internal/strconv.uint64pow10", laid_internal_strconv_uint64pow10), ("cellular/symmetry.matrices", laid_cellular_symmetry_matrices)] }
def ReduceTurnedSaid : Prop := reduceTurnedRow.holds Tryd.pinned (OpenSpec.ofChange reduceTurnedSpec)

/-- ITS FALSE NEIGHBOUR: 'it returns false'. Refute it at one input. -/
def reduceTurnedWrong : ChangeSpec := { name := "reduceTurned", fn := fun _ => fun
  | [d1, d2, d3] => { results := [.lit (.bool false)], args := [d1, d2, d3] }
  | _ => none }
def ReduceTurnedWrongFalsely : Prop := reduceTurnedRow.holds Tryd.pinned (OpenSpec.ofChange reduceTurnedWrong)

/- THE SECOND FORM. 'bulk': how many values and letters a reading holds, each counted each time it is reached (what is shared counts as often as it is met; a slice's spare places count too). A statement '..UptoSaid' is the law's where the arguments, and the package variables that the reading takes, are together of bulk at most 1048576: NARROWER than '..Said'. Prove '..Said' where nothing that the law and all that it calls make is longer than what came in: it says more and counts as full. Else prove '..UptoSaid'. A law counts once. -/
mutual
def uptoBulk {H : Type} : DataW H → Nat
  | .lit (.string bytes) => bytes.length + 1
  | .lit _ => 1
  | .nil => 1
  | .ptr d => uptoBulk d + 1
  | .slice elems spare => uptoBulkAll elems + uptoBulkAll spare + 1
  | .agg parts => uptoBulkAll parts + 1
  | .iface _ d => uptoBulk d + 1
  | .map entries => uptoBulkEntries entries + 1
  | .held _ => 1
def uptoBulkAll {H : Type} : List (DataW H) → Nat
  | [] => 0
  | d :: r => uptoBulk d + uptoBulkAll r
def uptoBulkEntries {H : Type} : List (Lit × DataW H) → Nat
  | [] => 0
  | x :: r => uptoBulkEntry x + uptoBulkEntries r
def uptoBulkEntry {H : Type} : Lit × DataW H → Nat
  | (.string bytes, d) => bytes.length + uptoBulk d + 1
  | (_, d) => uptoBulk d + 1
 end
def uptoSmall : (H : Type) → List (DataW H) → Bool := fun _ ds => decide (uptoBulkAll ds ≤ 1048576)
def OpenSpec.upto (s : _root_.Go.ChangeSpec) : _root_.Go.OpenSpec := { _root_.Go.OpenSpec.ofChange s with cond := some uptoSmall }

/-- 'cellularlaw13.ReduceTrees', WHERE WHAT IT READS IS OF BULK AT MOST 1048576: true; the input reads as it did. -/
def reduceTreesUptoRow : OpenClaim := { program := "ytojnnfihpiegoaadoor", sum := "f95feb0814bca01cc1a36933c59ed2573b875225cd22ef1beaadaf1606df7dfc", func := "cellular/cellularlaw13.ReduceTrees", spec := "reduceTrees", unfollowed := true, recurses := true, named := ["internal/strconv.uint64pow10", "math/bits.deBruijn32tab", "math/bits.deBruijn64tab", "cellular/symmetry.matrices"], apart := false, laid := [("math/bits.deBruijn32tab", laid_math_bits_deBruijn32tab), ("math/bits.deBruijn64tab", laid_math_bits_deBruijn64tab), ("internal/strconv.uint64pow10", laid_internal_strconv_uint64pow10), ("cellular/symmetry.matrices", laid_cellular_symmetry_matrices)], narrowed := true }
def ReduceTreesUptoSaid : Prop := reduceTreesUptoRow.holds Tryd.pinned (OpenSpec.upto reduceTreesSpec)

/-- 'cellularlaw13.ReduceMaps', WHERE WHAT IT READS IS OF BULK AT MOST 1048576: true; the input reads as it did. -/
def reduceMapsUptoRow : OpenClaim := { program := "ytojnnfihpiegoaadoor", sum := "f95feb0814bca01cc1a36933c59ed2573b875225cd22ef1beaadaf1606df7dfc", func := "cellular/cellularlaw13.ReduceMaps", spec := "reduceMaps", unfollowed := true, recurses := true, named := ["internal/strconv.uint64pow10", "math/bits.deBruijn32tab", "math/bits.deBruijn64tab", "cellular/symmetry.matrices"], apart := false, laid := [("math/bits.deBruijn32tab", laid_math_bits_deBruijn32tab), ("math/bits.deBruijn64tab", laid_math_bits_deBruijn64tab), ("internal/strconv.uint64pow10", laid_internal_strconv_uint64pow10), ("cellular/symmetry.matrices", laid_cellular_symmetry_matrices)], narrowed := true }
def ReduceMapsUptoSaid : Prop := reduceMapsUptoRow.holds Tryd.pinned (OpenSpec.upto reduceMapsSpec)

/-- 'cellularlaw13.ReduceChooses', WHERE WHAT IT READS IS OF BULK AT MOST 1048576: true; the input reads as it did. -/
def reduceChoosesUptoRow : OpenClaim := { program := "ytojnnfihpiegoaadoor", sum := "f95feb0814bca01cc1a36933c59ed2573b875225cd22ef1beaadaf1606df7dfc", func := "cellular/cellularlaw13.ReduceChooses", spec := "reduceChooses", unfollowed := true, recurses := true, named := ["internal/strconv.uint64pow10", "math/bits.deBruijn32tab", "math/bits.deBruijn64tab", "cellular/symmetry.matrices"], apart := false, laid := [("math/bits.deBruijn32tab", laid_math_bits_deBruijn32tab), ("math/bits.deBruijn64tab", laid_math_bits_deBruijn64tab), ("internal/strconv.uint64pow10", laid_internal_strconv_uint64pow10), ("cellular/symmetry.matrices", laid_cellular_symmetry_matrices)], narrowed := true }
def ReduceChoosesUptoSaid : Prop := reduceChoosesUptoRow.holds Tryd.pinned (OpenSpec.upto reduceChoosesSpec)

/-- 'cellularlaw13.ReduceTurns', WHERE WHAT IT READS IS OF BULK AT MOST 1048576: true; the input reads as it did. -/
def reduceTurnsUptoRow : OpenClaim := { program := "ytojnnfihpiegoaadoor", sum := "f95feb0814bca01cc1a36933c59ed2573b875225cd22ef1beaadaf1606df7dfc", func := "cellular/cellularlaw13.ReduceTurns", spec := "reduceTurns", unfollowed := true, recurses := true, named := ["internal/strconv.uint64pow10", "math/bits.deBruijn32tab", "math/bits.deBruijn64tab", "cellular/symmetry.matrices"], apart := false, laid := [("math/bits.deBruijn32tab", laid_math_bits_deBruijn32tab), ("math/bits.deBruijn64tab", laid_math_bits_deBruijn64tab), ("internal/strconv.uint64pow10", laid_internal_strconv_uint64pow10), ("cellular/symmetry.matrices", laid_cellular_symmetry_matrices)], narrowed := true }
def ReduceTurnsUptoSaid : Prop := reduceTurnsUptoRow.holds Tryd.pinned (OpenSpec.upto reduceTurnsSpec)

/-- 'cellularlaw13.ReduceSmall', WHERE WHAT IT READS IS OF BULK AT MOST 1048576: true; the input reads as it did. -/
def reduceSmallUptoRow : OpenClaim := { program := "ytojnnfihpiegoaadoor", sum := "f95feb0814bca01cc1a36933c59ed2573b875225cd22ef1beaadaf1606df7dfc", func := "cellular/cellularlaw13.ReduceSmall", spec := "reduceSmall", unfollowed := true, recurses := true, named := ["internal/strconv.uint64pow10", "math/bits.deBruijn32tab", "math/bits.deBruijn64tab", "cellular/symmetry.matrices"], apart := false, laid := [("math/bits.deBruijn32tab", laid_math_bits_deBruijn32tab), ("math/bits.deBruijn64tab", laid_math_bits_deBruijn64tab), ("internal/strconv.uint64pow10", laid_internal_strconv_uint64pow10), ("cellular/symmetry.matrices", laid_cellular_symmetry_matrices)], narrowed := true }
def ReduceSmallUptoSaid : Prop := reduceSmallUptoRow.holds Tryd.pinned (OpenSpec.upto reduceSmallSpec)

/-- 'cellularlaw13.ReduceTurned', WHERE WHAT IT READS IS OF BULK AT MOST 1048576: true; the input reads as it did. -/
def reduceTurnedUptoRow : OpenClaim := { program := "ytojnnfihpiegoaadoor", sum := "f95feb0814bca01cc1a36933c59ed2573b875225cd22ef1beaadaf1606df7dfc", func := "cellular/cellularlaw13.ReduceTurned", spec := "reduceTurned", unfollowed := true, recurses := true, named := ["internal/strconv.uint64pow10", "math/bits.deBruijn32tab", "math/bits.deBruijn64tab", "cellular/symmetry.matrices"], apart := false, laid := [("math/bits.deBruijn32tab", laid_math_bits_deBruijn32tab), ("math/bits.deBruijn64tab", laid_math_bits_deBruijn64tab), ("internal/strconv.uint64pow10", laid_internal_strconv_uint64pow10), ("cellular/symmetry.matrices", laid_cellular_symmetry_matrices)], narrowed := true }
def ReduceTurnedUptoSaid : Prop := reduceTurnedUptoRow.holds Tryd.pinned (OpenSpec.upto reduceTurnedSpec)

end Rows
end Go.Proofs.YtojnnfihpiegoaaDoor
