/-
  No cell of these rows narrows 'for every input' (looked for: loops, veiled, ifaces, maps, wideKeys, modest, calm, conditions, laid).
  DERIVED. THE GIVEN ROWS OF THIS SEAT. 4 by the template 'for every input the law returns true; each argument reads behind the call as it read before'; 0 by the template 'total and deterministic' (their statements: YtnobnlbjgaanmaaTotals.lean).
  GIVEN WITH THE SEED: the statements are not yours to turn. If you find one false, say at which input.
  Laid BY PROGRAM, IN A SANDBOX (cutbox-rows.mjs): the forced cells as the released guide's own fill.sh prints them over the translation 382a8e33897c62f8… (all of the seat's roots in one cut). By AI agents, Wed Nov 11 2026. No macro, syntax, notation, axiom, sorry.
-/
import Derived.Test.YtnobnlbjgaanmaaChecked
import GoSem.Claim
import GoSem.ClaimJoined
import GoSem.ClaimMapViews
import Derived.JoinedTies
import Derived.KernelRfl
namespace Go.Proofs.Ytnobnlbjgaanmaa
/- THE CELL 'sum', in the pinned program and in every row, IS THE sha256 OF THE DUMP (.gsa) THAT YtnobnlbjgaanmaaProg.lean LOADS. Nothing in Lean hashes anything: it is a label: what it is worth is what the hold of that sum in a sandbox is worth. -/
noncomputable def Try.pinned : Pinned := { name := "ytnobnlbjgaanmaa", sum := "382a8e33897c62f86485511feb7b9cbe62213b4266aadcf193f620f05f640d4a", checked := Try.checked }
namespace Rows
def none {H : Type} : Left H := { results := [], args := [] }

/-- 'cellularlaw08.LifelikeRight': WHATEVER THE INPUT: true; the input reads as it did. -/
def lifelikeRightSpec : ChangeSpec := { name := "lifelikeRight", fn := fun _ => fun
  | [d1, d2] => { results := [.lit (.bool true)], args := [d1, d2] }
  | _ => none }
def lifelikeRightRow : OpenClaim := { program := "ytnobnlbjgaanmaa", sum := "382a8e33897c62f86485511feb7b9cbe62213b4266aadcf193f620f05f640d4a", func := "cellular/cellularlaw08.LifelikeRight", spec := "lifelikeRight", inPlace := ["internal/bytealg.IndexByteString", "internal/bytealg.IndexString", "internal/abi.NoEscape"], unfollowed := true, recurses := true, named := ["internal/bytealg.MaxLen"], apart := false }
def LifelikeRightSaid : Prop := lifelikeRightRow.holds Try.pinned (OpenSpec.ofChange lifelikeRightSpec)

/-- ITS FALSE NEIGHBOUR: 'it returns false'. Refute it at one input. -/
def lifelikeRightWrong : ChangeSpec := { name := "lifelikeRight", fn := fun _ => fun
  | [d1, d2] => { results := [.lit (.bool false)], args := [d1, d2] }
  | _ => none }
def LifelikeRightWrongFalsely : Prop := lifelikeRightRow.holds Try.pinned (OpenSpec.ofChange lifelikeRightWrong)

/-- 'cellularlaw08.LifelikeParses': WHATEVER THE INPUT: true; the input reads as it did. -/
def lifelikeParsesSpec : ChangeSpec := { name := "lifelikeParses", fn := fun _ => fun
  | [d1, d2] => { results := [.lit (.bool true)], args := [d1, d2] }
  | _ => none }
def lifelikeParsesRow : OpenClaim := { program := "ytnobnlbjgaanmaa", sum := "382a8e33897c62f86485511feb7b9cbe62213b4266aadcf193f620f05f640d4a", func := "cellular/cellularlaw08.LifelikeParses", spec := "lifelikeParses", inPlace := ["internal/bytealg.IndexByteString", "internal/bytealg.IndexString", "internal/abi.NoEscape"], unfollowed := true, recurses := true, named := ["internal/bytealg.MaxLen"], apart := false }
def LifelikeParsesSaid : Prop := lifelikeParsesRow.holds Try.pinned (OpenSpec.ofChange lifelikeParsesSpec)

/-- ITS FALSE NEIGHBOUR: 'it returns false'. Refute it at one input. -/
def lifelikeParsesWrong : ChangeSpec := { name := "lifelikeParses", fn := fun _ => fun
  | [d1, d2] => { results := [.lit (.bool false)], args := [d1, d2] }
  | _ => none }
def LifelikeParsesWrongFalsely : Prop := lifelikeParsesRow.holds Try.pinned (OpenSpec.ofChange lifelikeParsesWrong)

/-- 'cellularlaw08.LifelikeRoundTrip': WHATEVER THE INPUT: true; the input reads as it did. -/
def lifelikeRoundTripSpec : ChangeSpec := { name := "lifelikeRoundTrip", fn := fun _ => fun
  | [d1, d2] => { results := [.lit (.bool true)], args := [d1, d2] }
  | _ => none }
def lifelikeRoundTripRow : OpenClaim := { program := "ytnobnlbjgaanmaa", sum := "382a8e33897c62f86485511feb7b9cbe62213b4266aadcf193f620f05f640d4a", func := "cellular/cellularlaw08.LifelikeRoundTrip", spec := "lifelikeRoundTrip", inPlace := ["internal/bytealg.IndexByteString", "internal/bytealg.IndexString", "internal/abi.NoEscape"], unfollowed := true, recurses := true, named := ["internal/bytealg.MaxLen"], apart := false }
def LifelikeRoundTripSaid : Prop := lifelikeRoundTripRow.holds Try.pinned (OpenSpec.ofChange lifelikeRoundTripSpec)

/-- ITS FALSE NEIGHBOUR: 'it returns false'. Refute it at one input. -/
def lifelikeRoundTripWrong : ChangeSpec := { name := "lifelikeRoundTrip", fn := fun _ => fun
  | [d1, d2] => { results := [.lit (.bool false)], args := [d1, d2] }
  | _ => none }
def LifelikeRoundTripWrongFalsely : Prop := lifelikeRoundTripRow.holds Try.pinned (OpenSpec.ofChange lifelikeRoundTripWrong)

/-- 'cellularlaw08.LifelikeComplement': WHATEVER THE INPUT: true; the input reads as it did. -/
def lifelikeComplementSpec : ChangeSpec := { name := "lifelikeComplement", fn := fun _ => fun
  | [d] => { results := [.lit (.bool true)], args := [d] }
  | _ => none }
def lifelikeComplementRow : OpenClaim := { program := "ytnobnlbjgaanmaa", sum := "382a8e33897c62f86485511feb7b9cbe62213b4266aadcf193f620f05f640d4a", func := "cellular/cellularlaw08.LifelikeComplement", spec := "lifelikeComplement", inPlace := ["internal/bytealg.IndexByteString", "internal/bytealg.IndexString", "internal/abi.NoEscape"], unfollowed := true, recurses := true, named := ["internal/bytealg.MaxLen"], apart := false }
def LifelikeComplementSaid : Prop := lifelikeComplementRow.holds Try.pinned (OpenSpec.ofChange lifelikeComplementSpec)

/-- ITS FALSE NEIGHBOUR: 'it returns false'. Refute it at one input. -/
def lifelikeComplementWrong : ChangeSpec := { name := "lifelikeComplement", fn := fun _ => fun
  | [d] => { results := [.lit (.bool false)], args := [d] }
  | _ => none }
def LifelikeComplementWrongFalsely : Prop := lifelikeComplementRow.holds Try.pinned (OpenSpec.ofChange lifelikeComplementWrong)

/- THE SECOND FORM. 'bulk': how many values and letters a reading holds, each counted each time it is reached (what is shared counts as often as it is met; a slice's spare places count too). A statement '..UptoSaid' is the law's where the arguments, and the package variables that the reading takes, are together of bulk at most 1048576: NARROWER than '..Said'. Prove '..Said' where nothing that the law and all that it calls make is longer than what came in: it says more and counts as full. Else prove '..UptoSaid'. A law counts once. -/
mutual
def uptoBulk {H : Type} : DataW H → Nat
  | .lit (.string bytes) => bytes.length + 1
  | .lit _ => 1
  | .nil => 1
  | .ptr d => uptoBulk d + 1
  | .slice elems spare => uptoBulkAll elems + uptoBulkAll spare + 1
  | .agg parts => uptoBulkAll parts + 1
  | .iface _ d => uptoBulk d + 1
  | .map entries => uptoBulkEntries entries + 1
  | .held _ => 1
def uptoBulkAll {H : Type} : List (DataW H) → Nat
  | [] => 0
  | d :: r => uptoBulk d + uptoBulkAll r
def uptoBulkEntries {H : Type} : List (Lit × DataW H) → Nat
  | [] => 0
  | x :: r => uptoBulkEntry x + uptoBulkEntries r
def uptoBulkEntry {H : Type} : Lit × DataW H → Nat
  | (.string bytes, d) => bytes.length + uptoBulk d + 1
  | (_, d) => uptoBulk d + 1
 end
def uptoSmall : (H : Type) → List (DataW H) → Bool := fun _ ds => decide (uptoBulkAll ds ≤ 1048576)
def OpenSpec.upto (s : _root_.Go.ChangeSpec) : _root_.Go.OpenSpec := { _root_.Go.OpenSpec.ofChange s with cond := some uptoSmall }

/-- 'cellularlaw08.LifelikeRight', WHERE WHAT IT READS IS OF BULK AT MOST 1048576: true; the input reads as it did. -/
def lifelikeRightUptoRow : OpenClaim := { program := "ytnobnlbjgaanmaa", sum := "382a8e33897c62f86485511feb7b9cbe62213b4266aadcf193f620f05f640d4a", func := "cellular/cellularlaw08.LifelikeRight", spec := "lifelikeRight", inPlace := ["internal/bytealg.IndexByteString", "internal/bytealg.IndexString", "internal/abi.NoEscape"], unfollowed := true, recurses := true, named := ["internal/bytealg.MaxLen"], apart := false, narrowed := true }
def LifelikeRightUptoSaid : Prop := lifelikeRightUptoRow.holds Try.pinned (OpenSpec.upto lifelikeRightSpec)

/-- 'cellularlaw08.LifelikeParses', WHERE WHAT IT READS IS OF BULK AT MOST 1048576: true; the input reads as it did. -/
def lifelikeParsesUptoRow : OpenClaim := { program := "ytnobnlbjgaanmaa", sum := "382a8e33897c62f86485511feb7b9cbe62213b4266aadcf193f620f05f640d4a", func := "cellular/cellularlaw08.LifelikeParses", spec := "lifelikeParses", inPlace := ["internal/bytealg.IndexByteString", "internal/bytealg.IndexString", "internal/abi.NoEscape"], unfollowed := true, recurses := true, named := ["internal/bytealg.MaxLen"], apart := false, narrowed := true }
def LifelikeParsesUptoSaid : Prop := lifelikeParsesUptoRow.holds Try.pinned (OpenSpec.upto lifelikeParsesSpec)

/-- 'cellularlaw08.LifelikeRoundTrip', WHERE WHAT IT READS IS OF BULK AT MOST 1048576: true; the input reads as it did. -/
def lifelikeRoundTripUptoRow : OpenClaim := { program := "ytnobnlbjgaanmaa", sum := "382a8e33897c62f86485511feb7b9cbe62213b4266aadcf193f620f05f640d4a", func := "cellular/cellularlaw08.LifelikeRoundTrip", spec := "lifelikeRoundTrip", inPlace := ["internal/bytealg.IndexByteString", "internal/bytealg.IndexString", "internal/abi.NoEscape"], unfollowed := true, recurses := true, named := ["internal/bytealg.MaxLen"], apart := false, narrowed := true }
def LifelikeRoundTripUptoSaid : Prop := lifelikeRoundTripUptoRow.holds Try.pinned (OpenSpec.upto lifelikeRoundTripSpec)

/-- 'cellularlaw08.LifelikeComplement', WHERE WHAT IT READS IS OF BULK AT MOST 1048576: true; the input reads as it did. -/
def lifelikeComplementUptoRow : OpenClaim := { program := "ytnobnlbjgaanmaa", sum := "382a8e33897c62f86485511feb7b9cbe62213b4266aadcf193f620f05f640d4a", func := "cellular/cellularlaw08.LifelikeComplement", spec := "lifelikeComplement", inPlace := ["internal/bytealg.IndexByteString", "internal/bytealg.IndexString", "internal/abi.NoEscape"], unfollowed := true, recurses := true, named := ["internal/bytealg.MaxLen"], apart := false, narrowed := true }
def LifelikeComplementUptoSaid : Prop := lifelikeComplementUptoRow.holds Try.pinned (OpenSpec.upto lifelikeComplementSpec)

end Rows
end Go.Proofs.Ytnobnlbjgaanmaa
