/-
  cellularlaw08.awake: the chapter's examples hold. No condition but that the package's variables are there.
-/
import Derived.Test.YtnobnlbjgaanmaaComplR
import Derived.Test.YtnobnlbjgaanmaaTextR
import Derived.Test.YtnobnlbjgaanmaaParseR
namespace Go.Proofs.Ytnobnlbjgaanmaa
open Go.RowKit
set_option linter.unusedVariables false
set_option linter.unusedSimpArgs false

/-- a rule's box -/
structure Box (w : World) (g : Nat) (A : Option Addr) (a : Nat) (B : Option Addr) (b : Nat) (C : Option Addr) (c : Nat) (t : TotL) : Prop where
  blk : Blk w g 25 #[.slice A t.hood.length a, .int .i64 t.states, .slice B t.birth.length b, .slice C t.survive.length c]
  tot : TotR w A B C t
section
variable {w w' : World} {g : Nat} {A B C : Option Addr} {a b c : Nat} {t : TotL}
theorem Box.ext (h : Box w g A a B b C c t) (hb : Below w.heap.size w w') : Box w' g A a B b C c t := ⟨h.blk.below hb h.blk.lt, h.tot.ext hb⟩
theorem Box.new (h : TotR w A B C t) (a b c : Nat) : Box (w.alloc (.cells #[.slice A t.hood.length a, .int .i64 t.states, .slice B t.birth.length b, .slice C t.survive.length c] 25)) w.heap.size A a B b C c t :=
  ⟨Blk.new _ _ _, h.ext (below_new _ _)⟩
theorem Box.alloc (h : Box w g A a B b C c t) (o : Obj) : Box (w.alloc o) g A a B b C c t := h.ext (below_new _ _)
theorem Box.c0 (h : Box w g A a B b C c t) : w.cell? ⟨g, 0, none⟩ = some (.slice A t.hood.length a) := h.blk.cell_ 0 _ rfl
theorem Box.c1 (h : Box w g A a B b C c t) : w.cell? ⟨g, 1, none⟩ = some (.int .i64 t.states) := h.blk.cell_ 1 _ rfl
theorem Box.c2 (h : Box w g A a B b C c t) : w.cell? ⟨g, 2, none⟩ = some (.slice B t.birth.length b) := h.blk.cell_ 2 _ rfl
theorem Box.c3 (h : Box w g A a B b C c t) : w.cell? ⟨g, 3, none⟩ = some (.slice C t.survive.length c) := h.blk.cell_ 3 _ rfl
end
theorem ints_new (w : World) (zs : List Int) (h0 : 0 < zs.length) (h1 : zs.length ≤ 9223372036854775807) : Ints (w.alloc (.cells (zs.map (Value.int .i64)).toArray 3)) (some ⟨w.heap.size, 0, none⟩) zs := by
  refine ⟨⟨?_, fun _ => ⟨_, rfl, by simp, fun j v hv => ?_⟩⟩, h1⟩
  · simp
  · rw [addr_add]
    have : (w.alloc (.cells (zs.map (Value.int .i64)).toArray 3)).cell? ⟨w.heap.size, 0 + j, none⟩ = (zs.map (Value.int .i64)).toArray[0 + j]? := cell_of_row _ _ _ _ _ _ (heap_alloc_new w _)
    rw [this]
    simpa using hv
def tA : TotL := ⟨mooreL 1, 2, [3], [2, 3]⟩
def tU : TotL := ⟨hexL, 2, [2], [3, 4]⟩
def tC : TotL := ⟨mooreL 1, 2, [0, 1, 2, 3, 4, 7, 8], [0, 1, 2, 3, 4, 6, 7, 8]⟩
theorem aw1 (w : World) (hg : Glob w) : Calls Try.prog 13 #[.string ⟨#[66, 51, 47, 83, 50, 51]⟩] w (RetTot (tA, 0) w) := by
  have h := parse_any ⟨#[66, 51, 47, 83, 50, 51]⟩ w hg (by decide)
  rwa [show parseL (ByteArray.mk #[66, 51, 47, 83, 50, 51]).data.toList = (tA, 0) from by decide] at h
theorem aw2 (w : World) (hg : Glob w) : Calls Try.prog 13 #[.string ⟨#[66, 50, 47, 83, 51, 52, 72]⟩] w (RetTot (tU, 0) w) := by
  have h := parse_any ⟨#[66, 50, 47, 83, 51, 52, 72]⟩ w hg (by decide)
  rwa [show parseL (ByteArray.mk #[66, 50, 47, 83, 51, 52, 72]).data.toList = (tU, 0) from by decide] at h
theorem aw3 (w : World) (hg : Glob w) : Calls Try.prog 13 #[.string ⟨#[66, 57, 47, 83]⟩] w (RetTot (zeroT, 5) w) := by
  have h := parse_any ⟨#[66, 57, 47, 83]⟩ w hg (by decide)
  rwa [show parseL (ByteArray.mk #[66, 57, 47, 83]).data.toList = (zeroT, 5) from by decide] at h
theorem aw4 (w : World) (hg : Glob w) : Calls Try.prog 13 #[.string ⟨#[98, 51, 47, 115, 50, 51]⟩] w (RetTot (zeroT, 15) w) := by
  have h := parse_any ⟨#[98, 51, 47, 115, 50, 51]⟩ w hg (by decide)
  rwa [show parseL (ByteArray.mk #[98, 51, 47, 115, 50, 51]).data.toList = (zeroT, 15) from by decide] at h
theorem aw5 (w : World) (hg : Glob w) : Calls Try.prog 13 #[.string ⟨#[66, 51, 51, 47, 83]⟩] w (RetTot (zeroT, 15) w) := by
  have h := parse_any ⟨#[66, 51, 51, 47, 83]⟩ w hg (by decide)
  rwa [show parseL (ByteArray.mk #[66, 51, 51, 47, 83]).data.toList = (zeroT, 15) from by decide] at h
theorem aw6 : rightT tA = true := by decide
theorem aw7 : complL tA = (tC, 0) := by decide
theorem aw8 : textL tA = [66, 51, 47, 83, 50, 51] := by decide
theorem aw9 : textL tC = [66, 48, 49, 50, 51, 52, 55, 56, 47, 83, 48, 49, 50, 51, 52, 54, 55, 56] := by decide
theorem aw10 : rightT zeroT = false := by decide
theorem aw11 : sameT tA tA = true := by decide
theorem aw12 : tU.hood.length = 7 := by decide
end Go.Proofs.Ytnobnlbjgaanmaa
