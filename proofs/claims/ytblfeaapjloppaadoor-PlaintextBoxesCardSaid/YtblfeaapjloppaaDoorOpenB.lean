/-
  A box as an argument.
-/
import Derived.Test.YtblfeaapjloppaaDoorOpenC
import Derived.Test.YtblfeaapjloppaaDoorBox
namespace Go.Proofs.YtblfeaapjloppaaDoor
open Go.ChangeShapes Go.WideShapes Go.ChangeAt Go.RowKit Go.Deep
set_option maxRecDepth 100000
set_option linter.unusedVariables false

theorem Tryd.cellsBx : Tryd.prog.cellsOf 37 = 4 := by kernel_rfl
section
variable {H : Type} {enc : TypeId × Value → H} {W : World}
theorem open_BxArg {r : Reach} {b0 : Nat} {v : Value} {d : DataW H} {p : List MemPlace} (hv : Value.okWide Tryd.prog W r b0 37 v) (h : DataW.Trod enc Tryd.prog W 0 (fun _ => true) true 37 v d p) :
    ∃ b : Bx, v = bxV b := by
  obtain ⟨cs, rfl, hsz⟩ := okWide_struct Tryd.underlying37 hv
  rw [Tryd.cellsBx] at hsz
  obtain ⟨l⟩ := cs
  obtain ⟨fuel, hf⟩ := h
  match l, hsz with
  | [v0, v1, v2, v3], _ =>
    obtain ⟨xs, k2, hk, hxy, _, hxl, hf⟩ := DataW.trod_struct Tryd.underlying37 hf
    match xs, hxl with
    | [y0, y1, y2, y3], _ =>
      have g0 := hf 0 _ rfl
      have g1 := hf 1 _ rfl
      have g2 := hf 2 _ rfl
      have g3 := hf 3 _ rfl
      simp [Tryd.cellsInt, Value.cells] at g0 g1 g2 g3
      obtain ⟨p, r0, -, -⟩ := DataW.trod_int Tryd.underlying3 g0
      obtain ⟨q, r1, -, -⟩ := DataW.trod_int Tryd.underlying3 g1
      obtain ⟨r, r2, -, -⟩ := DataW.trod_int Tryd.underlying3 g2
      obtain ⟨s, r3, -, -⟩ := DataW.trod_int Tryd.underlying3 g3
      injection r0 with r0
      injection r1 with r1
      injection r2 with r2
      injection r3 with r3
      subst r0 r1 r2 r3
      exact ⟨⟨p, q, r, s⟩, rfl⟩
end
end Go.Proofs.YtblfeaapjloppaaDoor
