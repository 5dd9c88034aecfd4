/-
  cellularref13.Uses over a tree. No condition.
-/
import Derived.Test.YtojnnfihpiegoaaDoorZCp
import Derived.Test.YtojnnfihpiegoaaDoorZRUses
namespace Go.Proofs.YtojnnfihpiegoaaDoor
open Go.RowKit Go.Maps
set_option maxRecDepth 100000
set_option linter.unusedVariables false
set_option linter.unusedSimpArgs false
section
variable {w w' : World} {t u : PT} {v x : Value} {k s : Int}
theorem ruses_tv (h : TreeAt w v t) (hk : -9223372036854775808 ≤ k ∧ k ≤ 9223372036854775807) : Calls Tryd.prog 17 #[v, .int .i64 k] w fun e w' => e = .returned (.bool (usesP t k)) ∧ Below w.heap.size w w' := by
  obtain ⟨A, c, B, d, os, rfl, h1, h2, h3⟩ := h
  have := ruses_any t.st A c t.ps B d os k w h1 h2 hk
  rw [h3] at this
  exact this
end
end Go.Proofs.YtojnnfihpiegoaaDoor
