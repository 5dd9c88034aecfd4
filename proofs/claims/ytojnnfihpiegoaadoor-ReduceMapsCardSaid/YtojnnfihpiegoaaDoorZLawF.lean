/-
  cellularref13.Map and Fix over a tree. No condition.
-/
import Derived.Test.YtojnnfihpiegoaaDoorZCp
import Derived.Test.YtojnnfihpiegoaaDoorZRFix
namespace Go.Proofs.YtojnnfihpiegoaaDoor
open Go.RowKit Go.Maps
set_option maxRecDepth 100000
set_option linter.unusedVariables false
set_option linter.unusedSimpArgs false
section
variable {w w' : World} {t u : PT} {v x : Value} {k s : Int}
theorem rfix_tv (h : TreeAt w v t) : Calls Tryd.prog 21 #[v, .int .i64 k, .int .i64 s] w (RetAE (fixT t k s) w) := by
  obtain ⟨A, c, B, d, os, rfl, h1, h2, h3⟩ := h
  have := rfix_any t.st A c t.ps B d os k s w h1 h2
  rw [h3] at this
  exact this.mono fun _ _ h => h.ae
theorem rmap_tv {At : Option Addr} {ct : Nat} {tz : List Int} (h : TreeAt w v t) (hz : Ints w At tz) : Calls Tryd.prog 19 #[v, .slice At tz.length ct] w (RetAE (mapT t tz) w) := by
  obtain ⟨A, c, B, d, os, rfl, h1, h2, h3⟩ := h
  have := rmap_any t.st A c t.ps B d os At ct tz w h1 h2 hz
  rw [h3] at this
  exact this.mono fun _ _ h => h.ae
end
end Go.Proofs.YtojnnfihpiegoaaDoor
