/-
  What the walks of chapter 09's laws share. No condition.
-/
import Derived.Test.YtaofninfjdepfaaDoorAwake
import Derived.Test.YtaofninfjdepfaaDoorTextQ
import Derived.Test.YtaofninfjdepfaaDoorGram
import Derived.Test.YtaofninfjdepfaaDoorPlainD
import Derived.Lib.QuietBelow
namespace Go.Proofs.YtaofninfjdepfaaDoor
open Go.RowKit
set_option maxRecDepth 100000
set_option linter.unusedVariables false
set_option linter.unusedSimpArgs false

theorem sameT_refl (t : TotL) : sameT t t = true := by simp [sameT]
theorem few_box {A B C : Option Addr} {a b c : Nat} {t : TotL} {g : Nat} {w : World} (X : Box w g A a B b C c t) (s : Bool) (hs : fewT t = s) :
    Calls Tryd.prog 13 #[.agg #[.slice A t.hood.length a, .int .i64 t.states, .slice B t.birth.length b, .slice C t.survive.length c]] w fun e w' => e = .returned (.bool s) ∧ Below w.heap.size w w' :=
  few_any A B C a b c t w X.tot s hs
end Go.Proofs.YtaofninfjdepfaaDoor
