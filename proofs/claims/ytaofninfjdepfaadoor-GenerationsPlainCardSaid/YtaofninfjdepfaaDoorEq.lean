/-
  slices.Equal on numbers: it answers whether the lists are equal. No condition but the reach.
-/
import Derived.Test.YtaofninfjdepfaaDoorRows
import Derived.Test.YtaofninfjdepfaaDoorInts
namespace Go.Proofs.YtaofninfjdepfaaDoor
open Go.RowKit
theorem take_eq_snoc {α : Type} {xs ys : List α} {k : Nat} (h : xs.take k = ys.take k) (h1 : k < xs.length) (h2 : k < ys.length) (h3 : xs[k] = ys[k]) : xs.take (k + 1) = ys.take (k + 1) := by
  rw [List.take_succ_eq_append_getElem h1, List.take_succ_eq_append_getElem h2, h, h3]
end Go.Proofs.YtaofninfjdepfaaDoor
