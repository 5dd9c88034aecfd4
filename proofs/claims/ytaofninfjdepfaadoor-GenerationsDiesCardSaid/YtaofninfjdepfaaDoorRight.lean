/-
  Rules by counts: lifelike.Right, Same; cellularref08.Right, Same; the law's short. No condition.
-/
import Derived.Test.YtaofninfjdepfaaDoorTot
namespace Go.Proofs.YtaofninfjdepfaaDoor
open Go.RowKit
set_option maxRecDepth 100000
set_option linter.unusedVariables false

set_option maxHeartbeats 800000 in
theorem right_any (A B C : Option Addr) (a b c : Nat) (t : TotL) (w : World) (ht : TotR w A B C t) :
    Calls Tryd.prog 21 #[totV A a B b C c t] w fun e w' => e = .returned (.bool (rightT t)) ∧ Below w.heap.size w w' := by
  unfold rightT totV
  have hb0 := (Below.refl w.heap.size w).alloc (Nat.le_refl _) (.cells #[.slice A t.hood.length a, .int .i64 t.states, .slice B t.birth.length b, .slice C t.survive.length c] 26)
  have HL := Lib.hid (letter_any A t.hood a _ (ht.hood.ext hb0))
  have hn := ht.hood.le
  go_enter Tryd.func21, Tryd.ntmps21
  go_wp2_with fail
  refine HL.out.mono ?_
  rintro e w1 ⟨rfl, hb1⟩
  have hb2 := hb0.trans (hb1.mono hb0.size)
  have c0 := box_cell hb1 0 _ rfl
  have c1 := box_cell hb1 1 _ rfl
  have c2 := box_cell hb1 2 _ rfl
  have c3 := box_cell hb1 3 _ rfl
  have r2 := ascends_any B t.birth b ((t.hood.length : Int) - 1) w1 (ht.birth.ext hb2)
  have r3 := ascends_any C t.survive c ((t.hood.length : Int) - 1) w1 (ht.survive.ext hb2)
  have R := Lib.hid (And.intro r2 r3)
  clear r2 r3 HL hb0 hb1
  cases k1 : knownB t.hood
  · go_wp2
    go_ret
    exact ⟨ret_bool (by rw [k1]; rfl), hb2⟩
  cases k2 : decide (2 ≤ t.states)
  · go_wp2
    go_ret
    exact ⟨ret_bool (by rw [k1, k2]; rfl), hb2⟩
  cases k3 : decide (t.states ≤ 8)
  · go_wp2
    go_ret
    exact ⟨ret_bool (by rw [k1, k2, k3]; rfl), hb2⟩
  go_wp2_with fail
  refine R.out.1.mono ?_
  rintro e w' ⟨rfl, rfl⟩
  cases k4 : asc (-1) ((t.hood.length : Int) - 1) t.birth
  · go_wp2
    go_ret
    exact ⟨ret_bool (by rw [k1, k2, k3, k4]; rfl), hb2⟩
  go_wp2_with fail
  refine R.out.2.mono ?_
  rintro e w' ⟨rfl, rfl⟩
  go_wp2
  go_ret
  exact ⟨ret_bool (by rw [k1, k2, k3, k4]; simp), hb2⟩
set_option maxHeartbeats 800000 in
theorem rright_any (A B C : Option Addr) (a b c : Nat) (t : TotL) (w : World) (ht : TotR w A B C t) :
    Calls Tryd.prog 20 #[totV A a B b C c t] w fun e w' => e = .returned (.bool (rightT t)) ∧ Below w.heap.size w w' := by
  unfold rightT totV
  have hb0 := (Below.refl w.heap.size w).alloc (Nat.le_refl _) (.cells #[.slice A t.hood.length a, .int .i64 t.states, .slice B t.birth.length b, .slice C t.survive.length c] 26)
  have HL := Lib.hid (known_any A t.hood a _ (ht.hood.ext hb0))
  have hn := ht.hood.le
  go_enter Tryd.func20, Tryd.ntmps20
  go_wp2_with fail
  refine HL.out.mono ?_
  rintro e w1 ⟨rfl, hb1⟩
  have hb2 := hb0.trans (hb1.mono hb0.size)
  have c0 := box_cell hb1 0 _ rfl
  have c1 := box_cell hb1 1 _ rfl
  have c2 := box_cell hb1 2 _ rfl
  have c3 := box_cell hb1 3 _ rfl
  have r2 := numbers_any B t.birth b ((t.hood.length : Int) - 1) w1 (ht.birth.ext hb2)
  have R := Lib.hid r2
  clear r2 HL hb0
  cases k1 : knownB t.hood
  · go_wp2
    go_ret
    exact ⟨ret_bool (by rw [k1]; rfl), hb2⟩
  cases k2 : decide (2 ≤ t.states)
  · go_wp2
    go_ret
    exact ⟨ret_bool (by rw [k1, k2]; rfl), hb2⟩
  cases k3 : decide (t.states ≤ 8)
  · go_wp2
    go_ret
    exact ⟨ret_bool (by rw [k1, k2, k3]; rfl), hb2⟩
  go_wp2_with fail
  refine R.out.mono ?_
  rintro e w2 ⟨rfl, hq2⟩
  have hb3 := hb2.trans (hq2.below _)
  have hb1' := hb1.trans (hq2.below _)
  have c0' := box_cell hb1' 0 _ rfl
  have c2' := box_cell hb1' 2 _ rfl
  have c3' := box_cell hb1' 3 _ rfl
  have r3 := numbers_any C t.survive c ((t.hood.length : Int) - 1) w2 (ht.survive.ext hb3)
  have R3 := Lib.hid r3
  clear r3 R c0 c1 c2 c3
  cases k4 : asc (-1) ((t.hood.length : Int) - 1) t.birth
  · go_wp2
    go_ret
    exact ⟨ret_bool (by rw [k1, k2, k3, k4]; rfl), hb3⟩
  go_wp2_with fail
  refine R3.out.mono ?_
  rintro e w3 ⟨rfl, hq3⟩
  go_wp2
  go_ret
  exact ⟨ret_bool (by rw [k1, k2, k3, k4]; simp), hb3.trans (hq3.below _)⟩

end Go.Proofs.YtaofninfjdepfaaDoor
