/-
  Equality of rules by counts: lifelike.Same, cellularref08.Same. No condition.
-/
import Derived.Test.YtaofninfjdepfaaDoorRight
namespace Go.Proofs.YtaofninfjdepfaaDoor
open Go.RowKit
set_option maxRecDepth 100000
set_option linter.unusedVariables false
def sameT (t u : TotL) : Bool := (t.states == u.states) && decide (t.hood = u.hood) && decide (t.birth = u.birth) && decide (t.survive = u.survive)

set_option maxHeartbeats 1600000 in
theorem rsame_any (A B C A' B' C' : Option Addr) (a b c a' b' c' : Nat) (t u : TotL) (w : World) (ht : TotR w A B C t) (hu : TotR w A' B' C' u) :
    Calls Tryd.prog 12 #[totV A a B b C c t, totV A' a' B' b' C' c' u] w fun e w' => e = .returned (.bool (sameT t u)) ∧ Below w.heap.size w w' := by
  unfold sameT totV
  obtain ⟨o1, ho1⟩ : ∃ o1 : Obj, o1 = .cells #[.slice A t.hood.length a, .int .i64 t.states, .slice B t.birth.length b, .slice C t.survive.length c] 26 := ⟨_, rfl⟩
  obtain ⟨o2, ho2⟩ : ∃ o2 : Obj, o2 = .cells #[.slice A' u.hood.length a', .int .i64 u.states, .slice B' u.birth.length b', .slice C' u.survive.length c'] 26 := ⟨_, rfl⟩
  have hb1 := (Below.refl w.heap.size w).alloc (Nat.le_refl _) o1
  have hb0 := hb1.alloc hb1.size o2
  have hbx := (Below.refl (w.alloc o1).heap.size (w.alloc o1)).alloc (Nat.le_refl _) o2
  have hby := Below.refl ((w.alloc o1).alloc o2).heap.size ((w.alloc o1).alloc o2)
  subst ho1 ho2
  have c0 := box_cell hbx 0 _ rfl
  have c1 := box_cell hbx 1 _ rfl
  have c2 := box_cell hbx 2 _ rfl
  have c3 := box_cell hbx 3 _ rfl
  have c0' := box_cell hby 0 _ rfl
  have c1' := box_cell hby 1 _ rfl
  have c2' := box_cell hby 2 _ rfl
  have c3' := box_cell hby 3 _ rfl
  have hsz : (w.alloc (.cells #[.slice A t.hood.length a, .int .i64 t.states, .slice B t.birth.length b, .slice C t.survive.length c] 26)).heap.size = w.heap.size + 1 := by simp
  rw [hsz] at c0' c1' c2' c3'
  have R1 := samePtsR A A' t.hood u.hood a a' _ (ht.hood.ext hb0) (hu.hood.ext hb0)
  have hh := Lib.hid (And.intro (And.intro (ht.birth.ext hb0) (hu.birth.ext hb0)) (And.intro (ht.survive.ext hb0) (hu.survive.ext hb0)))
  have H1 := Lib.hid R1
  clear R1 hb1 hbx hby hsz
  generalize hW : ((w.alloc (.cells #[.slice A t.hood.length a, .int .i64 t.states, .slice B t.birth.length b, .slice C t.survive.length c] 26)).alloc (.cells #[.slice A' u.hood.length a', .int .i64 u.states, .slice B' u.birth.length b', .slice C' u.survive.length c'] 26)) = W at *
  have HW := Lib.hid hW
  clear hW
  cases k1 : (t.states == u.states)
  · go_enter Tryd.func12, Tryd.ntmps12
    go_wp2
    rw [HW.out]
    go_wp2
    go_ret
    exact ⟨ret_bool rfl, hb0⟩
  go_enter Tryd.func12, Tryd.ntmps12
  go_wp2_with fail
  rw [HW.out]
  go_wp2_with fail
  refine H1.out.mono ?_
  rintro e w1 ⟨rfl, q1, rfl⟩
  cases k2 : decide (t.hood = u.hood)
  · go_wp2
    go_ret
    exact ⟨ret_bool (by rw [k2]; rfl), below_drewN hb0 _⟩
  go_wp2_with fail
  refine (sameIntsR B B' t.birth u.birth b b' _ (by exact hh.out.1.1) (by exact hh.out.1.2)).mono ?_
  rintro e w1 ⟨rfl, q2, rfl⟩
  cases k3 : decide (t.birth = u.birth)
  · go_wp2
    go_ret
    exact ⟨ret_bool (by rw [k2, k3]; rfl), below_drewN hb0 _⟩
  go_wp2_with fail
  refine (sameIntsR C C' t.survive u.survive c c' _ (by exact hh.out.2.1) (by exact hh.out.2.2)).mono ?_
  rintro e w1 ⟨rfl, q3, rfl⟩
  go_wp2
  go_ret
  exact ⟨ret_bool (by rw [k2, k3]; simp), below_drewN hb0 _⟩
end Go.Proofs.YtaofninfjdepfaaDoor
