/-
  cellularlaw09.GenerationsNext: the walk. No condition but that the package's variable is there.
-/
import Derived.Test.YtaofninfjdepfaaDoorLaw0
namespace Go.Proofs.YtaofninfjdepfaaDoor
open Go.RowKit
set_option maxRecDepth 100000
set_option linter.unusedVariables false
set_option linter.unusedSimpArgs false

set_option maxHeartbeats 4000000 in
theorem lawN_any (A B C : Option Addr) (a b c : Nat) (t : TotL) (s n : Int) (w : World) (hg : Glob w) (ht : TotR w A B C t) :
    Calls Tryd.prog 5 #[totV A a B b C c t, .int .i64 s, .int .i64 n] w fun e w' => e = .returned (.bool true) ∧ Below w.heap.size w w' := by
  have hb0 := below_new w (.cells #[.slice A t.hood.length a, .int .i64 t.states, .slice B t.birth.length b, .slice C t.survive.length c] 26)
  have X1 := Lib.hid (Box.new ht a b c)
  have HB := Lib.hid hb0
  have HG := Lib.hid (hg.ext hb0)
  clear hb0 ht hg
  unfold totV at *
  cases s2 : fewT t
  · have HS := Lib.hid (few_box X1.out _ s2)
    clear s2
    go_enter Tryd.func5, Tryd.ntmps5
    have x1f0 := X1.out.c0
    have x1f1 := X1.out.c1
    have x1f2 := X1.out.c2
    have x1f3 := X1.out.c3
    go_wp2_with fail
    refine (HS.out).mono ?_
    rintro e w1 ⟨rfl, hb⟩
    clear x1f0 x1f1 x1f2 x1f3
    have X1n := Lib.hid (X1.out.ext hb)
    clear X1
    have X1 := X1n
    clear X1n
    have HGn := Lib.hid (HG.out.ext hb)
    clear HG
    have HG := HGn
    clear HGn
    have HBn := Lib.hid (HB.out.trans (hb.mono HB.out.size))
    clear HB hb
    have HB := HBn
    clear HBn
    clear HS
    go_wp2_with fail
    refine (awake_any _ HG.out).mono ?_
    rintro e w2 ⟨rfl, hb⟩
    have X1n := Lib.hid (X1.out.ext hb)
    clear X1
    have X1 := X1n
    clear X1n
    have HGn := Lib.hid (HG.out.ext hb)
    clear HG
    have HG := HGn
    clear HGn
    have HBn := Lib.hid (HB.out.trans (hb.mono HB.out.size))
    clear HB hb
    have HB := HBn
    clear HBn
    go_wp2_with fail
    go_ret
    exact ⟨rfl, HB.out⟩
  · have HS := Lib.hid (few_box X1.out _ s2)
    clear s2
    go_enter Tryd.func5, Tryd.ntmps5
    have x1f0 := X1.out.c0
    have x1f1 := X1.out.c1
    have x1f2 := X1.out.c2
    have x1f3 := X1.out.c3
    go_wp2_with fail
    refine (HS.out).mono ?_
    rintro e w1 ⟨rfl, hb⟩
    clear x1f0 x1f1 x1f2 x1f3
    have X1n := Lib.hid (X1.out.ext hb)
    clear X1
    have X1 := X1n
    clear X1n
    have HGn := Lib.hid (HG.out.ext hb)
    clear HG
    have HG := HGn
    clear HGn
    have HBn := Lib.hid (HB.out.trans (hb.mono HB.out.size))
    clear HB hb
    have HB := HBn
    clear HBn
    clear HS
    have x1k0 := cell_regrown X1.out.c0
    have x1k1 := cell_regrown X1.out.c1
    have x1k2 := cell_regrown X1.out.c2
    have x1k3 := cell_regrown X1.out.c3
    have cT := fun d os => Calls.regrown_of (next_any A B C a b c t s n _ (X1.out.tot.ext (below_regrown _ d os)))
    have cU := fun d os => Calls.regrown_of (rnext_any A B C a b c t s n _ (X1.out.tot.ext (below_regrown _ d os)))
    have cA := fun d os => Calls.regrown_of (awake_any _ (HG.out.ext (below_regrown _ d os)))
    unfold totV at *
    generalize nextT t s n = x at *
    have d1 : (x == x) = true := by simp
    have CT := Lib.hid cT
    have CU := Lib.hid cU
    have CA := Lib.hid cA
    clear cT cU cA
    go_wp2_with fail
    refine wp_region_quiet_below (by kernel_rfl) (by kernel_rfl) ?_
    repeat (go_big_quiet_step (first | with_reducible exact CT.out _ _ | with_reducible exact CU.out _ _ | with_reducible exact CA.out _ _))
    refine wpQuiet_nil ?_
    intro _ hw'
    obtain ⟨⟨dq, osq⟩, hw''⟩ := hw'
    subst hw''
    go_wp2_with fail
    go_ret
    exact ⟨rfl, HB.out.trans ((below_regrown _ dq osq).mono HB.out.size)⟩
end Go.Proofs.YtaofninfjdepfaaDoor
