/-
  cellularlaw08.LifelikeRight: the walk. No condition but that the package's variables are there.
-/
import Derived.Test.YtnobnlbjgaanmaaAwake
import Derived.Lib.QuietBelow
namespace Go.Proofs.Ytnobnlbjgaanmaa
open Go.RowKit
set_option linter.unusedVariables false
set_option linter.unusedSimpArgs false

theorem sameT_refl (t : TotL) : sameT t t = true := by simp [sameT]
theorem short_box {A B C : Option Addr} {a b c : Nat} {t : TotL} {g : Nat} {w : World} (X : Box w g A a B b C c t) (s : Bool) (hs : shortT t = s) :
    Calls Try.prog 7 #[.agg #[.slice A t.hood.length a, .int .i64 t.states, .slice B t.birth.length b, .slice C t.survive.length c]] w fun e w' => e = .returned (.bool s) ∧ Below w.heap.size w w' := by
  have h := short_any A B C a b c t w X.tot
  rw [hs] at h
  exact h
set_option maxHeartbeats 4000000 in
theorem law1_any (A B C A' B' C' : Option Addr) (a b c a' b' c' : Nat) (t u : TotL) (w : World) (hg : Glob w) (ht : TotR w A B C t) (hu : TotR w A' B' C' u) :
    Calls Try.prog 3 #[totV A a B b C c t, totV A' a' B' b' C' c' u] w fun e w' => e = .returned (.bool true) ∧ Below w.heap.size w w' := by
  have hb0 := below_new w (.cells #[.slice A t.hood.length a, .int .i64 t.states, .slice B t.birth.length b, .slice C t.survive.length c] 25)
  have X1 := Lib.hid ((Box.new ht a b c).alloc (.cells #[.slice A' u.hood.length a', .int .i64 u.states, .slice B' u.birth.length b', .slice C' u.survive.length c'] 25))
  have hx2 : Box ((w.alloc (.cells #[.slice A t.hood.length a, .int .i64 t.states, .slice B t.birth.length b, .slice C t.survive.length c] 25)).alloc (.cells #[.slice A' u.hood.length a', .int .i64 u.states, .slice B' u.birth.length b', .slice C' u.survive.length c'] 25)) (w.heap.size + 1) A' a' B' b' C' c' u := by
    have := Box.new (hu.ext hb0) a' b' c'
    simpa using this
  have X2 := Lib.hid hx2
  have hb1 := hb0.alloc hb0.size (.cells #[.slice A' u.hood.length a', .int .i64 u.states, .slice B' u.birth.length b', .slice C' u.survive.length c'] 25)
  have HB := Lib.hid hb1
  have HG := Lib.hid (hg.ext hb1)
  clear hb0 hx2 hb1 ht hu hg
  unfold totV at *
  cases s1 : shortT t
  · have HS := Lib.hid (short_box X1.out _ s1)
    have x10 := X1.out.c0
    have x11 := X1.out.c1
    have x12 := X1.out.c2
    have x13 := X1.out.c3
    clear s1
    go_enter Try.func3, Try.ntmps3
    go_wp2_with fail
    refine HS.out.mono ?_
    rintro e w1 ⟨rfl, hb⟩
    have HA := Lib.hid (awake_any w1 (HG.out.ext hb))
    have HB2 := Lib.hid (HB.out.trans (hb.mono HB.out.size))
    clear hb HB HG HS x10 x11 x12 x13 X1 X2
    go_wp2_with fail
    refine HA.out.mono ?_
    rintro e w2 ⟨rfl, hb⟩
    have HB3 := Lib.hid (HB2.out.trans (hb.mono HB2.out.size))
    clear hb HB2 HA
    go_wp2
    go_ret
    exact ⟨rfl, HB3.out⟩
  have HS := Lib.hid (short_box X1.out _ s1)
  have x10 := X1.out.c0
  have x11 := X1.out.c1
  have x12 := X1.out.c2
  have x13 := X1.out.c3
  clear s1
  cases s2 : shortT u
  all_goals
    have S2 := Lib.hid s2
    clear s2
    go_enter Try.func3, Try.ntmps3
    go_wp2_with fail
    refine HS.out.mono ?_
    rintro e w1 ⟨rfl, hb⟩
    have Y1 := Lib.hid (X1.out.ext hb)
    have Y2 := Lib.hid (X2.out.ext hb)
    have HG1 := Lib.hid (HG.out.ext hb)
    have HB2 := Lib.hid (HB.out.trans (hb.mono HB.out.size))
    clear hb HB HG HS x10 x11 x12 x13 X1 X2
    have HS := Lib.hid (short_box Y2.out _ S2.out)
    have x20 := Y2.out.c0
    have x21 := Y2.out.c1
    have x22 := Y2.out.c2
    have x23 := Y2.out.c3
    go_wp2_with fail
    refine HS.out.mono ?_
    rintro e w2 ⟨rfl, hb⟩
    have X1 := Lib.hid (Y1.out.ext hb)
    have X2 := Lib.hid (Y2.out.ext hb)
    have HG2 := Lib.hid (HG1.out.ext hb)
    have HB3 := Lib.hid (HB2.out.trans (hb.mono HB2.out.size))
    clear hb HB2 HG1 HS x20 x21 x22 x23 Y1 Y2 S2
  · have HA := Lib.hid (awake_any w2 HG2.out)
    go_wp2_with fail
    refine HA.out.mono ?_
    rintro e w3 ⟨rfl, hb⟩
    have HB4 := Lib.hid (HB3.out.trans (hb.mono HB3.out.size))
    clear hb HB3 HA
    go_wp2
    go_ret
    exact ⟨rfl, HB4.out⟩
  · have k0 := cell_regrown X1.out.c0
    have k1 := cell_regrown X1.out.c1
    have k2 := cell_regrown X1.out.c2
    have k3 := cell_regrown X1.out.c3
    have j0 := cell_regrown X2.out.c0
    have j1 := cell_regrown X2.out.c1
    have j2 := cell_regrown X2.out.c2
    have j3 := cell_regrown X2.out.c3
    have cR := fun d os => Calls.regrown_of (right_any A B C a b c t _ (X1.out.tot.ext (below_regrown w2 d os)))
    have cQ := fun d os => Calls.regrown_of (rright_any A B C a b c t _ (X1.out.tot.ext (below_regrown w2 d os)))
    have cS := fun d os => Calls.regrown_of (same_any A B C A' B' C' a b c a' b' c' t u _ (X1.out.tot.ext (below_regrown w2 d os)) (X2.out.tot.ext (below_regrown w2 d os)))
    have cT := fun d os => Calls.regrown_of (rsame_any A B C A' B' C' a b c a' b' c' t u _ (X1.out.tot.ext (below_regrown w2 d os)) (X2.out.tot.ext (below_regrown w2 d os)))
    have cU := fun d os => Calls.regrown_of (same_any A B C A B C a b c a b c t t _ (X1.out.tot.ext (below_regrown w2 d os)) (X1.out.tot.ext (below_regrown w2 d os)))
    have cA := fun d os => Calls.regrown_of (awake_any _ (HG2.out.ext (below_regrown w2 d os)))
    rw [sameT_refl] at cU
    generalize sameT t u = q at *
    generalize rightT t = r at *
    unfold totV at *
    have CR := Lib.hid cR
    have CQ := Lib.hid cQ
    have CS := Lib.hid cS
    have CT := Lib.hid cT
    have CU := Lib.hid cU
    have CA := Lib.hid cA
    clear cR cQ cS cT cU cA
    cases q <;> cases r
    all_goals
      go_wp2_with fail
      refine wp_region_quiet_below (by kernel_rfl) (by kernel_rfl) ?_
      repeat (go_big_quiet_step (first | with_reducible exact CR.out _ _ | with_reducible exact CQ.out _ _ | with_reducible exact CS.out _ _ | with_reducible exact CT.out _ _ | with_reducible exact CU.out _ _ | with_reducible exact CA.out _ _))
      refine wpQuiet_nil ?_
      intro _ hw'
      obtain ⟨⟨dq, osq⟩, hw''⟩ := hw'
      subst hw''
      go_wp2
      go_ret
      exact ⟨rfl, HB3.out.trans ((below_regrown w2 dq osq).mono HB3.out.size)⟩
end Go.Proofs.Ytnobnlbjgaanmaa
