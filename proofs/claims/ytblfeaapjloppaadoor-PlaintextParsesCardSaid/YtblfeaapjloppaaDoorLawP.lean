/-
  cellularlaw31.PlaintextParses: the walk. No condition.
-/
import Derived.Test.YtblfeaapjloppaaDoorAwake
import Derived.Test.YtblfeaapjloppaaDoorParsR
namespace Go.Proofs.YtblfeaapjloppaaDoor
open Go.RowKit
set_option maxRecDepth 100000
set_option linter.unusedVariables false
set_option linter.unusedSimpArgs false

set_option maxHeartbeats 4000000 in
theorem lawP_any (s : ByteArray) (w : World) :
    Calls Tryd.prog 3 #[.string s] w fun e w' => e = .returned (.bool true) ∧ Below w.heap.size w w' := by
  by_cases hs : s.size ≤ 2000
  · have d1 : decide ((2000 : Int) < (s.size : Int)) = false := decide_eq_false (by omega)
    have HP : Hid (∀ W, Calls Tryd.prog 9 #[.string s] W (RetRead (rm s.data.toList ⟨[], 0, 0, false, true⟩) W)) := Lib.hid (fun W => parse_any s W (by omega))
    have HQ : Hid (∀ W, Calls Tryd.prog 10 #[.string s] W (RetRead (rm s.data.toList ⟨[], 0, 0, false, true⟩) W)) := Lib.hid (fun W => rparse_any s W (by omega))
    obtain ⟨r, hr⟩ : ∃ r, r = rm s.data.toList ⟨[], 0, 0, false, true⟩ := ⟨_, rfl⟩
    rw [← hr] at HP HQ
    clear hr hs
    obtain ⟨cs, er⟩ := r
    unfold RetRead at HP HQ
    dsimp only at HP HQ
    have HP1 := Lib.hid (HP.out w)
    go_enter Tryd.func3, Tryd.ntmps3
    go_wp2_with fail
    refine HP1.out.mono ?_
    rintro e w1 ⟨A, a, rfl, hc1, hb1⟩
    have HB1 := Lib.hid hb1
    have HC1 := Lib.hid hc1
    clear hb1 hc1
    have HQ1 := Lib.hid (HQ.out w1)
    go_wp2_with fail
    refine HQ1.out.mono ?_
    rintro e w2 ⟨B, b, rfl, hc2, hb2⟩
    have HB2 := Lib.hid (HB1.out.trans (hb2.mono HB1.out.size))
    have HC3 := Lib.hid (HC1.out.ext hb2)
    have HS : Hid (Calls Tryd.prog 11 #[.slice A cs.length a, .slice B cs.length b] w2 fun e w' => e = .returned (.bool true) ∧ Below w2.heap.size w2 w') := Lib.hid (by
      have h := rsame_any A B a b cs cs w2 HC3.out hc2
      rw [show sameC cs cs = true from by unfold sameC; simp] at h
      exact h)
    clear hb2 hc2
    go_wp2_with fail
    refine HS.out.mono ?_
    rintro e w3 ⟨rfl, hb3⟩
    have HB3 := Lib.hid (HB2.out.trans (hb3.mono HB2.out.size))
    clear hb3
    have HA := Lib.hid (awake_any w3)
    go_wp2_with fail
    refine HA.out.mono ?_
    rintro e w4 ⟨rfl, hb4⟩
    have HB4 := Lib.hid (HB3.out.trans (hb4.mono HB3.out.size))
    clear hb4
    go_wp2
    go_ret
    exact ⟨rfl, HB4.out⟩
  · have d1 : decide ((2000 : Int) < (s.size : Int)) = true := decide_eq_true (by omega)
    have HA := Lib.hid (awake_any w)
    go_enter Tryd.func3, Tryd.ntmps3
    go_wp2_with fail
    refine HA.out.mono ?_
    rintro e w4 ⟨rfl, hb4⟩
    have HB4 := Lib.hid hb4
    clear hb4
    go_wp2
    go_ret
    exact ⟨rfl, HB4.out⟩
end Go.Proofs.YtblfeaapjloppaaDoor
