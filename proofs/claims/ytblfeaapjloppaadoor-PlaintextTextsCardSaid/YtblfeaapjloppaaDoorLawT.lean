/-
  cellularlaw31.PlaintextTexts: the walk. No condition.
-/
import Derived.Test.YtblfeaapjloppaaDoorAwake
import Derived.Test.YtblfeaapjloppaaDoorTxR
namespace Go.Proofs.YtblfeaapjloppaaDoor
open Go.RowKit
set_option maxRecDepth 100000
set_option linter.unusedVariables false
set_option linter.unusedSimpArgs false

set_option maxHeartbeats 4000000 in
theorem lawT_any (A : Option Addr) (c : Nat) (ps : List Cel) (w : World) (ha : Cls w A ps) :
    Calls Tryd.prog 4 #[.slice A ps.length c] w fun e w' => e = .returned (.bool true) ∧ Below w.heap.size w w' := by
  have hn := ha.le
  by_cases hp : 300 < ps.length
  · have d1 : decide ((300 : Int) < (ps.length : Int)) = true := decide_eq_true (by omega)
    have HA := Lib.hid (awake_any w)
    clear ha
    go_enter Tryd.func4, Tryd.ntmps4
    go_wp2_with fail
    refine HA.out.mono ?_
    rintro e w4 ⟨rfl, hb4⟩
    have HB4 := Lib.hid hb4
    clear hb4
    go_wp2
    go_ret
    exact ⟨rfl, HB4.out⟩
  · have d1 : decide ((300 : Int) < (ps.length : Int)) = false := decide_eq_false (by omega)
    have T1 := Lib.hid (text_any A c ps w ha)
    have T2 : Hid (∀ W, Below w.heap.size w W → Calls Tryd.prog 13 #[.slice A ps.length c] W (RetText (textT ps) W)) := Lib.hid (fun W hb => rtext_any A c ps W (ha.ext hb))
    obtain ⟨r, hr⟩ : ∃ r, r = textT ps := ⟨_, rfl⟩
    rw [← hr] at T1 T2
    clear hr ha
    obtain ⟨t1, e1⟩ := r
    unfold RetText at T1 T2
    dsimp only at T1 T2
    go_enter Tryd.func4, Tryd.ntmps4
    go_wp2_with fail
    refine T1.out.mono ?_
    rintro e w1 ⟨rfl, hb1⟩
    have HB1 := Lib.hid hb1
    clear hb1
    have U2 := Lib.hid (T2.out w1 HB1.out)
    go_wp2_with fail
    refine U2.out.mono ?_
    rintro e w2 ⟨rfl, hb2⟩
    have HB2 := Lib.hid (HB1.out.trans (hb2.mono HB1.out.size))
    clear hb2
    have HA := Lib.hid (awake_any w2)
    go_wp2_with fail
    refine HA.out.mono ?_
    rintro e w3 ⟨rfl, hb3⟩
    have HB3 := Lib.hid (HB2.out.trans (hb3.mono HB2.out.size))
    clear hb3
    go_wp2
    go_ret
    exact ⟨rfl, HB3.out⟩
end Go.Proofs.YtblfeaapjloppaaDoor
