/-
  cellularlaw30.RleText: the walk. No condition but that the library's variables are there.
-/
import Derived.Test.YtekmldneinnmoaaDoorAwake
import Derived.Test.YtekmldneinnmoaaDoorTxtR
namespace Go.Proofs.YtekmldneinnmoaaDoor
open Go.RowKit
set_option maxRecDepth 100000
set_option linter.unusedVariables false
set_option linter.unusedSimpArgs false

set_option maxHeartbeats 4000000 in
theorem lawT_any (A : Option Addr) (c : Nat) (ps : List Cel) (s : ByteArray) (w : World) (hg : Glob w) (ha : Cls w A ps) :
    Calls Tryd.prog 3 #[.slice A ps.length c, .string s] w fun e w' => e = .returned (.bool true) ∧ Below w.heap.size w w' := by
  have HG := Lib.hid hg
  have HC := Lib.hid ha
  clear hg
  have HAW := Lib.hid (awake_any w HG.out)
  by_cases hp : 800 < ps.length
  · have d1 : decide ((800 : Int) < (ps.length : Int)) = true := decide_eq_true (by omega)
    have hp' : (800 : Int) < (ps.length : Int) := by omega
    clear hp
    go_enter Tryd.func3, Tryd.ntmps3
    go_wp2_with fail
    refine HAW.out.mono ?_
    rintro e w4 ⟨rfl, hb4⟩
    have HB4 := Lib.hid hb4
    clear hb4
    go_wp2
    go_ret
    exact ⟨rfl, HB4.out⟩
  by_cases hs : 200 < s.size
  · have hp' : (ps.length : Int) ≤ 800 := by omega
    have hs' : (200 : Int) < (s.size : Int) := by omega
    clear hp hs
    go_enter Tryd.func3, Tryd.ntmps3
    go_wp2_with fail
    refine HAW.out.mono ?_
    rintro e w4 ⟨rfl, hb4⟩
    have HB4 := Lib.hid hb4
    clear hb4
    go_wp2
    go_ret
    exact ⟨rfl, HB4.out⟩
  have hp' : (ps.length : Int) ≤ 800 := by omega
  have hs' : (s.size : Int) ≤ 200 := by omega
  have hrl : s.data.toList.length ≤ 1000000 := by rw [← Lib.size_eq]; omega
  have T1 : Hid (Calls Tryd.prog 8 #[.slice A ps.length c, .string s] w fun e w' => e = .returned (.tuple #[.string ⟨(textL ps s.data.toList).1.toArray⟩, .int .i64 (textL ps s.data.toList).2]) ∧ Below w.heap.size w w') := Lib.hid (text_any A c ps s.data.toList w HG.out ha hrl)
  have T2 : Hid (∀ W, Below w.heap.size w W → Calls Tryd.prog 9 #[.slice A ps.length c, .string s] W fun e w' => e = .returned (.tuple #[.string ⟨(textL ps s.data.toList).1.toArray⟩, .int .i64 (textL ps s.data.toList).2]) ∧ Below W.heap.size W w') := Lib.hid (fun W hb => rText_any A c ps s.data.toList W (ha.ext hb) hrl)
  have T3 := Lib.hid (fun W (hb : Below w.heap.size w W) => Runs_any A c ps W (ha.ext hb))
  have T4 := Lib.hid (fun W (hb : Below w.heap.size w W) => rRuns_any A c ps W (ha.ext hb))
  unfold RetRuns at T3 T4
  obtain ⟨r, hr⟩ : ∃ r, r = textL ps s.data.toList := ⟨_, rfl⟩
  rw [← hr] at T1 T2
  have HLN := Lib.hid (runs_spec ps).2.1
  obtain ⟨l, hl⟩ : ∃ l, l = runsL ps := ⟨_, rfl⟩
  obtain ⟨er, her⟩ : ∃ er : Int, er = if rightC ps then 0 else 2 := ⟨_, rfl⟩
  rw [← hl] at T3 T4 HLN
  rw [← her] at T3 T4
  clear hr hl her hp hs hrl ha
  obtain ⟨tx1, e1⟩ := r
  dsimp only at T1 T2
  go_enter Tryd.func3, Tryd.ntmps3
  go_wp2_with fail
  refine T1.out.mono ?_
  rintro e w1 ⟨rfl, hb1⟩
  have HB1 := Lib.hid hb1
  clear hb1
  have U2 := Lib.hid (T2.out w1 HB1.out)
  go_wp2_with fail
  refine U2.out.mono ?_
  rintro e w2 ⟨rfl, hb2⟩
  have HB2 := Lib.hid (HB1.out.trans (hb2.mono HB1.out.size))
  clear hb2
  have U3 := Lib.hid (T3.out w2 HB2.out)
  go_wp2_with fail
  refine U3.out.mono ?_
  rintro e w3 ⟨A1, a1, rfl, hp3, -, hb3⟩
  have HB3 := Lib.hid (HB2.out.trans (hb3.mono HB2.out.size))
  have HP3 := Lib.hid hp3
  clear hb3 hp3
  have U4 := Lib.hid (T4.out w3 HB3.out)
  go_wp2_with fail
  refine U4.out.mono ?_
  rintro e w4 ⟨A2, a2, rfl, hp4, -, hb4⟩
  have HB4 := Lib.hid (HB3.out.trans (hb4.mono HB3.out.size))
  have HQ4 := Lib.hid hp4
  have HP4 := Lib.hid (HP3.out.ext hb4)
  clear hb4 hp4
  go_wp2
  go_loopw [13, 52] (fun _ i wr => ∃ k : Nat, k ≤ l.length ∧ i = .int .i64 k ∧ Hid (Below w.heap.size w wr) ∧ Hid (Pts wr A1 l) ∧ Hid (Pts wr A2 l)) (fun _ i _ => l.length - (intOf i).toNat)
  case atStart => exact ⟨0, Nat.zero_le _, rfl, HB4, HP4, HQ4⟩
  case round =>
    clear HB4 HP4 HQ4
    obtain ⟨k, hk, rfl, HB, HP, HQ⟩ := hrel
    have hwk : wrap64 ((k : Int) + 1) = (k : Int) + 1 := by have := HLN.out; unfold wrap64; omega
    by_cases hlt : k < l.length
    · obtain ⟨b1, o1, f1, -, x1, y1⟩ := HP.out.at_ hlt
      obtain ⟨b2, o2, f2, -, x2, y2⟩ := HQ.out.at_ hlt
      subst f1 f2
      have hnq := neq_run
      have heg := guard_run
      go_upto_region 12 with fail
      go_quiet (fail)
      have HB9 := Lib.hid (below_drewN HB.out nq)
      have HP9 := Lib.hid (HP.out.drewN nq)
      have HQ9 := Lib.hid (HQ.out.drewN nq)
      clear x1 x2 y1 y2 hnq heg HB HP HQ
      go_wp2
      go_roundw
      case rel => exact ⟨k + 1, hlt, (by first | rfl | (rw [hwk]; rfl)), HB9, HP9, HQ9⟩
      case measure => first | exact meas_up hlt | (rw [hwk]; exact meas_up hlt)
    · have HA := Lib.hid (awake_any wr (HG.out.ext HB.out))
      go_wp2_with fail
      refine HA.out.mono ?_
      rintro e w5 ⟨rfl, hb5⟩
      have HB5 := Lib.hid (HB.out.trans (hb5.mono HB.out.size))
      clear hb5
      go_wp2
      go_ret
      exact ⟨rfl, HB5.out⟩
end Go.Proofs.YtekmldneinnmoaaDoor
