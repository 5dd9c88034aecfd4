/-
  cellularlaw09.GenerationsParses: the walk. No condition but that the package's variable is there.
-/
import Derived.Test.YtaofninfjdepfaaDoorLaw0
namespace Go.Proofs.YtaofninfjdepfaaDoor
open Go.RowKit
set_option maxRecDepth 100000
set_option linter.unusedVariables false
set_option linter.unusedSimpArgs false

set_option maxHeartbeats 4000000 in
theorem lawP_any (s : ByteArray) (w : World) (hg : Glob w) :
    Calls Tryd.prog 3 #[.string s] w fun e w' => e = .returned (.bool true) ∧ Below w.heap.size w w' := by
  have HG := Lib.hid hg
  have HB := Lib.hid (Below.refl w.heap.size w)
  clear hg
  have hlen : s.data.toList.length = s.size := (Lib.size_eq s).symm
  obtain ⟨u, er, hr⟩ : ∃ u er, parseG s.data.toList = (u, er) := ⟨_, _, rfl⟩
  by_cases hs : s.size ≤ 200
  · have d1 : decide ((200 : Int) < (s.size : Int)) = false := by simp; omega
    have d2 : (er == er) = true := by simp
    have HP := Lib.hid (fun W hW => gparse_any s W hW (by omega))
    have HQ := Lib.hid (fun W => rparse_any s W (by omega))
    rw [hr] at HP
    rw [← parse_eq, hr] at HQ
    clear hr hlen
    go_enter Tryd.func3, Tryd.ntmps3
    go_wp2_with fail
    refine (HP.out _ HG.out).mono ?_
    rintro e w1 ⟨Ap, ap, Bp, bp, Cp, cp, rfl, htp, hb⟩
    dsimp only [totV]
    have X3 := Lib.hid (Box.new htp ap bp cp)
    have HGn := Lib.hid ((HG.out.ext hb).ext (below_new w1 (.cells #[.slice Ap u.hood.length ap, .int .i64 u.states, .slice Bp u.birth.length bp, .slice Cp u.survive.length cp] 26)))
    clear HG
    have HG := HGn
    clear HGn
    have HBn := Lib.hid (Below.alloc (HB.out.trans (hb.mono HB.out.size)) (HB.out.trans (hb.mono HB.out.size)).size (.cells #[.slice Ap u.hood.length ap, .int .i64 u.states, .slice Bp u.birth.length bp, .slice Cp u.survive.length cp] 26))
    clear HB htp hb
    have HB := HBn
    clear HBn
    go_wp2_with fail
    refine (HQ.out _).mono ?_
    rintro e w2 ⟨Aq, aq, Bq, bq, Cq, cq, rfl, htq, hb⟩
    dsimp only [totV]
    have X3n := Lib.hid ((X3.out.ext hb).alloc (.cells #[.slice Aq u.hood.length aq, .int .i64 u.states, .slice Bq u.birth.length bq, .slice Cq u.survive.length cq] 26))
    clear X3
    have X3 := X3n
    clear X3n
    have X5 := Lib.hid (Box.new htq aq bq cq)
    have HGn := Lib.hid ((HG.out.ext hb).ext (below_new w2 (.cells #[.slice Aq u.hood.length aq, .int .i64 u.states, .slice Bq u.birth.length bq, .slice Cq u.survive.length cq] 26)))
    clear HG
    have HG := HGn
    clear HGn
    have HBn := Lib.hid (Below.alloc (HB.out.trans (hb.mono HB.out.size)) (HB.out.trans (hb.mono HB.out.size)).size (.cells #[.slice Aq u.hood.length aq, .int .i64 u.states, .slice Bq u.birth.length bq, .slice Cq u.survive.length cq] 26))
    clear HB htq hb
    have HB := HBn
    clear HBn
    have HM := Lib.hid (rsame_any Ap Bp Cp Aq Bq Cq ap bp cp aq bq cq u u _ X3.out.tot X5.out.tot)
    rw [sameT_refl] at HM
    unfold totV at HM
    have x3f0 := X3.out.c0
    have x3f1 := X3.out.c1
    have x3f2 := X3.out.c2
    have x3f3 := X3.out.c3
    have x5f0 := X5.out.c0
    have x5f1 := X5.out.c1
    have x5f2 := X5.out.c2
    have x5f3 := X5.out.c3
    go_wp2_with fail
    refine (HM.out).mono ?_
    rintro e w3 ⟨rfl, hb⟩
    clear x3f0 x3f1 x3f2 x3f3 x5f0 x5f1 x5f2 x5f3
    have X3n := Lib.hid (X3.out.ext hb)
    clear X3
    have X3 := X3n
    clear X3n
    have X5n := Lib.hid (X5.out.ext hb)
    clear X5
    have X5 := X5n
    clear X5n
    have HGn := Lib.hid (HG.out.ext hb)
    clear HG
    have HG := HGn
    clear HGn
    have HBn := Lib.hid (HB.out.trans (hb.mono HB.out.size))
    clear HB hb
    have HB := HBn
    clear HBn
    clear HM
    go_wp2_with fail
    refine (awake_any _ HG.out).mono ?_
    rintro e w4 ⟨rfl, hb⟩
    have X3n := Lib.hid (X3.out.ext hb)
    clear X3
    have X3 := X3n
    clear X3n
    have X5n := Lib.hid (X5.out.ext hb)
    clear X5
    have X5 := X5n
    clear X5n
    have HGn := Lib.hid (HG.out.ext hb)
    clear HG
    have HG := HGn
    clear HGn
    have HBn := Lib.hid (HB.out.trans (hb.mono HB.out.size))
    clear HB hb
    have HB := HBn
    clear HBn
    go_wp2_with fail
    go_ret
    exact ⟨rfl, HB.out⟩
  · have d1 : decide ((200 : Int) < (s.size : Int)) = true := by simp; omega
    clear hr hlen
    go_enter Tryd.func3, Tryd.ntmps3
    go_wp2_with fail
    refine (awake_any _ HG.out).mono ?_
    rintro e w1 ⟨rfl, hb⟩
    have HGn := Lib.hid (HG.out.ext hb)
    clear HG
    have HG := HGn
    clear HGn
    have HBn := Lib.hid (HB.out.trans (hb.mono HB.out.size))
    clear HB hb
    have HB := HBn
    clear HBn
    go_wp2_with fail
    go_ret
    exact ⟨rfl, HB.out⟩
end Go.Proofs.YtaofninfjdepfaaDoor
