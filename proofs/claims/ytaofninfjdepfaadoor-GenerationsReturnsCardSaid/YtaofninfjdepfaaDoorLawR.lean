/-
  cellularlaw09.GenerationsReturns: the walk. No condition but that the package's variable is there.
-/
import Derived.Test.YtaofninfjdepfaaDoorLaw0
namespace Go.Proofs.YtaofninfjdepfaaDoor
open Go.RowKit
set_option maxRecDepth 100000
set_option linter.unusedVariables false
set_option linter.unusedSimpArgs false

set_option maxHeartbeats 4000000 in
theorem lawR_any (A B C : Option Addr) (a b c : Nat) (t : TotL) (s : ByteArray) (w : World) (hg : Glob w) (ht : TotR w A B C t) :
    Calls Tryd.prog 6 #[totV A a B b C c t, .string s] w fun e w' => e = .returned (.bool true) ∧ Below w.heap.size w w' := by
  have hb0 := below_new w (.cells #[.slice A t.hood.length a, .int .i64 t.states, .slice B t.birth.length b, .slice C t.survive.length c] 26)
  have X1 := Lib.hid (Box.new ht a b c)
  have HB := Lib.hid hb0
  have HG := Lib.hid (hg.ext hb0)
  clear hb0 ht hg
  unfold totV at *
  have hlen : s.data.toList.length = s.size := (Lib.size_eq s).symm
  cases s2 : fewT t
  · have HS := Lib.hid (few_box X1.out _ s2)
    clear s2
    go_enter Tryd.func6, Tryd.ntmps6
    have x1f0 := X1.out.c0
    have x1f1 := X1.out.c1
    have x1f2 := X1.out.c2
    have x1f3 := X1.out.c3
    go_wp2_with fail
    refine (HS.out).mono ?_
    rintro e w1 ⟨rfl, hb⟩
    clear x1f0 x1f1 x1f2 x1f3
    have X1n := Lib.hid (X1.out.ext hb)
    clear X1
    have X1 := X1n
    clear X1n
    have HGn := Lib.hid (HG.out.ext hb)
    clear HG
    have HG := HGn
    clear HGn
    have HBn := Lib.hid (HB.out.trans (hb.mono HB.out.size))
    clear HB hb
    have HB := HBn
    clear HBn
    clear HS
    go_wp2_with fail
    refine (awake_any _ HG.out).mono ?_
    rintro e w2 ⟨rfl, hb⟩
    have X1n := Lib.hid (X1.out.ext hb)
    clear X1
    have X1 := X1n
    clear X1n
    have HGn := Lib.hid (HG.out.ext hb)
    clear HG
    have HG := HGn
    clear HGn
    have HBn := Lib.hid (HB.out.trans (hb.mono HB.out.size))
    clear HB hb
    have HB := HBn
    clear HBn
    go_wp2_with fail
    go_ret
    exact ⟨rfl, HB.out⟩
  have HS := Lib.hid (few_box X1.out _ s2)
  clear s2
  by_cases hs : s.size ≤ 200
  · have d1 : decide ((200 : Int) < (s.size : Int)) = false := by simp; omega
    have HP := Lib.hid (fun W hW => gparse_any s W hW (by omega))
    obtain ⟨u, er, hr⟩ : ∃ u er, parseG s.data.toList = (u, er) := ⟨_, _, rfl⟩
    have hx := parse_ok s.data.toList
    rw [hr] at HP hx
    have HX := Lib.hid hx
    clear hx hr hlen hs
    have HR0 := Lib.hid (fun W h => rright_any A B C a b c t W h)
    unfold totV at HR0
    obtain ⟨kr, hkr⟩ : ∃ k, k = rightT t := ⟨_, rfl⟩
    rw [← hkr] at HR0
    cases kr
    · clear hkr
      go_enter Tryd.func6, Tryd.ntmps6
      have x1f0 := X1.out.c0
      have x1f1 := X1.out.c1
      have x1f2 := X1.out.c2
      have x1f3 := X1.out.c3
      go_wp2_with fail
      refine (HS.out).mono ?_
      rintro e w1 ⟨rfl, hb⟩
      clear x1f0 x1f1 x1f2 x1f3
      have X1n := Lib.hid (X1.out.ext hb)
      clear X1
      have X1 := X1n
      clear X1n
      have HGn := Lib.hid (HG.out.ext hb)
      clear HG
      have HG := HGn
      clear HGn
      have HBn := Lib.hid (HB.out.trans (hb.mono HB.out.size))
      clear HB hb
      have HB := HBn
      clear HBn
      clear HS
      have x1f0 := X1.out.c0
      have x1f1 := X1.out.c1
      have x1f2 := X1.out.c2
      have x1f3 := X1.out.c3
      go_wp2_with fail
      refine (HR0.out _ X1.out.tot).mono ?_
      rintro e w2 ⟨rfl, hb⟩
      clear x1f0 x1f1 x1f2 x1f3
      have X1n := Lib.hid (X1.out.ext hb)
      clear X1
      have X1 := X1n
      clear X1n
      have HGn := Lib.hid (HG.out.ext hb)
      clear HG
      have HG := HGn
      clear HGn
      have HBn := Lib.hid (HB.out.trans (hb.mono HB.out.size))
      clear HB hb
      have HB := HBn
      clear HBn
      clear HR0
      go_wp2_with fail
      refine (HP.out _ HG.out).mono ?_
      rintro e w3 ⟨Aq, aq, Bq, bq, Cq, cq, rfl, htq, hb⟩
      dsimp only [totV]
      have X1n := Lib.hid ((X1.out.ext hb).alloc (.cells #[.slice Aq u.hood.length aq, .int .i64 u.states, .slice Bq u.birth.length bq, .slice Cq u.survive.length cq] 26))
      clear X1
      have X1 := X1n
      clear X1n
      have X7 := Lib.hid (Box.new htq aq bq cq)
      have HGn := Lib.hid ((HG.out.ext hb).ext (below_new w3 (.cells #[.slice Aq u.hood.length aq, .int .i64 u.states, .slice Bq u.birth.length bq, .slice Cq u.survive.length cq] 26)))
      clear HG
      have HG := HGn
      clear HGn
      have HBn := Lib.hid (Below.alloc (HB.out.trans (hb.mono HB.out.size)) (HB.out.trans (hb.mono HB.out.size)).size (.cells #[.slice Aq u.hood.length aq, .int .i64 u.states, .slice Bq u.birth.length bq, .slice Cq u.survive.length cq] 26))
      clear HB htq hb
      have HB := HBn
      clear HBn
      rcases HX.out with hx | ⟨hx, hx2⟩
      · obtain ⟨g1, g2, g3⟩ := hx
        have TB := text_back g1 g2
        have hul : (textG u).length ≤ 2147483648 := text_short u
        have HV := Lib.hid (fun W hW => parseG_any (textG u) W hW hul)
        rw [TB] at HV
        have HR := Lib.hid (right_any Aq Bq Cq aq bq cq u)
        rw [g1] at HR
        have HT := Lib.hid (gtext_any Aq Bq Cq aq bq cq u _ X7.out.tot)
        clear g1 g2 TB hul HX
        subst g3
        unfold totV at HT HR
        generalize (ByteArray.mk (textG u).toArray) = y at *
        have x7f0 := X7.out.c0
        have x7f1 := X7.out.c1
        have x7f2 := X7.out.c2
        have x7f3 := X7.out.c3
        go_wp2_with fail
        refine (HT.out).mono ?_
        rintro e w4 ⟨rfl, hb⟩
        clear x7f0 x7f1 x7f2 x7f3
        have X1n := Lib.hid (X1.out.ext hb)
        clear X1
        have X1 := X1n
        clear X1n
        have X7n := Lib.hid (X7.out.ext hb)
        clear X7
        have X7 := X7n
        clear X7n
        have HGn := Lib.hid (HG.out.ext hb)
        clear HG
        have HG := HGn
        clear HGn
        have HBn := Lib.hid (HB.out.trans (hb.mono HB.out.size))
        clear HB hb
        have HB := HBn
        clear HBn
        clear HT
        go_wp2_with fail
        refine (HV.out _ HG.out).mono ?_
        rintro e w5 ⟨Ar, ar, Br, br, Cr, cr, rfl, htr, hb⟩
        dsimp only [totV]
        have X1n := Lib.hid ((X1.out.ext hb).alloc (.cells #[.slice Ar u.hood.length ar, .int .i64 u.states, .slice Br u.birth.length br, .slice Cr u.survive.length cr] 26))
        clear X1
        have X1 := X1n
        clear X1n
        have X7n := Lib.hid ((X7.out.ext hb).alloc (.cells #[.slice Ar u.hood.length ar, .int .i64 u.states, .slice Br u.birth.length br, .slice Cr u.survive.length cr] 26))
        clear X7
        have X7 := X7n
        clear X7n
        have X9 := Lib.hid (Box.new htr ar br cr)
        have HGn := Lib.hid ((HG.out.ext hb).ext (below_new w5 (.cells #[.slice Ar u.hood.length ar, .int .i64 u.states, .slice Br u.birth.length br, .slice Cr u.survive.length cr] 26)))
        clear HG
        have HG := HGn
        clear HGn
        have HBn := Lib.hid (Below.alloc (HB.out.trans (hb.mono HB.out.size)) (HB.out.trans (hb.mono HB.out.size)).size (.cells #[.slice Ar u.hood.length ar, .int .i64 u.states, .slice Br u.birth.length br, .slice Cr u.survive.length cr] 26))
        clear HB htr hb
        have HB := HBn
        clear HBn
        have HM := Lib.hid (rsame_any Aq Bq Cq Ar Br Cr aq bq cq ar br cr u u _ X7.out.tot X9.out.tot)
        rw [sameT_refl] at HM
        unfold totV at HM
        have x7f0 := X7.out.c0
        have x7f1 := X7.out.c1
        have x7f2 := X7.out.c2
        have x7f3 := X7.out.c3
        have x9f0 := X9.out.c0
        have x9f1 := X9.out.c1
        have x9f2 := X9.out.c2
        have x9f3 := X9.out.c3
        go_wp2_with fail
        refine (HM.out).mono ?_
        rintro e w6 ⟨rfl, hb⟩
        clear x7f0 x7f1 x7f2 x7f3 x9f0 x9f1 x9f2 x9f3
        have X1n := Lib.hid (X1.out.ext hb)
        clear X1
        have X1 := X1n
        clear X1n
        have X7n := Lib.hid (X7.out.ext hb)
        clear X7
        have X7 := X7n
        clear X7n
        have X9n := Lib.hid (X9.out.ext hb)
        clear X9
        have X9 := X9n
        clear X9n
        have HGn := Lib.hid (HG.out.ext hb)
        clear HG
        have HG := HGn
        clear HGn
        have HBn := Lib.hid (HB.out.trans (hb.mono HB.out.size))
        clear HB hb
        have HB := HBn
        clear HBn
        clear HM
        have x7f0 := X7.out.c0
        have x7f1 := X7.out.c1
        have x7f2 := X7.out.c2
        have x7f3 := X7.out.c3
        go_wp2_with fail
        refine (HR.out _ X7.out.tot).mono ?_
        rintro e w7 ⟨rfl, hb⟩
        clear x7f0 x7f1 x7f2 x7f3
        have X1n := Lib.hid (X1.out.ext hb)
        clear X1
        have X1 := X1n
        clear X1n
        have X7n := Lib.hid (X7.out.ext hb)
        clear X7
        have X7 := X7n
        clear X7n
        have X9n := Lib.hid (X9.out.ext hb)
        clear X9
        have X9 := X9n
        clear X9n
        have HGn := Lib.hid (HG.out.ext hb)
        clear HG
        have HG := HGn
        clear HGn
        have HBn := Lib.hid (HB.out.trans (hb.mono HB.out.size))
        clear HB hb
        have HB := HBn
        clear HBn
        clear HR
        go_wp2_with fail
        refine (awake_any _ HG.out).mono ?_
        rintro e w8 ⟨rfl, hb⟩
        have X1n := Lib.hid (X1.out.ext hb)
        clear X1
        have X1 := X1n
        clear X1n
        have X7n := Lib.hid (X7.out.ext hb)
        clear X7
        have X7 := X7n
        clear X7n
        have X9n := Lib.hid (X9.out.ext hb)
        clear X9
        have X9 := X9n
        clear X9n
        have HGn := Lib.hid (HG.out.ext hb)
        clear HG
        have HG := HGn
        clear HGn
        have HBn := Lib.hid (HB.out.trans (hb.mono HB.out.size))
        clear HB hb
        have HB := HBn
        clear HBn
        go_wp2_with fail
        go_ret
        exact ⟨rfl, HB.out⟩
      · clear hx HX
        rcases hx2 with hx2 | hx2
        · subst hx2
          go_wp2_with fail
          refine (awake_any _ HG.out).mono ?_
          rintro e w4 ⟨rfl, hb⟩
          have X1n := Lib.hid (X1.out.ext hb)
          clear X1
          have X1 := X1n
          clear X1n
          have X7n := Lib.hid (X7.out.ext hb)
          clear X7
          have X7 := X7n
          clear X7n
          have HGn := Lib.hid (HG.out.ext hb)
          clear HG
          have HG := HGn
          clear HGn
          have HBn := Lib.hid (HB.out.trans (hb.mono HB.out.size))
          clear HB hb
          have HB := HBn
          clear HBn
          go_wp2_with fail
          go_ret
          exact ⟨rfl, HB.out⟩
        · subst hx2
          go_wp2_with fail
          refine (awake_any _ HG.out).mono ?_
          rintro e w4 ⟨rfl, hb⟩
          have X1n := Lib.hid (X1.out.ext hb)
          clear X1
          have X1 := X1n
          clear X1n
          have X7n := Lib.hid (X7.out.ext hb)
          clear X7
          have X7 := X7n
          clear X7n
          have HGn := Lib.hid (HG.out.ext hb)
          clear HG
          have HG := HGn
          clear HGn
          have HBn := Lib.hid (HB.out.trans (hb.mono HB.out.size))
          clear HB hb
          have HB := HBn
          clear HBn
          go_wp2_with fail
          go_ret
          exact ⟨rfl, HB.out⟩
    by_cases k2 : t.states = 2
    · have d2 : decide (2 < t.states) = false := by simp [k2]
      clear hkr k2
      go_enter Tryd.func6, Tryd.ntmps6
      have x1f0 := X1.out.c0
      have x1f1 := X1.out.c1
      have x1f2 := X1.out.c2
      have x1f3 := X1.out.c3
      go_wp2_with fail
      refine (HS.out).mono ?_
      rintro e w1 ⟨rfl, hb⟩
      clear x1f0 x1f1 x1f2 x1f3
      have X1n := Lib.hid (X1.out.ext hb)
      clear X1
      have X1 := X1n
      clear X1n
      have HGn := Lib.hid (HG.out.ext hb)
      clear HG
      have HG := HGn
      clear HGn
      have HBn := Lib.hid (HB.out.trans (hb.mono HB.out.size))
      clear HB hb
      have HB := HBn
      clear HBn
      clear HS
      have x1f0 := X1.out.c0
      have x1f1 := X1.out.c1
      have x1f2 := X1.out.c2
      have x1f3 := X1.out.c3
      go_wp2_with fail
      refine (HR0.out _ X1.out.tot).mono ?_
      rintro e w2 ⟨rfl, hb⟩
      clear x1f0 x1f1 x1f2 x1f3
      have X1n := Lib.hid (X1.out.ext hb)
      clear X1
      have X1 := X1n
      clear X1n
      have HGn := Lib.hid (HG.out.ext hb)
      clear HG
      have HG := HGn
      clear HGn
      have HBn := Lib.hid (HB.out.trans (hb.mono HB.out.size))
      clear HB hb
      have HB := HBn
      clear HBn
      clear HR0
      have x1g1 := X1.out.c1
      go_wp2_with fail
      refine (HP.out _ HG.out).mono ?_
      rintro e w3 ⟨Aq, aq, Bq, bq, Cq, cq, rfl, htq, hb⟩
      dsimp only [totV]
      have X1n := Lib.hid ((X1.out.ext hb).alloc (.cells #[.slice Aq u.hood.length aq, .int .i64 u.states, .slice Bq u.birth.length bq, .slice Cq u.survive.length cq] 26))
      clear X1
      have X1 := X1n
      clear X1n
      have X7 := Lib.hid (Box.new htq aq bq cq)
      have HGn := Lib.hid ((HG.out.ext hb).ext (below_new w3 (.cells #[.slice Aq u.hood.length aq, .int .i64 u.states, .slice Bq u.birth.length bq, .slice Cq u.survive.length cq] 26)))
      clear HG
      have HG := HGn
      clear HGn
      have HBn := Lib.hid (Below.alloc (HB.out.trans (hb.mono HB.out.size)) (HB.out.trans (hb.mono HB.out.size)).size (.cells #[.slice Aq u.hood.length aq, .int .i64 u.states, .slice Bq u.birth.length bq, .slice Cq u.survive.length cq] 26))
      clear HB htq hb
      have HB := HBn
      clear HBn
      rcases HX.out with hx | ⟨hx, hx2⟩
      · obtain ⟨g1, g2, g3⟩ := hx
        have TB := text_back g1 g2
        have hul : (textG u).length ≤ 2147483648 := text_short u
        have HV := Lib.hid (fun W hW => parseG_any (textG u) W hW hul)
        rw [TB] at HV
        have HR := Lib.hid (right_any Aq Bq Cq aq bq cq u)
        rw [g1] at HR
        have HT := Lib.hid (gtext_any Aq Bq Cq aq bq cq u _ X7.out.tot)
        clear g1 g2 TB hul HX
        subst g3
        unfold totV at HT HR
        generalize (ByteArray.mk (textG u).toArray) = y at *
        have x7f0 := X7.out.c0
        have x7f1 := X7.out.c1
        have x7f2 := X7.out.c2
        have x7f3 := X7.out.c3
        go_wp2_with fail
        refine (HT.out).mono ?_
        rintro e w4 ⟨rfl, hb⟩
        clear x7f0 x7f1 x7f2 x7f3
        have X1n := Lib.hid (X1.out.ext hb)
        clear X1
        have X1 := X1n
        clear X1n
        have X7n := Lib.hid (X7.out.ext hb)
        clear X7
        have X7 := X7n
        clear X7n
        have HGn := Lib.hid (HG.out.ext hb)
        clear HG
        have HG := HGn
        clear HGn
        have HBn := Lib.hid (HB.out.trans (hb.mono HB.out.size))
        clear HB hb
        have HB := HBn
        clear HBn
        clear HT
        go_wp2_with fail
        refine (HV.out _ HG.out).mono ?_
        rintro e w5 ⟨Ar, ar, Br, br, Cr, cr, rfl, htr, hb⟩
        dsimp only [totV]
        have X1n := Lib.hid ((X1.out.ext hb).alloc (.cells #[.slice Ar u.hood.length ar, .int .i64 u.states, .slice Br u.birth.length br, .slice Cr u.survive.length cr] 26))
        clear X1
        have X1 := X1n
        clear X1n
        have X7n := Lib.hid ((X7.out.ext hb).alloc (.cells #[.slice Ar u.hood.length ar, .int .i64 u.states, .slice Br u.birth.length br, .slice Cr u.survive.length cr] 26))
        clear X7
        have X7 := X7n
        clear X7n
        have X9 := Lib.hid (Box.new htr ar br cr)
        have HGn := Lib.hid ((HG.out.ext hb).ext (below_new w5 (.cells #[.slice Ar u.hood.length ar, .int .i64 u.states, .slice Br u.birth.length br, .slice Cr u.survive.length cr] 26)))
        clear HG
        have HG := HGn
        clear HGn
        have HBn := Lib.hid (Below.alloc (HB.out.trans (hb.mono HB.out.size)) (HB.out.trans (hb.mono HB.out.size)).size (.cells #[.slice Ar u.hood.length ar, .int .i64 u.states, .slice Br u.birth.length br, .slice Cr u.survive.length cr] 26))
        clear HB htr hb
        have HB := HBn
        clear HBn
        have HM := Lib.hid (rsame_any Aq Bq Cq Ar Br Cr aq bq cq ar br cr u u _ X7.out.tot X9.out.tot)
        rw [sameT_refl] at HM
        unfold totV at HM
        have x7f0 := X7.out.c0
        have x7f1 := X7.out.c1
        have x7f2 := X7.out.c2
        have x7f3 := X7.out.c3
        have x9f0 := X9.out.c0
        have x9f1 := X9.out.c1
        have x9f2 := X9.out.c2
        have x9f3 := X9.out.c3
        go_wp2_with fail
        refine (HM.out).mono ?_
        rintro e w6 ⟨rfl, hb⟩
        clear x7f0 x7f1 x7f2 x7f3 x9f0 x9f1 x9f2 x9f3
        have X1n := Lib.hid (X1.out.ext hb)
        clear X1
        have X1 := X1n
        clear X1n
        have X7n := Lib.hid (X7.out.ext hb)
        clear X7
        have X7 := X7n
        clear X7n
        have X9n := Lib.hid (X9.out.ext hb)
        clear X9
        have X9 := X9n
        clear X9n
        have HGn := Lib.hid (HG.out.ext hb)
        clear HG
        have HG := HGn
        clear HGn
        have HBn := Lib.hid (HB.out.trans (hb.mono HB.out.size))
        clear HB hb
        have HB := HBn
        clear HBn
        clear HM
        have x7f0 := X7.out.c0
        have x7f1 := X7.out.c1
        have x7f2 := X7.out.c2
        have x7f3 := X7.out.c3
        go_wp2_with fail
        refine (HR.out _ X7.out.tot).mono ?_
        rintro e w7 ⟨rfl, hb⟩
        clear x7f0 x7f1 x7f2 x7f3
        have X1n := Lib.hid (X1.out.ext hb)
        clear X1
        have X1 := X1n
        clear X1n
        have X7n := Lib.hid (X7.out.ext hb)
        clear X7
        have X7 := X7n
        clear X7n
        have X9n := Lib.hid (X9.out.ext hb)
        clear X9
        have X9 := X9n
        clear X9n
        have HGn := Lib.hid (HG.out.ext hb)
        clear HG
        have HG := HGn
        clear HGn
        have HBn := Lib.hid (HB.out.trans (hb.mono HB.out.size))
        clear HB hb
        have HB := HBn
        clear HBn
        clear HR
        go_wp2_with fail
        refine (awake_any _ HG.out).mono ?_
        rintro e w8 ⟨rfl, hb⟩
        have X1n := Lib.hid (X1.out.ext hb)
        clear X1
        have X1 := X1n
        clear X1n
        have X7n := Lib.hid (X7.out.ext hb)
        clear X7
        have X7 := X7n
        clear X7n
        have X9n := Lib.hid (X9.out.ext hb)
        clear X9
        have X9 := X9n
        clear X9n
        have HGn := Lib.hid (HG.out.ext hb)
        clear HG
        have HG := HGn
        clear HGn
        have HBn := Lib.hid (HB.out.trans (hb.mono HB.out.size))
        clear HB hb
        have HB := HBn
        clear HBn
        go_wp2_with fail
        go_ret
        exact ⟨rfl, HB.out⟩
      · clear hx HX
        rcases hx2 with hx2 | hx2
        · subst hx2
          go_wp2_with fail
          refine (awake_any _ HG.out).mono ?_
          rintro e w4 ⟨rfl, hb⟩
          have X1n := Lib.hid (X1.out.ext hb)
          clear X1
          have X1 := X1n
          clear X1n
          have X7n := Lib.hid (X7.out.ext hb)
          clear X7
          have X7 := X7n
          clear X7n
          have HGn := Lib.hid (HG.out.ext hb)
          clear HG
          have HG := HGn
          clear HGn
          have HBn := Lib.hid (HB.out.trans (hb.mono HB.out.size))
          clear HB hb
          have HB := HBn
          clear HBn
          go_wp2_with fail
          go_ret
          exact ⟨rfl, HB.out⟩
        · subst hx2
          go_wp2_with fail
          refine (awake_any _ HG.out).mono ?_
          rintro e w4 ⟨rfl, hb⟩
          have X1n := Lib.hid (X1.out.ext hb)
          clear X1
          have X1 := X1n
          clear X1n
          have X7n := Lib.hid (X7.out.ext hb)
          clear X7
          have X7 := X7n
          clear X7n
          have HGn := Lib.hid (HG.out.ext hb)
          clear HG
          have HG := HGn
          clear HGn
          have HBn := Lib.hid (HB.out.trans (hb.mono HB.out.size))
          clear HB hb
          have HB := HBn
          clear HBn
          go_wp2_with fail
          go_ret
          exact ⟨rfl, HB.out⟩
    · have d2 : decide (2 < t.states) = true := by have := right_states hkr.symm; simp; omega
      have TB := text_back hkr.symm k2
      have HV := Lib.hid (fun W hW => parseG_any (textG t) W hW (text_short t))
      rw [TB] at HV
      have HT := Lib.hid (fun W h => gtext_any A B C a b c t W h)
      clear TB hkr k2
      unfold totV at HT
      generalize (ByteArray.mk (textG t).toArray) = x at *
      go_enter Tryd.func6, Tryd.ntmps6
      have x1f0 := X1.out.c0
      have x1f1 := X1.out.c1
      have x1f2 := X1.out.c2
      have x1f3 := X1.out.c3
      go_wp2_with fail
      refine (HS.out).mono ?_
      rintro e w1 ⟨rfl, hb⟩
      clear x1f0 x1f1 x1f2 x1f3
      have X1n := Lib.hid (X1.out.ext hb)
      clear X1
      have X1 := X1n
      clear X1n
      have HGn := Lib.hid (HG.out.ext hb)
      clear HG
      have HG := HGn
      clear HGn
      have HBn := Lib.hid (HB.out.trans (hb.mono HB.out.size))
      clear HB hb
      have HB := HBn
      clear HBn
      clear HS
      have x1f0 := X1.out.c0
      have x1f1 := X1.out.c1
      have x1f2 := X1.out.c2
      have x1f3 := X1.out.c3
      go_wp2_with fail
      refine (HR0.out _ X1.out.tot).mono ?_
      rintro e w2 ⟨rfl, hb⟩
      clear x1f0 x1f1 x1f2 x1f3
      have X1n := Lib.hid (X1.out.ext hb)
      clear X1
      have X1 := X1n
      clear X1n
      have HGn := Lib.hid (HG.out.ext hb)
      clear HG
      have HG := HGn
      clear HGn
      have HBn := Lib.hid (HB.out.trans (hb.mono HB.out.size))
      clear HB hb
      have HB := HBn
      clear HBn
      clear HR0
      have x1f0 := X1.out.c0
      have x1f1 := X1.out.c1
      have x1f2 := X1.out.c2
      have x1f3 := X1.out.c3
      go_wp2_with fail
      refine (HT.out _ X1.out.tot).mono ?_
      rintro e w3 ⟨rfl, hb⟩
      clear x1f0 x1f1 x1f2 x1f3
      have X1n := Lib.hid (X1.out.ext hb)
      clear X1
      have X1 := X1n
      clear X1n
      have HGn := Lib.hid (HG.out.ext hb)
      clear HG
      have HG := HGn
      clear HGn
      have HBn := Lib.hid (HB.out.trans (hb.mono HB.out.size))
      clear HB hb
      have HB := HBn
      clear HBn
      clear HT
      go_wp2_with fail
      refine (HV.out _ HG.out).mono ?_
      rintro e w4 ⟨Ap, ap, Bp, bp, Cp, cp, rfl, htp, hb⟩
      dsimp only [totV]
      have X1n := Lib.hid ((X1.out.ext hb).alloc (.cells #[.slice Ap t.hood.length ap, .int .i64 t.states, .slice Bp t.birth.length bp, .slice Cp t.survive.length cp] 26))
      clear X1
      have X1 := X1n
      clear X1n
      have X5 := Lib.hid (Box.new htp ap bp cp)
      have HGn := Lib.hid ((HG.out.ext hb).ext (below_new w4 (.cells #[.slice Ap t.hood.length ap, .int .i64 t.states, .slice Bp t.birth.length bp, .slice Cp t.survive.length cp] 26)))
      clear HG
      have HG := HGn
      clear HGn
      have HBn := Lib.hid (Below.alloc (HB.out.trans (hb.mono HB.out.size)) (HB.out.trans (hb.mono HB.out.size)).size (.cells #[.slice Ap t.hood.length ap, .int .i64 t.states, .slice Bp t.birth.length bp, .slice Cp t.survive.length cp] 26))
      clear HB htp hb
      have HB := HBn
      clear HBn
      clear HV
      have HM := Lib.hid (rsame_any Ap Bp Cp A B C ap bp cp a b c t t _ X5.out.tot X1.out.tot)
      rw [sameT_refl] at HM
      unfold totV at HM
      have x5f0 := X5.out.c0
      have x5f1 := X5.out.c1
      have x5f2 := X5.out.c2
      have x5f3 := X5.out.c3
      have x1f0 := X1.out.c0
      have x1f1 := X1.out.c1
      have x1f2 := X1.out.c2
      have x1f3 := X1.out.c3
      go_wp2_with fail
      refine (HM.out).mono ?_
      rintro e w5 ⟨rfl, hb⟩
      clear x5f0 x5f1 x5f2 x5f3 x1f0 x1f1 x1f2 x1f3
      have X1n := Lib.hid (X1.out.ext hb)
      clear X1
      have X1 := X1n
      clear X1n
      have X5n := Lib.hid (X5.out.ext hb)
      clear X5
      have X5 := X5n
      clear X5n
      have HGn := Lib.hid (HG.out.ext hb)
      clear HG
      have HG := HGn
      clear HGn
      have HBn := Lib.hid (HB.out.trans (hb.mono HB.out.size))
      clear HB hb
      have HB := HBn
      clear HBn
      clear HM
      go_wp2_with fail
      refine (HP.out _ HG.out).mono ?_
      rintro e w6 ⟨Aq, aq, Bq, bq, Cq, cq, rfl, htq, hb⟩
      dsimp only [totV]
      have X1n := Lib.hid ((X1.out.ext hb).alloc (.cells #[.slice Aq u.hood.length aq, .int .i64 u.states, .slice Bq u.birth.length bq, .slice Cq u.survive.length cq] 26))
      clear X1
      have X1 := X1n
      clear X1n
      have X5n := Lib.hid ((X5.out.ext hb).alloc (.cells #[.slice Aq u.hood.length aq, .int .i64 u.states, .slice Bq u.birth.length bq, .slice Cq u.survive.length cq] 26))
      clear X5
      have X5 := X5n
      clear X5n
      have X7 := Lib.hid (Box.new htq aq bq cq)
      have HGn := Lib.hid ((HG.out.ext hb).ext (below_new w6 (.cells #[.slice Aq u.hood.length aq, .int .i64 u.states, .slice Bq u.birth.length bq, .slice Cq u.survive.length cq] 26)))
      clear HG
      have HG := HGn
      clear HGn
      have HBn := Lib.hid (Below.alloc (HB.out.trans (hb.mono HB.out.size)) (HB.out.trans (hb.mono HB.out.size)).size (.cells #[.slice Aq u.hood.length aq, .int .i64 u.states, .slice Bq u.birth.length bq, .slice Cq u.survive.length cq] 26))
      clear HB htq hb
      have HB := HBn
      clear HBn
      rcases HX.out with hx | ⟨hx, hx2⟩
      · obtain ⟨g1, g2, g3⟩ := hx
        have TB := text_back g1 g2
        have hul : (textG u).length ≤ 2147483648 := text_short u
        have HV := Lib.hid (fun W hW => parseG_any (textG u) W hW hul)
        rw [TB] at HV
        have HR := Lib.hid (right_any Aq Bq Cq aq bq cq u)
        rw [g1] at HR
        have HT := Lib.hid (gtext_any Aq Bq Cq aq bq cq u _ X7.out.tot)
        clear g1 g2 TB hul HX
        subst g3
        unfold totV at HT HR
        generalize (ByteArray.mk (textG u).toArray) = y at *
        have x7f0 := X7.out.c0
        have x7f1 := X7.out.c1
        have x7f2 := X7.out.c2
        have x7f3 := X7.out.c3
        go_wp2_with fail
        refine (HT.out).mono ?_
        rintro e w7 ⟨rfl, hb⟩
        clear x7f0 x7f1 x7f2 x7f3
        have X1n := Lib.hid (X1.out.ext hb)
        clear X1
        have X1 := X1n
        clear X1n
        have X5n := Lib.hid (X5.out.ext hb)
        clear X5
        have X5 := X5n
        clear X5n
        have X7n := Lib.hid (X7.out.ext hb)
        clear X7
        have X7 := X7n
        clear X7n
        have HGn := Lib.hid (HG.out.ext hb)
        clear HG
        have HG := HGn
        clear HGn
        have HBn := Lib.hid (HB.out.trans (hb.mono HB.out.size))
        clear HB hb
        have HB := HBn
        clear HBn
        clear HT
        go_wp2_with fail
        refine (HV.out _ HG.out).mono ?_
        rintro e w8 ⟨Ar, ar, Br, br, Cr, cr, rfl, htr, hb⟩
        dsimp only [totV]
        have X1n := Lib.hid ((X1.out.ext hb).alloc (.cells #[.slice Ar u.hood.length ar, .int .i64 u.states, .slice Br u.birth.length br, .slice Cr u.survive.length cr] 26))
        clear X1
        have X1 := X1n
        clear X1n
        have X5n := Lib.hid ((X5.out.ext hb).alloc (.cells #[.slice Ar u.hood.length ar, .int .i64 u.states, .slice Br u.birth.length br, .slice Cr u.survive.length cr] 26))
        clear X5
        have X5 := X5n
        clear X5n
        have X7n := Lib.hid ((X7.out.ext hb).alloc (.cells #[.slice Ar u.hood.length ar, .int .i64 u.states, .slice Br u.birth.length br, .slice Cr u.survive.length cr] 26))
        clear X7
        have X7 := X7n
        clear X7n
        have X9 := Lib.hid (Box.new htr ar br cr)
        have HGn := Lib.hid ((HG.out.ext hb).ext (below_new w8 (.cells #[.slice Ar u.hood.length ar, .int .i64 u.states, .slice Br u.birth.length br, .slice Cr u.survive.length cr] 26)))
        clear HG
        have HG := HGn
        clear HGn
        have HBn := Lib.hid (Below.alloc (HB.out.trans (hb.mono HB.out.size)) (HB.out.trans (hb.mono HB.out.size)).size (.cells #[.slice Ar u.hood.length ar, .int .i64 u.states, .slice Br u.birth.length br, .slice Cr u.survive.length cr] 26))
        clear HB htr hb
        have HB := HBn
        clear HBn
        have HM := Lib.hid (rsame_any Aq Bq Cq Ar Br Cr aq bq cq ar br cr u u _ X7.out.tot X9.out.tot)
        rw [sameT_refl] at HM
        unfold totV at HM
        have x7f0 := X7.out.c0
        have x7f1 := X7.out.c1
        have x7f2 := X7.out.c2
        have x7f3 := X7.out.c3
        have x9f0 := X9.out.c0
        have x9f1 := X9.out.c1
        have x9f2 := X9.out.c2
        have x9f3 := X9.out.c3
        go_wp2_with fail
        refine (HM.out).mono ?_
        rintro e w9 ⟨rfl, hb⟩
        clear x7f0 x7f1 x7f2 x7f3 x9f0 x9f1 x9f2 x9f3
        have X1n := Lib.hid (X1.out.ext hb)
        clear X1
        have X1 := X1n
        clear X1n
        have X5n := Lib.hid (X5.out.ext hb)
        clear X5
        have X5 := X5n
        clear X5n
        have X7n := Lib.hid (X7.out.ext hb)
        clear X7
        have X7 := X7n
        clear X7n
        have X9n := Lib.hid (X9.out.ext hb)
        clear X9
        have X9 := X9n
        clear X9n
        have HGn := Lib.hid (HG.out.ext hb)
        clear HG
        have HG := HGn
        clear HGn
        have HBn := Lib.hid (HB.out.trans (hb.mono HB.out.size))
        clear HB hb
        have HB := HBn
        clear HBn
        clear HM
        have x7f0 := X7.out.c0
        have x7f1 := X7.out.c1
        have x7f2 := X7.out.c2
        have x7f3 := X7.out.c3
        go_wp2_with fail
        refine (HR.out _ X7.out.tot).mono ?_
        rintro e w10 ⟨rfl, hb⟩
        clear x7f0 x7f1 x7f2 x7f3
        have X1n := Lib.hid (X1.out.ext hb)
        clear X1
        have X1 := X1n
        clear X1n
        have X5n := Lib.hid (X5.out.ext hb)
        clear X5
        have X5 := X5n
        clear X5n
        have X7n := Lib.hid (X7.out.ext hb)
        clear X7
        have X7 := X7n
        clear X7n
        have X9n := Lib.hid (X9.out.ext hb)
        clear X9
        have X9 := X9n
        clear X9n
        have HGn := Lib.hid (HG.out.ext hb)
        clear HG
        have HG := HGn
        clear HGn
        have HBn := Lib.hid (HB.out.trans (hb.mono HB.out.size))
        clear HB hb
        have HB := HBn
        clear HBn
        clear HR
        go_wp2_with fail
        refine (awake_any _ HG.out).mono ?_
        rintro e w11 ⟨rfl, hb⟩
        have X1n := Lib.hid (X1.out.ext hb)
        clear X1
        have X1 := X1n
        clear X1n
        have X5n := Lib.hid (X5.out.ext hb)
        clear X5
        have X5 := X5n
        clear X5n
        have X7n := Lib.hid (X7.out.ext hb)
        clear X7
        have X7 := X7n
        clear X7n
        have X9n := Lib.hid (X9.out.ext hb)
        clear X9
        have X9 := X9n
        clear X9n
        have HGn := Lib.hid (HG.out.ext hb)
        clear HG
        have HG := HGn
        clear HGn
        have HBn := Lib.hid (HB.out.trans (hb.mono HB.out.size))
        clear HB hb
        have HB := HBn
        clear HBn
        go_wp2_with fail
        go_ret
        exact ⟨rfl, HB.out⟩
      · clear hx HX
        rcases hx2 with hx2 | hx2
        · subst hx2
          go_wp2_with fail
          refine (awake_any _ HG.out).mono ?_
          rintro e w7 ⟨rfl, hb⟩
          have X1n := Lib.hid (X1.out.ext hb)
          clear X1
          have X1 := X1n
          clear X1n
          have X5n := Lib.hid (X5.out.ext hb)
          clear X5
          have X5 := X5n
          clear X5n
          have X7n := Lib.hid (X7.out.ext hb)
          clear X7
          have X7 := X7n
          clear X7n
          have HGn := Lib.hid (HG.out.ext hb)
          clear HG
          have HG := HGn
          clear HGn
          have HBn := Lib.hid (HB.out.trans (hb.mono HB.out.size))
          clear HB hb
          have HB := HBn
          clear HBn
          go_wp2_with fail
          go_ret
          exact ⟨rfl, HB.out⟩
        · subst hx2
          go_wp2_with fail
          refine (awake_any _ HG.out).mono ?_
          rintro e w7 ⟨rfl, hb⟩
          have X1n := Lib.hid (X1.out.ext hb)
          clear X1
          have X1 := X1n
          clear X1n
          have X5n := Lib.hid (X5.out.ext hb)
          clear X5
          have X5 := X5n
          clear X5n
          have X7n := Lib.hid (X7.out.ext hb)
          clear X7
          have X7 := X7n
          clear X7n
          have HGn := Lib.hid (HG.out.ext hb)
          clear HG
          have HG := HGn
          clear HGn
          have HBn := Lib.hid (HB.out.trans (hb.mono HB.out.size))
          clear HB hb
          have HB := HBn
          clear HBn
          go_wp2_with fail
          go_ret
          exact ⟨rfl, HB.out⟩
  · have d1 : decide ((200 : Int) < (s.size : Int)) = true := by simp; omega
    clear hlen
    go_enter Tryd.func6, Tryd.ntmps6
    have x1f0 := X1.out.c0
    have x1f1 := X1.out.c1
    have x1f2 := X1.out.c2
    have x1f3 := X1.out.c3
    go_wp2_with fail
    refine (HS.out).mono ?_
    rintro e w1 ⟨rfl, hb⟩
    clear x1f0 x1f1 x1f2 x1f3
    have X1n := Lib.hid (X1.out.ext hb)
    clear X1
    have X1 := X1n
    clear X1n
    have HGn := Lib.hid (HG.out.ext hb)
    clear HG
    have HG := HGn
    clear HGn
    have HBn := Lib.hid (HB.out.trans (hb.mono HB.out.size))
    clear HB hb
    have HB := HBn
    clear HBn
    clear HS
    go_wp2_with fail
    refine (awake_any _ HG.out).mono ?_
    rintro e w2 ⟨rfl, hb⟩
    have X1n := Lib.hid (X1.out.ext hb)
    clear X1
    have X1 := X1n
    clear X1n
    have HGn := Lib.hid (HG.out.ext hb)
    clear HG
    have HG := HGn
    clear HGn
    have HBn := Lib.hid (HB.out.trans (hb.mono HB.out.size))
    clear HB hb
    have HB := HBn
    clear HBn
    go_wp2_with fail
    go_ret
    exact ⟨rfl, HB.out⟩
end Go.Proofs.YtaofninfjdepfaaDoor
