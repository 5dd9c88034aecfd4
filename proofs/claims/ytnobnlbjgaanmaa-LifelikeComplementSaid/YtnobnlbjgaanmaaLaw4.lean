/-
  cellularlaw08.LifelikeComplement: the walk. No condition but that the package's variables are there.
-/
import Derived.Test.YtnobnlbjgaanmaaLaw1
import Derived.Test.YtnobnlbjgaanmaaPlain2
namespace Go.Proofs.Ytnobnlbjgaanmaa
open Go.RowKit
set_option linter.unusedVariables false
set_option linter.unusedSimpArgs false

set_option maxHeartbeats 4000000 in
theorem law4_any (A B C : Option Addr) (a b c : Nat) (t : TotL) (w : World) (hg : Glob w) (ht : TotR w A B C t) :
    Calls Try.prog 6 #[totV A a B b C c t] w fun e w' => e = .returned (.bool true) ∧ Below w.heap.size w w' := by
  have hb0 := below_new w (.cells #[.slice A t.hood.length a, .int .i64 t.states, .slice B t.birth.length b, .slice C t.survive.length c] 25)
  have X1 := Lib.hid (Box.new ht a b c)
  have HB := Lib.hid hb0
  have HG := Lib.hid (hg.ext hb0)
  clear hb0 ht hg
  unfold totV at *
  cases s2 : shortT t
  · have HS := Lib.hid (short_box X1.out _ s2)
    clear s2
    go_enter Try.func6, Try.ntmps6
    have x1f0 := X1.out.c0
    have x1f1 := X1.out.c1
    have x1f2 := X1.out.c2
    have x1f3 := X1.out.c3
    go_wp2_with fail
    refine (HS.out).mono ?_
    rintro e w1 ⟨rfl, hb⟩
    clear x1f0 x1f1 x1f2 x1f3
    have X1n := Lib.hid (X1.out.ext hb)
    clear X1
    have X1 := X1n
    clear X1n
    have HGn := Lib.hid (HG.out.ext hb)
    clear HG
    have HG := HGn
    clear HGn
    have HBn := Lib.hid (HB.out.trans (hb.mono HB.out.size))
    clear HB hb
    have HB := HBn
    clear HBn
    clear HS
    go_wp2_with fail
    refine (awake_any _ HG.out).mono ?_
    rintro e w2 ⟨rfl, hb⟩
    have X1n := Lib.hid (X1.out.ext hb)
    clear X1
    have X1 := X1n
    clear X1n
    have HGn := Lib.hid (HG.out.ext hb)
    clear HG
    have HG := HGn
    clear HGn
    have HBn := Lib.hid (HB.out.trans (hb.mono HB.out.size))
    clear HB hb
    have HB := HBn
    clear HBn
    go_wp2
    go_ret
    exact ⟨rfl, HB.out⟩
  have HS := Lib.hid (short_box X1.out _ s2)
  clear s2
  obtain ⟨u, er, hr⟩ : ∃ u er, complL t = (u, er) := ⟨_, _, rfl⟩
  have HC := Lib.hid (fun W hW => compl_any A B C a b c t W hW)
  have HD := Lib.hid (fun W hW => rcompl_any A B C a b c t W hW)
  rw [hr] at HC HD
  have HX : Hid (er = 0 → complL u = (t, 0)) := Lib.hid fun e => by
    have h := compl_twice (t := t) (by rw [hr]; exact e)
    rw [hr] at h
    have h1 : u = complT t := congrArg Prod.fst h.2.2.1
    rw [h1]
    exact h.2.2.2
  clear hr
  unfold totV at HC HD
  go_enter Try.func6, Try.ntmps6
  have x1f0 := X1.out.c0
  have x1f1 := X1.out.c1
  have x1f2 := X1.out.c2
  have x1f3 := X1.out.c3
  go_wp2_with fail
  refine (HS.out).mono ?_
  rintro e w1 ⟨rfl, hb⟩
  clear x1f0 x1f1 x1f2 x1f3
  have X1n := Lib.hid (X1.out.ext hb)
  clear X1
  have X1 := X1n
  clear X1n
  have HGn := Lib.hid (HG.out.ext hb)
  clear HG
  have HG := HGn
  clear HGn
  have HBn := Lib.hid (HB.out.trans (hb.mono HB.out.size))
  clear HB hb
  have HB := HBn
  clear HBn
  clear HS
  have x1f0 := X1.out.c0
  have x1f1 := X1.out.c1
  have x1f2 := X1.out.c2
  have x1f3 := X1.out.c3
  go_wp2_with fail
  refine (HC.out _ X1.out.tot).mono ?_
  rintro e w2 ⟨Ap, ap, Bp, bp, Cp, cp, rfl, htp, hb⟩
  dsimp only [totV]
  clear x1f0 x1f1 x1f2 x1f3
  have X1n := Lib.hid ((X1.out.ext hb).alloc (.cells #[.slice Ap u.hood.length ap, .int .i64 u.states, .slice Bp u.birth.length bp, .slice Cp u.survive.length cp] 25))
  clear X1
  have X1 := X1n
  clear X1n
  have X3 := Lib.hid (Box.new htp ap bp cp)
  have HGn := Lib.hid ((HG.out.ext hb).ext (below_new w2 (.cells #[.slice Ap u.hood.length ap, .int .i64 u.states, .slice Bp u.birth.length bp, .slice Cp u.survive.length cp] 25)))
  clear HG
  have HG := HGn
  clear HGn
  have HBn := Lib.hid (Below.alloc (HB.out.trans (hb.mono HB.out.size)) (HB.out.trans (hb.mono HB.out.size)).size (.cells #[.slice Ap u.hood.length ap, .int .i64 u.states, .slice Bp u.birth.length bp, .slice Cp u.survive.length cp] 25))
  clear HB htp hb
  have HB := HBn
  clear HBn
  have x1f0 := X1.out.c0
  have x1f1 := X1.out.c1
  have x1f2 := X1.out.c2
  have x1f3 := X1.out.c3
  go_wp2_with fail
  refine (HD.out _ X1.out.tot).mono ?_
  rintro e w3 ⟨Aq, aq, Bq, bq, Cq, cq, rfl, htq, hb⟩
  dsimp only [totV]
  clear x1f0 x1f1 x1f2 x1f3
  have X1n := Lib.hid ((X1.out.ext hb).alloc (.cells #[.slice Aq u.hood.length aq, .int .i64 u.states, .slice Bq u.birth.length bq, .slice Cq u.survive.length cq] 25))
  clear X1
  have X1 := X1n
  clear X1n
  have X3n := Lib.hid ((X3.out.ext hb).alloc (.cells #[.slice Aq u.hood.length aq, .int .i64 u.states, .slice Bq u.birth.length bq, .slice Cq u.survive.length cq] 25))
  clear X3
  have X3 := X3n
  clear X3n
  have X5 := Lib.hid (Box.new htq aq bq cq)
  have HGn := Lib.hid ((HG.out.ext hb).ext (below_new w3 (.cells #[.slice Aq u.hood.length aq, .int .i64 u.states, .slice Bq u.birth.length bq, .slice Cq u.survive.length cq] 25)))
  clear HG
  have HG := HGn
  clear HGn
  have HBn := Lib.hid (Below.alloc (HB.out.trans (hb.mono HB.out.size)) (HB.out.trans (hb.mono HB.out.size)).size (.cells #[.slice Aq u.hood.length aq, .int .i64 u.states, .slice Bq u.birth.length bq, .slice Cq u.survive.length cq] 25))
  clear HB htq hb
  have HB := HBn
  clear HBn
  have HM := Lib.hid (rsame_any Ap Bp Cp Aq Bq Cq ap bp cp aq bq cq u u _ X3.out.tot X5.out.tot)
  rw [sameT_refl] at HM
  unfold totV at HM
  cases z1 : (er == 0)
  · have Z1 := Lib.hid z1
    have z3 : ¬ er = 0 := by simpa using z1
    have x3f0 := X3.out.c0
    have x3f1 := X3.out.c1
    have x3f2 := X3.out.c2
    have x3f3 := X3.out.c3
    have x5f0 := X5.out.c0
    have x5f1 := X5.out.c1
    have x5f2 := X5.out.c2
    have x5f3 := X5.out.c3
    go_wp2_with fail
    refine (HM.out).mono ?_
    rintro e w4 ⟨rfl, hb⟩
    clear x3f0 x3f1 x3f2 x3f3 x5f0 x5f1 x5f2 x5f3
    have X1n := Lib.hid (X1.out.ext hb)
    clear X1
    have X1 := X1n
    clear X1n
    have X3n := Lib.hid (X3.out.ext hb)
    clear X3
    have X3 := X3n
    clear X3n
    have X5n := Lib.hid (X5.out.ext hb)
    clear X5
    have X5 := X5n
    clear X5n
    have HGn := Lib.hid (HG.out.ext hb)
    clear HG
    have HG := HGn
    clear HGn
    have HBn := Lib.hid (HB.out.trans (hb.mono HB.out.size))
    clear HB hb
    have HB := HBn
    clear HBn
    clear HM
    go_wp2_with fail
    refine (awake_any _ HG.out).mono ?_
    rintro e w5 ⟨rfl, hb⟩
    have X1n := Lib.hid (X1.out.ext hb)
    clear X1
    have X1 := X1n
    clear X1n
    have X3n := Lib.hid (X3.out.ext hb)
    clear X3
    have X3 := X3n
    clear X3n
    have X5n := Lib.hid (X5.out.ext hb)
    clear X5
    have X5 := X5n
    clear X5n
    have HGn := Lib.hid (HG.out.ext hb)
    clear HG
    have HG := HGn
    clear HGn
    have HBn := Lib.hid (HB.out.trans (hb.mono HB.out.size))
    clear HB hb
    have HB := HBn
    clear HBn
    go_wp2
    go_ret
    exact ⟨rfl, HB.out⟩
  · have e0 : er = 0 := by simpa using z1
    have hk := HX.out e0
    have Z1 := Lib.hid e0
    clear z1
    subst e0
    have x3f0 := X3.out.c0
    have x3f1 := X3.out.c1
    have x3f2 := X3.out.c2
    have x3f3 := X3.out.c3
    have x5f0 := X5.out.c0
    have x5f1 := X5.out.c1
    have x5f2 := X5.out.c2
    have x5f3 := X5.out.c3
    go_wp2_with fail
    refine (HM.out).mono ?_
    rintro e w4 ⟨rfl, hb⟩
    clear x3f0 x3f1 x3f2 x3f3 x5f0 x5f1 x5f2 x5f3
    have X1n := Lib.hid (X1.out.ext hb)
    clear X1
    have X1 := X1n
    clear X1n
    have X3n := Lib.hid (X3.out.ext hb)
    clear X3
    have X3 := X3n
    clear X3n
    have X5n := Lib.hid (X5.out.ext hb)
    clear X5
    have X5 := X5n
    clear X5n
    have HGn := Lib.hid (HG.out.ext hb)
    clear HG
    have HG := HGn
    clear HGn
    have HBn := Lib.hid (HB.out.trans (hb.mono HB.out.size))
    clear HB hb
    have HB := HBn
    clear HBn
    clear HM
    have HE := Lib.hid (compl_any Ap Bp Cp ap bp cp u _ X3.out.tot)
    rw [hk] at HE
    unfold totV at HE
    clear hk
    have x3f0 := X3.out.c0
    have x3f1 := X3.out.c1
    have x3f2 := X3.out.c2
    have x3f3 := X3.out.c3
    go_wp2_with fail
    refine (HE.out).mono ?_
    rintro e w5 ⟨Ar, ar, Br, br, Cr, cr, rfl, htr, hb⟩
    dsimp only [totV]
    clear x3f0 x3f1 x3f2 x3f3
    have X1n := Lib.hid ((X1.out.ext hb).alloc (.cells #[.slice Ar t.hood.length ar, .int .i64 t.states, .slice Br t.birth.length br, .slice Cr t.survive.length cr] 25))
    clear X1
    have X1 := X1n
    clear X1n
    have X3n := Lib.hid ((X3.out.ext hb).alloc (.cells #[.slice Ar t.hood.length ar, .int .i64 t.states, .slice Br t.birth.length br, .slice Cr t.survive.length cr] 25))
    clear X3
    have X3 := X3n
    clear X3n
    have X5n := Lib.hid ((X5.out.ext hb).alloc (.cells #[.slice Ar t.hood.length ar, .int .i64 t.states, .slice Br t.birth.length br, .slice Cr t.survive.length cr] 25))
    clear X5
    have X5 := X5n
    clear X5n
    have X7 := Lib.hid (Box.new htr ar br cr)
    have HGn := Lib.hid ((HG.out.ext hb).ext (below_new w5 (.cells #[.slice Ar t.hood.length ar, .int .i64 t.states, .slice Br t.birth.length br, .slice Cr t.survive.length cr] 25)))
    clear HG
    have HG := HGn
    clear HGn
    have HBn := Lib.hid (Below.alloc (HB.out.trans (hb.mono HB.out.size)) (HB.out.trans (hb.mono HB.out.size)).size (.cells #[.slice Ar t.hood.length ar, .int .i64 t.states, .slice Br t.birth.length br, .slice Cr t.survive.length cr] 25))
    clear HB htr hb
    have HB := HBn
    clear HBn
    clear HE
    have HM := Lib.hid (same_any Ar Br Cr A B C ar br cr a b c t t _ X7.out.tot X1.out.tot)
    rw [sameT_refl] at HM
    unfold totV at HM
    have x7f0 := X7.out.c0
    have x7f1 := X7.out.c1
    have x7f2 := X7.out.c2
    have x7f3 := X7.out.c3
    have x1f0 := X1.out.c0
    have x1f1 := X1.out.c1
    have x1f2 := X1.out.c2
    have x1f3 := X1.out.c3
    go_wp2_with fail
    refine (HM.out).mono ?_
    rintro e w6 ⟨rfl, hb⟩
    clear x7f0 x7f1 x7f2 x7f3 x1f0 x1f1 x1f2 x1f3
    have X1n := Lib.hid (X1.out.ext hb)
    clear X1
    have X1 := X1n
    clear X1n
    have X3n := Lib.hid (X3.out.ext hb)
    clear X3
    have X3 := X3n
    clear X3n
    have X5n := Lib.hid (X5.out.ext hb)
    clear X5
    have X5 := X5n
    clear X5n
    have X7n := Lib.hid (X7.out.ext hb)
    clear X7
    have X7 := X7n
    clear X7n
    have HGn := Lib.hid (HG.out.ext hb)
    clear HG
    have HG := HGn
    clear HGn
    have HBn := Lib.hid (HB.out.trans (hb.mono HB.out.size))
    clear HB hb
    have HB := HBn
    clear HBn
    clear HM
    go_wp2_with fail
    refine (awake_any _ HG.out).mono ?_
    rintro e w7 ⟨rfl, hb⟩
    have X1n := Lib.hid (X1.out.ext hb)
    clear X1
    have X1 := X1n
    clear X1n
    have X3n := Lib.hid (X3.out.ext hb)
    clear X3
    have X3 := X3n
    clear X3n
    have X5n := Lib.hid (X5.out.ext hb)
    clear X5
    have X5 := X5n
    clear X5n
    have X7n := Lib.hid (X7.out.ext hb)
    clear X7
    have X7 := X7n
    clear X7n
    have HGn := Lib.hid (HG.out.ext hb)
    clear HG
    have HG := HGn
    clear HGn
    have HBn := Lib.hid (HB.out.trans (hb.mono HB.out.size))
    clear HB hb
    have HB := HBn
    clear HBn
    go_wp2
    go_ret
    exact ⟨rfl, HB.out⟩
end Go.Proofs.Ytnobnlbjgaanmaa
