/-
  cellularlaw08.LifelikeParses: the walk. No condition but that the package's variables are there.
-/
import Derived.Test.YtnobnlbjgaanmaaLaw1
import Derived.Test.YtnobnlbjgaanmaaPlain2
namespace Go.Proofs.Ytnobnlbjgaanmaa
open Go.RowKit
set_option linter.unusedVariables false
set_option linter.unusedSimpArgs false

set_option maxHeartbeats 4000000 in
theorem law2_any (s : ByteArray) (A B C : Option Addr) (a b c : Nat) (t : TotL) (w : World) (hg : Glob w) (ht : TotR w A B C t) :
    Calls Try.prog 4 #[.string s, totV A a B b C c t] w fun e w' => e = .returned (.bool true) ∧ Below w.heap.size w w' := by
  have hb0 := below_new w (.cells #[.slice A t.hood.length a, .int .i64 t.states, .slice B t.birth.length b, .slice C t.survive.length c] 25)
  have X1 := Lib.hid (Box.new ht a b c)
  have HB := Lib.hid hb0
  have HG := Lib.hid (hg.ext hb0)
  clear hb0 ht hg
  unfold totV at *
  have hlen : s.data.toList.length = s.size := (Lib.size_eq s).symm
  obtain ⟨u, er, hr⟩ : ∃ u er, parseL s.data.toList = (u, er) := ⟨_, _, rfl⟩
  by_cases hs : s.size ≤ 200
  · have d1 : decide ((200 : Int) < (s.size : Int)) = false := by simp; omega
    have HP := Lib.hid (fun W hW => parse_any s W hW (by omega))
    have HQ := Lib.hid (fun W => rparse_any s W (by omega))
    rw [hr] at HP
    rw [← parse_eq, hr] at HQ
    clear hr hlen
    cases s2 : shortT t
    · have HS := Lib.hid (short_box X1.out _ s2)
      clear s2
      go_enter Try.func4, Try.ntmps4
      have x1f0 := X1.out.c0
      have x1f1 := X1.out.c1
      have x1f2 := X1.out.c2
      have x1f3 := X1.out.c3
      go_wp2_with fail
      refine (HS.out).mono ?_
      rintro e w1 ⟨rfl, hb⟩
      clear x1f0 x1f1 x1f2 x1f3
      have X1n := Lib.hid (X1.out.ext hb)
      clear X1
      have X1 := X1n
      clear X1n
      have HGn := Lib.hid (HG.out.ext hb)
      clear HG
      have HG := HGn
      clear HGn
      have HBn := Lib.hid (HB.out.trans (hb.mono HB.out.size))
      clear HB hb
      have HB := HBn
      clear HBn
      clear HS
      go_wp2_with fail
      refine (awake_any _ HG.out).mono ?_
      rintro e w2 ⟨rfl, hb⟩
      have X1n := Lib.hid (X1.out.ext hb)
      clear X1
      have X1 := X1n
      clear X1n
      have HGn := Lib.hid (HG.out.ext hb)
      clear HG
      have HG := HGn
      clear HGn
      have HBn := Lib.hid (HB.out.trans (hb.mono HB.out.size))
      clear HB hb
      have HB := HBn
      clear HBn
      go_wp2
      go_ret
      exact ⟨rfl, HB.out⟩
    · have HS := Lib.hid (short_box X1.out _ s2)
      clear s2
      go_enter Try.func4, Try.ntmps4
      have x1f0 := X1.out.c0
      have x1f1 := X1.out.c1
      have x1f2 := X1.out.c2
      have x1f3 := X1.out.c3
      go_wp2_with fail
      refine (HS.out).mono ?_
      rintro e w1 ⟨rfl, hb⟩
      clear x1f0 x1f1 x1f2 x1f3
      have X1n := Lib.hid (X1.out.ext hb)
      clear X1
      have X1 := X1n
      clear X1n
      have HGn := Lib.hid (HG.out.ext hb)
      clear HG
      have HG := HGn
      clear HGn
      have HBn := Lib.hid (HB.out.trans (hb.mono HB.out.size))
      clear HB hb
      have HB := HBn
      clear HBn
      clear HS
      go_wp2_with fail
      refine (HP.out _ HG.out).mono ?_
      rintro e w2 ⟨Ap, ap, Bp, bp, Cp, cp, rfl, htp, hb⟩
      dsimp only [totV]
      have X1n := Lib.hid ((X1.out.ext hb).alloc (.cells #[.slice Ap u.hood.length ap, .int .i64 u.states, .slice Bp u.birth.length bp, .slice Cp u.survive.length cp] 25))
      clear X1
      have X1 := X1n
      clear X1n
      have X5 := Lib.hid (Box.new htp ap bp cp)
      have HGn := Lib.hid ((HG.out.ext hb).ext (below_new w2 (.cells #[.slice Ap u.hood.length ap, .int .i64 u.states, .slice Bp u.birth.length bp, .slice Cp u.survive.length cp] 25)))
      clear HG
      have HG := HGn
      clear HGn
      have HBn := Lib.hid (Below.alloc (HB.out.trans (hb.mono HB.out.size)) (HB.out.trans (hb.mono HB.out.size)).size (.cells #[.slice Ap u.hood.length ap, .int .i64 u.states, .slice Bp u.birth.length bp, .slice Cp u.survive.length cp] 25))
      clear HB htp hb
      have HB := HBn
      clear HBn
      go_wp2_with fail
      refine (HQ.out _).mono ?_
      rintro e w3 ⟨Aq, aq, Bq, bq, Cq, cq, rfl, htq, hb⟩
      dsimp only [totV]
      have X1n := Lib.hid ((X1.out.ext hb).alloc (.cells #[.slice Aq u.hood.length aq, .int .i64 u.states, .slice Bq u.birth.length bq, .slice Cq u.survive.length cq] 25))
      clear X1
      have X1 := X1n
      clear X1n
      have X5n := Lib.hid ((X5.out.ext hb).alloc (.cells #[.slice Aq u.hood.length aq, .int .i64 u.states, .slice Bq u.birth.length bq, .slice Cq u.survive.length cq] 25))
      clear X5
      have X5 := X5n
      clear X5n
      have X7 := Lib.hid (Box.new htq aq bq cq)
      have HGn := Lib.hid ((HG.out.ext hb).ext (below_new w3 (.cells #[.slice Aq u.hood.length aq, .int .i64 u.states, .slice Bq u.birth.length bq, .slice Cq u.survive.length cq] 25)))
      clear HG
      have HG := HGn
      clear HGn
      have HBn := Lib.hid (Below.alloc (HB.out.trans (hb.mono HB.out.size)) (HB.out.trans (hb.mono HB.out.size)).size (.cells #[.slice Aq u.hood.length aq, .int .i64 u.states, .slice Bq u.birth.length bq, .slice Cq u.survive.length cq] 25))
      clear HB htq hb
      have HB := HBn
      clear HBn
      have k0 := cell_regrown X1.out.c0
      have k1 := cell_regrown X1.out.c1
      have k2 := cell_regrown X1.out.c2
      have k3 := cell_regrown X1.out.c3
      have i0 := cell_regrown X5.out.c0
      have i1 := cell_regrown X5.out.c1
      have i2 := cell_regrown X5.out.c2
      have i3 := cell_regrown X5.out.c3
      have j0 := cell_regrown X7.out.c0
      have j1 := cell_regrown X7.out.c1
      have j2 := cell_regrown X7.out.c2
      have j3 := cell_regrown X7.out.c3
      have cS := fun d os => Calls.regrown_of (rsame_any Ap Bp Cp Aq Bq Cq ap bp cp aq bq cq u u _ (X5.out.tot.ext (below_regrown _ d os)) (X7.out.tot.ext (below_regrown _ d os)))
      rw [sameT_refl] at cS
      have cT := fun d os => Calls.regrown_of (text_any A B C a b c t _ (X1.out.tot.ext (below_regrown _ d os)))
      have cU := fun d os => Calls.regrown_of (rtext_any A B C a b c t _ (X1.out.tot.ext (below_regrown _ d os)))
      have cA := fun d os => Calls.regrown_of (awake_any _ (HG.out.ext (below_regrown _ d os)))
      unfold totV at *
      generalize (ByteArray.mk (textL t).toArray) = x at *
      have CS := Lib.hid cS
      have CT := Lib.hid cT
      have CU := Lib.hid cU
      have CA := Lib.hid cA
      clear cS cT cU cA
      go_wp2_with fail
      refine wp_region_quiet_below (by kernel_rfl) (by kernel_rfl) ?_
      repeat (go_big_quiet_step (first | with_reducible exact CS.out _ _ | with_reducible exact CT.out _ _ | with_reducible exact CU.out _ _ | with_reducible exact CA.out _ _))
      refine wpQuiet_nil ?_
      intro _ hw'
      obtain ⟨⟨dq, osq⟩, hw''⟩ := hw'
      subst hw''
      go_wp2
      go_ret
      exact ⟨rfl, HB.out.trans ((below_regrown _ dq osq).mono HB.out.size)⟩
  · have d1 : decide ((200 : Int) < (s.size : Int)) = true := by simp; omega
    clear hr hlen
    go_enter Try.func4, Try.ntmps4
    go_wp2_with fail
    refine (awake_any _ HG.out).mono ?_
    rintro e w1 ⟨rfl, hb⟩
    have X1n := Lib.hid (X1.out.ext hb)
    clear X1
    have X1 := X1n
    clear X1n
    have HGn := Lib.hid (HG.out.ext hb)
    clear HG
    have HG := HGn
    clear HGn
    have HBn := Lib.hid (HB.out.trans (hb.mono HB.out.size))
    clear HB hb
    have HB := HBn
    clear HBn
    go_wp2
    go_ret
    exact ⟨rfl, HB.out⟩
end Go.Proofs.Ytnobnlbjgaanmaa
