/-
  cellularlaw08.LifelikeRoundTrip: the walk. No condition but that the package's variables are there.
-/
import Derived.Test.YtnobnlbjgaanmaaLaw1
import Derived.Test.YtnobnlbjgaanmaaPlain2
namespace Go.Proofs.Ytnobnlbjgaanmaa
open Go.RowKit
set_option linter.unusedVariables false
set_option linter.unusedSimpArgs false

theorem str_ne {l : List UInt8} (h : l ≠ []) : (ByteArray.mk l.toArray).toList.isEmpty = false := by
  rw [ByteArray.toList_eq]
  cases l with
  | nil => exact absurd rfl h
  | cons a r => rfl
set_option maxHeartbeats 4000000 in
theorem law3_any (s : ByteArray) (A B C : Option Addr) (a b c : Nat) (t : TotL) (w : World) (hg : Glob w) (ht : TotR w A B C t) :
    Calls Try.prog 5 #[totV A a B b C c t, .string s] w fun e w' => e = .returned (.bool true) ∧ Below w.heap.size w w' := by
  have hb0 := below_new w (.cells #[.slice A t.hood.length a, .int .i64 t.states, .slice B t.birth.length b, .slice C t.survive.length c] 25)
  have X1 := Lib.hid (Box.new ht a b c)
  have HB := Lib.hid hb0
  have HG := Lib.hid (hg.ext hb0)
  clear hb0 ht hg
  unfold totV at *
  have hlen : s.data.toList.length = s.size := (Lib.size_eq s).symm
  obtain ⟨u, er, hr⟩ : ∃ u er, parseL s.data.toList = (u, er) := ⟨_, _, rfl⟩
  cases s2 : shortT t
  · have HS := Lib.hid (short_box X1.out _ s2)
    clear s2
    go_enter Try.func5, Try.ntmps5
    have x1f0 := X1.out.c0
    have x1f1 := X1.out.c1
    have x1f2 := X1.out.c2
    have x1f3 := X1.out.c3
    go_wp2_with fail
    refine (HS.out).mono ?_
    rintro e w1 ⟨rfl, hb⟩
    clear x1f0 x1f1 x1f2 x1f3
    have X1n := Lib.hid (X1.out.ext hb)
    clear X1
    have X1 := X1n
    clear X1n
    have HGn := Lib.hid (HG.out.ext hb)
    clear HG
    have HG := HGn
    clear HGn
    have HBn := Lib.hid (HB.out.trans (hb.mono HB.out.size))
    clear HB hb
    have HB := HBn
    clear HBn
    clear HS
    go_wp2_with fail
    refine (awake_any _ HG.out).mono ?_
    rintro e w2 ⟨rfl, hb⟩
    have X1n := Lib.hid (X1.out.ext hb)
    clear X1
    have X1 := X1n
    clear X1n
    have HGn := Lib.hid (HG.out.ext hb)
    clear HG
    have HG := HGn
    clear HGn
    have HBn := Lib.hid (HB.out.trans (hb.mono HB.out.size))
    clear HB hb
    have HB := HBn
    clear HBn
    go_wp2
    go_ret
    exact ⟨rfl, HB.out⟩
  have HS := Lib.hid (short_box X1.out _ s2)
  clear s2
  by_cases hs : s.size ≤ 200
  · have d1 : decide ((200 : Int) < (s.size : Int)) = false := by simp; omega
    have HP := Lib.hid (fun W hW => parse_any s W hW (by omega))
    rw [hr] at HP
    have es : (⟨s.data.toList.toArray⟩ : ByteArray) = s := by simp
    have HX : er = 0 → textL u = s.data.toList ∧ rightT u = true := fun e => text_parse (s := s.data.toList) (u := u) (hr.trans (by rw [e]))
    have HX2 : Hid (er = 0 → ByteArray.mk (textL u).toArray = s ∧ rightT u = true) := Lib.hid fun e => ⟨(congrArg (fun l : List UInt8 => ByteArray.mk l.toArray) (HX e).1).trans es, (HX e).2⟩
    clear HX
    have HX := HX2
    clear HX2 hr hlen es
    have HTX := Lib.hid (fun W hW => text_any A B C a b c t W hW)
    by_cases hx : textL t = []
    · have ex : (ByteArray.mk (textL t).toArray) = ⟨#[]⟩ := by rw [hx]
      rw [ex] at HTX
      clear ex hx
      unfold totV at HTX
      go_enter Try.func5, Try.ntmps5
      have x1f0 := X1.out.c0
      have x1f1 := X1.out.c1
      have x1f2 := X1.out.c2
      have x1f3 := X1.out.c3
      go_wp2_with fail
      refine (HS.out).mono ?_
      rintro e w1 ⟨rfl, hb⟩
      clear x1f0 x1f1 x1f2 x1f3
      have X1n := Lib.hid (X1.out.ext hb)
      clear X1
      have X1 := X1n
      clear X1n
      have HGn := Lib.hid (HG.out.ext hb)
      clear HG
      have HG := HGn
      clear HGn
      have HBn := Lib.hid (HB.out.trans (hb.mono HB.out.size))
      clear HB hb
      have HB := HBn
      clear HBn
      clear HS
      have x1f0 := X1.out.c0
      have x1f1 := X1.out.c1
      have x1f2 := X1.out.c2
      have x1f3 := X1.out.c3
      go_wp2_with fail
      refine (HTX.out _ X1.out.tot).mono ?_
      rintro e w2 ⟨rfl, hb⟩
      clear x1f0 x1f1 x1f2 x1f3
      have X1n := Lib.hid (X1.out.ext hb)
      clear X1
      have X1 := X1n
      clear X1n
      have HGn := Lib.hid (HG.out.ext hb)
      clear HG
      have HG := HGn
      clear HGn
      have HBn := Lib.hid (HB.out.trans (hb.mono HB.out.size))
      clear HB hb
      have HB := HBn
      clear HBn
      go_wp2_with fail
      refine (HP.out _ HG.out).mono ?_
      rintro e w3 ⟨Aq, aq, Bq, bq, Cq, cq, rfl, htq, hb⟩
      dsimp only [totV]
      have X1n := Lib.hid ((X1.out.ext hb).alloc (.cells #[.slice Aq u.hood.length aq, .int .i64 u.states, .slice Bq u.birth.length bq, .slice Cq u.survive.length cq] 25))
      clear X1
      have X1 := X1n
      clear X1n
      have X8 := Lib.hid (Box.new htq aq bq cq)
      have HGn := Lib.hid ((HG.out.ext hb).ext (below_new w3 (.cells #[.slice Aq u.hood.length aq, .int .i64 u.states, .slice Bq u.birth.length bq, .slice Cq u.survive.length cq] 25)))
      clear HG
      have HG := HGn
      clear HGn
      have HBn := Lib.hid (Below.alloc (HB.out.trans (hb.mono HB.out.size)) (HB.out.trans (hb.mono HB.out.size)).size (.cells #[.slice Aq u.hood.length aq, .int .i64 u.states, .slice Bq u.birth.length bq, .slice Cq u.survive.length cq] 25))
      clear HB htq hb
      have HB := HBn
      clear HBn
      cases z1 : (er == 0)
      · have d3 : (er != 0) = true := by simpa [bne] using z1
        have Z1 := Lib.hid z1
        clear z1
        go_wp2_with fail
        refine (awake_any _ HG.out).mono ?_
        rintro e w4 ⟨rfl, hb⟩
        have X1n := Lib.hid (X1.out.ext hb)
        clear X1
        have X1 := X1n
        clear X1n
        have X8n := Lib.hid (X8.out.ext hb)
        clear X8
        have X8 := X8n
        clear X8n
        have HGn := Lib.hid (HG.out.ext hb)
        clear HG
        have HG := HGn
        clear HGn
        have HBn := Lib.hid (HB.out.trans (hb.mono HB.out.size))
        clear HB hb
        have HB := HBn
        clear HBn
        go_wp2
        go_ret
        exact ⟨rfl, HB.out⟩
      · have d3 : (er != 0) = false := by simpa [bne] using z1
        have e0 : er = 0 := by simpa using z1
        have TP := Lib.hid (HX.out e0)
        have HT := Lib.hid (text_any Aq Bq Cq aq bq cq u _ X8.out.tot)
        rw [TP.out.1] at HT
        have Z1 := Lib.hid e0
        clear z1 e0
        unfold totV at HT
        have x8f0 := X8.out.c0
        have x8f1 := X8.out.c1
        have x8f2 := X8.out.c2
        have x8f3 := X8.out.c3
        go_wp2_with fail
        refine (HT.out).mono ?_
        rintro e w4 ⟨rfl, hb⟩
        clear x8f0 x8f1 x8f2 x8f3
        have X1n := Lib.hid (X1.out.ext hb)
        clear X1
        have X1 := X1n
        clear X1n
        have X8n := Lib.hid (X8.out.ext hb)
        clear X8
        have X8 := X8n
        clear X8n
        have HGn := Lib.hid (HG.out.ext hb)
        clear HG
        have HG := HGn
        clear HGn
        have HBn := Lib.hid (HB.out.trans (hb.mono HB.out.size))
        clear HB hb
        have HB := HBn
        clear HBn
        have HR := Lib.hid (right_any Aq Bq Cq aq bq cq u _ X8.out.tot)
        rw [TP.out.2] at HR
        unfold totV at HR
        clear HT
        have x8f0 := X8.out.c0
        have x8f1 := X8.out.c1
        have x8f2 := X8.out.c2
        have x8f3 := X8.out.c3
        go_wp2_with fail
        refine (HR.out).mono ?_
        rintro e w5 ⟨rfl, hb⟩
        clear x8f0 x8f1 x8f2 x8f3
        have X1n := Lib.hid (X1.out.ext hb)
        clear X1
        have X1 := X1n
        clear X1n
        have X8n := Lib.hid (X8.out.ext hb)
        clear X8
        have X8 := X8n
        clear X8n
        have HGn := Lib.hid (HG.out.ext hb)
        clear HG
        have HG := HGn
        clear HGn
        have HBn := Lib.hid (HB.out.trans (hb.mono HB.out.size))
        clear HB hb
        have HB := HBn
        clear HBn
        go_wp2_with fail
        refine (awake_any _ HG.out).mono ?_
        rintro e w6 ⟨rfl, hb⟩
        have X1n := Lib.hid (X1.out.ext hb)
        clear X1
        have X1 := X1n
        clear X1n
        have X8n := Lib.hid (X8.out.ext hb)
        clear X8
        have X8 := X8n
        clear X8n
        have HGn := Lib.hid (HG.out.ext hb)
        clear HG
        have HG := HGn
        clear HGn
        have HBn := Lib.hid (HB.out.trans (hb.mono HB.out.size))
        clear HB hb
        have HB := HBn
        clear HBn
        go_wp2
        go_ret
        exact ⟨rfl, HB.out⟩
    · have dx := str_ne hx
      have HK := text_some hx
      have hpt := parse_text HK.1 HK.2
      have hxl : (textL t).length ≤ 2147483648 := by
        have RS := right_spec HK.1
        unfold textL
        have hl := letter_len t.hood
        have hl2 : (letterS t.hood).data.toList.length ≤ 1 := by rw [← Lib.size_eq]; exact hl
        split <;> simp <;> simp at hl2 <;> omega
      have HV := Lib.hid (fun W hW => parse_any ⟨(textL t).toArray⟩ W hW (by simpa using hxl))
      have epx : (ByteArray.mk (textL t).toArray).data.toList = textL t := by simp
      rw [epx, hpt] at HV
      have RT := Lib.hid HK.1
      clear hx HK hpt hxl epx
      unfold totV at HTX
      generalize (ByteArray.mk (textL t).toArray) = x at *
      go_enter Try.func5, Try.ntmps5
      have x1f0 := X1.out.c0
      have x1f1 := X1.out.c1
      have x1f2 := X1.out.c2
      have x1f3 := X1.out.c3
      go_wp2_with fail
      refine (HS.out).mono ?_
      rintro e w1 ⟨rfl, hb⟩
      clear x1f0 x1f1 x1f2 x1f3
      have X1n := Lib.hid (X1.out.ext hb)
      clear X1
      have X1 := X1n
      clear X1n
      have HGn := Lib.hid (HG.out.ext hb)
      clear HG
      have HG := HGn
      clear HGn
      have HBn := Lib.hid (HB.out.trans (hb.mono HB.out.size))
      clear HB hb
      have HB := HBn
      clear HBn
      clear HS
      have x1f0 := X1.out.c0
      have x1f1 := X1.out.c1
      have x1f2 := X1.out.c2
      have x1f3 := X1.out.c3
      go_wp2_with fail
      refine (HTX.out _ X1.out.tot).mono ?_
      rintro e w2 ⟨rfl, hb⟩
      clear x1f0 x1f1 x1f2 x1f3
      have X1n := Lib.hid (X1.out.ext hb)
      clear X1
      have X1 := X1n
      clear X1n
      have HGn := Lib.hid (HG.out.ext hb)
      clear HG
      have HG := HGn
      clear HGn
      have HBn := Lib.hid (HB.out.trans (hb.mono HB.out.size))
      clear HB hb
      have HB := HBn
      clear HBn
      go_wp2_with fail
      refine (HV.out _ HG.out).mono ?_
      rintro e w3 ⟨Ap, ap, Bp, bp, Cp, cp, rfl, htp, hb⟩
      dsimp only [totV]
      have X1n := Lib.hid ((X1.out.ext hb).alloc (.cells #[.slice Ap t.hood.length ap, .int .i64 t.states, .slice Bp t.birth.length bp, .slice Cp t.survive.length cp] 25))
      clear X1
      have X1 := X1n
      clear X1n
      have X6 := Lib.hid (Box.new htp ap bp cp)
      have HGn := Lib.hid ((HG.out.ext hb).ext (below_new w3 (.cells #[.slice Ap t.hood.length ap, .int .i64 t.states, .slice Bp t.birth.length bp, .slice Cp t.survive.length cp] 25)))
      clear HG
      have HG := HGn
      clear HGn
      have HBn := Lib.hid (Below.alloc (HB.out.trans (hb.mono HB.out.size)) (HB.out.trans (hb.mono HB.out.size)).size (.cells #[.slice Ap t.hood.length ap, .int .i64 t.states, .slice Bp t.birth.length bp, .slice Cp t.survive.length cp] 25))
      clear HB htp hb
      have HB := HBn
      clear HBn
      have HM := Lib.hid (same_any A B C Ap Bp Cp a b c ap bp cp t t _ X1.out.tot X6.out.tot)
      rw [sameT_refl] at HM
      unfold totV at HM
      have x1f0 := X1.out.c0
      have x1f1 := X1.out.c1
      have x1f2 := X1.out.c2
      have x1f3 := X1.out.c3
      have x6f0 := X6.out.c0
      have x6f1 := X6.out.c1
      have x6f2 := X6.out.c2
      have x6f3 := X6.out.c3
      go_wp2_with fail
      refine (HM.out).mono ?_
      rintro e w4 ⟨rfl, hb⟩
      clear x1f0 x1f1 x1f2 x1f3 x6f0 x6f1 x6f2 x6f3
      have X1n := Lib.hid (X1.out.ext hb)
      clear X1
      have X1 := X1n
      clear X1n
      have X6n := Lib.hid (X6.out.ext hb)
      clear X6
      have X6 := X6n
      clear X6n
      have HGn := Lib.hid (HG.out.ext hb)
      clear HG
      have HG := HGn
      clear HGn
      have HBn := Lib.hid (HB.out.trans (hb.mono HB.out.size))
      clear HB hb
      have HB := HBn
      clear HBn
      clear HM
      have HR := Lib.hid (right_any A B C a b c t _ X1.out.tot)
      rw [RT.out] at HR
      unfold totV at HR
      have x1f0 := X1.out.c0
      have x1f1 := X1.out.c1
      have x1f2 := X1.out.c2
      have x1f3 := X1.out.c3
      go_wp2_with fail
      refine (HR.out).mono ?_
      rintro e w5 ⟨rfl, hb⟩
      clear x1f0 x1f1 x1f2 x1f3
      have X1n := Lib.hid (X1.out.ext hb)
      clear X1
      have X1 := X1n
      clear X1n
      have X6n := Lib.hid (X6.out.ext hb)
      clear X6
      have X6 := X6n
      clear X6n
      have HGn := Lib.hid (HG.out.ext hb)
      clear HG
      have HG := HGn
      clear HGn
      have HBn := Lib.hid (HB.out.trans (hb.mono HB.out.size))
      clear HB hb
      have HB := HBn
      clear HBn
      clear HR
      go_wp2_with fail
      refine (HP.out _ HG.out).mono ?_
      rintro e w6 ⟨Aq, aq, Bq, bq, Cq, cq, rfl, htq, hb⟩
      dsimp only [totV]
      have X1n := Lib.hid ((X1.out.ext hb).alloc (.cells #[.slice Aq u.hood.length aq, .int .i64 u.states, .slice Bq u.birth.length bq, .slice Cq u.survive.length cq] 25))
      clear X1
      have X1 := X1n
      clear X1n
      have X6n := Lib.hid ((X6.out.ext hb).alloc (.cells #[.slice Aq u.hood.length aq, .int .i64 u.states, .slice Bq u.birth.length bq, .slice Cq u.survive.length cq] 25))
      clear X6
      have X6 := X6n
      clear X6n
      have X8 := Lib.hid (Box.new htq aq bq cq)
      have HGn := Lib.hid ((HG.out.ext hb).ext (below_new w6 (.cells #[.slice Aq u.hood.length aq, .int .i64 u.states, .slice Bq u.birth.length bq, .slice Cq u.survive.length cq] 25)))
      clear HG
      have HG := HGn
      clear HGn
      have HBn := Lib.hid (Below.alloc (HB.out.trans (hb.mono HB.out.size)) (HB.out.trans (hb.mono HB.out.size)).size (.cells #[.slice Aq u.hood.length aq, .int .i64 u.states, .slice Bq u.birth.length bq, .slice Cq u.survive.length cq] 25))
      clear HB htq hb
      have HB := HBn
      clear HBn
      cases z1 : (er == 0)
      · have d3 : (er != 0) = true := by simpa [bne] using z1
        have Z1 := Lib.hid z1
        clear z1
        go_wp2_with fail
        refine (awake_any _ HG.out).mono ?_
        rintro e w7 ⟨rfl, hb⟩
        have X1n := Lib.hid (X1.out.ext hb)
        clear X1
        have X1 := X1n
        clear X1n
        have X6n := Lib.hid (X6.out.ext hb)
        clear X6
        have X6 := X6n
        clear X6n
        have X8n := Lib.hid (X8.out.ext hb)
        clear X8
        have X8 := X8n
        clear X8n
        have HGn := Lib.hid (HG.out.ext hb)
        clear HG
        have HG := HGn
        clear HGn
        have HBn := Lib.hid (HB.out.trans (hb.mono HB.out.size))
        clear HB hb
        have HB := HBn
        clear HBn
        go_wp2
        go_ret
        exact ⟨rfl, HB.out⟩
      · have d3 : (er != 0) = false := by simpa [bne] using z1
        have e0 : er = 0 := by simpa using z1
        have TP := Lib.hid (HX.out e0)
        have HT := Lib.hid (text_any Aq Bq Cq aq bq cq u _ X8.out.tot)
        rw [TP.out.1] at HT
        have Z1 := Lib.hid e0
        clear z1 e0
        unfold totV at HT
        have x8f0 := X8.out.c0
        have x8f1 := X8.out.c1
        have x8f2 := X8.out.c2
        have x8f3 := X8.out.c3
        go_wp2_with fail
        refine (HT.out).mono ?_
        rintro e w7 ⟨rfl, hb⟩
        clear x8f0 x8f1 x8f2 x8f3
        have X1n := Lib.hid (X1.out.ext hb)
        clear X1
        have X1 := X1n
        clear X1n
        have X6n := Lib.hid (X6.out.ext hb)
        clear X6
        have X6 := X6n
        clear X6n
        have X8n := Lib.hid (X8.out.ext hb)
        clear X8
        have X8 := X8n
        clear X8n
        have HGn := Lib.hid (HG.out.ext hb)
        clear HG
        have HG := HGn
        clear HGn
        have HBn := Lib.hid (HB.out.trans (hb.mono HB.out.size))
        clear HB hb
        have HB := HBn
        clear HBn
        have HR := Lib.hid (right_any Aq Bq Cq aq bq cq u _ X8.out.tot)
        rw [TP.out.2] at HR
        unfold totV at HR
        clear HT
        have x8f0 := X8.out.c0
        have x8f1 := X8.out.c1
        have x8f2 := X8.out.c2
        have x8f3 := X8.out.c3
        go_wp2_with fail
        refine (HR.out).mono ?_
        rintro e w8 ⟨rfl, hb⟩
        clear x8f0 x8f1 x8f2 x8f3
        have X1n := Lib.hid (X1.out.ext hb)
        clear X1
        have X1 := X1n
        clear X1n
        have X6n := Lib.hid (X6.out.ext hb)
        clear X6
        have X6 := X6n
        clear X6n
        have X8n := Lib.hid (X8.out.ext hb)
        clear X8
        have X8 := X8n
        clear X8n
        have HGn := Lib.hid (HG.out.ext hb)
        clear HG
        have HG := HGn
        clear HGn
        have HBn := Lib.hid (HB.out.trans (hb.mono HB.out.size))
        clear HB hb
        have HB := HBn
        clear HBn
        go_wp2_with fail
        refine (awake_any _ HG.out).mono ?_
        rintro e w9 ⟨rfl, hb⟩
        have X1n := Lib.hid (X1.out.ext hb)
        clear X1
        have X1 := X1n
        clear X1n
        have X6n := Lib.hid (X6.out.ext hb)
        clear X6
        have X6 := X6n
        clear X6n
        have X8n := Lib.hid (X8.out.ext hb)
        clear X8
        have X8 := X8n
        clear X8n
        have HGn := Lib.hid (HG.out.ext hb)
        clear HG
        have HG := HGn
        clear HGn
        have HBn := Lib.hid (HB.out.trans (hb.mono HB.out.size))
        clear HB hb
        have HB := HBn
        clear HBn
        go_wp2
        go_ret
        exact ⟨rfl, HB.out⟩
  · have d1 : decide ((200 : Int) < (s.size : Int)) = true := by simp; omega
    clear hr hlen
    go_enter Try.func5, Try.ntmps5
    have x1f0 := X1.out.c0
    have x1f1 := X1.out.c1
    have x1f2 := X1.out.c2
    have x1f3 := X1.out.c3
    go_wp2_with fail
    refine (HS.out).mono ?_
    rintro e w1 ⟨rfl, hb⟩
    clear x1f0 x1f1 x1f2 x1f3
    have X1n := Lib.hid (X1.out.ext hb)
    clear X1
    have X1 := X1n
    clear X1n
    have HGn := Lib.hid (HG.out.ext hb)
    clear HG
    have HG := HGn
    clear HGn
    have HBn := Lib.hid (HB.out.trans (hb.mono HB.out.size))
    clear HB hb
    have HB := HBn
    clear HBn
    clear HS
    go_wp2_with fail
    refine (awake_any _ HG.out).mono ?_
    rintro e w2 ⟨rfl, hb⟩
    have X1n := Lib.hid (X1.out.ext hb)
    clear X1
    have X1 := X1n
    clear X1n
    have HGn := Lib.hid (HG.out.ext hb)
    clear HG
    have HG := HGn
    clear HGn
    have HBn := Lib.hid (HB.out.trans (hb.mono HB.out.size))
    clear HB hb
    have HB := HBn
    clear HBn
    go_wp2
    go_ret
    exact ⟨rfl, HB.out⟩
end Go.Proofs.Ytnobnlbjgaanmaa
