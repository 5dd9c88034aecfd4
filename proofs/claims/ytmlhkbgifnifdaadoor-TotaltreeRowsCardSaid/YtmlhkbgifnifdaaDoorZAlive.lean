/-
  The chapter's examples: the walk. No condition but that the library's table is there.
-/
import Derived.Test.YtmlhkbgifnifdaaDoorZG24
namespace Go.Proofs.YtmlhkbgifnifdaaDoor
open Go.RowKit Go.Maps
set_option maxRecDepth 100000
set_option linter.unusedVariables false
set_option linter.unusedSimpArgs false
set_option maxHeartbeats 16000000 in
theorem alive_any (w : World) (ht : TabB w.heap.size w) : Calls Tryd.prog 8 #[] w fun e w' => e = .returned (.bool true) ∧ Below w.heap.size w w' := by
  have HTAB := Lib.hid ht
  have HB : Hid (Below w.heap.size w w) := Lib.hid (Below.refl _ _)
  have HML := Lib.hid (rmoore_one w)
  clear ht
  go_enter Tryd.func8, Tryd.ntmps8
  go_wp2_with (go_at_call 23; refine HML.out.mono ?_; rintro e x0 ⟨A0, c0, rfl, hp0, -, hb⟩; refine Hid.out ?_)
  refine Lib.hid ?_
  obtain ⟨n0, hn0⟩ : ∃ n0, n0 = (mooreL 1).length := ⟨_, rfl⟩
  rw [← hn0]
  clear HML
  have HBx := Lib.hid (HB.out.trans (hb.mono HB.out.size))
  clear HB
  have HB := HBx
  clear HBx
  obtain ⟨y0, hw⟩ : ∃ W, W = ((x0.alloc (.cells #[.int .i64 3] 3)).alloc (.cells #[.int .i64 2, .int .i64 3] 3)).alloc (.cells #[.slice A0 n0 c0, .int .i64 2, .slice (some ⟨x0.heap.size, 0, none⟩) 1 1, .slice (some ⟨x0.heap.size + 1, 0, none⟩) 2 2] 25) := ⟨_, rfl⟩
  obtain ⟨pL, hpL⟩ : ∃ p, p = x0.heap.size + 1 + 1 := ⟨_, rfl⟩
  obtain ⟨BL, hBL⟩ : ∃ b : Option Addr, b = some ⟨x0.heap.size, 0, none⟩ := ⟨_, rfl⟩
  obtain ⟨CL, hCL⟩ : ∃ b : Option Addr, b = some ⟨x0.heap.size + 1, 0, none⟩ := ⟨_, rfl⟩
  obtain ⟨hb1, hL⟩ := lit_life x0 y0 A0 n0 c0 hn0 hp0 hw
  rw [← hBL, ← hCL, ← hpL] at hL
  rw [← hBL, ← hCL] at hw
  clear hb hn0 hp0
  have HBx := Lib.hid (HB.out.trans (hb1.mono HB.out.size))
  clear HB
  have HB := HBx
  clear HBx
  have HL := Lib.hid hL
  clear hb1 hL
  have HW := Lib.hid (And.intro hw (And.intro hpL (And.intro hBL hCL)))
  clear hw hpL hBL hCL
  go_upto_region 2 with fail
  rw [← HW.out.2.1, ← HW.out.2.2.1, ← HW.out.2.2.2, ← HW.out.1]
  clear HW
  obtain ⟨cL0, cL1, cL2, cL3⟩ := HL.out.cells
  have hcall := totals_tv HL.out ((HTAB.out.on HB.out).up HB.out.size)
  rw [life_tot] at hcall
  have HCALL := Lib.hid hcall
  clear hcall
  go_wp2_with (go_at_call 9; refine HCALL.out.mono ?_; intro e x1 hx; obtain ⟨s1, A1, n1, c1, B1, m1, d1, rfl, hat, hb⟩ := hx; refine Hid.out ?_)
  refine Lib.hid ?_
  have HBx := Lib.hid (HB.out.trans (hb.mono HB.out.size))
  clear HB
  have HB := HBx
  clear HBx
  have Hx := Lib.hid (HL.out.ext hb)
  clear HL
  have HL := Hx
  clear Hx
  clear hb HCALL
  clear cL0 cL1 cL2 cL3
  obtain ⟨y1, hw⟩ : ∃ W, W = x1.alloc (.cells #[.int .i64 s1, .slice A1 n1 c1, .slice B1 m1 d1] 31) := ⟨_, rfl⟩
  obtain ⟨pT, hp⟩ : ∃ p, p = x1.heap.size := ⟨_, rfl⟩
  have hv := TrV.new hat
  rw [← hw, ← hp] at hv
  have hb : Below x1.heap.size x1 y1 := by rw [hw]; exact below_new _ _
  have HBx := Lib.hid (HB.out.trans (hb.mono HB.out.size))
  clear HB
  have HB := HBx
  clear HBx
  have Hx := Lib.hid (HL.out.ext hb)
  clear HL
  have HL := Hx
  clear Hx
  have HT := Lib.hid hv
  clear hv hb hat
  go_upto_region 3 with fail
  rw [← hw, ← hp]
  clear hw hp
  have hcall := telem_any 0 y1 ((HTAB.out.on HB.out).up HB.out.size)
  rw [zero_tot] at hcall
  have HCALL := Lib.hid hcall
  clear hcall
  go_wp2_with (go_at_call 17; refine HCALL.out.mono ?_; intro e x2 hx; obtain ⟨s2, A2, n2, c2, B2, m2, d2, rfl, hat, hb⟩ := hx; refine Hid.out ?_)
  refine Lib.hid ?_
  have HBx := Lib.hid (HB.out.trans (hb.mono HB.out.size))
  clear HB
  have HB := HBx
  clear HBx
  have Hx := Lib.hid (HT.out.ext hb)
  clear HT
  have HT := Hx
  clear Hx
  have Hx := Lib.hid (HL.out.ext hb)
  clear HL
  have HL := Hx
  clear Hx
  clear hb HCALL
  obtain ⟨y2, hw⟩ : ∃ W, W = x2.alloc (.cells #[.int .i64 s2, .slice A2 n2 c2, .slice B2 m2 d2] 31) := ⟨_, rfl⟩
  obtain ⟨pZ, hp⟩ : ∃ p, p = x2.heap.size := ⟨_, rfl⟩
  have hv := TrV.new hat
  rw [← hw, ← hp] at hv
  have hb : Below x2.heap.size x2 y2 := by rw [hw]; exact below_new _ _
  have HBx := Lib.hid (HB.out.trans (hb.mono HB.out.size))
  clear HB
  have HB := HBx
  clear HBx
  have Hx := Lib.hid (HT.out.ext hb)
  clear HT
  have HT := Hx
  clear Hx
  have Hx := Lib.hid (HL.out.ext hb)
  clear HL
  have HL := Hx
  clear Hx
  have HZ := Lib.hid hv
  clear hv hb hat
  go_upto_region 4 with fail
  rw [← hw, ← hp]
  clear hw hp
  have hcall := tsums_any 2 0 y2 ((HTAB.out.on HB.out).up HB.out.size) (by decide)
  rw [sums_tot] at hcall
  have HCALL := Lib.hid hcall
  clear hcall
  go_wp2_with (go_at_call 13; refine HCALL.out.mono ?_; intro e x3 hx; obtain ⟨s3, A3, n3, c3, B3, m3, d3, rfl, hat, hb⟩ := hx; refine Hid.out ?_)
  refine Lib.hid ?_
  have HBx := Lib.hid (HB.out.trans (hb.mono HB.out.size))
  clear HB
  have HB := HBx
  clear HBx
  have Hx := Lib.hid (HT.out.ext hb)
  clear HT
  have HT := Hx
  clear Hx
  have Hx := Lib.hid (HZ.out.ext hb)
  clear HZ
  have HZ := Hx
  clear Hx
  have Hx := Lib.hid (HL.out.ext hb)
  clear HL
  have HL := Hx
  clear Hx
  clear hb HCALL
  obtain ⟨y3, hw⟩ : ∃ W, W = x3.alloc (.cells #[.int .i64 s3, .slice A3 n3 c3, .slice B3 m3 d3] 31) := ⟨_, rfl⟩
  obtain ⟨pS, hp⟩ : ∃ p, p = x3.heap.size := ⟨_, rfl⟩
  have hv := TrV.new hat
  rw [← hw, ← hp] at hv
  have hb : Below x3.heap.size x3 y3 := by rw [hw]; exact below_new _ _
  have HBx := Lib.hid (HB.out.trans (hb.mono HB.out.size))
  clear HB
  have HB := HBx
  clear HBx
  have Hx := Lib.hid (HT.out.ext hb)
  clear HT
  have HT := Hx
  clear Hx
  have Hx := Lib.hid (HZ.out.ext hb)
  clear HZ
  have HZ := Hx
  clear Hx
  have Hx := Lib.hid (HL.out.ext hb)
  clear HL
  have HL := Hx
  clear Hx
  have HS := Lib.hid hv
  clear hv hb hat
  go_upto_region 5 with fail
  rw [← hw, ← hp]
  clear hw hp
  have HRW := Lib.hid (rrow_any y3)
  go_wp2_with (go_at_call 24; refine HRW.out.mono ?_; rintro e xr ⟨Ar, cr, rfl, hpr, -, hb⟩; refine Hid.out ?_)
  refine Lib.hid ?_
  obtain ⟨nr, hnr⟩ : ∃ nr, nr = rowP.length := ⟨_, rfl⟩
  rw [← hnr]
  clear HRW
  have HBx := Lib.hid (HB.out.trans (hb.mono HB.out.size))
  clear HB
  have HB := HBx
  clear HBx
  have Hx := Lib.hid (HT.out.ext hb)
  clear HT
  have HT := Hx
  clear Hx
  have Hx := Lib.hid (HZ.out.ext hb)
  clear HZ
  have HZ := Hx
  clear Hx
  have Hx := Lib.hid (HS.out.ext hb)
  clear HS
  have HS := Hx
  clear Hx
  have Hx := Lib.hid (HL.out.ext hb)
  clear HL
  have HL := Hx
  clear Hx
  obtain ⟨yr, hw⟩ : ∃ W, W = ((((xr.alloc (.cells #[.int .i64 0, .int .i64 0] 3)).alloc (.cells #[.int .i64 0, .int .i64 0] 3)).alloc (.cells #[.int .i64 1, .int .i64 1] 3)).alloc
        (.cells #[.int .i64 1, .slice (some ⟨xr.heap.size, 0, none⟩) 2 2, .int .i64 2, .slice (some ⟨xr.heap.size + 1, 0, none⟩) 2 2, .int .i64 3, .slice (some ⟨xr.heap.size + 1 + 1, 0, none⟩) 2 2] 59)).alloc
        (.cells #[.int .i64 2, .slice Ar nr cr, .slice (some ⟨xr.heap.size + 1 + 1 + 1, 0, none⟩) 3 3] 31) := ⟨_, rfl⟩
  obtain ⟨pW, hpW⟩ : ∃ p, p = xr.heap.size + 1 + 1 + 1 + 1 := ⟨_, rfl⟩
  obtain ⟨BW, hBW⟩ : ∃ b : Option Addr, b = some ⟨xr.heap.size + 1 + 1 + 1, 0, none⟩ := ⟨_, rfl⟩
  obtain ⟨hb1, hW⟩ := lit_want xr yr Ar nr cr hnr hpr hw
  rw [← hBW, ← hpW] at hW
  rw [← hBW] at hw
  clear hb hnr hpr
  have HBx := Lib.hid (HB.out.trans (hb1.mono HB.out.size))
  clear HB
  have HB := HBx
  clear HBx
  have Hx := Lib.hid (HT.out.ext hb1)
  clear HT
  have HT := Hx
  clear Hx
  have Hx := Lib.hid (HZ.out.ext hb1)
  clear HZ
  have HZ := Hx
  clear Hx
  have Hx := Lib.hid (HS.out.ext hb1)
  clear HS
  have HS := Hx
  clear Hx
  have Hx := Lib.hid (HL.out.ext hb1)
  clear HL
  have HL := Hx
  clear Hx
  have HW := Lib.hid hW
  clear hb1 hW
  have HWW := Lib.hid (And.intro hw (And.intro hpW hBW))
  clear hw hpW hBW
  go_upto_region 6 with fail
  rw [← HWW.out.2.1, ← HWW.out.2.2, ← HWW.out.1]
  clear HWW
  obtain ⟨cT0, cT1, cT2⟩ := HT.out.cells
  obtain ⟨wi1, hwi⟩ : ∃ W, W = yr.alloc (.cells #[.int .i64 1, .int .i64 1, .int .i64 1, .int .i64 0, .int .i64 0, .int .i64 0, .int .i64 0, .int .i64 0, .int .i64 0] 3) := ⟨_, rfl⟩
  have hri : Ints wi1 (some ⟨yr.heap.size, 0, none⟩) [1, 1, 1, 0, 0, 0, 0, 0, 0] := by rw [hwi]; exact OwnI.reads (ints9 yr 0 (Nat.zero_le _) 1 1 1 0 0 0 0 0 0)
  have hbi : Below yr.heap.size yr wi1 := by rw [hwi]; exact below_new _ _
  have HWI := Lib.hid hwi
  clear hwi
  have HBx := Lib.hid (HB.out.trans (hbi.mono HB.out.size))
  clear HB
  have HB := HBx
  clear HBx
  have Hx := Lib.hid (HT.out.ext hbi)
  clear HT
  have HT := Hx
  clear Hx
  have Hx := Lib.hid (HZ.out.ext hbi)
  clear HZ
  have HZ := Hx
  clear Hx
  have Hx := Lib.hid (HS.out.ext hbi)
  clear HS
  have HS := Hx
  clear Hx
  have Hx := Lib.hid (HW.out.ext hbi)
  clear HW
  have HW := Hx
  clear Hx
  have Hx := Lib.hid (HL.out.ext hbi)
  clear HL
  have HL := Hx
  clear Hx
  have hcall := eval_tv (cv := 9) HT.out.at_ hri
  rw [life_e1] at hcall
  have HCALL := Lib.hid hcall
  clear hcall
  go_wp2_with (go_at_call 10; rw [← HWI.out]; refine HCALL.out.mono ?_; intro e x4 hx; obtain ⟨rfl, hb⟩ := hx; refine Hid.out ?_)
  refine Lib.hid ?_
  have HBx := Lib.hid (HB.out.trans (hb.mono HB.out.size))
  clear HB
  have HB := HBx
  clear HBx
  have Hx := Lib.hid (HT.out.ext hb)
  clear HT
  have HT := Hx
  clear Hx
  have Hx := Lib.hid (HZ.out.ext hb)
  clear HZ
  have HZ := Hx
  clear Hx
  have Hx := Lib.hid (HS.out.ext hb)
  clear HS
  have HS := Hx
  clear Hx
  have Hx := Lib.hid (HW.out.ext hb)
  clear HW
  have HW := Hx
  clear Hx
  have Hx := Lib.hid (HL.out.ext hb)
  clear HL
  have HL := Hx
  clear Hx
  clear hb HCALL
  clear cT0 cT1 cT2
  clear HWI hri hbi
  go_upto_region 7 with fail
  obtain ⟨cT0, cT1, cT2⟩ := HT.out.cells
  obtain ⟨wi2, hwi⟩ : ∃ W, W = x4.alloc (.cells #[.int .i64 1, .int .i64 1, .int .i64 1, .int .i64 0, .int .i64 1, .int .i64 1, .int .i64 1, .int .i64 0, .int .i64 0] 3) := ⟨_, rfl⟩
  have hri : Ints wi2 (some ⟨x4.heap.size, 0, none⟩) [1, 1, 1, 0, 1, 1, 1, 0, 0] := by rw [hwi]; exact OwnI.reads (ints9 x4 0 (Nat.zero_le _) 1 1 1 0 1 1 1 0 0)
  have hbi : Below x4.heap.size x4 wi2 := by rw [hwi]; exact below_new _ _
  have HWI := Lib.hid hwi
  clear hwi
  have HBx := Lib.hid (HB.out.trans (hbi.mono HB.out.size))
  clear HB
  have HB := HBx
  clear HBx
  have Hx := Lib.hid (HT.out.ext hbi)
  clear HT
  have HT := Hx
  clear Hx
  have Hx := Lib.hid (HZ.out.ext hbi)
  clear HZ
  have HZ := Hx
  clear Hx
  have Hx := Lib.hid (HS.out.ext hbi)
  clear HS
  have HS := Hx
  clear Hx
  have Hx := Lib.hid (HW.out.ext hbi)
  clear HW
  have HW := Hx
  clear Hx
  have Hx := Lib.hid (HL.out.ext hbi)
  clear HL
  have HL := Hx
  clear Hx
  have hcall := eval_tv (cv := 9) HT.out.at_ hri
  rw [life_e2] at hcall
  have HCALL := Lib.hid hcall
  clear hcall
  go_wp2_with (go_at_call 10; rw [← HWI.out]; refine HCALL.out.mono ?_; intro e x5 hx; obtain ⟨rfl, hb⟩ := hx; refine Hid.out ?_)
  refine Lib.hid ?_
  have HBx := Lib.hid (HB.out.trans (hb.mono HB.out.size))
  clear HB
  have HB := HBx
  clear HBx
  have Hx := Lib.hid (HT.out.ext hb)
  clear HT
  have HT := Hx
  clear Hx
  have Hx := Lib.hid (HZ.out.ext hb)
  clear HZ
  have HZ := Hx
  clear Hx
  have Hx := Lib.hid (HS.out.ext hb)
  clear HS
  have HS := Hx
  clear Hx
  have Hx := Lib.hid (HW.out.ext hb)
  clear HW
  have HW := Hx
  clear Hx
  have Hx := Lib.hid (HL.out.ext hb)
  clear HL
  have HL := Hx
  clear Hx
  clear hb HCALL
  clear cT0 cT1 cT2
  clear HWI hri hbi
  go_upto_region 8 with fail
  have hlf : ∃ lf, lf = lifeT := ⟨_, rfl⟩
  obtain ⟨lf, hlf⟩ := hlf
  obtain ⟨bz, hbz⟩ : ∃ bz, bz = backZ := ⟨_, rfl⟩
  have HBK1 : Hid (backP lifeU = (lf, true)) := Lib.hid (by rw [hlf]; exact life_bk)
  have HBK2 : Hid (backP zeroU = (bz, false)) := Lib.hid (by rw [hbz]; exact zero_bk)
  have HSL : Hid (sameTot lf lifeT = true) := Lib.hid (by rw [hlf]; exact life_same)
  clear hlf hbz
  obtain ⟨cT0, cT1, cT2⟩ := HT.out.cells
  have hcall := back_tv HT.out.at_ ((HTAB.out.on HB.out).up HB.out.size)
  rw [HBK1.out] at hcall
  have HCALL := Lib.hid hcall
  clear hcall
  go_wp2_with (go_at_call 25; refine HCALL.out.mono ?_; intro e x6 hx; obtain ⟨Ab1, ab1, Bb1, bb1, Cb1, cb1, rfl, htr, hb⟩ := hx; unfold totV; refine Hid.out ?_)
  refine Lib.hid ?_
  have HBx := Lib.hid (HB.out.trans (hb.mono HB.out.size))
  clear HB
  have HB := HBx
  clear HBx
  have Hx := Lib.hid (HT.out.ext hb)
  clear HT
  have HT := Hx
  clear Hx
  have Hx := Lib.hid (HZ.out.ext hb)
  clear HZ
  have HZ := Hx
  clear Hx
  have Hx := Lib.hid (HS.out.ext hb)
  clear HS
  have HS := Hx
  clear Hx
  have Hx := Lib.hid (HW.out.ext hb)
  clear HW
  have HW := Hx
  clear Hx
  have Hx := Lib.hid (HL.out.ext hb)
  clear HL
  have HL := Hx
  clear Hx
  clear hb HCALL
  clear cT0 cT1 cT2

  obtain ⟨z1, hw⟩ : ∃ W, W = x6.alloc (.cells #[.slice Ab1 lf.hood.length ab1, .int .i64 lf.states, .slice Bb1 lf.birth.length bb1, .slice Cb1 lf.survive.length cb1] 25) := ⟨_, rfl⟩
  obtain ⟨pX, hp⟩ : ∃ p, p = x6.heap.size := ⟨_, rfl⟩
  have hv := TtV.new (a := ab1) (b := bb1) (c := cb1) htr
  rw [← hw, ← hp] at hv
  have hb : Below x6.heap.size x6 z1 := by rw [hw]; exact below_new _ _
  have HBx := Lib.hid (HB.out.trans (hb.mono HB.out.size))
  clear HB
  have HB := HBx
  clear HBx
  have Hx := Lib.hid (HT.out.ext hb)
  clear HT
  have HT := Hx
  clear Hx
  have Hx := Lib.hid (HZ.out.ext hb)
  clear HZ
  have HZ := Hx
  clear Hx
  have Hx := Lib.hid (HS.out.ext hb)
  clear HS
  have HS := Hx
  clear Hx
  have Hx := Lib.hid (HW.out.ext hb)
  clear HW
  have HW := Hx
  clear Hx
  have Hx := Lib.hid (HL.out.ext hb)
  clear HL
  have HL := Hx
  clear Hx
  have HX := Lib.hid hv
  clear hv hb htr
  go_upto_region 9 with fail
  rw [← hw, ← hp]
  clear hw hp
  obtain ⟨cZ0, cZ1, cZ2⟩ := HZ.out.cells
  have hcall := back_tv HZ.out.at_ ((HTAB.out.on HB.out).up HB.out.size)
  rw [HBK2.out] at hcall
  have HCALL := Lib.hid hcall
  clear hcall
  go_wp2_with (go_at_call 25; refine HCALL.out.mono ?_; intro e x7 hx; obtain ⟨Ab2, ab2, Bb2, bb2, Cb2, cb2, rfl, htr, hb⟩ := hx; unfold totV; refine Hid.out ?_)
  refine Lib.hid ?_
  have HBx := Lib.hid (HB.out.trans (hb.mono HB.out.size))
  clear HB
  have HB := HBx
  clear HBx
  have Hx := Lib.hid (HT.out.ext hb)
  clear HT
  have HT := Hx
  clear Hx
  have Hx := Lib.hid (HZ.out.ext hb)
  clear HZ
  have HZ := Hx
  clear Hx
  have Hx := Lib.hid (HS.out.ext hb)
  clear HS
  have HS := Hx
  clear Hx
  have Hx := Lib.hid (HW.out.ext hb)
  clear HW
  have HW := Hx
  clear Hx
  have Hx := Lib.hid (HL.out.ext hb)
  clear HL
  have HL := Hx
  clear Hx
  have Hx := Lib.hid (HX.out.ext hb)
  clear HX
  have HX := Hx
  clear Hx
  clear hb HCALL
  clear cZ0 cZ1 cZ2

  obtain ⟨z2, hw⟩ : ∃ W, W = x7.alloc (.cells #[.slice Ab2 bz.hood.length ab2, .int .i64 bz.states, .slice Bb2 bz.birth.length bb2, .slice Cb2 bz.survive.length cb2] 25) := ⟨_, rfl⟩
  obtain ⟨pY, hp⟩ : ∃ p, p = x7.heap.size := ⟨_, rfl⟩
  have hv := TtV.new (a := ab2) (b := bb2) (c := cb2) htr
  rw [← hw, ← hp] at hv
  have hb : Below x7.heap.size x7 z2 := by rw [hw]; exact below_new _ _
  have HBx := Lib.hid (HB.out.trans (hb.mono HB.out.size))
  clear HB
  have HB := HBx
  clear HBx
  have Hx := Lib.hid (HT.out.ext hb)
  clear HT
  have HT := Hx
  clear Hx
  have Hx := Lib.hid (HZ.out.ext hb)
  clear HZ
  have HZ := Hx
  clear Hx
  have Hx := Lib.hid (HS.out.ext hb)
  clear HS
  have HS := Hx
  clear Hx
  have Hx := Lib.hid (HW.out.ext hb)
  clear HW
  have HW := Hx
  clear Hx
  have Hx := Lib.hid (HL.out.ext hb)
  clear HL
  have HL := Hx
  clear Hx
  have Hx := Lib.hid (HX.out.ext hb)
  clear HX
  have HX := Hx
  clear Hx
  have HY := Lib.hid hv
  clear hv hb htr
  go_upto_region 10 with fail
  rw [← hw, ← hp]
  clear hw hp
  have hzr : TotR z2 none none none TotL.zero := ⟨Pts.nil, Ints.nil, Ints.nil⟩
  have hcz := totals_any none none none 0 0 0 TotL.zero z2 hzr ((HTAB.out.on HB.out).up HB.out.size)
  rw [none_tot] at hcz
  unfold totV TotL.zero at hcz
  dsimp only at hcz
  have hcall := hcz
  have HCALL := Lib.hid hcall
  clear hcall
  go_wp2_with (go_at_call 9; refine HCALL.out.mono ?_; intro e x8 hx; obtain ⟨s8, A8, n8, c8, B8, m8, d8, rfl, hat, hb⟩ := hx; refine Hid.out ?_)
  refine Lib.hid ?_
  have HBx := Lib.hid (HB.out.trans (hb.mono HB.out.size))
  clear HB
  have HB := HBx
  clear HBx
  have Hx := Lib.hid (HT.out.ext hb)
  clear HT
  have HT := Hx
  clear Hx
  have Hx := Lib.hid (HZ.out.ext hb)
  clear HZ
  have HZ := Hx
  clear Hx
  have Hx := Lib.hid (HS.out.ext hb)
  clear HS
  have HS := Hx
  clear Hx
  have Hx := Lib.hid (HW.out.ext hb)
  clear HW
  have HW := Hx
  clear Hx
  have Hx := Lib.hid (HL.out.ext hb)
  clear HL
  have HL := Hx
  clear Hx
  have Hx := Lib.hid (HX.out.ext hb)
  clear HX
  have HX := Hx
  clear Hx
  have Hx := Lib.hid (HY.out.ext hb)
  clear HY
  have HY := Hx
  clear Hx
  clear hb HCALL
  clear hcz hzr
  obtain ⟨y8, hw⟩ : ∃ W, W = x8.alloc (.cells #[.int .i64 s8, .slice A8 n8 c8, .slice B8 m8 d8] 31) := ⟨_, rfl⟩
  obtain ⟨pN, hp⟩ : ∃ p, p = x8.heap.size := ⟨_, rfl⟩
  have hv := TrV.new hat
  rw [← hw, ← hp] at hv
  have hb : Below x8.heap.size x8 y8 := by rw [hw]; exact below_new _ _
  have HBx := Lib.hid (HB.out.trans (hb.mono HB.out.size))
  clear HB
  have HB := HBx
  clear HBx
  have Hx := Lib.hid (HT.out.ext hb)
  clear HT
  have HT := Hx
  clear Hx
  have Hx := Lib.hid (HZ.out.ext hb)
  clear HZ
  have HZ := Hx
  clear Hx
  have Hx := Lib.hid (HS.out.ext hb)
  clear HS
  have HS := Hx
  clear Hx
  have Hx := Lib.hid (HW.out.ext hb)
  clear HW
  have HW := Hx
  clear Hx
  have Hx := Lib.hid (HL.out.ext hb)
  clear HL
  have HL := Hx
  clear Hx
  have Hx := Lib.hid (HX.out.ext hb)
  clear HX
  have HX := Hx
  clear Hx
  have Hx := Lib.hid (HY.out.ext hb)
  clear HY
  have HY := Hx
  clear Hx
  have HN := Lib.hid hv
  clear hv hb hat
  go_upto_region 11 with fail
  rw [← hw, ← hp]
  clear hw hp
  obtain ⟨cZ0, cZ1, cZ2⟩ := HZ.out.cells
  obtain ⟨cS0, cS1, cS2⟩ := HS.out.cells
  obtain ⟨cW0, cW1, cW2⟩ := HW.out.cells
  have hcall := rsamet_at HZ.out.at_ HW.out.at_
  rw [zero_sm] at hcall
  have HCALL := Lib.hid hcall
  clear hcall
  go_wp2_with (go_at_call 15; refine HCALL.out.mono ?_; intro e x9 hx; obtain ⟨rfl, hb⟩ := hx; refine Hid.out ?_)
  refine Lib.hid ?_
  have HBx := Lib.hid (HB.out.trans (hb.mono HB.out.size))
  clear HB
  have HB := HBx
  clear HBx
  have Hx := Lib.hid (HT.out.ext hb)
  clear HT
  have HT := Hx
  clear Hx
  have Hx := Lib.hid (HZ.out.ext hb)
  clear HZ
  have HZ := Hx
  clear Hx
  have Hx := Lib.hid (HS.out.ext hb)
  clear HS
  have HS := Hx
  clear Hx
  have Hx := Lib.hid (HW.out.ext hb)
  clear HW
  have HW := Hx
  clear Hx
  have Hx := Lib.hid (HN.out.ext hb)
  clear HN
  have HN := Hx
  clear Hx
  have Hx := Lib.hid (HL.out.ext hb)
  clear HL
  have HL := Hx
  clear Hx
  have Hx := Lib.hid (HX.out.ext hb)
  clear HX
  have HX := Hx
  clear Hx
  have Hx := Lib.hid (HY.out.ext hb)
  clear HY
  have HY := Hx
  clear Hx
  clear hb HCALL
  clear cZ0 cZ1 cZ2 cS0 cS1 cS2 cW0 cW1 cW2
  obtain ⟨cZ0, cZ1, cZ2⟩ := HZ.out.cells
  obtain ⟨cS0, cS1, cS2⟩ := HS.out.cells
  obtain ⟨cW0, cW1, cW2⟩ := HW.out.cells
  have hcall := rsamet_at HS.out.at_ HW.out.at_
  rw [sums_sm] at hcall
  have HCALL := Lib.hid hcall
  clear hcall
  go_wp2_with (go_at_call 15; refine HCALL.out.mono ?_; intro e x10 hx; obtain ⟨rfl, hb⟩ := hx; refine Hid.out ?_)
  refine Lib.hid ?_
  have HBx := Lib.hid (HB.out.trans (hb.mono HB.out.size))
  clear HB
  have HB := HBx
  clear HBx
  have Hx := Lib.hid (HT.out.ext hb)
  clear HT
  have HT := Hx
  clear Hx
  have Hx := Lib.hid (HZ.out.ext hb)
  clear HZ
  have HZ := Hx
  clear Hx
  have Hx := Lib.hid (HS.out.ext hb)
  clear HS
  have HS := Hx
  clear Hx
  have Hx := Lib.hid (HW.out.ext hb)
  clear HW
  have HW := Hx
  clear Hx
  have Hx := Lib.hid (HN.out.ext hb)
  clear HN
  have HN := Hx
  clear Hx
  have Hx := Lib.hid (HL.out.ext hb)
  clear HL
  have HL := Hx
  clear Hx
  have Hx := Lib.hid (HX.out.ext hb)
  clear HX
  have HX := Hx
  clear Hx
  have Hx := Lib.hid (HY.out.ext hb)
  clear HY
  have HY := Hx
  clear Hx
  clear hb HCALL
  clear cZ0 cZ1 cZ2 cS0 cS1 cS2 cW0 cW1 cW2
  obtain ⟨cX0, cX1, cX2, cX3⟩ := HX.out.cells
  obtain ⟨cL0, cL1, cL2, cL3⟩ := HL.out.cells
  have hcall := tsame_tv HX.out HL.out
  rw [HSL.out] at hcall
  have HCALL := Lib.hid hcall
  clear hcall
  go_wp2_with (go_at_call 26; refine HCALL.out.mono ?_; intro e x11 hx; obtain ⟨rfl, hb⟩ := hx; refine Hid.out ?_)
  refine Lib.hid ?_
  have HBx := Lib.hid (HB.out.trans (hb.mono HB.out.size))
  clear HB
  have HB := HBx
  clear HBx
  have Hx := Lib.hid (HT.out.ext hb)
  clear HT
  have HT := Hx
  clear Hx
  have Hx := Lib.hid (HZ.out.ext hb)
  clear HZ
  have HZ := Hx
  clear Hx
  have Hx := Lib.hid (HS.out.ext hb)
  clear HS
  have HS := Hx
  clear Hx
  have Hx := Lib.hid (HW.out.ext hb)
  clear HW
  have HW := Hx
  clear Hx
  have Hx := Lib.hid (HN.out.ext hb)
  clear HN
  have HN := Hx
  clear Hx
  have Hx := Lib.hid (HL.out.ext hb)
  clear HL
  have HL := Hx
  clear Hx
  have Hx := Lib.hid (HX.out.ext hb)
  clear HX
  have HX := Hx
  clear Hx
  have Hx := Lib.hid (HY.out.ext hb)
  clear HY
  have HY := Hx
  clear Hx
  clear hb HCALL
  clear cX0 cX1 cX2 cX3 cL0 cL1 cL2 cL3
  go_wp2
  go_ret
  exact ⟨rfl, HB.out⟩
end Go.Proofs.YtmlhkbgifnifdaaDoor
