/-
  cellularlaw13.ReduceMaps: the walk. No condition but that the library's table and the matrices are there.
-/
import Derived.Test.YtojnnfihpiegoaaDoorZLawF
namespace Go.Proofs.YtojnnfihpiegoaaDoor
open Go.RowKit Go.Maps
set_option maxRecDepth 100000
set_option linter.unusedVariables false
set_option linter.unusedSimpArgs false
set_option maxHeartbeats 16000000 in
theorem lawMp_any (a : PT) (s1 : Int) (A1 : Option Addr) (n1 c1 : Nat) (B1 : Option Addr) (m1 d1 : Nat) (At : Option Addr) (ct : Nat) (tz : List Int) (k s : Int) (w : World)
    (ha : TreeAt w (.agg #[.int .i64 s1, .slice A1 n1 c1, .slice B1 m1 d1]) a) (hz : Ints w At tz) (ht : TabB w.heap.size w) (hg : GMat w) :
    Calls Tryd.prog 4 #[.agg #[.int .i64 s1, .slice A1 n1 c1, .slice B1 m1 d1], .slice At tz.length ct, .agg #[.int .i64 k, .int .i64 s]] w fun e w' => e = .returned (.bool true) ∧ Below w.heap.size w w' := by
  obtain ⟨v1, h1⟩ : ∃ v1, v1 = w.alloc (.cells #[.int .i64 s1, .slice A1 n1 c1, .slice B1 m1 d1] 25) := ⟨_, rfl⟩
  obtain ⟨w0, h2⟩ : ∃ w0, w0 = v1.alloc (.cells #[.int .i64 k, .int .i64 s] 32) := ⟨_, rfl⟩
  have b1 : Below w.heap.size w v1 := by rw [h1]; exact below_new _ _
  have b2 : Below v1.heap.size v1 w0 := by rw [h2]; exact below_new _ _
  have z1 : v1.heap.size = w.heap.size + 1 := by rw [h1]; simp
  have hv1 := TrV.new ha
  rw [← h1] at hv1
  have hp : Blk w0 v1.heap.size 32 #[.int .i64 k, .int .i64 s] := by rw [h2]; exact Blk.new _ _ _
  rw [z1] at hp
  have HA := Lib.hid (hv1.ext b2)
  have HP := Lib.hid hp
  have HB := Lib.hid (b1.trans (b2.mono b1.size))
  have HZ := Lib.hid ((hz.ext b1).ext b2)
  rw [h1] at h2
  have HW0 := Lib.hid h2
  have HTAB := Lib.hid ht
  have HGM := Lib.hid hg
  have hzl := hz.le
  clear ha hz ht hg h1 b1 b2 z1 hv1 hp h2
  cases hsA : smallB a 300 with
  | false =>
    clear hzl
    obtain ⟨cA0, cA1, cA2⟩ := HA.out.cells
    go_enter Tryd.func4, Tryd.ntmps4
    go_upto_region 1 with fail
    rw [← HW0.out]
    have hcall := small_tv (n := 300) HA.out.at_
    rw [hsA] at hcall
    have HCALL := Lib.hid hcall
    clear hcall
    go_wp2_with (go_at_call 9; refine HCALL.out.mono ?_; intro e x1 hx; obtain ⟨rfl, hb⟩ := hx; refine Hid.out ?_)
    refine Lib.hid ?_
    have HBx := Lib.hid (HB.out.trans (hb.mono HB.out.size))
    clear HB
    have HB := HBx
    clear HBx
    have Hx := Lib.hid (HA.out.ext hb)
    clear HA
    have HA := Hx
    clear Hx
    have Hx := Lib.hid (HZ.out.ext hb)
    clear HZ
    have HZ := Hx
    clear Hx
    have Hx := Lib.hid (HP.out.below hb HP.out.lt)
    clear HP
    have HP := Hx
    clear Hx
    clear hb HCALL
    clear cA0 cA1 cA2
    clear hsA
    have hcall := awake_any _ ((HTAB.out.on HB.out).up HB.out.size) (HGM.out.ext HB.out)
    have HCALL := Lib.hid hcall
    clear hcall
    go_wp2_with (go_at_call 10; refine HCALL.out.mono ?_; intro e x2 hx; obtain ⟨rfl, hb⟩ := hx; refine Hid.out ?_)
    refine Lib.hid ?_
    have HBx := Lib.hid (HB.out.trans (hb.mono HB.out.size))
    clear HB
    have HB := HBx
    clear HBx
    have Hx := Lib.hid (HA.out.ext hb)
    clear HA
    have HA := Hx
    clear Hx
    have Hx := Lib.hid (HZ.out.ext hb)
    clear HZ
    have HZ := Hx
    clear Hx
    have Hx := Lib.hid (HP.out.below hb HP.out.lt)
    clear HP
    have HP := Hx
    clear Hx
    clear hb HCALL
    go_wp2
    go_ret
    exact ⟨rfl, HB.out⟩
  | true =>
    by_cases hz20 : 20 < tz.length
    · have d1 : decide ((20 : Int) < (tz.length : Int)) = true := decide_eq_true (by omega)
      clear hz20 hzl
      obtain ⟨cA0, cA1, cA2⟩ := HA.out.cells
      go_enter Tryd.func4, Tryd.ntmps4
      go_upto_region 1 with fail
      rw [← HW0.out]
      have hcall := small_tv (n := 300) HA.out.at_
      rw [hsA] at hcall
      have HCALL := Lib.hid hcall
      clear hcall
      go_wp2_with (go_at_call 9; refine HCALL.out.mono ?_; intro e x1 hx; obtain ⟨rfl, hb⟩ := hx; refine Hid.out ?_)
      refine Lib.hid ?_
      have HBx := Lib.hid (HB.out.trans (hb.mono HB.out.size))
      clear HB
      have HB := HBx
      clear HBx
      have Hx := Lib.hid (HA.out.ext hb)
      clear HA
      have HA := Hx
      clear Hx
      have Hx := Lib.hid (HZ.out.ext hb)
      clear HZ
      have HZ := Hx
      clear Hx
      have Hx := Lib.hid (HP.out.below hb HP.out.lt)
      clear HP
      have HP := Hx
      clear Hx
      clear hb HCALL
      clear cA0 cA1 cA2
      clear hsA
      have hcall := awake_any _ ((HTAB.out.on HB.out).up HB.out.size) (HGM.out.ext HB.out)
      have HCALL := Lib.hid hcall
      clear hcall
      go_wp2_with (go_at_call 10; refine HCALL.out.mono ?_; intro e x2 hx; obtain ⟨rfl, hb⟩ := hx; refine Hid.out ?_)
      refine Lib.hid ?_
      have HBx := Lib.hid (HB.out.trans (hb.mono HB.out.size))
      clear HB
      have HB := HBx
      clear HBx
      have Hx := Lib.hid (HA.out.ext hb)
      clear HA
      have HA := Hx
      clear Hx
      have Hx := Lib.hid (HZ.out.ext hb)
      clear HZ
      have HZ := Hx
      clear Hx
      have Hx := Lib.hid (HP.out.below hb HP.out.lt)
      clear HP
      have HP := Hx
      clear Hx
      clear hb HCALL
      go_wp2
      go_ret
      exact ⟨rfl, HB.out⟩
    · have d1 : decide ((20 : Int) < (tz.length : Int)) = false := decide_eq_false (by omega)
      clear hz20 hzl
      obtain ⟨te, hte⟩ : ∃ te, te = mapT a tz := ⟨_, rfl⟩
      obtain ⟨tf, htf⟩ : ∃ tf, tf = fixT a k s := ⟨_, rfl⟩
      have HTM := Lib.hid hte.symm
      have HTF := Lib.hid htf.symm
      clear hte htf
      obtain ⟨cA0, cA1, cA2⟩ := HA.out.cells
      go_enter Tryd.func4, Tryd.ntmps4
      go_upto_region 1 with fail
      rw [← HW0.out]
      have hcall := small_tv (n := 300) HA.out.at_
      rw [hsA] at hcall
      have HCALL := Lib.hid hcall
      clear hcall
      go_wp2_with (go_at_call 9; refine HCALL.out.mono ?_; intro e x1 hx; obtain ⟨rfl, hb⟩ := hx; refine Hid.out ?_)
      refine Lib.hid ?_
      have HBx := Lib.hid (HB.out.trans (hb.mono HB.out.size))
      clear HB
      have HB := HBx
      clear HBx
      have Hx := Lib.hid (HA.out.ext hb)
      clear HA
      have HA := Hx
      clear Hx
      have Hx := Lib.hid (HZ.out.ext hb)
      clear HZ
      have HZ := Hx
      clear Hx
      have Hx := Lib.hid (HP.out.below hb HP.out.lt)
      clear HP
      have HP := Hx
      clear Hx
      clear hb HCALL
      clear cA0 cA1 cA2
      clear hsA
      go_upto_region 3 with fail
      obtain ⟨cA0, cA1, cA2⟩ := HA.out.cells
      have hcall := map_tv (ct := ct) HA.out.at_ HZ.out ((HTAB.out.on HB.out).up HB.out.size)
      rw [HTM.out] at hcall
      have HCALL := Lib.hid hcall
      clear hcall
      go_wp2_with (go_at_call 18; refine HCALL.out.mono ?_; intro e x2 hx; obtain ⟨s2, A2, n2, c2, B2, m2, d2, rfl, hat, hb⟩ := hx; refine Hid.out ?_)
      refine Lib.hid ?_
      have HBx := Lib.hid (HB.out.trans (hb.mono HB.out.size))
      clear HB
      have HB := HBx
      clear HBx
      have Hx := Lib.hid (HA.out.ext hb)
      clear HA
      have HA := Hx
      clear Hx
      have Hx := Lib.hid (HZ.out.ext hb)
      clear HZ
      have HZ := Hx
      clear Hx
      have Hx := Lib.hid (HP.out.below hb HP.out.lt)
      clear HP
      have HP := Hx
      clear Hx
      clear hb HCALL
      clear cA0 cA1 cA2
      obtain ⟨y2, hw⟩ : ∃ W, W = x2.alloc (.cells #[.int .i64 s2, .slice A2 n2 c2, .slice B2 m2 d2] 25) := ⟨_, rfl⟩
      obtain ⟨pM, hp⟩ : ∃ p, p = x2.heap.size := ⟨_, rfl⟩
      have hv := TrV.new hat
      rw [← hw, ← hp] at hv
      have hb : Below x2.heap.size x2 y2 := by rw [hw]; exact below_new _ _
      have HBx := Lib.hid (HB.out.trans (hb.mono HB.out.size))
      clear HB
      have HB := HBx
      clear HBx
      have Hx := Lib.hid (HA.out.ext hb)
      clear HA
      have HA := Hx
      clear Hx
      have Hx := Lib.hid (HZ.out.ext hb)
      clear HZ
      have HZ := Hx
      clear Hx
      have Hx := Lib.hid (HP.out.below hb HP.out.lt)
      clear HP
      have HP := Hx
      clear Hx
      have HM := Lib.hid hv
      clear hv hb hat
      go_upto_region 4 with fail
      rw [← hw, ← hp]
      clear hw hp
      obtain ⟨cA0, cA1, cA2⟩ := HA.out.cells
      have hcall := rmap_tv (ct := ct) HA.out.at_ HZ.out
      rw [HTM.out] at hcall
      have HCALL := Lib.hid hcall
      clear hcall
      go_wp2_with (go_at_call 19; refine HCALL.out.mono ?_; intro e x3 hx; obtain ⟨s3, A3, n3, c3, B3, m3, d3, rfl, hat, hb⟩ := hx; refine Hid.out ?_)
      refine Lib.hid ?_
      have HBx := Lib.hid (HB.out.trans (hb.mono HB.out.size))
      clear HB
      have HB := HBx
      clear HBx
      have Hx := Lib.hid (HA.out.ext hb)
      clear HA
      have HA := Hx
      clear Hx
      have Hx := Lib.hid (HM.out.ext hb)
      clear HM
      have HM := Hx
      clear Hx
      have Hx := Lib.hid (HZ.out.ext hb)
      clear HZ
      have HZ := Hx
      clear Hx
      have Hx := Lib.hid (HP.out.below hb HP.out.lt)
      clear HP
      have HP := Hx
      clear Hx
      clear hb HCALL
      clear cA0 cA1 cA2
      obtain ⟨y3, hw⟩ : ∃ W, W = x3.alloc (.cells #[.int .i64 s3, .slice A3 n3 c3, .slice B3 m3 d3] 25) := ⟨_, rfl⟩
      obtain ⟨pN, hp⟩ : ∃ p, p = x3.heap.size := ⟨_, rfl⟩
      have hv := TrV.new hat
      rw [← hw, ← hp] at hv
      have hb : Below x3.heap.size x3 y3 := by rw [hw]; exact below_new _ _
      have HBx := Lib.hid (HB.out.trans (hb.mono HB.out.size))
      clear HB
      have HB := HBx
      clear HBx
      have Hx := Lib.hid (HA.out.ext hb)
      clear HA
      have HA := Hx
      clear Hx
      have Hx := Lib.hid (HM.out.ext hb)
      clear HM
      have HM := Hx
      clear Hx
      have Hx := Lib.hid (HZ.out.ext hb)
      clear HZ
      have HZ := Hx
      clear Hx
      have Hx := Lib.hid (HP.out.below hb HP.out.lt)
      clear HP
      have HP := Hx
      clear Hx
      have HN := Lib.hid hv
      clear hv hb hat
      go_upto_region 5 with fail
      rw [← hw, ← hp]
      clear hw hp
      obtain ⟨cA0, cA1, cA2⟩ := HA.out.cells
      have q0 := HP.out.cell_ 0 (.int .i64 k) rfl
      have q1 := HP.out.cell_ 1 (.int .i64 s) rfl
      have hcall := fix_tv (k := k) (s := s) HA.out.at_ ((HTAB.out.on HB.out).up HB.out.size)
      rw [HTF.out] at hcall
      have HCALL := Lib.hid hcall
      clear hcall
      go_wp2_with (go_at_call 20; refine HCALL.out.mono ?_; intro e x4 hx; obtain ⟨s4, A4, n4, c4, B4, m4, d4, rfl, hat, hb⟩ := hx; refine Hid.out ?_)
      refine Lib.hid ?_
      have HBx := Lib.hid (HB.out.trans (hb.mono HB.out.size))
      clear HB
      have HB := HBx
      clear HBx
      have Hx := Lib.hid (HA.out.ext hb)
      clear HA
      have HA := Hx
      clear Hx
      have Hx := Lib.hid (HM.out.ext hb)
      clear HM
      have HM := Hx
      clear Hx
      have Hx := Lib.hid (HN.out.ext hb)
      clear HN
      have HN := Hx
      clear Hx
      have Hx := Lib.hid (HZ.out.ext hb)
      clear HZ
      have HZ := Hx
      clear Hx
      have Hx := Lib.hid (HP.out.below hb HP.out.lt)
      clear HP
      have HP := Hx
      clear Hx
      clear hb HCALL
      clear cA0 cA1 cA2
      clear q0 q1
      obtain ⟨y4, hw⟩ : ∃ W, W = x4.alloc (.cells #[.int .i64 s4, .slice A4 n4 c4, .slice B4 m4 d4] 25) := ⟨_, rfl⟩
      obtain ⟨pG, hp⟩ : ∃ p, p = x4.heap.size := ⟨_, rfl⟩
      have hv := TrV.new hat
      rw [← hw, ← hp] at hv
      have hb : Below x4.heap.size x4 y4 := by rw [hw]; exact below_new _ _
      have HBx := Lib.hid (HB.out.trans (hb.mono HB.out.size))
      clear HB
      have HB := HBx
      clear HBx
      have Hx := Lib.hid (HA.out.ext hb)
      clear HA
      have HA := Hx
      clear Hx
      have Hx := Lib.hid (HM.out.ext hb)
      clear HM
      have HM := Hx
      clear Hx
      have Hx := Lib.hid (HN.out.ext hb)
      clear HN
      have HN := Hx
      clear Hx
      have Hx := Lib.hid (HZ.out.ext hb)
      clear HZ
      have HZ := Hx
      clear Hx
      have Hx := Lib.hid (HP.out.below hb HP.out.lt)
      clear HP
      have HP := Hx
      clear Hx
      have HG := Lib.hid hv
      clear hv hb hat
      go_upto_region 6 with fail
      rw [← hw, ← hp]
      clear hw hp
      obtain ⟨cA0, cA1, cA2⟩ := HA.out.cells
      have q0 := HP.out.cell_ 0 (.int .i64 k) rfl
      have q1 := HP.out.cell_ 1 (.int .i64 s) rfl
      have hcall := rfix_tv (k := k) (s := s) HA.out.at_
      rw [HTF.out] at hcall
      have HCALL := Lib.hid hcall
      clear hcall
      go_wp2_with (go_at_call 21; refine HCALL.out.mono ?_; intro e x5 hx; obtain ⟨s5, A5, n5, c5, B5, m5, d5, rfl, hat, hb⟩ := hx; refine Hid.out ?_)
      refine Lib.hid ?_
      have HBx := Lib.hid (HB.out.trans (hb.mono HB.out.size))
      clear HB
      have HB := HBx
      clear HBx
      have Hx := Lib.hid (HA.out.ext hb)
      clear HA
      have HA := Hx
      clear Hx
      have Hx := Lib.hid (HM.out.ext hb)
      clear HM
      have HM := Hx
      clear Hx
      have Hx := Lib.hid (HN.out.ext hb)
      clear HN
      have HN := Hx
      clear Hx
      have Hx := Lib.hid (HG.out.ext hb)
      clear HG
      have HG := Hx
      clear Hx
      have Hx := Lib.hid (HZ.out.ext hb)
      clear HZ
      have HZ := Hx
      clear Hx
      have Hx := Lib.hid (HP.out.below hb HP.out.lt)
      clear HP
      have HP := Hx
      clear Hx
      clear hb HCALL
      clear cA0 cA1 cA2
      clear q0 q1
      obtain ⟨y5, hw⟩ : ∃ W, W = x5.alloc (.cells #[.int .i64 s5, .slice A5 n5 c5, .slice B5 m5 d5] 25) := ⟨_, rfl⟩
      obtain ⟨pK, hp⟩ : ∃ p, p = x5.heap.size := ⟨_, rfl⟩
      have hv := TrV.new hat
      rw [← hw, ← hp] at hv
      have hb : Below x5.heap.size x5 y5 := by rw [hw]; exact below_new _ _
      have HBx := Lib.hid (HB.out.trans (hb.mono HB.out.size))
      clear HB
      have HB := HBx
      clear HBx
      have Hx := Lib.hid (HA.out.ext hb)
      clear HA
      have HA := Hx
      clear Hx
      have Hx := Lib.hid (HM.out.ext hb)
      clear HM
      have HM := Hx
      clear Hx
      have Hx := Lib.hid (HN.out.ext hb)
      clear HN
      have HN := Hx
      clear Hx
      have Hx := Lib.hid (HG.out.ext hb)
      clear HG
      have HG := Hx
      clear Hx
      have Hx := Lib.hid (HZ.out.ext hb)
      clear HZ
      have HZ := Hx
      clear Hx
      have Hx := Lib.hid (HP.out.below hb HP.out.lt)
      clear HP
      have HP := Hx
      clear Hx
      have HK := Lib.hid hv
      clear hv hb hat
      go_upto_region 7 with fail
      rw [← hw, ← hp]
      clear hw hp
      obtain ⟨cM0, cM1, cM2⟩ := HM.out.cells
      obtain ⟨cN0, cN1, cN2⟩ := HN.out.cells
      obtain ⟨cG0, cG1, cG2⟩ := HG.out.cells
      obtain ⟨cK0, cK1, cK2⟩ := HK.out.cells
      have hcall := rsamet_at HM.out.at_ HN.out.at_
      rw [ex_same] at hcall
      have HCALL := Lib.hid hcall
      clear hcall
      go_wp2_with (go_at_call 11; refine HCALL.out.mono ?_; intro e x6 hx; obtain ⟨rfl, hb⟩ := hx; refine Hid.out ?_)
      refine Lib.hid ?_
      have HBx := Lib.hid (HB.out.trans (hb.mono HB.out.size))
      clear HB
      have HB := HBx
      clear HBx
      have Hx := Lib.hid (HA.out.ext hb)
      clear HA
      have HA := Hx
      clear Hx
      have Hx := Lib.hid (HM.out.ext hb)
      clear HM
      have HM := Hx
      clear Hx
      have Hx := Lib.hid (HN.out.ext hb)
      clear HN
      have HN := Hx
      clear Hx
      have Hx := Lib.hid (HG.out.ext hb)
      clear HG
      have HG := Hx
      clear Hx
      have Hx := Lib.hid (HK.out.ext hb)
      clear HK
      have HK := Hx
      clear Hx
      have Hx := Lib.hid (HZ.out.ext hb)
      clear HZ
      have HZ := Hx
      clear Hx
      have Hx := Lib.hid (HP.out.below hb HP.out.lt)
      clear HP
      have HP := Hx
      clear Hx
      clear hb HCALL
      clear cM0 cM1 cM2 cN0 cN1 cN2 cG0 cG1 cG2 cK0 cK1 cK2
      obtain ⟨cM0, cM1, cM2⟩ := HM.out.cells
      obtain ⟨cN0, cN1, cN2⟩ := HN.out.cells
      obtain ⟨cG0, cG1, cG2⟩ := HG.out.cells
      obtain ⟨cK0, cK1, cK2⟩ := HK.out.cells
      have hcall := rsamet_at HG.out.at_ HK.out.at_
      rw [ex_same] at hcall
      have HCALL := Lib.hid hcall
      clear hcall
      go_wp2_with (go_at_call 11; refine HCALL.out.mono ?_; intro e x7 hx; obtain ⟨rfl, hb⟩ := hx; refine Hid.out ?_)
      refine Lib.hid ?_
      have HBx := Lib.hid (HB.out.trans (hb.mono HB.out.size))
      clear HB
      have HB := HBx
      clear HBx
      have Hx := Lib.hid (HA.out.ext hb)
      clear HA
      have HA := Hx
      clear Hx
      have Hx := Lib.hid (HM.out.ext hb)
      clear HM
      have HM := Hx
      clear Hx
      have Hx := Lib.hid (HN.out.ext hb)
      clear HN
      have HN := Hx
      clear Hx
      have Hx := Lib.hid (HG.out.ext hb)
      clear HG
      have HG := Hx
      clear Hx
      have Hx := Lib.hid (HK.out.ext hb)
      clear HK
      have HK := Hx
      clear Hx
      have Hx := Lib.hid (HZ.out.ext hb)
      clear HZ
      have HZ := Hx
      clear Hx
      have Hx := Lib.hid (HP.out.below hb HP.out.lt)
      clear HP
      have HP := Hx
      clear Hx
      clear hb HCALL
      clear cM0 cM1 cM2 cN0 cN1 cN2 cG0 cG1 cG2 cK0 cK1 cK2
      have hcall := awake_any _ ((HTAB.out.on HB.out).up HB.out.size) (HGM.out.ext HB.out)
      have HCALL := Lib.hid hcall
      clear hcall
      go_wp2_with (go_at_call 10; refine HCALL.out.mono ?_; intro e x8 hx; obtain ⟨rfl, hb⟩ := hx; refine Hid.out ?_)
      refine Lib.hid ?_
      have HBx := Lib.hid (HB.out.trans (hb.mono HB.out.size))
      clear HB
      have HB := HBx
      clear HBx
      have Hx := Lib.hid (HA.out.ext hb)
      clear HA
      have HA := Hx
      clear Hx
      have Hx := Lib.hid (HM.out.ext hb)
      clear HM
      have HM := Hx
      clear Hx
      have Hx := Lib.hid (HN.out.ext hb)
      clear HN
      have HN := Hx
      clear Hx
      have Hx := Lib.hid (HG.out.ext hb)
      clear HG
      have HG := Hx
      clear Hx
      have Hx := Lib.hid (HK.out.ext hb)
      clear HK
      have HK := Hx
      clear Hx
      have Hx := Lib.hid (HZ.out.ext hb)
      clear HZ
      have HZ := Hx
      clear Hx
      have Hx := Lib.hid (HP.out.below hb HP.out.lt)
      clear HP
      have HP := Hx
      clear Hx
      clear hb HCALL
      go_wp2
      go_ret
      exact ⟨rfl, HB.out⟩
end Go.Proofs.YtojnnfihpiegoaaDoor
