/-
  cellularref03.Valid, Right; algebra.valid. No condition.
-/
import Derived.Test.YtblfeaapjloppaaDoorBox
namespace Go.Proofs.YtblfeaapjloppaaDoor
open Go.RowKit
set_option maxRecDepth 100000
set_option linter.unusedVariables false
set_option linter.unusedSimpArgs false

set_option maxHeartbeats 2000000 in
theorem valid3_any (x y : Int) (w : World) : Calls Tryd.prog 34 #[ptV x y] w fun e w' => e = .returned (.bool (inB x && inB y)) ∧ Below w.heap.size w w' := by
  unfold inB ptV
  have hnb := below_new w (.cells #[.int .i64 x, .int .i64 y] 60)
  have p0 := Blk.new w 60 #[.int .i64 x, .int .i64 y]
  have HB := Lib.hid hnb
  have c0 := p0.cell 0
  have c1 := p0.cell 1
  clear p0 hnb
  cases k1 : decide (-1048576 ≤ x)
  · go_enter Tryd.func34, Tryd.ntmps34
    go_wp2
    go_ret
    exact ⟨ret_bool (by simp), HB.out⟩
  cases k2 : decide (x ≤ 1048576)
  · go_enter Tryd.func34, Tryd.ntmps34
    go_wp2
    go_ret
    exact ⟨ret_bool (by simp), HB.out⟩
  cases k3 : decide (-1048576 ≤ y)
  · go_enter Tryd.func34, Tryd.ntmps34
    go_wp2
    go_ret
    exact ⟨ret_bool (by simp), HB.out⟩
  go_enter Tryd.func34, Tryd.ntmps34
  go_wp2
  go_ret
  exact ⟨ret_bool (by simp), HB.out⟩
theorem rX_w {b : Bx} (h : b.w < 1 ∨ b.h < 1 ∨ 2097153 < b.w ∨ 2097153 < b.h) : rightX b = false := by
  cases hh : rightX b with
  | false => rfl
  | true => have := rightX_bd hh; omega
theorem rX_v {b : Bx} (h1 : ¬ b.w < 1) (h2 : ¬ b.h < 1) (h3 : ¬ 2097153 < b.w) (h4 : ¬ 2097153 < b.h) : rightX b = ((inB b.x && inB b.y) && (inB (b.x + b.w - 1) && inB (b.y + b.h - 1))) := by
  unfold rightX
  rw [decide_eq_true (by omega : 1 ≤ b.w), decide_eq_true (by omega : b.w < 2097154), decide_eq_true (by omega : 1 ≤ b.h), decide_eq_true (by omega : b.h < 2097154)]
  simp [Bool.and_assoc]
set_option maxHeartbeats 4000000 in
theorem right3_any (b : Bx) (w : World) : Calls Tryd.prog 16 #[bxV b] w fun e w' => e = .returned (.bool (rightX b)) ∧ Below w.heap.size w w' := by
  obtain ⟨bx, bY, bw, bh⟩ := b
  have hnb := below_new w (.cells #[.int .i64 bx, .int .i64 bY, .int .i64 bw, .int .i64 bh] 37)
  have p0 := Blk.new w 37 #[.int .i64 bx, .int .i64 bY, .int .i64 bw, .int .i64 bh]
  obtain ⟨w0, hw0⟩ : ∃ w0, w0 = w.alloc (.cells #[.int .i64 bx, .int .i64 bY, .int .i64 bw, .int .i64 bh] 37) := ⟨_, rfl⟩
  rw [← hw0] at hnb p0
  have HW := Lib.hid hw0
  have HB := Lib.hid hnb
  have c0 := p0.cell 0
  have c1 := p0.cell 1
  have c2 := p0.cell 2
  have c3 := p0.cell 3
  clear hnb hw0
  unfold bxV
  dsimp only
  by_cases h1 : bw < 1
  · have d0 : decide (bw < 1) = true := decide_eq_true h1
    have HR := Lib.hid (rX_w (b := ⟨bx, bY, bw, bh⟩) (.inl h1))
    clear h1
    go_enter Tryd.func16, Tryd.ntmps16
    go_upto_region 1 with fail
    rw [← HW.out]
    go_wp2
    go_ret
    exact ⟨by rw [HR.out] <;> rfl, HB.out⟩
  have d0 : decide (bw < 1) = false := decide_eq_false h1
  by_cases h2 : bh < 1
  · have d1 : decide (bh < 1) = true := decide_eq_true h2
    have HR := Lib.hid (rX_w (b := ⟨bx, bY, bw, bh⟩) (.inr (.inl h2)))
    clear h1 h2
    go_enter Tryd.func16, Tryd.ntmps16
    go_upto_region 1 with fail
    rw [← HW.out]
    go_wp2
    go_ret
    exact ⟨by rw [HR.out] <;> rfl, HB.out⟩
  have d1 : decide (bh < 1) = false := decide_eq_false h2
  by_cases h3 : 2097153 < bw
  · have d2 : decide (2097153 < bw) = true := decide_eq_true h3
    have HR := Lib.hid (rX_w (b := ⟨bx, bY, bw, bh⟩) (.inr (.inr (.inl h3))))
    clear h1 h2 h3
    go_enter Tryd.func16, Tryd.ntmps16
    go_upto_region 1 with fail
    rw [← HW.out]
    go_wp2
    go_ret
    exact ⟨by rw [HR.out] <;> rfl, HB.out⟩
  have d2 : decide (2097153 < bw) = false := decide_eq_false h3
  by_cases h4 : 2097153 < bh
  · have d3 : decide (2097153 < bh) = true := decide_eq_true h4
    have HR := Lib.hid (rX_w (b := ⟨bx, bY, bw, bh⟩) (.inr (.inr (.inr h4))))
    clear h1 h2 h3 h4
    go_enter Tryd.func16, Tryd.ntmps16
    go_upto_region 1 with fail
    rw [← HW.out]
    go_wp2
    go_ret
    exact ⟨by rw [HR.out] <;> rfl, HB.out⟩
  have d3 : decide (2097153 < bh) = false := decide_eq_false h4
  have HR := Lib.hid (rX_v (b := ⟨bx, bY, bw, bh⟩) h1 h2 h3 h4)
  have HWH : Hid ((0 ≤ bw ∧ bw < 2097154) ∧ (0 ≤ bh ∧ bh < 2097154)) := Lib.hid (by omega)
  clear h1 h2 h3 h4
  have hV := valid3_any bx bY w0
  cases hv : (inB bx && inB bY) with
  | false =>
    rw [hv] at hV
    unfold ptV at hV
    have HV := Lib.hid hV
    clear hV
    go_enter Tryd.func16, Tryd.ntmps16
    go_upto_region 1 with fail
    rw [← HW.out]
    go_wp2_with fail
    refine HV.out.mono ?_
    rintro e w1 ⟨rfl, hb1⟩
    have HB1 := Lib.hid (HB.out.trans (hb1.mono HB.out.size))
    clear hb1
    go_wp2
    go_ret
    exact ⟨(by rw [HR.out, hv] <;> rfl), HB1.out⟩
  | true =>
    have hxy := hv
    rw [Bool.and_eq_true] at hxy
    have hx := inB_bd hxy.1
    have hy := inB_bd hxy.2
    rw [hv] at hV
    unfold ptV at hV
    have HV := Lib.hid hV
    have hw2 : wrap64 (bx + bw) = bx + bw := wr_2 hx HWH.out.1
    have hw3 : wrap64 (bx + bw - 1) = bx + bw - 1 := wr_3 hx HWH.out.1
    have hw4 : wrap64 (bY + bh) = bY + bh := wr_2 hy HWH.out.2
    have hw5 : wrap64 (bY + bh - 1) = bY + bh - 1 := wr_3 hy HWH.out.2
    have HV2 := Lib.hid (fun w => valid3_any (bx + bw - 1) (bY + bh - 1) w)
    unfold ptV at HV2
    clear hV hxy hx hy
    go_enter Tryd.func16, Tryd.ntmps16
    go_upto_region 1 with fail
    rw [← HW.out]
    go_wp2_with fail
    refine HV.out.mono ?_
    rintro e w1 ⟨rfl, hb1⟩
    have p1 := p0.below hb1 p0.lt
    have HB1 := Lib.hid (HB.out.trans (hb1.mono HB.out.size))
    clear hb1 c0 c1 c2 c3
    have c0 := p1.cell 0
    have c1 := p1.cell 1
    have c2 := p1.cell 2
    have c3 := p1.cell 3
    go_wp2_with fail
    refine (HV2.out _).mono ?_
    rintro e w2 ⟨rfl, hb2⟩
    have HB2 := Lib.hid (HB1.out.trans (hb2.mono HB1.out.size))
    clear hb2
    go_wp2
    go_ret
    exact ⟨(by rw [HR.out, hv, Bool.true_and] <;> rfl), HB2.out⟩
set_option maxHeartbeats 1000000 in
theorem in51_any (n : Int) (w : World) : Calls Tryd.prog 51 #[.int .i64 n] w fun e w' => e = .returned (.bool (inB n)) ∧ w' = w := by
  unfold inB
  cases k1 : decide (-1048576 ≤ n)
  · go_enter Tryd.func51, Tryd.ntmps51
    go_wp2
    go_ret
    exact ⟨ret_bool (by simp), rfl⟩
  go_enter Tryd.func51, Tryd.ntmps51
  go_wp2
  go_ret
  exact ⟨ret_bool (by simp), rfl⟩
theorem rX_6 (b : Bx) : rightX b = (decide (1 ≤ b.w) && decide (b.w ≤ 2097153) && decide (1 ≤ b.h) && decide (b.h ≤ 2097153) && inB b.x && inB b.y && inB (b.x + b.w - 1) && inB (b.y + b.h - 1)) := by
  unfold rightX
  rw [show decide (b.w < 2097154) = decide (b.w ≤ 2097153) from decide_eq_decide.2 (by omega), show decide (b.h < 2097154) = decide (b.h ≤ 2097153) from decide_eq_decide.2 (by omega)]
set_option maxHeartbeats 8000000 in
theorem right6_any (b : Bx) (w : World) : Calls Tryd.prog 38 #[bxV b] w fun e w' => e = .returned (.bool (rightX b)) ∧ Below w.heap.size w w' := by
  rw [rX_6]
  obtain ⟨bx, bY, bw, bh⟩ := b
  unfold bxV
  dsimp only
  have hnb := below_new w (.cells #[.int .i64 bx, .int .i64 bY, .int .i64 bw, .int .i64 bh] 37)
  have p0 := Blk.new w 37 #[.int .i64 bx, .int .i64 bY, .int .i64 bw, .int .i64 bh]
  have HB := Lib.hid hnb
  have c0 := p0.cell 0
  have c1 := p0.cell 1
  have c2 := p0.cell 2
  have c3 := p0.cell 3
  clear p0 hnb
  cases k1 : decide (1 ≤ bw)
  · go_enter Tryd.func38, Tryd.ntmps38
    go_wp2_with (go_at_call 51; refine (in51_any _ _).mono ?_; rintro e w' ⟨rfl, rfl⟩)
    go_ret
    exact ⟨ret_bool (by simp), HB.out⟩
  cases k2 : decide (bw ≤ 2097153)
  · go_enter Tryd.func38, Tryd.ntmps38
    go_wp2_with (go_at_call 51; refine (in51_any _ _).mono ?_; rintro e w' ⟨rfl, rfl⟩)
    go_ret
    exact ⟨ret_bool (by simp), HB.out⟩
  cases k3 : decide (1 ≤ bh)
  · go_enter Tryd.func38, Tryd.ntmps38
    go_wp2_with (go_at_call 51; refine (in51_any _ _).mono ?_; rintro e w' ⟨rfl, rfl⟩)
    go_ret
    exact ⟨ret_bool (by simp), HB.out⟩
  cases k4 : decide (bh ≤ 2097153)
  · go_enter Tryd.func38, Tryd.ntmps38
    go_wp2_with (go_at_call 51; refine (in51_any _ _).mono ?_; rintro e w' ⟨rfl, rfl⟩)
    go_ret
    exact ⟨ret_bool (by simp), HB.out⟩
  have HW1 : Hid (0 ≤ bw ∧ bw < 2097154) := Lib.hid (by have := of_decide_eq_true k1; have := of_decide_eq_true k2; omega)
  have HH1 : Hid (0 ≤ bh ∧ bh < 2097154) := Lib.hid (by have := of_decide_eq_true k3; have := of_decide_eq_true k4; omega)
  cases ki1 : inB bx
  · go_enter Tryd.func38, Tryd.ntmps38
    go_wp2_with (go_at_call 51; refine (in51_any _ _).mono ?_; rintro e w' ⟨rfl, rfl⟩)
    go_ret
    exact ⟨ret_bool (by simp), HB.out⟩
  have HX := Lib.hid (inB_bd ki1)
  cases ki2 : inB bY
  · go_enter Tryd.func38, Tryd.ntmps38
    go_wp2_with (go_at_call 51; refine (in51_any _ _).mono ?_; rintro e w' ⟨rfl, rfl⟩)
    go_ret
    exact ⟨ret_bool (by simp), HB.out⟩
  have HY := Lib.hid (inB_bd ki2)
  have hw2 : wrap64 (bx + bw) = bx + bw := wr_2 HX.out HW1.out
  have hw3 : wrap64 (bx + bw - 1) = bx + bw - 1 := wr_3 HX.out HW1.out
  have hw4 : wrap64 (bY + bh) = bY + bh := wr_2 HY.out HH1.out
  have hw5 : wrap64 (bY + bh - 1) = bY + bh - 1 := wr_3 HY.out HH1.out
  cases ki3 : inB (bx + bw - 1)
  · go_enter Tryd.func38, Tryd.ntmps38
    go_wp2_with (go_at_call 51; refine (in51_any _ _).mono ?_; rintro e w' ⟨rfl, rfl⟩)
    go_ret
    exact ⟨ret_bool (by simp), HB.out⟩
  cases ki4 : inB (bY + bh - 1)
  · go_enter Tryd.func38, Tryd.ntmps38
    go_wp2_with (go_at_call 51; refine (in51_any _ _).mono ?_; rintro e w' ⟨rfl, rfl⟩)
    go_ret
    exact ⟨ret_bool (by simp), HB.out⟩
  go_enter Tryd.func38, Tryd.ntmps38
  go_wp2_with (go_at_call 51; refine (in51_any _ _).mono ?_; rintro e w' ⟨rfl, rfl⟩)
  go_ret
  exact ⟨ret_bool (by simp), HB.out⟩
end Go.Proofs.YtblfeaapjloppaaDoor
