/-
  point.in, Right, In. No condition.
-/
import Derived.Test.YtblfeaapjloppaaDoorTxW
namespace Go.Proofs.YtblfeaapjloppaaDoor
open Go.RowKit
set_option maxRecDepth 100000
set_option linter.unusedVariables false
set_option linter.unusedSimpArgs false

structure Bx where
  x : Int
  y : Int
  w : Int
  h : Int
def bxV (b : Bx) : Value := .agg #[.int .i64 b.x, .int .i64 b.y, .int .i64 b.w, .int .i64 b.h]
def inB (n : Int) : Bool := decide (-1048576 ≤ n) && decide (n ≤ 1048576)
def rightX (b : Bx) : Bool := decide (1 ≤ b.w) && decide (b.w < 2097154) && decide (1 ≤ b.h) && decide (b.h < 2097154) && inB b.x && inB b.y && inB (b.x + b.w - 1) && inB (b.y + b.h - 1)
theorem inB_bd {n : Int} (h : inB n = true) : -1048576 ≤ n ∧ n ≤ 1048576 := by
  unfold inB at h
  simpa using h
theorem rightX_bd {b : Bx} (h : rightX b = true) : 1 ≤ b.w ∧ b.w < 2097154 ∧ 1 ≤ b.h ∧ b.h < 2097154 ∧ -1048576 ≤ b.x ∧ b.x ≤ 1048576 ∧ -1048576 ≤ b.y ∧ b.y ≤ 1048576 ∧ b.x + b.w - 1 ≤ 1048576 ∧ b.y + b.h - 1 ≤ 1048576 := by
  unfold rightX at h
  simp only [Bool.and_eq_true, decide_eq_true_eq] at h
  obtain ⟨⟨⟨⟨⟨⟨⟨h1, h2⟩, h3⟩, h4⟩, h5⟩, h6⟩, h7⟩, h8⟩ := h
  have h5 := inB_bd h5
  have h6 := inB_bd h6
  have h7 := inB_bd h7
  have h8 := inB_bd h8
  omega
set_option maxHeartbeats 1000000 in
theorem in_any (n : Int) (w : World) : Calls Tryd.prog 45 #[.int .i64 n] w fun e w' => e = .returned (.bool (inB n)) ∧ w' = w := by
  unfold inB
  cases k1 : decide (-1048576 ≤ n)
  · go_enter Tryd.func45, Tryd.ntmps45
    go_wp2
    go_ret
    exact ⟨ret_bool (by simp), rfl⟩
  go_enter Tryd.func45, Tryd.ntmps45
  go_wp2
  go_ret
  exact ⟨ret_bool (by simp), rfl⟩
theorem wr_2 {a b : Int} (h1 : -1048576 ≤ a ∧ a ≤ 1048576) (h2 : 0 ≤ b ∧ b < 2097154) : wrap64 (a + b) = a + b := by unfold wrap64; omega
theorem wr_3 {a b : Int} (h1 : -1048576 ≤ a ∧ a ≤ 1048576) (h2 : 0 ≤ b ∧ b < 2097154) : wrap64 (a + b - 1) = a + b - 1 := by unfold wrap64; omega
set_option maxHeartbeats 8000000 in
theorem rightX_any (b : Bx) (w : World) : Calls Tryd.prog 29 #[bxV b] w fun e w' => e = .returned (.bool (rightX b)) ∧ Below w.heap.size w w' := by
  obtain ⟨bx, bY, bw, bh⟩ := b
  unfold rightX bxV
  dsimp only
  have hnb := below_new w (.cells #[.int .i64 bx, .int .i64 bY, .int .i64 bw, .int .i64 bh] 37)
  have p0 := Blk.new w 37 #[.int .i64 bx, .int .i64 bY, .int .i64 bw, .int .i64 bh]
  have HB := Lib.hid hnb
  have c0 := p0.cell 0
  have c1 := p0.cell 1
  have c2 := p0.cell 2
  have c3 := p0.cell 3
  clear p0 hnb
  cases k1 : decide (1 ≤ bw)
  · go_enter Tryd.func29, Tryd.ntmps29
    go_wp2_with (go_at_call 45; refine (in_any _ _).mono ?_; rintro e w' ⟨rfl, rfl⟩)
    go_ret
    exact ⟨ret_bool (by simp), HB.out⟩
  cases k2 : decide (bw < 2097154)
  · go_enter Tryd.func29, Tryd.ntmps29
    go_wp2_with (go_at_call 45; refine (in_any _ _).mono ?_; rintro e w' ⟨rfl, rfl⟩)
    go_ret
    exact ⟨ret_bool (by simp), HB.out⟩
  cases k3 : decide (1 ≤ bh)
  · go_enter Tryd.func29, Tryd.ntmps29
    go_wp2_with (go_at_call 45; refine (in_any _ _).mono ?_; rintro e w' ⟨rfl, rfl⟩)
    go_ret
    exact ⟨ret_bool (by simp), HB.out⟩
  cases k4 : decide (bh < 2097154)
  · go_enter Tryd.func29, Tryd.ntmps29
    go_wp2_with (go_at_call 45; refine (in_any _ _).mono ?_; rintro e w' ⟨rfl, rfl⟩)
    go_ret
    exact ⟨ret_bool (by simp), HB.out⟩
  have hw1 : 0 ≤ bw ∧ bw < 2097154 := by have := of_decide_eq_true k1; have := of_decide_eq_true k2; omega
  have hh1 : 0 ≤ bh ∧ bh < 2097154 := by have := of_decide_eq_true k3; have := of_decide_eq_true k4; omega
  have HW1 := Lib.hid hw1
  have HH1 := Lib.hid hh1
  clear hw1 hh1
  cases ki1 : inB bx
  · go_enter Tryd.func29, Tryd.ntmps29
    go_wp2_with (go_at_call 45; refine (in_any _ _).mono ?_; rintro e w' ⟨rfl, rfl⟩)
    go_ret
    exact ⟨ret_bool (by simp), HB.out⟩
  have HX := Lib.hid (inB_bd ki1)
  cases ki2 : inB bY
  · go_enter Tryd.func29, Tryd.ntmps29
    go_wp2_with (go_at_call 45; refine (in_any _ _).mono ?_; rintro e w' ⟨rfl, rfl⟩)
    go_ret
    exact ⟨ret_bool (by simp), HB.out⟩
  have HY := Lib.hid (inB_bd ki2)
  have hw2 : wrap64 (bx + bw) = bx + bw := wr_2 HX.out HW1.out
  have hw3 : wrap64 (bx + bw - 1) = bx + bw - 1 := wr_3 HX.out HW1.out
  have hw4 : wrap64 (bY + bh) = bY + bh := wr_2 HY.out HH1.out
  have hw5 : wrap64 (bY + bh - 1) = bY + bh - 1 := wr_3 HY.out HH1.out
  cases ki3 : inB (bx + bw - 1)
  · go_enter Tryd.func29, Tryd.ntmps29
    go_wp2_with (go_at_call 45; refine (in_any _ _).mono ?_; rintro e w' ⟨rfl, rfl⟩)
    go_ret
    exact ⟨ret_bool (by simp), HB.out⟩
  cases ki4 : inB (bY + bh - 1)
  · go_enter Tryd.func29, Tryd.ntmps29
    go_wp2_with (go_at_call 45; refine (in_any _ _).mono ?_; rintro e w' ⟨rfl, rfl⟩)
    go_ret
    exact ⟨ret_bool (by simp), HB.out⟩
  go_enter Tryd.func29, Tryd.ntmps29
  go_wp2_with (go_at_call 45; refine (in_any _ _).mono ?_; rintro e w' ⟨rfl, rfl⟩)
  go_ret
  exact ⟨ret_bool (by simp), HB.out⟩
end Go.Proofs.YtblfeaapjloppaaDoor
