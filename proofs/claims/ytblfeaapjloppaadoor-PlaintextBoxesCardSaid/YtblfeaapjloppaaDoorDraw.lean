/-
  point.In, plaintext.Draw. No condition.
-/
import Derived.Test.YtblfeaapjloppaaDoorBox
import Derived.Test.YtblfeaapjloppaaDoorRep
import Derived.BigRegion
namespace Go.Proofs.YtblfeaapjloppaaDoor
open Go.RowKit
set_option maxRecDepth 100000
set_option linter.unusedVariables false
set_option linter.unusedSimpArgs false

def inX (b : Bx) (x y : Int) : Bool := decide (b.x ≤ x) && decide (x < b.x + b.w) && decide (b.y ≤ y) && decide (y < b.y + b.h)
set_option maxHeartbeats 4000000 in
theorem inX_any (b : Bx) (x y : Int) (w : World) (hb : rightX b = true) : Calls Tryd.prog 31 #[bxV b, ptV x y] w fun e w' => e = .returned (.bool (inX b x y)) ∧ Below w.heap.size w w' := by
  have hR := fun w => rightX_any b w
  rw [hb] at hR
  have hbd := rightX_bd hb
  clear hb
  obtain ⟨bx, bY, bw, bh⟩ := b
  unfold inX bxV ptV at *
  dsimp only at hR hbd ⊢
  have HR := Lib.hid hR
  clear hR
  have hw2 : wrap64 (bx + bw) = bx + bw := wr_2 (by omega) (by omega)
  have hw4 : wrap64 (bY + bh) = bY + bh := wr_2 (by omega) (by omega)
  clear hbd
  have hn1 := below_new w (.cells #[.int .i64 bx, .int .i64 bY, .int .i64 bw, .int .i64 bh] 37)
  have hn2 := hn1.alloc hn1.size (.cells #[.int .i64 x, .int .i64 y] 60)
  have p1 := (Blk.new w 37 #[.int .i64 bx, .int .i64 bY, .int .i64 bw, .int .i64 bh]).alloc (.cells #[.int .i64 x, .int .i64 y] 60)
  have p2 := Blk.new (w.alloc (.cells #[.int .i64 bx, .int .i64 bY, .int .i64 bw, .int .i64 bh] 37)) 60 #[.int .i64 x, .int .i64 y]
  rw [World.size_alloc] at p2
  obtain ⟨w2, hw⟩ : ∃ w2, w2 = (w.alloc (.cells #[.int .i64 bx, .int .i64 bY, .int .i64 bw, .int .i64 bh] 37)).alloc (.cells #[.int .i64 x, .int .i64 y] 60) := ⟨_, rfl⟩
  have HB := Lib.hid hn2
  clear hn1 hn2
  rw [← hw] at HB p1 p2
  have HW := Lib.hid hw
  clear hw
  have c0 := p1.cell 0
  have c1 := p1.cell 1
  have c2 := p1.cell 2
  have c3 := p1.cell 3
  go_enter Tryd.func31, Tryd.ntmps31
  go_upto_region 1 with fail
  rw [← HW.out]
  go_wp2_with fail
  refine (HR.out _).mono ?_
  rintro e w3 ⟨rfl, hb3⟩
  have q1 := p1.below hb3 p1.lt
  have q2 := p2.below hb3 p2.lt
  have HB3 := Lib.hid (HB.out.trans (hb3.mono HB.out.size))
  clear hb3 p1 p2 c0 c1 c2 c3
  have c0 := q1.cell 0
  have c1 := q1.cell 1
  have c2 := q1.cell 2
  have c3 := q1.cell 3
  have d0 := q2.cell 0
  have d1 := q2.cell 1
  cases k1 : decide (bx ≤ x)
  · go_wp2
    go_ret
    exact ⟨ret_bool (by simp at k1; simp; omega), HB3.out⟩
  cases k2 : decide (x < bx + bw)
  · go_wp2
    go_ret
    exact ⟨ret_bool (by simp at k2; simp; omega), HB3.out⟩
  cases k3 : decide (bY ≤ y)
  · go_wp2
    go_ret
    exact ⟨ret_bool (by simp at k3; simp; omega), HB3.out⟩
  go_wp2
  go_ret
  exact ⟨ret_bool (by rw [k1, k2, k3]; simp), HB3.out⟩
end Go.Proofs.YtblfeaapjloppaaDoor
