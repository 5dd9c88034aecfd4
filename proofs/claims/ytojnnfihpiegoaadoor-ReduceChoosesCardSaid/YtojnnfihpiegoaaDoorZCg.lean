/-
  reduce.Equal. No condition but that the library's table is there.
  reduce.Uses. No condition but that the library's table is there.
  reduce.Uses. No condition but that the library's table is there.
-/
import Derived.Test.YtojnnfihpiegoaaDoorZCf
namespace Go.Proofs.YtojnnfihpiegoaaDoor
open Go.RowKit
set_option maxRecDepth 100000
set_option linter.unusedVariables false
set_option linter.unusedSimpArgs false

/-- the value reads as the tree -/
def TreeAt (w : World) (v : Value) (t : PT) : Prop := ∃ A c B d os, v = .agg #[.int .i64 t.st, .slice A t.ps.length c, .slice B os.length d] ∧ Pts w A t.ps ∧ Nds w B os ∧ os.map Hd.nd = t.ns
theorem TreeAt.ext {w w' : World} {v : Value} {t : PT} (h : TreeAt w v t) (hb : Below w.heap.size w w') : TreeAt w' v t := by
  obtain ⟨A, c, B, d, os, h1, h2, h3, h4⟩ := h
  exact ⟨A, c, B, d, os, h1, h2.ext hb, h3.ext hb, h4⟩
theorem RetT.treeAt {t : PT} {w w' : World} {e : Ending} (h : RetT t w e w') : ∃ v, e = .returned v ∧ TreeAt w' v t ∧ Below w.heap.size w w' := by
  obtain ⟨A, c, B, d, os, h1, -, -, h2, h3, h4, h5⟩ := RetTree.form h
  exact ⟨_, h1, ⟨A, c, B, d, os, rfl, h2, h3, h4⟩, h5⟩
theorem tsame_at {t u : PT} {v x : Value} {w : World} (h : TreeAt w v t) (k : TreeAt w x u) : Calls Tryd.prog 37 #[v, x] w fun e w' => e = .returned (.bool (sameP t u)) ∧ Below w.heap.size w w' := by
  obtain ⟨A, c, B, d, os, rfl, h2, h3, h4⟩ := h
  obtain ⟨A', c', B', d', os', rfl, k2, k3, k4⟩ := k
  have := tsame_any t.st u.st A c t.ps B d os A' c' u.ps B' d' os' w h2 h3 k2 k3
  rw [h4, k4] at this
  exact this
def equalP (a b : PT) : Bool := a.right && b.right && decide (a.st = b.st) && decide (a.ps = b.ps) && sameP (redT a) (redT b)
structure EqJ (w0 : World) (Pa : Nat) (s1 : Int) (A1 : Option Addr) (p1 : List (Int × Int)) (c1 : Nat) (B1 : Option Addr) (n1 : Nat) (d1 : Nat) (A2 : Option Addr) (p2 : List (Int × Int)) (c2 : Nat) (B2 : Option Addr) (n2 : Nat) (d2 : Nat) (ra : PT) (rb : PT) (q : Bool) (b0 b1 b2 b3 b4 b5 b6 b7 b8 b9 b10 b11 b12 b13 b14 b15 b16 b17 b18 b19 b20 b21 b22 b23 b24 b25 b26 b27 : Bool) (v5 v6 v7 v8 v9 v10 v11 v12 v13 v14 v15 v16 v17 v18 v19 v20 v21 v22 v23 v24 v25 v26 v27 v28 v29 v30 v31 v4 : Value) (w : World) : Prop where
  h0 : b0 = true → v5 = .agg #[.int .i64 s1, .slice A1 p1.length c1, .slice B1 n1 d1]
  h1 : b1 = true → v6 = .bool true
  h2 : b2 = true → v7 = .bool true
  h3 : b3 = true → v8 = .agg #[.int .i64 s1, .slice A2 p2.length c2, .slice B2 n2 d2]
  h4 : b4 = true → v9 = .bool true
  h5 : b5 = true → v10 = .bool true
  h6 : b6 = true → v11 = .bool true
  h7 : b7 = true → v12 = .pointer (some ⟨Pa, 0, none⟩)
  h8 : b8 = true → v13 = .int .i64 s1
  h9 : b9 = true → v14 = .pointer (some ⟨Pa + 1, 0, none⟩)
  h10 : b10 = true → v15 = .int .i64 s1
  h11 : b11 = true → v16 = .bool true
  h12 : b12 = true → v17 = .bool true
  h13 : b13 = true → v18 = .bool true
  h14 : b14 = true → v19 = .pointer (some ⟨Pa, 1, none⟩)
  h15 : b15 = true → v20 = .slice A1 p1.length c1
  h16 : b16 = true → v21 = .pointer (some ⟨Pa + 1, 1, none⟩)
  h17 : b17 = true → v22 = .slice A2 p2.length c2
  h18 : b18 = true → v23 = .bool true
  h19 : b19 = true → v24 = .bool true
  h20 : b20 = true → v25 = .bool true
  h21 : b21 = true → v26 = .agg #[.int .i64 s1, .slice A1 p1.length c1, .slice B1 n1 d1]
  h23 : b23 = true → v28 = .agg #[.int .i64 s1, .slice A2 p2.length c2, .slice B2 n2 d2]
  h25 : b25 = true → v30 = .bool q
  h26 : b26 = true → v31 = .bool q
  h27 : b27 = true → v4 = .bool q
  below : Below w0.heap.size w0 w
  h22 : b22 = true → TreeAt w v27 ra
  h24 : b24 = true → TreeAt w v29 rb
section
variable {w0 : World} {Pa : Nat} {s1 : Int} {A1 : Option Addr} {p1 : List (Int × Int)} {c1 : Nat} {B1 : Option Addr} {n1 : Nat} {d1 : Nat} {A2 : Option Addr} {p2 : List (Int × Int)} {c2 : Nat} {B2 : Option Addr} {n2 : Nat} {d2 : Nat} {ra : PT} {rb : PT} {q : Bool} {b0 b1 b2 b3 b4 b5 b6 b7 b8 b9 b10 b11 b12 b13 b14 b15 b16 b17 b18 b19 b20 b21 b22 b23 b24 b25 b26 b27 : Bool} {v5 v6 v7 v8 v9 v10 v11 v12 v13 v14 v15 v16 v17 v18 v19 v20 v21 v22 v23 v24 v25 v26 v27 v28 v29 v30 v31 v4 : Value} {w w' : World}
theorem EqJ.world (H : EqJ w0 Pa s1 A1 p1 c1 B1 n1 d1 A2 p2 c2 B2 n2 d2 ra rb q b0 b1 b2 b3 b4 b5 b6 b7 b8 b9 b10 b11 b12 b13 b14 b15 b16 b17 b18 b19 b20 b21 b22 b23 b24 b25 b26 b27 v5 v6 v7 v8 v9 v10 v11 v12 v13 v14 v15 v16 v17 v18 v19 v20 v21 v22 v23 v24 v25 v26 v27 v28 v29 v30 v31 v4 w) (hb : Below w.heap.size w w') : EqJ w0 Pa s1 A1 p1 c1 B1 n1 d1 A2 p2 c2 B2 n2 d2 ra rb q b0 b1 b2 b3 b4 b5 b6 b7 b8 b9 b10 b11 b12 b13 b14 b15 b16 b17 b18 b19 b20 b21 b22 b23 b24 b25 b26 b27 v5 v6 v7 v8 v9 v10 v11 v12 v13 v14 v15 v16 v17 v18 v19 v20 v21 v22 v23 v24 v25 v26 v27 v28 v29 v30 v31 v4 w' :=
  ⟨H.h0, H.h1, H.h2, H.h3, H.h4, H.h5, H.h6, H.h7, H.h8, H.h9, H.h10, H.h11, H.h12, H.h13, H.h14, H.h15, H.h16, H.h17, H.h18, H.h19, H.h20, H.h21, H.h23, H.h25, H.h26, H.h27, H.below.trans (hb.mono H.below.size), fun h => (H.h22 h).ext hb, fun h => (H.h24 h).ext hb⟩
end

set_option maxHeartbeats 8000000 in
theorem equal_any (s1 s2 : Int) (A1 : Option Addr) (c1 : Nat) (p1 : List (Int × Int)) (B1 : Option Addr) (d1 : Nat) (h1 : List Hd) (A2 : Option Addr) (c2 : Nat) (p2 : List (Int × Int)) (B2 : Option Addr) (d2 : Nat) (h2 : List Hd) (w : World)
    (hp1 : Pts w A1 p1) (hn1 : Nds w B1 h1) (hp2 : Pts w A2 p2) (hn2 : Nds w B2 h2) (ht : TabB w.heap.size w) :
    Calls Tryd.prog 14 #[.agg #[.int .i64 s1, .slice A1 p1.length c1, .slice B1 h1.length d1], .agg #[.int .i64 s2, .slice A2 p2.length c2, .slice B2 h2.length d2]] w fun e w' => e = .returned (.bool (equalP ⟨s1, p1, h1.map Hd.nd⟩ ⟨s2, p2, h2.map Hd.nd⟩)) ∧ Below w.heap.size w w' := by
  obtain ⟨v1, hv1⟩ : ∃ v1, v1 = w.alloc (.cells #[.int .i64 s1, .slice A1 p1.length c1, .slice B1 h1.length d1] 25) := ⟨_, rfl⟩
  obtain ⟨w0, hw0⟩ : ∃ w0, w0 = v1.alloc (.cells #[.int .i64 s2, .slice A2 p2.length c2, .slice B2 h2.length d2] 25) := ⟨_, rfl⟩
  have b1 : Below w.heap.size w v1 := by rw [hv1]; exact below_new _ _
  have b2 : Below v1.heap.size v1 w0 := by rw [hw0]; exact below_new _ _
  have z1 : v1.heap.size = w.heap.size + 1 := by rw [hv1]; simp
  have q1 : Blk v1 w.heap.size 25 #[.int .i64 s1, .slice A1 p1.length c1, .slice B1 h1.length d1] := by rw [hv1]; exact Blk.new _ _ _
  have q2 : Blk w0 v1.heap.size 25 #[.int .i64 s2, .slice A2 p2.length c2, .slice B2 h2.length d2] := by rw [hw0]; exact Blk.new _ _ _
  have q1' := q1.below b2 q1.lt
  rw [z1] at q2
  have hb0 := b1.trans (b2.mono b1.size)
  rw [hv1] at hw0
  have HW := Lib.hid hw0
  have HB := Lib.hid hb0
  have hC1 := fun W (hb : Below w0.heap.size w0 W) => right_any s1 A1 c1 p1 B1 d1 h1 W ((hp1.ext hb0).ext hb) ((hn1.ext hb0).ext hb)
  have hC2 := fun W (hb : Below w0.heap.size w0 W) => right_any s2 A2 c2 p2 B2 d2 h2 W ((hp2.ext hb0).ext hb) ((hn2.ext hb0).ext hb)
  have hC3 := fun W (hb : Below w0.heap.size w0 W) => hsame_any A1 A2 c1 c2 p1 p2 W ((hp1.ext hb0).ext hb) ((hp2.ext hb0).ext hb)
  have hC4 := fun W (hb : Below w0.heap.size w0 W) => reduce_any s1 A1 c1 p1 B1 d1 h1 W ((hp1.ext hb0).ext hb) ((hn1.ext hb0).ext hb) (((ht.on hb0).on (hb.mono hb0.size)).up (Nat.le_trans hb0.size hb.size))
  have hC5 := fun W (hb : Below w0.heap.size w0 W) => reduce_any s2 A2 c2 p2 B2 d2 h2 W ((hp2.ext hb0).ext hb) ((hn2.ext hb0).ext hb) (((ht.on hb0).on (hb.mono hb0.size)).up (Nat.le_trans hb0.size hb.size))
  have HQ1 := Lib.hid q1'
  have HQ2 := Lib.hid q2
  have X0 := cell_regrown (q1'.cell_ 0 (.int .i64 s1) rfl)
  have X1 := cell_regrown (q1'.cell_ 1 (.slice A1 p1.length c1) rfl)
  have X2 := cell_regrown (q1'.cell_ 2 (.slice B1 h1.length d1) rfl)
  have Y0 := cell_regrown (q2.cell_ 0 (.int .i64 s2) rfl)
  have Y1 := cell_regrown (q2.cell_ 1 (.slice A2 p2.length c2) rfl)
  have Y2 := cell_regrown (q2.cell_ 2 (.slice B2 h2.length d2) rfl)
  have hE : equalP ⟨s1, p1, h1.map Hd.nd⟩ ⟨s2, p2, h2.map Hd.nd⟩ = (rightN s1 p1 (h1.map Hd.nd) && rightN s2 p2 (h2.map Hd.nd) && decide (s1 = s2) && decide (p1 = p2) && sameP (redT ⟨s1, p1, h1.map Hd.nd⟩) (redT ⟨s2, p2, h2.map Hd.nd⟩)) := rfl
  rw [hE]
  obtain ⟨ra, hra⟩ : ∃ ra, ra = redT ⟨s1, p1, h1.map Hd.nd⟩ := ⟨_, rfl⟩
  obtain ⟨rb, hrb⟩ : ∃ rb, rb = redT ⟨s2, p2, h2.map Hd.nd⟩ := ⟨_, rfl⟩
  rw [← hra] at hC4 ⊢
  rw [← hrb] at hC5 ⊢
  clear hv1 hw0 b1 b2 z1 q1 q2 q1' hb0 hp1 hp2 hn1 hn2 ht hE hra hrb
  cases r1 : rightN s1 p1 (h1.map Hd.nd) with
  | false =>
    simp only [r1] at hC1
    have CC1 := Lib.hid (fun dd os => Calls.regrown_of (w := w0) (d := dd) (os := os) (hC1 _ (below_regrown w0 dd os)))
    clear r1 hC1 hC2 hC3 hC4 hC5
    go_enter Tryd.func14, Tryd.ntmps14
    go_upto_region 1 with fail
    rw [← HW.out]
    refine wp_region_quiet_below (by kernel_rfl) (by kernel_rfl) ?_
    repeat (go_big_quiet_step (with_reducible exact CC1.out _ _))
    refine wpQuiet_nil ?_
    intro _ hw'
    obtain ⟨⟨dq, osq⟩, hw''⟩ := hw'
    subst hw''
    go_wp2
    go_ret
    exact ⟨rfl, HB.out.trans ((below_regrown w0 dq osq).mono HB.out.size)⟩
  | true =>
    simp only [r1] at hC1
    clear r1
    cases r2 : rightN s2 p2 (h2.map Hd.nd) with
    | false =>
      simp only [r2] at hC2
      have CC1 := Lib.hid (fun dd os => Calls.regrown_of (w := w0) (d := dd) (os := os) (hC1 _ (below_regrown w0 dd os)))
      have CC2 := Lib.hid (fun dd os => Calls.regrown_of (w := w0) (d := dd) (os := os) (hC2 _ (below_regrown w0 dd os)))
      clear r2 hC1 hC2 hC3 hC4 hC5
      go_enter Tryd.func14, Tryd.ntmps14
      go_upto_region 1 with fail
      rw [← HW.out]
      refine wp_region_quiet_below (by kernel_rfl) (by kernel_rfl) ?_
      repeat (go_big_quiet_step (first | with_reducible exact CC1.out _ _ | with_reducible exact CC2.out _ _))
      refine wpQuiet_nil ?_
      intro _ hw'
      obtain ⟨⟨dq, osq⟩, hw''⟩ := hw'
      subst hw''
      go_wp2
      go_ret
      exact ⟨rfl, HB.out.trans ((below_regrown w0 dq osq).mono HB.out.size)⟩
    | true =>
      simp only [r2] at hC2
      clear r2
      by_cases hs : s1 = s2
      · by_cases hp : p1 = p2
        · simp only [decide_eq_true hp] at hC3
          subst hs
          rw [decide_eq_true hp]
          have e1 : (s1 == s1) = true := by simp
          have HC1 := Lib.hid hC1
          have HC2 := Lib.hid hC2
          have HC3 := Lib.hid hC3
          have HC4 := Lib.hid hC4
          have HC5 := Lib.hid hC5
          obtain ⟨q, hq⟩ : ∃ q, q = sameP ra rb := ⟨_, rfl⟩
          rw [← hq]
          have HQ := Lib.hid hq
          clear hC1 hC2 hC3 hC4 hC5 hp hq X0 X1 X2 Y0 Y1 Y2
          go_enter Tryd.func14, Tryd.ntmps14
          go_upto_region 1 with fail
          rw [← HW.out]
          refine wp_region_J (by kernel_rfl) (fun listed act w' => ∃ b0 b1 b2 b3 b4 b5 b6 b7 b8 b9 b10 b11 b12 b13 b14 b15 b16 b17 b18 b19 b20 b21 b22 b23 b24 b25 b26 b27 v5 v6 v7 v8 v9 v10 v11 v12 v13 v14 v15 v16 v17 v18 v19 v20 v21 v22 v23 v24 v25 v26 v27 v28 v29 v30 v31 v4, listed = #[b0, b1, b2, b3, b4, b5, b6, b7, b8, b9, b10, b11, b12, b13, b14, b15, b16, b17, b18, b19, b20, b21, b22, b23, b24, b25, b26, b27] ∧ act = Act.mk #[.agg #[.int .i64 s1, .slice A1 p1.length c1, .slice B1 h1.length d1], .agg #[.int .i64 s1, .slice A2 p2.length c2, .slice B2 h2.length d2], .pointer (some ⟨w.heap.size, 0, none⟩), .pointer (some ⟨w.heap.size + 1, 0, none⟩), v4, v5, v6, v7, v8, v9, v10, v11, v12, v13, v14, v15, v16, v17, v18, v19, v20, v21, v22, v23, v24, v25, v26, v27, v28, v29, v30, v31] [] ∧ EqJ w0 w.heap.size s1 A1 p1 c1 B1 h1.length d1 A2 p2 c2 B2 h2.length d2 ra rb q b0 b1 b2 b3 b4 b5 b6 b7 b8 b9 b10 b11 b12 b13 b14 b15 b16 b17 b18 b19 b20 b21 b22 b23 b24 b25 b26 b27 v5 v6 v7 v8 v9 v10 v11 v12 v13 v14 v15 v16 v17 v18 v19 v20 v21 v22 v23 v24 v25 v26 v27 v28 v29 v30 v31 v4 w') ?_ ?_ ?_
          · exact ⟨_, _, _, _, _, _, _, _, _, _, _, _, _, _, _, _, _, _, _, _, _, _, _, _, _, _, _, _, _, _, _, _, _, _, _, _, _, _, _, _, _, _, _, _, _, _, _, _, _, _, _, _, _, _, _, _, rfl, rfl, ⟨(by simp), (by simp), (by simp), (by simp), (by simp), (by simp), (by simp), (by simp), (by simp), (by simp), (by simp), (by simp), (by simp), (by simp), (by simp), (by simp), (by simp), (by simp), (by simp), (by simp), (by simp), (by simp), (by simp), (by simp), (by simp), (by simp), ((Below.refl _ w0).drew), (by simp), (by simp)⟩⟩
          · rintro i listed act w' hi ⟨b0, b1, b2, b3, b4, b5, b6, b7, b8, b9, b10, b11, b12, b13, b14, b15, b16, b17, b18, b19, b20, b21, b22, b23, b24, b25, b26, b27, v5, v6, v7, v8, v9, v10, v11, v12, v13, v14, v15, v16, v17, v18, v19, v20, v21, v22, v23, v24, v25, v26, v27, v28, v29, v30, v31, v4, rfl, rfl, H⟩
            have hi16 : i < 28 := by
              obtain ⟨-, o, ho, -⟩ := mem_ready.1 hi
              exact (Array.getElem?_eq_some_iff.1 ho).1
            obtain rfl | rfl | rfl | rfl | rfl | rfl | rfl | rfl | rfl | rfl | rfl | rfl | rfl | rfl | rfl | rfl | rfl | rfl | rfl | rfl | rfl | rfl | rfl | rfl | rfl | rfl | rfl | rfl : i = 0 ∨ i = 1 ∨ i = 2 ∨ i = 3 ∨ i = 4 ∨ i = 5 ∨ i = 6 ∨ i = 7 ∨ i = 8 ∨ i = 9 ∨ i = 10 ∨ i = 11 ∨ i = 12 ∨ i = 13 ∨ i = 14 ∨ i = 15 ∨ i = 16 ∨ i = 17 ∨ i = 18 ∨ i = 19 ∨ i = 20 ∨ i = 21 ∨ i = 22 ∨ i = 23 ∨ i = 24 ∨ i = 25 ∨ i = 26 ∨ i = 27 := by omega
            all_goals simp [mem_ready, Region.binds] at hi
            · have ccA0 := (H.below.cell (p := ⟨w.heap.size, 0, none⟩) HQ1.out.lt).trans (HQ1.out.cell_ 0 (.int .i64 s1) rfl)
              have ccA1 := (H.below.cell (p := ⟨w.heap.size, 1, none⟩) HQ1.out.lt).trans (HQ1.out.cell_ 1 (.slice A1 p1.length c1) rfl)
              have ccA2 := (H.below.cell (p := ⟨w.heap.size, 2, none⟩) HQ1.out.lt).trans (HQ1.out.cell_ 2 (.slice B1 h1.length d1) rfl)
              refine wpOp_hidden rfl fun K hK => ?_
              go_wp2
              refine OnlyN.mk (hK.out _ _ ⟨true, _, _, _, _, _, _, _, _, _, _, _, _, _, _, _, _, _, _, _, _, _, _, _, _, _, _, _, .agg #[.int .i64 s1, .slice A1 p1.length c1, .slice B1 h1.length d1], _, _, _, _, _, _, _, _, _, _, _, _, _, _, _, _, _, _, _, _, _, _, _, _, _, _, _, rfl, rfl, ⟨fun _ => rfl, H.h1, H.h2, H.h3, H.h4, H.h5, H.h6, H.h7, H.h8, H.h9, H.h10, H.h11, H.h12, H.h13, H.h14, H.h15, H.h16, H.h17, H.h18, H.h19, H.h20, H.h21, H.h23, H.h25, H.h26, H.h27, H.below, H.h22, H.h24⟩⟩)
            · obtain rfl := H.h0 (by simp [hi])
              have HCX := Lib.hid (HC1.out w' H.below)
              refine wpOp_hidden rfl fun K hK => ?_
              go_wp2_with (go_at_call 27; refine HCX.out.mono ?_)
              rintro e w9 ⟨rfl, hb9⟩
              have HA := Lib.hid (H.world hb9)
              clear H hb9
              go_wp2
              refine OnlyN.mk (hK.out _ _ ⟨_, true, _, _, _, _, _, _, _, _, _, _, _, _, _, _, _, _, _, _, _, _, _, _, _, _, _, _, _, .bool true, _, _, _, _, _, _, _, _, _, _, _, _, _, _, _, _, _, _, _, _, _, _, _, _, _, _, rfl, rfl, ⟨HA.out.h0, fun _ => rfl, HA.out.h2, HA.out.h3, HA.out.h4, HA.out.h5, HA.out.h6, HA.out.h7, HA.out.h8, HA.out.h9, HA.out.h10, HA.out.h11, HA.out.h12, HA.out.h13, HA.out.h14, HA.out.h15, HA.out.h16, HA.out.h17, HA.out.h18, HA.out.h19, HA.out.h20, HA.out.h21, HA.out.h23, HA.out.h25, HA.out.h26, HA.out.h27, HA.out.below, HA.out.h22, HA.out.h24⟩⟩)
            · obtain rfl := H.h1 (by simp [hi])
              refine wpOp_hidden rfl fun K hK => ?_
              go_wp2
              refine OnlyN.mk (hK.out _ _ ⟨_, _, true, _, _, _, _, _, _, _, _, _, _, _, _, _, _, _, _, _, _, _, _, _, _, _, _, _, _, _, .bool true, _, _, _, _, _, _, _, _, _, _, _, _, _, _, _, _, _, _, _, _, _, _, _, _, _, rfl, rfl, ⟨H.h0, H.h1, fun _ => rfl, H.h3, H.h4, H.h5, H.h6, H.h7, H.h8, H.h9, H.h10, H.h11, H.h12, H.h13, H.h14, H.h15, H.h16, H.h17, H.h18, H.h19, H.h20, H.h21, H.h23, H.h25, H.h26, H.h27, H.below, H.h22, H.h24⟩⟩)
            · obtain rfl := H.h2 (by simp [hi])
              have ccB0 := (H.below.cell (p := ⟨w.heap.size + 1, 0, none⟩) HQ2.out.lt).trans (HQ2.out.cell_ 0 (.int .i64 s1) rfl)
              have ccB1 := (H.below.cell (p := ⟨w.heap.size + 1, 1, none⟩) HQ2.out.lt).trans (HQ2.out.cell_ 1 (.slice A2 p2.length c2) rfl)
              have ccB2 := (H.below.cell (p := ⟨w.heap.size + 1, 2, none⟩) HQ2.out.lt).trans (HQ2.out.cell_ 2 (.slice B2 h2.length d2) rfl)
              refine wpOp_hidden rfl fun K hK => ?_
              go_wp2
              refine OnlyN.mk (hK.out _ _ ⟨_, _, _, true, _, _, _, _, _, _, _, _, _, _, _, _, _, _, _, _, _, _, _, _, _, _, _, _, _, _, _, .agg #[.int .i64 s1, .slice A2 p2.length c2, .slice B2 h2.length d2], _, _, _, _, _, _, _, _, _, _, _, _, _, _, _, _, _, _, _, _, _, _, _, _, rfl, rfl, ⟨H.h0, H.h1, H.h2, fun _ => rfl, H.h4, H.h5, H.h6, H.h7, H.h8, H.h9, H.h10, H.h11, H.h12, H.h13, H.h14, H.h15, H.h16, H.h17, H.h18, H.h19, H.h20, H.h21, H.h23, H.h25, H.h26, H.h27, H.below, H.h22, H.h24⟩⟩)
            · obtain rfl := H.h2 (by simp [hi])
              obtain rfl := H.h3 (by simp [hi])
              have HCX := Lib.hid (HC2.out w' H.below)
              refine wpOp_hidden rfl fun K hK => ?_
              go_wp2_with (go_at_call 27; refine HCX.out.mono ?_)
              rintro e w9 ⟨rfl, hb9⟩
              have HA := Lib.hid (H.world hb9)
              clear H hb9
              go_wp2
              refine OnlyN.mk (hK.out _ _ ⟨_, _, _, _, true, _, _, _, _, _, _, _, _, _, _, _, _, _, _, _, _, _, _, _, _, _, _, _, _, _, _, _, .bool true, _, _, _, _, _, _, _, _, _, _, _, _, _, _, _, _, _, _, _, _, _, _, _, rfl, rfl, ⟨HA.out.h0, HA.out.h1, HA.out.h2, HA.out.h3, fun _ => rfl, HA.out.h5, HA.out.h6, HA.out.h7, HA.out.h8, HA.out.h9, HA.out.h10, HA.out.h11, HA.out.h12, HA.out.h13, HA.out.h14, HA.out.h15, HA.out.h16, HA.out.h17, HA.out.h18, HA.out.h19, HA.out.h20, HA.out.h21, HA.out.h23, HA.out.h25, HA.out.h26, HA.out.h27, HA.out.below, HA.out.h22, HA.out.h24⟩⟩)
            · obtain rfl := H.h2 (by simp [hi])
              obtain rfl := H.h4 (by simp [hi])
              refine wpOp_hidden rfl fun K hK => ?_
              go_wp2
              refine OnlyN.mk (hK.out _ _ ⟨_, _, _, _, _, true, _, _, _, _, _, _, _, _, _, _, _, _, _, _, _, _, _, _, _, _, _, _, _, _, _, _, _, .bool true, _, _, _, _, _, _, _, _, _, _, _, _, _, _, _, _, _, _, _, _, _, _, rfl, rfl, ⟨H.h0, H.h1, H.h2, H.h3, H.h4, fun _ => rfl, H.h6, H.h7, H.h8, H.h9, H.h10, H.h11, H.h12, H.h13, H.h14, H.h15, H.h16, H.h17, H.h18, H.h19, H.h20, H.h21, H.h23, H.h25, H.h26, H.h27, H.below, H.h22, H.h24⟩⟩)
            · obtain rfl := H.h5 (by simp [hi])
              refine wpOp_hidden rfl fun K hK => ?_
              go_wp2
              refine OnlyN.mk (hK.out _ _ ⟨_, _, _, _, _, _, true, _, _, _, _, _, _, _, _, _, _, _, _, _, _, _, _, _, _, _, _, _, _, _, _, _, _, _, .bool true, _, _, _, _, _, _, _, _, _, _, _, _, _, _, _, _, _, _, _, _, _, rfl, rfl, ⟨H.h0, H.h1, H.h2, H.h3, H.h4, H.h5, fun _ => rfl, H.h7, H.h8, H.h9, H.h10, H.h11, H.h12, H.h13, H.h14, H.h15, H.h16, H.h17, H.h18, H.h19, H.h20, H.h21, H.h23, H.h25, H.h26, H.h27, H.below, H.h22, H.h24⟩⟩)
            · obtain rfl := H.h6 (by simp [hi])
              refine wpOp_hidden rfl fun K hK => ?_
              go_wp2
              refine OnlyN.mk (hK.out _ _ ⟨_, _, _, _, _, _, _, true, _, _, _, _, _, _, _, _, _, _, _, _, _, _, _, _, _, _, _, _, _, _, _, _, _, _, _, .pointer (some ⟨w.heap.size, 0, none⟩), _, _, _, _, _, _, _, _, _, _, _, _, _, _, _, _, _, _, _, _, rfl, rfl, ⟨H.h0, H.h1, H.h2, H.h3, H.h4, H.h5, H.h6, fun _ => rfl, H.h8, H.h9, H.h10, H.h11, H.h12, H.h13, H.h14, H.h15, H.h16, H.h17, H.h18, H.h19, H.h20, H.h21, H.h23, H.h25, H.h26, H.h27, H.below, H.h22, H.h24⟩⟩)
            · obtain rfl := H.h6 (by simp [hi])
              obtain rfl := H.h7 (by simp [hi])
              have ccA0 := (H.below.cell (p := ⟨w.heap.size, 0, none⟩) HQ1.out.lt).trans (HQ1.out.cell_ 0 (.int .i64 s1) rfl)
              refine wpOp_hidden rfl fun K hK => ?_
              go_wp2
              refine OnlyN.mk (hK.out _ _ ⟨_, _, _, _, _, _, _, _, true, _, _, _, _, _, _, _, _, _, _, _, _, _, _, _, _, _, _, _, _, _, _, _, _, _, _, _, .int .i64 s1, _, _, _, _, _, _, _, _, _, _, _, _, _, _, _, _, _, _, _, rfl, rfl, ⟨H.h0, H.h1, H.h2, H.h3, H.h4, H.h5, H.h6, H.h7, fun _ => rfl, H.h9, H.h10, H.h11, H.h12, H.h13, H.h14, H.h15, H.h16, H.h17, H.h18, H.h19, H.h20, H.h21, H.h23, H.h25, H.h26, H.h27, H.below, H.h22, H.h24⟩⟩)
            · obtain rfl := H.h6 (by simp [hi])
              refine wpOp_hidden rfl fun K hK => ?_
              go_wp2
              refine OnlyN.mk (hK.out _ _ ⟨_, _, _, _, _, _, _, _, _, true, _, _, _, _, _, _, _, _, _, _, _, _, _, _, _, _, _, _, _, _, _, _, _, _, _, _, _, .pointer (some ⟨w.heap.size + 1, 0, none⟩), _, _, _, _, _, _, _, _, _, _, _, _, _, _, _, _, _, _, rfl, rfl, ⟨H.h0, H.h1, H.h2, H.h3, H.h4, H.h5, H.h6, H.h7, H.h8, fun _ => rfl, H.h10, H.h11, H.h12, H.h13, H.h14, H.h15, H.h16, H.h17, H.h18, H.h19, H.h20, H.h21, H.h23, H.h25, H.h26, H.h27, H.below, H.h22, H.h24⟩⟩)
            · obtain rfl := H.h6 (by simp [hi])
              obtain rfl := H.h9 (by simp [hi])
              have ccB0 := (H.below.cell (p := ⟨w.heap.size + 1, 0, none⟩) HQ2.out.lt).trans (HQ2.out.cell_ 0 (.int .i64 s1) rfl)
              refine wpOp_hidden rfl fun K hK => ?_
              go_wp2
              refine OnlyN.mk (hK.out _ _ ⟨_, _, _, _, _, _, _, _, _, _, true, _, _, _, _, _, _, _, _, _, _, _, _, _, _, _, _, _, _, _, _, _, _, _, _, _, _, _, .int .i64 s1, _, _, _, _, _, _, _, _, _, _, _, _, _, _, _, _, _, rfl, rfl, ⟨H.h0, H.h1, H.h2, H.h3, H.h4, H.h5, H.h6, H.h7, H.h8, H.h9, fun _ => rfl, H.h11, H.h12, H.h13, H.h14, H.h15, H.h16, H.h17, H.h18, H.h19, H.h20, H.h21, H.h23, H.h25, H.h26, H.h27, H.below, H.h22, H.h24⟩⟩)
            · obtain rfl := H.h6 (by simp [hi])
              obtain rfl := H.h8 (by simp [hi])
              obtain rfl := H.h10 (by simp [hi])
              refine wpOp_hidden rfl fun K hK => ?_
              go_wp2
              refine OnlyN.mk (hK.out _ _ ⟨_, _, _, _, _, _, _, _, _, _, _, true, _, _, _, _, _, _, _, _, _, _, _, _, _, _, _, _, _, _, _, _, _, _, _, _, _, _, _, .bool true, _, _, _, _, _, _, _, _, _, _, _, _, _, _, _, _, rfl, rfl, ⟨H.h0, H.h1, H.h2, H.h3, H.h4, H.h5, H.h6, H.h7, H.h8, H.h9, H.h10, fun _ => rfl, H.h12, H.h13, H.h14, H.h15, H.h16, H.h17, H.h18, H.h19, H.h20, H.h21, H.h23, H.h25, H.h26, H.h27, H.below, H.h22, H.h24⟩⟩)
            · obtain rfl := H.h6 (by simp [hi])
              obtain rfl := H.h11 (by simp [hi])
              refine wpOp_hidden rfl fun K hK => ?_
              go_wp2
              refine OnlyN.mk (hK.out _ _ ⟨_, _, _, _, _, _, _, _, _, _, _, _, true, _, _, _, _, _, _, _, _, _, _, _, _, _, _, _, _, _, _, _, _, _, _, _, _, _, _, _, .bool true, _, _, _, _, _, _, _, _, _, _, _, _, _, _, _, rfl, rfl, ⟨H.h0, H.h1, H.h2, H.h3, H.h4, H.h5, H.h6, H.h7, H.h8, H.h9, H.h10, H.h11, fun _ => rfl, H.h13, H.h14, H.h15, H.h16, H.h17, H.h18, H.h19, H.h20, H.h21, H.h23, H.h25, H.h26, H.h27, H.below, H.h22, H.h24⟩⟩)
            · obtain rfl := H.h12 (by simp [hi])
              refine wpOp_hidden rfl fun K hK => ?_
              go_wp2
              refine OnlyN.mk (hK.out _ _ ⟨_, _, _, _, _, _, _, _, _, _, _, _, _, true, _, _, _, _, _, _, _, _, _, _, _, _, _, _, _, _, _, _, _, _, _, _, _, _, _, _, _, .bool true, _, _, _, _, _, _, _, _, _, _, _, _, _, _, rfl, rfl, ⟨H.h0, H.h1, H.h2, H.h3, H.h4, H.h5, H.h6, H.h7, H.h8, H.h9, H.h10, H.h11, H.h12, fun _ => rfl, H.h14, H.h15, H.h16, H.h17, H.h18, H.h19, H.h20, H.h21, H.h23, H.h25, H.h26, H.h27, H.below, H.h22, H.h24⟩⟩)
            · obtain rfl := H.h13 (by simp [hi])
              refine wpOp_hidden rfl fun K hK => ?_
              go_wp2
              refine OnlyN.mk (hK.out _ _ ⟨_, _, _, _, _, _, _, _, _, _, _, _, _, _, true, _, _, _, _, _, _, _, _, _, _, _, _, _, _, _, _, _, _, _, _, _, _, _, _, _, _, _, .pointer (some ⟨w.heap.size, 1, none⟩), _, _, _, _, _, _, _, _, _, _, _, _, _, rfl, rfl, ⟨H.h0, H.h1, H.h2, H.h3, H.h4, H.h5, H.h6, H.h7, H.h8, H.h9, H.h10, H.h11, H.h12, H.h13, fun _ => rfl, H.h15, H.h16, H.h17, H.h18, H.h19, H.h20, H.h21, H.h23, H.h25, H.h26, H.h27, H.below, H.h22, H.h24⟩⟩)
            · obtain rfl := H.h13 (by simp [hi])
              obtain rfl := H.h14 (by simp [hi])
              have ccA1 := (H.below.cell (p := ⟨w.heap.size, 1, none⟩) HQ1.out.lt).trans (HQ1.out.cell_ 1 (.slice A1 p1.length c1) rfl)
              refine wpOp_hidden rfl fun K hK => ?_
              go_wp2
              refine OnlyN.mk (hK.out _ _ ⟨_, _, _, _, _, _, _, _, _, _, _, _, _, _, _, true, _, _, _, _, _, _, _, _, _, _, _, _, _, _, _, _, _, _, _, _, _, _, _, _, _, _, _, .slice A1 p1.length c1, _, _, _, _, _, _, _, _, _, _, _, _, rfl, rfl, ⟨H.h0, H.h1, H.h2, H.h3, H.h4, H.h5, H.h6, H.h7, H.h8, H.h9, H.h10, H.h11, H.h12, H.h13, H.h14, fun _ => rfl, H.h16, H.h17, H.h18, H.h19, H.h20, H.h21, H.h23, H.h25, H.h26, H.h27, H.below, H.h22, H.h24⟩⟩)
            · obtain rfl := H.h13 (by simp [hi])
              refine wpOp_hidden rfl fun K hK => ?_
              go_wp2
              refine OnlyN.mk (hK.out _ _ ⟨_, _, _, _, _, _, _, _, _, _, _, _, _, _, _, _, true, _, _, _, _, _, _, _, _, _, _, _, _, _, _, _, _, _, _, _, _, _, _, _, _, _, _, _, .pointer (some ⟨w.heap.size + 1, 1, none⟩), _, _, _, _, _, _, _, _, _, _, _, rfl, rfl, ⟨H.h0, H.h1, H.h2, H.h3, H.h4, H.h5, H.h6, H.h7, H.h8, H.h9, H.h10, H.h11, H.h12, H.h13, H.h14, H.h15, fun _ => rfl, H.h17, H.h18, H.h19, H.h20, H.h21, H.h23, H.h25, H.h26, H.h27, H.below, H.h22, H.h24⟩⟩)
            · obtain rfl := H.h13 (by simp [hi])
              obtain rfl := H.h16 (by simp [hi])
              have ccB1 := (H.below.cell (p := ⟨w.heap.size + 1, 1, none⟩) HQ2.out.lt).trans (HQ2.out.cell_ 1 (.slice A2 p2.length c2) rfl)
              refine wpOp_hidden rfl fun K hK => ?_
              go_wp2
              refine OnlyN.mk (hK.out _ _ ⟨_, _, _, _, _, _, _, _, _, _, _, _, _, _, _, _, _, true, _, _, _, _, _, _, _, _, _, _, _, _, _, _, _, _, _, _, _, _, _, _, _, _, _, _, _, .slice A2 p2.length c2, _, _, _, _, _, _, _, _, _, _, rfl, rfl, ⟨H.h0, H.h1, H.h2, H.h3, H.h4, H.h5, H.h6, H.h7, H.h8, H.h9, H.h10, H.h11, H.h12, H.h13, H.h14, H.h15, H.h16, fun _ => rfl, H.h18, H.h19, H.h20, H.h21, H.h23, H.h25, H.h26, H.h27, H.below, H.h22, H.h24⟩⟩)
            · obtain rfl := H.h13 (by simp [hi])
              obtain rfl := H.h15 (by simp [hi])
              obtain rfl := H.h17 (by simp [hi])
              have HCX := Lib.hid (HC3.out w' H.below)
              refine wpOp_hidden rfl fun K hK => ?_
              go_wp2_with (go_at_call 36; refine HCX.out.mono ?_)
              rintro e w9 ⟨rfl, hb9⟩
              have HA := Lib.hid (H.world hb9)
              clear H hb9
              go_wp2
              refine OnlyN.mk (hK.out _ _ ⟨_, _, _, _, _, _, _, _, _, _, _, _, _, _, _, _, _, _, true, _, _, _, _, _, _, _, _, _, _, _, _, _, _, _, _, _, _, _, _, _, _, _, _, _, _, _, .bool true, _, _, _, _, _, _, _, _, _, rfl, rfl, ⟨HA.out.h0, HA.out.h1, HA.out.h2, HA.out.h3, HA.out.h4, HA.out.h5, HA.out.h6, HA.out.h7, HA.out.h8, HA.out.h9, HA.out.h10, HA.out.h11, HA.out.h12, HA.out.h13, HA.out.h14, HA.out.h15, HA.out.h16, HA.out.h17, fun _ => rfl, HA.out.h19, HA.out.h20, HA.out.h21, HA.out.h23, HA.out.h25, HA.out.h26, HA.out.h27, HA.out.below, HA.out.h22, HA.out.h24⟩⟩)
            · obtain rfl := H.h13 (by simp [hi])
              obtain rfl := H.h18 (by simp [hi])
              refine wpOp_hidden rfl fun K hK => ?_
              go_wp2
              refine OnlyN.mk (hK.out _ _ ⟨_, _, _, _, _, _, _, _, _, _, _, _, _, _, _, _, _, _, _, true, _, _, _, _, _, _, _, _, _, _, _, _, _, _, _, _, _, _, _, _, _, _, _, _, _, _, _, .bool true, _, _, _, _, _, _, _, _, rfl, rfl, ⟨H.h0, H.h1, H.h2, H.h3, H.h4, H.h5, H.h6, H.h7, H.h8, H.h9, H.h10, H.h11, H.h12, H.h13, H.h14, H.h15, H.h16, H.h17, H.h18, fun _ => rfl, H.h20, H.h21, H.h23, H.h25, H.h26, H.h27, H.below, H.h22, H.h24⟩⟩)
            · obtain rfl := H.h19 (by simp [hi])
              refine wpOp_hidden rfl fun K hK => ?_
              go_wp2
              refine OnlyN.mk (hK.out _ _ ⟨_, _, _, _, _, _, _, _, _, _, _, _, _, _, _, _, _, _, _, _, true, _, _, _, _, _, _, _, _, _, _, _, _, _, _, _, _, _, _, _, _, _, _, _, _, _, _, _, .bool true, _, _, _, _, _, _, _, rfl, rfl, ⟨H.h0, H.h1, H.h2, H.h3, H.h4, H.h5, H.h6, H.h7, H.h8, H.h9, H.h10, H.h11, H.h12, H.h13, H.h14, H.h15, H.h16, H.h17, H.h18, H.h19, fun _ => rfl, H.h21, H.h23, H.h25, H.h26, H.h27, H.below, H.h22, H.h24⟩⟩)
            · obtain rfl := H.h20 (by simp [hi])
              have ccA0 := (H.below.cell (p := ⟨w.heap.size, 0, none⟩) HQ1.out.lt).trans (HQ1.out.cell_ 0 (.int .i64 s1) rfl)
              have ccA1 := (H.below.cell (p := ⟨w.heap.size, 1, none⟩) HQ1.out.lt).trans (HQ1.out.cell_ 1 (.slice A1 p1.length c1) rfl)
              have ccA2 := (H.below.cell (p := ⟨w.heap.size, 2, none⟩) HQ1.out.lt).trans (HQ1.out.cell_ 2 (.slice B1 h1.length d1) rfl)
              refine wpOp_hidden rfl fun K hK => ?_
              go_wp2
              refine OnlyN.mk (hK.out _ _ ⟨_, _, _, _, _, _, _, _, _, _, _, _, _, _, _, _, _, _, _, _, _, true, _, _, _, _, _, _, _, _, _, _, _, _, _, _, _, _, _, _, _, _, _, _, _, _, _, _, _, .agg #[.int .i64 s1, .slice A1 p1.length c1, .slice B1 h1.length d1], _, _, _, _, _, _, rfl, rfl, ⟨H.h0, H.h1, H.h2, H.h3, H.h4, H.h5, H.h6, H.h7, H.h8, H.h9, H.h10, H.h11, H.h12, H.h13, H.h14, H.h15, H.h16, H.h17, H.h18, H.h19, H.h20, fun _ => rfl, H.h23, H.h25, H.h26, H.h27, H.below, H.h22, H.h24⟩⟩)
            · obtain rfl := H.h20 (by simp [hi])
              obtain rfl := H.h21 (by simp [hi])
              have HCX := Lib.hid (HC4.out w' H.below)
              refine wpOp_hidden rfl fun K hK => ?_
              go_wp2_with (go_at_call 12; refine HCX.out.mono ?_; intro e w9 hr9; obtain ⟨v9, rfl, ht9, hb9⟩ := hr9.treeAt; refine Hid.out ?_)
              refine Lib.hid ?_
              have HA := Lib.hid (H.world hb9)
              have HT9 := Lib.hid ht9
              clear H hb9 ht9 hr9
              go_wp2
              refine OnlyN.mk (hK.out _ _ ⟨_, _, _, _, _, _, _, _, _, _, _, _, _, _, _, _, _, _, _, _, _, _, true, _, _, _, _, _, _, _, _, _, _, _, _, _, _, _, _, _, _, _, _, _, _, _, _, _, _, _, v9, _, _, _, _, _, rfl, rfl, ⟨HA.out.h0, HA.out.h1, HA.out.h2, HA.out.h3, HA.out.h4, HA.out.h5, HA.out.h6, HA.out.h7, HA.out.h8, HA.out.h9, HA.out.h10, HA.out.h11, HA.out.h12, HA.out.h13, HA.out.h14, HA.out.h15, HA.out.h16, HA.out.h17, HA.out.h18, HA.out.h19, HA.out.h20, HA.out.h21, HA.out.h23, HA.out.h25, HA.out.h26, HA.out.h27, HA.out.below, fun _ => HT9.out, HA.out.h24⟩⟩)
            · obtain rfl := H.h20 (by simp [hi])
              have ccB0 := (H.below.cell (p := ⟨w.heap.size + 1, 0, none⟩) HQ2.out.lt).trans (HQ2.out.cell_ 0 (.int .i64 s1) rfl)
              have ccB1 := (H.below.cell (p := ⟨w.heap.size + 1, 1, none⟩) HQ2.out.lt).trans (HQ2.out.cell_ 1 (.slice A2 p2.length c2) rfl)
              have ccB2 := (H.below.cell (p := ⟨w.heap.size + 1, 2, none⟩) HQ2.out.lt).trans (HQ2.out.cell_ 2 (.slice B2 h2.length d2) rfl)
              refine wpOp_hidden rfl fun K hK => ?_
              go_wp2
              refine OnlyN.mk (hK.out _ _ ⟨_, _, _, _, _, _, _, _, _, _, _, _, _, _, _, _, _, _, _, _, _, _, _, true, _, _, _, _, _, _, _, _, _, _, _, _, _, _, _, _, _, _, _, _, _, _, _, _, _, _, _, .agg #[.int .i64 s1, .slice A2 p2.length c2, .slice B2 h2.length d2], _, _, _, _, rfl, rfl, ⟨H.h0, H.h1, H.h2, H.h3, H.h4, H.h5, H.h6, H.h7, H.h8, H.h9, H.h10, H.h11, H.h12, H.h13, H.h14, H.h15, H.h16, H.h17, H.h18, H.h19, H.h20, H.h21, fun _ => rfl, H.h25, H.h26, H.h27, H.below, H.h22, H.h24⟩⟩)
            · obtain rfl := H.h20 (by simp [hi])
              obtain rfl := H.h23 (by simp [hi])
              have HCX := Lib.hid (HC5.out w' H.below)
              refine wpOp_hidden rfl fun K hK => ?_
              go_wp2_with (go_at_call 12; refine HCX.out.mono ?_; intro e w9 hr9; obtain ⟨v9, rfl, ht9, hb9⟩ := hr9.treeAt; refine Hid.out ?_)
              refine Lib.hid ?_
              have HA := Lib.hid (H.world hb9)
              have HT9 := Lib.hid ht9
              clear H hb9 ht9 hr9
              go_wp2
              refine OnlyN.mk (hK.out _ _ ⟨_, _, _, _, _, _, _, _, _, _, _, _, _, _, _, _, _, _, _, _, _, _, _, _, true, _, _, _, _, _, _, _, _, _, _, _, _, _, _, _, _, _, _, _, _, _, _, _, _, _, _, _, v9, _, _, _, rfl, rfl, ⟨HA.out.h0, HA.out.h1, HA.out.h2, HA.out.h3, HA.out.h4, HA.out.h5, HA.out.h6, HA.out.h7, HA.out.h8, HA.out.h9, HA.out.h10, HA.out.h11, HA.out.h12, HA.out.h13, HA.out.h14, HA.out.h15, HA.out.h16, HA.out.h17, HA.out.h18, HA.out.h19, HA.out.h20, HA.out.h21, HA.out.h23, HA.out.h25, HA.out.h26, HA.out.h27, HA.out.below, HA.out.h22, fun _ => HT9.out⟩⟩)
            · obtain rfl := H.h20 (by simp [hi])
              have hts := tsame_at (H.h22 (by simp [hi])) (H.h24 (by simp [hi]))
              rw [← HQ.out] at hts
              have HCX := Lib.hid (hts)
              refine wpOp_hidden rfl fun K hK => ?_
              go_wp2_with (go_at_call 37; refine HCX.out.mono ?_)
              rintro e w9 ⟨rfl, hb9⟩
              have HA := Lib.hid (H.world hb9)
              clear H hb9 hts
              go_wp2
              refine OnlyN.mk (hK.out _ _ ⟨_, _, _, _, _, _, _, _, _, _, _, _, _, _, _, _, _, _, _, _, _, _, _, _, _, true, _, _, _, _, _, _, _, _, _, _, _, _, _, _, _, _, _, _, _, _, _, _, _, _, _, _, _, .bool q, _, _, rfl, rfl, ⟨HA.out.h0, HA.out.h1, HA.out.h2, HA.out.h3, HA.out.h4, HA.out.h5, HA.out.h6, HA.out.h7, HA.out.h8, HA.out.h9, HA.out.h10, HA.out.h11, HA.out.h12, HA.out.h13, HA.out.h14, HA.out.h15, HA.out.h16, HA.out.h17, HA.out.h18, HA.out.h19, HA.out.h20, HA.out.h21, HA.out.h23, fun _ => rfl, HA.out.h26, HA.out.h27, HA.out.below, HA.out.h22, HA.out.h24⟩⟩)
            · obtain rfl := H.h20 (by simp [hi])
              obtain rfl := H.h25 (by simp [hi])
              refine wpOp_hidden rfl fun K hK => ?_
              go_wp2
              refine OnlyN.mk (hK.out _ _ ⟨_, _, _, _, _, _, _, _, _, _, _, _, _, _, _, _, _, _, _, _, _, _, _, _, _, _, true, _, _, _, _, _, _, _, _, _, _, _, _, _, _, _, _, _, _, _, _, _, _, _, _, _, _, _, .bool q, _, rfl, rfl, ⟨H.h0, H.h1, H.h2, H.h3, H.h4, H.h5, H.h6, H.h7, H.h8, H.h9, H.h10, H.h11, H.h12, H.h13, H.h14, H.h15, H.h16, H.h17, H.h18, H.h19, H.h20, H.h21, H.h23, H.h25, fun _ => rfl, H.h27, H.below, H.h22, H.h24⟩⟩)
            · obtain rfl := H.h26 (by simp [hi])
              refine wpOp_hidden rfl fun K hK => ?_
              go_wp2
              refine OnlyN.mk (hK.out _ _ ⟨_, _, _, _, _, _, _, _, _, _, _, _, _, _, _, _, _, _, _, _, _, _, _, _, _, _, _, true, _, _, _, _, _, _, _, _, _, _, _, _, _, _, _, _, _, _, _, _, _, _, _, _, _, _, _, .bool q, rfl, rfl, ⟨H.h0, H.h1, H.h2, H.h3, H.h4, H.h5, H.h6, H.h7, H.h8, H.h9, H.h10, H.h11, H.h12, H.h13, H.h14, H.h15, H.h16, H.h17, H.h18, H.h19, H.h20, H.h21, H.h23, H.h25, H.h26, fun _ => rfl, H.below, H.h22, H.h24⟩⟩)
          · rintro listed act w' hr ⟨b0, b1, b2, b3, b4, b5, b6, b7, b8, b9, b10, b11, b12, b13, b14, b15, b16, b17, b18, b19, b20, b21, b22, b23, b24, b25, b26, b27, v5, v6, v7, v8, v9, v10, v11, v12, v13, v14, v15, v16, v17, v18, v19, v20, v21, v22, v23, v24, v25, v26, v27, v28, v29, v30, v31, v4, rfl, rfl, H⟩
            have hn := List.eq_nil_iff_forall_not_mem.1 hr
            have r0 := hn 0
            simp [mem_ready, Region.binds] at r0
            subst r0
            have r1 := hn 1
            simp [mem_ready, Region.binds] at r1
            subst r1
            have r2 := hn 2
            simp [mem_ready, Region.binds] at r2
            subst r2
            have r3 := hn 3
            simp [mem_ready, Region.binds] at r3
            subst r3
            have r4 := hn 4
            simp [mem_ready, Region.binds] at r4
            subst r4
            have r5 := hn 5
            simp [mem_ready, Region.binds] at r5
            subst r5
            have r6 := hn 6
            simp [mem_ready, Region.binds] at r6
            subst r6
            have r7 := hn 7
            simp [mem_ready, Region.binds] at r7
            subst r7
            have r8 := hn 8
            simp [mem_ready, Region.binds] at r8
            subst r8
            have r9 := hn 9
            simp [mem_ready, Region.binds] at r9
            subst r9
            have r10 := hn 10
            simp [mem_ready, Region.binds] at r10
            subst r10
            have r11 := hn 11
            simp [mem_ready, Region.binds] at r11
            subst r11
            have r12 := hn 12
            simp [mem_ready, Region.binds] at r12
            subst r12
            have r13 := hn 13
            simp [mem_ready, Region.binds] at r13
            subst r13
            have r14 := hn 14
            simp [mem_ready, Region.binds] at r14
            subst r14
            have r15 := hn 15
            simp [mem_ready, Region.binds] at r15
            subst r15
            have r16 := hn 16
            simp [mem_ready, Region.binds] at r16
            subst r16
            have r17 := hn 17
            simp [mem_ready, Region.binds] at r17
            subst r17
            have r18 := hn 18
            simp [mem_ready, Region.binds] at r18
            subst r18
            have r19 := hn 19
            simp [mem_ready, Region.binds] at r19
            subst r19
            have r20 := hn 20
            simp [mem_ready, Region.binds] at r20
            subst r20
            have r21 := hn 21
            simp [mem_ready, Region.binds] at r21
            subst r21
            have r22 := hn 22
            simp [mem_ready, Region.binds] at r22
            subst r22
            have r23 := hn 23
            simp [mem_ready, Region.binds] at r23
            subst r23
            have r24 := hn 24
            simp [mem_ready, Region.binds] at r24
            subst r24
            have r25 := hn 25
            simp [mem_ready, Region.binds] at r25
            subst r25
            have r26 := hn 26
            simp [mem_ready, Region.binds] at r26
            subst r26
            have r27 := hn 27
            simp [mem_ready, Region.binds] at r27
            subst r27
            obtain rfl := H.h27 rfl
            have HBE := Lib.hid (HB.out.trans (H.below.mono HB.out.size))
            clear H hr hn
            go_wp2
            go_ret
            exact ⟨rfl, HBE.out⟩
        · have HNP : Hid (decide (p1 = p2) = false) := Lib.hid (decide_eq_false hp)
          simp only [HNP.out] at hC3
          have e1 : (s1 == s2) = true := by simp [hs]
          rw [decide_eq_true hs, HNP.out]
          have CC1 := Lib.hid (fun dd os => Calls.regrown_of (w := w0) (d := dd) (os := os) (hC1 _ (below_regrown w0 dd os)))
          have CC2 := Lib.hid (fun dd os => Calls.regrown_of (w := w0) (d := dd) (os := os) (hC2 _ (below_regrown w0 dd os)))
          have CC3 := Lib.hid (fun dd os => Calls.regrown_of (w := w0) (d := dd) (os := os) (hC3 _ (below_regrown w0 dd os)))
          clear hs hp hC1 hC2 hC3 hC4 hC5
          go_enter Tryd.func14, Tryd.ntmps14
          go_upto_region 1 with fail
          rw [← HW.out]
          refine wp_region_quiet_below (by kernel_rfl) (by kernel_rfl) ?_
          repeat (go_big_quiet_step (first | with_reducible exact CC1.out _ _ | with_reducible exact CC2.out _ _ | with_reducible exact CC3.out _ _))
          refine wpQuiet_nil ?_
          intro _ hw'
          obtain ⟨⟨dq, osq⟩, hw''⟩ := hw'
          subst hw''
          go_wp2
          go_ret
          exact ⟨rfl, HB.out.trans ((below_regrown w0 dq osq).mono HB.out.size)⟩
      · have e1 : (s1 == s2) = false := by simpa using hs
        rw [decide_eq_false hs]
        have CC1 := Lib.hid (fun dd os => Calls.regrown_of (w := w0) (d := dd) (os := os) (hC1 _ (below_regrown w0 dd os)))
        have CC2 := Lib.hid (fun dd os => Calls.regrown_of (w := w0) (d := dd) (os := os) (hC2 _ (below_regrown w0 dd os)))
        clear hs hC1 hC2 hC3 hC4 hC5
        go_enter Tryd.func14, Tryd.ntmps14
        go_upto_region 1 with fail
        rw [← HW.out]
        refine wp_region_quiet_below (by kernel_rfl) (by kernel_rfl) ?_
        repeat (go_big_quiet_step (first | with_reducible exact CC1.out _ _ | with_reducible exact CC2.out _ _))
        refine wpQuiet_nil ?_
        intro _ hw'
        obtain ⟨⟨dq, osq⟩, hw''⟩ := hw'
        subst hw''
        go_wp2
        go_ret
        exact ⟨rfl, HB.out.trans ((below_regrown w0 dq osq).mono HB.out.size)⟩
end Go.Proofs.YtojnnfihpiegoaaDoor
namespace Go.Proofs.YtojnnfihpiegoaaDoor
open Go.RowKit
set_option maxRecDepth 100000
set_option linter.unusedVariables false
set_option linter.unusedSimpArgs false

/-- the first place where p holds, or -1 -/
def fI {α : Type} (p : α → Bool) : List α → Nat → Int
  | [], _ => -1
  | z :: r, k => if p z then (k : Int) else fI p r (k + 1)
theorem fI_any {α : Type} (p : α → Bool) : ∀ (l : List α) (k : Nat), decide (0 ≤ fI p l k) = l.any p
  | [], k => rfl
  | z :: r, k => by
    unfold fI
    rw [List.any_cons]
    cases h : p z with
    | true => simp
    | false => simp [fI_any p r (k + 1)]
theorem fI_step {α : Type} (p : α → Bool) {l : List α} {k : Nat} (h : k < l.length) : fI p (l.drop k) k = if p l[k] then (k : Int) else fI p (l.drop (k + 1)) (k + 1) := by
  rw [List.drop_eq_getElem_cons h]
  rfl
def neP (zs : List Int) : Int → Bool := fun n => n != zs.getD 0 0
set_option maxHeartbeats 1000000 in
theorem c41_any (n : Int) (Q : Nat) (l : Int) (A : Option Addr) (c : Nat) (zs : List Int) (w : World) (hq : Blk w Q 53 #[.int .i64 l, .slice A zs.length c]) (hz : Ints w A zs) (h0 : 0 < zs.length) :
    Calls Tryd.prog 41 #[.int .i64 n, .pointer (some ⟨Q, 0, none⟩)] w fun e w' => e = .returned (.bool (neP zs n)) ∧ w' = w := by
  obtain ⟨b, o, e, -, hc⟩ := hz.at_ h0
  have c1 := hq.cell_ 1 (.slice A zs.length c) rfl
  have hg : zs[0] = zs.getD 0 0 := by rw [List.getD_eq_getElem?_getD, List.getElem?_eq_getElem h0]; rfl
  obtain ⟨y, hy⟩ : ∃ y, y = zs.getD 0 0 := ⟨_, rfl⟩
  rw [hg, ← hy] at hc
  unfold neP
  rw [← hy]
  rw [Nat.add_zero] at hc
  subst e
  clear hg hy
  go_enter Tryd.func41, Tryd.ntmps41
  go_wp2
  go_ret
  exact ⟨rfl, rfl⟩
set_option maxHeartbeats 2000000 in
theorem ixI_any (Q : Nat) (l : Int) (A : Option Addr) (c : Nat) (zs : List Int) (w : World) (hq : Blk w Q 53 #[.int .i64 l, .slice A zs.length c]) (hz : Ints w A zs) :
    Calls Tryd.prog 69 #[.slice A zs.length c, .func (.func 41) #[] #[.pointer (some ⟨Q, 0, none⟩)]] w fun e w' => e = .returned (.int .i64 (fI (neP zs) zs 0)) ∧ w' = w := by
  have hn := hz.le
  have HZ := Lib.hid hz
  have HQ := Lib.hid hq
  have HN := Lib.hid hn
  clear hz hq hn
  go_enter Tryd.func69, Tryd.ntmps69
  go_wp2
  go_loopw [8] (fun i wr => ∃ k : Nat, k ≤ zs.length ∧ i = .int .i64 k ∧ wr = w ∧ Hid (fI (neP zs) zs 0 = fI (neP zs) (zs.drop k) k)) (fun i _ => zs.length - (intOf i).toNat)
  case atStart => exact ⟨0, Nat.zero_le _, rfl, rfl, Lib.hid (by simp)⟩
  case round =>
    obtain ⟨k, hk, rfl, rfl, HT⟩ := hrel
    by_cases hlt : k < zs.length
    · obtain ⟨b1, o1, e1, -, hc⟩ := HZ.out.at_ hlt
      have hw1 : wrap64 ((k : Int) + 1) = (k : Int) + 1 := by have := HN.out; unfold wrap64; omega
      have HS := Lib.hid (fI_step (neP zs) hlt)
      have hC := c41_any zs[k] Q l A c zs wr HQ.out HZ.out (by omega)
      obtain ⟨z, hz⟩ : ∃ z, z = zs[k] := ⟨_, rfl⟩
      rw [← hz] at hc HS hC
      have HLT := Lib.hid hlt
      subst e1
      cases hp : neP zs z with
      | true =>
        rw [hp] at hC
        have HC := Lib.hid hC
        have HF : Hid (fI (neP zs) zs 0 = (k : Int)) := Lib.hid (by rw [HT.out, HS.out, hp]; rfl)
        clear hp hC hz hk
        go_wp2_with (go_at_call 41; refine HC.out.mono ?_; rintro e w1 ⟨rfl, rfl⟩)
        go_ret
        exact ⟨by rw [HF.out] <;> rfl, rfl⟩
      | false =>
        rw [hp] at hC
        have HC := Lib.hid hC
        have HF : Hid (fI (neP zs) zs 0 = fI (neP zs) (zs.drop (k + 1)) (k + 1)) := Lib.hid (by rw [HT.out, HS.out, hp]; rfl)
        clear hp hC hz hk
        go_wp2_with (go_at_call 41; refine HC.out.mono ?_; rintro e w1 ⟨rfl, rfl⟩)
        go_roundw
        case rel => exact ⟨k + 1, HLT.out, (by first | rfl | (rw [hw1]; rfl)), (by first | rfl | trivial), HF⟩
        case measure => have := HLT.out; first | (rw [hw1]; simp [intOf]; omega) | (simp [intOf]; omega)
    · have HF : Hid (fI (neP zs) zs 0 = -1) := Lib.hid (by
        have h := HT.out
        rw [List.drop_of_length_le (by omega)] at h
        exact h)
      go_wp2
      go_ret
      exact ⟨by rw [HF.out] <;> rfl, rfl⟩
set_option maxHeartbeats 1000000 in
theorem ctI_any (Q : Nat) (l : Int) (A : Option Addr) (c : Nat) (zs : List Int) (w : World) (hq : Blk w Q 53 #[.int .i64 l, .slice A zs.length c]) (hz : Ints w A zs) :
    Calls Tryd.prog 40 #[.slice A zs.length c, .func (.func 41) #[] #[.pointer (some ⟨Q, 0, none⟩)]] w fun e w' => e = .returned (.bool (zs.any (neP zs))) ∧ w' = w := by
  have HC := Lib.hid (ixI_any Q l A c zs w hq hz)
  rw [← fI_any (neP zs) zs 0]
  obtain ⟨r, hr⟩ : ∃ r, r = fI (neP zs) zs 0 := ⟨_, rfl⟩
  rw [← hr] at HC ⊢
  clear hr hq hz
  go_enter Tryd.func40, Tryd.ntmps40
  go_wp2_with (go_at_call 69; refine HC.out.mono ?_; rintro e w1 ⟨rfl, rfl⟩)
  go_ret
  exact ⟨rfl, rfl⟩
/-- a node whose level is the position's, and whose elements differ -/
def useN (L : Nat) (k : Int) (x : Nd) : Bool := (x.1 == (L : Int) - k) && x.2.any (neP x.2)
set_option maxHeartbeats 4000000 in
theorem c39_any (l : Int) (A : Option Addr) (c : Nat) (zs : List Int) (Qt Qk : Nat) (cs : Array Value) (Ah : Option Addr) (L ch : Nat) (k : Int) (w : World) (ht : Blk w Qt 25 cs) (hcs : cs[1]? = some (.slice Ah L ch)) (hk : Blk w Qk 3 #[.int .i64 k]) (hL : L ≤ 1000) (hk0 : 0 ≤ k) (hkL : k < L) (hz : Ints w A zs) :
    Calls Tryd.prog 39 #[.agg #[.int .i64 l, .slice A zs.length c], .pointer (some ⟨Qt, 0, none⟩), .pointer (some ⟨Qk, 0, none⟩)] w fun e w' => e = .returned (.bool (useN L k (l, zs))) ∧ Below w.heap.size w w' := by
  obtain ⟨w0, hw0⟩ : ∃ w0, w0 = w.alloc (.cells #[.int .i64 l, .slice A zs.length c] 53) := ⟨_, rfl⟩
  have hb0 : Below w.heap.size w w0 := by rw [hw0]; exact below_new _ _
  have q0 : Blk w0 w.heap.size 53 #[.int .i64 l, .slice A zs.length c] := by rw [hw0]; exact Blk.new _ _ _
  have x0 := q0.cell_ 0 (.int .i64 l) rfl
  have x1 := q0.cell_ 1 (.slice A zs.length c) rfl
  have y1 := (ht.below hb0 ht.lt).cell_ 1 _ hcs
  have z0 := (hk.below hb0 hk.lt).cell_ 0 (.int .i64 k) rfl
  have hC := ctI_any w.heap.size l A c zs w0 q0 (hz.ext hb0)
  have hwk : wrap64 ((L : Int) - k) = (L : Int) - k := by unfold wrap64; omega
  have HW := Lib.hid hw0
  have HB := Lib.hid hb0
  unfold useN
  dsimp only
  obtain ⟨q, hq⟩ : ∃ q, q = zs.any (neP zs) := ⟨_, rfl⟩
  rw [← hq] at hC ⊢
  have HC := Lib.hid hC
  clear hw0 hb0 q0 ht hcs hk hz hq hC hk0 hkL hL
  by_cases h1 : l = (L : Int) - k
  · have e1 : (l == (L : Int) - k) = true := by simp [h1]
    rw [e1, Bool.true_and]
    clear h1
    go_enter Tryd.func39, Tryd.ntmps39
    go_upto_region 1 with fail
    rw [← HW.out]
    go_wp2_with (go_at_call 40; refine HC.out.mono ?_; rintro e w1 ⟨rfl, rfl⟩)
    go_ret
    exact ⟨rfl, HB.out⟩
  · have e1 : (l == (L : Int) - k) = false := by simpa using h1
    rw [e1, Bool.false_and]
    clear h1
    go_enter Tryd.func39, Tryd.ntmps39
    go_upto_region 1 with fail
    rw [← HW.out]
    go_wp2
    go_ret
    exact ⟨rfl, HB.out⟩
set_option maxHeartbeats 4000000 in
theorem ixN_any (Qt Qk : Nat) (cs : Array Value) (Ah : Option Addr) (L ch : Nat) (k : Int) (B : Option Addr) (d : Nat) (hs : List Hd) (w : World) (ht : Blk w Qt 25 cs) (hcs : cs[1]? = some (.slice Ah L ch)) (hk : Blk w Qk 3 #[.int .i64 k]) (hL : L ≤ 1000) (hk0 : 0 ≤ k) (hkL : k < L) (hn : Nds w B hs) :
    Calls Tryd.prog 68 #[.slice B hs.length d, .func (.func 39) #[] #[.pointer (some ⟨Qt, 0, none⟩), .pointer (some ⟨Qk, 0, none⟩)]] w fun e w' => e = .returned (.int .i64 (fI (fun h => useN L k (Hd.nd h)) hs 0)) ∧ Below w.heap.size w w' := by
  have hl := hn.le
  have HN := Lib.hid hn
  have HL := Lib.hid hl
  have HC := Lib.hid (fun (W : World) (hb : Below w.heap.size w W) (l : Int) (A : Option Addr) (c : Nat) (zs : List Int) (hz : Ints W A zs) => c39_any l A c zs Qt Qk cs Ah L ch k W (ht.below hb ht.lt) hcs (hk.below hb hk.lt) hL hk0 hkL hz)
  clear ht hcs hk hL hk0 hkL hn hl
  go_enter Tryd.func68, Tryd.ntmps68
  go_wp2
  go_loopw [8] (fun i wr => ∃ m : Nat, m ≤ hs.length ∧ i = .int .i64 m ∧ Hid (Below w.heap.size w wr) ∧ Hid (fI (fun h => useN L k (Hd.nd h)) hs 0 = fI (fun h => useN L k (Hd.nd h)) (hs.drop m) m)) (fun i _ => hs.length - (intOf i).toNat)
  case atStart => exact ⟨0, Nat.zero_le _, rfl, Lib.hid (Below.refl _ _), Lib.hid (by simp)⟩
  case round =>
    obtain ⟨m, hm, rfl, HB, HT⟩ := hrel
    by_cases hlt : m < hs.length
    · obtain ⟨b1, o1, e1, -, x0, x1, xi⟩ := (HN.out.ext HB.out).at_ hlt
      have hw1 : wrap64 ((m : Int) + 1) = (m : Int) + 1 := by have := HL.out; unfold wrap64; omega
      have HS := Lib.hid (fI_step (fun h => useN L k (Hd.nd h)) hlt)
      obtain ⟨x, hx⟩ : ∃ x, x = hs[m] := ⟨_, rfl⟩
      rw [← hx] at x0 x1 xi HS
      obtain ⟨l1, A1, c1, z1⟩ := x
      dsimp only at x0 x1 xi
      have hC := HC.out wr HB.out l1 A1 c1 z1 xi
      have HLT := Lib.hid hlt
      subst e1
      cases hp : useN L k (l1, z1) with
      | true =>
        rw [hp] at hC
        have HCC := Lib.hid hC
        have HF : Hid (fI (fun h => useN L k (Hd.nd h)) hs 0 = (m : Int)) := Lib.hid (by rw [HT.out, HS.out]; exact if_pos hp)
        clear hp hC hx hm xi
        go_wp2_with (go_at_call 39; refine HCC.out.mono ?_)
        rintro e w1 ⟨rfl, hb⟩
        have HB2 := Lib.hid (HB.out.trans (hb.mono HB.out.size))
        clear hb
        go_wp2
        go_ret
        exact ⟨by rw [HF.out] <;> rfl, HB2.out⟩
      | false =>
        rw [hp] at hC
        have HCC := Lib.hid hC
        have HF : Hid (fI (fun h => useN L k (Hd.nd h)) hs 0 = fI (fun h => useN L k (Hd.nd h)) (hs.drop (m + 1)) (m + 1)) := Lib.hid (by rw [HT.out, HS.out]; exact if_neg (by rw [show useN L k (Hd.nd ⟨l1, A1, c1, z1⟩) = false from hp]; simp))
        clear hp hC hx hm xi
        go_wp2_with (go_at_call 39; refine HCC.out.mono ?_)
        rintro e w1 ⟨rfl, hb⟩
        have HB2 := Lib.hid (HB.out.trans (hb.mono HB.out.size))
        clear hb
        go_wp2
        go_roundw
        case rel => exact ⟨m + 1, HLT.out, (by first | rfl | (rw [hw1]; rfl)), HB2, HF⟩
        case measure => have := HLT.out; first | (rw [hw1]; simp [intOf]; omega) | (simp [intOf]; omega)
    · have HF : Hid (fI (fun h => useN L k (Hd.nd h)) hs 0 = -1) := Lib.hid (by
        have h := HT.out
        rw [List.drop_of_length_le (by omega)] at h
        exact h)
      go_wp2
      go_ret
      exact ⟨by rw [HF.out] <;> rfl, HB.out⟩
set_option maxHeartbeats 1000000 in
theorem ctN_any (Qt Qk : Nat) (cs : Array Value) (Ah : Option Addr) (L ch : Nat) (k : Int) (B : Option Addr) (d : Nat) (hs : List Hd) (w : World) (ht : Blk w Qt 25 cs) (hcs : cs[1]? = some (.slice Ah L ch)) (hk : Blk w Qk 3 #[.int .i64 k]) (hL : L ≤ 1000) (hk0 : 0 ≤ k) (hkL : k < L) (hn : Nds w B hs) :
    Calls Tryd.prog 38 #[.slice B hs.length d, .func (.func 39) #[] #[.pointer (some ⟨Qt, 0, none⟩), .pointer (some ⟨Qk, 0, none⟩)]] w fun e w' => e = .returned (.bool ((hs.map Hd.nd).any (useN L k))) ∧ Below w.heap.size w w' := by
  have HC := Lib.hid (ixN_any Qt Qk cs Ah L ch k B d hs w ht hcs hk hL hk0 hkL hn)
  have he : (hs.map Hd.nd).any (useN L k) = decide (0 ≤ fI (fun h => useN L k (Hd.nd h)) hs 0) := by rw [fI_any, List.any_map]; rfl
  rw [he]
  obtain ⟨r, hr⟩ : ∃ r, r = fI (fun h => useN L k (Hd.nd h)) hs 0 := ⟨_, rfl⟩
  rw [← hr] at HC ⊢
  clear hr he ht hcs hk hn hL hk0 hkL
  go_enter Tryd.func38, Tryd.ntmps38
  go_wp2_with (go_at_call 68; refine HC.out.mono ?_)
  rintro e w1 ⟨rfl, hb⟩
  have HB := Lib.hid hb
  clear hb
  go_wp2
  go_ret
  exact ⟨rfl, HB.out⟩
end Go.Proofs.YtojnnfihpiegoaaDoor
namespace Go.Proofs.YtojnnfihpiegoaaDoor
open Go.RowKit
set_option maxRecDepth 100000
set_option linter.unusedVariables false
set_option linter.unusedSimpArgs false

def usesP (t : PT) (k : Int) : Bool := t.right && !decide (k < 0) && !decide ((t.ps.length : Int) ≤ k) && (redT t).ns.any (useN t.ps.length k)
set_option maxHeartbeats 4000000 in
theorem uses_any (st : Int) (A : Option Addr) (c : Nat) (ps : List (Int × Int)) (B : Option Addr) (d : Nat) (hs : List Hd) (k : Int) (w : World) (hp : Pts w A ps) (hN : Nds w B hs) (ht : TabB w.heap.size w) :
    Calls Tryd.prog 16 #[.agg #[.int .i64 st, .slice A ps.length c, .slice B hs.length d], .int .i64 k] w fun e w' => e = .returned (.bool (usesP ⟨st, ps, hs.map Hd.nd⟩ k)) ∧ Below w.heap.size w w' := by
  obtain ⟨v1, hv1⟩ : ∃ v1, v1 = w.alloc (.cells #[.int .i64 st, .slice A ps.length c, .slice B hs.length d] 25) := ⟨_, rfl⟩
  obtain ⟨w0, hw0⟩ : ∃ w0, w0 = v1.alloc (.cells #[.int .i64 k] 3) := ⟨_, rfl⟩
  have b1 : Below w.heap.size w v1 := by rw [hv1]; exact below_new _ _
  have b2 : Below v1.heap.size v1 w0 := by rw [hw0]; exact below_new _ _
  have z1 : v1.heap.size = w.heap.size + 1 := by rw [hv1]; simp
  have q1 : Blk v1 w.heap.size 25 #[.int .i64 st, .slice A ps.length c, .slice B hs.length d] := by rw [hv1]; exact Blk.new _ _ _
  have q2 : Blk w0 v1.heap.size 3 #[.int .i64 k] := by rw [hw0]; exact Blk.new _ _ _
  have q1' := q1.below b2 q1.lt
  rw [z1] at q2
  have hb0 := b1.trans (b2.mono b1.size)
  rw [hv1] at hw0
  have HW := Lib.hid hw0
  have HB0 := Lib.hid hb0
  have HP0 := Lib.hid q1'
  have HK0 := Lib.hid q2
  have HR := Lib.hid (right_any st A c ps B d hs w0 (hp.ext hb0) (hN.ext hb0))
  have HRD := Lib.hid (fun W (hb : Below w0.heap.size w0 W) => reduce_any st A c ps B d hs W ((hp.ext hb0).ext hb) ((hN.ext hb0).ext hb) (((ht.on hb0).on (hb.mono hb0.size)).up (Nat.le_trans hb0.size hb.size)))
  have c0 := q1'.cell_ 0 (.int .i64 st) rfl
  have c1 := q1'.cell_ 1 (.slice A ps.length c) rfl
  have c2 := q1'.cell_ 2 (.slice B hs.length d) rfl
  clear hv1 hw0 b1 b2 z1 q1 q2 q1' hb0 hp hN ht
  cases hr : rightN st ps (hs.map Hd.nd) with
  | false =>
    have HE : Hid (usesP ⟨st, ps, hs.map Hd.nd⟩ k = false) := Lib.hid (by unfold usesP PT.right; rw [hr]; rfl)
    rw [hr] at HR
    clear hr
    go_enter Tryd.func16, Tryd.ntmps16
    go_upto_region 1 with fail
    rw [← HW.out]
    go_wp2_with (go_at_call 27; refine HR.out.mono ?_)
    rintro e w1 ⟨rfl, hb⟩
    have HBr := Lib.hid hb
    have HBw := Lib.hid (HB0.out.trans (hb.mono HB0.out.size))
    have p1 := HP0.out.below hb HP0.out.lt
    have k1 := HK0.out.below hb HK0.out.lt
    have e0 := p1.cell_ 0 (.int .i64 st) rfl
    have e1 := p1.cell_ 1 (.slice A ps.length c) rfl
    have e2 := p1.cell_ 2 (.slice B hs.length d) rfl
    have e3 := k1.cell_ 0 (.int .i64 k) rfl
    have HP1 := Lib.hid p1
    have HK1 := Lib.hid k1
    clear hb c0 c1 c2 p1 k1
    go_wp2
    go_ret
    exact ⟨by rw [HE.out] <;> rfl, HBw.out⟩
  | true =>
    rw [hr] at HR
    have HRR := Lib.hid hr
    clear hr
    have HRP := Lib.hid (rightN_parts HRR.out)
    by_cases y1 : k < 0
    · have g1 : decide (k < 0) = true := decide_eq_true y1
      have HE : Hid (usesP ⟨st, ps, hs.map Hd.nd⟩ k = false) := Lib.hid (by unfold usesP; rw [g1]; simp)
      clear y1
      go_enter Tryd.func16, Tryd.ntmps16
      go_upto_region 1 with fail
      rw [← HW.out]
      go_wp2_with (go_at_call 27; refine HR.out.mono ?_)
      rintro e w1 ⟨rfl, hb⟩
      have HBr := Lib.hid hb
      have HBw := Lib.hid (HB0.out.trans (hb.mono HB0.out.size))
      have p1 := HP0.out.below hb HP0.out.lt
      have k1 := HK0.out.below hb HK0.out.lt
      have e0 := p1.cell_ 0 (.int .i64 st) rfl
      have e1 := p1.cell_ 1 (.slice A ps.length c) rfl
      have e2 := p1.cell_ 2 (.slice B hs.length d) rfl
      have e3 := k1.cell_ 0 (.int .i64 k) rfl
      have HP1 := Lib.hid p1
      have HK1 := Lib.hid k1
      clear hb c0 c1 c2 p1 k1
      go_wp2
      go_ret
      exact ⟨by rw [HE.out] <;> rfl, HBw.out⟩
    have g1 : decide (k < 0) = false := decide_eq_false y1
    by_cases y2 : (ps.length : Int) ≤ k
    · have g2 : decide ((ps.length : Int) ≤ k) = true := decide_eq_true y2
      have HE : Hid (usesP ⟨st, ps, hs.map Hd.nd⟩ k = false) := Lib.hid (by unfold usesP; dsimp only; rw [g2]; simp)
      clear y1 y2
      go_enter Tryd.func16, Tryd.ntmps16
      go_upto_region 1 with fail
      rw [← HW.out]
      go_wp2_with (go_at_call 27; refine HR.out.mono ?_)
      rintro e w1 ⟨rfl, hb⟩
      have HBr := Lib.hid hb
      have HBw := Lib.hid (HB0.out.trans (hb.mono HB0.out.size))
      have p1 := HP0.out.below hb HP0.out.lt
      have k1 := HK0.out.below hb HK0.out.lt
      have e0 := p1.cell_ 0 (.int .i64 st) rfl
      have e1 := p1.cell_ 1 (.slice A ps.length c) rfl
      have e2 := p1.cell_ 2 (.slice B hs.length d) rfl
      have e3 := k1.cell_ 0 (.int .i64 k) rfl
      have HP1 := Lib.hid p1
      have HK1 := Lib.hid k1
      clear hb c0 c1 c2 p1 k1
      go_wp2
      go_ret
      exact ⟨by rw [HE.out] <;> rfl, HBw.out⟩
    have g2 : decide ((ps.length : Int) ≤ k) = false := decide_eq_false y2
    have HKL := Lib.hid (show 0 ≤ k ∧ k < (ps.length : Int) by omega)
    obtain ⟨ra, hra⟩ : ∃ ra, ra = redT ⟨st, ps, hs.map Hd.nd⟩ := ⟨_, rfl⟩
    have HE : Hid (usesP ⟨st, ps, hs.map Hd.nd⟩ k = ra.ns.any (useN ps.length k)) := Lib.hid (by unfold usesP PT.right; rw [← hra]; dsimp only; rw [HRR.out, g1, g2]; rfl)
    rw [← hra] at HRD
    rw [HE.out]
    obtain ⟨q, hq⟩ : ∃ q, q = ra.ns.any (useN ps.length k) := ⟨_, rfl⟩
    rw [← hq]
    have HQ := Lib.hid hq
    clear y1 y2 hra hq
    go_enter Tryd.func16, Tryd.ntmps16
    go_upto_region 1 with fail
    rw [← HW.out]
    go_wp2_with (go_at_call 27; refine HR.out.mono ?_)
    rintro e w1 ⟨rfl, hb⟩
    have HBr := Lib.hid hb
    have HBw := Lib.hid (HB0.out.trans (hb.mono HB0.out.size))
    have p1 := HP0.out.below hb HP0.out.lt
    have k1 := HK0.out.below hb HK0.out.lt
    have e0 := p1.cell_ 0 (.int .i64 st) rfl
    have e1 := p1.cell_ 1 (.slice A ps.length c) rfl
    have e2 := p1.cell_ 2 (.slice B hs.length d) rfl
    have e3 := k1.cell_ 0 (.int .i64 k) rfl
    have HP1 := Lib.hid p1
    have HK1 := Lib.hid k1
    clear hb c0 c1 c2 p1 k1
    have HCX := Lib.hid (HRD.out w1 HBr.out)
    have hfd : ∀ (v0 : Value) (A : Option Addr) (n c : Nat) (B : Option Addr) (m d : Nat) (w : World), (Instr.field 25 (.agg #[v0, .slice A n c, .slice B m d]) 2).run Tryd.prog w = .ok (.slice B m d) w := fun _ _ _ _ _ _ _ _ => by kernel_rfl
    go_wp2_with (go_at_call 12; refine HCX.out.mono ?_; intro e w2 hr2; obtain ⟨A2, c2, B2, d2, os, rfl, -, -, h2, h3, h4, h5⟩ := RetTree.form hr2; refine Hid.out ?_)
    refine Lib.hid ?_
    have HP2 := Lib.hid (HP1.out.below h5 HP1.out.lt)
    have HK2 := Lib.hid (HK1.out.below h5 HK1.out.lt)
    have HB2 := Lib.hid (HBw.out.trans (h5.mono HBw.out.size))
    have hct := ctN_any w.heap.size (w.heap.size + 1) #[.int .i64 st, .slice A ps.length c, .slice B hs.length d] A ps.length c k B2 d2 os w2 HP2.out rfl HK2.out (by have := HRP.out.2.2.2.2.2.2.1; omega) HKL.out.1 HKL.out.2 h3
    rw [h4, ← HQ.out] at hct
    have HCT := Lib.hid hct
    clear hr2 h2 h3 h4 h5 hct HCX e0 e1 e2 e3
    go_wp2_with (go_at_call 38; refine HCT.out.mono ?_)
    rintro e w3 ⟨rfl, hb⟩
    have HB3 := Lib.hid (HB2.out.trans (hb.mono HB2.out.size))
    clear hb
    go_wp2
    go_ret
    exact ⟨rfl, HB3.out⟩
end Go.Proofs.YtojnnfihpiegoaaDoor
