/-
  cellularref13.Equal. No condition.
  cellularref14.probe. Where the tree is valid and its neighbourhood is one of the known ones.
-/
import Derived.Test.YtmlhkbgifnifdaaGreatDoorZG13
import Derived.Test.YtmlhkbgifnifdaaGreatDoorZG11
import Derived.Test.YtmlhkbgifnifdaaGreatDoorZG25
namespace Go.Proofs.YtmlhkbgifnifdaaGreatDoor
open Go.RowKit
set_option maxRecDepth 100000
set_option linter.unusedVariables false
set_option linter.unusedSimpArgs false

structure ReJ (w0 : World) (s1 : Int) (A1 : Option Addr) (p1 : List (Int × Int)) (c1 : Nat) (B1 : Option Addr) (n1 : Nat) (d1 : Nat) (s2 : Int) (A2 : Option Addr) (p2 : List (Int × Int)) (c2 : Nat) (B2 : Option Addr) (n2 : Nat) (d2 : Nat) (ra : PT) (rb : PT) (q : Bool) (b0 b1 b2 b3 b4 b5 b6 b7 b8 b9 b10 b11 b12 b13 : Bool) (v5 v6 v7 v8 v9 v10 v11 v12 v13 v14 v15 v16 v17 v4 : Value) (w : World) : Prop where
  h0 : b0 = true → v5 = .agg #[.int .i64 s1, .slice A1 p1.length c1, .slice B1 n1 d1]
  h1 : b1 = true → v6 = .bool true
  h2 : b2 = true → v7 = .bool true
  h3 : b3 = true → v8 = .agg #[.int .i64 s2, .slice A2 p2.length c2, .slice B2 n2 d2]
  h4 : b4 = true → v9 = .bool true
  h5 : b5 = true → v10 = .bool true
  h6 : b6 = true → v11 = .bool true
  h7 : b7 = true → v12 = .agg #[.int .i64 s1, .slice A1 p1.length c1, .slice B1 n1 d1]
  h9 : b9 = true → v14 = .agg #[.int .i64 s2, .slice A2 p2.length c2, .slice B2 n2 d2]
  h11 : b11 = true → v16 = .bool q
  h12 : b12 = true → v17 = .bool q
  h13 : b13 = true → v4 = .bool q
  below : Below w0.heap.size w0 w
  h8 : b8 = true → TreeAt w v13 ra
  h10 : b10 = true → TreeAt w v15 rb
section
variable {w0 : World} {s1 : Int} {A1 : Option Addr} {p1 : List (Int × Int)} {c1 : Nat} {B1 : Option Addr} {n1 : Nat} {d1 : Nat} {s2 : Int} {A2 : Option Addr} {p2 : List (Int × Int)} {c2 : Nat} {B2 : Option Addr} {n2 : Nat} {d2 : Nat} {ra : PT} {rb : PT} {q : Bool} {b0 b1 b2 b3 b4 b5 b6 b7 b8 b9 b10 b11 b12 b13 : Bool} {v5 v6 v7 v8 v9 v10 v11 v12 v13 v14 v15 v16 v17 v4 : Value} {w w' : World}
theorem ReJ.world (H : ReJ w0 s1 A1 p1 c1 B1 n1 d1 s2 A2 p2 c2 B2 n2 d2 ra rb q b0 b1 b2 b3 b4 b5 b6 b7 b8 b9 b10 b11 b12 b13 v5 v6 v7 v8 v9 v10 v11 v12 v13 v14 v15 v16 v17 v4 w) (hb : Below w.heap.size w w') : ReJ w0 s1 A1 p1 c1 B1 n1 d1 s2 A2 p2 c2 B2 n2 d2 ra rb q b0 b1 b2 b3 b4 b5 b6 b7 b8 b9 b10 b11 b12 b13 v5 v6 v7 v8 v9 v10 v11 v12 v13 v14 v15 v16 v17 v4 w' :=
  ⟨H.h0, H.h1, H.h2, H.h3, H.h4, H.h5, H.h6, H.h7, H.h9, H.h11, H.h12, H.h13, H.below.trans (hb.mono H.below.size), fun h => (H.h8 h).ext hb, fun h => (H.h10 h).ext hb⟩
end

set_option maxHeartbeats 8000000 in
theorem requal_any (s1 s2 : Int) (A1 : Option Addr) (c1 : Nat) (p1 : List (Int × Int)) (B1 : Option Addr) (d1 : Nat) (h1 : List Hd) (A2 : Option Addr) (c2 : Nat) (p2 : List (Int × Int)) (B2 : Option Addr) (d2 : Nat) (h2 : List Hd) (w : World)
    (hp1 : Pts w A1 p1) (hn1 : Nds w B1 h1) (hp2 : Pts w A2 p2) (hn2 : Nds w B2 h2) :
    Calls Tryz.prog 31 #[.agg #[.int .i64 s1, .slice A1 p1.length c1, .slice B1 h1.length d1], .agg #[.int .i64 s2, .slice A2 p2.length c2, .slice B2 h2.length d2]] w fun e w' => e = .returned (.bool (equalP ⟨s1, p1, h1.map Hd.nd⟩ ⟨s2, p2, h2.map Hd.nd⟩)) ∧ Below w.heap.size w w' := by
  obtain ⟨v1, hv1⟩ : ∃ v1, v1 = w.alloc (.cells #[.int .i64 s1, .slice A1 p1.length c1, .slice B1 h1.length d1] 25) := ⟨_, rfl⟩
  obtain ⟨w0, hw0⟩ : ∃ w0, w0 = v1.alloc (.cells #[.int .i64 s2, .slice A2 p2.length c2, .slice B2 h2.length d2] 25) := ⟨_, rfl⟩
  have b1 : Below w.heap.size w v1 := by rw [hv1]; exact below_new _ _
  have b2 : Below v1.heap.size v1 w0 := by rw [hw0]; exact below_new _ _
  have z1 : v1.heap.size = w.heap.size + 1 := by rw [hv1]; simp
  have q1 : Blk v1 w.heap.size 25 #[.int .i64 s1, .slice A1 p1.length c1, .slice B1 h1.length d1] := by rw [hv1]; exact Blk.new _ _ _
  have q2 : Blk w0 v1.heap.size 25 #[.int .i64 s2, .slice A2 p2.length c2, .slice B2 h2.length d2] := by rw [hw0]; exact Blk.new _ _ _
  have q1' := q1.below b2 q1.lt
  rw [z1] at q2
  have hb0 := b1.trans (b2.mono b1.size)
  rw [hv1] at hw0
  have HW := Lib.hid hw0
  have HB := Lib.hid hb0
  have hC1 := fun W (hb : Below w0.heap.size w0 W) => rright_any s1 A1 c1 p1 B1 d1 h1 W ((hp1.ext hb0).ext hb) ((hn1.ext hb0).ext hb)
  have hC2 := fun W (hb : Below w0.heap.size w0 W) => rright_any s2 A2 c2 p2 B2 d2 h2 W ((hp2.ext hb0).ext hb) ((hn2.ext hb0).ext hb)
  have hC4 := fun W (hb : Below w0.heap.size w0 W) => rreduce_any s1 A1 c1 p1 B1 d1 h1 W ((hp1.ext hb0).ext hb) ((hn1.ext hb0).ext hb)
  have hC5 := fun W (hb : Below w0.heap.size w0 W) => rreduce_any s2 A2 c2 p2 B2 d2 h2 W ((hp2.ext hb0).ext hb) ((hn2.ext hb0).ext hb)
  have HQ1 := Lib.hid q1'
  have HQ2 := Lib.hid q2
  have X0 := cell_regrown (q1'.cell_ 0 (.int .i64 s1) rfl)
  have X1 := cell_regrown (q1'.cell_ 1 (.slice A1 p1.length c1) rfl)
  have X2 := cell_regrown (q1'.cell_ 2 (.slice B1 h1.length d1) rfl)
  have Y0 := cell_regrown (q2.cell_ 0 (.int .i64 s2) rfl)
  have Y1 := cell_regrown (q2.cell_ 1 (.slice A2 p2.length c2) rfl)
  have Y2 := cell_regrown (q2.cell_ 2 (.slice B2 h2.length d2) rfl)
  have hE : equalP ⟨s1, p1, h1.map Hd.nd⟩ ⟨s2, p2, h2.map Hd.nd⟩ = (rightN s1 p1 (h1.map Hd.nd) && rightN s2 p2 (h2.map Hd.nd) && sameP (redT ⟨s1, p1, h1.map Hd.nd⟩) (redT ⟨s2, p2, h2.map Hd.nd⟩)) := equalP_eq _ _
  rw [hE]
  obtain ⟨ra, hra⟩ : ∃ ra, ra = redT ⟨s1, p1, h1.map Hd.nd⟩ := ⟨_, rfl⟩
  obtain ⟨rb, hrb⟩ : ∃ rb, rb = redT ⟨s2, p2, h2.map Hd.nd⟩ := ⟨_, rfl⟩
  rw [← hra] at hC4 ⊢
  rw [← hrb] at hC5 ⊢
  clear hv1 hw0 b1 b2 z1 q1 q2 q1' hb0 hp1 hp2 hn1 hn2 hE hra hrb
  cases r1 : rightN s1 p1 (h1.map Hd.nd) with
  | false =>
    simp only [r1] at hC1
    have CC1 := Lib.hid (fun dd os => Calls.regrown_of (w := w0) (d := dd) (os := os) (hC1 _ (below_regrown w0 dd os)))
    clear r1 hC1 hC2 hC4 hC5
    go_enter Tryz.func31, Tryz.ntmps31
    go_upto_region 1 with fail
    rw [← HW.out]
    refine wp_region_quiet_below (by kernel_rfl) (by kernel_rfl) ?_
    repeat (go_big_quiet_step (with_reducible exact CC1.out _ _))
    refine wpQuiet_nil ?_
    intro _ hw'
    obtain ⟨⟨dq, osq⟩, hw''⟩ := hw'
    subst hw''
    go_wp2
    go_ret
    exact ⟨rfl, HB.out.trans ((below_regrown w0 dq osq).mono HB.out.size)⟩
  | true =>
    simp only [r1] at hC1
    clear r1
    cases r2 : rightN s2 p2 (h2.map Hd.nd) with
    | false =>
      simp only [r2] at hC2
      have CC1 := Lib.hid (fun dd os => Calls.regrown_of (w := w0) (d := dd) (os := os) (hC1 _ (below_regrown w0 dd os)))
      have CC2 := Lib.hid (fun dd os => Calls.regrown_of (w := w0) (d := dd) (os := os) (hC2 _ (below_regrown w0 dd os)))
      clear r2 hC1 hC2 hC4 hC5
      go_enter Tryz.func31, Tryz.ntmps31
      go_upto_region 1 with fail
      rw [← HW.out]
      refine wp_region_quiet_below (by kernel_rfl) (by kernel_rfl) ?_
      repeat (go_big_quiet_step (first | with_reducible exact CC1.out _ _ | with_reducible exact CC2.out _ _))
      refine wpQuiet_nil ?_
      intro _ hw'
      obtain ⟨⟨dq, osq⟩, hw''⟩ := hw'
      subst hw''
      go_wp2
      go_ret
      exact ⟨rfl, HB.out.trans ((below_regrown w0 dq osq).mono HB.out.size)⟩
    | true =>
      simp only [r2] at hC2
      clear r2
      have HC1 := Lib.hid hC1
      have HC2 := Lib.hid hC2
      have HC4 := Lib.hid hC4
      have HC5 := Lib.hid hC5
      obtain ⟨q, hq⟩ : ∃ q, q = sameP ra rb := ⟨_, rfl⟩
      rw [← hq]
      have HQ := Lib.hid hq
      clear hC1 hC2 hC4 hC5 hq X0 X1 X2 Y0 Y1 Y2
      go_enter Tryz.func31, Tryz.ntmps31
      go_upto_region 1 with fail
      rw [← HW.out]
      refine wp_region_J (by kernel_rfl) (fun listed act w' => ∃ b0 b1 b2 b3 b4 b5 b6 b7 b8 b9 b10 b11 b12 b13 v5 v6 v7 v8 v9 v10 v11 v12 v13 v14 v15 v16 v17 v4, listed = #[b0, b1, b2, b3, b4, b5, b6, b7, b8, b9, b10, b11, b12, b13] ∧ act = Act.mk #[.agg #[.int .i64 s1, .slice A1 p1.length c1, .slice B1 h1.length d1], .agg #[.int .i64 s2, .slice A2 p2.length c2, .slice B2 h2.length d2], .pointer (some ⟨w.heap.size, 0, none⟩), .pointer (some ⟨w.heap.size + 1, 0, none⟩), v4, v5, v6, v7, v8, v9, v10, v11, v12, v13, v14, v15, v16, v17] [] ∧ ReJ w0 s1 A1 p1 c1 B1 h1.length d1 s2 A2 p2 c2 B2 h2.length d2 ra rb q b0 b1 b2 b3 b4 b5 b6 b7 b8 b9 b10 b11 b12 b13 v5 v6 v7 v8 v9 v10 v11 v12 v13 v14 v15 v16 v17 v4 w') ?_ ?_ ?_
      · exact ⟨_, _, _, _, _, _, _, _, _, _, _, _, _, _, _, _, _, _, _, _, _, _, _, _, _, _, _, _, rfl, rfl, ⟨(by simp), (by simp), (by simp), (by simp), (by simp), (by simp), (by simp), (by simp), (by simp), (by simp), (by simp), (by simp), ((Below.refl _ w0).drew), (by simp), (by simp)⟩⟩
      · rintro i listed act w' hi ⟨b0, b1, b2, b3, b4, b5, b6, b7, b8, b9, b10, b11, b12, b13, v5, v6, v7, v8, v9, v10, v11, v12, v13, v14, v15, v16, v17, v4, rfl, rfl, H⟩
        have hi16 : i < 14 := by
          obtain ⟨-, o, ho, -⟩ := mem_ready.1 hi
          exact (Array.getElem?_eq_some_iff.1 ho).1
        obtain rfl | rfl | rfl | rfl | rfl | rfl | rfl | rfl | rfl | rfl | rfl | rfl | rfl | rfl : i = 0 ∨ i = 1 ∨ i = 2 ∨ i = 3 ∨ i = 4 ∨ i = 5 ∨ i = 6 ∨ i = 7 ∨ i = 8 ∨ i = 9 ∨ i = 10 ∨ i = 11 ∨ i = 12 ∨ i = 13 := by omega
        all_goals simp [mem_ready, Region.binds] at hi
        · have ccA0 := (H.below.cell (p := ⟨w.heap.size, 0, none⟩) HQ1.out.lt).trans (HQ1.out.cell_ 0 (.int .i64 s1) rfl)
          have ccA1 := (H.below.cell (p := ⟨w.heap.size, 1, none⟩) HQ1.out.lt).trans (HQ1.out.cell_ 1 (.slice A1 p1.length c1) rfl)
          have ccA2 := (H.below.cell (p := ⟨w.heap.size, 2, none⟩) HQ1.out.lt).trans (HQ1.out.cell_ 2 (.slice B1 h1.length d1) rfl)
          refine wpOp_hidden rfl fun K hK => ?_
          go_wp2
          refine OnlyN.mk (hK.out _ _ ⟨true, _, _, _, _, _, _, _, _, _, _, _, _, _, .agg #[.int .i64 s1, .slice A1 p1.length c1, .slice B1 h1.length d1], _, _, _, _, _, _, _, _, _, _, _, _, _, rfl, rfl, ⟨fun _ => rfl, H.h1, H.h2, H.h3, H.h4, H.h5, H.h6, H.h7, H.h9, H.h11, H.h12, H.h13, H.below, H.h8, H.h10⟩⟩)
        · obtain rfl := H.h0 (by simp [hi])
          have HCX := Lib.hid (HC1.out w' H.below)
          refine wpOp_hidden rfl fun K hK => ?_
          go_wp2_with (go_at_call 28; refine HCX.out.mono ?_)
          rintro e w9 ⟨rfl, hb9⟩
          have HA := Lib.hid (H.world hb9)
          clear H hb9
          go_wp2
          refine OnlyN.mk (hK.out _ _ ⟨_, true, _, _, _, _, _, _, _, _, _, _, _, _, _, .bool true, _, _, _, _, _, _, _, _, _, _, _, _, rfl, rfl, ⟨HA.out.h0, fun _ => rfl, HA.out.h2, HA.out.h3, HA.out.h4, HA.out.h5, HA.out.h6, HA.out.h7, HA.out.h9, HA.out.h11, HA.out.h12, HA.out.h13, HA.out.below, HA.out.h8, HA.out.h10⟩⟩)
        · obtain rfl := H.h1 (by simp [hi])
          refine wpOp_hidden rfl fun K hK => ?_
          go_wp2
          refine OnlyN.mk (hK.out _ _ ⟨_, _, true, _, _, _, _, _, _, _, _, _, _, _, _, _, .bool true, _, _, _, _, _, _, _, _, _, _, _, rfl, rfl, ⟨H.h0, H.h1, fun _ => rfl, H.h3, H.h4, H.h5, H.h6, H.h7, H.h9, H.h11, H.h12, H.h13, H.below, H.h8, H.h10⟩⟩)
        · obtain rfl := H.h2 (by simp [hi])
          have ccB0 := (H.below.cell (p := ⟨w.heap.size + 1, 0, none⟩) HQ2.out.lt).trans (HQ2.out.cell_ 0 (.int .i64 s2) rfl)
          have ccB1 := (H.below.cell (p := ⟨w.heap.size + 1, 1, none⟩) HQ2.out.lt).trans (HQ2.out.cell_ 1 (.slice A2 p2.length c2) rfl)
          have ccB2 := (H.below.cell (p := ⟨w.heap.size + 1, 2, none⟩) HQ2.out.lt).trans (HQ2.out.cell_ 2 (.slice B2 h2.length d2) rfl)
          refine wpOp_hidden rfl fun K hK => ?_
          go_wp2
          refine OnlyN.mk (hK.out _ _ ⟨_, _, _, true, _, _, _, _, _, _, _, _, _, _, _, _, _, .agg #[.int .i64 s2, .slice A2 p2.length c2, .slice B2 h2.length d2], _, _, _, _, _, _, _, _, _, _, rfl, rfl, ⟨H.h0, H.h1, H.h2, fun _ => rfl, H.h4, H.h5, H.h6, H.h7, H.h9, H.h11, H.h12, H.h13, H.below, H.h8, H.h10⟩⟩)
        · obtain rfl := H.h2 (by simp [hi])
          obtain rfl := H.h3 (by simp [hi])
          have HCX := Lib.hid (HC2.out w' H.below)
          refine wpOp_hidden rfl fun K hK => ?_
          go_wp2_with (go_at_call 28; refine HCX.out.mono ?_)
          rintro e w9 ⟨rfl, hb9⟩
          have HA := Lib.hid (H.world hb9)
          clear H hb9
          go_wp2
          refine OnlyN.mk (hK.out _ _ ⟨_, _, _, _, true, _, _, _, _, _, _, _, _, _, _, _, _, _, .bool true, _, _, _, _, _, _, _, _, _, rfl, rfl, ⟨HA.out.h0, HA.out.h1, HA.out.h2, HA.out.h3, fun _ => rfl, HA.out.h5, HA.out.h6, HA.out.h7, HA.out.h9, HA.out.h11, HA.out.h12, HA.out.h13, HA.out.below, HA.out.h8, HA.out.h10⟩⟩)
        · obtain rfl := H.h2 (by simp [hi])
          obtain rfl := H.h4 (by simp [hi])
          refine wpOp_hidden rfl fun K hK => ?_
          go_wp2
          refine OnlyN.mk (hK.out _ _ ⟨_, _, _, _, _, true, _, _, _, _, _, _, _, _, _, _, _, _, _, .bool true, _, _, _, _, _, _, _, _, rfl, rfl, ⟨H.h0, H.h1, H.h2, H.h3, H.h4, fun _ => rfl, H.h6, H.h7, H.h9, H.h11, H.h12, H.h13, H.below, H.h8, H.h10⟩⟩)
        · obtain rfl := H.h5 (by simp [hi])
          refine wpOp_hidden rfl fun K hK => ?_
          go_wp2
          refine OnlyN.mk (hK.out _ _ ⟨_, _, _, _, _, _, true, _, _, _, _, _, _, _, _, _, _, _, _, _, .bool true, _, _, _, _, _, _, _, rfl, rfl, ⟨H.h0, H.h1, H.h2, H.h3, H.h4, H.h5, fun _ => rfl, H.h7, H.h9, H.h11, H.h12, H.h13, H.below, H.h8, H.h10⟩⟩)
        · obtain rfl := H.h6 (by simp [hi])
          have ccA0 := (H.below.cell (p := ⟨w.heap.size, 0, none⟩) HQ1.out.lt).trans (HQ1.out.cell_ 0 (.int .i64 s1) rfl)
          have ccA1 := (H.below.cell (p := ⟨w.heap.size, 1, none⟩) HQ1.out.lt).trans (HQ1.out.cell_ 1 (.slice A1 p1.length c1) rfl)
          have ccA2 := (H.below.cell (p := ⟨w.heap.size, 2, none⟩) HQ1.out.lt).trans (HQ1.out.cell_ 2 (.slice B1 h1.length d1) rfl)
          refine wpOp_hidden rfl fun K hK => ?_
          go_wp2
          refine OnlyN.mk (hK.out _ _ ⟨_, _, _, _, _, _, _, true, _, _, _, _, _, _, _, _, _, _, _, _, _, .agg #[.int .i64 s1, .slice A1 p1.length c1, .slice B1 h1.length d1], _, _, _, _, _, _, rfl, rfl, ⟨H.h0, H.h1, H.h2, H.h3, H.h4, H.h5, H.h6, fun _ => rfl, H.h9, H.h11, H.h12, H.h13, H.below, H.h8, H.h10⟩⟩)
        · obtain rfl := H.h6 (by simp [hi])
          obtain rfl := H.h7 (by simp [hi])
          have HCX := Lib.hid (HC4.out w' H.below)
          refine wpOp_hidden rfl fun K hK => ?_
          go_wp2_with (go_at_call 12; refine HCX.out.mono ?_; intro e w9 hr9; obtain ⟨v9, rfl, ht9, hb9⟩ := hr9; refine Hid.out ?_)
          refine Lib.hid ?_
          have HA := Lib.hid (H.world hb9)
          have HT9 := Lib.hid ht9
          clear H hb9 ht9
          go_wp2
          refine OnlyN.mk (hK.out _ _ ⟨_, _, _, _, _, _, _, _, true, _, _, _, _, _, _, _, _, _, _, _, _, _, v9, _, _, _, _, _, rfl, rfl, ⟨HA.out.h0, HA.out.h1, HA.out.h2, HA.out.h3, HA.out.h4, HA.out.h5, HA.out.h6, HA.out.h7, HA.out.h9, HA.out.h11, HA.out.h12, HA.out.h13, HA.out.below, fun _ => HT9.out, HA.out.h10⟩⟩)
        · obtain rfl := H.h6 (by simp [hi])
          have ccB0 := (H.below.cell (p := ⟨w.heap.size + 1, 0, none⟩) HQ2.out.lt).trans (HQ2.out.cell_ 0 (.int .i64 s2) rfl)
          have ccB1 := (H.below.cell (p := ⟨w.heap.size + 1, 1, none⟩) HQ2.out.lt).trans (HQ2.out.cell_ 1 (.slice A2 p2.length c2) rfl)
          have ccB2 := (H.below.cell (p := ⟨w.heap.size + 1, 2, none⟩) HQ2.out.lt).trans (HQ2.out.cell_ 2 (.slice B2 h2.length d2) rfl)
          refine wpOp_hidden rfl fun K hK => ?_
          go_wp2
          refine OnlyN.mk (hK.out _ _ ⟨_, _, _, _, _, _, _, _, _, true, _, _, _, _, _, _, _, _, _, _, _, _, _, .agg #[.int .i64 s2, .slice A2 p2.length c2, .slice B2 h2.length d2], _, _, _, _, rfl, rfl, ⟨H.h0, H.h1, H.h2, H.h3, H.h4, H.h5, H.h6, H.h7, fun _ => rfl, H.h11, H.h12, H.h13, H.below, H.h8, H.h10⟩⟩)
        · obtain rfl := H.h6 (by simp [hi])
          obtain rfl := H.h9 (by simp [hi])
          have HCX := Lib.hid (HC5.out w' H.below)
          refine wpOp_hidden rfl fun K hK => ?_
          go_wp2_with (go_at_call 12; refine HCX.out.mono ?_; intro e w9 hr9; obtain ⟨v9, rfl, ht9, hb9⟩ := hr9; refine Hid.out ?_)
          refine Lib.hid ?_
          have HA := Lib.hid (H.world hb9)
          have HT9 := Lib.hid ht9
          clear H hb9 ht9
          go_wp2
          refine OnlyN.mk (hK.out _ _ ⟨_, _, _, _, _, _, _, _, _, _, true, _, _, _, _, _, _, _, _, _, _, _, _, _, v9, _, _, _, rfl, rfl, ⟨HA.out.h0, HA.out.h1, HA.out.h2, HA.out.h3, HA.out.h4, HA.out.h5, HA.out.h6, HA.out.h7, HA.out.h9, HA.out.h11, HA.out.h12, HA.out.h13, HA.out.below, HA.out.h8, fun _ => HT9.out⟩⟩)
        · obtain rfl := H.h6 (by simp [hi])
          have hts := rsamet_at (H.h8 (by simp [hi])) (H.h10 (by simp [hi]))
          rw [← HQ.out] at hts
          have HCX := Lib.hid (hts)
          refine wpOp_hidden rfl fun K hK => ?_
          go_wp2_with (go_at_call 11; refine HCX.out.mono ?_)
          rintro e w9 ⟨rfl, hb9⟩
          have HA := Lib.hid (H.world hb9)
          clear H hb9 hts
          go_wp2
          refine OnlyN.mk (hK.out _ _ ⟨_, _, _, _, _, _, _, _, _, _, _, true, _, _, _, _, _, _, _, _, _, _, _, _, _, .bool q, _, _, rfl, rfl, ⟨HA.out.h0, HA.out.h1, HA.out.h2, HA.out.h3, HA.out.h4, HA.out.h5, HA.out.h6, HA.out.h7, HA.out.h9, fun _ => rfl, HA.out.h12, HA.out.h13, HA.out.below, HA.out.h8, HA.out.h10⟩⟩)
        · obtain rfl := H.h6 (by simp [hi])
          obtain rfl := H.h11 (by simp [hi])
          refine wpOp_hidden rfl fun K hK => ?_
          go_wp2
          refine OnlyN.mk (hK.out _ _ ⟨_, _, _, _, _, _, _, _, _, _, _, _, true, _, _, _, _, _, _, _, _, _, _, _, _, _, .bool q, _, rfl, rfl, ⟨H.h0, H.h1, H.h2, H.h3, H.h4, H.h5, H.h6, H.h7, H.h9, H.h11, fun _ => rfl, H.h13, H.below, H.h8, H.h10⟩⟩)
        · obtain rfl := H.h12 (by simp [hi])
          refine wpOp_hidden rfl fun K hK => ?_
          go_wp2
          refine OnlyN.mk (hK.out _ _ ⟨_, _, _, _, _, _, _, _, _, _, _, _, _, true, _, _, _, _, _, _, _, _, _, _, _, _, _, .bool q, rfl, rfl, ⟨H.h0, H.h1, H.h2, H.h3, H.h4, H.h5, H.h6, H.h7, H.h9, H.h11, H.h12, fun _ => rfl, H.below, H.h8, H.h10⟩⟩)
      · rintro listed act w' hr ⟨b0, b1, b2, b3, b4, b5, b6, b7, b8, b9, b10, b11, b12, b13, v5, v6, v7, v8, v9, v10, v11, v12, v13, v14, v15, v16, v17, v4, rfl, rfl, H⟩
        have hn := List.eq_nil_iff_forall_not_mem.1 hr
        have r0 := hn 0
        simp [mem_ready, Region.binds] at r0
        subst r0
        have r1 := hn 1
        simp [mem_ready, Region.binds] at r1
        subst r1
        have r2 := hn 2
        simp [mem_ready, Region.binds] at r2
        subst r2
        have r3 := hn 3
        simp [mem_ready, Region.binds] at r3
        subst r3
        have r4 := hn 4
        simp [mem_ready, Region.binds] at r4
        subst r4
        have r5 := hn 5
        simp [mem_ready, Region.binds] at r5
        subst r5
        have r6 := hn 6
        simp [mem_ready, Region.binds] at r6
        subst r6
        have r7 := hn 7
        simp [mem_ready, Region.binds] at r7
        subst r7
        have r8 := hn 8
        simp [mem_ready, Region.binds] at r8
        subst r8
        have r9 := hn 9
        simp [mem_ready, Region.binds] at r9
        subst r9
        have r10 := hn 10
        simp [mem_ready, Region.binds] at r10
        subst r10
        have r11 := hn 11
        simp [mem_ready, Region.binds] at r11
        subst r11
        have r12 := hn 12
        simp [mem_ready, Region.binds] at r12
        subst r12
        have r13 := hn 13
        simp [mem_ready, Region.binds] at r13
        subst r13
        obtain rfl := H.h13 rfl
        have HBE := Lib.hid (HB.out.trans (H.below.mono HB.out.size))
        clear H hr hn
        go_wp2
        go_ret
        exact ⟨rfl, HBE.out⟩
end Go.Proofs.YtmlhkbgifnifdaaGreatDoor
namespace Go.Proofs.YtmlhkbgifnifdaaGreatDoor
open Go.RowKit
set_option maxRecDepth 100000
set_option linter.unusedVariables false
set_option linter.unusedSimpArgs false
def intsOf (l : List Nat) : List Int := l.map fun (t : Nat) => (t : Int)
theorem intsOf_snoc (l : List Nat) (s : Nat) : intsOf (l ++ [s]) = intsOf l ++ [(s : Int)] := by simp [intsOf]
theorem intsOf_len (l : List Nat) : (intsOf l).length = l.length := by simp [intsOf]
theorem prbTo_c {ps : List (Int × Int)} {s n i : Nat} (h : ps.getD i (1, 1) = (0, 0)) : prbTo ps s n (i + 1) = ((prbTo ps s n i).1 ++ [s], (prbTo ps s n i).2) := if_pos h
theorem prbTo_1 {ps : List (Int × Int)} {s n i : Nat} (h : ¬ ps.getD i (1, 1) = (0, 0)) (h2 : 0 < (prbTo ps s n i).2) : prbTo ps s n (i + 1) = ((prbTo ps s n i).1 ++ [1], (prbTo ps s n i).2 - 1) := (if_neg h).trans (if_pos h2)
theorem prbTo_0 {ps : List (Int × Int)} {s n i : Nat} (h : ¬ ps.getD i (1, 1) = (0, 0)) (h2 : ¬ 0 < (prbTo ps s n i).2) : prbTo ps s n (i + 1) = ((prbTo ps s n i).1 ++ [0], (prbTo ps s n i).2) := (if_neg h).trans (if_neg h2)
theorem dec_pos {r : Nat} (h : 0 < r) : decide ((0 : Int) < (r : Int)) = true := decide_eq_true (by omega)
theorem dec_npos {r : Nat} (h : ¬ 0 < r) : decide ((0 : Int) < (r : Int)) = false := decide_eq_false (by omega)
theorem wrap_sub1 {r : Nat} (h : 0 < r) (h2 : r ≤ 100) : wrap64 ((r : Int) - 1) = ((r - 1 : Nat) : Int) := by unfold wrap64; omega
set_option maxHeartbeats 8000000 in
theorem probe_any (st : Int) (A : Option Addr) (c : Nat) (ps : List (Int × Int)) (B : Option Addr) (d : Nat) (hs : List Hd) (s n : Nat) (w : World) (hp : Pts w A ps) (hN : Nds w B hs) (hr : rightN st ps (hs.map Hd.nd) = true) (hs1 : s ≤ 1) (hn1 : n ≤ 100) :
    Calls Tryz.prog 30 #[.agg #[.int .i64 st, .slice A ps.length c, .slice B hs.length d], .int .i64 (s : Int), .int .i64 (n : Int)] w fun e w' => e = .returned (.int .i64 (val (hs.map Hd.nd) ((hs.length - 1 : Nat) : Int) (prbL ps s n))) ∧ Below w.heap.size w w' := by
  obtain ⟨a1, a2, a3, a4, a5, a6, a7, a8, a9⟩ := rightN_parts hr
  rw [List.length_map] at a4 a6
  obtain ⟨w0, hw0⟩ : ∃ w0, w0 = w.alloc (.cells #[.int .i64 st, .slice A ps.length c, .slice B hs.length d] 25) := ⟨_, rfl⟩
  have hb0 : Below w.heap.size w w0 := by rw [hw0]; exact below_new _ _
  have p0 : Blk w0 w.heap.size 25 #[.int .i64 st, .slice A ps.length c, .slice B hs.length d] := by rw [hw0]; exact Blk.new _ _ _
  have hpl : ps.length ≤ 9223372036854775807 := by omega
  have HV := Lib.hid (And.intro a8 (And.intro a4 a6))
  have HS := Lib.hid (And.intro a1 (And.intro hs1 (And.intro hn1 a7)))
  have HB0 := Lib.hid hb0
  have HP0 := Lib.hid p0
  have HW0 := Lib.hid hw0
  have HPT := Lib.hid (hp.ext hb0)
  have HND := Lib.hid (hN.ext hb0)
  have c1 := p0.cell_ 1 (.slice A ps.length c) rfl
  clear hb0 p0 hw0 hp hN hr a1 a2 a3 a4 a5 a6 a7 a8 a9 hs1 hn1
  go_enter Tryz.func30, Tryz.ntmps30
  go_upto_region 1 with fail
  rw [← HW0.out]
  clear c1
  go_wp2
  go_loopw [2, 7, 8] (fun cv lv iv wr => ∃ (i : Nat), i ≤ ps.length ∧ iv = .int .i64 i ∧ cv = .int .i64 ((prbTo ps s n i).2 : Nat) ∧ Hid (OwnIA wr w0.heap.size lv (intsOf (prbTo ps s n i).1)) ∧ Hid (Below w0.heap.size w0 wr)) (fun _ _ iv _ => ps.length - (intOf iv).toNat)
  case atStart => exact ⟨0, Nat.zero_le _, rfl, rfl, Lib.hid (OwnI.nil _ _ _), Lib.hid (Below.refl _ _)⟩
  case round =>
    obtain ⟨i, hi, rfl, rfl, HL, HB⟩ := hrel
    obtain ⟨r, hr⟩ : ∃ r, r = (prbTo ps s n i).2 := ⟨_, rfl⟩
    obtain ⟨l, hl⟩ : ∃ l, l = (prbTo ps s n i).1 := ⟨_, rfl⟩
    have hll : l.length = i := by rw [hl]; exact prbTo_len _ _ _ _
    have hr100 : r ≤ 100 := by rw [hr]; exact Nat.le_trans (prbTo_le _ _ _ _) HS.out.2.2.1
    rw [← hl] at HL
    rw [← hr]
    have c1 := (HP0.out.below HB.out HP0.out.lt).cell_ 1 (.slice A ps.length c) rfl
    by_cases hil : i < ps.length
    · obtain ⟨b1, o1, rfl, -, hc, hc'⟩ := (HPT.out.ext HB.out).at_ hil
      have hg : ps.getD i (1, 1) = ps[i] := by rw [List.getD_eq_getElem?_getD, List.getElem?_eq_getElem hil]; rfl
      obtain ⟨y, hy⟩ : ∃ y, y = ps[i] := ⟨_, rfl⟩
      rw [← hy] at hc hc' hg
      have HG := Lib.hid hg
      have HR := Lib.hid (And.intro hr hl)
      have HI := Lib.hid (And.intro hil (And.intro hll hr100))
      have hdi : decide ((i : Int) < (ps.length : Int)) = true := dec_lt hil
      have hdi2 : decide (i < ps.length) = true := decide_eq_true hil
      have hwi : wrap64 ((i : Int) + 1) = (i : Int) + 1 := wrap_1 (Nat.le_refl i) (by have := HS.out; omega)
      have hst := Tryz.stood_pt
      have heg := Tryz.guard_pt
      have hnq := eql_pt
      have hal : (intsOf l).length < 1000000000000 := by rw [intsOf_len, hll]; have := HS.out; omega
      clear hi hg hr hl hll hr100 hy
      cases hpe : ptEq y.1 y.2 0 0 with
      | true =>
        have he : y = (0, 0) := by
          unfold ptEq at hpe
          simp at hpe
          exact Prod.ext hpe.1 hpe.2
        have HE : Hid (prbTo ps s n (i + 1) = (l ++ [s], r)) := Lib.hid (by rw [prbTo_c (by rw [HG.out]; exact he), ← HR.out.1, ← HR.out.2])
        clear he
        have hown := HL.out
        have hws : w0.heap.size ≤ wr.heap.size := HB.out.size
        go_wp2_with (at_builtin; refine wpList_pushIk rfl _ _ _ rfl w0.heap.size 3 Tryz.underlying28 Tryz.infoInt _ _ rfl hown _ rfl hal hws ?_)
        intro v' w5 ho5 hk5 hn5
        have HO5 := Lib.hid ho5
        have HB5 : Hid (Below w0.heap.size w0 w5) := Lib.hid (HB.out.trans (hk5.to_below hws (fun g hg e => by have h1 := (own_lt' HL.out e).2; omega)))
        clear hown hal hws ho5 hk5 hn5 c1 hc hc'
        go_wp2
        go_roundw
        case rel => exact ⟨i + 1, HI.out.1, (by first | rfl | (rw [hwi]; rfl)), (by first | (rw [HE.out]; done) | (rw [HE.out]; rw [hw1])), Lib.hid (by rw [HE.out]; show OwnIA w5 w0.heap.size v' (intsOf (l ++ [s])); rw [intsOf_snoc]; exact HO5.out), HB5⟩
        case measure => (try rw [hwi]); exact meas_step HI.out.1
      | false =>
        have he : ¬ y = (0, 0) := by
          unfold ptEq at hpe
          intro e
          rw [e] at hpe
          simp at hpe
        have hne : ¬ ps.getD i (1, 1) = (0, 0) := by rw [HG.out]; exact he
        have HNE := Lib.hid hne
        clear he hne
        by_cases hrp : 0 < r
        · have hd1 := dec_pos hrp
          have hd2 : decide (0 < r) = true := decide_eq_true hrp
          have hw1 := wrap_sub1 hrp HI.out.2.2
          have HE : Hid (prbTo ps s n (i + 1) = (l ++ [1], r - 1)) := Lib.hid (by rw [prbTo_1 HNE.out (by rw [← HR.out.1]; exact hrp), ← HR.out.1, ← HR.out.2])
          clear hrp
          have hown := HL.out
          have hws : w0.heap.size ≤ wr.heap.size := HB.out.size
          go_wp2_with (at_builtin; refine wpList_pushIk rfl _ _ _ rfl w0.heap.size 3 Tryz.underlying28 Tryz.infoInt _ _ rfl hown _ rfl hal hws ?_)
          intro v' w5 ho5 hk5 hn5
          have HO5 := Lib.hid ho5
          have HB5 : Hid (Below w0.heap.size w0 w5) := Lib.hid (HB.out.trans (hk5.to_below hws (fun g hg e => by have h1 := (own_lt' HL.out e).2; omega)))
          clear hown hal hws ho5 hk5 hn5 c1 hc hc'
          go_wp2
          go_roundw
          case rel => exact ⟨i + 1, HI.out.1, (by first | rfl | (rw [hwi]; rfl)), (by first | (rw [HE.out]; done) | (rw [HE.out]; rw [hw1])), Lib.hid (by rw [HE.out]; show OwnIA w5 w0.heap.size v' (intsOf (l ++ [1])); rw [intsOf_snoc]; exact HO5.out), HB5⟩
          case measure => (try rw [hwi]); exact meas_step HI.out.1
        · have hd1 := dec_npos hrp
          have hd2 : decide (0 < r) = false := decide_eq_false hrp
          have HE : Hid (prbTo ps s n (i + 1) = (l ++ [0], r)) := Lib.hid (by rw [prbTo_0 HNE.out (by rw [← HR.out.1]; exact hrp), ← HR.out.1, ← HR.out.2])
          clear hrp
          have hown := HL.out
          have hws : w0.heap.size ≤ wr.heap.size := HB.out.size
          go_wp2_with (at_builtin; refine wpList_pushIk rfl _ _ _ rfl w0.heap.size 3 Tryz.underlying28 Tryz.infoInt _ _ rfl hown _ rfl hal hws ?_)
          intro v' w5 ho5 hk5 hn5
          have HO5 := Lib.hid ho5
          have HB5 : Hid (Below w0.heap.size w0 w5) := Lib.hid (HB.out.trans (hk5.to_below hws (fun g hg e => by have h1 := (own_lt' HL.out e).2; omega)))
          clear hown hal hws ho5 hk5 hn5 c1 hc hc'
          go_wp2
          go_roundw
          case rel => exact ⟨i + 1, HI.out.1, (by first | rfl | (rw [hwi]; rfl)), (by first | (rw [HE.out]; done) | (rw [HE.out]; rw [hw1])), Lib.hid (by rw [HE.out]; show OwnIA w5 w0.heap.size v' (intsOf (l ++ [0])); rw [intsOf_snoc]; exact HO5.out), HB5⟩
          case measure => (try rw [hwi]); exact meas_step HI.out.1
    · obtain rfl : i = ps.length := Nat.le_antisymm hi (Nat.le_of_not_lt hil)
      have hls : l = prbL ps s n := hl
      obtain ⟨lA, lc, e7, hli, -⟩ := HL.out.ints
      subst e7
      have HLI := Lib.hid hli
      have HIN : Hid (l.length = ps.length ∧ ∀ t ∈ l, t < st.toNat) := Lib.hid ⟨hll, fun t ht => by
        rw [hls] at ht
        have h1 := prbTo_mem ps HS.out.2.1 n ps.length t ht
        have := HS.out.1
        omega⟩
      have hcall := val12_any st A ps.length c B d hs lA lc l wr (HND.out.ext HB.out) HLI.out st.toNat HV.out.1 HV.out.2.1 (by rw [HV.out.2.2, HIN.out.1]) HIN.out.2
      obtain ⟨z, hz⟩ : ∃ z, z = val (hs.map Hd.nd) ((hs.length - 1 : Nat) : Int) l := ⟨_, rfl⟩
      rw [← hz] at hcall
      have HZ : Hid (z = val (hs.map Hd.nd) ((hs.length - 1 : Nat) : Int) (prbL ps s n)) := Lib.hid (by rw [hz, hls])
      have hq := HP0.out.below HB.out HP0.out.lt
      have c0 := hq.cell_ 0 (.int .i64 st) rfl
      have c2 := hq.cell_ 2 (.slice B hs.length d) rfl
      have HCALL := Lib.hid hcall
      rw [intsOf_len]
      clear hi hil hr hl hll hr100 hls hli hcall hz hq
      go_wp2_with (go_at_call 66; refine HCALL.out.mono ?_; rintro e w4 ⟨rfl, hb⟩; refine Hid.out ?_)
      refine Lib.hid ?_
      have HBF := Lib.hid (HB0.out.trans ((HB.out.trans (hb.mono HB.out.size)).mono HB0.out.size))
      clear hb c0 c1 c2
      go_wp2
      go_ret
      exact ⟨by rw [HZ.out]; rfl, HBF.out⟩
end Go.Proofs.YtmlhkbgifnifdaaGreatDoor
