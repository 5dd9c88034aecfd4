/-
  cellularlaw14.TotaltreeBack: the walk. No condition but that the library's table is there.
-/
import Derived.Test.YtmlhkbgifnifdaaGreatDoorZG24
import Derived.Test.YtmlhkbgifnifdaaGreatDoorZG27
namespace Go.Proofs.YtmlhkbgifnifdaaGreatDoor
open Go.RowKit Go.Maps
set_option maxRecDepth 100000
set_option linter.unusedVariables false
set_option linter.unusedSimpArgs false
theorem sameTot_self (x : TotL) : sameTot x x = true := by unfold sameTot; simp
/-- what a rule that comes back makes -/
theorem back_made {t : PT} {x : TotL} (h : backP t = (x, true)) : ∃ u, totT x = (u, 0) ∧ sameP u (redT t) = true := by
  cases hb : backB t with
  | false =>
    unfold backP at h
    rw [hb] at h
    exact absurd (congrArg Prod.snd h) (by simp)
  | true =>
    have h2 := h
    unfold backP at h2
    rw [hb, if_pos rfl] at h2
    cases hs : sameP (totT (totOf t)).1 (redT t) with
    | false =>
      rw [hs] at h2
      exact absurd (congrArg Prod.snd h2) (by simp)
    | true =>
      rw [hs, if_pos rfl] at h2
      have hx : totOf t = x := congrArg Prod.fst h2
      have hr : rightT (totOf t) = true := totOf_right (by
        unfold backB at hb
        rw [Bool.and_eq_true] at hb
        exact hb.2)
      rw [hx] at hr hs
      refine ⟨(totT x).1, Prod.ext rfl ?_, hs⟩
      unfold totT
      rw [if_pos hr]
structure LbkJ (W : World) (agU : Value) (agA : Value) (t : PT) (b0 b1 b2 b3 b4 b5 b6 b7 b8 b9 b10 b11 : Bool) (v40 v41 v42 v43 v44 v45 v46 v47 v48 v49 v50 v2 : Value) (w : World) : Prop where
  h0 : b0 = true → v40 = .int .i64 0
  h1 : b1 = true → v41 = .bool true
  h2 : b2 = true → v42 = .bool true
  h3 : b3 = true → v43 = agU
  h4 : b4 = true → v44 = agA
  h6 : b6 = true → v46 = .bool true
  h7 : b7 = true → v47 = .bool true
  h8 : b8 = true → v48 = .bool true
  h9 : b9 = true → v49 = .bool true
  h10 : b10 = true → v50 = .bool true
  h11 : b11 = true → v2 = .bool true
  below : Below W.heap.size W w
  t5 : b5 = true → TreeAt w v45 (redT t)
section
variable {W : World} {agU : Value} {agA : Value} {t : PT} {b0 b1 b2 b3 b4 b5 b6 b7 b8 b9 b10 b11 : Bool} {v40 v41 v42 v43 v44 v45 v46 v47 v48 v49 v50 v2 : Value} {w w' : World}
theorem LbkJ.world (H : LbkJ W agU agA t b0 b1 b2 b3 b4 b5 b6 b7 b8 b9 b10 b11 v40 v41 v42 v43 v44 v45 v46 v47 v48 v49 v50 v2 w) (hb : Below w.heap.size w w') : LbkJ W agU agA t b0 b1 b2 b3 b4 b5 b6 b7 b8 b9 b10 b11 v40 v41 v42 v43 v44 v45 v46 v47 v48 v49 v50 v2 w' :=
  ⟨H.h0, H.h1, H.h2, H.h3, H.h4, H.h6, H.h7, H.h8, H.h9, H.h10, H.h11, H.below.trans (hb.mono H.below.size), fun h => (H.t5 h).ext hb⟩
end
set_option maxHeartbeats 16000000 in
theorem lawBack_any (t : PT) (s1 : Int) (A1 : Option Addr) (n1 c1 : Nat) (B1 : Option Addr) (m1 d1 : Nat) (w : World) (ha : TreeAt w (.agg #[.int .i64 s1, .slice A1 n1 c1, .slice B1 m1 d1]) t) (ht : TabB w.heap.size w) :
    Calls Tryz.prog 3 #[.agg #[.int .i64 s1, .slice A1 n1 c1, .slice B1 m1 d1]] w fun e w' => e = .returned (.bool true) ∧ Below w.heap.size w w' := by
  obtain ⟨w0, hw0⟩ : ∃ w0, w0 = w.alloc (.cells #[.int .i64 s1, .slice A1 n1 c1, .slice B1 m1 d1] 25) := ⟨_, rfl⟩
  have hA := TrV.new ha
  rw [← hw0] at hA
  have HA := Lib.hid hA
  have HB : Hid (Below w.heap.size w w0) := Lib.hid (by rw [hw0]; exact below_new _ _)
  have HW0 := Lib.hid hw0
  have HTAB := Lib.hid ht
  clear hw0 hA ha ht
  cases hs : fewB t.ps t.ns with
  | false =>
    obtain ⟨cA0, cA1, cA2⟩ := HA.out.cells
    go_enter Tryz.func3, Tryz.ntmps3
    go_upto_region 1 with fail
    rw [← HW0.out]
    have hcall := few_tv HA.out.at_
    rw [hs] at hcall
    have HCALL := Lib.hid hcall
    clear hcall
    go_wp2_with (go_at_call 5; refine HCALL.out.mono ?_; intro e x2 hx; obtain ⟨rfl, hb⟩ := hx; refine Hid.out ?_)
    refine Lib.hid ?_
    have HBx := Lib.hid (HB.out.trans (hb.mono HB.out.size))
    clear HB
    have HB := HBx
    clear HBx
    have Hx := Lib.hid (HA.out.ext hb)
    clear HA
    have HA := Hx
    clear Hx
    clear hb HCALL
    clear cA0 cA1 cA2
    clear hs HW0
    have hcall := alive_any _ ((HTAB.out.on HB.out).up HB.out.size)
    have HCALL := Lib.hid hcall
    clear hcall
    go_wp2_with (go_at_call 6; refine HCALL.out.mono ?_; intro e x3 hx; obtain ⟨rfl, hb⟩ := hx; refine Hid.out ?_)
    refine Lib.hid ?_
    have HBx := Lib.hid (HB.out.trans (hb.mono HB.out.size))
    clear HB
    have HB := HBx
    clear HBx
    have Hx := Lib.hid (HA.out.ext hb)
    clear HA
    have HA := Hx
    clear Hx
    clear hb HCALL
    go_wp2
    go_ret
    exact ⟨rfl, HB.out⟩
  | true =>
    obtain ⟨xb, hxb⟩ : ∃ xb, xb = backP t := ⟨_, rfl⟩
    have HBK := Lib.hid hxb.symm
    clear hxb
    obtain ⟨x, bb⟩ := xb
    have HSS : Hid (sameTot x x = true) := Lib.hid (sameTot_self x)
    obtain ⟨cA0, cA1, cA2⟩ := HA.out.cells
    go_enter Tryz.func3, Tryz.ntmps3
    go_upto_region 1 with fail
    rw [← HW0.out]
    have hcall := few_tv HA.out.at_
    rw [hs] at hcall
    have HCALL := Lib.hid hcall
    clear hcall
    go_wp2_with (go_at_call 5; refine HCALL.out.mono ?_; intro e x2 hx; obtain ⟨rfl, hb⟩ := hx; refine Hid.out ?_)
    refine Lib.hid ?_
    have HBx := Lib.hid (HB.out.trans (hb.mono HB.out.size))
    clear HB
    have HB := HBx
    clear HBx
    have Hx := Lib.hid (HA.out.ext hb)
    clear HA
    have HA := Hx
    clear Hx
    clear hb HCALL
    clear cA0 cA1 cA2
    clear hs HW0
    go_upto_region 3 with fail
    obtain ⟨cA0, cA1, cA2⟩ := HA.out.cells
    have hcall := back_tv HA.out.at_ ((HTAB.out.on HB.out).up HB.out.size)
    rw [HBK.out] at hcall
    have HCALL := Lib.hid hcall
    clear hcall
    go_wp2_with (go_at_call 7; refine HCALL.out.mono ?_; intro e x3 hx; obtain ⟨Ab1, ab1, Bb1, bb1, Cb1, cb1, rfl, htr, hb⟩ := hx; unfold totV; refine Hid.out ?_)
    refine Lib.hid ?_
    have HBx := Lib.hid (HB.out.trans (hb.mono HB.out.size))
    clear HB
    have HB := HBx
    clear HBx
    have Hx := Lib.hid (HA.out.ext hb)
    clear HA
    have HA := Hx
    clear Hx
    clear hb HCALL
    clear cA0 cA1 cA2
    obtain ⟨z1, hw⟩ : ∃ W, W = x3.alloc (.cells #[.slice Ab1 x.hood.length ab1, .int .i64 x.states, .slice Bb1 x.birth.length bb1, .slice Cb1 x.survive.length cb1] 30) := ⟨_, rfl⟩
    obtain ⟨pX, hp⟩ : ∃ p, p = x3.heap.size := ⟨_, rfl⟩
    have hv := TtV.new (a := ab1) (b := bb1) (c := cb1) htr
    rw [← hw, ← hp] at hv
    have hb : Below x3.heap.size x3 z1 := by rw [hw]; exact below_new _ _
    have HBx := Lib.hid (HB.out.trans (hb.mono HB.out.size))
    clear HB
    have HB := HBx
    clear HBx
    have Hx := Lib.hid (HA.out.ext hb)
    clear HA
    have HA := Hx
    clear Hx
    have HX := Lib.hid hv
    clear hv hb htr
    go_upto_region 4 with fail
    rw [← hw, ← hp]
    clear hw hp
    obtain ⟨cA0, cA1, cA2⟩ := HA.out.cells
    have hcall := rback_tv HA.out.at_
    rw [HBK.out] at hcall
    have HCALL := Lib.hid hcall
    clear hcall
    go_wp2_with (go_at_call 8; refine HCALL.out.mono ?_; intro e x4 hx; obtain ⟨Ab2, ab2, Bb2, bb2, Cb2, cb2, rfl, htr, hb⟩ := hx; unfold totV; refine Hid.out ?_)
    refine Lib.hid ?_
    have HBx := Lib.hid (HB.out.trans (hb.mono HB.out.size))
    clear HB
    have HB := HBx
    clear HBx
    have Hx := Lib.hid (HA.out.ext hb)
    clear HA
    have HA := Hx
    clear Hx
    have Hx := Lib.hid (HX.out.ext hb)
    clear HX
    have HX := Hx
    clear Hx
    clear hb HCALL
    clear cA0 cA1 cA2
    obtain ⟨z2, hw⟩ : ∃ W, W = x4.alloc (.cells #[.slice Ab2 x.hood.length ab2, .int .i64 x.states, .slice Bb2 x.birth.length bb2, .slice Cb2 x.survive.length cb2] 30) := ⟨_, rfl⟩
    obtain ⟨pY, hp⟩ : ∃ p, p = x4.heap.size := ⟨_, rfl⟩
    have hv := TtV.new (a := ab2) (b := bb2) (c := cb2) htr
    rw [← hw, ← hp] at hv
    have hb : Below x4.heap.size x4 z2 := by rw [hw]; exact below_new _ _
    have HBx := Lib.hid (HB.out.trans (hb.mono HB.out.size))
    clear HB
    have HB := HBx
    clear HBx
    have Hx := Lib.hid (HA.out.ext hb)
    clear HA
    have HA := Hx
    clear Hx
    have Hx := Lib.hid (HX.out.ext hb)
    clear HX
    have HX := Hx
    clear Hx
    have HY := Lib.hid hv
    clear hv hb htr
    go_upto_region 5 with fail
    rw [← hw, ← hp]
    clear hw hp
    obtain ⟨cX0, cX1, cX2, cX3⟩ := HX.out.cells
    obtain ⟨cY0, cY1, cY2, cY3⟩ := HY.out.cells
    have hcall := tsame_tv HX.out HY.out
    rw [HSS.out] at hcall
    have HCALL := Lib.hid hcall
    clear hcall
    go_wp2_with (go_at_call 9; refine HCALL.out.mono ?_; intro e x5 hx; obtain ⟨rfl, hb⟩ := hx; refine Hid.out ?_)
    refine Lib.hid ?_
    have HBx := Lib.hid (HB.out.trans (hb.mono HB.out.size))
    clear HB
    have HB := HBx
    clear HBx
    have Hx := Lib.hid (HA.out.ext hb)
    clear HA
    have HA := Hx
    clear Hx
    have Hx := Lib.hid (HX.out.ext hb)
    clear HX
    have HX := Hx
    clear Hx
    have Hx := Lib.hid (HY.out.ext hb)
    clear HY
    have HY := Hx
    clear Hx
    clear hb HCALL
    clear cX0 cX1 cX2 cX3
    clear cY0 cY1 cY2 cY3
    cases bb with
    | false =>
      have hcall := alive_any _ ((HTAB.out.on HB.out).up HB.out.size)
      have HCALL := Lib.hid hcall
      clear hcall
      go_wp2_with (go_at_call 6; refine HCALL.out.mono ?_; intro e x6 hx; obtain ⟨rfl, hb⟩ := hx; refine Hid.out ?_)
      refine Lib.hid ?_
      have HBx := Lib.hid (HB.out.trans (hb.mono HB.out.size))
      clear HB
      have HB := HBx
      clear HBx
      have Hx := Lib.hid (HA.out.ext hb)
      clear HA
      have HA := Hx
      clear Hx
      have Hx := Lib.hid (HX.out.ext hb)
      clear HX
      have HX := Hx
      clear Hx
      have Hx := Lib.hid (HY.out.ext hb)
      clear HY
      have HY := Hx
      clear Hx
      clear hb HCALL
      go_wp2
      go_ret
      exact ⟨rfl, HB.out⟩
    | true =>
      obtain ⟨u, hu1, hu2⟩ := back_made HBK.out
      have HU1 := Lib.hid hu1
      have HU2 := Lib.hid hu2
      clear hu1 hu2
      go_upto_region 9 with fail
      obtain ⟨cX0, cX1, cX2, cX3⟩ := HX.out.cells
      have hcall := totals_tv HX.out ((HTAB.out.on HB.out).up HB.out.size)
      rw [HU1.out] at hcall
      have HCALL := Lib.hid hcall
      clear hcall
      go_wp2_with (go_at_call 10; refine HCALL.out.mono ?_; intro e x6 hx; obtain ⟨s6, A6, n6, c6, B6, m6, d6, rfl, hat, hb⟩ := hx; refine Hid.out ?_)
      refine Lib.hid ?_
      have HBx := Lib.hid (HB.out.trans (hb.mono HB.out.size))
      clear HB
      have HB := HBx
      clear HBx
      have Hx := Lib.hid (HA.out.ext hb)
      clear HA
      have HA := Hx
      clear Hx
      have Hx := Lib.hid (HX.out.ext hb)
      clear HX
      have HX := Hx
      clear Hx
      have Hx := Lib.hid (HY.out.ext hb)
      clear HY
      have HY := Hx
      clear Hx
      clear hb HCALL
      clear cX0 cX1 cX2 cX3
      obtain ⟨y6, hw⟩ : ∃ W, W = x6.alloc (.cells #[.int .i64 s6, .slice A6 n6 c6, .slice B6 m6 d6] 25) := ⟨_, rfl⟩
      obtain ⟨pU, hp⟩ : ∃ p, p = x6.heap.size := ⟨_, rfl⟩
      have hv := TrV.new hat
      rw [← hw, ← hp] at hv
      have hb : Below x6.heap.size x6 y6 := by rw [hw]; exact below_new _ _
      have HBx := Lib.hid (HB.out.trans (hb.mono HB.out.size))
      clear HB
      have HB := HBx
      clear HBx
      have Hx := Lib.hid (HA.out.ext hb)
      clear HA
      have HA := Hx
      clear Hx
      have Hx := Lib.hid (HX.out.ext hb)
      clear HX
      have HX := Hx
      clear Hx
      have Hx := Lib.hid (HY.out.ext hb)
      clear HY
      have HY := Hx
      clear Hx
      have HU := Lib.hid hv
      clear hv hb hat
      go_upto_region 10 with fail
      rw [← hw, ← hp]
      clear hw hp
      refine wp_region_J (by kernel_rfl) (fun listed act w' => ∃ b0 b1 b2 b3 b4 b5 b6 b7 b8 b9 b10 b11 v40 v41 v42 v43 v44 v45 v46 v47 v48 v49 v50 v2, listed = #[b0, b1, b2, b3, b4, b5, b6, b7, b8, b9, b10, b11] ∧ act = Act.mk #[.agg #[.int .i64 s1, .slice A1 n1 c1, .slice B1 m1 d1], .pointer (some ⟨w.heap.size, 0, none⟩), v2, .pointer (some ⟨pX, 0, none⟩), .bool true, .pointer (some ⟨pY, 0, none⟩), .bool true, .pointer (some ⟨pU, 0, none⟩), .int .i64 0, .agg #[.int .i64 s1, .slice A1 n1 c1, .slice B1 m1 d1], .bool true, .bool false, undef, Value.tuple #[.agg #[.slice Ab1 x.hood.length ab1, .int .i64 x.states, .slice Bb1 x.birth.length bb1, .slice Cb1 x.survive.length cb1], .bool true], .agg #[.int .i64 s1, .slice A1 n1 c1, .slice B1 m1 d1], Value.tuple #[.agg #[.slice Ab1 x.hood.length ab1, .int .i64 x.states, .slice Bb1 x.birth.length bb1, .slice Cb1 x.survive.length cb1], .bool true], .agg #[.slice Ab1 x.hood.length ab1, .int .i64 x.states, .slice Bb1 x.birth.length bb1, .slice Cb1 x.survive.length cb1], .bool true, Value.tuple #[.agg #[.slice Ab2 x.hood.length ab2, .int .i64 x.states, .slice Bb2 x.birth.length bb2, .slice Cb2 x.survive.length cb2], .bool true], .agg #[.int .i64 s1, .slice A1 n1 c1, .slice B1 m1 d1], Value.tuple #[.agg #[.slice Ab2 x.hood.length ab2, .int .i64 x.states, .slice Bb2 x.birth.length bb2, .slice Cb2 x.survive.length cb2], .bool true], .agg #[.slice Ab2 x.hood.length ab2, .int .i64 x.states, .slice Bb2 x.birth.length bb2, .slice Cb2 x.survive.length cb2], .bool true, .agg #[.slice Ab1 x.hood.length ab1, .int .i64 x.states, .slice Bb1 x.birth.length bb1, .slice Cb1 x.survive.length cb1], .agg #[.slice Ab2 x.hood.length ab2, .int .i64 x.states, .slice Bb2 x.birth.length bb2, .slice Cb2 x.survive.length cb2], .bool true, .bool false, .bool false, .bool true, .bool true, .bool false, .bool false, .bool true, .bool false, undef, Value.tuple #[.agg #[.int .i64 s6, .slice A6 n6 c6, .slice B6 m6 d6], .int .i64 0], .agg #[.slice Ab1 x.hood.length ab1, .int .i64 x.states, .slice Bb1 x.birth.length bb1, .slice Cb1 x.survive.length cb1], Value.tuple #[.agg #[.int .i64 s6, .slice A6 n6 c6, .slice B6 m6 d6], .int .i64 0], .agg #[.int .i64 s6, .slice A6 n6 c6, .slice B6 m6 d6], .int .i64 0, v40, v41, v42, v43, v44, v45, v46, v47, v48, v49, v50] [] ∧ LbkJ y6 (.agg #[.int .i64 s6, .slice A6 n6 c6, .slice B6 m6 d6]) (.agg #[.int .i64 s1, .slice A1 n1 c1, .slice B1 m1 d1]) t b0 b1 b2 b3 b4 b5 b6 b7 b8 b9 b10 b11 v40 v41 v42 v43 v44 v45 v46 v47 v48 v49 v50 v2 w') ?_ ?_ ?_
      · exact ⟨_, _, _, _, _, _, _, _, _, _, _, _, _, _, _, _, _, _, _, _, _, _, _, _, rfl, rfl, ⟨(by simp), (by simp), (by simp), (by simp), (by simp), (by simp), (by simp), (by simp), (by simp), (by simp), (by simp), (Below.refl _ y6).drew, (by simp)⟩⟩
      · rintro i listed act w' hi ⟨b0, b1, b2, b3, b4, b5, b6, b7, b8, b9, b10, b11, v40, v41, v42, v43, v44, v45, v46, v47, v48, v49, v50, v2, rfl, rfl, H⟩
        have hi16 : i < 12 := by
          obtain ⟨-, o, ho, -⟩ := mem_ready.1 hi
          exact (Array.getElem?_eq_some_iff.1 ho).1
        obtain rfl | rfl | rfl | rfl | rfl | rfl | rfl | rfl | rfl | rfl | rfl | rfl : i = 0 ∨ i = 1 ∨ i = 2 ∨ i = 3 ∨ i = 4 ∨ i = 5 ∨ i = 6 ∨ i = 7 ∨ i = 8 ∨ i = 9 ∨ i = 10 ∨ i = 11 := by omega
        all_goals simp [mem_ready, Region.binds] at hi
        · refine wpOp_hidden rfl fun K hK => ?_
          go_wp2
          refine OnlyN.mk (hK.out _ _ ⟨true, _, _, _, _, _, _, _, _, _, _, _, .int .i64 0, _, _, _, _, _, _, _, _, _, _, _, rfl, rfl, ⟨fun _ => rfl, H.h1, H.h2, H.h3, H.h4, H.h6, H.h7, H.h8, H.h9, H.h10, H.h11, H.below, H.t5⟩⟩)
        · obtain rfl := H.h0 (by simp [hi])
          refine wpOp_hidden rfl fun K hK => ?_
          go_wp2
          refine OnlyN.mk (hK.out _ _ ⟨_, true, _, _, _, _, _, _, _, _, _, _, _, .bool true, _, _, _, _, _, _, _, _, _, _, rfl, rfl, ⟨H.h0, fun _ => rfl, H.h2, H.h3, H.h4, H.h6, H.h7, H.h8, H.h9, H.h10, H.h11, H.below, H.t5⟩⟩)
        · obtain rfl := H.h1 (by simp [hi])
          refine wpOp_hidden rfl fun K hK => ?_
          go_wp2
          refine OnlyN.mk (hK.out _ _ ⟨_, _, true, _, _, _, _, _, _, _, _, _, _, _, .bool true, _, _, _, _, _, _, _, _, _, rfl, rfl, ⟨H.h0, H.h1, fun _ => rfl, H.h3, H.h4, H.h6, H.h7, H.h8, H.h9, H.h10, H.h11, H.below, H.t5⟩⟩)
        · obtain rfl := H.h2 (by simp [hi])
          obtain ⟨g0, g1, g2⟩ := (HU.out.ext H.below).cells
          refine wpOp_hidden rfl fun K hK => ?_
          go_wp2
          refine OnlyN.mk (hK.out _ _ ⟨_, _, _, true, _, _, _, _, _, _, _, _, _, _, _, .agg #[.int .i64 s6, .slice A6 n6 c6, .slice B6 m6 d6], _, _, _, _, _, _, _, _, rfl, rfl, ⟨H.h0, H.h1, H.h2, fun _ => rfl, H.h4, H.h6, H.h7, H.h8, H.h9, H.h10, H.h11, H.below, H.t5⟩⟩)
        · obtain rfl := H.h2 (by simp [hi])
          obtain ⟨g0, g1, g2⟩ := (HA.out.ext H.below).cells
          refine wpOp_hidden rfl fun K hK => ?_
          go_wp2
          refine OnlyN.mk (hK.out _ _ ⟨_, _, _, _, true, _, _, _, _, _, _, _, _, _, _, _, .agg #[.int .i64 s1, .slice A1 n1 c1, .slice B1 m1 d1], _, _, _, _, _, _, _, rfl, rfl, ⟨H.h0, H.h1, H.h2, H.h3, fun _ => rfl, H.h6, H.h7, H.h8, H.h9, H.h10, H.h11, H.below, H.t5⟩⟩)
        · obtain rfl := H.h2 (by simp [hi])
          obtain rfl := H.h4 (by simp [hi])
          have HB0 := Lib.hid (H.below)
          have hcall := rred_tv (HA.out.ext HB0.out).at_
          have HCALL := Lib.hid hcall
          clear hcall
          refine wpOp_hidden rfl fun K hK => ?_
          go_wp2_with (go_at_call 12; refine HCALL.out.mono ?_; intro e w9 hx; obtain ⟨s9, A9, n9, c9, B9, m9, d9, rfl, hat, hb9⟩ := hx; refine Hid.out ?_)
          refine Lib.hid ?_
          have HB9 := Lib.hid hb9
          have HAT := Lib.hid hat
          clear hat
          clear hb9 HCALL
          go_wp2
          refine OnlyN.mk (hK.out _ _ ⟨_, _, _, _, _, true, _, _, _, _, _, _, _, _, _, _, _, .agg #[.int .i64 s9, .slice A9 n9 c9, .slice B9 m9 d9], _, _, _, _, _, _, rfl, rfl, ⟨(H.world HB9.out).h0, (H.world HB9.out).h1, (H.world HB9.out).h2, (H.world HB9.out).h3, (H.world HB9.out).h4, (H.world HB9.out).h6, (H.world HB9.out).h7, (H.world HB9.out).h8, (H.world HB9.out).h9, (H.world HB9.out).h10, (H.world HB9.out).h11, (H.world HB9.out).below, fun _ => HAT.out⟩⟩)
        · obtain rfl := H.h2 (by simp [hi])
          obtain rfl := H.h3 (by simp [hi])
          have ht5 := H.t5 (by simp [hi])
          have HB0 := Lib.hid (H.below)
          have hcall := rsamet_at (HU.out.ext HB0.out).at_ ht5
          rw [HU2.out] at hcall
          have HCALL := Lib.hid hcall
          clear hcall
          refine wpOp_hidden rfl fun K hK => ?_
          go_wp2_with (go_at_call 11; refine HCALL.out.mono ?_; intro e w9 hx; obtain ⟨rfl, hb9⟩ := hx; refine Hid.out ?_)
          refine Lib.hid ?_
          have HB9 := Lib.hid hb9
          clear hb9 HCALL
          go_wp2
          refine OnlyN.mk (hK.out _ _ ⟨_, _, _, _, _, _, true, _, _, _, _, _, _, _, _, _, _, _, .bool true, _, _, _, _, _, rfl, rfl, ⟨(H.world HB9.out).h0, (H.world HB9.out).h1, (H.world HB9.out).h2, (H.world HB9.out).h3, (H.world HB9.out).h4, fun _ => rfl, (H.world HB9.out).h7, (H.world HB9.out).h8, (H.world HB9.out).h9, (H.world HB9.out).h10, (H.world HB9.out).h11, (H.world HB9.out).below, (H.world HB9.out).t5⟩⟩)
        · obtain rfl := H.h2 (by simp [hi])
          obtain rfl := H.h6 (by simp [hi])
          refine wpOp_hidden rfl fun K hK => ?_
          go_wp2
          refine OnlyN.mk (hK.out _ _ ⟨_, _, _, _, _, _, _, true, _, _, _, _, _, _, _, _, _, _, _, .bool true, _, _, _, _, rfl, rfl, ⟨H.h0, H.h1, H.h2, H.h3, H.h4, H.h6, fun _ => rfl, H.h8, H.h9, H.h10, H.h11, H.below, H.t5⟩⟩)
        · obtain rfl := H.h7 (by simp [hi])
          refine wpOp_hidden rfl fun K hK => ?_
          go_wp2
          refine OnlyN.mk (hK.out _ _ ⟨_, _, _, _, _, _, _, _, true, _, _, _, _, _, _, _, _, _, _, _, .bool true, _, _, _, rfl, rfl, ⟨H.h0, H.h1, H.h2, H.h3, H.h4, H.h6, H.h7, fun _ => rfl, H.h9, H.h10, H.h11, H.below, H.t5⟩⟩)
        · obtain rfl := H.h8 (by simp [hi])
          have HB0 := Lib.hid (H.below)
          have hcall := alive_any w' ((HTAB.out.on (HB.out.trans (HB0.out.mono HB.out.size))).up (HB.out.trans (HB0.out.mono HB.out.size)).size)
          have HCALL := Lib.hid hcall
          clear hcall
          refine wpOp_hidden rfl fun K hK => ?_
          go_wp2_with (go_at_call 6; refine HCALL.out.mono ?_; intro e w9 hx; obtain ⟨rfl, hb9⟩ := hx; refine Hid.out ?_)
          refine Lib.hid ?_
          have HB9 := Lib.hid hb9
          clear hb9 HCALL
          go_wp2
          refine OnlyN.mk (hK.out _ _ ⟨_, _, _, _, _, _, _, _, _, true, _, _, _, _, _, _, _, _, _, _, _, .bool true, _, _, rfl, rfl, ⟨(H.world HB9.out).h0, (H.world HB9.out).h1, (H.world HB9.out).h2, (H.world HB9.out).h3, (H.world HB9.out).h4, (H.world HB9.out).h6, (H.world HB9.out).h7, (H.world HB9.out).h8, fun _ => rfl, (H.world HB9.out).h10, (H.world HB9.out).h11, (H.world HB9.out).below, (H.world HB9.out).t5⟩⟩)
        · obtain rfl := H.h8 (by simp [hi])
          obtain rfl := H.h9 (by simp [hi])
          refine wpOp_hidden rfl fun K hK => ?_
          go_wp2
          refine OnlyN.mk (hK.out _ _ ⟨_, _, _, _, _, _, _, _, _, _, true, _, _, _, _, _, _, _, _, _, _, _, .bool true, _, rfl, rfl, ⟨H.h0, H.h1, H.h2, H.h3, H.h4, H.h6, H.h7, H.h8, H.h9, fun _ => rfl, H.h11, H.below, H.t5⟩⟩)
        · obtain rfl := H.h10 (by simp [hi])
          refine wpOp_hidden rfl fun K hK => ?_
          go_wp2
          refine OnlyN.mk (hK.out _ _ ⟨_, _, _, _, _, _, _, _, _, _, _, true, _, _, _, _, _, _, _, _, _, _, _, .bool true, rfl, rfl, ⟨H.h0, H.h1, H.h2, H.h3, H.h4, H.h6, H.h7, H.h8, H.h9, H.h10, fun _ => rfl, H.below, H.t5⟩⟩)
      · rintro listed act w' hr ⟨b0, b1, b2, b3, b4, b5, b6, b7, b8, b9, b10, b11, v40, v41, v42, v43, v44, v45, v46, v47, v48, v49, v50, v2, rfl, rfl, H⟩
        have hn := List.eq_nil_iff_forall_not_mem.1 hr
        have r0 := hn 0
        simp [mem_ready, Region.binds] at r0
        subst r0
        have r1 := hn 1
        simp [mem_ready, Region.binds] at r1
        subst r1
        have r2 := hn 2
        simp [mem_ready, Region.binds] at r2
        subst r2
        have r3 := hn 3
        simp [mem_ready, Region.binds] at r3
        subst r3
        have r4 := hn 4
        simp [mem_ready, Region.binds] at r4
        subst r4
        have r5 := hn 5
        simp [mem_ready, Region.binds] at r5
        subst r5
        have r6 := hn 6
        simp [mem_ready, Region.binds] at r6
        subst r6
        have r7 := hn 7
        simp [mem_ready, Region.binds] at r7
        subst r7
        have r8 := hn 8
        simp [mem_ready, Region.binds] at r8
        subst r8
        have r9 := hn 9
        simp [mem_ready, Region.binds] at r9
        subst r9
        have r10 := hn 10
        simp [mem_ready, Region.binds] at r10
        subst r10
        have r11 := hn 11
        simp [mem_ready, Region.binds] at r11
        subst r11
        try dsimp only
        obtain rfl := H.h11 rfl
        have HBF := Lib.hid (HB.out.trans (H.below.mono HB.out.size))
        clear H hr hn
        go_wp2
        go_ret
        exact ⟨rfl, HBF.out⟩
end Go.Proofs.YtmlhkbgifnifdaaGreatDoor
