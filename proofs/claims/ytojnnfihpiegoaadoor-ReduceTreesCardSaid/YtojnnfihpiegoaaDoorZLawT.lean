/-
  cellularlaw13.ReduceTrees: the walk. No condition but that the library's table and the matrices are there.
-/
import Derived.Test.YtojnnfihpiegoaaDoorZLawU
namespace Go.Proofs.YtojnnfihpiegoaaDoor
open Go.RowKit Go.Maps
set_option maxRecDepth 100000
set_option linter.unusedVariables false
set_option linter.unusedSimpArgs false
structure LtJ (W : World) (agA : Value) (agB : Value) (k : Int) (E : Bool) (U : Bool) (a : PT) (b : PT) (b0 b1 b2 b3 b4 b5 b6 b7 b8 b9 b10 b11 b12 b13 b14 b15 b16 b17 b18 b19 b20 b21 b22 b23 b24 b25 b26 : Bool) (v16 v17 v18 v19 v20 v21 v22 v23 v24 v25 v26 v27 v28 v29 v30 v31 v32 v33 v34 v35 v36 v37 v38 v39 v40 v41 v6 : Value) (w : World) : Prop where
  h0 : b0 = true → v16 = agA
  h2 : b2 = true → v18 = agA
  h4 : b4 = true → v20 = .bool true
  h5 : b5 = true → v21 = .bool true
  h6 : b6 = true → v22 = agA
  h7 : b7 = true → v23 = agB
  h8 : b8 = true → v24 = .bool E
  h9 : b9 = true → v25 = agA
  h10 : b10 = true → v26 = agB
  h11 : b11 = true → v27 = .bool E
  h12 : b12 = true → v28 = .bool true
  h13 : b13 = true → v29 = .bool true
  h14 : b14 = true → v30 = .bool true
  h15 : b15 = true → v31 = agA
  h16 : b16 = true → v32 = .int .i64 k
  h17 : b17 = true → v33 = .bool U
  h18 : b18 = true → v34 = agA
  h19 : b19 = true → v35 = .int .i64 k
  h20 : b20 = true → v36 = .bool U
  h21 : b21 = true → v37 = .bool true
  h22 : b22 = true → v38 = .bool true
  h23 : b23 = true → v39 = .bool true
  h24 : b24 = true → v40 = .bool true
  h25 : b25 = true → v41 = .bool true
  h26 : b26 = true → v6 = .bool true
  below : Below W.heap.size W w
  t1 : b1 = true → TreeAt w v17 (redT a)
  t3 : b3 = true → TreeAt w v19 (redT a)
section
variable {W : World} {agA : Value} {agB : Value} {k : Int} {E : Bool} {U : Bool} {a : PT} {b : PT} {b0 b1 b2 b3 b4 b5 b6 b7 b8 b9 b10 b11 b12 b13 b14 b15 b16 b17 b18 b19 b20 b21 b22 b23 b24 b25 b26 : Bool} {v16 v17 v18 v19 v20 v21 v22 v23 v24 v25 v26 v27 v28 v29 v30 v31 v32 v33 v34 v35 v36 v37 v38 v39 v40 v41 v6 : Value} {w w' : World}
theorem LtJ.world (H : LtJ W agA agB k E U a b b0 b1 b2 b3 b4 b5 b6 b7 b8 b9 b10 b11 b12 b13 b14 b15 b16 b17 b18 b19 b20 b21 b22 b23 b24 b25 b26 v16 v17 v18 v19 v20 v21 v22 v23 v24 v25 v26 v27 v28 v29 v30 v31 v32 v33 v34 v35 v36 v37 v38 v39 v40 v41 v6 w) (hb : Below w.heap.size w w') : LtJ W agA agB k E U a b b0 b1 b2 b3 b4 b5 b6 b7 b8 b9 b10 b11 b12 b13 b14 b15 b16 b17 b18 b19 b20 b21 b22 b23 b24 b25 b26 v16 v17 v18 v19 v20 v21 v22 v23 v24 v25 v26 v27 v28 v29 v30 v31 v32 v33 v34 v35 v36 v37 v38 v39 v40 v41 v6 w' :=
  ⟨H.h0, H.h2, H.h4, H.h5, H.h6, H.h7, H.h8, H.h9, H.h10, H.h11, H.h12, H.h13, H.h14, H.h15, H.h16, H.h17, H.h18, H.h19, H.h20, H.h21, H.h22, H.h23, H.h24, H.h25, H.h26, H.below.trans (hb.mono H.below.size), fun h => (H.t1 h).ext hb, fun h => (H.t3 h).ext hb⟩
end
set_option maxHeartbeats 16000000 in
theorem lawT_any (a b : PT) (s1 : Int) (A1 : Option Addr) (n1 c1 : Nat) (B1 : Option Addr) (m1 d1 : Nat) (s2 : Int) (A2 : Option Addr) (n2 c2 : Nat) (B2 : Option Addr) (m2 d2 : Nat) (k : Int) (w : World)
    (ha : TreeAt w (.agg #[.int .i64 s1, .slice A1 n1 c1, .slice B1 m1 d1]) a) (hb : TreeAt w (.agg #[.int .i64 s2, .slice A2 n2 c2, .slice B2 m2 d2]) b) (hk : -9223372036854775808 ≤ k ∧ k ≤ 9223372036854775807) (ht : TabB w.heap.size w) (hg : GMat w) :
    Calls Tryd.prog 3 #[.agg #[.int .i64 s1, .slice A1 n1 c1, .slice B1 m1 d1], .agg #[.int .i64 s2, .slice A2 n2 c2, .slice B2 m2 d2], .int .i64 k] w fun e w' => e = .returned (.bool true) ∧ Below w.heap.size w w' := by
  obtain ⟨v1, h1⟩ : ∃ v1, v1 = w.alloc (.cells #[.int .i64 s1, .slice A1 n1 c1, .slice B1 m1 d1] 25) := ⟨_, rfl⟩
  obtain ⟨w0, h2⟩ : ∃ w0, w0 = v1.alloc (.cells #[.int .i64 s2, .slice A2 n2 c2, .slice B2 m2 d2] 25) := ⟨_, rfl⟩
  have b1 : Below w.heap.size w v1 := by rw [h1]; exact below_new _ _
  have b2 : Below v1.heap.size v1 w0 := by rw [h2]; exact below_new _ _
  have z1 : v1.heap.size = w.heap.size + 1 := by rw [h1]; simp
  have hv1 := TrV.new ha
  rw [← h1] at hv1
  have hv2 := TrV.new (hb.ext b1)
  rw [← h2, z1] at hv2
  have HA := Lib.hid (hv1.ext b2)
  have HC := Lib.hid hv2
  have HB := Lib.hid (b1.trans (b2.mono b1.size))
  rw [h1] at h2
  have HW0 := Lib.hid h2
  have HTAB := Lib.hid ht
  have HGM := Lib.hid hg
  have HK := Lib.hid hk
  clear ha hb hk ht hg h1 b1 b2 z1 hv1 hv2 h2
  cases hsA : smallB a 300 with
  | false =>
    obtain ⟨cA0, cA1, cA2⟩ := HA.out.cells
    obtain ⟨cC0, cC1, cC2⟩ := HC.out.cells
    go_enter Tryd.func3, Tryd.ntmps3
    go_upto_region 1 with fail
    rw [← HW0.out]
    have hcall := small_tv (n := 300) HA.out.at_
    rw [hsA] at hcall
    have HCALL := Lib.hid hcall
    clear hcall
    go_wp2_with (go_at_call 9; refine HCALL.out.mono ?_; intro e x1 hx; obtain ⟨rfl, hb⟩ := hx; refine Hid.out ?_)
    refine Lib.hid ?_
    have HBx := Lib.hid (HB.out.trans (hb.mono HB.out.size))
    clear HB
    have HB := HBx
    clear HBx
    have Hx := Lib.hid (HA.out.ext hb)
    clear HA
    have HA := Hx
    clear Hx
    have Hx := Lib.hid (HC.out.ext hb)
    clear HC
    have HC := Hx
    clear Hx
    clear hb HCALL
    clear cA0 cA1 cA2 cC0 cC1 cC2
    clear hsA
    have hcall := awake_any _ ((HTAB.out.on HB.out).up HB.out.size) (HGM.out.ext HB.out)
    have HCALL := Lib.hid hcall
    clear hcall
    go_wp2_with (go_at_call 10; refine HCALL.out.mono ?_; intro e x2 hx; obtain ⟨rfl, hb⟩ := hx; refine Hid.out ?_)
    refine Lib.hid ?_
    have HBx := Lib.hid (HB.out.trans (hb.mono HB.out.size))
    clear HB
    have HB := HBx
    clear HBx
    have Hx := Lib.hid (HA.out.ext hb)
    clear HA
    have HA := Hx
    clear Hx
    have Hx := Lib.hid (HC.out.ext hb)
    clear HC
    have HC := Hx
    clear Hx
    clear hb HCALL
    go_wp2
    go_ret
    exact ⟨rfl, HB.out⟩
  | true =>
    cases hsC : smallB b 300 with
    | false =>
      obtain ⟨cA0, cA1, cA2⟩ := HA.out.cells
      obtain ⟨cC0, cC1, cC2⟩ := HC.out.cells
      go_enter Tryd.func3, Tryd.ntmps3
      go_upto_region 1 with fail
      rw [← HW0.out]
      have hcall := small_tv (n := 300) HA.out.at_
      rw [hsA] at hcall
      have HCALL := Lib.hid hcall
      clear hcall
      go_wp2_with (go_at_call 9; refine HCALL.out.mono ?_; intro e x1 hx; obtain ⟨rfl, hb⟩ := hx; refine Hid.out ?_)
      refine Lib.hid ?_
      have HBx := Lib.hid (HB.out.trans (hb.mono HB.out.size))
      clear HB
      have HB := HBx
      clear HBx
      have Hx := Lib.hid (HA.out.ext hb)
      clear HA
      have HA := Hx
      clear Hx
      have Hx := Lib.hid (HC.out.ext hb)
      clear HC
      have HC := Hx
      clear Hx
      clear hb HCALL
      clear cA0 cA1 cA2 cC0 cC1 cC2
      obtain ⟨cA0, cA1, cA2⟩ := HA.out.cells
      obtain ⟨cC0, cC1, cC2⟩ := HC.out.cells
      have hcall := small_tv (n := 300) HC.out.at_
      rw [hsC] at hcall
      have HCALL := Lib.hid hcall
      clear hcall
      go_wp2_with (go_at_call 9; refine HCALL.out.mono ?_; intro e x2 hx; obtain ⟨rfl, hb⟩ := hx; refine Hid.out ?_)
      refine Lib.hid ?_
      have HBx := Lib.hid (HB.out.trans (hb.mono HB.out.size))
      clear HB
      have HB := HBx
      clear HBx
      have Hx := Lib.hid (HA.out.ext hb)
      clear HA
      have HA := Hx
      clear Hx
      have Hx := Lib.hid (HC.out.ext hb)
      clear HC
      have HC := Hx
      clear Hx
      clear hb HCALL
      clear cA0 cA1 cA2 cC0 cC1 cC2
      clear hsA hsC
      have hcall := awake_any _ ((HTAB.out.on HB.out).up HB.out.size) (HGM.out.ext HB.out)
      have HCALL := Lib.hid hcall
      clear hcall
      go_wp2_with (go_at_call 10; refine HCALL.out.mono ?_; intro e x3 hx; obtain ⟨rfl, hb⟩ := hx; refine Hid.out ?_)
      refine Lib.hid ?_
      have HBx := Lib.hid (HB.out.trans (hb.mono HB.out.size))
      clear HB
      have HB := HBx
      clear HBx
      have Hx := Lib.hid (HA.out.ext hb)
      clear HA
      have HA := Hx
      clear Hx
      have Hx := Lib.hid (HC.out.ext hb)
      clear HC
      have HC := Hx
      clear Hx
      clear hb HCALL
      go_wp2
      go_ret
      exact ⟨rfl, HB.out⟩
    | true =>
      obtain ⟨cA0, cA1, cA2⟩ := HA.out.cells
      obtain ⟨cC0, cC1, cC2⟩ := HC.out.cells
      go_enter Tryd.func3, Tryd.ntmps3
      go_upto_region 1 with fail
      rw [← HW0.out]
      have hcall := small_tv (n := 300) HA.out.at_
      rw [hsA] at hcall
      have HCALL := Lib.hid hcall
      clear hcall
      go_wp2_with (go_at_call 9; refine HCALL.out.mono ?_; intro e x1 hx; obtain ⟨rfl, hb⟩ := hx; refine Hid.out ?_)
      refine Lib.hid ?_
      have HBx := Lib.hid (HB.out.trans (hb.mono HB.out.size))
      clear HB
      have HB := HBx
      clear HBx
      have Hx := Lib.hid (HA.out.ext hb)
      clear HA
      have HA := Hx
      clear Hx
      have Hx := Lib.hid (HC.out.ext hb)
      clear HC
      have HC := Hx
      clear Hx
      clear hb HCALL
      clear cA0 cA1 cA2 cC0 cC1 cC2
      obtain ⟨cA0, cA1, cA2⟩ := HA.out.cells
      obtain ⟨cC0, cC1, cC2⟩ := HC.out.cells
      have hcall := small_tv (n := 300) HC.out.at_
      rw [hsC] at hcall
      have HCALL := Lib.hid hcall
      clear hcall
      go_wp2_with (go_at_call 9; refine HCALL.out.mono ?_; intro e x2 hx; obtain ⟨rfl, hb⟩ := hx; refine Hid.out ?_)
      refine Lib.hid ?_
      have HBx := Lib.hid (HB.out.trans (hb.mono HB.out.size))
      clear HB
      have HB := HBx
      clear HBx
      have Hx := Lib.hid (HA.out.ext hb)
      clear HA
      have HA := Hx
      clear Hx
      have Hx := Lib.hid (HC.out.ext hb)
      clear HC
      have HC := Hx
      clear Hx
      clear hb HCALL
      clear cA0 cA1 cA2 cC0 cC1 cC2
      clear hsA hsC
      obtain ⟨E, hE⟩ : ∃ E, E = equalP a b := ⟨_, rfl⟩
      obtain ⟨U, hU⟩ : ∃ U, U = usesP a k := ⟨_, rfl⟩
      have HE := Lib.hid hE.symm
      have HU := Lib.hid hU.symm
      clear hE hU
      go_upto_region 3 with fail
      refine wp_region_J (by kernel_rfl) (fun listed act w' => ∃ b0 b1 b2 b3 b4 b5 b6 b7 b8 b9 b10 b11 b12 b13 b14 b15 b16 b17 b18 b19 b20 b21 b22 b23 b24 b25 b26 v16 v17 v18 v19 v20 v21 v22 v23 v24 v25 v26 v27 v28 v29 v30 v31 v32 v33 v34 v35 v36 v37 v38 v39 v40 v41 v6, listed = #[b0, b1, b2, b3, b4, b5, b6, b7, b8, b9, b10, b11, b12, b13, b14, b15, b16, b17, b18, b19, b20, b21, b22, b23, b24, b25, b26] ∧ act = Act.mk #[.agg #[.int .i64 s1, .slice A1 n1 c1, .slice B1 m1 d1], .agg #[.int .i64 s2, .slice A2 n2 c2, .slice B2 m2 d2], .int .i64 k, .pointer (some ⟨w.heap.size, 0, none⟩), .pointer (some ⟨w.heap.size + 1, 0, none⟩), undef, v6, .agg #[.int .i64 s1, .slice A1 n1 c1, .slice B1 m1 d1], .bool true, .bool false, .bool false, .agg #[.int .i64 s2, .slice A2 n2 c2, .slice B2 m2 d2], .bool true, .bool false, .bool false, undef, v16, v17, v18, v19, v20, v21, v22, v23, v24, v25, v26, v27, v28, v29, v30, v31, v32, v33, v34, v35, v36, v37, v38, v39, v40, v41] [] ∧ LtJ x2 (.agg #[.int .i64 s1, .slice A1 n1 c1, .slice B1 m1 d1]) (.agg #[.int .i64 s2, .slice A2 n2 c2, .slice B2 m2 d2]) k E U a b b0 b1 b2 b3 b4 b5 b6 b7 b8 b9 b10 b11 b12 b13 b14 b15 b16 b17 b18 b19 b20 b21 b22 b23 b24 b25 b26 v16 v17 v18 v19 v20 v21 v22 v23 v24 v25 v26 v27 v28 v29 v30 v31 v32 v33 v34 v35 v36 v37 v38 v39 v40 v41 v6 w') ?_ ?_ ?_
      · exact ⟨_, _, _, _, _, _, _, _, _, _, _, _, _, _, _, _, _, _, _, _, _, _, _, _, _, _, _, _, _, _, _, _, _, _, _, _, _, _, _, _, _, _, _, _, _, _, _, _, _, _, _, _, _, _, rfl, rfl, ⟨(by simp), (by simp), (by simp), (by simp), (by simp), (by simp), (by simp), (by simp), (by simp), (by simp), (by simp), (by simp), (by simp), (by simp), (by simp), (by simp), (by simp), (by simp), (by simp), (by simp), (by simp), (by simp), (by simp), (by simp), (by simp), (Below.refl _ x2).drew, (by simp), (by simp)⟩⟩
      · rintro i listed act w' hi ⟨b0, b1, b2, b3, b4, b5, b6, b7, b8, b9, b10, b11, b12, b13, b14, b15, b16, b17, b18, b19, b20, b21, b22, b23, b24, b25, b26, v16, v17, v18, v19, v20, v21, v22, v23, v24, v25, v26, v27, v28, v29, v30, v31, v32, v33, v34, v35, v36, v37, v38, v39, v40, v41, v6, rfl, rfl, H⟩
        have hi16 : i < 27 := by
          obtain ⟨-, o, ho, -⟩ := mem_ready.1 hi
          exact (Array.getElem?_eq_some_iff.1 ho).1
        obtain rfl | rfl | rfl | rfl | rfl | rfl | rfl | rfl | rfl | rfl | rfl | rfl | rfl | rfl | rfl | rfl | rfl | rfl | rfl | rfl | rfl | rfl | rfl | rfl | rfl | rfl | rfl : i = 0 ∨ i = 1 ∨ i = 2 ∨ i = 3 ∨ i = 4 ∨ i = 5 ∨ i = 6 ∨ i = 7 ∨ i = 8 ∨ i = 9 ∨ i = 10 ∨ i = 11 ∨ i = 12 ∨ i = 13 ∨ i = 14 ∨ i = 15 ∨ i = 16 ∨ i = 17 ∨ i = 18 ∨ i = 19 ∨ i = 20 ∨ i = 21 ∨ i = 22 ∨ i = 23 ∨ i = 24 ∨ i = 25 ∨ i = 26 := by omega
        all_goals simp [mem_ready, Region.binds] at hi
        · obtain ⟨g0, g1, g2⟩ := (HA.out.ext H.below).cells
          refine wpOp_hidden rfl fun K hK => ?_
          go_wp2
          refine OnlyN.mk (hK.out _ _ ⟨true, _, _, _, _, _, _, _, _, _, _, _, _, _, _, _, _, _, _, _, _, _, _, _, _, _, _, .agg #[.int .i64 s1, .slice A1 n1 c1, .slice B1 m1 d1], _, _, _, _, _, _, _, _, _, _, _, _, _, _, _, _, _, _, _, _, _, _, _, _, _, _, rfl, rfl, ⟨fun _ => rfl, H.h2, H.h4, H.h5, H.h6, H.h7, H.h8, H.h9, H.h10, H.h11, H.h12, H.h13, H.h14, H.h15, H.h16, H.h17, H.h18, H.h19, H.h20, H.h21, H.h22, H.h23, H.h24, H.h25, H.h26, H.below, H.t1, H.t3⟩⟩)
        · obtain rfl := H.h0 (by simp [hi])
          have HB0 := Lib.hid (H.below)
          have hcall := red_tv (HA.out.ext HB0.out).at_ ((HTAB.out.on (HB.out.trans (HB0.out.mono HB.out.size))).up (HB.out.trans (HB0.out.mono HB.out.size)).size)
          have HCALL := Lib.hid hcall
          clear hcall
          refine wpOp_hidden rfl fun K hK => ?_
          go_wp2_with (go_at_call 12; refine HCALL.out.mono ?_; intro e w9 hx; obtain ⟨s9, A9, n9, c9, B9, m9, d9, rfl, hat, hb9⟩ := hx; refine Hid.out ?_)
          refine Lib.hid ?_
          have HB9 := Lib.hid hb9
          have HAT := Lib.hid hat
          clear hat
          clear hb9 HCALL
          go_wp2
          refine OnlyN.mk (hK.out _ _ ⟨_, true, _, _, _, _, _, _, _, _, _, _, _, _, _, _, _, _, _, _, _, _, _, _, _, _, _, _, .agg #[.int .i64 s9, .slice A9 n9 c9, .slice B9 m9 d9], _, _, _, _, _, _, _, _, _, _, _, _, _, _, _, _, _, _, _, _, _, _, _, _, _, rfl, rfl, ⟨(H.world HB9.out).h0, (H.world HB9.out).h2, (H.world HB9.out).h4, (H.world HB9.out).h5, (H.world HB9.out).h6, (H.world HB9.out).h7, (H.world HB9.out).h8, (H.world HB9.out).h9, (H.world HB9.out).h10, (H.world HB9.out).h11, (H.world HB9.out).h12, (H.world HB9.out).h13, (H.world HB9.out).h14, (H.world HB9.out).h15, (H.world HB9.out).h16, (H.world HB9.out).h17, (H.world HB9.out).h18, (H.world HB9.out).h19, (H.world HB9.out).h20, (H.world HB9.out).h21, (H.world HB9.out).h22, (H.world HB9.out).h23, (H.world HB9.out).h24, (H.world HB9.out).h25, (H.world HB9.out).h26, (H.world HB9.out).below, fun _ => HAT.out, (H.world HB9.out).t3⟩⟩)
        · obtain ⟨g0, g1, g2⟩ := (HA.out.ext H.below).cells
          refine wpOp_hidden rfl fun K hK => ?_
          go_wp2
          refine OnlyN.mk (hK.out _ _ ⟨_, _, true, _, _, _, _, _, _, _, _, _, _, _, _, _, _, _, _, _, _, _, _, _, _, _, _, _, _, .agg #[.int .i64 s1, .slice A1 n1 c1, .slice B1 m1 d1], _, _, _, _, _, _, _, _, _, _, _, _, _, _, _, _, _, _, _, _, _, _, _, _, rfl, rfl, ⟨H.h0, fun _ => rfl, H.h4, H.h5, H.h6, H.h7, H.h8, H.h9, H.h10, H.h11, H.h12, H.h13, H.h14, H.h15, H.h16, H.h17, H.h18, H.h19, H.h20, H.h21, H.h22, H.h23, H.h24, H.h25, H.h26, H.below, H.t1, H.t3⟩⟩)
        · obtain rfl := H.h2 (by simp [hi])
          have HB0 := Lib.hid (H.below)
          have hcall := rred_tv (HA.out.ext HB0.out).at_
          have HCALL := Lib.hid hcall
          clear hcall
          refine wpOp_hidden rfl fun K hK => ?_
          go_wp2_with (go_at_call 13; refine HCALL.out.mono ?_; intro e w9 hx; obtain ⟨s9, A9, n9, c9, B9, m9, d9, rfl, hat, hb9⟩ := hx; refine Hid.out ?_)
          refine Lib.hid ?_
          have HB9 := Lib.hid hb9
          have HAT := Lib.hid hat
          clear hat
          clear hb9 HCALL
          go_wp2
          refine OnlyN.mk (hK.out _ _ ⟨_, _, _, true, _, _, _, _, _, _, _, _, _, _, _, _, _, _, _, _, _, _, _, _, _, _, _, _, _, _, .agg #[.int .i64 s9, .slice A9 n9 c9, .slice B9 m9 d9], _, _, _, _, _, _, _, _, _, _, _, _, _, _, _, _, _, _, _, _, _, _, _, rfl, rfl, ⟨(H.world HB9.out).h0, (H.world HB9.out).h2, (H.world HB9.out).h4, (H.world HB9.out).h5, (H.world HB9.out).h6, (H.world HB9.out).h7, (H.world HB9.out).h8, (H.world HB9.out).h9, (H.world HB9.out).h10, (H.world HB9.out).h11, (H.world HB9.out).h12, (H.world HB9.out).h13, (H.world HB9.out).h14, (H.world HB9.out).h15, (H.world HB9.out).h16, (H.world HB9.out).h17, (H.world HB9.out).h18, (H.world HB9.out).h19, (H.world HB9.out).h20, (H.world HB9.out).h21, (H.world HB9.out).h22, (H.world HB9.out).h23, (H.world HB9.out).h24, (H.world HB9.out).h25, (H.world HB9.out).h26, (H.world HB9.out).below, (H.world HB9.out).t1, fun _ => HAT.out⟩⟩)
        · have ht1 := H.t1 (by simp [hi])
          have ht3 := H.t3 (by simp [hi])
          have HB0 := Lib.hid (H.below)
          have hcall := rsamet_at ht1 ht3
          rw [ex_same] at hcall
          have HCALL := Lib.hid hcall
          clear hcall
          refine wpOp_hidden rfl fun K hK => ?_
          go_wp2_with (go_at_call 11; refine HCALL.out.mono ?_; intro e w9 hx; obtain ⟨rfl, hb9⟩ := hx; refine Hid.out ?_)
          refine Lib.hid ?_
          have HB9 := Lib.hid hb9
          clear hb9 HCALL
          go_wp2
          refine OnlyN.mk (hK.out _ _ ⟨_, _, _, _, true, _, _, _, _, _, _, _, _, _, _, _, _, _, _, _, _, _, _, _, _, _, _, _, _, _, _, .bool true, _, _, _, _, _, _, _, _, _, _, _, _, _, _, _, _, _, _, _, _, _, _, rfl, rfl, ⟨(H.world HB9.out).h0, (H.world HB9.out).h2, fun _ => rfl, (H.world HB9.out).h5, (H.world HB9.out).h6, (H.world HB9.out).h7, (H.world HB9.out).h8, (H.world HB9.out).h9, (H.world HB9.out).h10, (H.world HB9.out).h11, (H.world HB9.out).h12, (H.world HB9.out).h13, (H.world HB9.out).h14, (H.world HB9.out).h15, (H.world HB9.out).h16, (H.world HB9.out).h17, (H.world HB9.out).h18, (H.world HB9.out).h19, (H.world HB9.out).h20, (H.world HB9.out).h21, (H.world HB9.out).h22, (H.world HB9.out).h23, (H.world HB9.out).h24, (H.world HB9.out).h25, (H.world HB9.out).h26, (H.world HB9.out).below, (H.world HB9.out).t1, (H.world HB9.out).t3⟩⟩)
        · obtain rfl := H.h4 (by simp [hi])
          refine wpOp_hidden rfl fun K hK => ?_
          go_wp2
          refine OnlyN.mk (hK.out _ _ ⟨_, _, _, _, _, true, _, _, _, _, _, _, _, _, _, _, _, _, _, _, _, _, _, _, _, _, _, _, _, _, _, _, .bool true, _, _, _, _, _, _, _, _, _, _, _, _, _, _, _, _, _, _, _, _, _, rfl, rfl, ⟨H.h0, H.h2, H.h4, fun _ => rfl, H.h6, H.h7, H.h8, H.h9, H.h10, H.h11, H.h12, H.h13, H.h14, H.h15, H.h16, H.h17, H.h18, H.h19, H.h20, H.h21, H.h22, H.h23, H.h24, H.h25, H.h26, H.below, H.t1, H.t3⟩⟩)
        · obtain rfl := H.h5 (by simp [hi])
          obtain ⟨g0, g1, g2⟩ := (HA.out.ext H.below).cells
          refine wpOp_hidden rfl fun K hK => ?_
          go_wp2
          refine OnlyN.mk (hK.out _ _ ⟨_, _, _, _, _, _, true, _, _, _, _, _, _, _, _, _, _, _, _, _, _, _, _, _, _, _, _, _, _, _, _, _, _, .agg #[.int .i64 s1, .slice A1 n1 c1, .slice B1 m1 d1], _, _, _, _, _, _, _, _, _, _, _, _, _, _, _, _, _, _, _, _, rfl, rfl, ⟨H.h0, H.h2, H.h4, H.h5, fun _ => rfl, H.h7, H.h8, H.h9, H.h10, H.h11, H.h12, H.h13, H.h14, H.h15, H.h16, H.h17, H.h18, H.h19, H.h20, H.h21, H.h22, H.h23, H.h24, H.h25, H.h26, H.below, H.t1, H.t3⟩⟩)
        · obtain rfl := H.h5 (by simp [hi])
          obtain ⟨g0, g1, g2⟩ := (HC.out.ext H.below).cells
          refine wpOp_hidden rfl fun K hK => ?_
          go_wp2
          refine OnlyN.mk (hK.out _ _ ⟨_, _, _, _, _, _, _, true, _, _, _, _, _, _, _, _, _, _, _, _, _, _, _, _, _, _, _, _, _, _, _, _, _, _, .agg #[.int .i64 s2, .slice A2 n2 c2, .slice B2 m2 d2], _, _, _, _, _, _, _, _, _, _, _, _, _, _, _, _, _, _, _, rfl, rfl, ⟨H.h0, H.h2, H.h4, H.h5, H.h6, fun _ => rfl, H.h8, H.h9, H.h10, H.h11, H.h12, H.h13, H.h14, H.h15, H.h16, H.h17, H.h18, H.h19, H.h20, H.h21, H.h22, H.h23, H.h24, H.h25, H.h26, H.below, H.t1, H.t3⟩⟩)
        · obtain rfl := H.h5 (by simp [hi])
          obtain rfl := H.h6 (by simp [hi])
          obtain rfl := H.h7 (by simp [hi])
          have HB0 := Lib.hid (H.below)
          have hcall := equal_tv (HA.out.ext HB0.out).at_ (HC.out.ext HB0.out).at_ ((HTAB.out.on (HB.out.trans (HB0.out.mono HB.out.size))).up (HB.out.trans (HB0.out.mono HB.out.size)).size)
          rw [HE.out] at hcall
          have HCALL := Lib.hid hcall
          clear hcall
          refine wpOp_hidden rfl fun K hK => ?_
          go_wp2_with (go_at_call 14; refine HCALL.out.mono ?_; intro e w9 hx; obtain ⟨rfl, hb9⟩ := hx; refine Hid.out ?_)
          refine Lib.hid ?_
          have HB9 := Lib.hid hb9
          clear hb9 HCALL
          go_wp2
          refine OnlyN.mk (hK.out _ _ ⟨_, _, _, _, _, _, _, _, true, _, _, _, _, _, _, _, _, _, _, _, _, _, _, _, _, _, _, _, _, _, _, _, _, _, _, .bool E, _, _, _, _, _, _, _, _, _, _, _, _, _, _, _, _, _, _, rfl, rfl, ⟨(H.world HB9.out).h0, (H.world HB9.out).h2, (H.world HB9.out).h4, (H.world HB9.out).h5, (H.world HB9.out).h6, (H.world HB9.out).h7, fun _ => rfl, (H.world HB9.out).h9, (H.world HB9.out).h10, (H.world HB9.out).h11, (H.world HB9.out).h12, (H.world HB9.out).h13, (H.world HB9.out).h14, (H.world HB9.out).h15, (H.world HB9.out).h16, (H.world HB9.out).h17, (H.world HB9.out).h18, (H.world HB9.out).h19, (H.world HB9.out).h20, (H.world HB9.out).h21, (H.world HB9.out).h22, (H.world HB9.out).h23, (H.world HB9.out).h24, (H.world HB9.out).h25, (H.world HB9.out).h26, (H.world HB9.out).below, (H.world HB9.out).t1, (H.world HB9.out).t3⟩⟩)
        · obtain rfl := H.h5 (by simp [hi])
          obtain ⟨g0, g1, g2⟩ := (HA.out.ext H.below).cells
          refine wpOp_hidden rfl fun K hK => ?_
          go_wp2
          refine OnlyN.mk (hK.out _ _ ⟨_, _, _, _, _, _, _, _, _, true, _, _, _, _, _, _, _, _, _, _, _, _, _, _, _, _, _, _, _, _, _, _, _, _, _, _, .agg #[.int .i64 s1, .slice A1 n1 c1, .slice B1 m1 d1], _, _, _, _, _, _, _, _, _, _, _, _, _, _, _, _, _, rfl, rfl, ⟨H.h0, H.h2, H.h4, H.h5, H.h6, H.h7, H.h8, fun _ => rfl, H.h10, H.h11, H.h12, H.h13, H.h14, H.h15, H.h16, H.h17, H.h18, H.h19, H.h20, H.h21, H.h22, H.h23, H.h24, H.h25, H.h26, H.below, H.t1, H.t3⟩⟩)
        · obtain rfl := H.h5 (by simp [hi])
          obtain ⟨g0, g1, g2⟩ := (HC.out.ext H.below).cells
          refine wpOp_hidden rfl fun K hK => ?_
          go_wp2
          refine OnlyN.mk (hK.out _ _ ⟨_, _, _, _, _, _, _, _, _, _, true, _, _, _, _, _, _, _, _, _, _, _, _, _, _, _, _, _, _, _, _, _, _, _, _, _, _, .agg #[.int .i64 s2, .slice A2 n2 c2, .slice B2 m2 d2], _, _, _, _, _, _, _, _, _, _, _, _, _, _, _, _, rfl, rfl, ⟨H.h0, H.h2, H.h4, H.h5, H.h6, H.h7, H.h8, H.h9, fun _ => rfl, H.h11, H.h12, H.h13, H.h14, H.h15, H.h16, H.h17, H.h18, H.h19, H.h20, H.h21, H.h22, H.h23, H.h24, H.h25, H.h26, H.below, H.t1, H.t3⟩⟩)
        · obtain rfl := H.h5 (by simp [hi])
          obtain rfl := H.h9 (by simp [hi])
          obtain rfl := H.h10 (by simp [hi])
          have HB0 := Lib.hid (H.below)
          have hcall := requal_tv (HA.out.ext HB0.out).at_ (HC.out.ext HB0.out).at_
          rw [HE.out] at hcall
          have HCALL := Lib.hid hcall
          clear hcall
          refine wpOp_hidden rfl fun K hK => ?_
          go_wp2_with (go_at_call 15; refine HCALL.out.mono ?_; intro e w9 hx; obtain ⟨rfl, hb9⟩ := hx; refine Hid.out ?_)
          refine Lib.hid ?_
          have HB9 := Lib.hid hb9
          clear hb9 HCALL
          go_wp2
          refine OnlyN.mk (hK.out _ _ ⟨_, _, _, _, _, _, _, _, _, _, _, true, _, _, _, _, _, _, _, _, _, _, _, _, _, _, _, _, _, _, _, _, _, _, _, _, _, _, .bool E, _, _, _, _, _, _, _, _, _, _, _, _, _, _, _, rfl, rfl, ⟨(H.world HB9.out).h0, (H.world HB9.out).h2, (H.world HB9.out).h4, (H.world HB9.out).h5, (H.world HB9.out).h6, (H.world HB9.out).h7, (H.world HB9.out).h8, (H.world HB9.out).h9, (H.world HB9.out).h10, fun _ => rfl, (H.world HB9.out).h12, (H.world HB9.out).h13, (H.world HB9.out).h14, (H.world HB9.out).h15, (H.world HB9.out).h16, (H.world HB9.out).h17, (H.world HB9.out).h18, (H.world HB9.out).h19, (H.world HB9.out).h20, (H.world HB9.out).h21, (H.world HB9.out).h22, (H.world HB9.out).h23, (H.world HB9.out).h24, (H.world HB9.out).h25, (H.world HB9.out).h26, (H.world HB9.out).below, (H.world HB9.out).t1, (H.world HB9.out).t3⟩⟩)
        · obtain rfl := H.h5 (by simp [hi])
          obtain rfl := H.h8 (by simp [hi])
          obtain rfl := H.h11 (by simp [hi])
          refine wpOp_hidden rfl fun K hK => ?_
          go_wp2
          refine OnlyN.mk (hK.out _ _ ⟨_, _, _, _, _, _, _, _, _, _, _, _, true, _, _, _, _, _, _, _, _, _, _, _, _, _, _, _, _, _, _, _, _, _, _, _, _, _, _, .bool true, _, _, _, _, _, _, _, _, _, _, _, _, _, _, rfl, rfl, ⟨H.h0, H.h2, H.h4, H.h5, H.h6, H.h7, H.h8, H.h9, H.h10, H.h11, fun _ => rfl, H.h13, H.h14, H.h15, H.h16, H.h17, H.h18, H.h19, H.h20, H.h21, H.h22, H.h23, H.h24, H.h25, H.h26, H.below, H.t1, H.t3⟩⟩)
        · obtain rfl := H.h5 (by simp [hi])
          obtain rfl := H.h12 (by simp [hi])
          refine wpOp_hidden rfl fun K hK => ?_
          go_wp2
          refine OnlyN.mk (hK.out _ _ ⟨_, _, _, _, _, _, _, _, _, _, _, _, _, true, _, _, _, _, _, _, _, _, _, _, _, _, _, _, _, _, _, _, _, _, _, _, _, _, _, _, .bool true, _, _, _, _, _, _, _, _, _, _, _, _, _, rfl, rfl, ⟨H.h0, H.h2, H.h4, H.h5, H.h6, H.h7, H.h8, H.h9, H.h10, H.h11, H.h12, fun _ => rfl, H.h14, H.h15, H.h16, H.h17, H.h18, H.h19, H.h20, H.h21, H.h22, H.h23, H.h24, H.h25, H.h26, H.below, H.t1, H.t3⟩⟩)
        · obtain rfl := H.h13 (by simp [hi])
          refine wpOp_hidden rfl fun K hK => ?_
          go_wp2
          refine OnlyN.mk (hK.out _ _ ⟨_, _, _, _, _, _, _, _, _, _, _, _, _, _, true, _, _, _, _, _, _, _, _, _, _, _, _, _, _, _, _, _, _, _, _, _, _, _, _, _, _, .bool true, _, _, _, _, _, _, _, _, _, _, _, _, rfl, rfl, ⟨H.h0, H.h2, H.h4, H.h5, H.h6, H.h7, H.h8, H.h9, H.h10, H.h11, H.h12, H.h13, fun _ => rfl, H.h15, H.h16, H.h17, H.h18, H.h19, H.h20, H.h21, H.h22, H.h23, H.h24, H.h25, H.h26, H.below, H.t1, H.t3⟩⟩)
        · obtain rfl := H.h14 (by simp [hi])
          obtain ⟨g0, g1, g2⟩ := (HA.out.ext H.below).cells
          refine wpOp_hidden rfl fun K hK => ?_
          go_wp2
          refine OnlyN.mk (hK.out _ _ ⟨_, _, _, _, _, _, _, _, _, _, _, _, _, _, _, true, _, _, _, _, _, _, _, _, _, _, _, _, _, _, _, _, _, _, _, _, _, _, _, _, _, _, .agg #[.int .i64 s1, .slice A1 n1 c1, .slice B1 m1 d1], _, _, _, _, _, _, _, _, _, _, _, rfl, rfl, ⟨H.h0, H.h2, H.h4, H.h5, H.h6, H.h7, H.h8, H.h9, H.h10, H.h11, H.h12, H.h13, H.h14, fun _ => rfl, H.h16, H.h17, H.h18, H.h19, H.h20, H.h21, H.h22, H.h23, H.h24, H.h25, H.h26, H.below, H.t1, H.t3⟩⟩)
        · obtain rfl := H.h14 (by simp [hi])
          refine wpOp_hidden rfl fun K hK => ?_
          go_wp2
          refine OnlyN.mk (hK.out _ _ ⟨_, _, _, _, _, _, _, _, _, _, _, _, _, _, _, _, true, _, _, _, _, _, _, _, _, _, _, _, _, _, _, _, _, _, _, _, _, _, _, _, _, _, _, .int .i64 k, _, _, _, _, _, _, _, _, _, _, rfl, rfl, ⟨H.h0, H.h2, H.h4, H.h5, H.h6, H.h7, H.h8, H.h9, H.h10, H.h11, H.h12, H.h13, H.h14, H.h15, fun _ => rfl, H.h17, H.h18, H.h19, H.h20, H.h21, H.h22, H.h23, H.h24, H.h25, H.h26, H.below, H.t1, H.t3⟩⟩)
        · obtain rfl := H.h14 (by simp [hi])
          obtain rfl := H.h15 (by simp [hi])
          obtain rfl := H.h16 (by simp [hi])
          have HB0 := Lib.hid (H.below)
          have hcall := uses_tv (k := k) (HA.out.ext HB0.out).at_ ((HTAB.out.on (HB.out.trans (HB0.out.mono HB.out.size))).up (HB.out.trans (HB0.out.mono HB.out.size)).size)
          rw [HU.out] at hcall
          have HCALL := Lib.hid hcall
          clear hcall
          refine wpOp_hidden rfl fun K hK => ?_
          go_wp2_with (go_at_call 16; refine HCALL.out.mono ?_; intro e w9 hx; obtain ⟨rfl, hb9⟩ := hx; refine Hid.out ?_)
          refine Lib.hid ?_
          have HB9 := Lib.hid hb9
          clear hb9 HCALL
          go_wp2
          refine OnlyN.mk (hK.out _ _ ⟨_, _, _, _, _, _, _, _, _, _, _, _, _, _, _, _, _, true, _, _, _, _, _, _, _, _, _, _, _, _, _, _, _, _, _, _, _, _, _, _, _, _, _, _, .bool U, _, _, _, _, _, _, _, _, _, rfl, rfl, ⟨(H.world HB9.out).h0, (H.world HB9.out).h2, (H.world HB9.out).h4, (H.world HB9.out).h5, (H.world HB9.out).h6, (H.world HB9.out).h7, (H.world HB9.out).h8, (H.world HB9.out).h9, (H.world HB9.out).h10, (H.world HB9.out).h11, (H.world HB9.out).h12, (H.world HB9.out).h13, (H.world HB9.out).h14, (H.world HB9.out).h15, (H.world HB9.out).h16, fun _ => rfl, (H.world HB9.out).h18, (H.world HB9.out).h19, (H.world HB9.out).h20, (H.world HB9.out).h21, (H.world HB9.out).h22, (H.world HB9.out).h23, (H.world HB9.out).h24, (H.world HB9.out).h25, (H.world HB9.out).h26, (H.world HB9.out).below, (H.world HB9.out).t1, (H.world HB9.out).t3⟩⟩)
        · obtain rfl := H.h14 (by simp [hi])
          obtain ⟨g0, g1, g2⟩ := (HA.out.ext H.below).cells
          refine wpOp_hidden rfl fun K hK => ?_
          go_wp2
          refine OnlyN.mk (hK.out _ _ ⟨_, _, _, _, _, _, _, _, _, _, _, _, _, _, _, _, _, _, true, _, _, _, _, _, _, _, _, _, _, _, _, _, _, _, _, _, _, _, _, _, _, _, _, _, _, .agg #[.int .i64 s1, .slice A1 n1 c1, .slice B1 m1 d1], _, _, _, _, _, _, _, _, rfl, rfl, ⟨H.h0, H.h2, H.h4, H.h5, H.h6, H.h7, H.h8, H.h9, H.h10, H.h11, H.h12, H.h13, H.h14, H.h15, H.h16, H.h17, fun _ => rfl, H.h19, H.h20, H.h21, H.h22, H.h23, H.h24, H.h25, H.h26, H.below, H.t1, H.t3⟩⟩)
        · obtain rfl := H.h14 (by simp [hi])
          refine wpOp_hidden rfl fun K hK => ?_
          go_wp2
          refine OnlyN.mk (hK.out _ _ ⟨_, _, _, _, _, _, _, _, _, _, _, _, _, _, _, _, _, _, _, true, _, _, _, _, _, _, _, _, _, _, _, _, _, _, _, _, _, _, _, _, _, _, _, _, _, _, .int .i64 k, _, _, _, _, _, _, _, rfl, rfl, ⟨H.h0, H.h2, H.h4, H.h5, H.h6, H.h7, H.h8, H.h9, H.h10, H.h11, H.h12, H.h13, H.h14, H.h15, H.h16, H.h17, H.h18, fun _ => rfl, H.h20, H.h21, H.h22, H.h23, H.h24, H.h25, H.h26, H.below, H.t1, H.t3⟩⟩)
        · obtain rfl := H.h14 (by simp [hi])
          obtain rfl := H.h18 (by simp [hi])
          obtain rfl := H.h19 (by simp [hi])
          have HB0 := Lib.hid (H.below)
          have hcall := ruses_tv (k := k) (HA.out.ext HB0.out).at_ HK.out
          rw [HU.out] at hcall
          have HCALL := Lib.hid hcall
          clear hcall
          refine wpOp_hidden rfl fun K hK => ?_
          go_wp2_with (go_at_call 17; refine HCALL.out.mono ?_; intro e w9 hx; obtain ⟨rfl, hb9⟩ := hx; refine Hid.out ?_)
          refine Lib.hid ?_
          have HB9 := Lib.hid hb9
          clear hb9 HCALL
          go_wp2
          refine OnlyN.mk (hK.out _ _ ⟨_, _, _, _, _, _, _, _, _, _, _, _, _, _, _, _, _, _, _, _, true, _, _, _, _, _, _, _, _, _, _, _, _, _, _, _, _, _, _, _, _, _, _, _, _, _, _, .bool U, _, _, _, _, _, _, rfl, rfl, ⟨(H.world HB9.out).h0, (H.world HB9.out).h2, (H.world HB9.out).h4, (H.world HB9.out).h5, (H.world HB9.out).h6, (H.world HB9.out).h7, (H.world HB9.out).h8, (H.world HB9.out).h9, (H.world HB9.out).h10, (H.world HB9.out).h11, (H.world HB9.out).h12, (H.world HB9.out).h13, (H.world HB9.out).h14, (H.world HB9.out).h15, (H.world HB9.out).h16, (H.world HB9.out).h17, (H.world HB9.out).h18, (H.world HB9.out).h19, fun _ => rfl, (H.world HB9.out).h21, (H.world HB9.out).h22, (H.world HB9.out).h23, (H.world HB9.out).h24, (H.world HB9.out).h25, (H.world HB9.out).h26, (H.world HB9.out).below, (H.world HB9.out).t1, (H.world HB9.out).t3⟩⟩)
        · obtain rfl := H.h14 (by simp [hi])
          obtain rfl := H.h17 (by simp [hi])
          obtain rfl := H.h20 (by simp [hi])
          refine wpOp_hidden rfl fun K hK => ?_
          go_wp2
          refine OnlyN.mk (hK.out _ _ ⟨_, _, _, _, _, _, _, _, _, _, _, _, _, _, _, _, _, _, _, _, _, true, _, _, _, _, _, _, _, _, _, _, _, _, _, _, _, _, _, _, _, _, _, _, _, _, _, _, .bool true, _, _, _, _, _, rfl, rfl, ⟨H.h0, H.h2, H.h4, H.h5, H.h6, H.h7, H.h8, H.h9, H.h10, H.h11, H.h12, H.h13, H.h14, H.h15, H.h16, H.h17, H.h18, H.h19, H.h20, fun _ => rfl, H.h22, H.h23, H.h24, H.h25, H.h26, H.below, H.t1, H.t3⟩⟩)
        · obtain rfl := H.h14 (by simp [hi])
          obtain rfl := H.h21 (by simp [hi])
          refine wpOp_hidden rfl fun K hK => ?_
          go_wp2
          refine OnlyN.mk (hK.out _ _ ⟨_, _, _, _, _, _, _, _, _, _, _, _, _, _, _, _, _, _, _, _, _, _, true, _, _, _, _, _, _, _, _, _, _, _, _, _, _, _, _, _, _, _, _, _, _, _, _, _, _, .bool true, _, _, _, _, rfl, rfl, ⟨H.h0, H.h2, H.h4, H.h5, H.h6, H.h7, H.h8, H.h9, H.h10, H.h11, H.h12, H.h13, H.h14, H.h15, H.h16, H.h17, H.h18, H.h19, H.h20, H.h21, fun _ => rfl, H.h23, H.h24, H.h25, H.h26, H.below, H.t1, H.t3⟩⟩)
        · obtain rfl := H.h22 (by simp [hi])
          refine wpOp_hidden rfl fun K hK => ?_
          go_wp2
          refine OnlyN.mk (hK.out _ _ ⟨_, _, _, _, _, _, _, _, _, _, _, _, _, _, _, _, _, _, _, _, _, _, _, true, _, _, _, _, _, _, _, _, _, _, _, _, _, _, _, _, _, _, _, _, _, _, _, _, _, _, .bool true, _, _, _, rfl, rfl, ⟨H.h0, H.h2, H.h4, H.h5, H.h6, H.h7, H.h8, H.h9, H.h10, H.h11, H.h12, H.h13, H.h14, H.h15, H.h16, H.h17, H.h18, H.h19, H.h20, H.h21, H.h22, fun _ => rfl, H.h24, H.h25, H.h26, H.below, H.t1, H.t3⟩⟩)
        · obtain rfl := H.h23 (by simp [hi])
          have HB0 := Lib.hid (H.below)
          have hcall := awake_any w' ((HTAB.out.on (HB.out.trans (HB0.out.mono HB.out.size))).up (HB.out.trans (HB0.out.mono HB.out.size)).size) (HGM.out.ext (HB.out.trans (HB0.out.mono HB.out.size)))
          have HCALL := Lib.hid hcall
          clear hcall
          refine wpOp_hidden rfl fun K hK => ?_
          go_wp2_with (go_at_call 10; refine HCALL.out.mono ?_; intro e w9 hx; obtain ⟨rfl, hb9⟩ := hx; refine Hid.out ?_)
          refine Lib.hid ?_
          have HB9 := Lib.hid hb9
          clear hb9 HCALL
          go_wp2
          refine OnlyN.mk (hK.out _ _ ⟨_, _, _, _, _, _, _, _, _, _, _, _, _, _, _, _, _, _, _, _, _, _, _, _, true, _, _, _, _, _, _, _, _, _, _, _, _, _, _, _, _, _, _, _, _, _, _, _, _, _, _, .bool true, _, _, rfl, rfl, ⟨(H.world HB9.out).h0, (H.world HB9.out).h2, (H.world HB9.out).h4, (H.world HB9.out).h5, (H.world HB9.out).h6, (H.world HB9.out).h7, (H.world HB9.out).h8, (H.world HB9.out).h9, (H.world HB9.out).h10, (H.world HB9.out).h11, (H.world HB9.out).h12, (H.world HB9.out).h13, (H.world HB9.out).h14, (H.world HB9.out).h15, (H.world HB9.out).h16, (H.world HB9.out).h17, (H.world HB9.out).h18, (H.world HB9.out).h19, (H.world HB9.out).h20, (H.world HB9.out).h21, (H.world HB9.out).h22, (H.world HB9.out).h23, fun _ => rfl, (H.world HB9.out).h25, (H.world HB9.out).h26, (H.world HB9.out).below, (H.world HB9.out).t1, (H.world HB9.out).t3⟩⟩)
        · obtain rfl := H.h23 (by simp [hi])
          obtain rfl := H.h24 (by simp [hi])
          refine wpOp_hidden rfl fun K hK => ?_
          go_wp2
          refine OnlyN.mk (hK.out _ _ ⟨_, _, _, _, _, _, _, _, _, _, _, _, _, _, _, _, _, _, _, _, _, _, _, _, _, true, _, _, _, _, _, _, _, _, _, _, _, _, _, _, _, _, _, _, _, _, _, _, _, _, _, _, .bool true, _, rfl, rfl, ⟨H.h0, H.h2, H.h4, H.h5, H.h6, H.h7, H.h8, H.h9, H.h10, H.h11, H.h12, H.h13, H.h14, H.h15, H.h16, H.h17, H.h18, H.h19, H.h20, H.h21, H.h22, H.h23, H.h24, fun _ => rfl, H.h26, H.below, H.t1, H.t3⟩⟩)
        · obtain rfl := H.h25 (by simp [hi])
          refine wpOp_hidden rfl fun K hK => ?_
          go_wp2
          refine OnlyN.mk (hK.out _ _ ⟨_, _, _, _, _, _, _, _, _, _, _, _, _, _, _, _, _, _, _, _, _, _, _, _, _, _, true, _, _, _, _, _, _, _, _, _, _, _, _, _, _, _, _, _, _, _, _, _, _, _, _, _, _, .bool true, rfl, rfl, ⟨H.h0, H.h2, H.h4, H.h5, H.h6, H.h7, H.h8, H.h9, H.h10, H.h11, H.h12, H.h13, H.h14, H.h15, H.h16, H.h17, H.h18, H.h19, H.h20, H.h21, H.h22, H.h23, H.h24, H.h25, fun _ => rfl, H.below, H.t1, H.t3⟩⟩)
      · rintro listed act w' hr ⟨b0, b1, b2, b3, b4, b5, b6, b7, b8, b9, b10, b11, b12, b13, b14, b15, b16, b17, b18, b19, b20, b21, b22, b23, b24, b25, b26, v16, v17, v18, v19, v20, v21, v22, v23, v24, v25, v26, v27, v28, v29, v30, v31, v32, v33, v34, v35, v36, v37, v38, v39, v40, v41, v6, rfl, rfl, H⟩
        have hn := List.eq_nil_iff_forall_not_mem.1 hr
        have r0 := hn 0
        simp [mem_ready, Region.binds] at r0
        subst r0
        have r1 := hn 1
        simp [mem_ready, Region.binds] at r1
        subst r1
        have r2 := hn 2
        simp [mem_ready, Region.binds] at r2
        subst r2
        have r3 := hn 3
        simp [mem_ready, Region.binds] at r3
        subst r3
        have r4 := hn 4
        simp [mem_ready, Region.binds] at r4
        subst r4
        have r5 := hn 5
        simp [mem_ready, Region.binds] at r5
        subst r5
        have r6 := hn 6
        simp [mem_ready, Region.binds] at r6
        subst r6
        have r7 := hn 7
        simp [mem_ready, Region.binds] at r7
        subst r7
        have r8 := hn 8
        simp [mem_ready, Region.binds] at r8
        subst r8
        have r9 := hn 9
        simp [mem_ready, Region.binds] at r9
        subst r9
        have r10 := hn 10
        simp [mem_ready, Region.binds] at r10
        subst r10
        have r11 := hn 11
        simp [mem_ready, Region.binds] at r11
        subst r11
        have r12 := hn 12
        simp [mem_ready, Region.binds] at r12
        subst r12
        have r13 := hn 13
        simp [mem_ready, Region.binds] at r13
        subst r13
        have r14 := hn 14
        simp [mem_ready, Region.binds] at r14
        subst r14
        have r15 := hn 15
        simp [mem_ready, Region.binds] at r15
        subst r15
        have r16 := hn 16
        simp [mem_ready, Region.binds] at r16
        subst r16
        have r17 := hn 17
        simp [mem_ready, Region.binds] at r17
        subst r17
        have r18 := hn 18
        simp [mem_ready, Region.binds] at r18
        subst r18
        have r19 := hn 19
        simp [mem_ready, Region.binds] at r19
        subst r19
        have r20 := hn 20
        simp [mem_ready, Region.binds] at r20
        subst r20
        have r21 := hn 21
        simp [mem_ready, Region.binds] at r21
        subst r21
        have r22 := hn 22
        simp [mem_ready, Region.binds] at r22
        subst r22
        have r23 := hn 23
        simp [mem_ready, Region.binds] at r23
        subst r23
        have r24 := hn 24
        simp [mem_ready, Region.binds] at r24
        subst r24
        have r25 := hn 25
        simp [mem_ready, Region.binds] at r25
        subst r25
        have r26 := hn 26
        simp [mem_ready, Region.binds] at r26
        subst r26
        try dsimp only
        obtain rfl := H.h26 rfl
        have HBF := Lib.hid (HB.out.trans (H.below.mono HB.out.size))
        clear H hr hn
        go_wp2
        go_ret
        exact ⟨rfl, HBF.out⟩
end Go.Proofs.YtojnnfihpiegoaaDoor
