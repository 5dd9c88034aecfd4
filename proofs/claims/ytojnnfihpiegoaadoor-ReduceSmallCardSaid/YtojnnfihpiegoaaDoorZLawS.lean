/-
  cellularlaw13.ReduceSmall: the walk. No condition but that the library's table and the matrices are there.
-/
import Derived.Test.YtojnnfihpiegoaaDoorZSmallP
namespace Go.Proofs.YtojnnfihpiegoaaDoor
open Go.RowKit Go.Maps
set_option maxRecDepth 100000
set_option linter.unusedVariables false
set_option linter.unusedSimpArgs false
structure LsJ (W : World) (agA : Value) (agB : Value) (agX : Value) (pA : Nat) (pC : Nat) (pX : Nat) (BA : Option Addr) (BC : Option Addr) (BX : Option Addr) (mA : Nat) (dA : Nat) (mC : Nat) (dC : Nat) (mX : Nat) (dX : Nat) (a : PT) (b : PT) (b0 b1 b2 b3 b4 b5 b6 b7 b8 b9 b10 b11 b12 b13 b14 b15 b16 b17 b18 b19 b20 b21 b22 b23 b24 : Bool) (v22 v23 v24 v25 v26 v27 v28 v29 v30 v31 v32 v33 v34 v35 v36 v37 v38 v39 v40 v41 v42 v43 v44 v45 v46 : Value) (w : World) : Prop where
  h0 : b0 = true → v22 = agX
  h1 : b1 = true → v23 = .bool true
  h2 : b2 = true → v24 = .bool false
  h3 : b3 = true → v25 = .bool false
  h4 : b4 = true → v26 = agX
  h6 : b6 = true → v28 = agX
  h7 : b7 = true → v29 = .bool true
  h8 : b8 = true → v30 = .bool false
  h9 : b9 = true → v31 = .bool false
  h10 : b10 = true → v32 = .bool false
  h11 : b11 = true → v33 = agA
  h12 : b12 = true → v34 = agX
  h13 : b13 = true → v35 = .bool true
  h14 : b14 = true → v36 = .bool false
  h15 : b15 = true → v37 = .bool false
  h16 : b16 = true → v38 = .bool false
  h17 : b17 = true → v39 = .pointer (some ⟨pX, 2, none⟩)
  h18 : b18 = true → v40 = .slice BX mX dX
  h19 : b19 = true → v41 = .int .i64 mX
  h20 : b20 = true → v42 = .pointer (some ⟨pA, 2, none⟩)
  h21 : b21 = true → v43 = .slice BA mA dA
  h22 : b22 = true → v44 = .int .i64 mA
  h23 : b23 = true → v45 = .bool false
  h24 : b24 = true → v46 = .bool false
  below : Below W.heap.size W w
  t5 : b5 = true → TreeAt w v27 (redT a)
section
variable {W : World} {agA : Value} {agB : Value} {agX : Value} {pA : Nat} {pC : Nat} {pX : Nat} {BA : Option Addr} {BC : Option Addr} {BX : Option Addr} {mA : Nat} {dA : Nat} {mC : Nat} {dC : Nat} {mX : Nat} {dX : Nat} {a : PT} {b : PT} {b0 b1 b2 b3 b4 b5 b6 b7 b8 b9 b10 b11 b12 b13 b14 b15 b16 b17 b18 b19 b20 b21 b22 b23 b24 : Bool} {v22 v23 v24 v25 v26 v27 v28 v29 v30 v31 v32 v33 v34 v35 v36 v37 v38 v39 v40 v41 v42 v43 v44 v45 v46 : Value} {w w' : World}
theorem LsJ.world (H : LsJ W agA agB agX pA pC pX BA BC BX mA dA mC dC mX dX a b b0 b1 b2 b3 b4 b5 b6 b7 b8 b9 b10 b11 b12 b13 b14 b15 b16 b17 b18 b19 b20 b21 b22 b23 b24 v22 v23 v24 v25 v26 v27 v28 v29 v30 v31 v32 v33 v34 v35 v36 v37 v38 v39 v40 v41 v42 v43 v44 v45 v46 w) (hb : Below w.heap.size w w') : LsJ W agA agB agX pA pC pX BA BC BX mA dA mC dC mX dX a b b0 b1 b2 b3 b4 b5 b6 b7 b8 b9 b10 b11 b12 b13 b14 b15 b16 b17 b18 b19 b20 b21 b22 b23 b24 v22 v23 v24 v25 v26 v27 v28 v29 v30 v31 v32 v33 v34 v35 v36 v37 v38 v39 v40 v41 v42 v43 v44 v45 v46 w' :=
  ⟨H.h0, H.h1, H.h2, H.h3, H.h4, H.h6, H.h7, H.h8, H.h9, H.h10, H.h11, H.h12, H.h13, H.h14, H.h15, H.h16, H.h17, H.h18, H.h19, H.h20, H.h21, H.h22, H.h23, H.h24, H.below.trans (hb.mono H.below.size), fun h => (H.t5 h).ext hb⟩
end
structure LsN (W : World) (agA : Value) (agB : Value) (agX : Value) (pA : Nat) (pC : Nat) (pX : Nat) (BA : Option Addr) (BC : Option Addr) (BX : Option Addr) (mA : Nat) (dA : Nat) (mC : Nat) (dC : Nat) (mX : Nat) (dX : Nat) (a : PT) (b : PT) (b0 b1 b2 b3 b4 b5 b6 b7 b8 b9 b10 b11 b12 b13 b14 b15 b16 b17 b18 : Bool) (v47 v48 v49 v50 v65 : Value) (w : World) : Prop where
  h0 : b0 = true → v47 = agA
  h1 : b1 = true → v48 = agB
  h2 : b2 = true → v49 = .bool false
  h3 : b3 = true → v50 = .bool false
  h18 : b18 = true → v65 = .bool false
  below : Below W.heap.size W w
section
variable {W : World} {agA : Value} {agB : Value} {agX : Value} {pA : Nat} {pC : Nat} {pX : Nat} {BA : Option Addr} {BC : Option Addr} {BX : Option Addr} {mA : Nat} {dA : Nat} {mC : Nat} {dC : Nat} {mX : Nat} {dX : Nat} {a : PT} {b : PT} {b0 b1 b2 b3 b4 b5 b6 b7 b8 b9 b10 b11 b12 b13 b14 b15 b16 b17 b18 : Bool} {v47 v48 v49 v50 v65 : Value} {w w' : World}
theorem LsN.world (H : LsN W agA agB agX pA pC pX BA BC BX mA dA mC dC mX dX a b b0 b1 b2 b3 b4 b5 b6 b7 b8 b9 b10 b11 b12 b13 b14 b15 b16 b17 b18 v47 v48 v49 v50 v65 w) (hb : Below w.heap.size w w') : LsN W agA agB agX pA pC pX BA BC BX mA dA mC dC mX dX a b b0 b1 b2 b3 b4 b5 b6 b7 b8 b9 b10 b11 b12 b13 b14 b15 b16 b17 b18 v47 v48 v49 v50 v65 w' :=
  ⟨H.h0, H.h1, H.h2, H.h3, H.h18, H.below.trans (hb.mono H.below.size)⟩
end
structure LsK (W : World) (agA : Value) (agB : Value) (agX : Value) (pA : Nat) (pC : Nat) (pX : Nat) (BA : Option Addr) (BC : Option Addr) (BX : Option Addr) (mA : Nat) (dA : Nat) (mC : Nat) (dC : Nat) (mX : Nat) (dX : Nat) (a : PT) (b : PT) (b0 b1 b2 b3 b4 b5 b6 b7 b8 b9 b10 b11 b12 b13 b14 b15 b16 b17 b18 : Bool) (v47 v48 v49 v50 v51 v52 v53 v54 v55 v56 v57 v58 v59 v60 v61 v62 v63 v64 v65 : Value) (w : World) : Prop where
  h0 : b0 = true → v47 = agA
  h1 : b1 = true → v48 = agB
  h2 : b2 = true → v49 = .bool true
  h3 : b3 = true → v50 = .bool true
  h4 : b4 = true → v51 = .pointer (some ⟨pC, 2, none⟩)
  h5 : b5 = true → v52 = .slice BC mC dC
  h6 : b6 = true → v53 = .int .i64 mC
  h7 : b7 = true → v54 = .pointer (some ⟨pX, 2, none⟩)
  h8 : b8 = true → v55 = .slice BX mX dX
  h9 : b9 = true → v56 = .int .i64 mX
  h10 : b10 = true → v57 = .bool false
  h11 : b11 = true → v58 = .bool false
  h12 : b12 = true → v59 = agB
  h14 : b14 = true → v61 = agX
  h15 : b15 = true → v62 = .bool true
  h16 : b16 = true → v63 = .bool false
  h17 : b17 = true → v64 = .bool false
  h18 : b18 = true → v65 = .bool false
  below : Below W.heap.size W w
  t13 : b13 = true → TreeAt w v60 (redT a)
section
variable {W : World} {agA : Value} {agB : Value} {agX : Value} {pA : Nat} {pC : Nat} {pX : Nat} {BA : Option Addr} {BC : Option Addr} {BX : Option Addr} {mA : Nat} {dA : Nat} {mC : Nat} {dC : Nat} {mX : Nat} {dX : Nat} {a : PT} {b : PT} {b0 b1 b2 b3 b4 b5 b6 b7 b8 b9 b10 b11 b12 b13 b14 b15 b16 b17 b18 : Bool} {v47 v48 v49 v50 v51 v52 v53 v54 v55 v56 v57 v58 v59 v60 v61 v62 v63 v64 v65 : Value} {w w' : World}
theorem LsK.world (H : LsK W agA agB agX pA pC pX BA BC BX mA dA mC dC mX dX a b b0 b1 b2 b3 b4 b5 b6 b7 b8 b9 b10 b11 b12 b13 b14 b15 b16 b17 b18 v47 v48 v49 v50 v51 v52 v53 v54 v55 v56 v57 v58 v59 v60 v61 v62 v63 v64 v65 w) (hb : Below w.heap.size w w') : LsK W agA agB agX pA pC pX BA BC BX mA dA mC dC mX dX a b b0 b1 b2 b3 b4 b5 b6 b7 b8 b9 b10 b11 b12 b13 b14 b15 b16 b17 b18 v47 v48 v49 v50 v51 v52 v53 v54 v55 v56 v57 v58 v59 v60 v61 v62 v63 v64 v65 w' :=
  ⟨H.h0, H.h1, H.h2, H.h3, H.h4, H.h5, H.h6, H.h7, H.h8, H.h9, H.h10, H.h11, H.h12, H.h14, H.h15, H.h16, H.h17, H.h18, H.below.trans (hb.mono H.below.size), fun h => (H.t13 h).ext hb⟩
end
set_option maxHeartbeats 16000000 in
theorem lawS_any (a b : PT) (s1 : Int) (A1 : Option Addr) (n1 c1 : Nat) (B1 : Option Addr) (m1 d1 : Nat) (s2 : Int) (A2 : Option Addr) (n2 c2 : Nat) (B2 : Option Addr) (m2 d2 : Nat) (w : World)
    (ha : TreeAt w (.agg #[.int .i64 s1, .slice A1 n1 c1, .slice B1 m1 d1]) a) (hb : TreeAt w (.agg #[.int .i64 s2, .slice A2 n2 c2, .slice B2 m2 d2]) b) (ht : TabB w.heap.size w) (hg : GMat w) :
    Calls Tryd.prog 7 #[.agg #[.int .i64 s1, .slice A1 n1 c1, .slice B1 m1 d1], .agg #[.int .i64 s2, .slice A2 n2 c2, .slice B2 m2 d2]] w fun e w' => e = .returned (.bool true) ∧ Below w.heap.size w w' := by
  obtain ⟨v1, h1⟩ : ∃ v1, v1 = w.alloc (.cells #[.int .i64 s1, .slice A1 n1 c1, .slice B1 m1 d1] 25) := ⟨_, rfl⟩
  obtain ⟨w0, h2⟩ : ∃ w0, w0 = v1.alloc (.cells #[.int .i64 s2, .slice A2 n2 c2, .slice B2 m2 d2] 25) := ⟨_, rfl⟩
  have b1 : Below w.heap.size w v1 := by rw [h1]; exact below_new _ _
  have b2 : Below v1.heap.size v1 w0 := by rw [h2]; exact below_new _ _
  have z1 : v1.heap.size = w.heap.size + 1 := by rw [h1]; simp
  have hv1 := TrV.new ha
  rw [← h1] at hv1
  have hv2 := TrV.new (hb.ext b1)
  rw [← h2, z1] at hv2
  have HM1 := Lib.hid ha.len_
  have HM2 := Lib.hid hb.len_
  have HA := Lib.hid (hv1.ext b2)
  have HC := Lib.hid hv2
  have HB := Lib.hid (b1.trans (b2.mono b1.size))
  rw [h1] at h2
  have HW0 := Lib.hid h2
  have HTAB := Lib.hid ht
  have HGM := Lib.hid hg
  clear ha hb ht hg h1 b1 b2 z1 hv1 hv2 h2
  cases hsA : smallB a 300 with
  | false =>
    obtain ⟨cA0, cA1, cA2⟩ := HA.out.cells
    obtain ⟨cC0, cC1, cC2⟩ := HC.out.cells
    go_enter Tryd.func7, Tryd.ntmps7
    go_upto_region 1 with fail
    rw [← HW0.out]
    have hcall := small_tv (n := 300) HA.out.at_
    rw [hsA] at hcall
    have HCALL := Lib.hid hcall
    clear hcall
    go_wp2_with (go_at_call 9; refine HCALL.out.mono ?_; intro e x1 hx; obtain ⟨rfl, hb⟩ := hx; refine Hid.out ?_)
    refine Lib.hid ?_
    have HBx := Lib.hid (HB.out.trans (hb.mono HB.out.size))
    clear HB
    have HB := HBx
    clear HBx
    have Hx := Lib.hid (HA.out.ext hb)
    clear HA
    have HA := Hx
    clear Hx
    have Hx := Lib.hid (HC.out.ext hb)
    clear HC
    have HC := Hx
    clear Hx
    clear hb HCALL
    clear cA0 cA1 cA2 cC0 cC1 cC2
    clear hsA
    have hcall := awake_any _ ((HTAB.out.on HB.out).up HB.out.size) (HGM.out.ext HB.out)
    have HCALL := Lib.hid hcall
    clear hcall
    go_wp2_with (go_at_call 10; refine HCALL.out.mono ?_; intro e x2 hx; obtain ⟨rfl, hb⟩ := hx; refine Hid.out ?_)
    refine Lib.hid ?_
    have HBx := Lib.hid (HB.out.trans (hb.mono HB.out.size))
    clear HB
    have HB := HBx
    clear HBx
    have Hx := Lib.hid (HA.out.ext hb)
    clear HA
    have HA := Hx
    clear Hx
    have Hx := Lib.hid (HC.out.ext hb)
    clear HC
    have HC := Hx
    clear Hx
    clear hb HCALL
    go_wp2
    go_ret
    exact ⟨rfl, HB.out⟩
  | true =>
    cases hsC : smallB b 300 with
    | false =>
      obtain ⟨cA0, cA1, cA2⟩ := HA.out.cells
      obtain ⟨cC0, cC1, cC2⟩ := HC.out.cells
      go_enter Tryd.func7, Tryd.ntmps7
      go_upto_region 1 with fail
      rw [← HW0.out]
      have hcall := small_tv (n := 300) HA.out.at_
      rw [hsA] at hcall
      have HCALL := Lib.hid hcall
      clear hcall
      go_wp2_with (go_at_call 9; refine HCALL.out.mono ?_; intro e x1 hx; obtain ⟨rfl, hb⟩ := hx; refine Hid.out ?_)
      refine Lib.hid ?_
      have HBx := Lib.hid (HB.out.trans (hb.mono HB.out.size))
      clear HB
      have HB := HBx
      clear HBx
      have Hx := Lib.hid (HA.out.ext hb)
      clear HA
      have HA := Hx
      clear Hx
      have Hx := Lib.hid (HC.out.ext hb)
      clear HC
      have HC := Hx
      clear Hx
      clear hb HCALL
      clear cA0 cA1 cA2 cC0 cC1 cC2
      obtain ⟨cA0, cA1, cA2⟩ := HA.out.cells
      obtain ⟨cC0, cC1, cC2⟩ := HC.out.cells
      have hcall := small_tv (n := 300) HC.out.at_
      rw [hsC] at hcall
      have HCALL := Lib.hid hcall
      clear hcall
      go_wp2_with (go_at_call 9; refine HCALL.out.mono ?_; intro e x2 hx; obtain ⟨rfl, hb⟩ := hx; refine Hid.out ?_)
      refine Lib.hid ?_
      have HBx := Lib.hid (HB.out.trans (hb.mono HB.out.size))
      clear HB
      have HB := HBx
      clear HBx
      have Hx := Lib.hid (HA.out.ext hb)
      clear HA
      have HA := Hx
      clear Hx
      have Hx := Lib.hid (HC.out.ext hb)
      clear HC
      have HC := Hx
      clear Hx
      clear hb HCALL
      clear cA0 cA1 cA2 cC0 cC1 cC2
      clear hsA hsC
      have hcall := awake_any _ ((HTAB.out.on HB.out).up HB.out.size) (HGM.out.ext HB.out)
      have HCALL := Lib.hid hcall
      clear hcall
      go_wp2_with (go_at_call 10; refine HCALL.out.mono ?_; intro e x3 hx; obtain ⟨rfl, hb⟩ := hx; refine Hid.out ?_)
      refine Lib.hid ?_
      have HBx := Lib.hid (HB.out.trans (hb.mono HB.out.size))
      clear HB
      have HB := HBx
      clear HBx
      have Hx := Lib.hid (HA.out.ext hb)
      clear HA
      have HA := Hx
      clear Hx
      have Hx := Lib.hid (HC.out.ext hb)
      clear HC
      have HC := Hx
      clear Hx
      clear hb HCALL
      go_wp2
      go_ret
      exact ⟨rfl, HB.out⟩
    | true =>
      cases hrA : a.right with
      | false =>
        obtain ⟨cA0, cA1, cA2⟩ := HA.out.cells
        obtain ⟨cC0, cC1, cC2⟩ := HC.out.cells
        go_enter Tryd.func7, Tryd.ntmps7
        go_upto_region 1 with fail
        rw [← HW0.out]
        have hcall := small_tv (n := 300) HA.out.at_
        rw [hsA] at hcall
        have HCALL := Lib.hid hcall
        clear hcall
        go_wp2_with (go_at_call 9; refine HCALL.out.mono ?_; intro e x1 hx; obtain ⟨rfl, hb⟩ := hx; refine Hid.out ?_)
        refine Lib.hid ?_
        have HBx := Lib.hid (HB.out.trans (hb.mono HB.out.size))
        clear HB
        have HB := HBx
        clear HBx
        have Hx := Lib.hid (HA.out.ext hb)
        clear HA
        have HA := Hx
        clear Hx
        have Hx := Lib.hid (HC.out.ext hb)
        clear HC
        have HC := Hx
        clear Hx
        clear hb HCALL
        clear cA0 cA1 cA2 cC0 cC1 cC2
        obtain ⟨cA0, cA1, cA2⟩ := HA.out.cells
        obtain ⟨cC0, cC1, cC2⟩ := HC.out.cells
        have hcall := small_tv (n := 300) HC.out.at_
        rw [hsC] at hcall
        have HCALL := Lib.hid hcall
        clear hcall
        go_wp2_with (go_at_call 9; refine HCALL.out.mono ?_; intro e x2 hx; obtain ⟨rfl, hb⟩ := hx; refine Hid.out ?_)
        refine Lib.hid ?_
        have HBx := Lib.hid (HB.out.trans (hb.mono HB.out.size))
        clear HB
        have HB := HBx
        clear HBx
        have Hx := Lib.hid (HA.out.ext hb)
        clear HA
        have HA := Hx
        clear Hx
        have Hx := Lib.hid (HC.out.ext hb)
        clear HC
        have HC := Hx
        clear Hx
        clear hb HCALL
        clear cA0 cA1 cA2 cC0 cC1 cC2
        obtain ⟨cA0, cA1, cA2⟩ := HA.out.cells
        obtain ⟨cC0, cC1, cC2⟩ := HC.out.cells
        have hcall := rright_tv HA.out.at_
        rw [hrA] at hcall
        have HCALL := Lib.hid hcall
        clear hcall
        go_wp2_with (go_at_call 26; refine HCALL.out.mono ?_; intro e x3 hx; obtain ⟨rfl, hb⟩ := hx; refine Hid.out ?_)
        refine Lib.hid ?_
        have HBx := Lib.hid (HB.out.trans (hb.mono HB.out.size))
        clear HB
        have HB := HBx
        clear HBx
        have Hx := Lib.hid (HA.out.ext hb)
        clear HA
        have HA := Hx
        clear Hx
        have Hx := Lib.hid (HC.out.ext hb)
        clear HC
        have HC := Hx
        clear Hx
        clear hb HCALL
        clear cA0 cA1 cA2 cC0 cC1 cC2
        clear hsA hsC hrA
        have hcall := awake_any _ ((HTAB.out.on HB.out).up HB.out.size) (HGM.out.ext HB.out)
        have HCALL := Lib.hid hcall
        clear hcall
        go_wp2_with (go_at_call 10; refine HCALL.out.mono ?_; intro e x4 hx; obtain ⟨rfl, hb⟩ := hx; refine Hid.out ?_)
        refine Lib.hid ?_
        have HBx := Lib.hid (HB.out.trans (hb.mono HB.out.size))
        clear HB
        have HB := HBx
        clear HBx
        have Hx := Lib.hid (HA.out.ext hb)
        clear HA
        have HA := Hx
        clear Hx
        have Hx := Lib.hid (HC.out.ext hb)
        clear HC
        have HC := Hx
        clear Hx
        clear hb HCALL
        go_wp2
        go_ret
        exact ⟨rfl, HB.out⟩
      | true =>
        have HRA := Lib.hid hrA
        obtain ⟨cA0, cA1, cA2⟩ := HA.out.cells
        obtain ⟨cC0, cC1, cC2⟩ := HC.out.cells
        go_enter Tryd.func7, Tryd.ntmps7
        go_upto_region 1 with fail
        rw [← HW0.out]
        have hcall := small_tv (n := 300) HA.out.at_
        rw [hsA] at hcall
        have HCALL := Lib.hid hcall
        clear hcall
        go_wp2_with (go_at_call 9; refine HCALL.out.mono ?_; intro e x1 hx; obtain ⟨rfl, hb⟩ := hx; refine Hid.out ?_)
        refine Lib.hid ?_
        have HBx := Lib.hid (HB.out.trans (hb.mono HB.out.size))
        clear HB
        have HB := HBx
        clear HBx
        have Hx := Lib.hid (HA.out.ext hb)
        clear HA
        have HA := Hx
        clear Hx
        have Hx := Lib.hid (HC.out.ext hb)
        clear HC
        have HC := Hx
        clear Hx
        clear hb HCALL
        clear cA0 cA1 cA2 cC0 cC1 cC2
        obtain ⟨cA0, cA1, cA2⟩ := HA.out.cells
        obtain ⟨cC0, cC1, cC2⟩ := HC.out.cells
        have hcall := small_tv (n := 300) HC.out.at_
        rw [hsC] at hcall
        have HCALL := Lib.hid hcall
        clear hcall
        go_wp2_with (go_at_call 9; refine HCALL.out.mono ?_; intro e x2 hx; obtain ⟨rfl, hb⟩ := hx; refine Hid.out ?_)
        refine Lib.hid ?_
        have HBx := Lib.hid (HB.out.trans (hb.mono HB.out.size))
        clear HB
        have HB := HBx
        clear HBx
        have Hx := Lib.hid (HA.out.ext hb)
        clear HA
        have HA := Hx
        clear Hx
        have Hx := Lib.hid (HC.out.ext hb)
        clear HC
        have HC := Hx
        clear Hx
        clear hb HCALL
        clear cA0 cA1 cA2 cC0 cC1 cC2
        obtain ⟨cA0, cA1, cA2⟩ := HA.out.cells
        obtain ⟨cC0, cC1, cC2⟩ := HC.out.cells
        have hcall := rright_tv HA.out.at_
        rw [hrA] at hcall
        have HCALL := Lib.hid hcall
        clear hcall
        go_wp2_with (go_at_call 26; refine HCALL.out.mono ?_; intro e x3 hx; obtain ⟨rfl, hb⟩ := hx; refine Hid.out ?_)
        refine Lib.hid ?_
        have HBx := Lib.hid (HB.out.trans (hb.mono HB.out.size))
        clear HB
        have HB := HBx
        clear HBx
        have Hx := Lib.hid (HA.out.ext hb)
        clear HA
        have HA := Hx
        clear Hx
        have Hx := Lib.hid (HC.out.ext hb)
        clear HC
        have HC := Hx
        clear Hx
        clear hb HCALL
        clear cA0 cA1 cA2 cC0 cC1 cC2
        clear hsA hsC hrA
        go_upto_region 3 with fail
        obtain ⟨cA0, cA1, cA2⟩ := HA.out.cells
        have hcall := red_tv HA.out.at_ ((HTAB.out.on HB.out).up HB.out.size)
        have HCALL := Lib.hid hcall
        clear hcall
        go_wp2_with (go_at_call 12; refine HCALL.out.mono ?_; intro e x4 hx; obtain ⟨s4, A4, n4, c4, B4, m4, d4, rfl, hat, hb⟩ := hx; refine Hid.out ?_)
        refine Lib.hid ?_
        have HBx := Lib.hid (HB.out.trans (hb.mono HB.out.size))
        clear HB
        have HB := HBx
        clear HBx
        have Hx := Lib.hid (HA.out.ext hb)
        clear HA
        have HA := Hx
        clear Hx
        have Hx := Lib.hid (HC.out.ext hb)
        clear HC
        have HC := Hx
        clear Hx
        clear hb HCALL
        clear cA0 cA1 cA2
        obtain ⟨y4, hw⟩ : ∃ W, W = x4.alloc (.cells #[.int .i64 s4, .slice A4 n4 c4, .slice B4 m4 d4] 25) := ⟨_, rfl⟩
        obtain ⟨pX, hp⟩ : ∃ p, p = x4.heap.size := ⟨_, rfl⟩
        have hv := TrV.new hat
        rw [← hw, ← hp] at hv
        have hb : Below x4.heap.size x4 y4 := by rw [hw]; exact below_new _ _
        have HBx := Lib.hid (HB.out.trans (hb.mono HB.out.size))
        clear HB
        have HB := HBx
        clear HBx
        have Hx := Lib.hid (HA.out.ext hb)
        clear HA
        have HA := Hx
        clear Hx
        have Hx := Lib.hid (HC.out.ext hb)
        clear HC
        have HC := Hx
        clear Hx
        have HX := Lib.hid hv
        clear hv hb hat
        go_upto_region 4 with fail
        rw [← hw, ← hp]
        clear hw hp
        have hmx := HX.out.at_.len_
        have hle := red_le HRA.out
        have hm1 := HM1.out
        have hle2 : m4 ≤ m1 := by rw [hmx, hm1]; exact hle
        have HLE := Lib.hid hle2
        have HMX := Lib.hid hmx
        clear hmx hle hm1 hle2
        have HD4 : Hid (decide ((m1 : Int) < (m4 : Int)) = false) := Lib.hid (decide_eq_false (by have := HLE.out; omega))
        have HD5 : Hid (decide (m1 < m4) = false) := Lib.hid (decide_eq_false (by have := HLE.out; omega))
        refine wp_region_J (by kernel_rfl) (fun listed act w' => ∃ b0 b1 b2 b3 b4 b5 b6 b7 b8 b9 b10 b11 b12 b13 b14 b15 b16 b17 b18 b19 b20 b21 b22 b23 b24 v22 v23 v24 v25 v26 v27 v28 v29 v30 v31 v32 v33 v34 v35 v36 v37 v38 v39 v40 v41 v42 v43 v44 v45 v46, listed = #[b0, b1, b2, b3, b4, b5, b6, b7, b8, b9, b10, b11, b12, b13, b14, b15, b16, b17, b18, b19, b20, b21, b22, b23, b24] ∧ act = Act.mk #[.agg #[.int .i64 s1, .slice A1 n1 c1, .slice B1 m1 d1], .agg #[.int .i64 s2, .slice A2 n2 c2, .slice B2 m2 d2], .pointer (some ⟨w.heap.size, 0, none⟩), .pointer (some ⟨w.heap.size + 1, 0, none⟩), .bool false, .pointer (some ⟨pX, 0, none⟩), .agg #[.int .i64 s1, .slice A1 n1 c1, .slice B1 m1 d1], .bool true, .bool false, .bool false, .agg #[.int .i64 s2, .slice A2 n2 c2, .slice B2 m2 d2], .bool true, .bool false, .bool false, .bool false, .agg #[.int .i64 s1, .slice A1 n1 c1, .slice B1 m1 d1], .bool true, .bool false, .bool false, undef, .agg #[.int .i64 s1, .slice A1 n1 c1, .slice B1 m1 d1], .agg #[.int .i64 s4, .slice A4 n4 c4, .slice B4 m4 d4], v22, v23, v24, v25, v26, v27, v28, v29, v30, v31, v32, v33, v34, v35, v36, v37, v38, v39, v40, v41, v42, v43, v44, v45, v46, undef, undef, undef, undef, undef, undef, undef, undef, undef, undef, undef, undef, undef, undef, undef, undef, undef, undef, undef, undef] [] ∧ LsJ y4 (.agg #[.int .i64 s1, .slice A1 n1 c1, .slice B1 m1 d1]) (.agg #[.int .i64 s2, .slice A2 n2 c2, .slice B2 m2 d2]) (.agg #[.int .i64 s4, .slice A4 n4 c4, .slice B4 m4 d4]) w.heap.size (w.heap.size + 1) pX B1 B2 B4 m1 d1 m2 d2 m4 d4 a b b0 b1 b2 b3 b4 b5 b6 b7 b8 b9 b10 b11 b12 b13 b14 b15 b16 b17 b18 b19 b20 b21 b22 b23 b24 v22 v23 v24 v25 v26 v27 v28 v29 v30 v31 v32 v33 v34 v35 v36 v37 v38 v39 v40 v41 v42 v43 v44 v45 v46 w') ?_ ?_ ?_
        · exact ⟨_, _, _, _, _, _, _, _, _, _, _, _, _, _, _, _, _, _, _, _, _, _, _, _, _, _, _, _, _, _, _, _, _, _, _, _, _, _, _, _, _, _, _, _, _, _, _, _, _, _, rfl, rfl, ⟨(by simp), (by simp), (by simp), (by simp), (by simp), (by simp), (by simp), (by simp), (by simp), (by simp), (by simp), (by simp), (by simp), (by simp), (by simp), (by simp), (by simp), (by simp), (by simp), (by simp), (by simp), (by simp), (by simp), (by simp), (Below.refl _ y4).drew, (by simp)⟩⟩
        · rintro i listed act w' hi ⟨b0, b1, b2, b3, b4, b5, b6, b7, b8, b9, b10, b11, b12, b13, b14, b15, b16, b17, b18, b19, b20, b21, b22, b23, b24, v22, v23, v24, v25, v26, v27, v28, v29, v30, v31, v32, v33, v34, v35, v36, v37, v38, v39, v40, v41, v42, v43, v44, v45, v46, rfl, rfl, H⟩
          have hi16 : i < 25 := by
            obtain ⟨-, o, ho, -⟩ := mem_ready.1 hi
            exact (Array.getElem?_eq_some_iff.1 ho).1
          obtain rfl | rfl | rfl | rfl | rfl | rfl | rfl | rfl | rfl | rfl | rfl | rfl | rfl | rfl | rfl | rfl | rfl | rfl | rfl | rfl | rfl | rfl | rfl | rfl | rfl : i = 0 ∨ i = 1 ∨ i = 2 ∨ i = 3 ∨ i = 4 ∨ i = 5 ∨ i = 6 ∨ i = 7 ∨ i = 8 ∨ i = 9 ∨ i = 10 ∨ i = 11 ∨ i = 12 ∨ i = 13 ∨ i = 14 ∨ i = 15 ∨ i = 16 ∨ i = 17 ∨ i = 18 ∨ i = 19 ∨ i = 20 ∨ i = 21 ∨ i = 22 ∨ i = 23 ∨ i = 24 := by omega
          all_goals simp [mem_ready, Region.binds] at hi
          · obtain ⟨g0, g1, g2⟩ := (HX.out.ext H.below).cells
            refine wpOp_hidden rfl fun K hK => ?_
            go_wp2
            refine OnlyN.mk (hK.out _ _ ⟨true, _, _, _, _, _, _, _, _, _, _, _, _, _, _, _, _, _, _, _, _, _, _, _, _, .agg #[.int .i64 s4, .slice A4 n4 c4, .slice B4 m4 d4], _, _, _, _, _, _, _, _, _, _, _, _, _, _, _, _, _, _, _, _, _, _, _, _, rfl, rfl, ⟨fun _ => rfl, H.h1, H.h2, H.h3, H.h4, H.h6, H.h7, H.h8, H.h9, H.h10, H.h11, H.h12, H.h13, H.h14, H.h15, H.h16, H.h17, H.h18, H.h19, H.h20, H.h21, H.h22, H.h23, H.h24, H.below, H.t5⟩⟩)
          · obtain rfl := H.h0 (by simp [hi])
            have HB0 := Lib.hid (H.below)
            have hcall := right_tv (HX.out.ext HB0.out).at_
            rw [red_right HRA.out] at hcall
            have HCALL := Lib.hid hcall
            clear hcall
            refine wpOp_hidden rfl fun K hK => ?_
            go_wp2_with (go_at_call 27; refine HCALL.out.mono ?_; intro e w9 hx; obtain ⟨rfl, hb9⟩ := hx; refine Hid.out ?_)
            refine Lib.hid ?_
            have HB9 := Lib.hid hb9
            clear hb9 HCALL
            go_wp2
            refine OnlyN.mk (hK.out _ _ ⟨_, true, _, _, _, _, _, _, _, _, _, _, _, _, _, _, _, _, _, _, _, _, _, _, _, _, .bool true, _, _, _, _, _, _, _, _, _, _, _, _, _, _, _, _, _, _, _, _, _, _, _, rfl, rfl, ⟨(H.world HB9.out).h0, fun _ => rfl, (H.world HB9.out).h2, (H.world HB9.out).h3, (H.world HB9.out).h4, (H.world HB9.out).h6, (H.world HB9.out).h7, (H.world HB9.out).h8, (H.world HB9.out).h9, (H.world HB9.out).h10, (H.world HB9.out).h11, (H.world HB9.out).h12, (H.world HB9.out).h13, (H.world HB9.out).h14, (H.world HB9.out).h15, (H.world HB9.out).h16, (H.world HB9.out).h17, (H.world HB9.out).h18, (H.world HB9.out).h19, (H.world HB9.out).h20, (H.world HB9.out).h21, (H.world HB9.out).h22, (H.world HB9.out).h23, (H.world HB9.out).h24, (H.world HB9.out).below, (H.world HB9.out).t5⟩⟩)
          · obtain rfl := H.h1 (by simp [hi])
            refine wpOp_hidden rfl fun K hK => ?_
            go_wp2
            refine OnlyN.mk (hK.out _ _ ⟨_, _, true, _, _, _, _, _, _, _, _, _, _, _, _, _, _, _, _, _, _, _, _, _, _, _, _, .bool false, _, _, _, _, _, _, _, _, _, _, _, _, _, _, _, _, _, _, _, _, _, _, rfl, rfl, ⟨H.h0, H.h1, fun _ => rfl, H.h3, H.h4, H.h6, H.h7, H.h8, H.h9, H.h10, H.h11, H.h12, H.h13, H.h14, H.h15, H.h16, H.h17, H.h18, H.h19, H.h20, H.h21, H.h22, H.h23, H.h24, H.below, H.t5⟩⟩)
          · obtain rfl := H.h2 (by simp [hi])
            refine wpOp_hidden rfl fun K hK => ?_
            go_wp2
            refine OnlyN.mk (hK.out _ _ ⟨_, _, _, true, _, _, _, _, _, _, _, _, _, _, _, _, _, _, _, _, _, _, _, _, _, _, _, _, .bool false, _, _, _, _, _, _, _, _, _, _, _, _, _, _, _, _, _, _, _, _, _, rfl, rfl, ⟨H.h0, H.h1, H.h2, fun _ => rfl, H.h4, H.h6, H.h7, H.h8, H.h9, H.h10, H.h11, H.h12, H.h13, H.h14, H.h15, H.h16, H.h17, H.h18, H.h19, H.h20, H.h21, H.h22, H.h23, H.h24, H.below, H.t5⟩⟩)
          · obtain rfl := H.h3 (by simp [hi])
            obtain ⟨g0, g1, g2⟩ := (HX.out.ext H.below).cells
            refine wpOp_hidden rfl fun K hK => ?_
            go_wp2
            refine OnlyN.mk (hK.out _ _ ⟨_, _, _, _, true, _, _, _, _, _, _, _, _, _, _, _, _, _, _, _, _, _, _, _, _, _, _, _, _, .agg #[.int .i64 s4, .slice A4 n4 c4, .slice B4 m4 d4], _, _, _, _, _, _, _, _, _, _, _, _, _, _, _, _, _, _, _, _, rfl, rfl, ⟨H.h0, H.h1, H.h2, H.h3, fun _ => rfl, H.h6, H.h7, H.h8, H.h9, H.h10, H.h11, H.h12, H.h13, H.h14, H.h15, H.h16, H.h17, H.h18, H.h19, H.h20, H.h21, H.h22, H.h23, H.h24, H.below, H.t5⟩⟩)
          · obtain rfl := H.h3 (by simp [hi])
            obtain rfl := H.h4 (by simp [hi])
            have HB0 := Lib.hid (H.below)
            have hcall := red_tv (HX.out.ext HB0.out).at_ ((HTAB.out.on (HB.out.trans (HB0.out.mono HB.out.size))).up (HB.out.trans (HB0.out.mono HB.out.size)).size)
            rw [red_red HRA.out] at hcall
            have HCALL := Lib.hid hcall
            clear hcall
            refine wpOp_hidden rfl fun K hK => ?_
            go_wp2_with (go_at_call 12; refine HCALL.out.mono ?_; intro e w9 hx; obtain ⟨s9, A9, n9, c9, B9, m9, d9, rfl, hat, hb9⟩ := hx; refine Hid.out ?_)
            refine Lib.hid ?_
            have HB9 := Lib.hid hb9
            have HAT := Lib.hid hat
            clear hat
            clear hb9 HCALL
            go_wp2
            refine OnlyN.mk (hK.out _ _ ⟨_, _, _, _, _, true, _, _, _, _, _, _, _, _, _, _, _, _, _, _, _, _, _, _, _, _, _, _, _, _, .agg #[.int .i64 s9, .slice A9 n9 c9, .slice B9 m9 d9], _, _, _, _, _, _, _, _, _, _, _, _, _, _, _, _, _, _, _, rfl, rfl, ⟨(H.world HB9.out).h0, (H.world HB9.out).h1, (H.world HB9.out).h2, (H.world HB9.out).h3, (H.world HB9.out).h4, (H.world HB9.out).h6, (H.world HB9.out).h7, (H.world HB9.out).h8, (H.world HB9.out).h9, (H.world HB9.out).h10, (H.world HB9.out).h11, (H.world HB9.out).h12, (H.world HB9.out).h13, (H.world HB9.out).h14, (H.world HB9.out).h15, (H.world HB9.out).h16, (H.world HB9.out).h17, (H.world HB9.out).h18, (H.world HB9.out).h19, (H.world HB9.out).h20, (H.world HB9.out).h21, (H.world HB9.out).h22, (H.world HB9.out).h23, (H.world HB9.out).h24, (H.world HB9.out).below, fun _ => HAT.out⟩⟩)
          · obtain rfl := H.h3 (by simp [hi])
            obtain ⟨g0, g1, g2⟩ := (HX.out.ext H.below).cells
            refine wpOp_hidden rfl fun K hK => ?_
            go_wp2
            refine OnlyN.mk (hK.out _ _ ⟨_, _, _, _, _, _, true, _, _, _, _, _, _, _, _, _, _, _, _, _, _, _, _, _, _, _, _, _, _, _, _, .agg #[.int .i64 s4, .slice A4 n4 c4, .slice B4 m4 d4], _, _, _, _, _, _, _, _, _, _, _, _, _, _, _, _, _, _, rfl, rfl, ⟨H.h0, H.h1, H.h2, H.h3, H.h4, fun _ => rfl, H.h7, H.h8, H.h9, H.h10, H.h11, H.h12, H.h13, H.h14, H.h15, H.h16, H.h17, H.h18, H.h19, H.h20, H.h21, H.h22, H.h23, H.h24, H.below, H.t5⟩⟩)
          · obtain rfl := H.h3 (by simp [hi])
            obtain rfl := H.h6 (by simp [hi])
            have ht5 := H.t5 (by simp [hi])
            have HB0 := Lib.hid (H.below)
            have hcall := rsamet_at ht5 (HX.out.ext HB0.out).at_
            rw [ex_same] at hcall
            have HCALL := Lib.hid hcall
            clear hcall
            refine wpOp_hidden rfl fun K hK => ?_
            go_wp2_with (go_at_call 11; refine HCALL.out.mono ?_; intro e w9 hx; obtain ⟨rfl, hb9⟩ := hx; refine Hid.out ?_)
            refine Lib.hid ?_
            have HB9 := Lib.hid hb9
            clear hb9 HCALL
            go_wp2
            refine OnlyN.mk (hK.out _ _ ⟨_, _, _, _, _, _, _, true, _, _, _, _, _, _, _, _, _, _, _, _, _, _, _, _, _, _, _, _, _, _, _, _, .bool true, _, _, _, _, _, _, _, _, _, _, _, _, _, _, _, _, _, rfl, rfl, ⟨(H.world HB9.out).h0, (H.world HB9.out).h1, (H.world HB9.out).h2, (H.world HB9.out).h3, (H.world HB9.out).h4, (H.world HB9.out).h6, fun _ => rfl, (H.world HB9.out).h8, (H.world HB9.out).h9, (H.world HB9.out).h10, (H.world HB9.out).h11, (H.world HB9.out).h12, (H.world HB9.out).h13, (H.world HB9.out).h14, (H.world HB9.out).h15, (H.world HB9.out).h16, (H.world HB9.out).h17, (H.world HB9.out).h18, (H.world HB9.out).h19, (H.world HB9.out).h20, (H.world HB9.out).h21, (H.world HB9.out).h22, (H.world HB9.out).h23, (H.world HB9.out).h24, (H.world HB9.out).below, (H.world HB9.out).t5⟩⟩)
          · obtain rfl := H.h3 (by simp [hi])
            obtain rfl := H.h7 (by simp [hi])
            refine wpOp_hidden rfl fun K hK => ?_
            go_wp2
            refine OnlyN.mk (hK.out _ _ ⟨_, _, _, _, _, _, _, _, true, _, _, _, _, _, _, _, _, _, _, _, _, _, _, _, _, _, _, _, _, _, _, _, _, .bool false, _, _, _, _, _, _, _, _, _, _, _, _, _, _, _, _, rfl, rfl, ⟨H.h0, H.h1, H.h2, H.h3, H.h4, H.h6, H.h7, fun _ => rfl, H.h9, H.h10, H.h11, H.h12, H.h13, H.h14, H.h15, H.h16, H.h17, H.h18, H.h19, H.h20, H.h21, H.h22, H.h23, H.h24, H.below, H.t5⟩⟩)
          · obtain rfl := H.h3 (by simp [hi])
            obtain rfl := H.h8 (by simp [hi])
            refine wpOp_hidden rfl fun K hK => ?_
            go_wp2
            refine OnlyN.mk (hK.out _ _ ⟨_, _, _, _, _, _, _, _, _, true, _, _, _, _, _, _, _, _, _, _, _, _, _, _, _, _, _, _, _, _, _, _, _, _, .bool false, _, _, _, _, _, _, _, _, _, _, _, _, _, _, _, rfl, rfl, ⟨H.h0, H.h1, H.h2, H.h3, H.h4, H.h6, H.h7, H.h8, fun _ => rfl, H.h10, H.h11, H.h12, H.h13, H.h14, H.h15, H.h16, H.h17, H.h18, H.h19, H.h20, H.h21, H.h22, H.h23, H.h24, H.below, H.t5⟩⟩)
          · obtain rfl := H.h9 (by simp [hi])
            refine wpOp_hidden rfl fun K hK => ?_
            go_wp2
            refine OnlyN.mk (hK.out _ _ ⟨_, _, _, _, _, _, _, _, _, _, true, _, _, _, _, _, _, _, _, _, _, _, _, _, _, _, _, _, _, _, _, _, _, _, _, .bool false, _, _, _, _, _, _, _, _, _, _, _, _, _, _, rfl, rfl, ⟨H.h0, H.h1, H.h2, H.h3, H.h4, H.h6, H.h7, H.h8, H.h9, fun _ => rfl, H.h11, H.h12, H.h13, H.h14, H.h15, H.h16, H.h17, H.h18, H.h19, H.h20, H.h21, H.h22, H.h23, H.h24, H.below, H.t5⟩⟩)
          · obtain rfl := H.h10 (by simp [hi])
            obtain ⟨g0, g1, g2⟩ := (HA.out.ext H.below).cells
            refine wpOp_hidden rfl fun K hK => ?_
            go_wp2
            refine OnlyN.mk (hK.out _ _ ⟨_, _, _, _, _, _, _, _, _, _, _, true, _, _, _, _, _, _, _, _, _, _, _, _, _, _, _, _, _, _, _, _, _, _, _, _, .agg #[.int .i64 s1, .slice A1 n1 c1, .slice B1 m1 d1], _, _, _, _, _, _, _, _, _, _, _, _, _, rfl, rfl, ⟨H.h0, H.h1, H.h2, H.h3, H.h4, H.h6, H.h7, H.h8, H.h9, H.h10, fun _ => rfl, H.h12, H.h13, H.h14, H.h15, H.h16, H.h17, H.h18, H.h19, H.h20, H.h21, H.h22, H.h23, H.h24, H.below, H.t5⟩⟩)
          · obtain rfl := H.h10 (by simp [hi])
            obtain ⟨g0, g1, g2⟩ := (HX.out.ext H.below).cells
            refine wpOp_hidden rfl fun K hK => ?_
            go_wp2
            refine OnlyN.mk (hK.out _ _ ⟨_, _, _, _, _, _, _, _, _, _, _, _, true, _, _, _, _, _, _, _, _, _, _, _, _, _, _, _, _, _, _, _, _, _, _, _, _, .agg #[.int .i64 s4, .slice A4 n4 c4, .slice B4 m4 d4], _, _, _, _, _, _, _, _, _, _, _, _, rfl, rfl, ⟨H.h0, H.h1, H.h2, H.h3, H.h4, H.h6, H.h7, H.h8, H.h9, H.h10, H.h11, fun _ => rfl, H.h13, H.h14, H.h15, H.h16, H.h17, H.h18, H.h19, H.h20, H.h21, H.h22, H.h23, H.h24, H.below, H.t5⟩⟩)
          · obtain rfl := H.h10 (by simp [hi])
            obtain rfl := H.h11 (by simp [hi])
            obtain rfl := H.h12 (by simp [hi])
            have HB0 := Lib.hid (H.below)
            have hcall := equal_tv (HA.out.ext HB0.out).at_ (HX.out.ext HB0.out).at_ ((HTAB.out.on (HB.out.trans (HB0.out.mono HB.out.size))).up (HB.out.trans (HB0.out.mono HB.out.size)).size)
            rw [eq_red HRA.out] at hcall
            have HCALL := Lib.hid hcall
            clear hcall
            refine wpOp_hidden rfl fun K hK => ?_
            go_wp2_with (go_at_call 14; refine HCALL.out.mono ?_; intro e w9 hx; obtain ⟨rfl, hb9⟩ := hx; refine Hid.out ?_)
            refine Lib.hid ?_
            have HB9 := Lib.hid hb9
            clear hb9 HCALL
            go_wp2
            refine OnlyN.mk (hK.out _ _ ⟨_, _, _, _, _, _, _, _, _, _, _, _, _, true, _, _, _, _, _, _, _, _, _, _, _, _, _, _, _, _, _, _, _, _, _, _, _, _, .bool true, _, _, _, _, _, _, _, _, _, _, _, rfl, rfl, ⟨(H.world HB9.out).h0, (H.world HB9.out).h1, (H.world HB9.out).h2, (H.world HB9.out).h3, (H.world HB9.out).h4, (H.world HB9.out).h6, (H.world HB9.out).h7, (H.world HB9.out).h8, (H.world HB9.out).h9, (H.world HB9.out).h10, (H.world HB9.out).h11, (H.world HB9.out).h12, fun _ => rfl, (H.world HB9.out).h14, (H.world HB9.out).h15, (H.world HB9.out).h16, (H.world HB9.out).h17, (H.world HB9.out).h18, (H.world HB9.out).h19, (H.world HB9.out).h20, (H.world HB9.out).h21, (H.world HB9.out).h22, (H.world HB9.out).h23, (H.world HB9.out).h24, (H.world HB9.out).below, (H.world HB9.out).t5⟩⟩)
          · obtain rfl := H.h10 (by simp [hi])
            obtain rfl := H.h13 (by simp [hi])
            refine wpOp_hidden rfl fun K hK => ?_
            go_wp2
            refine OnlyN.mk (hK.out _ _ ⟨_, _, _, _, _, _, _, _, _, _, _, _, _, _, true, _, _, _, _, _, _, _, _, _, _, _, _, _, _, _, _, _, _, _, _, _, _, _, _, .bool false, _, _, _, _, _, _, _, _, _, _, rfl, rfl, ⟨H.h0, H.h1, H.h2, H.h3, H.h4, H.h6, H.h7, H.h8, H.h9, H.h10, H.h11, H.h12, H.h13, fun _ => rfl, H.h15, H.h16, H.h17, H.h18, H.h19, H.h20, H.h21, H.h22, H.h23, H.h24, H.below, H.t5⟩⟩)
          · obtain rfl := H.h10 (by simp [hi])
            obtain rfl := H.h14 (by simp [hi])
            refine wpOp_hidden rfl fun K hK => ?_
            go_wp2
            refine OnlyN.mk (hK.out _ _ ⟨_, _, _, _, _, _, _, _, _, _, _, _, _, _, _, true, _, _, _, _, _, _, _, _, _, _, _, _, _, _, _, _, _, _, _, _, _, _, _, _, .bool false, _, _, _, _, _, _, _, _, _, rfl, rfl, ⟨H.h0, H.h1, H.h2, H.h3, H.h4, H.h6, H.h7, H.h8, H.h9, H.h10, H.h11, H.h12, H.h13, H.h14, fun _ => rfl, H.h16, H.h17, H.h18, H.h19, H.h20, H.h21, H.h22, H.h23, H.h24, H.below, H.t5⟩⟩)
          · obtain rfl := H.h15 (by simp [hi])
            refine wpOp_hidden rfl fun K hK => ?_
            go_wp2
            refine OnlyN.mk (hK.out _ _ ⟨_, _, _, _, _, _, _, _, _, _, _, _, _, _, _, _, true, _, _, _, _, _, _, _, _, _, _, _, _, _, _, _, _, _, _, _, _, _, _, _, _, .bool false, _, _, _, _, _, _, _, _, rfl, rfl, ⟨H.h0, H.h1, H.h2, H.h3, H.h4, H.h6, H.h7, H.h8, H.h9, H.h10, H.h11, H.h12, H.h13, H.h14, H.h15, fun _ => rfl, H.h17, H.h18, H.h19, H.h20, H.h21, H.h22, H.h23, H.h24, H.below, H.t5⟩⟩)
          · obtain rfl := H.h16 (by simp [hi])
            refine wpOp_hidden rfl fun K hK => ?_
            go_wp2
            refine OnlyN.mk (hK.out _ _ ⟨_, _, _, _, _, _, _, _, _, _, _, _, _, _, _, _, _, true, _, _, _, _, _, _, _, _, _, _, _, _, _, _, _, _, _, _, _, _, _, _, _, _, .pointer (some ⟨pX, 2, none⟩), _, _, _, _, _, _, _, rfl, rfl, ⟨H.h0, H.h1, H.h2, H.h3, H.h4, H.h6, H.h7, H.h8, H.h9, H.h10, H.h11, H.h12, H.h13, H.h14, H.h15, H.h16, fun _ => rfl, H.h18, H.h19, H.h20, H.h21, H.h22, H.h23, H.h24, H.below, H.t5⟩⟩)
          · obtain ⟨g0, g1, g2⟩ := (HX.out.ext H.below).cells
            obtain rfl := H.h16 (by simp [hi])
            obtain rfl := H.h17 (by simp [hi])
            refine wpOp_hidden rfl fun K hK => ?_
            go_wp2
            refine OnlyN.mk (hK.out _ _ ⟨_, _, _, _, _, _, _, _, _, _, _, _, _, _, _, _, _, _, true, _, _, _, _, _, _, _, _, _, _, _, _, _, _, _, _, _, _, _, _, _, _, _, _, .slice B4 m4 d4, _, _, _, _, _, _, rfl, rfl, ⟨H.h0, H.h1, H.h2, H.h3, H.h4, H.h6, H.h7, H.h8, H.h9, H.h10, H.h11, H.h12, H.h13, H.h14, H.h15, H.h16, H.h17, fun _ => rfl, H.h19, H.h20, H.h21, H.h22, H.h23, H.h24, H.below, H.t5⟩⟩)
          · obtain rfl := H.h16 (by simp [hi])
            obtain rfl := H.h18 (by simp [hi])
            refine wpOp_hidden rfl fun K hK => ?_
            go_wp2
            refine OnlyN.mk (hK.out _ _ ⟨_, _, _, _, _, _, _, _, _, _, _, _, _, _, _, _, _, _, _, true, _, _, _, _, _, _, _, _, _, _, _, _, _, _, _, _, _, _, _, _, _, _, _, _, .int .i64 m4, _, _, _, _, _, rfl, rfl, ⟨H.h0, H.h1, H.h2, H.h3, H.h4, H.h6, H.h7, H.h8, H.h9, H.h10, H.h11, H.h12, H.h13, H.h14, H.h15, H.h16, H.h17, H.h18, fun _ => rfl, H.h20, H.h21, H.h22, H.h23, H.h24, H.below, H.t5⟩⟩)
          · obtain rfl := H.h16 (by simp [hi])
            refine wpOp_hidden rfl fun K hK => ?_
            go_wp2
            refine OnlyN.mk (hK.out _ _ ⟨_, _, _, _, _, _, _, _, _, _, _, _, _, _, _, _, _, _, _, _, true, _, _, _, _, _, _, _, _, _, _, _, _, _, _, _, _, _, _, _, _, _, _, _, _, .pointer (some ⟨w.heap.size, 2, none⟩), _, _, _, _, rfl, rfl, ⟨H.h0, H.h1, H.h2, H.h3, H.h4, H.h6, H.h7, H.h8, H.h9, H.h10, H.h11, H.h12, H.h13, H.h14, H.h15, H.h16, H.h17, H.h18, H.h19, fun _ => rfl, H.h21, H.h22, H.h23, H.h24, H.below, H.t5⟩⟩)
          · obtain ⟨g0, g1, g2⟩ := (HA.out.ext H.below).cells
            obtain rfl := H.h16 (by simp [hi])
            obtain rfl := H.h20 (by simp [hi])
            refine wpOp_hidden rfl fun K hK => ?_
            go_wp2
            refine OnlyN.mk (hK.out _ _ ⟨_, _, _, _, _, _, _, _, _, _, _, _, _, _, _, _, _, _, _, _, _, true, _, _, _, _, _, _, _, _, _, _, _, _, _, _, _, _, _, _, _, _, _, _, _, _, .slice B1 m1 d1, _, _, _, rfl, rfl, ⟨H.h0, H.h1, H.h2, H.h3, H.h4, H.h6, H.h7, H.h8, H.h9, H.h10, H.h11, H.h12, H.h13, H.h14, H.h15, H.h16, H.h17, H.h18, H.h19, H.h20, fun _ => rfl, H.h22, H.h23, H.h24, H.below, H.t5⟩⟩)
          · obtain rfl := H.h16 (by simp [hi])
            obtain rfl := H.h21 (by simp [hi])
            refine wpOp_hidden rfl fun K hK => ?_
            go_wp2
            refine OnlyN.mk (hK.out _ _ ⟨_, _, _, _, _, _, _, _, _, _, _, _, _, _, _, _, _, _, _, _, _, _, true, _, _, _, _, _, _, _, _, _, _, _, _, _, _, _, _, _, _, _, _, _, _, _, _, .int .i64 m1, _, _, rfl, rfl, ⟨H.h0, H.h1, H.h2, H.h3, H.h4, H.h6, H.h7, H.h8, H.h9, H.h10, H.h11, H.h12, H.h13, H.h14, H.h15, H.h16, H.h17, H.h18, H.h19, H.h20, H.h21, fun _ => rfl, H.h23, H.h24, H.below, H.t5⟩⟩)
          · have hd := HD4.out
            have hd2 := HD5.out
            obtain rfl := H.h16 (by simp [hi])
            obtain rfl := H.h19 (by simp [hi])
            obtain rfl := H.h22 (by simp [hi])
            refine wpOp_hidden rfl fun K hK => ?_
            go_wp2
            refine OnlyN.mk (hK.out _ _ ⟨_, _, _, _, _, _, _, _, _, _, _, _, _, _, _, _, _, _, _, _, _, _, _, true, _, _, _, _, _, _, _, _, _, _, _, _, _, _, _, _, _, _, _, _, _, _, _, _, .bool false, _, rfl, rfl, ⟨H.h0, H.h1, H.h2, H.h3, H.h4, H.h6, H.h7, H.h8, H.h9, H.h10, H.h11, H.h12, H.h13, H.h14, H.h15, H.h16, H.h17, H.h18, H.h19, H.h20, H.h21, H.h22, fun _ => rfl, H.h24, H.below, H.t5⟩⟩)
          · obtain rfl := H.h16 (by simp [hi])
            obtain rfl := H.h23 (by simp [hi])
            refine wpOp_hidden rfl fun K hK => ?_
            go_wp2
            refine OnlyN.mk (hK.out _ _ ⟨_, _, _, _, _, _, _, _, _, _, _, _, _, _, _, _, _, _, _, _, _, _, _, _, true, _, _, _, _, _, _, _, _, _, _, _, _, _, _, _, _, _, _, _, _, _, _, _, _, .bool false, rfl, rfl, ⟨H.h0, H.h1, H.h2, H.h3, H.h4, H.h6, H.h7, H.h8, H.h9, H.h10, H.h11, H.h12, H.h13, H.h14, H.h15, H.h16, H.h17, H.h18, H.h19, H.h20, H.h21, H.h22, H.h23, fun _ => rfl, H.below, H.t5⟩⟩)
        · rintro listed act w' hr ⟨b0, b1, b2, b3, b4, b5, b6, b7, b8, b9, b10, b11, b12, b13, b14, b15, b16, b17, b18, b19, b20, b21, b22, b23, b24, v22, v23, v24, v25, v26, v27, v28, v29, v30, v31, v32, v33, v34, v35, v36, v37, v38, v39, v40, v41, v42, v43, v44, v45, v46, rfl, rfl, H⟩
          have hn := List.eq_nil_iff_forall_not_mem.1 hr
          have r0 := hn 0
          simp [mem_ready, Region.binds] at r0
          subst r0
          have r1 := hn 1
          simp [mem_ready, Region.binds] at r1
          subst r1
          have r2 := hn 2
          simp [mem_ready, Region.binds] at r2
          subst r2
          have r3 := hn 3
          simp [mem_ready, Region.binds] at r3
          subst r3
          have r4 := hn 4
          simp [mem_ready, Region.binds] at r4
          subst r4
          have r5 := hn 5
          simp [mem_ready, Region.binds] at r5
          subst r5
          have r6 := hn 6
          simp [mem_ready, Region.binds] at r6
          subst r6
          have r7 := hn 7
          simp [mem_ready, Region.binds] at r7
          subst r7
          have r8 := hn 8
          simp [mem_ready, Region.binds] at r8
          subst r8
          have r9 := hn 9
          simp [mem_ready, Region.binds] at r9
          subst r9
          have r10 := hn 10
          simp [mem_ready, Region.binds] at r10
          subst r10
          have r11 := hn 11
          simp [mem_ready, Region.binds] at r11
          subst r11
          have r12 := hn 12
          simp [mem_ready, Region.binds] at r12
          subst r12
          have r13 := hn 13
          simp [mem_ready, Region.binds] at r13
          subst r13
          have r14 := hn 14
          simp [mem_ready, Region.binds] at r14
          subst r14
          have r15 := hn 15
          simp [mem_ready, Region.binds] at r15
          subst r15
          have r16 := hn 16
          simp [mem_ready, Region.binds] at r16
          subst r16
          have r17 := hn 17
          simp [mem_ready, Region.binds] at r17
          subst r17
          have r18 := hn 18
          simp [mem_ready, Region.binds] at r18
          subst r18
          have r19 := hn 19
          simp [mem_ready, Region.binds] at r19
          subst r19
          have r20 := hn 20
          simp [mem_ready, Region.binds] at r20
          subst r20
          have r21 := hn 21
          simp [mem_ready, Region.binds] at r21
          subst r21
          have r22 := hn 22
          simp [mem_ready, Region.binds] at r22
          subst r22
          have r23 := hn 23
          simp [mem_ready, Region.binds] at r23
          subst r23
          have r24 := hn 24
          simp [mem_ready, Region.binds] at r24
          subst r24
          try dsimp only
          obtain rfl := H.h0 rfl
          obtain rfl := H.h1 rfl
          obtain rfl := H.h2 rfl
          obtain rfl := H.h3 rfl
          obtain rfl := H.h4 rfl
          obtain rfl := H.h6 rfl
          obtain rfl := H.h7 rfl
          obtain rfl := H.h8 rfl
          obtain rfl := H.h9 rfl
          obtain rfl := H.h10 rfl
          obtain rfl := H.h11 rfl
          obtain rfl := H.h12 rfl
          obtain rfl := H.h13 rfl
          obtain rfl := H.h14 rfl
          obtain rfl := H.h15 rfl
          obtain rfl := H.h16 rfl
          obtain rfl := H.h17 rfl
          obtain rfl := H.h18 rfl
          obtain rfl := H.h19 rfl
          obtain rfl := H.h20 rfl
          obtain rfl := H.h21 rfl
          obtain rfl := H.h22 rfl
          obtain rfl := H.h23 rfl
          obtain rfl := H.h24 rfl
          have hb := H.below
          clear H hr hn
          have HBx := Lib.hid (HB.out.trans (hb.mono HB.out.size))
          clear HB
          have HB := HBx
          clear HBx
          have Hx := Lib.hid (HA.out.ext hb)
          clear HA
          have HA := Hx
          clear Hx
          have Hx := Lib.hid (HC.out.ext hb)
          clear HC
          have HC := Hx
          clear Hx
          have Hx := Lib.hid (HX.out.ext hb)
          clear HX
          have HX := Hx
          clear Hx
          clear hb
          obtain ⟨wq, hwq⟩ : ∃ wq, wq = w' := ⟨_, rfl⟩
          rw [← hwq]
          rw [← hwq] at HB
          rw [← hwq] at HA
          rw [← hwq] at HC
          rw [← hwq] at HX
          clear hwq
          cases hE : equalP a b with
          | false =>
            have HE := Lib.hid hE
            clear hE
            go_upto_region 6 with fail
            refine wp_region_J (by kernel_rfl) (fun listed act w' => ∃ b0 b1 b2 b3 b4 b5 b6 b7 b8 b9 b10 b11 b12 b13 b14 b15 b16 b17 b18 v47 v48 v49 v50 v65, listed = #[b0, b1, b2, b3, b4, b5, b6, b7, b8, b9, b10, b11, b12, b13, b14, b15, b16, b17, b18] ∧ act = Act.mk #[.agg #[.int .i64 s1, .slice A1 n1 c1, .slice B1 m1 d1], .agg #[.int .i64 s2, .slice A2 n2 c2, .slice B2 m2 d2], .pointer (some ⟨w.heap.size, 0, none⟩), .pointer (some ⟨w.heap.size + 1, 0, none⟩), .bool false, .pointer (some ⟨pX, 0, none⟩), .agg #[.int .i64 s1, .slice A1 n1 c1, .slice B1 m1 d1], .bool true, .bool false, .bool false, .agg #[.int .i64 s2, .slice A2 n2 c2, .slice B2 m2 d2], .bool true, .bool false, .bool false, .bool false, .agg #[.int .i64 s1, .slice A1 n1 c1, .slice B1 m1 d1], .bool true, .bool false, .bool false, undef, .agg #[.int .i64 s1, .slice A1 n1 c1, .slice B1 m1 d1], .agg #[.int .i64 s4, .slice A4 n4 c4, .slice B4 m4 d4], .agg #[.int .i64 s4, .slice A4 n4 c4, .slice B4 m4 d4], .bool true, .bool false, .bool false, .agg #[.int .i64 s4, .slice A4 n4 c4, .slice B4 m4 d4], v27, .agg #[.int .i64 s4, .slice A4 n4 c4, .slice B4 m4 d4], .bool true, .bool false, .bool false, .bool false, .agg #[.int .i64 s1, .slice A1 n1 c1, .slice B1 m1 d1], .agg #[.int .i64 s4, .slice A4 n4 c4, .slice B4 m4 d4], .bool true, .bool false, .bool false, .bool false, .pointer (some ⟨pX, 2, none⟩), .slice B4 m4 d4, .int .i64 m4, .pointer (some ⟨w.heap.size, 2, none⟩), .slice B1 m1 d1, .int .i64 m1, .bool false, .bool false, v47, v48, v49, v50, undef, undef, undef, undef, undef, undef, undef, undef, undef, undef, undef, undef, undef, undef, v65, undef] [] ∧ LsN wq (.agg #[.int .i64 s1, .slice A1 n1 c1, .slice B1 m1 d1]) (.agg #[.int .i64 s2, .slice A2 n2 c2, .slice B2 m2 d2]) (.agg #[.int .i64 s4, .slice A4 n4 c4, .slice B4 m4 d4]) w.heap.size (w.heap.size + 1) pX B1 B2 B4 m1 d1 m2 d2 m4 d4 a b b0 b1 b2 b3 b4 b5 b6 b7 b8 b9 b10 b11 b12 b13 b14 b15 b16 b17 b18 v47 v48 v49 v50 v65 w') ?_ ?_ ?_
            · exact ⟨_, _, _, _, _, _, _, _, _, _, _, _, _, _, _, _, _, _, _, _, _, _, _, _, rfl, rfl, ⟨(by simp), (by simp), (by simp), (by simp), (by simp), (Below.refl _ wq).drew⟩⟩
            · rintro i listed act w' hi ⟨b0, b1, b2, b3, b4, b5, b6, b7, b8, b9, b10, b11, b12, b13, b14, b15, b16, b17, b18, v47, v48, v49, v50, v65, rfl, rfl, H⟩
              have hi16 : i < 19 := by
                obtain ⟨-, o, ho, -⟩ := mem_ready.1 hi
                exact (Array.getElem?_eq_some_iff.1 ho).1
              obtain rfl | rfl | rfl | rfl | rfl | rfl | rfl | rfl | rfl | rfl | rfl | rfl | rfl | rfl | rfl | rfl | rfl | rfl | rfl : i = 0 ∨ i = 1 ∨ i = 2 ∨ i = 3 ∨ i = 4 ∨ i = 5 ∨ i = 6 ∨ i = 7 ∨ i = 8 ∨ i = 9 ∨ i = 10 ∨ i = 11 ∨ i = 12 ∨ i = 13 ∨ i = 14 ∨ i = 15 ∨ i = 16 ∨ i = 17 ∨ i = 18 := by omega
              all_goals simp [mem_ready, Region.binds] at hi
              · obtain ⟨g0, g1, g2⟩ := (HA.out.ext H.below).cells
                refine wpOp_hidden rfl fun K hK => ?_
                go_wp2
                refine OnlyN.mk (hK.out _ _ ⟨true, _, _, _, _, _, _, _, _, _, _, _, _, _, _, _, _, _, _, .agg #[.int .i64 s1, .slice A1 n1 c1, .slice B1 m1 d1], _, _, _, _, rfl, rfl, ⟨fun _ => rfl, H.h1, H.h2, H.h3, H.h18, H.below⟩⟩)
              · obtain ⟨g0, g1, g2⟩ := (HC.out.ext H.below).cells
                refine wpOp_hidden rfl fun K hK => ?_
                go_wp2
                refine OnlyN.mk (hK.out _ _ ⟨_, true, _, _, _, _, _, _, _, _, _, _, _, _, _, _, _, _, _, _, .agg #[.int .i64 s2, .slice A2 n2 c2, .slice B2 m2 d2], _, _, _, rfl, rfl, ⟨H.h0, fun _ => rfl, H.h2, H.h3, H.h18, H.below⟩⟩)
              · obtain rfl := H.h0 (by simp [hi])
                obtain rfl := H.h1 (by simp [hi])
                have HB0 := Lib.hid (H.below)
                have hcall := equal_tv (HA.out.ext HB0.out).at_ (HC.out.ext HB0.out).at_ ((HTAB.out.on (HB.out.trans (HB0.out.mono HB.out.size))).up (HB.out.trans (HB0.out.mono HB.out.size)).size)
                rw [HE.out] at hcall
                have HCALL := Lib.hid hcall
                clear hcall
                refine wpOp_hidden rfl fun K hK => ?_
                go_wp2_with (go_at_call 14; refine HCALL.out.mono ?_; intro e w9 hx; obtain ⟨rfl, hb9⟩ := hx; refine Hid.out ?_)
                refine Lib.hid ?_
                have HB9 := Lib.hid hb9
                clear hb9 HCALL
                go_wp2
                refine OnlyN.mk (hK.out _ _ ⟨_, _, true, _, _, _, _, _, _, _, _, _, _, _, _, _, _, _, _, _, _, .bool false, _, _, rfl, rfl, ⟨(H.world HB9.out).h0, (H.world HB9.out).h1, fun _ => rfl, (H.world HB9.out).h3, (H.world HB9.out).h18, (H.world HB9.out).below⟩⟩)
              · obtain rfl := H.h2 (by simp [hi])
                refine wpOp_hidden rfl fun K hK => ?_
                go_wp2
                refine OnlyN.mk (hK.out _ _ ⟨_, _, _, true, _, _, _, _, _, _, _, _, _, _, _, _, _, _, _, _, _, _, .bool false, _, rfl, rfl, ⟨H.h0, H.h1, H.h2, fun _ => rfl, H.h18, H.below⟩⟩)
              · obtain rfl := H.h3 (by simp [hi])
                exact wpOp_skip rfl (by rfl) ⟨_, _, _, _, true, _, _, _, _, _, _, _, _, _, _, _, _, _, _, _, _, _, _, _, rfl, rfl, ⟨H.h0, H.h1, H.h2, H.h3, H.h18, H.below⟩⟩
              · obtain rfl := H.h3 (by simp [hi])
                exact wpOp_skip rfl (by rfl) ⟨_, _, _, _, _, true, _, _, _, _, _, _, _, _, _, _, _, _, _, _, _, _, _, _, rfl, rfl, ⟨H.h0, H.h1, H.h2, H.h3, H.h18, H.below⟩⟩
              · obtain rfl := H.h3 (by simp [hi])
                exact wpOp_skip rfl (by rfl) ⟨_, _, _, _, _, _, true, _, _, _, _, _, _, _, _, _, _, _, _, _, _, _, _, _, rfl, rfl, ⟨H.h0, H.h1, H.h2, H.h3, H.h18, H.below⟩⟩
              · obtain rfl := H.h3 (by simp [hi])
                exact wpOp_skip rfl (by rfl) ⟨_, _, _, _, _, _, _, true, _, _, _, _, _, _, _, _, _, _, _, _, _, _, _, _, rfl, rfl, ⟨H.h0, H.h1, H.h2, H.h3, H.h18, H.below⟩⟩
              · obtain rfl := H.h3 (by simp [hi])
                exact wpOp_skip rfl (by rfl) ⟨_, _, _, _, _, _, _, _, true, _, _, _, _, _, _, _, _, _, _, _, _, _, _, _, rfl, rfl, ⟨H.h0, H.h1, H.h2, H.h3, H.h18, H.below⟩⟩
              · obtain rfl := H.h3 (by simp [hi])
                exact wpOp_skip rfl (by rfl) ⟨_, _, _, _, _, _, _, _, _, true, _, _, _, _, _, _, _, _, _, _, _, _, _, _, rfl, rfl, ⟨H.h0, H.h1, H.h2, H.h3, H.h18, H.below⟩⟩
              · obtain rfl := H.h3 (by simp [hi])
                exact wpOp_skip rfl (by rfl) ⟨_, _, _, _, _, _, _, _, _, _, true, _, _, _, _, _, _, _, _, _, _, _, _, _, rfl, rfl, ⟨H.h0, H.h1, H.h2, H.h3, H.h18, H.below⟩⟩
              · obtain rfl := H.h3 (by simp [hi])
                exact wpOp_skip rfl (by rfl) ⟨_, _, _, _, _, _, _, _, _, _, _, true, _, _, _, _, _, _, _, _, _, _, _, _, rfl, rfl, ⟨H.h0, H.h1, H.h2, H.h3, H.h18, H.below⟩⟩
              · exact wpOp_skip rfl (by rfl) ⟨_, _, _, _, _, _, _, _, _, _, _, _, true, _, _, _, _, _, _, _, _, _, _, _, rfl, rfl, ⟨H.h0, H.h1, H.h2, H.h3, H.h18, H.below⟩⟩
              · exact wpOp_skip rfl (by rfl) ⟨_, _, _, _, _, _, _, _, _, _, _, _, _, true, _, _, _, _, _, _, _, _, _, _, rfl, rfl, ⟨H.h0, H.h1, H.h2, H.h3, H.h18, H.below⟩⟩
              · exact wpOp_skip rfl (by rfl) ⟨_, _, _, _, _, _, _, _, _, _, _, _, _, _, true, _, _, _, _, _, _, _, _, _, rfl, rfl, ⟨H.h0, H.h1, H.h2, H.h3, H.h18, H.below⟩⟩
              · exact wpOp_skip rfl (by rfl) ⟨_, _, _, _, _, _, _, _, _, _, _, _, _, _, _, true, _, _, _, _, _, _, _, _, rfl, rfl, ⟨H.h0, H.h1, H.h2, H.h3, H.h18, H.below⟩⟩
              · exact wpOp_skip rfl (by rfl) ⟨_, _, _, _, _, _, _, _, _, _, _, _, _, _, _, _, true, _, _, _, _, _, _, _, rfl, rfl, ⟨H.h0, H.h1, H.h2, H.h3, H.h18, H.below⟩⟩
              · obtain rfl := H.h3 (by simp [hi])
                exact wpOp_skip rfl (by rfl) ⟨_, _, _, _, _, _, _, _, _, _, _, _, _, _, _, _, _, true, _, _, _, _, _, _, rfl, rfl, ⟨H.h0, H.h1, H.h2, H.h3, H.h18, H.below⟩⟩
              · obtain rfl := H.h3 (by simp [hi])
                refine wpOp_hidden rfl fun K hK => ?_
                go_wp2
                refine OnlyN.mk (hK.out _ _ ⟨_, _, _, _, _, _, _, _, _, _, _, _, _, _, _, _, _, _, true, _, _, _, _, .bool false, rfl, rfl, ⟨H.h0, H.h1, H.h2, H.h3, fun _ => rfl, H.below⟩⟩)
            · rintro listed act w' hr ⟨b0, b1, b2, b3, b4, b5, b6, b7, b8, b9, b10, b11, b12, b13, b14, b15, b16, b17, b18, v47, v48, v49, v50, v65, rfl, rfl, H⟩
              have hn := List.eq_nil_iff_forall_not_mem.1 hr
              have r0 := hn 0
              simp [mem_ready, Region.binds] at r0
              subst r0
              have r1 := hn 1
              simp [mem_ready, Region.binds] at r1
              subst r1
              have r2 := hn 2
              simp [mem_ready, Region.binds] at r2
              subst r2
              have r3 := hn 3
              simp [mem_ready, Region.binds] at r3
              subst r3
              have r4 := hn 4
              simp [mem_ready, Region.binds] at r4
              subst r4
              have r5 := hn 5
              simp [mem_ready, Region.binds] at r5
              subst r5
              have r6 := hn 6
              simp [mem_ready, Region.binds] at r6
              subst r6
              have r7 := hn 7
              simp [mem_ready, Region.binds] at r7
              subst r7
              have r8 := hn 8
              simp [mem_ready, Region.binds] at r8
              subst r8
              have r9 := hn 9
              simp [mem_ready, Region.binds] at r9
              subst r9
              have r10 := hn 10
              simp [mem_ready, Region.binds] at r10
              subst r10
              have r11 := hn 11
              simp [mem_ready, Region.binds] at r11
              subst r11
              have r12 := hn 12
              simp [mem_ready, Region.binds] at r12
              subst r12
              have r13 := hn 13
              simp [mem_ready, Region.binds] at r13
              subst r13
              have r14 := hn 14
              simp [mem_ready, Region.binds] at r14
              subst r14
              have r15 := hn 15
              simp [mem_ready, Region.binds] at r15
              subst r15
              have r16 := hn 16
              simp [mem_ready, Region.binds] at r16
              subst r16
              have r17 := hn 17
              simp [mem_ready, Region.binds] at r17
              subst r17
              have r18 := hn 18
              simp [mem_ready, Region.binds] at r18
              subst r18
              try dsimp only
              obtain rfl := H.h18 rfl
              have hb := H.below
              clear H hr hn
              have HBx := Lib.hid (HB.out.trans (hb.mono HB.out.size))
              clear HB
              have HB := HBx
              clear HBx
              have Hx := Lib.hid (HA.out.ext hb)
              clear HA
              have HA := Hx
              clear Hx
              have Hx := Lib.hid (HC.out.ext hb)
              clear HC
              have HC := Hx
              clear Hx
              have Hx := Lib.hid (HX.out.ext hb)
              clear HX
              have HX := Hx
              clear Hx
              clear hb
              have hcall := awake_any _ ((HTAB.out.on HB.out).up HB.out.size) (HGM.out.ext HB.out)
              have HCALL := Lib.hid hcall
              clear hcall
              go_wp2_with (go_at_call 10; refine HCALL.out.mono ?_; intro e x5 hx; obtain ⟨rfl, hb⟩ := hx; refine Hid.out ?_)
              refine Lib.hid ?_
              have HBx := Lib.hid (HB.out.trans (hb.mono HB.out.size))
              clear HB
              have HB := HBx
              clear HBx
              have Hx := Lib.hid (HA.out.ext hb)
              clear HA
              have HA := Hx
              clear Hx
              have Hx := Lib.hid (HC.out.ext hb)
              clear HC
              have HC := Hx
              clear Hx
              have Hx := Lib.hid (HX.out.ext hb)
              clear HX
              have HX := Hx
              clear Hx
              clear hb HCALL
              go_wp2
              go_ret
              exact ⟨rfl, HB.out⟩
          | true =>
            have HE := Lib.hid hE
            clear hE
            go_upto_region 6 with fail
            have hq := eq_parts HE.out
            have HRB : Hid (redT b = redT a) := Lib.hid hq.2
            have hle3 := red_le hq.1
            rw [hq.2, ← HMX.out] at hle3
            have hm2 := HM2.out
            rw [← hm2] at hle3
            have HD6 : Hid (decide ((m2 : Int) < (m4 : Int)) = false) := Lib.hid (decide_eq_false (by omega))
            have HD7 : Hid (decide (m2 < m4) = false) := Lib.hid (decide_eq_false (by omega))
            clear hq hle3 hm2
            refine wp_region_J (by kernel_rfl) (fun listed act w' => ∃ b0 b1 b2 b3 b4 b5 b6 b7 b8 b9 b10 b11 b12 b13 b14 b15 b16 b17 b18 v47 v48 v49 v50 v51 v52 v53 v54 v55 v56 v57 v58 v59 v60 v61 v62 v63 v64 v65, listed = #[b0, b1, b2, b3, b4, b5, b6, b7, b8, b9, b10, b11, b12, b13, b14, b15, b16, b17, b18] ∧ act = Act.mk #[.agg #[.int .i64 s1, .slice A1 n1 c1, .slice B1 m1 d1], .agg #[.int .i64 s2, .slice A2 n2 c2, .slice B2 m2 d2], .pointer (some ⟨w.heap.size, 0, none⟩), .pointer (some ⟨w.heap.size + 1, 0, none⟩), .bool false, .pointer (some ⟨pX, 0, none⟩), .agg #[.int .i64 s1, .slice A1 n1 c1, .slice B1 m1 d1], .bool true, .bool false, .bool false, .agg #[.int .i64 s2, .slice A2 n2 c2, .slice B2 m2 d2], .bool true, .bool false, .bool false, .bool false, .agg #[.int .i64 s1, .slice A1 n1 c1, .slice B1 m1 d1], .bool true, .bool false, .bool false, undef, .agg #[.int .i64 s1, .slice A1 n1 c1, .slice B1 m1 d1], .agg #[.int .i64 s4, .slice A4 n4 c4, .slice B4 m4 d4], .agg #[.int .i64 s4, .slice A4 n4 c4, .slice B4 m4 d4], .bool true, .bool false, .bool false, .agg #[.int .i64 s4, .slice A4 n4 c4, .slice B4 m4 d4], v27, .agg #[.int .i64 s4, .slice A4 n4 c4, .slice B4 m4 d4], .bool true, .bool false, .bool false, .bool false, .agg #[.int .i64 s1, .slice A1 n1 c1, .slice B1 m1 d1], .agg #[.int .i64 s4, .slice A4 n4 c4, .slice B4 m4 d4], .bool true, .bool false, .bool false, .bool false, .pointer (some ⟨pX, 2, none⟩), .slice B4 m4 d4, .int .i64 m4, .pointer (some ⟨w.heap.size, 2, none⟩), .slice B1 m1 d1, .int .i64 m1, .bool false, .bool false, v47, v48, v49, v50, v51, v52, v53, v54, v55, v56, v57, v58, v59, v60, v61, v62, v63, v64, v65, undef] [] ∧ LsK wq (.agg #[.int .i64 s1, .slice A1 n1 c1, .slice B1 m1 d1]) (.agg #[.int .i64 s2, .slice A2 n2 c2, .slice B2 m2 d2]) (.agg #[.int .i64 s4, .slice A4 n4 c4, .slice B4 m4 d4]) w.heap.size (w.heap.size + 1) pX B1 B2 B4 m1 d1 m2 d2 m4 d4 a b b0 b1 b2 b3 b4 b5 b6 b7 b8 b9 b10 b11 b12 b13 b14 b15 b16 b17 b18 v47 v48 v49 v50 v51 v52 v53 v54 v55 v56 v57 v58 v59 v60 v61 v62 v63 v64 v65 w') ?_ ?_ ?_
            · exact ⟨_, _, _, _, _, _, _, _, _, _, _, _, _, _, _, _, _, _, _, _, _, _, _, _, _, _, _, _, _, _, _, _, _, _, _, _, _, _, rfl, rfl, ⟨(by simp), (by simp), (by simp), (by simp), (by simp), (by simp), (by simp), (by simp), (by simp), (by simp), (by simp), (by simp), (by simp), (by simp), (by simp), (by simp), (by simp), (by simp), (Below.refl _ wq).drew, (by simp)⟩⟩
            · rintro i listed act w' hi ⟨b0, b1, b2, b3, b4, b5, b6, b7, b8, b9, b10, b11, b12, b13, b14, b15, b16, b17, b18, v47, v48, v49, v50, v51, v52, v53, v54, v55, v56, v57, v58, v59, v60, v61, v62, v63, v64, v65, rfl, rfl, H⟩
              have hi16 : i < 19 := by
                obtain ⟨-, o, ho, -⟩ := mem_ready.1 hi
                exact (Array.getElem?_eq_some_iff.1 ho).1
              obtain rfl | rfl | rfl | rfl | rfl | rfl | rfl | rfl | rfl | rfl | rfl | rfl | rfl | rfl | rfl | rfl | rfl | rfl | rfl : i = 0 ∨ i = 1 ∨ i = 2 ∨ i = 3 ∨ i = 4 ∨ i = 5 ∨ i = 6 ∨ i = 7 ∨ i = 8 ∨ i = 9 ∨ i = 10 ∨ i = 11 ∨ i = 12 ∨ i = 13 ∨ i = 14 ∨ i = 15 ∨ i = 16 ∨ i = 17 ∨ i = 18 := by omega
              all_goals simp [mem_ready, Region.binds] at hi
              · obtain ⟨g0, g1, g2⟩ := (HA.out.ext H.below).cells
                refine wpOp_hidden rfl fun K hK => ?_
                go_wp2
                refine OnlyN.mk (hK.out _ _ ⟨true, _, _, _, _, _, _, _, _, _, _, _, _, _, _, _, _, _, _, .agg #[.int .i64 s1, .slice A1 n1 c1, .slice B1 m1 d1], _, _, _, _, _, _, _, _, _, _, _, _, _, _, _, _, _, _, rfl, rfl, ⟨fun _ => rfl, H.h1, H.h2, H.h3, H.h4, H.h5, H.h6, H.h7, H.h8, H.h9, H.h10, H.h11, H.h12, H.h14, H.h15, H.h16, H.h17, H.h18, H.below, H.t13⟩⟩)
              · obtain ⟨g0, g1, g2⟩ := (HC.out.ext H.below).cells
                refine wpOp_hidden rfl fun K hK => ?_
                go_wp2
                refine OnlyN.mk (hK.out _ _ ⟨_, true, _, _, _, _, _, _, _, _, _, _, _, _, _, _, _, _, _, _, .agg #[.int .i64 s2, .slice A2 n2 c2, .slice B2 m2 d2], _, _, _, _, _, _, _, _, _, _, _, _, _, _, _, _, _, rfl, rfl, ⟨H.h0, fun _ => rfl, H.h2, H.h3, H.h4, H.h5, H.h6, H.h7, H.h8, H.h9, H.h10, H.h11, H.h12, H.h14, H.h15, H.h16, H.h17, H.h18, H.below, H.t13⟩⟩)
              · obtain rfl := H.h0 (by simp [hi])
                obtain rfl := H.h1 (by simp [hi])
                have HB0 := Lib.hid (H.below)
                have hcall := equal_tv (HA.out.ext HB0.out).at_ (HC.out.ext HB0.out).at_ ((HTAB.out.on (HB.out.trans (HB0.out.mono HB.out.size))).up (HB.out.trans (HB0.out.mono HB.out.size)).size)
                rw [HE.out] at hcall
                have HCALL := Lib.hid hcall
                clear hcall
                refine wpOp_hidden rfl fun K hK => ?_
                go_wp2_with (go_at_call 14; refine HCALL.out.mono ?_; intro e w9 hx; obtain ⟨rfl, hb9⟩ := hx; refine Hid.out ?_)
                refine Lib.hid ?_
                have HB9 := Lib.hid hb9
                clear hb9 HCALL
                go_wp2
                refine OnlyN.mk (hK.out _ _ ⟨_, _, true, _, _, _, _, _, _, _, _, _, _, _, _, _, _, _, _, _, _, .bool true, _, _, _, _, _, _, _, _, _, _, _, _, _, _, _, _, rfl, rfl, ⟨(H.world HB9.out).h0, (H.world HB9.out).h1, fun _ => rfl, (H.world HB9.out).h3, (H.world HB9.out).h4, (H.world HB9.out).h5, (H.world HB9.out).h6, (H.world HB9.out).h7, (H.world HB9.out).h8, (H.world HB9.out).h9, (H.world HB9.out).h10, (H.world HB9.out).h11, (H.world HB9.out).h12, (H.world HB9.out).h14, (H.world HB9.out).h15, (H.world HB9.out).h16, (H.world HB9.out).h17, (H.world HB9.out).h18, (H.world HB9.out).below, (H.world HB9.out).t13⟩⟩)
              · obtain rfl := H.h2 (by simp [hi])
                refine wpOp_hidden rfl fun K hK => ?_
                go_wp2
                refine OnlyN.mk (hK.out _ _ ⟨_, _, _, true, _, _, _, _, _, _, _, _, _, _, _, _, _, _, _, _, _, _, .bool true, _, _, _, _, _, _, _, _, _, _, _, _, _, _, _, rfl, rfl, ⟨H.h0, H.h1, H.h2, fun _ => rfl, H.h4, H.h5, H.h6, H.h7, H.h8, H.h9, H.h10, H.h11, H.h12, H.h14, H.h15, H.h16, H.h17, H.h18, H.below, H.t13⟩⟩)
              · obtain rfl := H.h3 (by simp [hi])
                refine wpOp_hidden rfl fun K hK => ?_
                go_wp2
                refine OnlyN.mk (hK.out _ _ ⟨_, _, _, _, true, _, _, _, _, _, _, _, _, _, _, _, _, _, _, _, _, _, _, .pointer (some ⟨w.heap.size + 1, 2, none⟩), _, _, _, _, _, _, _, _, _, _, _, _, _, _, rfl, rfl, ⟨H.h0, H.h1, H.h2, H.h3, fun _ => rfl, H.h5, H.h6, H.h7, H.h8, H.h9, H.h10, H.h11, H.h12, H.h14, H.h15, H.h16, H.h17, H.h18, H.below, H.t13⟩⟩)
              · obtain ⟨g0, g1, g2⟩ := (HC.out.ext H.below).cells
                obtain rfl := H.h3 (by simp [hi])
                obtain rfl := H.h4 (by simp [hi])
                refine wpOp_hidden rfl fun K hK => ?_
                go_wp2
                refine OnlyN.mk (hK.out _ _ ⟨_, _, _, _, _, true, _, _, _, _, _, _, _, _, _, _, _, _, _, _, _, _, _, _, .slice B2 m2 d2, _, _, _, _, _, _, _, _, _, _, _, _, _, rfl, rfl, ⟨H.h0, H.h1, H.h2, H.h3, H.h4, fun _ => rfl, H.h6, H.h7, H.h8, H.h9, H.h10, H.h11, H.h12, H.h14, H.h15, H.h16, H.h17, H.h18, H.below, H.t13⟩⟩)
              · obtain rfl := H.h3 (by simp [hi])
                obtain rfl := H.h5 (by simp [hi])
                refine wpOp_hidden rfl fun K hK => ?_
                go_wp2
                refine OnlyN.mk (hK.out _ _ ⟨_, _, _, _, _, _, true, _, _, _, _, _, _, _, _, _, _, _, _, _, _, _, _, _, _, .int .i64 m2, _, _, _, _, _, _, _, _, _, _, _, _, rfl, rfl, ⟨H.h0, H.h1, H.h2, H.h3, H.h4, H.h5, fun _ => rfl, H.h7, H.h8, H.h9, H.h10, H.h11, H.h12, H.h14, H.h15, H.h16, H.h17, H.h18, H.below, H.t13⟩⟩)
              · obtain rfl := H.h3 (by simp [hi])
                refine wpOp_hidden rfl fun K hK => ?_
                go_wp2
                refine OnlyN.mk (hK.out _ _ ⟨_, _, _, _, _, _, _, true, _, _, _, _, _, _, _, _, _, _, _, _, _, _, _, _, _, _, .pointer (some ⟨pX, 2, none⟩), _, _, _, _, _, _, _, _, _, _, _, rfl, rfl, ⟨H.h0, H.h1, H.h2, H.h3, H.h4, H.h5, H.h6, fun _ => rfl, H.h8, H.h9, H.h10, H.h11, H.h12, H.h14, H.h15, H.h16, H.h17, H.h18, H.below, H.t13⟩⟩)
              · obtain ⟨g0, g1, g2⟩ := (HX.out.ext H.below).cells
                obtain rfl := H.h3 (by simp [hi])
                obtain rfl := H.h7 (by simp [hi])
                refine wpOp_hidden rfl fun K hK => ?_
                go_wp2
                refine OnlyN.mk (hK.out _ _ ⟨_, _, _, _, _, _, _, _, true, _, _, _, _, _, _, _, _, _, _, _, _, _, _, _, _, _, _, .slice B4 m4 d4, _, _, _, _, _, _, _, _, _, _, rfl, rfl, ⟨H.h0, H.h1, H.h2, H.h3, H.h4, H.h5, H.h6, H.h7, fun _ => rfl, H.h9, H.h10, H.h11, H.h12, H.h14, H.h15, H.h16, H.h17, H.h18, H.below, H.t13⟩⟩)
              · obtain rfl := H.h3 (by simp [hi])
                obtain rfl := H.h8 (by simp [hi])
                refine wpOp_hidden rfl fun K hK => ?_
                go_wp2
                refine OnlyN.mk (hK.out _ _ ⟨_, _, _, _, _, _, _, _, _, true, _, _, _, _, _, _, _, _, _, _, _, _, _, _, _, _, _, _, .int .i64 m4, _, _, _, _, _, _, _, _, _, rfl, rfl, ⟨H.h0, H.h1, H.h2, H.h3, H.h4, H.h5, H.h6, H.h7, H.h8, fun _ => rfl, H.h10, H.h11, H.h12, H.h14, H.h15, H.h16, H.h17, H.h18, H.below, H.t13⟩⟩)
              · have hd := HD6.out
                have hd2 := HD7.out
                obtain rfl := H.h3 (by simp [hi])
                obtain rfl := H.h6 (by simp [hi])
                obtain rfl := H.h9 (by simp [hi])
                refine wpOp_hidden rfl fun K hK => ?_
                go_wp2
                refine OnlyN.mk (hK.out _ _ ⟨_, _, _, _, _, _, _, _, _, _, true, _, _, _, _, _, _, _, _, _, _, _, _, _, _, _, _, _, _, .bool false, _, _, _, _, _, _, _, _, rfl, rfl, ⟨H.h0, H.h1, H.h2, H.h3, H.h4, H.h5, H.h6, H.h7, H.h8, H.h9, fun _ => rfl, H.h11, H.h12, H.h14, H.h15, H.h16, H.h17, H.h18, H.below, H.t13⟩⟩)
              · obtain rfl := H.h3 (by simp [hi])
                obtain rfl := H.h10 (by simp [hi])
                refine wpOp_hidden rfl fun K hK => ?_
                go_wp2
                refine OnlyN.mk (hK.out _ _ ⟨_, _, _, _, _, _, _, _, _, _, _, true, _, _, _, _, _, _, _, _, _, _, _, _, _, _, _, _, _, _, .bool false, _, _, _, _, _, _, _, rfl, rfl, ⟨H.h0, H.h1, H.h2, H.h3, H.h4, H.h5, H.h6, H.h7, H.h8, H.h9, H.h10, fun _ => rfl, H.h12, H.h14, H.h15, H.h16, H.h17, H.h18, H.below, H.t13⟩⟩)
              · obtain rfl := H.h11 (by simp [hi])
                obtain ⟨g0, g1, g2⟩ := (HC.out.ext H.below).cells
                refine wpOp_hidden rfl fun K hK => ?_
                go_wp2
                refine OnlyN.mk (hK.out _ _ ⟨_, _, _, _, _, _, _, _, _, _, _, _, true, _, _, _, _, _, _, _, _, _, _, _, _, _, _, _, _, _, _, .agg #[.int .i64 s2, .slice A2 n2 c2, .slice B2 m2 d2], _, _, _, _, _, _, rfl, rfl, ⟨H.h0, H.h1, H.h2, H.h3, H.h4, H.h5, H.h6, H.h7, H.h8, H.h9, H.h10, H.h11, fun _ => rfl, H.h14, H.h15, H.h16, H.h17, H.h18, H.below, H.t13⟩⟩)
              · obtain rfl := H.h11 (by simp [hi])
                obtain rfl := H.h12 (by simp [hi])
                have HB0 := Lib.hid (H.below)
                have hcall := red_tv (HC.out.ext HB0.out).at_ ((HTAB.out.on (HB.out.trans (HB0.out.mono HB.out.size))).up (HB.out.trans (HB0.out.mono HB.out.size)).size)
                rw [HRB.out] at hcall
                have HCALL := Lib.hid hcall
                clear hcall
                refine wpOp_hidden rfl fun K hK => ?_
                go_wp2_with (go_at_call 12; refine HCALL.out.mono ?_; intro e w9 hx; obtain ⟨s9, A9, n9, c9, B9, m9, d9, rfl, hat, hb9⟩ := hx; refine Hid.out ?_)
                refine Lib.hid ?_
                have HB9 := Lib.hid hb9
                have HAT := Lib.hid hat
                clear hat
                clear hb9 HCALL
                go_wp2
                refine OnlyN.mk (hK.out _ _ ⟨_, _, _, _, _, _, _, _, _, _, _, _, _, true, _, _, _, _, _, _, _, _, _, _, _, _, _, _, _, _, _, _, .agg #[.int .i64 s9, .slice A9 n9 c9, .slice B9 m9 d9], _, _, _, _, _, rfl, rfl, ⟨(H.world HB9.out).h0, (H.world HB9.out).h1, (H.world HB9.out).h2, (H.world HB9.out).h3, (H.world HB9.out).h4, (H.world HB9.out).h5, (H.world HB9.out).h6, (H.world HB9.out).h7, (H.world HB9.out).h8, (H.world HB9.out).h9, (H.world HB9.out).h10, (H.world HB9.out).h11, (H.world HB9.out).h12, (H.world HB9.out).h14, (H.world HB9.out).h15, (H.world HB9.out).h16, (H.world HB9.out).h17, (H.world HB9.out).h18, (H.world HB9.out).below, fun _ => HAT.out⟩⟩)
              · obtain rfl := H.h11 (by simp [hi])
                obtain ⟨g0, g1, g2⟩ := (HX.out.ext H.below).cells
                refine wpOp_hidden rfl fun K hK => ?_
                go_wp2
                refine OnlyN.mk (hK.out _ _ ⟨_, _, _, _, _, _, _, _, _, _, _, _, _, _, true, _, _, _, _, _, _, _, _, _, _, _, _, _, _, _, _, _, _, .agg #[.int .i64 s4, .slice A4 n4 c4, .slice B4 m4 d4], _, _, _, _, rfl, rfl, ⟨H.h0, H.h1, H.h2, H.h3, H.h4, H.h5, H.h6, H.h7, H.h8, H.h9, H.h10, H.h11, H.h12, fun _ => rfl, H.h15, H.h16, H.h17, H.h18, H.below, H.t13⟩⟩)
              · obtain rfl := H.h11 (by simp [hi])
                obtain rfl := H.h14 (by simp [hi])
                have ht13 := H.t13 (by simp [hi])
                have HB0 := Lib.hid (H.below)
                have hcall := rsamet_at ht13 (HX.out.ext HB0.out).at_
                rw [ex_same] at hcall
                have HCALL := Lib.hid hcall
                clear hcall
                refine wpOp_hidden rfl fun K hK => ?_
                go_wp2_with (go_at_call 11; refine HCALL.out.mono ?_; intro e w9 hx; obtain ⟨rfl, hb9⟩ := hx; refine Hid.out ?_)
                refine Lib.hid ?_
                have HB9 := Lib.hid hb9
                clear hb9 HCALL
                go_wp2
                refine OnlyN.mk (hK.out _ _ ⟨_, _, _, _, _, _, _, _, _, _, _, _, _, _, _, true, _, _, _, _, _, _, _, _, _, _, _, _, _, _, _, _, _, _, .bool true, _, _, _, rfl, rfl, ⟨(H.world HB9.out).h0, (H.world HB9.out).h1, (H.world HB9.out).h2, (H.world HB9.out).h3, (H.world HB9.out).h4, (H.world HB9.out).h5, (H.world HB9.out).h6, (H.world HB9.out).h7, (H.world HB9.out).h8, (H.world HB9.out).h9, (H.world HB9.out).h10, (H.world HB9.out).h11, (H.world HB9.out).h12, (H.world HB9.out).h14, fun _ => rfl, (H.world HB9.out).h16, (H.world HB9.out).h17, (H.world HB9.out).h18, (H.world HB9.out).below, (H.world HB9.out).t13⟩⟩)
              · obtain rfl := H.h11 (by simp [hi])
                obtain rfl := H.h15 (by simp [hi])
                refine wpOp_hidden rfl fun K hK => ?_
                go_wp2
                refine OnlyN.mk (hK.out _ _ ⟨_, _, _, _, _, _, _, _, _, _, _, _, _, _, _, _, true, _, _, _, _, _, _, _, _, _, _, _, _, _, _, _, _, _, _, .bool false, _, _, rfl, rfl, ⟨H.h0, H.h1, H.h2, H.h3, H.h4, H.h5, H.h6, H.h7, H.h8, H.h9, H.h10, H.h11, H.h12, H.h14, H.h15, fun _ => rfl, H.h17, H.h18, H.below, H.t13⟩⟩)
              · obtain rfl := H.h3 (by simp [hi])
                obtain rfl := H.h11 (by simp [hi])
                obtain rfl := H.h16 (by simp [hi])
                refine wpOp_hidden rfl fun K hK => ?_
                go_wp2
                refine OnlyN.mk (hK.out _ _ ⟨_, _, _, _, _, _, _, _, _, _, _, _, _, _, _, _, _, true, _, _, _, _, _, _, _, _, _, _, _, _, _, _, _, _, _, _, .bool false, _, rfl, rfl, ⟨H.h0, H.h1, H.h2, H.h3, H.h4, H.h5, H.h6, H.h7, H.h8, H.h9, H.h10, H.h11, H.h12, H.h14, H.h15, H.h16, fun _ => rfl, H.h18, H.below, H.t13⟩⟩)
              · obtain rfl := H.h3 (by simp [hi])
                obtain rfl := H.h17 (by simp [hi])
                refine wpOp_hidden rfl fun K hK => ?_
                go_wp2
                refine OnlyN.mk (hK.out _ _ ⟨_, _, _, _, _, _, _, _, _, _, _, _, _, _, _, _, _, _, true, _, _, _, _, _, _, _, _, _, _, _, _, _, _, _, _, _, _, .bool false, rfl, rfl, ⟨H.h0, H.h1, H.h2, H.h3, H.h4, H.h5, H.h6, H.h7, H.h8, H.h9, H.h10, H.h11, H.h12, H.h14, H.h15, H.h16, H.h17, fun _ => rfl, H.below, H.t13⟩⟩)
            · rintro listed act w' hr ⟨b0, b1, b2, b3, b4, b5, b6, b7, b8, b9, b10, b11, b12, b13, b14, b15, b16, b17, b18, v47, v48, v49, v50, v51, v52, v53, v54, v55, v56, v57, v58, v59, v60, v61, v62, v63, v64, v65, rfl, rfl, H⟩
              have hn := List.eq_nil_iff_forall_not_mem.1 hr
              have r0 := hn 0
              simp [mem_ready, Region.binds] at r0
              subst r0
              have r1 := hn 1
              simp [mem_ready, Region.binds] at r1
              subst r1
              have r2 := hn 2
              simp [mem_ready, Region.binds] at r2
              subst r2
              have r3 := hn 3
              simp [mem_ready, Region.binds] at r3
              subst r3
              have r4 := hn 4
              simp [mem_ready, Region.binds] at r4
              subst r4
              have r5 := hn 5
              simp [mem_ready, Region.binds] at r5
              subst r5
              have r6 := hn 6
              simp [mem_ready, Region.binds] at r6
              subst r6
              have r7 := hn 7
              simp [mem_ready, Region.binds] at r7
              subst r7
              have r8 := hn 8
              simp [mem_ready, Region.binds] at r8
              subst r8
              have r9 := hn 9
              simp [mem_ready, Region.binds] at r9
              subst r9
              have r10 := hn 10
              simp [mem_ready, Region.binds] at r10
              subst r10
              have r11 := hn 11
              simp [mem_ready, Region.binds] at r11
              subst r11
              have r12 := hn 12
              simp [mem_ready, Region.binds] at r12
              subst r12
              have r13 := hn 13
              simp [mem_ready, Region.binds] at r13
              subst r13
              have r14 := hn 14
              simp [mem_ready, Region.binds] at r14
              subst r14
              have r15 := hn 15
              simp [mem_ready, Region.binds] at r15
              subst r15
              have r16 := hn 16
              simp [mem_ready, Region.binds] at r16
              subst r16
              have r17 := hn 17
              simp [mem_ready, Region.binds] at r17
              subst r17
              have r18 := hn 18
              simp [mem_ready, Region.binds] at r18
              subst r18
              try dsimp only
              obtain rfl := H.h18 rfl
              have hb := H.below
              clear H hr hn
              have HBx := Lib.hid (HB.out.trans (hb.mono HB.out.size))
              clear HB
              have HB := HBx
              clear HBx
              have Hx := Lib.hid (HA.out.ext hb)
              clear HA
              have HA := Hx
              clear Hx
              have Hx := Lib.hid (HC.out.ext hb)
              clear HC
              have HC := Hx
              clear Hx
              have Hx := Lib.hid (HX.out.ext hb)
              clear HX
              have HX := Hx
              clear Hx
              clear hb
              have hcall := awake_any _ ((HTAB.out.on HB.out).up HB.out.size) (HGM.out.ext HB.out)
              have HCALL := Lib.hid hcall
              clear hcall
              go_wp2_with (go_at_call 10; refine HCALL.out.mono ?_; intro e x6 hx; obtain ⟨rfl, hb⟩ := hx; refine Hid.out ?_)
              refine Lib.hid ?_
              have HBx := Lib.hid (HB.out.trans (hb.mono HB.out.size))
              clear HB
              have HB := HBx
              clear HBx
              have Hx := Lib.hid (HA.out.ext hb)
              clear HA
              have HA := Hx
              clear Hx
              have Hx := Lib.hid (HC.out.ext hb)
              clear HC
              have HC := Hx
              clear Hx
              have Hx := Lib.hid (HX.out.ext hb)
              clear HX
              have HX := Hx
              clear Hx
              clear hb HCALL
              go_wp2
              go_ret
              exact ⟨rfl, HB.out⟩
end Go.Proofs.YtojnnfihpiegoaaDoor
