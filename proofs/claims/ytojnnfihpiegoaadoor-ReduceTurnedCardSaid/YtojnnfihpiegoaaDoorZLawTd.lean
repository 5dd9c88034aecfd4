/-
  cellularlaw13.ReduceTurned: the walk. No condition but that the library's table and the matrices are there.
-/
import Derived.Test.YtojnnfihpiegoaaDoorZCt
namespace Go.Proofs.YtojnnfihpiegoaaDoor
open Go.RowKit Go.Maps
set_option maxRecDepth 100000
set_option linter.unusedVariables false
set_option linter.unusedSimpArgs false
structure TdB (W : World) (agU : Value) (k : Int) (ik : Int) (X : PT) (b0 b1 b2 b3 b4 b5 b6 b7 b8 b9 : Bool) (v67 v68 v69 v70 v66 v71 v72 v9 v10 : Value) (w : World) : Prop where
  h0 : b0 = true → v67 = .int .i64 k
  h1 : b1 = true → v68 = .int .i64 ik
  h2 : b2 = true → v69 = agU
  h6 : b6 = true → v72 = .int .i64 0
  h9 : b9 = true → v10 = .int .i64 0
  below : Below W.heap.size W w
  h3 : b3 = true → ∃ bh, v70 = .tuple #[vTd bh, .int .i64 0] ∧ BkP X W bh w
  h4 : b4 = true → ∃ bh, v66 = .tuple #[vTd bh, .int .i64 0] ∧ BkP X W bh w
  h5 : b5 = true → ∃ bh, v71 = vTd bh ∧ BkP X W bh w
  h7 : b7 = true → b8 = false → ∃ g, v9 = .pointer (some ⟨g, 0, none⟩) ∧ Blk w g 25 #[.int .i64 0, .slice none 0 0, .slice none 0 0] ∧ W.heap.size ≤ g
  h8 : b8 = true → ∃ g bh, v9 = .pointer (some ⟨g, 0, none⟩) ∧ Blk w g 25 #[.int .i64 bh.st, .slice bh.hA bh.ps.length bh.hc, .slice bh.nA bh.hs.length bh.nc] ∧ BkP X W bh w
  o8 : b8 = true → b7 = true
section
variable {W : World} {agU : Value} {k : Int} {ik : Int} {X : PT} {b0 b1 b2 b3 b4 b5 b6 b7 b8 b9 : Bool} {v67 v68 v69 v70 v66 v71 v72 v9 v10 : Value} {w w' : World}
theorem TdB.world (H : TdB W agU k ik X b0 b1 b2 b3 b4 b5 b6 b7 b8 b9 v67 v68 v69 v70 v66 v71 v72 v9 v10 w) (hb : Below w.heap.size w w') : TdB W agU k ik X b0 b1 b2 b3 b4 b5 b6 b7 b8 b9 v67 v68 v69 v70 v66 v71 v72 v9 v10 w' :=
  ⟨H.h0, H.h1, H.h2, H.h6, H.h9, H.below.trans (hb.mono H.below.size), fun h => (by obtain ⟨bh, x1, x2⟩ := H.h3 h; exact ⟨bh, x1, x2.ext hb⟩), fun h => (by obtain ⟨bh, x1, x2⟩ := H.h4 h; exact ⟨bh, x1, x2.ext hb⟩), fun h => (by obtain ⟨bh, x1, x2⟩ := H.h5 h; exact ⟨bh, x1, x2.ext hb⟩), fun h h2 => (by obtain ⟨g, x1, x2, x3⟩ := H.h7 h h2; exact ⟨g, x1, x2.below hb x2.lt, x3⟩), fun h => (by obtain ⟨g, bh, x1, x2, x3⟩ := H.h8 h; exact ⟨g, bh, x1, x2.below hb x2.lt, x3.ext hb⟩), H.o8⟩
end
structure TdC (W : World) (agK : Value) (agA : Value) (a : PT) (b0 b1 b2 b3 b4 b5 b6 b7 b8 : Bool) (v73 v74 v75 v76 v77 v78 v79 v80 v81 : Value) (w : World) : Prop where
  h0 : b0 = true → v73 = .int .i64 0
  h1 : b1 = true → v74 = .bool false
  h2 : b2 = true → v75 = .bool false
  h3 : b3 = true → v76 = agK
  h4 : b4 = true → v77 = agA
  h6 : b6 = true → v79 = .bool true
  h7 : b7 = true → v80 = .bool false
  h8 : b8 = true → v81 = .bool false
  below : Below W.heap.size W w
  t5 : b5 = true → TreeAt w v78 (redT a)
section
variable {W : World} {agK : Value} {agA : Value} {a : PT} {b0 b1 b2 b3 b4 b5 b6 b7 b8 : Bool} {v73 v74 v75 v76 v77 v78 v79 v80 v81 : Value} {w w' : World}
theorem TdC.world (H : TdC W agK agA a b0 b1 b2 b3 b4 b5 b6 b7 b8 v73 v74 v75 v76 v77 v78 v79 v80 v81 w) (hb : Below w.heap.size w w') : TdC W agK agA a b0 b1 b2 b3 b4 b5 b6 b7 b8 v73 v74 v75 v76 v77 v78 v79 v80 v81 w' :=
  ⟨H.h0, H.h1, H.h2, H.h3, H.h4, H.h6, H.h7, H.h8, H.below.trans (hb.mono H.below.size), fun h => (H.t5 h).ext hb⟩
end
set_option maxHeartbeats 32000000 in
theorem lawTd_any (a : PT) (k : Int) (s1 : Int) (A1 : Option Addr) (n1 c1 : Nat) (B1 : Option Addr) (m1 d1 : Nat) (Ai : Option Addr) (ci : Nat) (zs : List Int) (w : World)
    (ha : TreeAt w (.agg #[.int .i64 s1, .slice A1 n1 c1, .slice B1 m1 d1]) a) (hi0 : Ints w Ai zs) (ht : TabB w.heap.size w) (hg : GMat w) :
    Calls Tryd.prog 8 #[.int .i64 k, .agg #[.int .i64 s1, .slice A1 n1 c1, .slice B1 m1 d1], .slice Ai zs.length ci] w fun e w' => e = .returned (.bool true) ∧ Below w.heap.size w w' := by
  obtain ⟨w0, h1⟩ : ∃ w0, w0 = w.alloc (.cells #[.int .i64 s1, .slice A1 n1 c1, .slice B1 m1 d1] 25) := ⟨_, rfl⟩
  have b1 : Below w.heap.size w w0 := by rw [h1]; exact below_new _ _
  have hv1 := TrV.new ha
  rw [← h1] at hv1
  have hlp := ha.hood_.1
  have hlz := hi0.le
  have HA := Lib.hid hv1
  have HI := Lib.hid (hi0.ext b1)
  have HB := Lib.hid b1
  have HW0 := Lib.hid h1
  have HTAB := Lib.hid ht
  have HGM := Lib.hid hg
  clear ha ht hg h1 b1 hv1 hi0
  cases hsA : smallB a 60 with
  | false =>
    clear hlp hlz
    obtain ⟨cA0, cA1, cA2⟩ := HA.out.cells
    go_enter Tryd.func8, Tryd.ntmps8
    go_upto_region 1 with fail
    rw [← HW0.out]
    have hcall := small_tv (n := 60) HA.out.at_
    rw [hsA] at hcall
    have HCALL := Lib.hid hcall
    clear hcall
    go_wp2_with (go_at_call 9; refine HCALL.out.mono ?_; intro e x1 hx; obtain ⟨rfl, hb⟩ := hx; refine Hid.out ?_)
    refine Lib.hid ?_
    have HBx := Lib.hid (HB.out.trans (hb.mono HB.out.size))
    clear HB
    have HB := HBx
    clear HBx
    have Hx := Lib.hid (HA.out.ext hb)
    clear HA
    have HA := Hx
    clear Hx
    have Hx := Lib.hid (HI.out.ext hb)
    clear HI
    have HI := Hx
    clear Hx
    clear hb HCALL
    clear cA0 cA1 cA2
    clear hsA
    obtain ⟨cA0, cA1, cA2⟩ := HA.out.cells
    clear cA0 cA1 cA2
    have hcall := awake_any _ ((HTAB.out.on HB.out).up HB.out.size) (HGM.out.ext HB.out)
    have HCALL := Lib.hid hcall
    clear hcall
    go_wp2_with (go_at_call 10; refine HCALL.out.mono ?_; intro e x2 hx; obtain ⟨rfl, hb⟩ := hx; refine Hid.out ?_)
    refine Lib.hid ?_
    have HBx := Lib.hid (HB.out.trans (hb.mono HB.out.size))
    clear HB
    have HB := HBx
    clear HBx
    have Hx := Lib.hid (HA.out.ext hb)
    clear HA
    have HA := Hx
    clear Hx
    have Hx := Lib.hid (HI.out.ext hb)
    clear HI
    have HI := Hx
    clear Hx
    clear hb HCALL
    go_wp2
    go_ret
    exact ⟨rfl, HB.out⟩
  | true =>
    by_cases h9 : 9 < n1
    · have d1t : decide ((9 : Int) < (n1 : Int)) = true := decide_eq_true (by omega)
      have d2t : decide (9 < n1) = true := decide_eq_true (by omega)
      clear h9 hlp hlz
      obtain ⟨cA0, cA1, cA2⟩ := HA.out.cells
      go_enter Tryd.func8, Tryd.ntmps8
      go_upto_region 1 with fail
      rw [← HW0.out]
      have hcall := small_tv (n := 60) HA.out.at_
      rw [hsA] at hcall
      have HCALL := Lib.hid hcall
      clear hcall
      go_wp2_with (go_at_call 9; refine HCALL.out.mono ?_; intro e x1 hx; obtain ⟨rfl, hb⟩ := hx; refine Hid.out ?_)
      refine Lib.hid ?_
      have HBx := Lib.hid (HB.out.trans (hb.mono HB.out.size))
      clear HB
      have HB := HBx
      clear HBx
      have Hx := Lib.hid (HA.out.ext hb)
      clear HA
      have HA := Hx
      clear Hx
      have Hx := Lib.hid (HI.out.ext hb)
      clear HI
      have HI := Hx
      clear Hx
      clear hb HCALL
      clear cA0 cA1 cA2
      clear hsA
      obtain ⟨cA0, cA1, cA2⟩ := HA.out.cells
      go_upto_region 2 with fail
      clear cA0 cA1 cA2
      have hcall := awake_any _ ((HTAB.out.on HB.out).up HB.out.size) (HGM.out.ext HB.out)
      have HCALL := Lib.hid hcall
      clear hcall
      go_wp2_with (go_at_call 10; refine HCALL.out.mono ?_; intro e x2 hx; obtain ⟨rfl, hb⟩ := hx; refine Hid.out ?_)
      refine Lib.hid ?_
      have HBx := Lib.hid (HB.out.trans (hb.mono HB.out.size))
      clear HB
      have HB := HBx
      clear HBx
      have Hx := Lib.hid (HA.out.ext hb)
      clear HA
      have HA := Hx
      clear Hx
      have Hx := Lib.hid (HI.out.ext hb)
      clear HI
      have HI := Hx
      clear Hx
      clear hb HCALL
      go_wp2
      go_ret
      exact ⟨rfl, HB.out⟩
    · have d1f : decide ((9 : Int) < (n1 : Int)) = false := decide_eq_false (by omega)
      have d2f : decide (9 < n1) = false := decide_eq_false (by omega)
      by_cases h40 : 40 < zs.length
      · have e1t : decide ((40 : Int) < (zs.length : Int)) = true := decide_eq_true (by omega)
        have e2t : decide (40 < zs.length) = true := decide_eq_true h40
        clear h9 h40 hlp hlz
        obtain ⟨cA0, cA1, cA2⟩ := HA.out.cells
        go_enter Tryd.func8, Tryd.ntmps8
        go_upto_region 1 with fail
        rw [← HW0.out]
        have hcall := small_tv (n := 60) HA.out.at_
        rw [hsA] at hcall
        have HCALL := Lib.hid hcall
        clear hcall
        go_wp2_with (go_at_call 9; refine HCALL.out.mono ?_; intro e x1 hx; obtain ⟨rfl, hb⟩ := hx; refine Hid.out ?_)
        refine Lib.hid ?_
        have HBx := Lib.hid (HB.out.trans (hb.mono HB.out.size))
        clear HB
        have HB := HBx
        clear HBx
        have Hx := Lib.hid (HA.out.ext hb)
        clear HA
        have HA := Hx
        clear Hx
        have Hx := Lib.hid (HI.out.ext hb)
        clear HI
        have HI := Hx
        clear Hx
        clear hb HCALL
        clear cA0 cA1 cA2
        clear hsA
        obtain ⟨cA0, cA1, cA2⟩ := HA.out.cells
        go_upto_region 2 with fail
        clear cA0 cA1 cA2
        have hcall := awake_any _ ((HTAB.out.on HB.out).up HB.out.size) (HGM.out.ext HB.out)
        have HCALL := Lib.hid hcall
        clear hcall
        go_wp2_with (go_at_call 10; refine HCALL.out.mono ?_; intro e x2 hx; obtain ⟨rfl, hb⟩ := hx; refine Hid.out ?_)
        refine Lib.hid ?_
        have HBx := Lib.hid (HB.out.trans (hb.mono HB.out.size))
        clear HB
        have HB := HBx
        clear HBx
        have Hx := Lib.hid (HA.out.ext hb)
        clear HA
        have HA := Hx
        clear Hx
        have Hx := Lib.hid (HI.out.ext hb)
        clear HI
        have HI := Hx
        clear Hx
        clear hb HCALL
        go_wp2
        go_ret
        exact ⟨rfl, HB.out⟩
      · have e1f : decide ((40 : Int) < (zs.length : Int)) = false := decide_eq_false (by omega)
        have e2f : decide (40 < zs.length) = false := decide_eq_false h40
        have HL9 : Hid (a.ps.length ≤ 9) := Lib.hid (by rw [← hlp]; omega)
        have HLP := Lib.hid hlp
        have HLZ := Lib.hid hlz
        clear h9 h40 hlp hlz
        cases hrA : a.right with
        | false =>
          obtain ⟨cA0, cA1, cA2⟩ := HA.out.cells
          go_enter Tryd.func8, Tryd.ntmps8
          go_upto_region 1 with fail
          rw [← HW0.out]
          have hcall := small_tv (n := 60) HA.out.at_
          rw [hsA] at hcall
          have HCALL := Lib.hid hcall
          clear hcall
          go_wp2_with (go_at_call 9; refine HCALL.out.mono ?_; intro e x1 hx; obtain ⟨rfl, hb⟩ := hx; refine Hid.out ?_)
          refine Lib.hid ?_
          have HBx := Lib.hid (HB.out.trans (hb.mono HB.out.size))
          clear HB
          have HB := HBx
          clear HBx
          have Hx := Lib.hid (HA.out.ext hb)
          clear HA
          have HA := Hx
          clear Hx
          have Hx := Lib.hid (HI.out.ext hb)
          clear HI
          have HI := Hx
          clear Hx
          clear hb HCALL
          clear cA0 cA1 cA2
          clear hsA
          obtain ⟨cA0, cA1, cA2⟩ := HA.out.cells
          have hcall := rright_tv HA.out.at_
          rw [hrA] at hcall
          have HCALL := Lib.hid hcall
          clear hcall
          go_wp2_with (go_at_call 26; refine HCALL.out.mono ?_; intro e x2 hx; obtain ⟨rfl, hb⟩ := hx; refine Hid.out ?_)
          refine Lib.hid ?_
          have HBx := Lib.hid (HB.out.trans (hb.mono HB.out.size))
          clear HB
          have HB := HBx
          clear HBx
          have Hx := Lib.hid (HA.out.ext hb)
          clear HA
          have HA := Hx
          clear Hx
          have Hx := Lib.hid (HI.out.ext hb)
          clear HI
          have HI := Hx
          clear Hx
          clear hb HCALL
          clear cA0 cA1 cA2
          clear hrA
          have hcall := awake_any _ ((HTAB.out.on HB.out).up HB.out.size) (HGM.out.ext HB.out)
          have HCALL := Lib.hid hcall
          clear hcall
          go_wp2_with (go_at_call 10; refine HCALL.out.mono ?_; intro e x3 hx; obtain ⟨rfl, hb⟩ := hx; refine Hid.out ?_)
          refine Lib.hid ?_
          have HBx := Lib.hid (HB.out.trans (hb.mono HB.out.size))
          clear HB
          have HB := HBx
          clear HBx
          have Hx := Lib.hid (HA.out.ext hb)
          clear HA
          have HA := Hx
          clear Hx
          have Hx := Lib.hid (HI.out.ext hb)
          clear HI
          have HI := Hx
          clear Hx
          clear hb HCALL
          go_wp2
          go_ret
          exact ⟨rfl, HB.out⟩
        | true =>
          obtain ⟨cA0, cA1, cA2⟩ := HA.out.cells
          go_enter Tryd.func8, Tryd.ntmps8
          go_upto_region 1 with fail
          rw [← HW0.out]
          have hcall := small_tv (n := 60) HA.out.at_
          rw [hsA] at hcall
          have HCALL := Lib.hid hcall
          clear hcall
          go_wp2_with (go_at_call 9; refine HCALL.out.mono ?_; intro e x1 hx; obtain ⟨rfl, hb⟩ := hx; refine Hid.out ?_)
          refine Lib.hid ?_
          have HBx := Lib.hid (HB.out.trans (hb.mono HB.out.size))
          clear HB
          have HB := HBx
          clear HBx
          have Hx := Lib.hid (HA.out.ext hb)
          clear HA
          have HA := Hx
          clear Hx
          have Hx := Lib.hid (HI.out.ext hb)
          clear HI
          have HI := Hx
          clear Hx
          clear hb HCALL
          clear cA0 cA1 cA2
          clear hsA
          obtain ⟨cA0, cA1, cA2⟩ := HA.out.cells
          have hcall := rright_tv HA.out.at_
          rw [hrA] at hcall
          have HCALL := Lib.hid hcall
          clear hcall
          go_wp2_with (go_at_call 26; refine HCALL.out.mono ?_; intro e x2 hx; obtain ⟨rfl, hb⟩ := hx; refine Hid.out ?_)
          refine Lib.hid ?_
          have HBx := Lib.hid (HB.out.trans (hb.mono HB.out.size))
          clear HB
          have HB := HBx
          clear HBx
          have Hx := Lib.hid (HA.out.ext hb)
          clear HA
          have HA := Hx
          clear Hx
          have Hx := Lib.hid (HI.out.ext hb)
          clear HI
          have HI := Hx
          clear Hx
          clear hb HCALL
          clear cA0 cA1 cA2
          have HRA := Lib.hid hrA
          clear hrA d1f d2f e1f e2f
          obtain ⟨cA0, cA1, cA2⟩ := HA.out.cells
          have hcall := turn_tv (k := k) HA.out.at_ ((HTAB.out.on HB.out).up HB.out.size) (HGM.out.ext HB.out) HL9.out
          have HCALL := Lib.hid hcall
          clear hcall
          go_wp2_with (go_at_call 24; refine HCALL.out.mono ?_; intro e x3 hx; obtain ⟨⟨u, ee⟩, hok, s3, A3, n3, c3, B3, m3, d3, rfl, hat, hb⟩ := hx; dsimp only at hat hok; have HOK := Lib.hid hok; clear hok; refine Hid.out ?_)
          refine Lib.hid ?_
          have HBx := Lib.hid (HB.out.trans (hb.mono HB.out.size))
          clear HB
          have HB := HBx
          clear HBx
          have Hx := Lib.hid (HA.out.ext hb)
          clear HA
          have HA := Hx
          clear Hx
          have Hx := Lib.hid (HI.out.ext hb)
          clear HI
          have HI := Hx
          clear Hx
          clear hb HCALL
          clear cA0 cA1 cA2
          obtain ⟨y3, hw⟩ : ∃ W, W = x3.alloc (.cells #[.int .i64 s3, .slice A3 n3 c3, .slice B3 m3 d3] 25) := ⟨_, rfl⟩
          obtain ⟨pU, hp⟩ : ∃ p, p = x3.heap.size := ⟨_, rfl⟩
          have hv := TrV.new hat
          rw [← hw, ← hp] at hv
          have hb : Below x3.heap.size x3 y3 := by rw [hw]; exact below_new _ _
          have HBx := Lib.hid (HB.out.trans (hb.mono HB.out.size))
          clear HB
          have HB := HBx
          clear HBx
          have Hx := Lib.hid (HA.out.ext hb)
          clear HA
          have HA := Hx
          clear Hx
          have Hx := Lib.hid (HI.out.ext hb)
          clear HI
          have HI := Hx
          clear Hx
          have HU := Lib.hid hv
          clear hv hb hat
          go_upto_region 4 with fail
          rw [← hw, ← hp]
          clear hw hp
          rcases turned_ok HOK.out HRA.out with h6 | ⟨h6, hhood, hlen, hur, hti, hback⟩
          · obtain rfl : ee = 6 := h6
            have hcall := awake_any _ ((HTAB.out.on HB.out).up HB.out.size) (HGM.out.ext HB.out)
            have HCALL := Lib.hid hcall
            clear hcall
            go_wp2_with (go_at_call 10; refine HCALL.out.mono ?_; intro e x4 hx; obtain ⟨rfl, hb⟩ := hx; refine Hid.out ?_)
            refine Lib.hid ?_
            have HBx := Lib.hid (HB.out.trans (hb.mono HB.out.size))
            clear HB
            have HB := HBx
            clear HBx
            have Hx := Lib.hid (HA.out.ext hb)
            clear HA
            have HA := Hx
            clear Hx
            have Hx := Lib.hid (HU.out.ext hb)
            clear HU
            have HU := Hx
            clear Hx
            have Hx := Lib.hid (HI.out.ext hb)
            clear HI
            have HI := Hx
            clear Hx
            clear hb HCALL
            go_wp2
            go_ret
            exact ⟨rfl, HB.out⟩
          · obtain rfl : ee = 0 := h6
            dsimp only at hhood hlen hur hti hback
            have hnu : n3 = n1 := by rw [HU.out.at_.hood_.1, hlen, HLP.out]
            have HHD := Lib.hid hhood
            have HUL := Lib.hid hlen
            have HUR := Lib.hid hur
            have HTI := Lib.hid hti
            have HBK := Lib.hid hback
            have HNU := Lib.hid hnu
            have f1 : ((((n3 : Nat) : Int)) != (((n1 : Nat) : Int))) = false := by rw [hnu]; simp
            clear hhood hlen hur hti hback hnu
            obtain ⟨cU0, cU1, cU2⟩ := HU.out.cells
            obtain ⟨cA0, cA1, cA2⟩ := HA.out.cells
            have hcall := hood_tv HU.out.at_
            rw [HHD.out] at hcall
            have HCALL := Lib.hid hcall
            clear hcall
            go_wp2_with (go_at_call 28; refine HCALL.out.mono ?_; intro e x4 hx; obtain ⟨rfl, hb⟩ := hx; refine Hid.out ?_)
            refine Lib.hid ?_
            have HBx := Lib.hid (HB.out.trans (hb.mono HB.out.size))
            clear HB
            have HB := HBx
            clear HBx
            have Hx := Lib.hid (HA.out.ext hb)
            clear HA
            have HA := Hx
            clear Hx
            have Hx := Lib.hid (HU.out.ext hb)
            clear HU
            have HU := Hx
            clear Hx
            have Hx := Lib.hid (HI.out.ext hb)
            clear HI
            have HI := Hx
            clear Hx
            clear hb HCALL
            clear cU0 cU1 cU2 cA0 cA1 cA2
            obtain ⟨cU0, cU1, cU2⟩ := HU.out.cells
            obtain ⟨cA0, cA1, cA2⟩ := HA.out.cells
            go_upto_region 8 with fail
            clear cU0 cU1 cU2 cA0 cA1 cA2
            clear f1
            refine wp_region_J (by kernel_rfl) (fun listed act w' => ∃ b0 b1 b2 b3 b4 b5 b6 b7 b8 b9 v67 v68 v69 v70 v66 v71 v72 v9 v10, listed = #[b0, b1, b2, b3, b4, b5, b6, b7, b8, b9] ∧ act = Act.mk #[.int .i64 k, .agg #[.int .i64 s1, .slice A1 n1 c1, .slice B1 m1 d1], .slice Ai zs.length ci, undef, .pointer (some ⟨w.heap.size, 0, none⟩), undef, .bool false, .pointer (some ⟨pU, 0, none⟩), .int .i64 0, v9, v10, undef, undef, undef, undef, undef, undef, undef, undef, undef, .agg #[.int .i64 s1, .slice A1 n1 c1, .slice B1 m1 d1], .bool true, .bool false, .bool false, .pointer (some ⟨w.heap.size, 1, none⟩), .slice A1 n1 c1, .int .i64 n1, .bool false, .bool false, .bool false, .slice Ai zs.length ci, .int .i64 zs.length, .bool false, .bool false, .bool false, .agg #[.int .i64 s1, .slice A1 n1 c1, .slice B1 m1 d1], .bool true, .bool false, .bool false, undef, .tuple #[.agg #[.int .i64 s3, .slice A3 n3 c3, .slice B3 m3 d3], .int .i64 0], .int .i64 k, .agg #[.int .i64 s1, .slice A1 n1 c1, .slice B1 m1 d1], .tuple #[.agg #[.int .i64 s3, .slice A3 n3 c3, .slice B3 m3 d3], .int .i64 0], .agg #[.int .i64 s3, .slice A3 n3 c3, .slice B3 m3 d3], .int .i64 0, .int .i64 0, .bool false, undef, .int .i64 0, .bool false, .bool false, .pointer (some ⟨pU, 1, none⟩), .slice A3 n3 c3, .bool true, .bool false, .bool false, .bool false, .pointer (some ⟨pU, 1, none⟩), .slice A3 n3 c3, .int .i64 n3, .pointer (some ⟨w.heap.size, 1, none⟩), .slice A1 n1 c1, .int .i64 n1, .bool false, .bool false, v66, v67, v68, v69, v70, v71, v72, undef, undef, undef, undef, undef, undef, undef, undef, undef, undef, undef, undef, undef, undef, undef, undef, undef, undef, undef, undef, undef, undef, undef, undef, undef, undef, undef, undef, undef, undef, undef, undef, undef, undef, undef, undef, undef, undef, undef, undef, undef, undef, undef, undef, undef, undef, undef, undef, undef, undef, undef, undef, undef, undef, undef, undef, undef, undef, undef, undef, undef, undef, undef, undef, undef, undef, undef, undef, undef, undef, undef, undef, undef, undef] [] ∧ TdB x4 (.agg #[.int .i64 s3, .slice A3 n3 c3, .slice B3 m3 d3]) k (invS k) (redT a) b0 b1 b2 b3 b4 b5 b6 b7 b8 b9 v67 v68 v69 v70 v66 v71 v72 v9 v10 w') ?_ ?_ ?_
            · exact ⟨_, _, _, _, _, _, _, _, _, _, _, _, _, _, _, _, _, _, _, rfl, rfl, ⟨(by simp), (by simp), (by simp), (by simp), (by simp), (Below.refl _ x4).drew, (by simp), (by simp), (by simp), (by simp), (by simp), (by simp)⟩⟩
            · rintro i listed act w' hi ⟨b0, b1, b2, b3, b4, b5, b6, b7, b8, b9, v67, v68, v69, v70, v66, v71, v72, v9, v10, rfl, rfl, H⟩
              have hi16 : i < 10 := by
                obtain ⟨-, o, ho, -⟩ := mem_ready.1 hi
                exact (Array.getElem?_eq_some_iff.1 ho).1
              obtain rfl | rfl | rfl | rfl | rfl | rfl | rfl | rfl | rfl | rfl : i = 0 ∨ i = 1 ∨ i = 2 ∨ i = 3 ∨ i = 4 ∨ i = 5 ∨ i = 6 ∨ i = 7 ∨ i = 8 ∨ i = 9 := by omega
              all_goals simp [mem_ready, Region.binds] at hi
              · refine wpOp_hidden rfl fun K hK => ?_
                go_wp2
                refine OnlyN.mk (hK.out _ _ ⟨true, _, _, _, _, _, _, _, _, _, .int .i64 k, _, _, _, _, _, _, _, _, rfl, rfl, ⟨fun _ => rfl, H.h1, H.h2, H.h6, H.h9, H.below, H.h3, H.h4, H.h5, H.h7, H.h8, H.o8⟩⟩)
              · obtain rfl := H.h0 (by simp [hi])
                have HB0 := Lib.hid H.below
                have hcall := inverse_any k w' (HGM.out.ext (HB.out.trans (HB0.out.mono HB.out.size)))
                have HCALL := Lib.hid hcall
                clear hcall
                refine wpOp_hidden rfl fun K hK => ?_
                go_wp2_with (go_at_call 29; refine HCALL.out.mono ?_; intro e w9 hx; obtain ⟨rfl, hb9⟩ := hx; refine Hid.out ?_)
                refine Lib.hid ?_
                have HB9 := Lib.hid hb9
                clear hb9 HCALL
                go_wp2
                refine OnlyN.mk (hK.out _ _ ⟨_, true, _, _, _, _, _, _, _, _, _, .int .i64 (invS k), _, _, _, _, _, _, _, rfl, rfl, ⟨(H.world HB9.out).h0, fun _ => rfl, (H.world HB9.out).h2, (H.world HB9.out).h6, (H.world HB9.out).h9, (H.world HB9.out).below, (H.world HB9.out).h3, (H.world HB9.out).h4, (H.world HB9.out).h5, (H.world HB9.out).h7, (H.world HB9.out).h8, (H.world HB9.out).o8⟩⟩)
              · obtain ⟨g0, g1, g2⟩ := (HU.out.ext H.below).cells
                refine wpOp_hidden rfl fun K hK => ?_
                go_wp2
                refine OnlyN.mk (hK.out _ _ ⟨_, _, true, _, _, _, _, _, _, _, _, _, .agg #[.int .i64 s3, .slice A3 n3 c3, .slice B3 m3 d3], _, _, _, _, _, _, rfl, rfl, ⟨H.h0, H.h1, fun _ => rfl, H.h6, H.h9, H.below, H.h3, H.h4, H.h5, H.h7, H.h8, H.o8⟩⟩)
              · obtain rfl := H.h1 (by simp [hi])
                obtain rfl := H.h2 (by simp [hi])
                have HB0 := Lib.hid H.below
                have hcall := turn_own (k := invS k) (HU.out.ext HB0.out).at_ ((HTAB.out.on (HB.out.trans (HB0.out.mono HB.out.size))).up (HB.out.trans (HB0.out.mono HB.out.size)).size) (HGM.out.ext (HB.out.trans (HB0.out.mono HB.out.size))) (by rw [HUL.out]; exact HL9.out)
                have HCALL := Lib.hid hcall
                clear hcall
                refine wpOp_hidden rfl fun K hK => ?_
                go_wp2_with (go_at_call 24; refine HCALL.out.mono ?_; intro e w9 hx; obtain ⟨bh, rfl, hbk, hb9⟩ := bk_of hx HBK.out HB0.out.size; refine Hid.out ?_)
                refine Lib.hid ?_
                have HB9 := Lib.hid hb9
                have HFP := Lib.hid hbk
                clear hb9 hbk HCALL
                go_wp2
                refine OnlyN.mk (hK.out _ _ ⟨_, _, _, true, _, _, _, _, _, _, _, _, _, .tuple #[vTd bh, .int .i64 0], _, _, _, _, _, rfl, rfl, ⟨(H.world HB9.out).h0, (H.world HB9.out).h1, (H.world HB9.out).h2, (H.world HB9.out).h6, (H.world HB9.out).h9, (H.world HB9.out).below, fun _ => ⟨bh, rfl, HFP.out⟩, (H.world HB9.out).h4, (H.world HB9.out).h5, (H.world HB9.out).h7, (H.world HB9.out).h8, (H.world HB9.out).o8⟩⟩)
              · obtain ⟨bh, ev, hfp⟩ := H.h3 (by simp [hi])
                subst ev
                have HFP := Lib.hid hfp
                clear hfp
                refine wpOp_hidden rfl fun K hK => ?_
                go_wp2
                refine OnlyN.mk (hK.out _ _ ⟨_, _, _, _, true, _, _, _, _, _, _, _, _, _, .tuple #[vTd bh, .int .i64 0], _, _, _, _, rfl, rfl, ⟨H.h0, H.h1, H.h2, H.h6, H.h9, H.below, H.h3, fun _ => ⟨bh, rfl, HFP.out⟩, H.h5, H.h7, H.h8, H.o8⟩⟩)
              · obtain ⟨bh, ev, hfp⟩ := H.h4 (by simp [hi])
                subst ev
                have HFP := Lib.hid hfp
                clear hfp
                refine wpOp_hidden rfl fun K hK => ?_
                go_wp2
                refine OnlyN.mk (hK.out _ _ ⟨_, _, _, _, _, true, _, _, _, _, _, _, _, _, _, vTd bh, _, _, _, rfl, rfl, ⟨H.h0, H.h1, H.h2, H.h6, H.h9, H.below, H.h3, H.h4, fun _ => ⟨bh, rfl, HFP.out⟩, H.h7, H.h8, H.o8⟩⟩)
              · obtain ⟨bh, ev, hfp⟩ := H.h4 (by simp [hi])
                subst ev
                clear hfp
                refine wpOp_hidden rfl fun K hK => ?_
                go_wp2
                refine OnlyN.mk (hK.out _ _ ⟨_, _, _, _, _, _, true, _, _, _, _, _, _, _, _, _, .int .i64 0, _, _, rfl, rfl, ⟨H.h0, H.h1, H.h2, fun _ => rfl, H.h9, H.below, H.h3, H.h4, H.h5, H.h7, H.h8, H.o8⟩⟩)
              · have hbn : Below w'.heap.size w' (w'.alloc (.cells #[.int .i64 0, .slice none 0 0, .slice none 0 0] 25)) := below_new _ _
                have HBN := Lib.hid hbn
                have HSZ0 := Lib.hid H.below.size
                clear hbn
                refine wpOp_hidden rfl fun K hK => ?_
                go_wp2
                refine OnlyN.mk (hK.out _ _ ⟨_, _, _, _, _, _, _, true, _, _, _, _, _, _, _, _, _, .pointer (some ⟨w'.heap.size, 0, none⟩), _, rfl, rfl, ⟨(H.world HBN.out).h0, (H.world HBN.out).h1, (H.world HBN.out).h2, (H.world HBN.out).h6, (H.world HBN.out).h9, (H.world HBN.out).below, (H.world HBN.out).h3, (H.world HBN.out).h4, (H.world HBN.out).h5, fun _ _ => ⟨_, rfl, Blk.new _ _ _, HSZ0.out⟩, fun h => absurd (H.o8 h) (by simp [hi]), fun _ => rfl⟩⟩)
              · obtain ⟨bh, ev, hfp⟩ := H.h5 (by simp [hi])
                subst ev
                obtain ⟨g, ev, hbk, hgw⟩ := H.h7 (by simp [hi]) (by simp [hi])
                subst ev
                have cc0 := hbk.cell_ 0 (.int .i64 0) rfl
                have cc1 := hbk.cell_ 1 (.slice none 0 0) rfl
                have cc2 := hbk.cell_ 2 (.slice none 0 0) rfl
                have ff0 := hbk.frozen 0
                have ff1 := hbk.frozen 1
                have ff2 := hbk.frozen 2
                have HK9 : Hid (Kept (fun x => x = g) w' (((w'.setCell ⟨g, 0, none⟩ (.int .i64 bh.st)).setCell ⟨g, 1, none⟩ (.slice bh.hA bh.ps.length bh.hc)).setCell ⟨g, 2, none⟩ (.slice bh.nA bh.hs.length bh.nc))) := Lib.hid ((((Kept.refl (fun x => x = g) w').setCell (p := ⟨g, 0, none⟩) (Or.inl rfl) _).setCell (p := ⟨g, 1, none⟩) (Or.inl rfl) _).setCell (p := ⟨g, 2, none⟩) (Or.inl rfl) _)
                have HBL := Lib.hid hbk
                have HGW := Lib.hid hgw
                have HFP := Lib.hid hfp
                have HT7 : Hid (b7 = true) := Lib.hid (by simp [hi])
                unfold vTd
                clear hbk hgw hfp
                refine wpOp_hidden rfl fun K hK => ?_
                go_wp2
                refine OnlyN.mk (hK.out _ _ ⟨_, _, _, _, _, _, _, _, true, _, _, _, _, _, _, _, _, _, _, rfl, rfl, ⟨H.h0, H.h1, H.h2, H.h6, H.h9, H.below.trans (HK9.out.to_below H.below.size (fun x hx e => by rw [e] at hx; exact absurd hx (Nat.not_lt_of_le HGW.out))), fun h => (by obtain ⟨bh, x1, x2⟩ := H.h3 h; exact ⟨bh, x1, x2.kept HK9.out HBL.out⟩), fun h => (by obtain ⟨bh, x1, x2⟩ := H.h4 h; exact ⟨bh, x1, x2.kept HK9.out HBL.out⟩), fun h => (by obtain ⟨bh, x1, x2⟩ := H.h5 h; exact ⟨bh, x1, x2.kept HK9.out HBL.out⟩), fun _ h => (by cases h), fun _ => ⟨g, bh, rfl, ((HBL.out.set_ 0 (.int .i64 bh.st)).set_ 1 (.slice bh.hA bh.ps.length bh.hc)).set_ 2 (.slice bh.nA bh.hs.length bh.nc), HFP.out.kept HK9.out HBL.out⟩, fun _ => HT7.out⟩⟩)
              · obtain rfl := H.h6 (by simp [hi])
                refine wpOp_hidden rfl fun K hK => ?_
                go_wp2
                refine OnlyN.mk (hK.out _ _ ⟨_, _, _, _, _, _, _, _, _, true, _, _, _, _, _, _, _, _, .int .i64 0, rfl, rfl, ⟨H.h0, H.h1, H.h2, H.h6, fun _ => rfl, H.below, H.h3, H.h4, H.h5, H.h7, H.h8, H.o8⟩⟩)
            · rintro listed act w' hr ⟨b0, b1, b2, b3, b4, b5, b6, b7, b8, b9, v67, v68, v69, v70, v66, v71, v72, v9, v10, rfl, rfl, H⟩
              have hn := List.eq_nil_iff_forall_not_mem.1 hr
              have r0 := hn 0
              simp [mem_ready, Region.binds] at r0
              subst r0
              have r1 := hn 1
              simp [mem_ready, Region.binds] at r1
              subst r1
              have r2 := hn 2
              simp [mem_ready, Region.binds] at r2
              subst r2
              have r3 := hn 3
              simp [mem_ready, Region.binds] at r3
              subst r3
              have r4 := hn 4
              simp [mem_ready, Region.binds] at r4
              subst r4
              have r5 := hn 5
              simp [mem_ready, Region.binds] at r5
              subst r5
              have r6 := hn 6
              simp [mem_ready, Region.binds] at r6
              subst r6
              have r7 := hn 7
              simp [mem_ready, Region.binds] at r7
              subst r7
              have r8 := hn 8
              simp [mem_ready, Region.binds] at r8
              subst r8
              have r9 := hn 9
              simp [mem_ready, Region.binds] at r9
              subst r9
              try dsimp only
              obtain rfl := H.h0 rfl
              obtain rfl := H.h1 rfl
              obtain rfl := H.h2 rfl
              obtain rfl := H.h6 rfl
              obtain rfl := H.h9 rfl
              obtain ⟨pK, bh, ev, hbk, hfp⟩ := H.h8 rfl
              subst ev
              obtain ⟨sK, AK, psK, cK, BK, hsK, dK⟩ := bh
              dsimp only at hbk
              have hv : TrV w' pK sK AK psK.length cK BK hsK.length dK (redT a) := ⟨hbk, hfp.at_⟩
              have hb := H.below
              clear H hr hn hbk hfp
              have HBx := Lib.hid (HB.out.trans (hb.mono HB.out.size))
              clear HB
              have HB := HBx
              clear HBx
              have Hx := Lib.hid (HA.out.ext hb)
              clear HA
              have HA := Hx
              clear Hx
              have Hx := Lib.hid (HU.out.ext hb)
              clear HU
              have HU := Hx
              clear Hx
              have Hx := Lib.hid (HI.out.ext hb)
              clear HI
              have HI := Hx
              clear Hx
              have HK := Lib.hid hv
              clear hv hb
              obtain ⟨wq, hwq⟩ : ∃ wq, wq = w' := ⟨_, rfl⟩
              rw [← hwq]
              rw [← hwq] at HB
              rw [← hwq] at HA
              rw [← hwq] at HU
              rw [← hwq] at HK
              rw [← hwq] at HI
              clear hwq
              go_upto_region 9 with fail
              refine wp_region_J (by kernel_rfl) (fun listed act w' => ∃ b0 b1 b2 b3 b4 b5 b6 b7 b8 v73 v74 v75 v76 v77 v78 v79 v80 v81, listed = #[b0, b1, b2, b3, b4, b5, b6, b7, b8] ∧ act = Act.mk #[.int .i64 k, .agg #[.int .i64 s1, .slice A1 n1 c1, .slice B1 m1 d1], .slice Ai zs.length ci, undef, .pointer (some ⟨w.heap.size, 0, none⟩), undef, .bool false, .pointer (some ⟨pU, 0, none⟩), .int .i64 0, .pointer (some ⟨pK, 0, none⟩), .int .i64 0, undef, undef, undef, undef, undef, undef, undef, undef, undef, .agg #[.int .i64 s1, .slice A1 n1 c1, .slice B1 m1 d1], .bool true, .bool false, .bool false, .pointer (some ⟨w.heap.size, 1, none⟩), .slice A1 n1 c1, .int .i64 n1, .bool false, .bool false, .bool false, .slice Ai zs.length ci, .int .i64 zs.length, .bool false, .bool false, .bool false, .agg #[.int .i64 s1, .slice A1 n1 c1, .slice B1 m1 d1], .bool true, .bool false, .bool false, undef, .tuple #[.agg #[.int .i64 s3, .slice A3 n3 c3, .slice B3 m3 d3], .int .i64 0], .int .i64 k, .agg #[.int .i64 s1, .slice A1 n1 c1, .slice B1 m1 d1], .tuple #[.agg #[.int .i64 s3, .slice A3 n3 c3, .slice B3 m3 d3], .int .i64 0], .agg #[.int .i64 s3, .slice A3 n3 c3, .slice B3 m3 d3], .int .i64 0, .int .i64 0, .bool false, undef, .int .i64 0, .bool false, .bool false, .pointer (some ⟨pU, 1, none⟩), .slice A3 n3 c3, .bool true, .bool false, .bool false, .bool false, .pointer (some ⟨pU, 1, none⟩), .slice A3 n3 c3, .int .i64 n3, .pointer (some ⟨w.heap.size, 1, none⟩), .slice A1 n1 c1, .int .i64 n1, .bool false, .bool false, v66, .int .i64 k, .int .i64 (invS k), .agg #[.int .i64 s3, .slice A3 n3 c3, .slice B3 m3 d3], v70, v71, .int .i64 0, v73, v74, v75, v76, v77, v78, v79, v80, v81, undef, undef, undef, undef, undef, undef, undef, undef, undef, undef, undef, undef, undef, undef, undef, undef, undef, undef, undef, undef, undef, undef, undef, undef, undef, undef, undef, undef, undef, undef, undef, undef, undef, undef, undef, undef, undef, undef, undef, undef, undef, undef, undef, undef, undef, undef, undef, undef, undef, undef, undef, undef, undef, undef, undef, undef, undef, undef, undef, undef, undef, undef, undef, undef, undef] [] ∧ TdC wq (.agg #[.int .i64 sK, .slice AK psK.length cK, .slice BK hsK.length dK]) (.agg #[.int .i64 s1, .slice A1 n1 c1, .slice B1 m1 d1]) a b0 b1 b2 b3 b4 b5 b6 b7 b8 v73 v74 v75 v76 v77 v78 v79 v80 v81 w') ?_ ?_ ?_
              · exact ⟨_, _, _, _, _, _, _, _, _, _, _, _, _, _, _, _, _, _, rfl, rfl, ⟨(by simp), (by simp), (by simp), (by simp), (by simp), (by simp), (by simp), (by simp), (Below.refl _ wq).drew, (by simp)⟩⟩
              · rintro i listed act w' hi ⟨b0, b1, b2, b3, b4, b5, b6, b7, b8, v73, v74, v75, v76, v77, v78, v79, v80, v81, rfl, rfl, H⟩
                have hi16 : i < 9 := by
                  obtain ⟨-, o, ho, -⟩ := mem_ready.1 hi
                  exact (Array.getElem?_eq_some_iff.1 ho).1
                obtain rfl | rfl | rfl | rfl | rfl | rfl | rfl | rfl | rfl : i = 0 ∨ i = 1 ∨ i = 2 ∨ i = 3 ∨ i = 4 ∨ i = 5 ∨ i = 6 ∨ i = 7 ∨ i = 8 := by omega
                all_goals simp [mem_ready, Region.binds] at hi
                · refine wpOp_hidden rfl fun K hK => ?_
                  go_wp2
                  refine OnlyN.mk (hK.out _ _ ⟨true, _, _, _, _, _, _, _, _, .int .i64 0, _, _, _, _, _, _, _, _, rfl, rfl, ⟨fun _ => rfl, H.h1, H.h2, H.h3, H.h4, H.h6, H.h7, H.h8, H.below, H.t5⟩⟩)
                · obtain rfl := H.h0 (by simp [hi])
                  refine wpOp_hidden rfl fun K hK => ?_
                  go_wp2
                  refine OnlyN.mk (hK.out _ _ ⟨_, true, _, _, _, _, _, _, _, _, .bool false, _, _, _, _, _, _, _, rfl, rfl, ⟨H.h0, fun _ => rfl, H.h2, H.h3, H.h4, H.h6, H.h7, H.h8, H.below, H.t5⟩⟩)
                · obtain rfl := H.h1 (by simp [hi])
                  refine wpOp_hidden rfl fun K hK => ?_
                  go_wp2
                  refine OnlyN.mk (hK.out _ _ ⟨_, _, true, _, _, _, _, _, _, _, _, .bool false, _, _, _, _, _, _, rfl, rfl, ⟨H.h0, H.h1, fun _ => rfl, H.h3, H.h4, H.h6, H.h7, H.h8, H.below, H.t5⟩⟩)
                · obtain rfl := H.h2 (by simp [hi])
                  obtain ⟨g0, g1, g2⟩ := (HK.out.ext H.below).cells
                  refine wpOp_hidden rfl fun K hK => ?_
                  go_wp2
                  refine OnlyN.mk (hK.out _ _ ⟨_, _, _, true, _, _, _, _, _, _, _, _, .agg #[.int .i64 sK, .slice AK psK.length cK, .slice BK hsK.length dK], _, _, _, _, _, rfl, rfl, ⟨H.h0, H.h1, H.h2, fun _ => rfl, H.h4, H.h6, H.h7, H.h8, H.below, H.t5⟩⟩)
                · obtain rfl := H.h2 (by simp [hi])
                  obtain ⟨g0, g1, g2⟩ := (HA.out.ext H.below).cells
                  refine wpOp_hidden rfl fun K hK => ?_
                  go_wp2
                  refine OnlyN.mk (hK.out _ _ ⟨_, _, _, _, true, _, _, _, _, _, _, _, _, .agg #[.int .i64 s1, .slice A1 n1 c1, .slice B1 m1 d1], _, _, _, _, rfl, rfl, ⟨H.h0, H.h1, H.h2, H.h3, fun _ => rfl, H.h6, H.h7, H.h8, H.below, H.t5⟩⟩)
                · obtain rfl := H.h2 (by simp [hi])
                  obtain rfl := H.h4 (by simp [hi])
                  have HB0 := Lib.hid (H.below)
                  have hcall := red_tv (HA.out.ext HB0.out).at_ ((HTAB.out.on (HB.out.trans (HB0.out.mono HB.out.size))).up (HB.out.trans (HB0.out.mono HB.out.size)).size)
                  have HCALL := Lib.hid hcall
                  clear hcall
                  refine wpOp_hidden rfl fun K hK => ?_
                  go_wp2_with (go_at_call 12; refine HCALL.out.mono ?_; intro e w9 hx; obtain ⟨s9, A9, n9, c9, B9, m9, d9, rfl, hat, hb9⟩ := hx; refine Hid.out ?_)
                  refine Lib.hid ?_
                  have HB9 := Lib.hid hb9
                  have HAT := Lib.hid hat
                  clear hat
                  clear hb9 HCALL
                  go_wp2
                  refine OnlyN.mk (hK.out _ _ ⟨_, _, _, _, _, true, _, _, _, _, _, _, _, _, .agg #[.int .i64 s9, .slice A9 n9 c9, .slice B9 m9 d9], _, _, _, rfl, rfl, ⟨(H.world HB9.out).h0, (H.world HB9.out).h1, (H.world HB9.out).h2, (H.world HB9.out).h3, (H.world HB9.out).h4, (H.world HB9.out).h6, (H.world HB9.out).h7, (H.world HB9.out).h8, (H.world HB9.out).below, fun _ => HAT.out⟩⟩)
                · obtain rfl := H.h2 (by simp [hi])
                  obtain rfl := H.h3 (by simp [hi])
                  have ht5 := H.t5 (by simp [hi])
                  have HB0 := Lib.hid (H.below)
                  have hcall := rsamet_at (HK.out.ext HB0.out).at_ ht5
                  rw [ex_same] at hcall
                  have HCALL := Lib.hid hcall
                  clear hcall
                  refine wpOp_hidden rfl fun K hK => ?_
                  go_wp2_with (go_at_call 11; refine HCALL.out.mono ?_; intro e w9 hx; obtain ⟨rfl, hb9⟩ := hx; refine Hid.out ?_)
                  refine Lib.hid ?_
                  have HB9 := Lib.hid hb9
                  clear hb9 HCALL
                  go_wp2
                  refine OnlyN.mk (hK.out _ _ ⟨_, _, _, _, _, _, true, _, _, _, _, _, _, _, _, .bool true, _, _, rfl, rfl, ⟨(H.world HB9.out).h0, (H.world HB9.out).h1, (H.world HB9.out).h2, (H.world HB9.out).h3, (H.world HB9.out).h4, fun _ => rfl, (H.world HB9.out).h7, (H.world HB9.out).h8, (H.world HB9.out).below, (H.world HB9.out).t5⟩⟩)
                · obtain rfl := H.h2 (by simp [hi])
                  obtain rfl := H.h6 (by simp [hi])
                  refine wpOp_hidden rfl fun K hK => ?_
                  go_wp2
                  refine OnlyN.mk (hK.out _ _ ⟨_, _, _, _, _, _, _, true, _, _, _, _, _, _, _, _, .bool false, _, rfl, rfl, ⟨H.h0, H.h1, H.h2, H.h3, H.h4, H.h6, fun _ => rfl, H.h8, H.below, H.t5⟩⟩)
                · obtain rfl := H.h2 (by simp [hi])
                  obtain rfl := H.h7 (by simp [hi])
                  refine wpOp_hidden rfl fun K hK => ?_
                  go_wp2
                  refine OnlyN.mk (hK.out _ _ ⟨_, _, _, _, _, _, _, _, true, _, _, _, _, _, _, _, _, .bool false, rfl, rfl, ⟨H.h0, H.h1, H.h2, H.h3, H.h4, H.h6, H.h7, fun _ => rfl, H.below, H.t5⟩⟩)
              · rintro listed act w' hr ⟨b0, b1, b2, b3, b4, b5, b6, b7, b8, v73, v74, v75, v76, v77, v78, v79, v80, v81, rfl, rfl, H⟩
                have hn := List.eq_nil_iff_forall_not_mem.1 hr
                have r0 := hn 0
                simp [mem_ready, Region.binds] at r0
                subst r0
                have r1 := hn 1
                simp [mem_ready, Region.binds] at r1
                subst r1
                have r2 := hn 2
                simp [mem_ready, Region.binds] at r2
                subst r2
                have r3 := hn 3
                simp [mem_ready, Region.binds] at r3
                subst r3
                have r4 := hn 4
                simp [mem_ready, Region.binds] at r4
                subst r4
                have r5 := hn 5
                simp [mem_ready, Region.binds] at r5
                subst r5
                have r6 := hn 6
                simp [mem_ready, Region.binds] at r6
                subst r6
                have r7 := hn 7
                simp [mem_ready, Region.binds] at r7
                subst r7
                have r8 := hn 8
                simp [mem_ready, Region.binds] at r8
                subst r8
                try dsimp only
                obtain rfl := H.h8 rfl
                have hb := H.below
                clear H hr hn
                have HBx := Lib.hid (HB.out.trans (hb.mono HB.out.size))
                clear HB
                have HB := HBx
                clear HBx
                have Hx := Lib.hid (HA.out.ext hb)
                clear HA
                have HA := Hx
                clear Hx
                have Hx := Lib.hid (HU.out.ext hb)
                clear HU
                have HU := Hx
                clear Hx
                have Hx := Lib.hid (HK.out.ext hb)
                clear HK
                have HK := Hx
                clear Hx
                have Hx := Lib.hid (HI.out.ext hb)
                clear HI
                have HI := Hx
                clear Hx
                clear hb
                clear HK
                obtain ⟨ev, hev⟩ : ∃ q, q = evalP a zs := ⟨_, rfl⟩
                have HEV := Lib.hid hev
                clear hev
                obtain ⟨cA0, cA1, cA2⟩ := HA.out.cells
                have hcall := eval_tv (cv := ci) HA.out.at_ HI.out
                rw [← HEV.out] at hcall
                have HCALL := Lib.hid hcall
                clear hcall
                go_wp2_with (go_at_call 30; refine HCALL.out.mono ?_; intro e x5 hx; obtain ⟨rfl, hb⟩ := hx; refine Hid.out ?_)
                refine Lib.hid ?_
                have HBx := Lib.hid (HB.out.trans (hb.mono HB.out.size))
                clear HB
                have HB := HBx
                clear HBx
                have Hx := Lib.hid (HA.out.ext hb)
                clear HA
                have HA := Hx
                clear Hx
                have Hx := Lib.hid (HU.out.ext hb)
                clear HU
                have HU := Hx
                clear Hx
                have Hx := Lib.hid (HI.out.ext hb)
                clear HI
                have HI := Hx
                clear Hx
                clear hb HCALL
                clear cA0 cA1 cA2
                obtain ⟨v, g0⟩ := ev
                try dsimp only
                by_cases hg0 : g0 = 0
                · subst hg0
                  have hev := HEV.out
                  obtain ⟨hzl, gg, hq1, hq2⟩ := turned_eval HTI.out HRA.out HUR.out (zs := zs) (by rw [← hev])
                  rw [← hev] at hq2
                  dsimp only at hq2
                  have HZL := Lib.hid hzl
                  have HQ1 := Lib.hid hq1
                  have HQ2 := Lib.hid hq2
                  clear hev hq1 hq2
                  obtain ⟨i0, hi0, hz0, hz1, hz2⟩ := info_parts Tryd.infoInt
                  have hz9 : zs.length ≤ 9 := by rw [hzl]; exact HL9.out
                  have HZ9 := Lib.hid hz9
                  clear hzl
                  go_wp2_with (at_make; refine wpList_make_full _ rfl _ _ 31 rfl x5.heap.size 3 i0 _ 1 Tryd.underlying31 hi0 hz0 hz1 .i64 .i64 zs.length zs.length zs.length rfl rfl rfl rfl (by rw [hz2]; omega) (by unfold maxLen; omega) (Nat.le_refl _) ?_)
                  intro w2 ho2 hg2
                  have hb2 : Below x5.heap.size x5 w2 := (Below.refl _ x5).grown hg2 (Nat.le_refl _) (by intro k hk; cases hk)
                  have hr2 : OwnIA w2 x5.heap.size (.slice (some ⟨x5.heap.size, 0, none⟩) zs.length zs.length) (List.replicate zs.length 0) := by
                    unfold OwnIA OwnI
                    rw [List.length_replicate, List.map_replicate]
                    rw [toList_madeCells_one] at ho2
                    exact ho2
                  obtain ⟨gS, hgS⟩ : ∃ gS, gS = x5.heap.size := ⟨_, rfl⟩
                  rw [← hgS] at hr2 ⊢
                  have HGS := Lib.hid hgS
                  have HR2 : Hid (OwnIA w2 gS (.slice (some ⟨gS, 0, none⟩) zs.length zs.length) (sg gg (a.ps.map (symP k)) u.ps 0 0)) := Lib.hid (by rw [sg_start, HUL.out, ← HZL.out]; exact hr2)
                  have HB2 := Lib.hid hb2
                  obtain ⟨cA0, cA1, cA2⟩ := (HA.out.ext hb2).cells
                  have HHR := Lib.hid (hood_rng (rightN_parts HRA.out).2.2.1)
                  have HIML : Hid ((a.ps.map (symP k)).length = n1) := Lib.hid (by rw [List.length_map, HLP.out])
                  have HUN : Hid (u.ps.length = n3) := Lib.hid (by rw [HNU.out, HUL.out, HLP.out])
                  have HIN : Hid (∀ p, p ∈ u.ps ↔ p ∈ (a.ps.map (symP k))) := Lib.hid (fun p => HTI.out.pm.mem_iff)
                  have HZI : Hid (∀ i (h : i < zs.length), zs[i] = gg ((a.ps.map (symP k)).getD i (0, 0))) := Lib.hid (fun i h => by
                    have h2 : i < (a.ps.map (symP k)).length := by rw [List.length_map, ← HZL.out]; exact h
                    have h3 : (a.ps.map (symP k)).getD i (0, 0) = (a.ps.map (symP k))[i] := by rw [List.getD_eq_getElem?_getD, List.getElem?_eq_getElem h2]; rfl
                    have e1 : zs[i] = zs.getD i 0 := by rw [List.getD_eq_getElem?_getD, List.getElem?_eq_getElem h]; rfl
                    rw [h3, e1, ← HQ1.out, List.getD_eq_getElem?_getD, List.getElem?_map, List.getElem?_eq_getElem h2]
                    rfl)
                  have HN1 : Hid (n1 ≤ 9) := Lib.hid (by rw [HLP.out]; exact HL9.out)
                  clear hgS hr2 hg2 ho2 hb2 hz9 hz0 hz1 hz2 hi0
                  go_wp2
                  clear cA0 cA1 cA2
                  go_loopw [97] (fun iv wr => ∃ i : Nat, i ≤ n1 ∧ iv = .int .i64 i ∧ Hid (OwnIA wr gS (.slice (some ⟨gS, 0, none⟩) zs.length zs.length) (sg gg (a.ps.map (symP k)) u.ps i 0)) ∧ Hid (Below x5.heap.size x5 wr)) (fun iv _ => n1 - (intOf iv).toNat)
                  case atStart => exact ⟨0, Nat.zero_le _, rfl, HR2, HB2⟩
                  case round =>
                    clear HR2 HB2
                    obtain ⟨i, hi, rfl, HO, HBR⟩ := hrel
                    have hwi : wrap64 ((i : Int) + 1) = (i : Int) + 1 := by have := HN1.out; unfold wrap64; omega
                    have tA := HA.out.ext HBR.out
                    have HTU := Lib.hid (HU.out.ext HBR.out)
                    obtain ⟨cA0, cA1, cA2⟩ := tA.cells
                    by_cases hil : i < n1
                    · have hia : i < a.ps.length := by rw [← HLP.out]; exact hil
                      obtain ⟨bi, oi, ei, hbi, q0, q1⟩ := tA.at_.hood_.2.at_ hia
                      have hrg := HHR.out _ (List.getElem_mem hia)
                      have him : (a.ps.map (symP k)).getD i (0, 0) = symP k a.ps[i] := by
                        rw [List.getD_eq_getElem?_getD, List.getElem?_eq_getElem (by rw [List.length_map]; exact hia), List.getElem_map]
                        rfl
                      obtain ⟨p, hp⟩ : ∃ p, p = a.ps[i] := ⟨_, rfl⟩
                      rw [← hp] at q0 q1 hrg him
                      obtain ⟨x, y⟩ := p
                      dsimp only at q0 q1 hrg
                      have hap := rapply_any k x y wr (by omega) (by omega)
                      obtain ⟨z, hz⟩ : ∃ z, z = symP k (x, y) := ⟨_, rfl⟩
                      rw [← hz] at hap him
                      obtain ⟨zx, zy⟩ := z
                      dsimp only at hap
                      have HAP := Lib.hid hap
                      have HIM := Lib.hid him
                      have HIL := Lib.hid hil
                      have HMEM : Hid ((zx, zy) ∈ u.ps) := Lib.hid ((HIN.out _).2 (by
                        rw [← him, List.getD_eq_getElem?_getD, List.getElem?_eq_getElem (by rw [List.length_map]; exact hia)]
                        exact List.getElem_mem _))
                      subst ei
                      clear hap him hz hp hrg hbi hia tA hi
                      go_wp2_with (go_at_call 31; refine HAP.out.mono ?_; intro e w5 hx9; obtain ⟨rfl, hb5⟩ := hx9; refine Hid.out ?_)
                      refine Lib.hid ?_
                      clear q0 q1 cA0 cA1 cA2 HAP
                      obtain ⟨w6, hw6⟩ : ∃ w6, w6 = w5.alloc (.cells #[.int .i64 zx, .int .i64 zy] 49) := ⟨_, rfl⟩
                      obtain ⟨p15, hp15⟩ : ∃ p15, p15 = w5.heap.size := ⟨_, rfl⟩
                      have hb6 : Below w5.heap.size w5 w6 := by rw [hw6]; exact below_new _ _
                      have hb56 := hb5.trans (hb6.mono hb5.size)
                      have HB6 : Hid (Below x5.heap.size x5 w6) := Lib.hid (HBR.out.trans (hb56.mono HBR.out.size))
                      have HO6 := Lib.hid (HO.out.ext hb56)
                      have HP15 : Hid (Blk w6 p15 49 #[.int .i64 zx, .int .i64 zy]) := Lib.hid (by rw [hw6, hp15]; exact Blk.new _ _ _)
                      have HPN : Hid (p15 ≠ gS) := Lib.hid (by
                        have h1 := (own_lt' HO.out (g := gS) rfl).1
                        have h2 := hb5.size
                        intro e
                        rw [← hp15, e] at h2
                        exact Nat.lt_irrefl _ (Nat.lt_of_lt_of_le h1 h2))
                      obtain ⟨cU0, cU1, cU2⟩ := (HU.out.ext HB6.out).cells
                      clear hb5 hb6 hb56
                      go_upto_region 19 with fail
                      rw [← hw6, ← hp15]
                      clear hw6 hp15
                      go_wp2
                      clear cU0 cU1 cU2
                      go_loopw [16, 110] (fun fv jv wr => ∃ (j : Nat) (f : Bool), j ≤ n3 ∧ fv = .bool f ∧ jv = .int .i64 j ∧ Hid (f = decide ((zx, zy) ∈ u.ps.take j)) ∧ Hid (OwnIA wr gS (.slice (some ⟨gS, 0, none⟩) zs.length zs.length) (sg gg (a.ps.map (symP k)) u.ps i j)) ∧ Hid (Below x5.heap.size x5 wr) ∧ Hid (Blk wr p15 49 #[.int .i64 zx, .int .i64 zy])) (fun _ jv _ => n3 - (intOf jv).toNat)
                      case atStart => exact ⟨0, false, Nat.zero_le _, rfl, rfl, Lib.hid (by simp), HO6, HB6, HP15⟩
                      case round =>
                        clear HO6 HB6 HP15
                        obtain ⟨j, f, hj, rfl, rfl, HF, HOJ, HBJ, HPJ⟩ := hrel
                        have hwj : wrap64 ((j : Int) + 1) = (j : Int) + 1 := by have := HN1.out; have := HNU.out; unfold wrap64; omega
                        by_cases hjl : j < n3
                        · have tU := HU.out.ext HBJ.out
                          obtain ⟨cU0, cU1, cU2⟩ := tU.cells
                          have hju : j < u.ps.length := by rw [HUN.out]; exact hjl
                          obtain ⟨bj, oj, ej, -, r0, r1⟩ := tU.at_.hood_.2.at_ hju
                          have hgj : u.ps.getD j (0, 0) = u.ps[j] := by rw [List.getD_eq_getElem?_getD, List.getElem?_eq_getElem hju]; rfl
                          have htk : decide ((zx, zy) ∈ u.ps.take (j + 1)) = (decide ((zx, zy) ∈ u.ps.take j) || decide ((zx, zy) = u.ps[j])) := by
                            rw [List.take_succ_eq_append_getElem hju]
                            simp only [List.mem_append, List.mem_singleton, Bool.decide_or]
                          obtain ⟨q, hq⟩ : ∃ q, q = u.ps[j] := ⟨_, rfl⟩
                          rw [← hq] at r0 r1 hgj htk
                          obtain ⟨x', y'⟩ := q
                          dsimp only at r0 r1
                          have x0 := HPJ.out.cell_ 0 (.int .i64 zx) rfl
                          have x1 := HPJ.out.cell_ 1 (.int .i64 zy) rfl
                          have HJL := Lib.hid hjl
                          have HJU := Lib.hid hju
                          have HGJ := Lib.hid hgj
                          have HTK := Lib.hid htk
                          subst ej
                          clear hq hgj htk hju tU hj
                          by_cases hxe : x' = zx
                          · have e1 : (x' == zx) = true := by simp [hxe]
                            by_cases hye : y' = zy
                            · have e2 : (y' == zy) = true := by simp [hye]
                              have HF2 : Hid (true = decide ((zx, zy) ∈ u.ps.take (j + 1))) := Lib.hid (by rw [HTK.out, hxe, hye]; simp)
                              have HSG := Lib.hid (sg_hit (g := gg) (im := (a.ps.map (symP k))) (i := i) HJU.out (by rw [HGJ.out, HIM.out, hxe, hye]))
                              clear hxe hye
                              go_upto_region 22 with fail
                              go_quiet (fail)
                              obtain ⟨wd, hwd⟩ : ∃ wd, wd = wr.drewN nq := ⟨_, rfl⟩
                              have how : OwnIA wd gS (.slice (some ⟨gS, 0, none⟩) zs.length zs.length) (sg gg (a.ps.map (symP k)) u.ps i j) := by rw [hwd]; exact HOJ.out
                              have hbd : Below x5.heap.size x5 wd := by rw [hwd]; exact below_drewN HBJ.out _
                              have hpd : Blk wd p15 49 #[.int .i64 zx, .int .i64 zy] := by rw [hwd]; exact HPJ.out
                              rw [← hwd]
                              clear hwd r0 r1 x0 x1 cU0 cU1 cU2 e1 e2
                              have hiz : i < zs.length := by rw [HZL.out, ← HLP.out]; exact HIL.out
                              obtain ⟨bz, oz, ez, -, gz⟩ := (HI.out.ext hbd).at_ hiz
                              rw [HZI.out i hiz] at gz
                              have hjs : j < (sg gg (a.ps.map (symP k)) u.ps i j).length := by rw [sg_len]; exact HJU.out
                              have hck := how.cellk (k := j) hjs
                              have hcc := hck.1
                              have hcf := hck.2
                              have hjz : j < zs.length := by rw [HZL.out, ← HUL.out]; exact HJU.out
                              have hset := how.set (by rw [sg_len, HUL.out, HZL.out]) j (gg ((a.ps.map (symP k)).getD i (0, 0)))
                              rw [HSG.out] at hset
                              have HSET := Lib.hid hset
                              have hkp := (Kept.refl (fun g => g = gS) wd).setCell (p := ⟨gS, j, none⟩) (Or.inl rfl) (.int .i64 (gg ((a.ps.map (symP k)).getD i (0, 0))))
                              have HPS := Lib.hid (hkp.blk hpd (fun e => HPN.out e))
                              have HBS : Hid (Below x5.heap.size x5 (wd.setCell ⟨gS, j, none⟩ (.int .i64 (gg ((a.ps.map (symP k)).getD i (0, 0)))))) := Lib.hid (hbd.setCell (p := ⟨gS, j, none⟩) (by rw [HGS.out]; exact Nat.le_refl _) _)
                              obtain ⟨zv, hzv⟩ : ∃ zv, zv = gg ((a.ps.map (symP k)).getD i (0, 0)) := ⟨_, rfl⟩
                              rw [← hzv] at gz HSET HPS HBS
                              subst ez
                              clear how hbd hpd hck hset hkp hzv hjs
                              go_wp2
                              go_roundw
                              case rel => exact ⟨j + 1, true, HJL.out, rfl, (by first | rfl | (rw [hwj]; rfl)), HF2, HSET, HBS, HPS⟩
                              case measure => (try rw [hwj]); exact meas_step HJL.out
                            · have e2 : (y' == zy) = false := by simpa using hye
                              have HF2 : Hid (f = decide ((zx, zy) ∈ u.ps.take (j + 1))) := Lib.hid (by rw [HTK.out, ← HF.out, decide_eq_false (fun e => hye (congrArg Prod.snd e).symm), Bool.or_false])
                              have HSG := Lib.hid (sg_miss (g := gg) (us := u.ps) (im := (a.ps.map (symP k))) (i := i) (j := j) (by rw [HGJ.out, HIM.out]; exact fun e => hye (congrArg Prod.snd e)))
                              clear hye
                              go_upto_region 22 with fail
                              go_quiet (fail)
                              clear r0 r1 x0 x1 cU0 cU1 cU2 hjl
                              go_wp2
                              go_roundw
                              case rel => exact ⟨j + 1, f, HJL.out, rfl, (by first | rfl | (rw [hwj]; rfl)), HF2, Lib.hid (by rw [HSG.out]; exact HOJ.out.drewN _), Lib.hid (below_drewN HBJ.out _), HPJ⟩
                              case measure => (try rw [hwj]); exact meas_step HJL.out
                          · have e1 : (x' == zx) = false := by simpa using hxe
                            have HF2 : Hid (f = decide ((zx, zy) ∈ u.ps.take (j + 1))) := Lib.hid (by rw [HTK.out, ← HF.out, decide_eq_false (fun e => hxe (congrArg Prod.fst e).symm), Bool.or_false])
                            have HSG := Lib.hid (sg_miss (g := gg) (us := u.ps) (im := (a.ps.map (symP k))) (i := i) (j := j) (by rw [HGJ.out, HIM.out]; exact fun e => hxe (congrArg Prod.fst e)))
                            clear hxe
                            go_upto_region 22 with fail
                            go_quiet (fail)
                            clear r0 r1 x0 x1 cU0 cU1 cU2 hjl
                            go_wp2
                            go_roundw
                            case rel => exact ⟨j + 1, f, HJL.out, rfl, (by first | rfl | (rw [hwj]; rfl)), HF2, Lib.hid (by rw [HSG.out]; exact HOJ.out.drewN _), Lib.hid (below_drewN HBJ.out _), HPJ⟩
                            case measure => (try rw [hwj]); exact meas_step HJL.out
                        · have hje : j = n3 := Nat.le_antisymm hj (Nat.le_of_not_lt hjl)
                          have hft : f = true := by
                            rw [HF.out, hje, ← HUN.out, List.take_length]
                            exact decide_eq_true HMEM.out
                          have HOE : Hid (OwnIA wr gS (.slice (some ⟨gS, 0, none⟩) zs.length zs.length) (sg gg (a.ps.map (symP k)) u.ps (i + 1) 0)) := Lib.hid (by
                            rw [← sg_next (by rw [HIML.out]; exact HIL.out), HUN.out, ← hje]
                            exact HOJ.out)
                          subst hft
                          clear hje hj
                          go_wp2
                          go_roundw
                          case rel => exact ⟨i + 1, HIL.out, (by first | rfl | (rw [hwi]; rfl)), HOE, HBJ⟩
                          case measure => (try rw [hwi]); exact meas_step HIL.out
                    · have hie : i = n1 := Nat.le_antisymm hi (Nat.le_of_not_lt hil)
                      have how := HO.out
                      rw [hie, ← HIML.out, sg_end (fun p hp => (HIN.out p).1 hp)] at how
                      have HIS := Lib.hid how.reads
                      clear how hie hi cA0 cA1 cA2 tA
                      have HBx := Lib.hid (HB.out.trans (HBR.out.mono HB.out.size))
                      clear HB
                      have HB := HBx
                      clear HBx
                      have Hx := Lib.hid (HA.out.ext HBR.out)
                      clear HA
                      have HA := Hx
                      clear Hx
                      have Hx := Lib.hid (HU.out.ext HBR.out)
                      clear HU
                      have HU := Hx
                      clear Hx
                      have Hx := Lib.hid (HI.out.ext HBR.out)
                      clear HI
                      have HI := Hx
                      clear Hx
                      obtain ⟨cU0, cU1, cU2⟩ := HU.out.cells
                      have hcall := eval_tv (cv := zs.length) HU.out.at_ HIS.out
                      rw [HQ2.out, List.length_map, HUL.out, ← HZL.out] at hcall
                      have HCALL := Lib.hid hcall
                      clear hcall
                      go_wp2_with (go_at_call 30; refine HCALL.out.mono ?_; intro e x6 hx; obtain ⟨rfl, hb⟩ := hx; refine Hid.out ?_)
                      refine Lib.hid ?_
                      have HBx := Lib.hid (HB.out.trans (hb.mono HB.out.size))
                      clear HB
                      have HB := HBx
                      clear HBx
                      have Hx := Lib.hid (HA.out.ext hb)
                      clear HA
                      have HA := Hx
                      clear Hx
                      have Hx := Lib.hid (HU.out.ext hb)
                      clear HU
                      have HU := Hx
                      clear Hx
                      have Hx := Lib.hid (HI.out.ext hb)
                      clear HI
                      have HI := Hx
                      clear Hx
                      clear hb HCALL
                      clear cU0 cU1 cU2
                      have hcall := awake_any _ ((HTAB.out.on HB.out).up HB.out.size) (HGM.out.ext HB.out)
                      have HCALL := Lib.hid hcall
                      clear hcall
                      go_wp2_with (go_at_call 10; refine HCALL.out.mono ?_; intro e x7 hx; obtain ⟨rfl, hb⟩ := hx; refine Hid.out ?_)
                      refine Lib.hid ?_
                      have HBx := Lib.hid (HB.out.trans (hb.mono HB.out.size))
                      clear HB
                      have HB := HBx
                      clear HBx
                      have Hx := Lib.hid (HA.out.ext hb)
                      clear HA
                      have HA := Hx
                      clear Hx
                      have Hx := Lib.hid (HU.out.ext hb)
                      clear HU
                      have HU := Hx
                      clear Hx
                      have Hx := Lib.hid (HI.out.ext hb)
                      clear HI
                      have HI := Hx
                      clear Hx
                      clear hb HCALL
                      go_wp2
                      go_ret
                      exact ⟨rfl, HB.out⟩
                · have eg : (g0 != 0) = true := by simpa using hg0
                  clear hg0
                  have hcall := awake_any _ ((HTAB.out.on HB.out).up HB.out.size) (HGM.out.ext HB.out)
                  have HCALL := Lib.hid hcall
                  clear hcall
                  go_wp2_with (go_at_call 10; refine HCALL.out.mono ?_; intro e x6 hx; obtain ⟨rfl, hb⟩ := hx; refine Hid.out ?_)
                  refine Lib.hid ?_
                  have HBx := Lib.hid (HB.out.trans (hb.mono HB.out.size))
                  clear HB
                  have HB := HBx
                  clear HBx
                  have Hx := Lib.hid (HA.out.ext hb)
                  clear HA
                  have HA := Hx
                  clear Hx
                  have Hx := Lib.hid (HU.out.ext hb)
                  clear HU
                  have HU := Hx
                  clear Hx
                  have Hx := Lib.hid (HI.out.ext hb)
                  clear HI
                  have HI := Hx
                  clear Hx
                  clear hb HCALL
                  go_wp2
                  go_ret
                  exact ⟨rfl, HB.out⟩
end Go.Proofs.YtojnnfihpiegoaaDoor
