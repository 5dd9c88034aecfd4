/-
  cellularlaw14.TotaltreeCounts: the walk. No condition but that the library's table is there.
-/
import Derived.Test.YtmlhkbgifnifdaaGreatDoorZG24
import Derived.Test.YtmlhkbgifnifdaaGreatDoorZRTot
namespace Go.Proofs.YtmlhkbgifnifdaaGreatDoor
open Go.RowKit Go.Maps
set_option maxRecDepth 100000
set_option linter.unusedVariables false
set_option linter.unusedSimpArgs false
theorem sameP_self (t : PT) : sameP t t = true := by
  unfold sameP
  simp
theorem cnt_zero (c n : Nat) : ∀ i, cntTo c (List.replicate n (0 : Int)) i = 0
  | 0 => rfl
  | i + 1 => by
    unfold cntTo
    have h : (List.replicate n (0 : Int)).getD i 0 = 0 := by
      rw [List.getD_eq_getElem?_getD, List.getElem?_replicate]
      split <;> rfl
    rw [if_neg (by rw [h]; exact fun h => absurd h.2 (by decide)), cnt_zero c n i]
theorem tot_quiet {x : TotL} (h : rightT x = true) : quietP (totT x).1 = !decide ((0 : Int) ∈ x.birth) := by
  obtain ⟨t1, t2, t3⟩ := tot_parts h
  rw [totT_eq h]
  have hr : PT.right ⟨x.states, x.hood, totN x⟩ = true := t3
  obtain ⟨k1, k2, k3⟩ := rightT_parts h
  unfold quietP
  rw [hr, Bool.true_and]
  dsimp only
  rw [t2 (List.replicate x.hood.length 0) List.length_replicate (fun t ht => by rw [List.eq_of_mem_replicate ht]; omega), List.map_replicate]
  unfold valP
  rw [show (((0 : Nat) : Int)) = (0 : Int) from rfl, cnt_zero]
  have hg : (List.replicate x.hood.length (0 : Int)).getD (ctrP x.hood).toNat 0 = 0 := by
    rw [List.getD_eq_getElem?_getD, List.getElem?_replicate]
    split <;> rfl
  rw [hg]
  unfold nextT
  rw [if_pos rfl, show (((0 : Nat) : Int)) = (0 : Int) from rfl]
  by_cases h0 : (0 : Int) ∈ x.birth
  · rw [if_pos h0, decide_eq_true h0]; rfl
  · rw [if_neg h0, decide_eq_false h0]; rfl
section
variable {w w' : World} {p : Nat} {s : Int} {A B C : Option Addr} {n a m b k c : Nat} {x y : TotL} {v : Value}
theorem short_tv (h : TtV w p A n a s B m b C k c x) : Calls Tryz.prog 13 #[.agg #[.slice A n a, .int .i64 s, .slice B m b, .slice C k c]] w fun e w' => e = .returned (.bool (shortT x)) ∧ Below w.heap.size w w' := by
  rw [h.val]; exact short_any _ _ _ _ _ _ _ _ h.at_
theorem rtotals_tv (h : TtV w p A n a s B m b C k c x) : Calls Tryz.prog 14 #[.agg #[.slice A n a, .int .i64 s, .slice B m b, .slice C k c]] w (RetAE (totT x) w) := by
  rw [h.val]; exact rtotals_any _ _ _ _ _ _ _ _ h.at_
theorem has_b (hz : Ints w B x.birth) : Calls Tryz.prog 16 #[.slice B x.birth.length b, .int .i64 0] w fun e w' => e = .returned (.bool (decide ((0 : Int) ∈ x.birth))) ∧ Below w.heap.size w w' :=
  (has_any B x.birth b 0 w hz).mono fun _ _ ⟨h1, h2⟩ => ⟨h1, by rw [h2]; exact Below.refl _ _⟩
end
structure LcoJ (W : World) (agT : Value) (agX : Value) (agY : Value) (pv : Value) (sv : Value) (hb0 : Bool) (b0 b1 b2 b3 b4 b5 b6 b7 b8 b9 b10 b11 b12 b13 b14 b15 b16 b17 b18 : Bool) (v40 v41 v42 v43 v44 v45 v46 v47 v48 v49 v50 v51 v52 v53 v54 v55 v56 v57 v2 : Value) (w : World) : Prop where
  h0 : b0 = true → v40 = .bool true
  h1 : b1 = true → v41 = .bool true
  h2 : b2 = true → v42 = agX
  h3 : b3 = true → v43 = agY
  h4 : b4 = true → v44 = .bool true
  h5 : b5 = true → v45 = .bool true
  h6 : b6 = true → v46 = .bool true
  h7 : b7 = true → v47 = agT
  h8 : b8 = true → v48 = .bool (!hb0)
  h9 : b9 = true → v49 = pv
  h10 : b10 = true → v50 = sv
  h11 : b11 = true → v51 = .bool hb0
  h12 : b12 = true → v52 = .bool (!hb0)
  h13 : b13 = true → v53 = .bool true
  h14 : b14 = true → v54 = .bool true
  h15 : b15 = true → v55 = .bool true
  h16 : b16 = true → v56 = .bool true
  h17 : b17 = true → v57 = .bool true
  h18 : b18 = true → v2 = .bool true
  below : Below W.heap.size W w
section
variable {W : World} {agT : Value} {agX : Value} {agY : Value} {pv : Value} {sv : Value} {hb0 : Bool} {b0 b1 b2 b3 b4 b5 b6 b7 b8 b9 b10 b11 b12 b13 b14 b15 b16 b17 b18 : Bool} {v40 v41 v42 v43 v44 v45 v46 v47 v48 v49 v50 v51 v52 v53 v54 v55 v56 v57 v2 : Value} {w w' : World}
theorem LcoJ.world (H : LcoJ W agT agX agY pv sv hb0 b0 b1 b2 b3 b4 b5 b6 b7 b8 b9 b10 b11 b12 b13 b14 b15 b16 b17 b18 v40 v41 v42 v43 v44 v45 v46 v47 v48 v49 v50 v51 v52 v53 v54 v55 v56 v57 v2 w) (hb : Below w.heap.size w w') : LcoJ W agT agX agY pv sv hb0 b0 b1 b2 b3 b4 b5 b6 b7 b8 b9 b10 b11 b12 b13 b14 b15 b16 b17 b18 v40 v41 v42 v43 v44 v45 v46 v47 v48 v49 v50 v51 v52 v53 v54 v55 v56 v57 v2 w' :=
  ⟨H.h0, H.h1, H.h2, H.h3, H.h4, H.h5, H.h6, H.h7, H.h8, H.h9, H.h10, H.h11, H.h12, H.h13, H.h14, H.h15, H.h16, H.h17, H.h18, H.below.trans (hb.mono H.below.size)⟩
end
set_option maxHeartbeats 16000000 in
theorem lawCounts_any (x : TotL) (A B C : Option Addr) (a b c : Nat) (w : World) (hx : TotR w A B C x) (ht : TabB w.heap.size w) :
    Calls Tryz.prog 4 #[.agg #[.slice A x.hood.length a, .int .i64 x.states, .slice B x.birth.length b, .slice C x.survive.length c]] w fun e w' => e = .returned (.bool true) ∧ Below w.heap.size w w' := by
  obtain ⟨w0, hw0⟩ : ∃ w0, w0 = w.alloc (.cells #[.slice A x.hood.length a, .int .i64 x.states, .slice B x.birth.length b, .slice C x.survive.length c] 30) := ⟨_, rfl⟩
  have hX := TtV.new (a := a) (b := b) (c := c) hx
  rw [← hw0] at hX
  have HX := Lib.hid hX
  have HB : Hid (Below w.heap.size w w0) := Lib.hid (by rw [hw0]; exact below_new _ _)
  have HW0 := Lib.hid hw0
  have HTAB := Lib.hid ht
  clear hw0 hX hx ht
  cases hs : shortT x with
  | false =>
    obtain ⟨cX0, cX1, cX2, cX3⟩ := HX.out.cells
    go_enter Tryz.func4, Tryz.ntmps4
    go_upto_region 1 with fail
    rw [← HW0.out]
    have hcall := short_tv HX.out
    rw [hs] at hcall
    have HCALL := Lib.hid hcall
    clear hcall
    go_wp2_with (go_at_call 13; refine HCALL.out.mono ?_; intro e x1 hx; obtain ⟨rfl, hb⟩ := hx; refine Hid.out ?_)
    refine Lib.hid ?_
    have HBx := Lib.hid (HB.out.trans (hb.mono HB.out.size))
    clear HB
    have HB := HBx
    clear HBx
    have Hx := Lib.hid (HX.out.ext hb)
    clear HX
    have HX := Hx
    clear Hx
    clear hb HCALL
    clear cX0 cX1 cX2 cX3
    clear hs HW0
    have hcall := alive_any _ ((HTAB.out.on HB.out).up HB.out.size)
    have HCALL := Lib.hid hcall
    clear hcall
    go_wp2_with (go_at_call 6; refine HCALL.out.mono ?_; intro e x2 hx; obtain ⟨rfl, hb⟩ := hx; refine Hid.out ?_)
    refine Lib.hid ?_
    have HBx := Lib.hid (HB.out.trans (hb.mono HB.out.size))
    clear HB
    have HB := HBx
    clear HBx
    have Hx := Lib.hid (HX.out.ext hb)
    clear HX
    have HX := Hx
    clear Hx
    clear hb HCALL
    go_wp2
    go_ret
    exact ⟨rfl, HB.out⟩
  | true =>
    obtain ⟨te, hte⟩ : ∃ te, te = totT x := ⟨_, rfl⟩
    have HTE := Lib.hid hte.symm
    clear hte
    obtain ⟨t, ee⟩ := te
    obtain ⟨cX0, cX1, cX2, cX3⟩ := HX.out.cells
    go_enter Tryz.func4, Tryz.ntmps4
    go_upto_region 1 with fail
    rw [← HW0.out]
    have hcall := short_tv HX.out
    rw [hs] at hcall
    have HCALL := Lib.hid hcall
    clear hcall
    go_wp2_with (go_at_call 13; refine HCALL.out.mono ?_; intro e x1 hx; obtain ⟨rfl, hb⟩ := hx; refine Hid.out ?_)
    refine Lib.hid ?_
    have HBx := Lib.hid (HB.out.trans (hb.mono HB.out.size))
    clear HB
    have HB := HBx
    clear HBx
    have Hx := Lib.hid (HX.out.ext hb)
    clear HX
    have HX := Hx
    clear Hx
    clear hb HCALL
    clear cX0 cX1 cX2 cX3
    clear hs HW0
    go_upto_region 3 with fail
    obtain ⟨cX0, cX1, cX2, cX3⟩ := HX.out.cells
    have hcall := totals_tv HX.out ((HTAB.out.on HB.out).up HB.out.size)
    rw [HTE.out] at hcall
    have HCALL := Lib.hid hcall
    clear hcall
    go_wp2_with (go_at_call 10; refine HCALL.out.mono ?_; intro e x2 hx; obtain ⟨s2, A2, n2, c2, B2, m2, d2, rfl, hat, hb⟩ := hx; refine Hid.out ?_)
    refine Lib.hid ?_
    have HBx := Lib.hid (HB.out.trans (hb.mono HB.out.size))
    clear HB
    have HB := HBx
    clear HBx
    have Hx := Lib.hid (HX.out.ext hb)
    clear HX
    have HX := Hx
    clear Hx
    clear hb HCALL
    clear cX0 cX1 cX2 cX3
    obtain ⟨y2, hw⟩ : ∃ W, W = x2.alloc (.cells #[.int .i64 s2, .slice A2 n2 c2, .slice B2 m2 d2] 25) := ⟨_, rfl⟩
    obtain ⟨pT, hp⟩ : ∃ p, p = x2.heap.size := ⟨_, rfl⟩
    have hv := TrV.new hat
    rw [← hw, ← hp] at hv
    have hb : Below x2.heap.size x2 y2 := by rw [hw]; exact below_new _ _
    have HBx := Lib.hid (HB.out.trans (hb.mono HB.out.size))
    clear HB
    have HB := HBx
    clear HBx
    have Hx := Lib.hid (HX.out.ext hb)
    clear HX
    have HX := Hx
    clear Hx
    have HT := Lib.hid hv
    clear hv hb hat
    go_upto_region 4 with fail
    rw [← hw, ← hp]
    clear hw hp
    obtain ⟨cX0, cX1, cX2, cX3⟩ := HX.out.cells
    have hcall := rtotals_tv HX.out
    rw [HTE.out] at hcall
    have HCALL := Lib.hid hcall
    clear hcall
    go_wp2_with (go_at_call 14; refine HCALL.out.mono ?_; intro e x3 hx; obtain ⟨s3, A3, n3, c3, B3, m3, d3, rfl, hat, hb⟩ := hx; refine Hid.out ?_)
    refine Lib.hid ?_
    have HBx := Lib.hid (HB.out.trans (hb.mono HB.out.size))
    clear HB
    have HB := HBx
    clear HBx
    have Hx := Lib.hid (HT.out.ext hb)
    clear HT
    have HT := Hx
    clear Hx
    have Hx := Lib.hid (HX.out.ext hb)
    clear HX
    have HX := Hx
    clear Hx
    clear hb HCALL
    clear cX0 cX1 cX2 cX3
    obtain ⟨y3, hw⟩ : ∃ W, W = x3.alloc (.cells #[.int .i64 s3, .slice A3 n3 c3, .slice B3 m3 d3] 25) := ⟨_, rfl⟩
    obtain ⟨pU, hp⟩ : ∃ p, p = x3.heap.size := ⟨_, rfl⟩
    have hv := TrV.new hat
    rw [← hw, ← hp] at hv
    have hb : Below x3.heap.size x3 y3 := by rw [hw]; exact below_new _ _
    have HBx := Lib.hid (HB.out.trans (hb.mono HB.out.size))
    clear HB
    have HB := HBx
    clear HBx
    have Hx := Lib.hid (HT.out.ext hb)
    clear HT
    have HT := Hx
    clear Hx
    have Hx := Lib.hid (HX.out.ext hb)
    clear HX
    have HX := Hx
    clear Hx
    have HU := Lib.hid hv
    clear hv hb hat
    go_upto_region 5 with fail
    rw [← hw, ← hp]
    clear hw hp
    obtain ⟨cT0, cT1, cT2⟩ := HT.out.cells
    obtain ⟨cU0, cU1, cU2⟩ := HU.out.cells
    have hcall := rsamet_at HT.out.at_ HU.out.at_
    rw [sameP_self] at hcall
    have HCALL := Lib.hid hcall
    clear hcall
    go_wp2_with (go_at_call 11; refine HCALL.out.mono ?_; intro e x4 hx; obtain ⟨rfl, hb⟩ := hx; refine Hid.out ?_)
    refine Lib.hid ?_
    have HBx := Lib.hid (HB.out.trans (hb.mono HB.out.size))
    clear HB
    have HB := HBx
    clear HBx
    have Hx := Lib.hid (HT.out.ext hb)
    clear HT
    have HT := Hx
    clear Hx
    have Hx := Lib.hid (HU.out.ext hb)
    clear HU
    have HU := Hx
    clear Hx
    have Hx := Lib.hid (HX.out.ext hb)
    clear HX
    have HX := Hx
    clear Hx
    clear hb HCALL
    clear cT0 cT1 cT2 cU0 cU1 cU2
    cases hr : rightT x with
    | false =>
      have HEE : Hid (ee = 2) := Lib.hid (by
        have h := HTE.out
        unfold totT at h
        rw [hr] at h
        exact (congrArg Prod.snd h).symm)
      clear hr
      obtain rfl := HEE.out
      clear HEE
      have hcall := alive_any _ ((HTAB.out.on HB.out).up HB.out.size)
      have HCALL := Lib.hid hcall
      clear hcall
      go_wp2_with (go_at_call 6; refine HCALL.out.mono ?_; intro e x5 hx; obtain ⟨rfl, hb⟩ := hx; refine Hid.out ?_)
      refine Lib.hid ?_
      have HBx := Lib.hid (HB.out.trans (hb.mono HB.out.size))
      clear HB
      have HB := HBx
      clear HBx
      have Hx := Lib.hid (HT.out.ext hb)
      clear HT
      have HT := Hx
      clear Hx
      have Hx := Lib.hid (HU.out.ext hb)
      clear HU
      have HU := Hx
      clear Hx
      have Hx := Lib.hid (HX.out.ext hb)
      clear HX
      have HX := Hx
      clear Hx
      clear hb HCALL
      go_wp2
      go_ret
      exact ⟨rfl, HB.out⟩
    | true =>
      have HEE : Hid (ee = 0) := Lib.hid (by
        have h := HTE.out
        unfold totT at h
        rw [if_pos hr] at h
        exact (congrArg Prod.snd h).symm)
      have HBK : Hid (backP t = (x, true)) := Lib.hid (by
        have h := back_tot hr
        rw [HTE.out] at h
        exact h)
      obtain ⟨hb0, hhb⟩ : ∃ hb, hb = decide ((0 : Int) ∈ x.birth) := ⟨_, rfl⟩
      have HHB := Lib.hid hhb.symm
      have HQ : Hid (quietP t = !hb0) := Lib.hid (by
        have h := tot_quiet hr
        rw [HTE.out] at h
        rw [h, hhb])
      have HSS : Hid (sameTot x x = true) := Lib.hid (by unfold sameTot; simp)
      clear hr hhb
      obtain rfl := HEE.out
      clear HEE
      go_upto_region 9 with fail
      obtain ⟨cT0, cT1, cT2⟩ := HT.out.cells
      have hcall := back_tv HT.out.at_ ((HTAB.out.on HB.out).up HB.out.size)
      rw [HBK.out] at hcall
      have HCALL := Lib.hid hcall
      clear hcall
      go_wp2_with (go_at_call 7; refine HCALL.out.mono ?_; intro e x5 hx; obtain ⟨Ab, ab, Bb, bb, Cb, cb, rfl, htr, hb⟩ := hx; unfold totV; refine Hid.out ?_)
      refine Lib.hid ?_
      have HBx := Lib.hid (HB.out.trans (hb.mono HB.out.size))
      clear HB
      have HB := HBx
      clear HBx
      have Hx := Lib.hid (HT.out.ext hb)
      clear HT
      have HT := Hx
      clear Hx
      have Hx := Lib.hid (HU.out.ext hb)
      clear HU
      have HU := Hx
      clear Hx
      have Hx := Lib.hid (HX.out.ext hb)
      clear HX
      have HX := Hx
      clear Hx
      clear hb HCALL
      clear cT0 cT1 cT2
      obtain ⟨yb, hw⟩ : ∃ W, W = x5.alloc (.cells #[.slice Ab x.hood.length ab, .int .i64 x.states, .slice Bb x.birth.length bb, .slice Cb x.survive.length cb] 30) := ⟨_, rfl⟩
      obtain ⟨pY, hp⟩ : ∃ p, p = x5.heap.size := ⟨_, rfl⟩
      have hv := TtV.new (a := ab) (b := bb) (c := cb) htr
      rw [← hw, ← hp] at hv
      have hb : Below x5.heap.size x5 yb := by rw [hw]; exact below_new _ _
      have HBx := Lib.hid (HB.out.trans (hb.mono HB.out.size))
      clear HB
      have HB := HBx
      clear HBx
      have Hx := Lib.hid (HT.out.ext hb)
      clear HT
      have HT := Hx
      clear Hx
      have Hx := Lib.hid (HU.out.ext hb)
      clear HU
      have HU := Hx
      clear Hx
      have Hx := Lib.hid (HX.out.ext hb)
      clear HX
      have HX := Hx
      clear Hx
      have HY := Lib.hid hv
      clear hv hb htr
      go_upto_region 10 with fail
      rw [← hw, ← hp]
      clear hw hp
      refine wp_region_J (by kernel_rfl) (fun listed act w' => ∃ b0 b1 b2 b3 b4 b5 b6 b7 b8 b9 b10 b11 b12 b13 b14 b15 b16 b17 b18 v40 v41 v42 v43 v44 v45 v46 v47 v48 v49 v50 v51 v52 v53 v54 v55 v56 v57 v2, listed = #[b0, b1, b2, b3, b4, b5, b6, b7, b8, b9, b10, b11, b12, b13, b14, b15, b16, b17, b18] ∧ act = Act.mk #[.agg #[.slice A x.hood.length a, .int .i64 x.states, .slice B x.birth.length b, .slice C x.survive.length c], .pointer (some ⟨w.heap.size, 0, none⟩), v2, .pointer (some ⟨pT, 0, none⟩), .int .i64 0, .pointer (some ⟨pU, 0, none⟩), .int .i64 0, .pointer (some ⟨pY, 0, none⟩), .bool true, .agg #[.slice A x.hood.length a, .int .i64 x.states, .slice B x.birth.length b, .slice C x.survive.length c], .bool true, .bool false, undef, Value.tuple #[.agg #[.int .i64 s2, .slice A2 n2 c2, .slice B2 m2 d2], .int .i64 0], .agg #[.slice A x.hood.length a, .int .i64 x.states, .slice B x.birth.length b, .slice C x.survive.length c], Value.tuple #[.agg #[.int .i64 s2, .slice A2 n2 c2, .slice B2 m2 d2], .int .i64 0], .agg #[.int .i64 s2, .slice A2 n2 c2, .slice B2 m2 d2], .int .i64 0, Value.tuple #[.agg #[.int .i64 s3, .slice A3 n3 c3, .slice B3 m3 d3], .int .i64 0], .agg #[.slice A x.hood.length a, .int .i64 x.states, .slice B x.birth.length b, .slice C x.survive.length c], Value.tuple #[.agg #[.int .i64 s3, .slice A3 n3 c3, .slice B3 m3 d3], .int .i64 0], .agg #[.int .i64 s3, .slice A3 n3 c3, .slice B3 m3 d3], .int .i64 0, .agg #[.int .i64 s2, .slice A2 n2 c2, .slice B2 m2 d2], .agg #[.int .i64 s3, .slice A3 n3 c3, .slice B3 m3 d3], .bool true, .bool false, .bool false, .int .i64 0, .int .i64 0, .bool false, .bool false, .int .i64 0, .bool false, undef, Value.tuple #[.agg #[.slice Ab x.hood.length ab, .int .i64 x.states, .slice Bb x.birth.length bb, .slice Cb x.survive.length cb], .bool true], .agg #[.int .i64 s2, .slice A2 n2 c2, .slice B2 m2 d2], Value.tuple #[.agg #[.slice Ab x.hood.length ab, .int .i64 x.states, .slice Bb x.birth.length bb, .slice Cb x.survive.length cb], .bool true], .agg #[.slice Ab x.hood.length ab, .int .i64 x.states, .slice Bb x.birth.length bb, .slice Cb x.survive.length cb], .bool true, v40, v41, v42, v43, v44, v45, v46, v47, v48, v49, v50, v51, v52, v53, v54, v55, v56, v57] [] ∧ LcoJ yb (.agg #[.int .i64 s2, .slice A2 n2 c2, .slice B2 m2 d2]) (.agg #[.slice A x.hood.length a, .int .i64 x.states, .slice B x.birth.length b, .slice C x.survive.length c]) (.agg #[.slice Ab x.hood.length ab, .int .i64 x.states, .slice Bb x.birth.length bb, .slice Cb x.survive.length cb]) (.pointer (some ⟨w.heap.size, 2, none⟩)) (.slice B x.birth.length b) hb0 b0 b1 b2 b3 b4 b5 b6 b7 b8 b9 b10 b11 b12 b13 b14 b15 b16 b17 b18 v40 v41 v42 v43 v44 v45 v46 v47 v48 v49 v50 v51 v52 v53 v54 v55 v56 v57 v2 w') ?_ ?_ ?_
      · exact ⟨_, _, _, _, _, _, _, _, _, _, _, _, _, _, _, _, _, _, _, _, _, _, _, _, _, _, _, _, _, _, _, _, _, _, _, _, _, _, rfl, rfl, ⟨(by simp), (by simp), (by simp), (by simp), (by simp), (by simp), (by simp), (by simp), (by simp), (by simp), (by simp), (by simp), (by simp), (by simp), (by simp), (by simp), (by simp), (by simp), (by simp), (Below.refl _ yb).drew⟩⟩
      · rintro i listed act w' hi ⟨b0, b1, b2, b3, b4, b5, b6, b7, b8, b9, b10, b11, b12, b13, b14, b15, b16, b17, b18, v40, v41, v42, v43, v44, v45, v46, v47, v48, v49, v50, v51, v52, v53, v54, v55, v56, v57, v2, rfl, rfl, H⟩
        have hi16 : i < 19 := by
          obtain ⟨-, o, ho, -⟩ := mem_ready.1 hi
          exact (Array.getElem?_eq_some_iff.1 ho).1
        obtain rfl | rfl | rfl | rfl | rfl | rfl | rfl | rfl | rfl | rfl | rfl | rfl | rfl | rfl | rfl | rfl | rfl | rfl | rfl : i = 0 ∨ i = 1 ∨ i = 2 ∨ i = 3 ∨ i = 4 ∨ i = 5 ∨ i = 6 ∨ i = 7 ∨ i = 8 ∨ i = 9 ∨ i = 10 ∨ i = 11 ∨ i = 12 ∨ i = 13 ∨ i = 14 ∨ i = 15 ∨ i = 16 ∨ i = 17 ∨ i = 18 := by omega
        all_goals simp [mem_ready, Region.binds] at hi
        · refine wpOp_hidden rfl fun K hK => ?_
          go_wp2
          refine OnlyN.mk (hK.out _ _ ⟨true, _, _, _, _, _, _, _, _, _, _, _, _, _, _, _, _, _, _, .bool true, _, _, _, _, _, _, _, _, _, _, _, _, _, _, _, _, _, _, rfl, rfl, ⟨fun _ => rfl, H.h1, H.h2, H.h3, H.h4, H.h5, H.h6, H.h7, H.h8, H.h9, H.h10, H.h11, H.h12, H.h13, H.h14, H.h15, H.h16, H.h17, H.h18, H.below⟩⟩)
        · obtain rfl := H.h0 (by simp [hi])
          refine wpOp_hidden rfl fun K hK => ?_
          go_wp2
          refine OnlyN.mk (hK.out _ _ ⟨_, true, _, _, _, _, _, _, _, _, _, _, _, _, _, _, _, _, _, _, .bool true, _, _, _, _, _, _, _, _, _, _, _, _, _, _, _, _, _, rfl, rfl, ⟨H.h0, fun _ => rfl, H.h2, H.h3, H.h4, H.h5, H.h6, H.h7, H.h8, H.h9, H.h10, H.h11, H.h12, H.h13, H.h14, H.h15, H.h16, H.h17, H.h18, H.below⟩⟩)
        · obtain ⟨g0, g1, g2, g3⟩ := (HX.out.ext H.below).cells
          obtain rfl := H.h1 (by simp [hi])
          refine wpOp_hidden rfl fun K hK => ?_
          go_wp2
          refine OnlyN.mk (hK.out _ _ ⟨_, _, true, _, _, _, _, _, _, _, _, _, _, _, _, _, _, _, _, _, _, .agg #[.slice A x.hood.length a, .int .i64 x.states, .slice B x.birth.length b, .slice C x.survive.length c], _, _, _, _, _, _, _, _, _, _, _, _, _, _, _, _, rfl, rfl, ⟨H.h0, H.h1, fun _ => rfl, H.h3, H.h4, H.h5, H.h6, H.h7, H.h8, H.h9, H.h10, H.h11, H.h12, H.h13, H.h14, H.h15, H.h16, H.h17, H.h18, H.below⟩⟩)
        · obtain ⟨g0, g1, g2, g3⟩ := (HY.out.ext H.below).cells
          obtain rfl := H.h1 (by simp [hi])
          refine wpOp_hidden rfl fun K hK => ?_
          go_wp2
          refine OnlyN.mk (hK.out _ _ ⟨_, _, _, true, _, _, _, _, _, _, _, _, _, _, _, _, _, _, _, _, _, _, .agg #[.slice Ab x.hood.length ab, .int .i64 x.states, .slice Bb x.birth.length bb, .slice Cb x.survive.length cb], _, _, _, _, _, _, _, _, _, _, _, _, _, _, _, rfl, rfl, ⟨H.h0, H.h1, H.h2, fun _ => rfl, H.h4, H.h5, H.h6, H.h7, H.h8, H.h9, H.h10, H.h11, H.h12, H.h13, H.h14, H.h15, H.h16, H.h17, H.h18, H.below⟩⟩)
        · obtain rfl := H.h1 (by simp [hi])
          obtain rfl := H.h2 (by simp [hi])
          obtain rfl := H.h3 (by simp [hi])
          have HB0 := Lib.hid (H.below)
          have hcall := tsame_tv (HX.out.ext HB0.out) (HY.out.ext HB0.out)
          rw [HSS.out] at hcall
          have HCALL := Lib.hid hcall
          clear hcall
          refine wpOp_hidden rfl fun K hK => ?_
          go_wp2_with (go_at_call 9; refine HCALL.out.mono ?_; intro e w9 hx; obtain ⟨rfl, hb9⟩ := hx; refine Hid.out ?_)
          refine Lib.hid ?_
          have HB9 := Lib.hid hb9
          clear hb9 HCALL
          go_wp2
          refine OnlyN.mk (hK.out _ _ ⟨_, _, _, _, true, _, _, _, _, _, _, _, _, _, _, _, _, _, _, _, _, _, _, .bool true, _, _, _, _, _, _, _, _, _, _, _, _, _, _, rfl, rfl, ⟨(H.world HB9.out).h0, (H.world HB9.out).h1, (H.world HB9.out).h2, (H.world HB9.out).h3, fun _ => rfl, (H.world HB9.out).h5, (H.world HB9.out).h6, (H.world HB9.out).h7, (H.world HB9.out).h8, (H.world HB9.out).h9, (H.world HB9.out).h10, (H.world HB9.out).h11, (H.world HB9.out).h12, (H.world HB9.out).h13, (H.world HB9.out).h14, (H.world HB9.out).h15, (H.world HB9.out).h16, (H.world HB9.out).h17, (H.world HB9.out).h18, (H.world HB9.out).below⟩⟩)
        · obtain rfl := H.h1 (by simp [hi])
          obtain rfl := H.h4 (by simp [hi])
          refine wpOp_hidden rfl fun K hK => ?_
          go_wp2
          refine OnlyN.mk (hK.out _ _ ⟨_, _, _, _, _, true, _, _, _, _, _, _, _, _, _, _, _, _, _, _, _, _, _, _, .bool true, _, _, _, _, _, _, _, _, _, _, _, _, _, rfl, rfl, ⟨H.h0, H.h1, H.h2, H.h3, H.h4, fun _ => rfl, H.h6, H.h7, H.h8, H.h9, H.h10, H.h11, H.h12, H.h13, H.h14, H.h15, H.h16, H.h17, H.h18, H.below⟩⟩)
        · obtain rfl := H.h5 (by simp [hi])
          refine wpOp_hidden rfl fun K hK => ?_
          go_wp2
          refine OnlyN.mk (hK.out _ _ ⟨_, _, _, _, _, _, true, _, _, _, _, _, _, _, _, _, _, _, _, _, _, _, _, _, _, .bool true, _, _, _, _, _, _, _, _, _, _, _, _, rfl, rfl, ⟨H.h0, H.h1, H.h2, H.h3, H.h4, H.h5, fun _ => rfl, H.h7, H.h8, H.h9, H.h10, H.h11, H.h12, H.h13, H.h14, H.h15, H.h16, H.h17, H.h18, H.below⟩⟩)
        · obtain rfl := H.h6 (by simp [hi])
          obtain ⟨g0, g1, g2⟩ := (HT.out.ext H.below).cells
          refine wpOp_hidden rfl fun K hK => ?_
          go_wp2
          refine OnlyN.mk (hK.out _ _ ⟨_, _, _, _, _, _, _, true, _, _, _, _, _, _, _, _, _, _, _, _, _, _, _, _, _, _, .agg #[.int .i64 s2, .slice A2 n2 c2, .slice B2 m2 d2], _, _, _, _, _, _, _, _, _, _, _, rfl, rfl, ⟨H.h0, H.h1, H.h2, H.h3, H.h4, H.h5, H.h6, fun _ => rfl, H.h8, H.h9, H.h10, H.h11, H.h12, H.h13, H.h14, H.h15, H.h16, H.h17, H.h18, H.below⟩⟩)
        · obtain rfl := H.h6 (by simp [hi])
          obtain rfl := H.h7 (by simp [hi])
          have HB0 := Lib.hid (H.below)
          have hcall := quiet_tv (HT.out.ext HB0.out).at_
          rw [HQ.out] at hcall
          have HCALL := Lib.hid hcall
          clear hcall
          refine wpOp_hidden rfl fun K hK => ?_
          go_wp2_with (go_at_call 15; refine HCALL.out.mono ?_; intro e w9 hx; obtain ⟨rfl, hb9⟩ := hx; refine Hid.out ?_)
          refine Lib.hid ?_
          have HB9 := Lib.hid hb9
          clear hb9 HCALL
          go_wp2
          refine OnlyN.mk (hK.out _ _ ⟨_, _, _, _, _, _, _, _, true, _, _, _, _, _, _, _, _, _, _, _, _, _, _, _, _, _, _, .bool (!hb0), _, _, _, _, _, _, _, _, _, _, rfl, rfl, ⟨(H.world HB9.out).h0, (H.world HB9.out).h1, (H.world HB9.out).h2, (H.world HB9.out).h3, (H.world HB9.out).h4, (H.world HB9.out).h5, (H.world HB9.out).h6, (H.world HB9.out).h7, fun _ => rfl, (H.world HB9.out).h9, (H.world HB9.out).h10, (H.world HB9.out).h11, (H.world HB9.out).h12, (H.world HB9.out).h13, (H.world HB9.out).h14, (H.world HB9.out).h15, (H.world HB9.out).h16, (H.world HB9.out).h17, (H.world HB9.out).h18, (H.world HB9.out).below⟩⟩)
        · obtain rfl := H.h6 (by simp [hi])
          refine wpOp_hidden rfl fun K hK => ?_
          go_wp2
          refine OnlyN.mk (hK.out _ _ ⟨_, _, _, _, _, _, _, _, _, true, _, _, _, _, _, _, _, _, _, _, _, _, _, _, _, _, _, _, .pointer (some ⟨w.heap.size, 2, none⟩), _, _, _, _, _, _, _, _, _, rfl, rfl, ⟨H.h0, H.h1, H.h2, H.h3, H.h4, H.h5, H.h6, H.h7, H.h8, fun _ => rfl, H.h10, H.h11, H.h12, H.h13, H.h14, H.h15, H.h16, H.h17, H.h18, H.below⟩⟩)
        · obtain ⟨g0, g1, g2, g3⟩ := (HX.out.ext H.below).cells
          obtain rfl := H.h6 (by simp [hi])
          obtain rfl := H.h9 (by simp [hi])
          refine wpOp_hidden rfl fun K hK => ?_
          go_wp2
          refine OnlyN.mk (hK.out _ _ ⟨_, _, _, _, _, _, _, _, _, _, true, _, _, _, _, _, _, _, _, _, _, _, _, _, _, _, _, _, _, .slice B x.birth.length b, _, _, _, _, _, _, _, _, rfl, rfl, ⟨H.h0, H.h1, H.h2, H.h3, H.h4, H.h5, H.h6, H.h7, H.h8, H.h9, fun _ => rfl, H.h11, H.h12, H.h13, H.h14, H.h15, H.h16, H.h17, H.h18, H.below⟩⟩)
        · obtain rfl := H.h6 (by simp [hi])
          obtain rfl := H.h10 (by simp [hi])
          have HB0 := Lib.hid (H.below)
          have hcall := has_b (b := b) (HX.out.ext HB0.out).at_.birth
          rw [HHB.out] at hcall
          have HCALL := Lib.hid hcall
          clear hcall
          refine wpOp_hidden rfl fun K hK => ?_
          go_wp2_with (go_at_call 16; refine HCALL.out.mono ?_; intro e w9 hx; obtain ⟨rfl, hb9⟩ := hx; refine Hid.out ?_)
          refine Lib.hid ?_
          have HB9 := Lib.hid hb9
          clear hb9 HCALL
          go_wp2
          refine OnlyN.mk (hK.out _ _ ⟨_, _, _, _, _, _, _, _, _, _, _, true, _, _, _, _, _, _, _, _, _, _, _, _, _, _, _, _, _, _, .bool hb0, _, _, _, _, _, _, _, rfl, rfl, ⟨(H.world HB9.out).h0, (H.world HB9.out).h1, (H.world HB9.out).h2, (H.world HB9.out).h3, (H.world HB9.out).h4, (H.world HB9.out).h5, (H.world HB9.out).h6, (H.world HB9.out).h7, (H.world HB9.out).h8, (H.world HB9.out).h9, (H.world HB9.out).h10, fun _ => rfl, (H.world HB9.out).h12, (H.world HB9.out).h13, (H.world HB9.out).h14, (H.world HB9.out).h15, (H.world HB9.out).h16, (H.world HB9.out).h17, (H.world HB9.out).h18, (H.world HB9.out).below⟩⟩)
        · obtain rfl := H.h6 (by simp [hi])
          obtain rfl := H.h11 (by simp [hi])
          refine wpOp_hidden rfl fun K hK => ?_
          go_wp2
          refine OnlyN.mk (hK.out _ _ ⟨_, _, _, _, _, _, _, _, _, _, _, _, true, _, _, _, _, _, _, _, _, _, _, _, _, _, _, _, _, _, _, .bool (!hb0), _, _, _, _, _, _, rfl, rfl, ⟨H.h0, H.h1, H.h2, H.h3, H.h4, H.h5, H.h6, H.h7, H.h8, H.h9, H.h10, H.h11, fun _ => rfl, H.h13, H.h14, H.h15, H.h16, H.h17, H.h18, H.below⟩⟩)
        · obtain rfl := H.h6 (by simp [hi])
          obtain rfl := H.h8 (by simp [hi])
          obtain rfl := H.h12 (by simp [hi])
          refine wpOp_hidden rfl fun K hK => ?_
          go_wp2
          refine OnlyN.mk (hK.out _ _ ⟨_, _, _, _, _, _, _, _, _, _, _, _, _, true, _, _, _, _, _, _, _, _, _, _, _, _, _, _, _, _, _, _, .bool true, _, _, _, _, _, rfl, rfl, ⟨H.h0, H.h1, H.h2, H.h3, H.h4, H.h5, H.h6, H.h7, H.h8, H.h9, H.h10, H.h11, H.h12, fun _ => rfl, H.h14, H.h15, H.h16, H.h17, H.h18, H.below⟩⟩)
        · obtain rfl := H.h6 (by simp [hi])
          obtain rfl := H.h13 (by simp [hi])
          refine wpOp_hidden rfl fun K hK => ?_
          go_wp2
          refine OnlyN.mk (hK.out _ _ ⟨_, _, _, _, _, _, _, _, _, _, _, _, _, _, true, _, _, _, _, _, _, _, _, _, _, _, _, _, _, _, _, _, _, .bool true, _, _, _, _, rfl, rfl, ⟨H.h0, H.h1, H.h2, H.h3, H.h4, H.h5, H.h6, H.h7, H.h8, H.h9, H.h10, H.h11, H.h12, H.h13, fun _ => rfl, H.h15, H.h16, H.h17, H.h18, H.below⟩⟩)
        · obtain rfl := H.h14 (by simp [hi])
          refine wpOp_hidden rfl fun K hK => ?_
          go_wp2
          refine OnlyN.mk (hK.out _ _ ⟨_, _, _, _, _, _, _, _, _, _, _, _, _, _, _, true, _, _, _, _, _, _, _, _, _, _, _, _, _, _, _, _, _, _, .bool true, _, _, _, rfl, rfl, ⟨H.h0, H.h1, H.h2, H.h3, H.h4, H.h5, H.h6, H.h7, H.h8, H.h9, H.h10, H.h11, H.h12, H.h13, H.h14, fun _ => rfl, H.h16, H.h17, H.h18, H.below⟩⟩)
        · obtain rfl := H.h15 (by simp [hi])
          have HB0 := Lib.hid (H.below)
          have hcall := alive_any w' ((HTAB.out.on (HB.out.trans (HB0.out.mono HB.out.size))).up (HB.out.trans (HB0.out.mono HB.out.size)).size)
          have HCALL := Lib.hid hcall
          clear hcall
          refine wpOp_hidden rfl fun K hK => ?_
          go_wp2_with (go_at_call 6; refine HCALL.out.mono ?_; intro e w9 hx; obtain ⟨rfl, hb9⟩ := hx; refine Hid.out ?_)
          refine Lib.hid ?_
          have HB9 := Lib.hid hb9
          clear hb9 HCALL
          go_wp2
          refine OnlyN.mk (hK.out _ _ ⟨_, _, _, _, _, _, _, _, _, _, _, _, _, _, _, _, true, _, _, _, _, _, _, _, _, _, _, _, _, _, _, _, _, _, _, .bool true, _, _, rfl, rfl, ⟨(H.world HB9.out).h0, (H.world HB9.out).h1, (H.world HB9.out).h2, (H.world HB9.out).h3, (H.world HB9.out).h4, (H.world HB9.out).h5, (H.world HB9.out).h6, (H.world HB9.out).h7, (H.world HB9.out).h8, (H.world HB9.out).h9, (H.world HB9.out).h10, (H.world HB9.out).h11, (H.world HB9.out).h12, (H.world HB9.out).h13, (H.world HB9.out).h14, (H.world HB9.out).h15, fun _ => rfl, (H.world HB9.out).h17, (H.world HB9.out).h18, (H.world HB9.out).below⟩⟩)
        · obtain rfl := H.h15 (by simp [hi])
          obtain rfl := H.h16 (by simp [hi])
          refine wpOp_hidden rfl fun K hK => ?_
          go_wp2
          refine OnlyN.mk (hK.out _ _ ⟨_, _, _, _, _, _, _, _, _, _, _, _, _, _, _, _, _, true, _, _, _, _, _, _, _, _, _, _, _, _, _, _, _, _, _, _, .bool true, _, rfl, rfl, ⟨H.h0, H.h1, H.h2, H.h3, H.h4, H.h5, H.h6, H.h7, H.h8, H.h9, H.h10, H.h11, H.h12, H.h13, H.h14, H.h15, H.h16, fun _ => rfl, H.h18, H.below⟩⟩)
        · obtain rfl := H.h17 (by simp [hi])
          refine wpOp_hidden rfl fun K hK => ?_
          go_wp2
          refine OnlyN.mk (hK.out _ _ ⟨_, _, _, _, _, _, _, _, _, _, _, _, _, _, _, _, _, _, true, _, _, _, _, _, _, _, _, _, _, _, _, _, _, _, _, _, _, .bool true, rfl, rfl, ⟨H.h0, H.h1, H.h2, H.h3, H.h4, H.h5, H.h6, H.h7, H.h8, H.h9, H.h10, H.h11, H.h12, H.h13, H.h14, H.h15, H.h16, H.h17, fun _ => rfl, H.below⟩⟩)
      · rintro listed act w' hr ⟨b0, b1, b2, b3, b4, b5, b6, b7, b8, b9, b10, b11, b12, b13, b14, b15, b16, b17, b18, v40, v41, v42, v43, v44, v45, v46, v47, v48, v49, v50, v51, v52, v53, v54, v55, v56, v57, v2, rfl, rfl, H⟩
        have hn := List.eq_nil_iff_forall_not_mem.1 hr
        have r0 := hn 0
        simp [mem_ready, Region.binds] at r0
        subst r0
        have r1 := hn 1
        simp [mem_ready, Region.binds] at r1
        subst r1
        have r2 := hn 2
        simp [mem_ready, Region.binds] at r2
        subst r2
        have r3 := hn 3
        simp [mem_ready, Region.binds] at r3
        subst r3
        have r4 := hn 4
        simp [mem_ready, Region.binds] at r4
        subst r4
        have r5 := hn 5
        simp [mem_ready, Region.binds] at r5
        subst r5
        have r6 := hn 6
        simp [mem_ready, Region.binds] at r6
        subst r6
        have r7 := hn 7
        simp [mem_ready, Region.binds] at r7
        subst r7
        have r8 := hn 8
        simp [mem_ready, Region.binds] at r8
        subst r8
        have r9 := hn 9
        simp [mem_ready, Region.binds] at r9
        subst r9
        have r10 := hn 10
        simp [mem_ready, Region.binds] at r10
        subst r10
        have r11 := hn 11
        simp [mem_ready, Region.binds] at r11
        subst r11
        have r12 := hn 12
        simp [mem_ready, Region.binds] at r12
        subst r12
        have r13 := hn 13
        simp [mem_ready, Region.binds] at r13
        subst r13
        have r14 := hn 14
        simp [mem_ready, Region.binds] at r14
        subst r14
        have r15 := hn 15
        simp [mem_ready, Region.binds] at r15
        subst r15
        have r16 := hn 16
        simp [mem_ready, Region.binds] at r16
        subst r16
        have r17 := hn 17
        simp [mem_ready, Region.binds] at r17
        subst r17
        have r18 := hn 18
        simp [mem_ready, Region.binds] at r18
        subst r18
        try dsimp only
        obtain rfl := H.h18 rfl
        have HBF := Lib.hid (HB.out.trans (H.below.mono HB.out.size))
        clear H hr hn
        go_wp2
        go_ret
        exact ⟨rfl, HBF.out⟩
end Go.Proofs.YtmlhkbgifnifdaaGreatDoor
