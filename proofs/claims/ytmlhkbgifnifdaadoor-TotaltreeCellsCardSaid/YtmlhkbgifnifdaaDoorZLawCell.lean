/-
  cellularlaw14.TotaltreeCells: the walk. No condition but that the library's table is there.
-/
import Derived.Test.YtmlhkbgifnifdaaDoorZLawSum
namespace Go.Proofs.YtmlhkbgifnifdaaDoor
open Go.RowKit Go.Maps
set_option maxRecDepth 100000
set_option linter.unusedVariables false
set_option linter.unusedSimpArgs false
section
variable {w w' : World} {p : Nat} {s : Int} {A B C : Option Addr} {n a m b k c : Nat} {x y : TotL} {v : Value}
theorem short_tv (h : TtV w p A n a s B m b C k c x) : Calls Tryd.prog 6 #[.agg #[.slice A n a, .int .i64 s, .slice B m b, .slice C k c]] w fun e w' => e = .returned (.bool (shortT x)) ∧ Below w.heap.size w w' := by
  rw [h.val]; exact short_any _ _ _ _ _ _ _ _ h.at_
theorem right_tv (h : TtV w p A n a s B m b C k c x) : Calls Tryd.prog 7 #[.agg #[.slice A n a, .int .i64 s, .slice B m b, .slice C k c]] w fun e w' => e = .returned (.bool (rightT x)) ∧ Below w.heap.size w w' := by
  rw [h.val]; exact tright_any _ _ _ _ _ _ _ _ h.at_
theorem rval_tv {Av : Option Addr} {cv : Nat} {zs : List Int} (h : TtV w p A n a s B m b C k c x) (hz : Ints w Av zs) (hl : zs.length = x.hood.length) (hr : rightT x = true) (hz2 : ∀ z ∈ zs, 0 ≤ z ∧ z < x.states) : Calls Tryd.prog 11 #[.agg #[.slice A n a, .int .i64 s, .slice B m b, .slice C k c], .slice Av zs.length cv] w fun e w' => e = .returned (.int .i64 (valP x zs)) ∧ Below w.heap.size w w' := by
  obtain ⟨k1, k2, k3⟩ := rightT_parts hr
  rw [h.val]; exact rvalue_any _ _ _ _ _ _ _ _ _ _ _ h.at_ hz hl k1 k2 (fun z hm => ⟨(hz2 z hm).1, by have := (hz2 z hm).2; omega⟩)
end
theorem rem_of {k : Int} {m : Nat} (h : 0 ≤ k ∧ k ≤ 255) (hm : 0 < m) : ∃ a : Nat, a < m ∧ (wrap64 k).tmod (m : Int) = (a : Int) := by
  have h1 := Int.emod_lt_of_pos k (show 0 < (m : Int) by omega)
  have h2 := Int.emod_nonneg k (show (m : Int) ≠ 0 by omega)
  refine ⟨(k % (m : Int)).toNat, by omega, ?_⟩
  rw [show wrap64 k = k by unfold wrap64; omega, Int.tmod_eq_emod_of_nonneg h.1]
  omega
set_option maxHeartbeats 16000000 in
theorem lawCell_any (x : TotL) (A B C : Option Addr) (a b c : Nat) (Ai : Option Addr) (ci : Nat) (zs : List Int) (k0 k1 : Int) (w : World) (hx : TotR w A B C x) (hz : Ints w Ai zs) (h0 : 0 ≤ k0 ∧ k0 ≤ 255) (h1 : 0 ≤ k1 ∧ k1 ≤ 255) (ht : TabB w.heap.size w) :
    Calls Tryd.prog 3 #[.agg #[.slice A x.hood.length a, .int .i64 x.states, .slice B x.birth.length b, .slice C x.survive.length c], .slice Ai zs.length ci, .agg #[.int .u8 k0, .int .u8 k1]] w fun e w' => e = .returned (.bool true) ∧ Below w.heap.size w w' := by
  have hzl := hz.le
  have hhl := hx.hood.le
  obtain ⟨v1, hv1⟩ : ∃ v1, v1 = w.alloc (.cells #[.slice A x.hood.length a, .int .i64 x.states, .slice B x.birth.length b, .slice C x.survive.length c] 25) := ⟨_, rfl⟩
  obtain ⟨w0, hw0⟩ : ∃ w0, w0 = v1.alloc (.cells #[.int .u8 k0, .int .u8 k1] 26) := ⟨_, rfl⟩
  have b1 : Below w.heap.size w v1 := by rw [hv1]; exact below_new _ _
  have b2 : Below v1.heap.size v1 w0 := by rw [hw0]; exact below_new _ _
  have z1 : v1.heap.size = w.heap.size + 1 := by rw [hv1]; exact size_new _ _
  have hX := TtV.new (a := a) (b := b) (c := c) hx
  rw [← hv1] at hX
  have HX := Lib.hid (hX.ext b2)
  have hp : Blk w0 v1.heap.size 26 #[.int .u8 k0, .int .u8 k1] := by rw [hw0]; exact Blk.new _ _ _
  rw [z1] at hp
  have HP := Lib.hid hp
  have HB := Lib.hid (b1.trans (b2.mono b1.size))
  have HI := Lib.hid ((hz.ext b1).ext b2)
  rw [hv1] at hw0
  have HW0 := Lib.hid hw0
  have HTAB := Lib.hid ht
  have HK := Lib.hid (And.intro h0 h1)
  have HZL := Lib.hid (And.intro hzl hhl)
  clear hv1 hw0 b1 b2 z1 hX hp hx hz ht h0 h1
  cases hs : shortT x with
  | false =>
    clear hzl hhl
    obtain ⟨cX0, cX1, cX2, cX3⟩ := HX.out.cells
    go_enter Tryd.func3, Tryd.ntmps3
    go_upto_region 1 with fail
    rw [← HW0.out]
    have hcall := short_tv HX.out
    rw [hs] at hcall
    have HCALL := Lib.hid hcall
    clear hcall
    go_wp2_with (go_at_call 6; refine HCALL.out.mono ?_; intro e x1 hx; obtain ⟨rfl, hb⟩ := hx; refine Hid.out ?_)
    refine Lib.hid ?_
    have HBx := Lib.hid (HB.out.trans (hb.mono HB.out.size))
    clear HB
    have HB := HBx
    clear HBx
    have Hx := Lib.hid (HP.out.below hb HP.out.lt)
    clear HP
    have HP := Hx
    clear Hx
    have Hx := Lib.hid (HX.out.ext hb)
    clear HX
    have HX := Hx
    clear Hx
    have Hx := Lib.hid (HI.out.ext hb)
    clear HI
    have HI := Hx
    clear Hx
    clear hb HCALL
    clear cX0 cX1 cX2 cX3
    clear hs HW0
    have hcall := alive_any _ ((HTAB.out.on HB.out).up HB.out.size)
    have HCALL := Lib.hid hcall
    clear hcall
    go_wp2_with (go_at_call 8; refine HCALL.out.mono ?_; intro e x2 hx; obtain ⟨rfl, hb⟩ := hx; refine Hid.out ?_)
    refine Lib.hid ?_
    have HBx := Lib.hid (HB.out.trans (hb.mono HB.out.size))
    clear HB
    have HB := HBx
    clear HBx
    have Hx := Lib.hid (HP.out.below hb HP.out.lt)
    clear HP
    have HP := Hx
    clear Hx
    have Hx := Lib.hid (HX.out.ext hb)
    clear HX
    have HX := Hx
    clear Hx
    have Hx := Lib.hid (HI.out.ext hb)
    clear HI
    have HI := Hx
    clear Hx
    clear hb HCALL
    go_wp2
    go_ret
    exact ⟨rfl, HB.out⟩
  | true =>
    cases hr : rightT x with
    | false =>
      clear hzl hhl
      obtain ⟨cX0, cX1, cX2, cX3⟩ := HX.out.cells
      go_enter Tryd.func3, Tryd.ntmps3
      go_upto_region 1 with fail
      rw [← HW0.out]
      have hcall := short_tv HX.out
      rw [hs] at hcall
      have HCALL := Lib.hid hcall
      clear hcall
      go_wp2_with (go_at_call 6; refine HCALL.out.mono ?_; intro e x1 hx; obtain ⟨rfl, hb⟩ := hx; refine Hid.out ?_)
      refine Lib.hid ?_
      have HBx := Lib.hid (HB.out.trans (hb.mono HB.out.size))
      clear HB
      have HB := HBx
      clear HBx
      have Hx := Lib.hid (HP.out.below hb HP.out.lt)
      clear HP
      have HP := Hx
      clear Hx
      have Hx := Lib.hid (HX.out.ext hb)
      clear HX
      have HX := Hx
      clear Hx
      have Hx := Lib.hid (HI.out.ext hb)
      clear HI
      have HI := Hx
      clear Hx
      clear hb HCALL
      clear cX0 cX1 cX2 cX3
      clear hs HW0
      obtain ⟨cX0, cX1, cX2, cX3⟩ := HX.out.cells
      have hcall := right_tv HX.out
      rw [hr] at hcall
      have HCALL := Lib.hid hcall
      clear hcall
      go_wp2_with (go_at_call 7; refine HCALL.out.mono ?_; intro e x2 hx; obtain ⟨rfl, hb⟩ := hx; refine Hid.out ?_)
      refine Lib.hid ?_
      have HBx := Lib.hid (HB.out.trans (hb.mono HB.out.size))
      clear HB
      have HB := HBx
      clear HBx
      have Hx := Lib.hid (HP.out.below hb HP.out.lt)
      clear HP
      have HP := Hx
      clear Hx
      have Hx := Lib.hid (HX.out.ext hb)
      clear HX
      have HX := Hx
      clear Hx
      have Hx := Lib.hid (HI.out.ext hb)
      clear HI
      have HI := Hx
      clear Hx
      clear hb HCALL
      clear cX0 cX1 cX2 cX3
      have hcall := alive_any _ ((HTAB.out.on HB.out).up HB.out.size)
      have HCALL := Lib.hid hcall
      clear hcall
      go_wp2_with (go_at_call 8; refine HCALL.out.mono ?_; intro e x3 hx; obtain ⟨rfl, hb⟩ := hx; refine Hid.out ?_)
      refine Lib.hid ?_
      have HBx := Lib.hid (HB.out.trans (hb.mono HB.out.size))
      clear HB
      have HB := HBx
      clear HBx
      have Hx := Lib.hid (HP.out.below hb HP.out.lt)
      clear HP
      have HP := Hx
      clear Hx
      have Hx := Lib.hid (HX.out.ext hb)
      clear HX
      have HX := Hx
      clear Hx
      have Hx := Lib.hid (HI.out.ext hb)
      clear HI
      have HI := Hx
      clear Hx
      clear hb HCALL
      go_wp2
      go_ret
      exact ⟨rfl, HB.out⟩
    | true =>
      by_cases hl : zs.length = x.hood.length
      · have HL := Lib.hid hl
        have HR := Lib.hid hr
        have d1 : decide ((zs.length : Int) = (x.hood.length : Int)) = true := decide_eq_true (by omega)
        have d4 : (zs.length : Int) = (x.hood.length : Int) := by omega
        clear hzl hhl hl
        obtain ⟨cX0, cX1, cX2, cX3⟩ := HX.out.cells
        go_enter Tryd.func3, Tryd.ntmps3
        go_upto_region 1 with fail
        rw [← HW0.out]
        have hcall := short_tv HX.out
        rw [hs] at hcall
        have HCALL := Lib.hid hcall
        clear hcall
        go_wp2_with (go_at_call 6; refine HCALL.out.mono ?_; intro e x1 hx; obtain ⟨rfl, hb⟩ := hx; refine Hid.out ?_)
        refine Lib.hid ?_
        have HBx := Lib.hid (HB.out.trans (hb.mono HB.out.size))
        clear HB
        have HB := HBx
        clear HBx
        have Hx := Lib.hid (HP.out.below hb HP.out.lt)
        clear HP
        have HP := Hx
        clear Hx
        have Hx := Lib.hid (HX.out.ext hb)
        clear HX
        have HX := Hx
        clear Hx
        have Hx := Lib.hid (HI.out.ext hb)
        clear HI
        have HI := Hx
        clear Hx
        clear hb HCALL
        clear cX0 cX1 cX2 cX3
        clear hs HW0
        obtain ⟨cX0, cX1, cX2, cX3⟩ := HX.out.cells
        have hcall := right_tv HX.out
        rw [hr] at hcall
        have HCALL := Lib.hid hcall
        clear hcall
        go_wp2_with (go_at_call 7; refine HCALL.out.mono ?_; intro e x2 hx; obtain ⟨rfl, hb⟩ := hx; refine Hid.out ?_)
        refine Lib.hid ?_
        have HBx := Lib.hid (HB.out.trans (hb.mono HB.out.size))
        clear HB
        have HB := HBx
        clear HBx
        have Hx := Lib.hid (HP.out.below hb HP.out.lt)
        clear HP
        have HP := Hx
        clear Hx
        have Hx := Lib.hid (HX.out.ext hb)
        clear HX
        have HX := Hx
        clear Hx
        have Hx := Lib.hid (HI.out.ext hb)
        clear HI
        have HI := Hx
        clear Hx
        clear hb HCALL
        clear cX0 cX1 cX2 cX3
        obtain ⟨cX0, cX1, cX2, cX3⟩ := HX.out.cells
        clear hr
        go_upto_region 3 with fail
        clear cX0 cX1 cX2 cX3
        clear d1 d4
        go_wp2
        go_loopw [37] (fun iv wr => ∃ (j : Nat), j ≤ zs.length ∧ iv = .int .i64 j ∧ Hid (Below x2.heap.size x2 wr) ∧ Hid (∀ i, i < j → 0 ≤ zs.getD i 0 ∧ zs.getD i 0 < x.states)) (fun iv _ => zs.length - (intOf iv).toNat)
        case atStart => exact ⟨0, Nat.zero_le _, rfl, Lib.hid (Below.refl _ _), Lib.hid (fun i hi => by omega)⟩
        case round =>
          obtain ⟨j, hj, rfl, HBR, HG⟩ := hrel
          by_cases hlt : j < zs.length
          · have HBR0 := HBR
            have hzl := HZL.out.1
            have HBx := Lib.hid (HB.out.trans (HBR.out.mono HB.out.size))
            clear HB
            have HB := HBx
            clear HBx
            have Hx := Lib.hid (HP.out.below HBR.out HP.out.lt)
            clear HP
            have HP := Hx
            clear Hx
            have Hx := Lib.hid (HX.out.ext HBR.out)
            clear HX
            have HX := Hx
            clear Hx
            have Hx := Lib.hid (HI.out.ext HBR.out)
            clear HI
            have HI := Hx
            clear Hx
            clear HBR
            obtain ⟨bi, oi, eA, -, hci⟩ := HI.out.at_ hlt
            have hg : zs.getD j 0 = zs[j] := by rw [List.getD_eq_getElem?_getD, List.getElem?_eq_getElem hlt]; rfl
            obtain ⟨z, hzj⟩ : ∃ z, z = zs[j] := ⟨_, rfl⟩
            rw [← hzj] at hci hg
            subst eA
            have HGZ := Lib.hid hg
            have HZJ := Lib.hid (And.intro hzj hlt)
            clear hg hzj
            obtain ⟨cX0, cX1, cX2, cX3⟩ := HX.out.cells
            by_cases h1 : z < 0
            · have e1 : decide (z < 0) = true := decide_eq_true h1
              go_wp2
              go_quiet (fail)
              obtain ⟨y5, hw⟩ : ∃ W, W = wr.drewN nq := ⟨_, rfl⟩
              have hb : Below wr.heap.size wr y5 := by rw [hw]; exact below_drewN (Below.refl _ wr) nq
              rw [← hw]
              clear hw h1
              have HBx := Lib.hid (HB.out.trans (hb.mono HB.out.size))
              clear HB
              have HB := HBx
              clear HBx
              have Hx := Lib.hid (HP.out.below hb HP.out.lt)
              clear HP
              have HP := Hx
              clear Hx
              have Hx := Lib.hid (HX.out.ext hb)
              clear HX
              have HX := Hx
              clear Hx
              have Hx := Lib.hid (HI.out.ext hb)
              clear HI
              have HI := Hx
              clear Hx
              clear hb
              have hcall := alive_any _ ((HTAB.out.on HB.out).up HB.out.size)
              have HCALL := Lib.hid hcall
              clear hcall
              go_wp2_with (go_at_call 8; refine HCALL.out.mono ?_; intro e x3 hx; obtain ⟨rfl, hb⟩ := hx; refine Hid.out ?_)
              refine Lib.hid ?_
              have HBx := Lib.hid (HB.out.trans (hb.mono HB.out.size))
              clear HB
              have HB := HBx
              clear HBx
              have Hx := Lib.hid (HP.out.below hb HP.out.lt)
              clear HP
              have HP := Hx
              clear Hx
              have Hx := Lib.hid (HX.out.ext hb)
              clear HX
              have HX := Hx
              clear Hx
              have Hx := Lib.hid (HI.out.ext hb)
              clear HI
              have HI := Hx
              clear Hx
              clear hb HCALL
              go_wp2
              go_ret
              exact ⟨rfl, HB.out⟩
            · have e1 : decide (z < 0) = false := decide_eq_false h1
              by_cases h2 : x.states ≤ z
              · have e2 : decide (x.states ≤ z) = true := decide_eq_true h2
                go_wp2
                go_quiet (fail)
                obtain ⟨y5, hw⟩ : ∃ W, W = wr.drewN nq := ⟨_, rfl⟩
                have hb : Below wr.heap.size wr y5 := by rw [hw]; exact below_drewN (Below.refl _ wr) nq
                rw [← hw]
                clear hw h1 h2
                have HBx := Lib.hid (HB.out.trans (hb.mono HB.out.size))
                clear HB
                have HB := HBx
                clear HBx
                have Hx := Lib.hid (HP.out.below hb HP.out.lt)
                clear HP
                have HP := Hx
                clear Hx
                have Hx := Lib.hid (HX.out.ext hb)
                clear HX
                have HX := Hx
                clear Hx
                have Hx := Lib.hid (HI.out.ext hb)
                clear HI
                have HI := Hx
                clear Hx
                clear hb
                have hcall := alive_any _ ((HTAB.out.on HB.out).up HB.out.size)
                have HCALL := Lib.hid hcall
                clear hcall
                go_wp2_with (go_at_call 8; refine HCALL.out.mono ?_; intro e x3 hx; obtain ⟨rfl, hb⟩ := hx; refine Hid.out ?_)
                refine Lib.hid ?_
                have HBx := Lib.hid (HB.out.trans (hb.mono HB.out.size))
                clear HB
                have HB := HBx
                clear HBx
                have Hx := Lib.hid (HP.out.below hb HP.out.lt)
                clear HP
                have HP := Hx
                clear Hx
                have Hx := Lib.hid (HX.out.ext hb)
                clear HX
                have HX := Hx
                clear Hx
                have Hx := Lib.hid (HI.out.ext hb)
                clear HI
                have HI := Hx
                clear Hx
                clear hb HCALL
                go_wp2
                go_ret
                exact ⟨rfl, HB.out⟩
              · have e2 : decide (x.states ≤ z) = false := decide_eq_false h2
                have HOK := Lib.hid (And.intro h1 h2)
                clear h1 h2
                go_wp2
                go_quiet (fail)
                go_wp2
                go_roundw
                case rel =>
                  refine ⟨j + 1, by omega, by go_num, Lib.hid (below_drewN (HBR0.out) _), Lib.hid (fun i hi => ?_)⟩
                  rcases Nat.lt_or_ge i j with h | h
                  · exact HG.out i h
                  · obtain rfl : i = j := by omega
                    rw [HGZ.out]
                    have := HOK.out
                    omega
                case measure => simp [intOf]; omega
          · obtain rfl : j = zs.length := Nat.le_antisymm hj (Nat.le_of_not_lt hlt)
            have HGM : Hid (∀ z ∈ zs, 0 ≤ z ∧ z < x.states) := Lib.hid (fun z hm => by
              obtain ⟨i, hi, rfl⟩ := List.mem_iff_getElem.1 hm
              have h := HG.out i hi
              rwa [List.getD_eq_getElem?_getD, List.getElem?_eq_getElem hi] at h)
            clear HG hj hlt
            have HBx := Lib.hid (HB.out.trans (HBR.out.mono HB.out.size))
            clear HB
            have HB := HBx
            clear HBx
            have Hx := Lib.hid (HP.out.below HBR.out HP.out.lt)
            clear HP
            have HP := Hx
            clear Hx
            have Hx := Lib.hid (HX.out.ext HBR.out)
            clear HX
            have HX := Hx
            clear Hx
            have Hx := Lib.hid (HI.out.ext HBR.out)
            clear HI
            have HI := Hx
            clear Hx
            clear HBR
            obtain ⟨t, ht⟩ : ∃ t, t = (totT x).1 := ⟨_, rfl⟩
            have htt : totT x = (t, 0) := by
              have h : (totT x).2 = 0 := by unfold totT; rw [if_pos HR.out]
              exact Prod.ext ht.symm h
            have HTT := Lib.hid htt
            obtain ⟨v, hv⟩ : ∃ v, v = valP x zs := ⟨_, rfl⟩
            have HV := Lib.hid hv.symm
            have HEV : Hid (evalP t zs = (v, 0)) := Lib.hid (by rw [ht, hv]; exact tot_eval HR.out HL.out HGM.out)
            have HTX := Lib.hid ht
            obtain ⟨cn, hc1, hc2, hc3⟩ := known_ctr (rightT_parts HR.out).1
            have HC := Lib.hid (And.intro hc1 (And.intro hc2 hc3))
            clear ht htt hv hc1 hc2 hc3
            go_upto_region 9 with fail
            obtain ⟨cX0, cX1, cX2, cX3⟩ := HX.out.cells
            have hcall := totals_tv HX.out ((HTAB.out.on HB.out).up HB.out.size)
            rw [HTT.out] at hcall
            have HCALL := Lib.hid hcall
            clear hcall
            go_wp2_with (go_at_call 9; refine HCALL.out.mono ?_; intro e x3 hx; obtain ⟨s3, A3, n3, c3, B3, m3, d3, rfl, hat, hb⟩ := hx; refine Hid.out ?_)
            refine Lib.hid ?_
            have HBx := Lib.hid (HB.out.trans (hb.mono HB.out.size))
            clear HB
            have HB := HBx
            clear HBx
            have Hx := Lib.hid (HP.out.below hb HP.out.lt)
            clear HP
            have HP := Hx
            clear Hx
            have Hx := Lib.hid (HX.out.ext hb)
            clear HX
            have HX := Hx
            clear Hx
            have Hx := Lib.hid (HI.out.ext hb)
            clear HI
            have HI := Hx
            clear Hx
            clear hb HCALL
            clear cX0 cX1 cX2 cX3
            obtain ⟨y3, hw⟩ : ∃ W, W = x3.alloc (.cells #[.int .i64 s3, .slice A3 n3 c3, .slice B3 m3 d3] 31) := ⟨_, rfl⟩
            obtain ⟨pT, hp⟩ : ∃ p, p = x3.heap.size := ⟨_, rfl⟩
            have hv := TrV.new hat
            rw [← hw, ← hp] at hv
            have hb : Below x3.heap.size x3 y3 := by rw [hw]; exact below_new _ _
            have HBx := Lib.hid (HB.out.trans (hb.mono HB.out.size))
            clear HB
            have HB := HBx
            clear HBx
            have Hx := Lib.hid (HP.out.below hb HP.out.lt)
            clear HP
            have HP := Hx
            clear Hx
            have Hx := Lib.hid (HX.out.ext hb)
            clear HX
            have HX := Hx
            clear Hx
            have Hx := Lib.hid (HI.out.ext hb)
            clear HI
            have HI := Hx
            clear Hx
            have HT := Lib.hid hv
            clear hv hb hat
            go_upto_region 10 with fail
            rw [← hw, ← hp]
            clear hw hp
            obtain ⟨cT0, cT1, cT2⟩ := HT.out.cells
            have hcall := eval_tv (cv := ci) HT.out.at_ HI.out
            rw [HEV.out] at hcall
            have HCALL := Lib.hid hcall
            clear hcall
            go_wp2_with (go_at_call 10; refine HCALL.out.mono ?_; intro e x4 hx; obtain ⟨rfl, hb⟩ := hx; refine Hid.out ?_)
            refine Lib.hid ?_
            have HBx := Lib.hid (HB.out.trans (hb.mono HB.out.size))
            clear HB
            have HB := HBx
            clear HBx
            have Hx := Lib.hid (HT.out.ext hb)
            clear HT
            have HT := Hx
            clear Hx
            have Hx := Lib.hid (HP.out.below hb HP.out.lt)
            clear HP
            have HP := Hx
            clear Hx
            have Hx := Lib.hid (HX.out.ext hb)
            clear HX
            have HX := Hx
            clear Hx
            have Hx := Lib.hid (HI.out.ext hb)
            clear HI
            have HI := Hx
            clear Hx
            clear hb HCALL
            clear cT0 cT1 cT2
            go_upto_region 11 with fail
            obtain ⟨cX0, cX1, cX2, cX3⟩ := HX.out.cells
            have hcall := rval_tv (cv := ci) HX.out HI.out HL.out HR.out HGM.out
            rw [HV.out] at hcall
            have HCALL := Lib.hid hcall
            clear hcall
            go_wp2_with (go_at_call 11; refine HCALL.out.mono ?_; intro e x5 hx; obtain ⟨rfl, hb⟩ := hx; refine Hid.out ?_)
            refine Lib.hid ?_
            have HBx := Lib.hid (HB.out.trans (hb.mono HB.out.size))
            clear HB
            have HB := HBx
            clear HBx
            have Hx := Lib.hid (HT.out.ext hb)
            clear HT
            have HT := Hx
            clear Hx
            have Hx := Lib.hid (HP.out.below hb HP.out.lt)
            clear HP
            have HP := Hx
            clear Hx
            have Hx := Lib.hid (HX.out.ext hb)
            clear HX
            have HX := Hx
            clear Hx
            have Hx := Lib.hid (HI.out.ext hb)
            clear HI
            have HI := Hx
            clear Hx
            clear hb HCALL
            clear cX0 cX1 cX2 cX3
            go_upto_region 13 with fail
            obtain ⟨cX0, cX1, cX2, cX3⟩ := HX.out.cells
            have hcall := ridx_any A x.hood a 0 0 x5 HX.out.at_.hood
            rw [HC.out.2.2] at hcall
            have HCALL := Lib.hid hcall
            clear hcall
            go_wp2_with (go_at_call 12; refine HCALL.out.mono ?_; intro e x6 hx; obtain ⟨rfl, hb⟩ := hx; refine Hid.out ?_)
            refine Lib.hid ?_
            have HBx := Lib.hid (HB.out.trans (hb.mono HB.out.size))
            clear HB
            have HB := HBx
            clear HBx
            have Hx := Lib.hid (HT.out.ext hb)
            clear HT
            have HT := Hx
            clear Hx
            have Hx := Lib.hid (HP.out.below hb HP.out.lt)
            clear HP
            have HP := Hx
            clear Hx
            have Hx := Lib.hid (HX.out.ext hb)
            clear HX
            have HX := Hx
            clear Hx
            have Hx := Lib.hid (HI.out.ext hb)
            clear HI
            have HI := Hx
            clear Hx
            clear hb HCALL
            clear cX0 cX1 cX2 cX3
            go_upto_region 14 with fail
            have hlen0 : 0 < zs.length := by have h1 := HC.out.2.1; have h2 := HL.out; omega
            have HL0 := Lib.hid hlen0
            have hq0 : ¬ (zs.length : Int) = 0 := by omega
            have hq1 : ¬ (zs.length : Int) = -1 := by omega
            have u0 := HP.out.cell_ 0 (.int .u8 k0) rfl
            have u1 := HP.out.cell_ 1 (.int .u8 k1) rfl
            have hzl := HZL.out.1
            go_quiet (fail)
            obtain ⟨yd, hw⟩ : ∃ W, W = x6.drewN nq := ⟨_, rfl⟩
            have hb : Below x6.heap.size x6 yd := by rw [hw]; exact below_drewN (Below.refl _ x6) nq
            obtain ⟨i, hi, ei⟩ := rem_of HK.out.1 hlen0
            obtain ⟨k, hk, ek⟩ := rem_of HK.out.2 hlen0
            rw [← hw, ei, ek]
            have HIK := Lib.hid (And.intro hi hk)
            clear hw ei ek hi hk hlen0 hq0 hq1 u0 u1 hzl
            have HBx := Lib.hid (HB.out.trans (hb.mono HB.out.size))
            clear HB
            have HB := HBx
            clear HBx
            have Hx := Lib.hid (HT.out.ext hb)
            clear HT
            have HT := Hx
            clear Hx
            have Hx := Lib.hid (HP.out.below hb HP.out.lt)
            clear HP
            have HP := Hx
            clear Hx
            have Hx := Lib.hid (HX.out.ext hb)
            clear HX
            have HX := Hx
            clear Hx
            have Hx := Lib.hid (HI.out.ext hb)
            clear HI
            have HI := Hx
            clear Hx
            clear hb
            by_cases e1 : i = cn
            · have d1 : ((i : Int) == (cn : Int)) = true := beq_iff_eq.2 (by omega)
              clear e1
              have hcall := alive_any _ ((HTAB.out.on HB.out).up HB.out.size)
              have HCALL := Lib.hid hcall
              clear hcall
              go_wp2_with (go_at_call 8; refine HCALL.out.mono ?_; intro e x7 hx; obtain ⟨rfl, hb⟩ := hx; refine Hid.out ?_)
              refine Lib.hid ?_
              have HBx := Lib.hid (HB.out.trans (hb.mono HB.out.size))
              clear HB
              have HB := HBx
              clear HBx
              have Hx := Lib.hid (HT.out.ext hb)
              clear HT
              have HT := Hx
              clear Hx
              have Hx := Lib.hid (HP.out.below hb HP.out.lt)
              clear HP
              have HP := Hx
              clear Hx
              have Hx := Lib.hid (HX.out.ext hb)
              clear HX
              have HX := Hx
              clear Hx
              have Hx := Lib.hid (HI.out.ext hb)
              clear HI
              have HI := Hx
              clear Hx
              clear hb HCALL
              go_wp2
              go_ret
              exact ⟨rfl, HB.out⟩
            · have d1 : ((i : Int) == (cn : Int)) = false := beq_false_of_ne (by omega)
              by_cases e2 : k = cn
              · have d3 : ((k : Int) == (cn : Int)) = true := beq_iff_eq.2 (by omega)
                clear e1 e2
                have hcall := alive_any _ ((HTAB.out.on HB.out).up HB.out.size)
                have HCALL := Lib.hid hcall
                clear hcall
                go_wp2_with (go_at_call 8; refine HCALL.out.mono ?_; intro e x7 hx; obtain ⟨rfl, hb⟩ := hx; refine Hid.out ?_)
                refine Lib.hid ?_
                have HBx := Lib.hid (HB.out.trans (hb.mono HB.out.size))
                clear HB
                have HB := HBx
                clear HBx
                have Hx := Lib.hid (HT.out.ext hb)
                clear HT
                have HT := Hx
                clear Hx
                have Hx := Lib.hid (HP.out.below hb HP.out.lt)
                clear HP
                have HP := Hx
                clear Hx
                have Hx := Lib.hid (HX.out.ext hb)
                clear HX
                have HX := Hx
                clear Hx
                have Hx := Lib.hid (HI.out.ext hb)
                clear HI
                have HI := Hx
                clear Hx
                clear hb HCALL
                go_wp2
                go_ret
                exact ⟨rfl, HB.out⟩
              · have d3 : ((k : Int) == (cn : Int)) = false := beq_false_of_ne (by omega)
                have HNE := Lib.hid (And.intro e1 e2)
                clear e1 e2
                go_upto_region 17 with fail
                clear d1 d3
                obtain ⟨bi, oi, eA, -, -⟩ := HI.out.at_ HL0.out
                subst eA
                go_upto_region 18 with fail
                obtain ⟨i0, hi0, hz0, hz1, hz2⟩ := info_parts Tryd.infoInt
                have hzl := HZL.out.1
                have hl9 : zs.length ≤ 9 := by
                  rw [HL.out]
                  exact (known_len (rightT_parts HR.out).1).2
                have HIA := HI
                go_wp2_with (at_builtin; refine Hid.out ?_)
                refine Lib.hid ?_
                refine wpList_append_own _ rfl _ _ 23 rfl yd.heap.size 3 i0 _ 1 8 Tryd.underlying23 hi0 hz0 hz1 hz2 rfl (by decide) (.slice none 0 0) 0 [] (by rfl) (OwnI.nil 3 yd yd.heap.size) ⟨bi, oi, none⟩ zs.length ci (zs.map (Value.int .i64)) (by rfl) ?qc1 ?qc2 ?qc3 ?qc4 ?qc5 ?qc6 ?_
                case qc1 => exact HIA.out.1.1
                case qc2 =>
                  intro j u hj
                  have hn : 0 < zs.length := HL0.out
                  obtain ⟨ad', e, _, h⟩ := HIA.out.1.2 hn
                  cases e
                  exact h j u hj
                case qc3 => intro u hu; obtain ⟨z, -, rfl⟩ := List.mem_map.1 hu; rfl
                case qc4 => unfold maxLen; omega
                case qc5 => omega
                case qc6 => exact Nat.le_refl _
                intro v' w1 hown hgrow hnil
                have ho : OwnIA w1 yd.heap.size v' zs := by unfold OwnIA OwnI; simpa using hown
                have hb : Below yd.heap.size yd w1 := (Below.refl _ yd).grown hgrow (Nat.le_refl _) (by intro k hk; cases hk)
                obtain ⟨g, cg, rfl⟩ : ∃ g cg, v' = .slice (some ⟨g, 0, none⟩) zs.length cg := by
                  rcases ho.2 with ⟨-, h⟩ | ⟨g, cap, cur, h, -⟩
                  · have := HL0.out; omega
                  · exact ⟨g, cap, h⟩
                have hglt := own_lt' ho (g := g) rfl
                have HO := Lib.hid ho
                have HGL := Lib.hid hglt.2
                have HB1 := Lib.hid hb
                clear hown hgrow hnil ho hb hglt hi0 hz0 hz1 hz2 hzl HIA hl9
                go_upto_region 19 with fail
                obtain ⟨hi, hk⟩ := HIK.out
                obtain ⟨zk, hzk⟩ : ∃ z, z = zs.getD k 0 := ⟨_, rfl⟩
                obtain ⟨zi, hzi⟩ : ∃ z, z = zs.getD i 0 := ⟨_, rfl⟩
                have HI1 := Lib.hid (HI.out.ext HB1.out)
                have rk : w1.cell? ⟨bi, oi + k, none⟩ = some (.int .i64 zk) := by
                  obtain ⟨b', o', e', -, h⟩ := HI1.out.at_ hk
                  obtain ⟨rfl, rfl⟩ : bi = b' ∧ oi = o' := by injection e' with e'; injection e' with h1 h2; exact ⟨h1, h2⟩
                  rw [h, hzk, List.getD_eq_getElem?_getD, List.getElem?_eq_getElem hk]
                  rfl
                obtain ⟨sc, sf⟩ := HO.out.cellk hi
                rw [← hzi] at sc
                have HZK := Lib.hid (And.intro hzk hzi)
                clear hzk hzi
                go_upto_region 20 with fail
                obtain ⟨ws, hws⟩ : ∃ W, W = w1.setCell ⟨g, i, none⟩ (.int .i64 zk) := ⟨_, rfl⟩
                rw [← hws]
                have HO2 : Hid (OwnIA ws yd.heap.size (.slice (some ⟨g, 0, none⟩) zs.length cg) (zs.set i zk)) := Lib.hid (by rw [hws]; exact OwnI.set HO.out rfl i zk)
                have HI2 : Hid (Ints ws (some ⟨bi, oi, none⟩) zs) := Lib.hid (by rw [hws]; exact Ints.set_old HI1.out HI.out (p := ⟨g, i, none⟩) HGL.out _)
                have HB2 : Hid (Below yd.heap.size yd ws) := Lib.hid (by rw [hws]; exact HB1.out.setCell (p := ⟨g, i, none⟩) HGL.out _)
                clear rk sc sf hws
                have ri : ws.cell? ⟨bi, oi + i, none⟩ = some (.int .i64 zi) := by
                  obtain ⟨b', o', e', -, h⟩ := HI2.out.at_ hi
                  obtain ⟨rfl, rfl⟩ : bi = b' ∧ oi = o' := by injection e' with e'; injection e' with h1 h2; exact ⟨h1, h2⟩
                  rw [h, HZK.out.2, List.getD_eq_getElem?_getD, List.getElem?_eq_getElem hi]
                  rfl
                obtain ⟨sc, sf⟩ := HO2.out.cellk (k := k) (by rw [List.length_set]; exact hk)
                go_upto_region 21 with fail
                obtain ⟨wt, hwt⟩ : ∃ W, W = ws.setCell ⟨g, k, none⟩ (.int .i64 zi) := ⟨_, rfl⟩
                rw [← hwt]
                have HO3 : Hid (OwnIA wt yd.heap.size (.slice (some ⟨g, 0, none⟩) zs.length cg) (swapL zs i k)) := Lib.hid (by
                  rw [hwt]
                  have h := OwnI.set HO2.out (by rw [List.length_set]) k zi
                  unfold swapL
                  rw [← HZK.out.1, ← HZK.out.2]
                  exact h)
                have hb : Below yd.heap.size yd wt := by rw [hwt]; exact HB2.out.setCell (p := ⟨g, k, none⟩) HGL.out _
                clear ri sc sf hwt HZK HO HO2 HI1 HI2 HB1 HB2
                have HBx := Lib.hid (HB.out.trans (hb.mono HB.out.size))
                clear HB
                have HB := HBx
                clear HBx
                have Hx := Lib.hid (HT.out.ext hb)
                clear HT
                have HT := Hx
                clear Hx
                have Hx := Lib.hid (HP.out.below hb HP.out.lt)
                clear HP
                have HP := Hx
                clear Hx
                have Hx := Lib.hid (HX.out.ext hb)
                clear HX
                have HX := Hx
                clear Hx
                have Hx := Lib.hid (HI.out.ext hb)
                clear HI
                have HI := Hx
                clear Hx
                clear hb
                have hev : evalP t (swapL zs i k) = (v, 0) := by
                  have h := tot_eval HR.out (zs := swapL zs i k) (by rw [swapL_len]; exact HL.out) (fun z hm => HGM.out z (swapL_mem hi hk hm))
                  rw [← HTX.out] at h
                  rw [h, val_swap HC.out.1 (by rw [HL.out]; exact HC.out.2.1) hi hk HNE.out.1 HNE.out.2, HV.out]
                have HE2 := Lib.hid hev
                have hsl := swapL_len zs i k
                have hrd : Ints wt (some ⟨g, 0, none⟩) (swapL zs i k) := by
                  have h := HO3.out
                  exact OwnI.reads h
                have HSL := Lib.hid (And.intro hsl hrd)
                clear hev hsl hrd hi hk
                obtain ⟨cT0, cT1, cT2⟩ := HT.out.cells
                have hcall := eval_tv (cv := cg) HT.out.at_ HSL.out.2
                rw [HE2.out, HSL.out.1] at hcall
                have HCALL := Lib.hid hcall
                clear hcall
                go_wp2_with (go_at_call 10; refine HCALL.out.mono ?_; intro e x7 hx; obtain ⟨rfl, hb⟩ := hx; refine Hid.out ?_)
                refine Lib.hid ?_
                have HBx := Lib.hid (HB.out.trans (hb.mono HB.out.size))
                clear HB
                have HB := HBx
                clear HBx
                have Hx := Lib.hid (HT.out.ext hb)
                clear HT
                have HT := Hx
                clear Hx
                have Hx := Lib.hid (HP.out.below hb HP.out.lt)
                clear HP
                have HP := Hx
                clear Hx
                have Hx := Lib.hid (HX.out.ext hb)
                clear HX
                have HX := Hx
                clear Hx
                have Hx := Lib.hid (HI.out.ext hb)
                clear HI
                have HI := Hx
                clear Hx
                clear hb HCALL
                clear cT0 cT1 cT2
                clear HSL HO3
                go_upto_region 22 with fail
                have hcall := alive_any _ ((HTAB.out.on HB.out).up HB.out.size)
                have HCALL := Lib.hid hcall
                clear hcall
                go_wp2_with (go_at_call 8; refine HCALL.out.mono ?_; intro e x8 hx; obtain ⟨rfl, hb⟩ := hx; refine Hid.out ?_)
                refine Lib.hid ?_
                have HBx := Lib.hid (HB.out.trans (hb.mono HB.out.size))
                clear HB
                have HB := HBx
                clear HBx
                have Hx := Lib.hid (HT.out.ext hb)
                clear HT
                have HT := Hx
                clear Hx
                have Hx := Lib.hid (HP.out.below hb HP.out.lt)
                clear HP
                have HP := Hx
                clear Hx
                have Hx := Lib.hid (HX.out.ext hb)
                clear HX
                have HX := Hx
                clear Hx
                have Hx := Lib.hid (HI.out.ext hb)
                clear HI
                have HI := Hx
                clear Hx
                clear hb HCALL
                go_wp2
                go_ret
                exact ⟨rfl, HB.out⟩
      · have d1 : decide ((zs.length : Int) = (x.hood.length : Int)) = false := decide_eq_false (by omega)
        have d2 : decide (zs.length = x.hood.length) = false := decide_eq_false hl
        have d3 : ((zs.length : Int) == (x.hood.length : Int)) = false := d1
        have d4 : ¬ (zs.length : Int) = (x.hood.length : Int) := by omega
        clear hzl hhl hl
        obtain ⟨cX0, cX1, cX2, cX3⟩ := HX.out.cells
        go_enter Tryd.func3, Tryd.ntmps3
        go_upto_region 1 with fail
        rw [← HW0.out]
        have hcall := short_tv HX.out
        rw [hs] at hcall
        have HCALL := Lib.hid hcall
        clear hcall
        go_wp2_with (go_at_call 6; refine HCALL.out.mono ?_; intro e x1 hx; obtain ⟨rfl, hb⟩ := hx; refine Hid.out ?_)
        refine Lib.hid ?_
        have HBx := Lib.hid (HB.out.trans (hb.mono HB.out.size))
        clear HB
        have HB := HBx
        clear HBx
        have Hx := Lib.hid (HP.out.below hb HP.out.lt)
        clear HP
        have HP := Hx
        clear Hx
        have Hx := Lib.hid (HX.out.ext hb)
        clear HX
        have HX := Hx
        clear Hx
        have Hx := Lib.hid (HI.out.ext hb)
        clear HI
        have HI := Hx
        clear Hx
        clear hb HCALL
        clear cX0 cX1 cX2 cX3
        clear hs HW0
        obtain ⟨cX0, cX1, cX2, cX3⟩ := HX.out.cells
        have hcall := right_tv HX.out
        rw [hr] at hcall
        have HCALL := Lib.hid hcall
        clear hcall
        go_wp2_with (go_at_call 7; refine HCALL.out.mono ?_; intro e x2 hx; obtain ⟨rfl, hb⟩ := hx; refine Hid.out ?_)
        refine Lib.hid ?_
        have HBx := Lib.hid (HB.out.trans (hb.mono HB.out.size))
        clear HB
        have HB := HBx
        clear HBx
        have Hx := Lib.hid (HP.out.below hb HP.out.lt)
        clear HP
        have HP := Hx
        clear Hx
        have Hx := Lib.hid (HX.out.ext hb)
        clear HX
        have HX := Hx
        clear Hx
        have Hx := Lib.hid (HI.out.ext hb)
        clear HI
        have HI := Hx
        clear Hx
        clear hb HCALL
        clear cX0 cX1 cX2 cX3
        obtain ⟨cX0, cX1, cX2, cX3⟩ := HX.out.cells
        have hcall := alive_any _ ((HTAB.out.on HB.out).up HB.out.size)
        have HCALL := Lib.hid hcall
        clear hcall
        go_wp2_with (go_at_call 8; refine HCALL.out.mono ?_; intro e x3 hx; obtain ⟨rfl, hb⟩ := hx; refine Hid.out ?_)
        refine Lib.hid ?_
        have HBx := Lib.hid (HB.out.trans (hb.mono HB.out.size))
        clear HB
        have HB := HBx
        clear HBx
        have Hx := Lib.hid (HP.out.below hb HP.out.lt)
        clear HP
        have HP := Hx
        clear Hx
        have Hx := Lib.hid (HX.out.ext hb)
        clear HX
        have HX := Hx
        clear Hx
        have Hx := Lib.hid (HI.out.ext hb)
        clear HI
        have HI := Hx
        clear Hx
        clear hb HCALL
        go_wp2
        go_ret
        exact ⟨rfl, HB.out⟩
end Go.Proofs.YtmlhkbgifnifdaaDoor
