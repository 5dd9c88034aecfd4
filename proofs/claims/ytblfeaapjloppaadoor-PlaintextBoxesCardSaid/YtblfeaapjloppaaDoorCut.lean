/-
  algebra.Cut of what is right.
-/
import Derived.Test.YtblfeaapjloppaaDoorBxW
import Derived.Test.YtblfeaapjloppaaDoorBx
import Derived.Test.YtblfeaapjloppaaDoorPars
namespace Go.Proofs.YtblfeaapjloppaaDoor
open Go.RowKit
set_option maxRecDepth 100000
set_option linter.unusedVariables false
set_option linter.unusedSimpArgs false

theorem cut_snoc {ps : List Cel} (b : Bx) {k : Nat} (h : k < ps.length) : cutC (ps.take (k + 1)) b = if inX b ps[k].x ps[k].y = true then cutC (ps.take k) b ++ [ps[k]] else cutC (ps.take k) b := by
  unfold cutC
  rw [List.take_succ_eq_append_getElem h, List.filter_append]
  by_cases h : inX b ps[k].x ps[k].y = true
  · rw [if_pos h]; simp [h]
  · rw [if_neg h]; simp [h]
theorem OwnC.low {e : TypeId} {w : World} {b b' : Nat} {v : Value} {ps : List Cel} (h : OwnC e w b v ps) (hb : b' ≤ b) : OwnC e w b' v ps := by
  refine ⟨h.1, ?_⟩
  rcases h.2 with h2 | ⟨g, cap, cur, h3, h4, h5⟩
  · exact .inl h2
  · exact .inr ⟨g, cap, cur, h3, Nat.le_trans hb h4, h5⟩
theorem cut_len (ps : List Cel) (b : Bx) : (cutC ps b).length ≤ ps.length := List.length_filter_le _ _
set_option maxHeartbeats 8000000 in
theorem cut_any (A : Option Addr) (c : Nat) (ps : List Cel) (b : Bx) (w : World) (ha : Cls w A ps) (hr : rightC ps = true) (hX : rightX b = true) :
    Calls Tryd.prog 18 #[.slice A ps.length c, bxV b] w fun e w' => ∃ v, e = .returned v ∧ OwnC 34 w' w.heap.size v (cutC ps b) ∧ Below w.heap.size w w' := by
  obtain ⟨bx, bY, bw, bh⟩ := b
  unfold bxV
  dsimp only
  have hnb := below_new w (.cells #[.int .i64 bx, .int .i64 bY, .int .i64 bw, .int .i64 bh] 37)
  have p0 := Blk.new w 37 #[.int .i64 bx, .int .i64 bY, .int .i64 bw, .int .i64 bh]
  have HA := Lib.hid (ha.ext hnb)
  have HB0 := Lib.hid hnb
  have HP0 := Lib.hid p0
  have hR := right_any A c ps _ HA.out
  have HX := Lib.hid (fun w => right6_any ⟨bx, bY, bw, bh⟩ w)
  unfold bxV at HX
  rw [hr] at hR
  rw [hX] at HX
  dsimp only at HX
  have HBD := Lib.hid (rightX_bd hX)
  have HRL := Lib.hid (right_len hr)
  dsimp only at HBD
  clear p0 hnb ha hr
  go_enter Tryd.func18, Tryd.ntmps18
  go_wp2_with (go_at_call 25; refine hR.mono ?_)
  rintro e w1 ⟨rfl, hb1⟩
  clear hR
  have p1 := HP0.out.below hb1 HP0.out.lt
  have HA1 := Lib.hid (HA.out.ext hb1)
  have HB1 := Lib.hid (HB0.out.trans (hb1.mono HB0.out.size))
  clear hb1
  have c0 := p1.cell 0
  have c1 := p1.cell 1
  have c2 := p1.cell 2
  have c3 := p1.cell 3
  go_wp2_with (go_at_call 38; refine (HX.out _).mono ?_)
  rintro e w2 ⟨rfl, hb2⟩
  have HP2 := Lib.hid (p1.below hb2 p1.lt)
  have HA2 := Lib.hid (HA1.out.ext hb2)
  have HB2 := Lib.hid (HB1.out.trans (hb2.mono HB1.out.size))
  clear hb2 p1 c0 c1 c2 c3 HX HP0 HA HB0 HA1 HB1
  go_wp2
  go_loopw [5, 18] (fun v i wr => ∃ (k : Nat), k ≤ ps.length ∧ i = .int .i64 k ∧ Hid (Below w2.heap.size w2 wr) ∧ Hid (OwnC 34 wr w2.heap.size v (cutC (ps.take k) ⟨bx, bY, bw, bh⟩))) (fun _ i _ => ps.length - (intOf i).toNat)
  case atStart => exact ⟨0, Nat.zero_le _, rfl, Lib.hid (Below.refl _ _), Lib.hid (OwnC.nil _ _ _)⟩
  case round =>
    obtain ⟨k, hk, rfl, HB, HO⟩ := hrel
    have HA := Lib.hid (HA2.out.ext HB.out)
    have hp := HP2.out.below HB.out HP2.out.lt
    by_cases hlt : k < ps.length
    · obtain ⟨b1, o1, e1, hbl, hc0, hc1, hc2⟩ := HA.out.at_ hlt
      have HSN := Lib.hid (cut_snoc ⟨bx, bY, bw, bh⟩ hlt)
      have HCL := Lib.hid (cut_len (ps.take k) ⟨bx, bY, bw, bh⟩)
      obtain ⟨q, hq⟩ : ∃ q, q = ps[k] := ⟨_, rfl⟩
      rw [← hq] at hc0 hc1 hc2 HSN
      obtain ⟨qx, qy, qs⟩ := q
      dsimp only at hc0 hc1 hc2 HSN
      clear hq
      have q0 := Blk.new wr 34 #[.int .i64 qx, .int .i64 qy, .int .i64 qs]
      have hnb := below_new wr (.cells #[.int .i64 qx, .int .i64 qy, .int .i64 qs] 34)
      have hp1 := hp.below hnb hp.lt
      obtain ⟨wa, hwa⟩ : ∃ wa, wa = wr.alloc (.cells #[.int .i64 qx, .int .i64 qy, .int .i64 qs] 34) := ⟨_, rfl⟩
      rw [← hwa] at q0 hnb hp1
      have HBa := Lib.hid (HB.out.trans (hnb.mono HB.out.size))
      have HOa := Lib.hid (HO.out.ext hnb)
      have HWA := Lib.hid hwa
      have hw1 : wrap64 ((k : Int) + 1) = (k : Int) + 1 := wr_c (by omega) (by have := HRL.out; omega)
      have hw2 : wrap64 (bx + bw) = bx + bw := by have := HBD.out; unfold wrap64; omega
      have hw3 : wrap64 (bY + bh) = bY + bh := by have := HBD.out; unfold wrap64; omega
      clear hwa hnb hp HO HA HB
      have x0 := q0.cell 0
      have x1 := q0.cell 1
      have x2 := q0.cell 2
      have y0 := hp1.cell 0
      have y1 := hp1.cell 1
      have y2 := hp1.cell 2
      have y3 := hp1.cell 3
      clear q0 hp1
      subst e1
      cases k1 : decide (bx ≤ qx)
      · have HIN : Hid (inX ⟨bx, bY, bw, bh⟩ qx qy = false) := Lib.hid (by unfold inX; dsimp only; rw [k1]; simp)
        rw [if_neg (by rw [HIN.out]; exact Bool.false_ne_true)] at HSN
        rw [← HSN.out] at HOa
        go_upto_region 7 with fail
        rw [← HWA.out]
        go_wp2
        go_roundw
        case rel => exact ⟨k + 1, hlt, (by rw [hw1]; rfl), HBa, HOa⟩
        case measure => rw [hw1]; exact ms_up hlt
      cases k2 : decide (qx < bx + bw)
      · have HIN : Hid (inX ⟨bx, bY, bw, bh⟩ qx qy = false) := Lib.hid (by unfold inX; dsimp only; rw [k1, k2]; simp)
        rw [if_neg (by rw [HIN.out]; exact Bool.false_ne_true)] at HSN
        rw [← HSN.out] at HOa
        go_upto_region 7 with fail
        rw [← HWA.out]
        go_wp2
        go_roundw
        case rel => exact ⟨k + 1, hlt, (by rw [hw1]; rfl), HBa, HOa⟩
        case measure => rw [hw1]; exact ms_up hlt
      cases k3 : decide (bY ≤ qy)
      · have HIN : Hid (inX ⟨bx, bY, bw, bh⟩ qx qy = false) := Lib.hid (by unfold inX; dsimp only; rw [k1, k2, k3]; simp)
        rw [if_neg (by rw [HIN.out]; exact Bool.false_ne_true)] at HSN
        rw [← HSN.out] at HOa
        go_upto_region 7 with fail
        rw [← HWA.out]
        go_wp2
        go_roundw
        case rel => exact ⟨k + 1, hlt, (by rw [hw1]; rfl), HBa, HOa⟩
        case measure => rw [hw1]; exact ms_up hlt
      cases k4 : decide (qy < bY + bh)
      · have HIN : Hid (inX ⟨bx, bY, bw, bh⟩ qx qy = false) := Lib.hid (by unfold inX; dsimp only; rw [k1, k2, k3, k4]; simp)
        rw [if_neg (by rw [HIN.out]; exact Bool.false_ne_true)] at HSN
        rw [← HSN.out] at HOa
        go_upto_region 7 with fail
        rw [← HWA.out]
        go_wp2
        go_roundw
        case rel => exact ⟨k + 1, hlt, (by rw [hw1]; rfl), HBa, HOa⟩
        case measure => rw [hw1]; exact ms_up hlt
      have HIN : Hid (inX ⟨bx, bY, bw, bh⟩ qx qy = true) := Lib.hid (by unfold inX; dsimp only; rw [k1, k2, k3, k4]; rfl)
      have hcn : (cutC (ps.take k) ⟨bx, bY, bw, bh⟩).length < 4294967296 := by have := HCL.out; have := HRL.out; have h2 := List.length_take_le k ps; have h3 := HCL.out; omega
      have hbs : w2.heap.size ≤ wa.heap.size := HBa.out.size
      rw [if_pos HIN.out] at HSN
      have hown2 := HOa.out
      go_upto_region 7 with fail
      rw [← HWA.out]
      go_wp2_with (at_builtin; refine wpList_pushC rfl _ _ _ rfl w2.heap.size 34 Tryd.underlying24 Tryd.infoCell _ _ rfl hown2 _ _ _ rfl hcn hbs ?_)
      intro v' w9 ho9 hb9
      have HO9 := Lib.hid ho9
      clear hown2 ho9
      rw [← HSN.out] at HO9
      have HB9 := Lib.hid (HBa.out.trans hb9)
      clear hb9
      go_wp2
      go_roundw
      case rel => exact ⟨k + 1, hlt, (by rw [hw1]; rfl), HB9, HO9⟩
      case measure => rw [hw1]; exact ms_up hlt
    · have dk : decide ((k : Int) < ps.length) = false := decide_eq_false (by omega)
      have ek : k = ps.length := by omega
      have HO1 := HO.out
      rw [ek, List.take_length] at HO1
      have HO2 := Lib.hid HO1
      clear HO1 HO hp
      go_wp2
      go_ret
      exact ⟨_, rfl, HO2.out.low HB2.out.size, HB2.out.trans (HB.out.mono HB2.out.size)⟩
end Go.Proofs.YtblfeaapjloppaaDoor
