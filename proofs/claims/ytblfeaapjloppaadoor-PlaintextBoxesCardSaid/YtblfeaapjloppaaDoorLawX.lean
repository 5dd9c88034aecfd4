/-
  cellularlaw31.PlaintextBoxes: the walk. No condition.
-/
import Derived.Test.YtblfeaapjloppaaDoorBx3
namespace Go.Proofs.YtblfeaapjloppaaDoor
open Go.RowKit
set_option maxRecDepth 100000
set_option linter.unusedVariables false
set_option linter.unusedSimpArgs false

structure BxJ (w0 : World) (P : Nat) (bx : Int) (bY : Int) (bw : Int) (bh : Int) (A : Option Addr) (c : Nat) (n : Nat) (qs : List Cel) (rs : List Cel) (b0 b1 b2 b3 b4 b5 b6 b7 b8 b9 b10 b11 b12 b13 b14 : Bool) (v45 v46 v47 v48 v49 v50 v51 v52 v53 v54 v44 v55 v56 v9 v10 : Value) (w : World) : Prop where
  below : Below w0.heap.size w0 w
  h0 : b0 = true → v45 = .slice A n c
  h1 : b1 = true → v46 = .agg #[.int .i64 bx, .int .i64 bY, .int .i64 bw, .int .i64 bh]
  h2 : b2 = true → ∃ B a, v47 = .slice B qs.length a ∧ Cls w B qs
  h3 : b3 = true → v48 = .pointer (some ⟨P, 0, none⟩)
  h4 : b4 = true → v49 = .int .i64 bx
  h5 : b5 = true → v50 = .int .i64 (-bx)
  h6 : b6 = true → v51 = .pointer (some ⟨P, 1, none⟩)
  h7 : b7 = true → v52 = .int .i64 bY
  h8 : b8 = true → v53 = .int .i64 (-bY)
  h9 : b9 = true → ∃ B a, v54 = .tuple #[.slice B rs.length a, .int .i64 0] ∧ Cls w B rs
  h10 : b10 = true → ∃ B a, v44 = .tuple #[.slice B rs.length a, .int .i64 0] ∧ Cls w B rs
  h11 : b11 = true → ∃ B a, v55 = .slice B rs.length a ∧ Cls w B rs
  h12 : b12 = true → v56 = .int .i64 0
  h13 : b13 = true → ∃ B a, v9 = .slice B rs.length a ∧ Cls w B rs
  h14 : b14 = true → v10 = .int .i64 0
section
variable {w0 : World} {P : Nat} {bx : Int} {bY : Int} {bw : Int} {bh : Int} {A : Option Addr} {c : Nat} {n : Nat} {qs : List Cel} {rs : List Cel} {b0 b1 b2 b3 b4 b5 b6 b7 b8 b9 b10 b11 b12 b13 b14 : Bool} {v45 v46 v47 v48 v49 v50 v51 v52 v53 v54 v44 v55 v56 v9 v10 : Value} {w w' : World}
theorem BxJ.world (H : BxJ w0 P bx bY bw bh A c n qs rs b0 b1 b2 b3 b4 b5 b6 b7 b8 b9 b10 b11 b12 b13 b14 v45 v46 v47 v48 v49 v50 v51 v52 v53 v54 v44 v55 v56 v9 v10 w) (hb : Below w.heap.size w w') : BxJ w0 P bx bY bw bh A c n qs rs b0 b1 b2 b3 b4 b5 b6 b7 b8 b9 b10 b11 b12 b13 b14 v45 v46 v47 v48 v49 v50 v51 v52 v53 v54 v44 v55 v56 v9 v10 w' :=
  ⟨H.below.trans (hb.mono H.below.size), H.h0, H.h1, fun h => by obtain ⟨B, a, h1, h2⟩ := H.h2 h; exact ⟨B, a, h1, h2.ext hb⟩, H.h3, H.h4, H.h5, H.h6, H.h7, H.h8, fun h => by obtain ⟨B, a, h1, h2⟩ := H.h9 h; exact ⟨B, a, h1, h2.ext hb⟩, fun h => by obtain ⟨B, a, h1, h2⟩ := H.h10 h; exact ⟨B, a, h1, h2.ext hb⟩, fun h => by obtain ⟨B, a, h1, h2⟩ := H.h11 h; exact ⟨B, a, h1, h2.ext hb⟩, H.h12, fun h => by obtain ⟨B, a, h1, h2⟩ := H.h13 h; exact ⟨B, a, h1, h2.ext hb⟩, H.h14⟩
end
set_option maxHeartbeats 8000000 in
theorem lawX_any (A : Option Addr) (c : Nat) (ps : List Cel) (b : Bx) (w : World) (ha : Cls w A ps) :
    Calls Tryd.prog 7 #[.slice A ps.length c, bxV b] w fun e w' => e = .returned (.bool true) ∧ Below w.heap.size w w' := by
  have hn := ha.le
  obtain ⟨bx, bY, bw, bh⟩ := b
  unfold bxV
  dsimp only
  have hnb := below_new w (.cells #[.int .i64 bx, .int .i64 bY, .int .i64 bw, .int .i64 bh] 37)
  have p0 := Blk.new w 37 #[.int .i64 bx, .int .i64 bY, .int .i64 bw, .int .i64 bh]
  have HA := Lib.hid (ha.ext hnb)
  have HB0 := Lib.hid hnb
  have HP0 := Lib.hid p0
  have HX := Lib.hid (fun w => right3_any ⟨bx, bY, bw, bh⟩ w)
  unfold bxV at HX
  dsimp only at HX
  have hR := rright_any A c ps _ HA.out
  clear p0 hnb ha
  by_cases hp : 100 < ps.length
  · have d1 : decide ((100 : Int) < (ps.length : Int)) = true := decide_eq_true (by omega)
    clear hR
    go_enter Tryd.func7, Tryd.ntmps7
    obtain ⟨w0, hw0⟩ : ∃ w0, w0 = w.alloc (.cells #[.int .i64 bx, .int .i64 bY, .int .i64 bw, .int .i64 bh] 37) := ⟨_, rfl⟩
    rw [← hw0] at HA HB0 HP0
    have HW0 := Lib.hid hw0
    clear hw0
    go_upto_region 1 with fail
    rw [← HW0.out]
    have HAW := Lib.hid (awake_any w0)
    go_wp2_with (go_at_call 8; refine HAW.out.mono ?_)
    rintro e w9 ⟨rfl, hb9⟩
    have HB9 := Lib.hid (HB0.out.trans (hb9.mono HB0.out.size))
    clear hb9
    go_wp2
    go_ret
    exact ⟨rfl, HB9.out⟩
  have d1 : decide ((100 : Int) < (ps.length : Int)) = false := decide_eq_false (by omega)
  obtain ⟨w0, hw0⟩ : ∃ w0, w0 = w.alloc (.cells #[.int .i64 bx, .int .i64 bY, .int .i64 bw, .int .i64 bh] 37) := ⟨_, rfl⟩
  rw [← hw0] at HA HB0 HP0 hR
  have HW0 := Lib.hid hw0
  clear hw0 hp
  go_enter Tryd.func7, Tryd.ntmps7
  go_upto_region 1 with fail
  rw [← HW0.out]
  cases hr : rightC ps with
  | false =>
    rw [hr] at hR
    clear hr
    go_wp2_with (go_at_call 15; refine hR.mono ?_)
    rintro e w1 ⟨rfl, hb1⟩
    have p1 := HP0.out.below hb1 HP0.out.lt
    have HA1 := Lib.hid (HA.out.ext hb1)
    have HB1 := Lib.hid (HB0.out.trans (hb1.mono HB0.out.size))
    clear hb1
    have c0 := p1.cell 0
    have c1 := p1.cell 1
    have c2 := p1.cell 2
    have c3 := p1.cell 3
    have HAW := Lib.hid (awake_any w1)
    go_wp2_with (go_at_call 8; refine HAW.out.mono ?_)
    rintro e w9 ⟨rfl, hb9⟩
    have HB9 := Lib.hid (HB1.out.trans (hb9.mono HB1.out.size))
    clear hb9
    go_wp2
    go_ret
    exact ⟨rfl, HB9.out⟩
  | true =>
    rw [hr] at hR
    have HR := Lib.hid hr
    clear hr
    cases hx : rightX ⟨bx, bY, bw, bh⟩ with
    | false =>
      rw [hx] at HX
      clear hx
      go_wp2_with (go_at_call 15; refine hR.mono ?_)
      rintro e w1 ⟨rfl, hb1⟩
      have p1 := HP0.out.below hb1 HP0.out.lt
      have HA1 := Lib.hid (HA.out.ext hb1)
      have HB1 := Lib.hid (HB0.out.trans (hb1.mono HB0.out.size))
      clear hb1
      have c0 := p1.cell 0
      have c1 := p1.cell 1
      have c2 := p1.cell 2
      have c3 := p1.cell 3
      go_wp2_with (go_at_call 16; refine (HX.out _).mono ?_)
      rintro e w2 ⟨rfl, hb2⟩
      have p2 := p1.below hb2 p1.lt
      have HA2 := Lib.hid (HA1.out.ext hb2)
      have HB2 := Lib.hid (HB1.out.trans (hb2.mono HB1.out.size))
      clear hb2 p1 c0 c1 c2 c3
      have c0 := p2.cell 0
      have c1 := p2.cell 1
      have c2 := p2.cell 2
      have c3 := p2.cell 3
      have HAW := Lib.hid (awake_any w2)
      go_wp2_with (go_at_call 8; refine HAW.out.mono ?_)
      rintro e w9 ⟨rfl, hb9⟩
      have HB9 := Lib.hid (HB2.out.trans (hb9.mono HB2.out.size))
      clear hb9
      go_wp2
      go_ret
      exact ⟨rfl, HB9.out⟩
    | true =>
      rw [hx] at HX
      have HX1 := Lib.hid hx
      have HBD := Lib.hid (rightX_bd hx)
      dsimp only at HBD
      clear hx
      have hwm : wrap64 (bw * bh) = bw * bh := bx_wrap HBD.out.1 HBD.out.2.1 HBD.out.2.2.1 HBD.out.2.2.2.1
      by_cases hbig : 2000 < bw * bh
      · have d2 : decide (2000 < bw * bh) = true := decide_eq_true hbig
        clear hbig
        go_wp2_with (go_at_call 15; refine hR.mono ?_)
        rintro e w1 ⟨rfl, hb1⟩
        have p1 := HP0.out.below hb1 HP0.out.lt
        have HA1 := Lib.hid (HA.out.ext hb1)
        have HB1 := Lib.hid (HB0.out.trans (hb1.mono HB0.out.size))
        clear hb1
        have c0 := p1.cell 0
        have c1 := p1.cell 1
        have c2 := p1.cell 2
        have c3 := p1.cell 3
        go_wp2_with (go_at_call 16; refine (HX.out _).mono ?_)
        rintro e w2 ⟨rfl, hb2⟩
        have p2 := p1.below hb2 p1.lt
        have HA2 := Lib.hid (HA1.out.ext hb2)
        have HB2 := Lib.hid (HB1.out.trans (hb2.mono HB1.out.size))
        clear hb2 p1 c0 c1 c2 c3
        have c0 := p2.cell 0
        have c1 := p2.cell 1
        have c2 := p2.cell 2
        have c3 := p2.cell 3
        have HAW := Lib.hid (awake_any w2)
        go_wp2_with (go_at_call 8; refine HAW.out.mono ?_)
        rintro e w9 ⟨rfl, hb9⟩
        have HB9 := Lib.hid (HB2.out.trans (hb9.mono HB2.out.size))
        clear hb9
        go_wp2
        go_ret
        exact ⟨rfl, HB9.out⟩
      have d2 : decide (2000 < bw * bh) = false := decide_eq_false hbig
      have HS := Lib.hid (show bw * bh ≤ 2000 by omega)
      have HM := Lib.hid (bx_mul HBD.out.1 HBD.out.2.2.1 HS.out)
      clear hbig
      go_wp2_with (go_at_call 15; refine hR.mono ?_)
      rintro e w1 ⟨rfl, hb1⟩
      have p1 := HP0.out.below hb1 HP0.out.lt
      have HA1 := Lib.hid (HA.out.ext hb1)
      have HB1 := Lib.hid (HB0.out.trans (hb1.mono HB0.out.size))
      clear hb1
      have c0 := p1.cell 0
      have c1 := p1.cell 1
      have c2 := p1.cell 2
      have c3 := p1.cell 3
      go_wp2_with (go_at_call 16; refine (HX.out _).mono ?_)
      rintro e w2 ⟨rfl, hb2⟩
      have p2 := p1.below hb2 p1.lt
      have HA2 := Lib.hid (HA1.out.ext hb2)
      have HB2 := Lib.hid (HB1.out.trans (hb2.mono HB1.out.size))
      clear hb2 p1 c0 c1 c2 c3
      have c0 := p2.cell 0
      have c1 := p2.cell 1
      have c2 := p2.cell 2
      have c3 := p2.cell 3
      have HD1 := Lib.hid (draw_any A c ps ⟨bx, bY, bw, bh⟩ w2 HA2.out)
      rw [draw_ok HR.out HX1.out (by have := HM.out; dsimp only; omega)] at HD1
      have hdl := draw_len ps HX1.out
      have HQ : Hid (∀ W, Calls Tryd.prog 9 #[.string ⟨(drawG ps ⟨bx, bY, bw, bh⟩).toArray⟩] W (RetRead (movC (-bx) (-bY) (cutC ps ⟨bx, bY, bw, bh⟩), 0) W)) := Lib.hid (fun W => by
        have h := parse_any ⟨(drawG ps ⟨bx, bY, bw, bh⟩).toArray⟩ W (by show (drawG ps ⟨bx, bY, bw, bh⟩).length ≤ _; have := HM.out; dsimp only at hdl; omega)
        rw [show (⟨(drawG ps ⟨bx, bY, bw, bh⟩).toArray⟩ : ByteArray).data.toList = drawG ps ⟨bx, bY, bw, bh⟩ from rfl, draw_back HR.out HX1.out HS.out] at h
        exact h)
      have HCU := Lib.hid (fun W h => cut_any A c ps ⟨bx, bY, bw, bh⟩ W h HR.out HX1.out)
      have HSH : Hid (∀ A' c' W, Cls W A' (cutC ps ⟨bx, bY, bw, bh⟩) → Calls Tryd.prog 17 #[.slice A' (cutC ps ⟨bx, bY, bw, bh⟩).length c', .int .i64 (-bx), .int .i64 (-bY)] W fun e w' => ∃ A' c', e = .returned (.tuple #[.slice A' (movC (-bx) (-bY) (cutC ps ⟨bx, bY, bw, bh⟩)).length c', .int .i64 0]) ∧ Cls w' A' (movC (-bx) (-bY) (cutC ps ⟨bx, bY, bw, bh⟩)) ∧ Below W.heap.size W w') := Lib.hid (fun A' c' W h => shift_any A' c' _ (-bx) (-bY) W h (cut_right _ HR.out) (by have := HBD.out; omega) (by have := HBD.out; omega) (mov_place HX1.out HS.out))
      unfold bxV at HD1 HCU
      obtain ⟨g, hg⟩ : ∃ g, g = drawG ps ⟨bx, bY, bw, bh⟩ := ⟨_, rfl⟩
      obtain ⟨rs, hrs⟩ : ∃ rs, rs = movC (-bx) (-bY) (cutC ps ⟨bx, bY, bw, bh⟩) := ⟨_, rfl⟩
      obtain ⟨qs, hqs⟩ : ∃ qs, qs = cutC ps ⟨bx, bY, bw, bh⟩ := ⟨_, rfl⟩
      rw [← hg] at HD1 HQ hdl
      rw [← hrs] at HQ HSH
      rw [← hqs] at HCU HSH
      have HGL := Lib.hid hdl
      clear hg hrs hqs hdl
      unfold RetText at HD1
      unfold RetRead at HQ
      dsimp only at HD1 HQ HGL HCU
      have hv1 : wrap64 (-bx) = -bx := by have := HBD.out; unfold wrap64; omega
      have hv2 : wrap64 (-bY) = -bY := by have := HBD.out; unfold wrap64; omega
      have hv3 : wrap64 (bw + 1) = bw + 1 := by have := HBD.out; unfold wrap64; omega
      have hv4 : wrap64 ((bw + 1) * bh) = (bw + 1) * bh := by
        have h1 := HM.out
        have h2 : 0 ≤ (bw + 1) * bh := Int.mul_nonneg (by have := HBD.out; omega) (by have := HBD.out; omega)
        unfold wrap64
        omega
      have HV := Lib.hid (And.intro hv1 (And.intro hv2 (And.intro hv3 hv4)))
      clear hv1 hv2 hv3 hv4
      go_wp2_with (go_at_call 14; refine HD1.out.mono ?_)
      rintro e w3 ⟨rfl, hb3⟩
      have p3 := p2.below hb3 p2.lt
      have HA3 := Lib.hid (HA2.out.ext hb3)
      have HB3 := Lib.hid (HB2.out.trans (hb3.mono HB2.out.size))
      clear hb3 p2 c0 c1 c2 c3
      have HQ3 := Lib.hid (HQ.out w3)
      go_wp2_with (go_at_call 9; refine HQ3.out.mono ?_)
      rintro e w4 ⟨B1, a1, rfl, hc4, hb4⟩
      have HP4 := Lib.hid (p3.below hb4 p3.lt)
      have HA4 := Lib.hid (HA3.out.ext hb4)
      have HB4 := Lib.hid (HB3.out.trans (hb4.mono HB3.out.size))
      have HC4 := Lib.hid hc4
      clear hc4 hb4 p3
      go_upto_region 5 with fail
      refine wp_region_J (by kernel_rfl) (fun listed act w' => ∃ b0 b1 b2 b3 b4 b5 b6 b7 b8 b9 b10 b11 b12 b13 b14 v45 v46 v47 v48 v49 v50 v51 v52 v53 v54 v44 v55 v56 v9 v10, listed = #[b0, b1, b2, b3, b4, b5, b6, b7, b8, b9, b10, b11, b12, b13, b14] ∧ act = Act.mk #[.slice A ps.length c, .agg #[.int .i64 bx, .int .i64 bY, .int .i64 bw, .int .i64 bh], undef, .pointer (some ⟨w.heap.size, 0, none⟩), .bool false, .string ⟨g.toArray⟩, .int .i64 0, .slice B1 rs.length a1, .int .i64 0, v9, v10, .slice A ps.length c, .int .i64 ps.length, .bool false, .bool false, .slice A ps.length c, .bool true, .bool false, .bool false, .bool false, .agg #[.int .i64 bx, .int .i64 bY, .int .i64 bw, .int .i64 bh], .bool true, .bool false, .bool false, .bool false, .pointer (some ⟨w.heap.size, 2, none⟩), .int .i64 bw, .pointer (some ⟨w.heap.size, 3, none⟩), .int .i64 bh, .int .i64 (bw * bh), .bool false, .bool false, undef, .tuple #[.string ⟨g.toArray⟩, .int .i64 0], .slice A ps.length c, .agg #[.int .i64 bx, .int .i64 bY, .int .i64 bw, .int .i64 bh], .tuple #[.string ⟨g.toArray⟩, .int .i64 0], .string ⟨g.toArray⟩, .int .i64 0, .tuple #[.slice B1 rs.length a1, .int .i64 0], .string ⟨g.toArray⟩, .tuple #[.slice B1 rs.length a1, .int .i64 0], .slice B1 rs.length a1, .int .i64 0, v44, v45, v46, v47, v48, v49, v50, v51, v52, v53, v54, v55, v56, undef, undef, undef, undef, undef, undef, undef, undef, undef, undef, undef, undef, undef, undef, undef, undef, undef, undef, undef, undef, undef, undef, undef, undef, undef, undef, undef, undef, undef] [] ∧ BxJ w4 w.heap.size bx bY bw bh A c ps.length qs rs b0 b1 b2 b3 b4 b5 b6 b7 b8 b9 b10 b11 b12 b13 b14 v45 v46 v47 v48 v49 v50 v51 v52 v53 v54 v44 v55 v56 v9 v10 w') ?_ ?_ ?_
      · exact ⟨_, _, _, _, _, _, _, _, _, _, _, _, _, _, _, _, _, _, _, _, _, _, _, _, _, _, _, _, _, _, rfl, rfl, ⟨(Below.refl _ w4).drew, (by simp), (by simp), (by simp), (by simp), (by simp), (by simp), (by simp), (by simp), (by simp), (by simp), (by simp), (by simp), (by simp), (by simp), (by simp)⟩⟩
      · rintro i listed act w' hi ⟨b0, b1, b2, b3, b4, b5, b6, b7, b8, b9, b10, b11, b12, b13, b14, v45, v46, v47, v48, v49, v50, v51, v52, v53, v54, v44, v55, v56, v9, v10, rfl, rfl, H⟩
        have hi16 : i < 15 := by
          obtain ⟨-, o, ho, -⟩ := mem_ready.1 hi
          exact (Array.getElem?_eq_some_iff.1 ho).1
        obtain rfl | rfl | rfl | rfl | rfl | rfl | rfl | rfl | rfl | rfl | rfl | rfl | rfl | rfl | rfl : i = 0 ∨ i = 1 ∨ i = 2 ∨ i = 3 ∨ i = 4 ∨ i = 5 ∨ i = 6 ∨ i = 7 ∨ i = 8 ∨ i = 9 ∨ i = 10 ∨ i = 11 ∨ i = 12 ∨ i = 13 ∨ i = 14 := by omega
        all_goals simp [mem_ready, Region.binds] at hi
        · refine wpOp_hidden rfl fun K hK => ?_
          go_wp2
          refine OnlyN.mk (hK.out _ _ ⟨true, _, _, _, _, _, _, _, _, _, _, _, _, _, _, .slice A ps.length c, _, _, _, _, _, _, _, _, _, _, _, _, _, _, rfl, rfl, ⟨H.below, fun _ => rfl, H.h1, H.h2, H.h3, H.h4, H.h5, H.h6, H.h7, H.h8, H.h9, H.h10, H.h11, H.h12, H.h13, H.h14⟩⟩)
        · have cc0 := (H.below.cell (p := ⟨w.heap.size, 0, none⟩) HP4.out.lt).trans (HP4.out.cell_ 0 (.int .i64 bx) rfl)
          have cc1 := (H.below.cell (p := ⟨w.heap.size, 1, none⟩) HP4.out.lt).trans (HP4.out.cell_ 1 (.int .i64 bY) rfl)
          have cc2 := (H.below.cell (p := ⟨w.heap.size, 2, none⟩) HP4.out.lt).trans (HP4.out.cell_ 2 (.int .i64 bw) rfl)
          have cc3 := (H.below.cell (p := ⟨w.heap.size, 3, none⟩) HP4.out.lt).trans (HP4.out.cell_ 3 (.int .i64 bh) rfl)
          refine wpOp_hidden rfl fun K hK => ?_
          go_wp2
          refine OnlyN.mk (hK.out _ _ ⟨_, true, _, _, _, _, _, _, _, _, _, _, _, _, _, _, .agg #[.int .i64 bx, .int .i64 bY, .int .i64 bw, .int .i64 bh], _, _, _, _, _, _, _, _, _, _, _, _, _, rfl, rfl, ⟨H.below, H.h0, fun _ => rfl, H.h2, H.h3, H.h4, H.h5, H.h6, H.h7, H.h8, H.h9, H.h10, H.h11, H.h12, H.h13, H.h14⟩⟩)
        · obtain rfl := H.h0 (by simp [hi])
          obtain rfl := H.h1 (by simp [hi])
          have HCX := Lib.hid (HCU.out w' (HA4.out.ext H.below))
          refine wpOp_hidden rfl fun K hK => ?_
          go_wp2_with (go_at_call 18; refine HCX.out.mono ?_)
          rintro e w9 v rfl ho hb9
          obtain ⟨B, a, hv, hcl, -⟩ := ho.cls
          subst hv
          have HA := Lib.hid (H.world hb9)
          have HCL := Lib.hid hcl
          clear H hb9 ho hcl
          go_wp2
          refine OnlyN.mk (hK.out _ _ ⟨_, _, true, _, _, _, _, _, _, _, _, _, _, _, _, _, _, .slice B qs.length a, _, _, _, _, _, _, _, _, _, _, _, _, rfl, rfl, ⟨HA.out.below, HA.out.h0, HA.out.h1, fun _ => ⟨B, a, rfl, HCL.out⟩, HA.out.h3, HA.out.h4, HA.out.h5, HA.out.h6, HA.out.h7, HA.out.h8, HA.out.h9, HA.out.h10, HA.out.h11, HA.out.h12, HA.out.h13, HA.out.h14⟩⟩)
        · refine wpOp_hidden rfl fun K hK => ?_
          go_wp2
          refine OnlyN.mk (hK.out _ _ ⟨_, _, _, true, _, _, _, _, _, _, _, _, _, _, _, _, _, _, .pointer (some ⟨w.heap.size, 0, none⟩), _, _, _, _, _, _, _, _, _, _, _, rfl, rfl, ⟨H.below, H.h0, H.h1, H.h2, fun _ => rfl, H.h4, H.h5, H.h6, H.h7, H.h8, H.h9, H.h10, H.h11, H.h12, H.h13, H.h14⟩⟩)
        · obtain rfl := H.h3 (by simp [hi])
          have cc0 := (H.below.cell (p := ⟨w.heap.size, 0, none⟩) HP4.out.lt).trans (HP4.out.cell_ 0 (.int .i64 bx) rfl)
          refine wpOp_hidden rfl fun K hK => ?_
          go_wp2
          refine OnlyN.mk (hK.out _ _ ⟨_, _, _, _, true, _, _, _, _, _, _, _, _, _, _, _, _, _, _, .int .i64 bx, _, _, _, _, _, _, _, _, _, _, rfl, rfl, ⟨H.below, H.h0, H.h1, H.h2, H.h3, fun _ => rfl, H.h5, H.h6, H.h7, H.h8, H.h9, H.h10, H.h11, H.h12, H.h13, H.h14⟩⟩)
        · obtain rfl := H.h4 (by simp [hi])
          have hv1 := HV.out.1
          refine wpOp_hidden rfl fun K hK => ?_
          go_wp2
          refine OnlyN.mk (hK.out _ _ ⟨_, _, _, _, _, true, _, _, _, _, _, _, _, _, _, _, _, _, _, _, .int .i64 (-bx), _, _, _, _, _, _, _, _, _, rfl, rfl, ⟨H.below, H.h0, H.h1, H.h2, H.h3, H.h4, fun _ => rfl, H.h6, H.h7, H.h8, H.h9, H.h10, H.h11, H.h12, H.h13, H.h14⟩⟩)
        · refine wpOp_hidden rfl fun K hK => ?_
          go_wp2
          refine OnlyN.mk (hK.out _ _ ⟨_, _, _, _, _, _, true, _, _, _, _, _, _, _, _, _, _, _, _, _, _, .pointer (some ⟨w.heap.size, 1, none⟩), _, _, _, _, _, _, _, _, rfl, rfl, ⟨H.below, H.h0, H.h1, H.h2, H.h3, H.h4, H.h5, fun _ => rfl, H.h7, H.h8, H.h9, H.h10, H.h11, H.h12, H.h13, H.h14⟩⟩)
        · obtain rfl := H.h6 (by simp [hi])
          have cc1 := (H.below.cell (p := ⟨w.heap.size, 1, none⟩) HP4.out.lt).trans (HP4.out.cell_ 1 (.int .i64 bY) rfl)
          refine wpOp_hidden rfl fun K hK => ?_
          go_wp2
          refine OnlyN.mk (hK.out _ _ ⟨_, _, _, _, _, _, _, true, _, _, _, _, _, _, _, _, _, _, _, _, _, _, .int .i64 bY, _, _, _, _, _, _, _, rfl, rfl, ⟨H.below, H.h0, H.h1, H.h2, H.h3, H.h4, H.h5, H.h6, fun _ => rfl, H.h8, H.h9, H.h10, H.h11, H.h12, H.h13, H.h14⟩⟩)
        · obtain rfl := H.h7 (by simp [hi])
          have hv2 := HV.out.2.1
          refine wpOp_hidden rfl fun K hK => ?_
          go_wp2
          refine OnlyN.mk (hK.out _ _ ⟨_, _, _, _, _, _, _, _, true, _, _, _, _, _, _, _, _, _, _, _, _, _, _, .int .i64 (-bY), _, _, _, _, _, _, rfl, rfl, ⟨H.below, H.h0, H.h1, H.h2, H.h3, H.h4, H.h5, H.h6, H.h7, fun _ => rfl, H.h9, H.h10, H.h11, H.h12, H.h13, H.h14⟩⟩)
        · obtain rfl := H.h5 (by simp [hi])
          obtain rfl := H.h8 (by simp [hi])
          obtain ⟨B, a, hv, hcl⟩ := H.h2 (by simp [hi])
          subst hv
          have HCX := Lib.hid (HSH.out B a w' hcl)
          have H2 := Lib.hid hcl
          clear hcl
          refine wpOp_hidden rfl fun K hK => ?_
          go_wp2_with (go_at_call 17; refine HCX.out.mono ?_)
          rintro e w9 B2 a2 rfl hcl hb9
          have HA := Lib.hid (H.world hb9)
          have HCL := Lib.hid hcl
          clear H hb9 hcl
          go_wp2
          refine OnlyN.mk (hK.out _ _ ⟨_, _, _, _, _, _, _, _, _, true, _, _, _, _, _, _, _, _, _, _, _, _, _, _, .tuple #[.slice B2 rs.length a2, .int .i64 0], _, _, _, _, _, rfl, rfl, ⟨HA.out.below, HA.out.h0, HA.out.h1, HA.out.h2, HA.out.h3, HA.out.h4, HA.out.h5, HA.out.h6, HA.out.h7, HA.out.h8, fun _ => ⟨B2, a2, rfl, HCL.out⟩, HA.out.h10, HA.out.h11, HA.out.h12, HA.out.h13, HA.out.h14⟩⟩)
        · obtain ⟨B, a, hv, hcl⟩ := H.h9 (by simp [hi])
          subst hv
          have HCL := Lib.hid hcl
          clear hcl
          refine wpOp_hidden rfl fun K hK => ?_
          go_wp2
          refine OnlyN.mk (hK.out _ _ ⟨_, _, _, _, _, _, _, _, _, _, true, _, _, _, _, _, _, _, _, _, _, _, _, _, _, .tuple #[.slice B rs.length a, .int .i64 0], _, _, _, _, rfl, rfl, ⟨H.below, H.h0, H.h1, H.h2, H.h3, H.h4, H.h5, H.h6, H.h7, H.h8, H.h9, fun _ => ⟨B, a, rfl, HCL.out⟩, H.h11, H.h12, H.h13, H.h14⟩⟩)
        · obtain ⟨B, a, hv, hcl⟩ := H.h10 (by simp [hi])
          subst hv
          have HCL := Lib.hid hcl
          clear hcl
          refine wpOp_hidden rfl fun K hK => ?_
          go_wp2
          refine OnlyN.mk (hK.out _ _ ⟨_, _, _, _, _, _, _, _, _, _, _, true, _, _, _, _, _, _, _, _, _, _, _, _, _, _, .slice B rs.length a, _, _, _, rfl, rfl, ⟨H.below, H.h0, H.h1, H.h2, H.h3, H.h4, H.h5, H.h6, H.h7, H.h8, H.h9, H.h10, fun _ => ⟨B, a, rfl, HCL.out⟩, H.h12, H.h13, H.h14⟩⟩)
        · obtain ⟨B, a, hv, hcl⟩ := H.h10 (by simp [hi])
          subst hv
          clear hcl
          refine wpOp_hidden rfl fun K hK => ?_
          go_wp2
          refine OnlyN.mk (hK.out _ _ ⟨_, _, _, _, _, _, _, _, _, _, _, _, true, _, _, _, _, _, _, _, _, _, _, _, _, _, _, .int .i64 0, _, _, rfl, rfl, ⟨H.below, H.h0, H.h1, H.h2, H.h3, H.h4, H.h5, H.h6, H.h7, H.h8, H.h9, H.h10, H.h11, fun _ => rfl, H.h13, H.h14⟩⟩)
        · obtain ⟨B, a, hv, hcl⟩ := H.h11 (by simp [hi])
          subst hv
          have HCL := Lib.hid hcl
          clear hcl
          refine wpOp_hidden rfl fun K hK => ?_
          go_wp2
          refine OnlyN.mk (hK.out _ _ ⟨_, _, _, _, _, _, _, _, _, _, _, _, _, true, _, _, _, _, _, _, _, _, _, _, _, _, _, _, .slice B rs.length a, _, rfl, rfl, ⟨H.below, H.h0, H.h1, H.h2, H.h3, H.h4, H.h5, H.h6, H.h7, H.h8, H.h9, H.h10, H.h11, H.h12, fun _ => ⟨B, a, rfl, HCL.out⟩, H.h14⟩⟩)
        · obtain rfl := H.h12 (by simp [hi])
          refine wpOp_hidden rfl fun K hK => ?_
          go_wp2
          refine OnlyN.mk (hK.out _ _ ⟨_, _, _, _, _, _, _, _, _, _, _, _, _, _, true, _, _, _, _, _, _, _, _, _, _, _, _, _, _, .int .i64 0, rfl, rfl, ⟨H.below, H.h0, H.h1, H.h2, H.h3, H.h4, H.h5, H.h6, H.h7, H.h8, H.h9, H.h10, H.h11, H.h12, H.h13, fun _ => rfl⟩⟩)
      · rintro listed act w' hr ⟨b0, b1, b2, b3, b4, b5, b6, b7, b8, b9, b10, b11, b12, b13, b14, v45, v46, v47, v48, v49, v50, v51, v52, v53, v54, v44, v55, v56, v9, v10, rfl, rfl, H⟩
        have hn := List.eq_nil_iff_forall_not_mem.1 hr
        have r0 := hn 0
        simp [mem_ready, Region.binds] at r0
        subst r0
        have r1 := hn 1
        simp [mem_ready, Region.binds] at r1
        subst r1
        have r2 := hn 2
        simp [mem_ready, Region.binds] at r2
        subst r2
        have r3 := hn 3
        simp [mem_ready, Region.binds] at r3
        subst r3
        have r4 := hn 4
        simp [mem_ready, Region.binds] at r4
        subst r4
        have r5 := hn 5
        simp [mem_ready, Region.binds] at r5
        subst r5
        have r6 := hn 6
        simp [mem_ready, Region.binds] at r6
        subst r6
        have r7 := hn 7
        simp [mem_ready, Region.binds] at r7
        subst r7
        have r8 := hn 8
        simp [mem_ready, Region.binds] at r8
        subst r8
        have r9 := hn 9
        simp [mem_ready, Region.binds] at r9
        subst r9
        have r10 := hn 10
        simp [mem_ready, Region.binds] at r10
        subst r10
        have r11 := hn 11
        simp [mem_ready, Region.binds] at r11
        subst r11
        have r12 := hn 12
        simp [mem_ready, Region.binds] at r12
        subst r12
        have r13 := hn 13
        simp [mem_ready, Region.binds] at r13
        subst r13
        have r14 := hn 14
        simp [mem_ready, Region.binds] at r14
        subst r14
        obtain ⟨B2, a2, hv, hcl⟩ := H.h13 rfl
        subst hv
        obtain rfl := H.h14 rfl
        have HA5 := Lib.hid hcl
        have HP5 := Lib.hid (HP4.out.below H.below HP4.out.lt)
        have HB5 := Lib.hid (HB4.out.trans (H.below.mono HB4.out.size))
        have HC5 := Lib.hid (HC4.out.ext H.below)
        clear H hcl
        have HSM := Lib.hid (rsame_any B1 B2 a1 a2 rs rs w' HC5.out HA5.out)
        rw [show sameC rs rs = true from by unfold sameC; simp] at HSM
        go_wp2_with (go_at_call 11; refine HSM.out.mono ?_)
        rintro e w6 ⟨rfl, hb6⟩
        have p6 := HP5.out.below hb6 HP5.out.lt
        have HB6 := Lib.hid (HB5.out.trans (hb6.mono HB5.out.size))
        clear hb6
        have c2 := p6.cell 2
        have c3 := p6.cell 3
        obtain ⟨-, -, hv3, hv4⟩ := HV.out
        have hgl := HGL.out
        have hge : ((g.length : Int) == (bw + 1) * bh) = true := by rw [hgl]; simp
        clear hgl
        have HAW := Lib.hid (awake_any w6)
        go_wp2_with (go_at_call 8; refine HAW.out.mono ?_)
        rintro e w9 ⟨rfl, hb9⟩
        have HB9 := Lib.hid (HB6.out.trans (hb9.mono HB6.out.size))
        clear hb9
        go_wp2
        go_ret
        exact ⟨rfl, HB9.out⟩

end Go.Proofs.YtblfeaapjloppaaDoor
