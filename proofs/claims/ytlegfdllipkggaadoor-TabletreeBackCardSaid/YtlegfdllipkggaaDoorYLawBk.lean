/-
  texts LawBk: parts of the proof; conditions stand with each theorem.
-/
import Derived.Test.YtlegfdllipkggaaDoorYG21
import Derived.Test.YtlegfdllipkggaaDoorYG22
import Derived.Test.YtlegfdllipkggaaDoorYG8
namespace Go.Proofs.YtlegfdllipkggaaDoor
open Go.RowKit Go.Maps
set_option maxRecDepth 100000
set_option linter.unusedVariables false
set_option linter.unusedSimpArgs false
theorem sameP_self (t : PT) : sameP t t = true := by
 unfold sameP
 simp
theorem rred_tv {w : World} {v : Value} {t : PT} (h : TreeAt w v t) : Calls Tryd.prog 14 #[v] w (RetA (redT t) w) := by
 obtain ⟨A, c, B, d, os, rfl, h1, h2, h3⟩ := h; have := rreduce_any t.st A c t.ps B d os w h1 h2; rw [h3] at this; exact this.mono fun _ _ h => h.a
theorem tableP_ok {t : PT} {tt : TabL} (h : tableP t = (tt, 0)) : t.right = true ∧ (rowsOf t).length ≤ 400 ∧ tt.sym = 0 := by
 cases hr : t.right with
 | false =>
  unfold tableP at h; rw [if_pos hr] at h; have h9 : (_ : Int) = 0 := congrArg Prod.snd h; exact absurd h9 (by decide)
 | true =>
  by_cases h4 : 400 < (rowsOf t).length
  ·unfold tableP at h; rw [if_neg (by rw [hr]; simp), if_pos h4] at h; have h9 : (_ : Int) = 0 := congrArg Prod.snd h; exact absurd h9 (by decide)
  ·rw [tableP_eq hr (by omega)] at h; have h9 := congrArg Prod.fst h; dsimp only at h9; exact ⟨rfl, by omega, by rw [← h9]⟩
theorem back_tt {t : PT} {tt : TabL} (h : tableP t = (tt, 0)) (hy : tinyB tt = true) : treeT tt = (redT t, 0) := by
 obtain ⟨h1, h2, -⟩ := tableP_ok h; have := back_law h1 h2 (by rw [h]; exact hy); rw [h] at this; exact this
structure LbkJ (W : World) (agU : Value) (agA : Value) (t : PT) (b0 b1 b2 b3 b4 b5 b6 b7 b8 b9 b10 b11 : Bool) (v29 v30 v31 v32 v33 v34 v35 v36 v37 v38 v39 v2 : Value) (w : World) : Prop where
 h0 : b0 = true → v29 = .int .i64 0
 h1 : b1 = true → v30 = .bool true
 h2 : b2 = true → v31 = .bool true
 h3 : b3 = true → v32 = agU
 h4 : b4 = true → v33 = agA
 h6 : b6 = true → v35 = .bool true
 h7 : b7 = true → v36 = .bool true
 h8 : b8 = true → v37 = .bool true
 h9 : b9 = true → v38 = .bool true
 h10 : b10 = true → v39 = .bool true
 h11 : b11 = true → v2 = .bool true
 below : Below W.heap.size W w
 t5 : b5 = true → TreeAt w v34 (redT t)
section
variable {W : World} {agU : Value} {agA : Value} {t : PT} {b0 b1 b2 b3 b4 b5 b6 b7 b8 b9 b10 b11 : Bool} {v29 v30 v31 v32 v33 v34 v35 v36 v37 v38 v39 v2 : Value} {w w' : World}
theorem LbkJ.world (H : LbkJ W agU agA t b0 b1 b2 b3 b4 b5 b6 b7 b8 b9 b10 b11 v29 v30 v31 v32 v33 v34 v35 v36 v37 v38 v39 v2 w) (hb : Below w.heap.size w w') : LbkJ W agU agA t b0 b1 b2 b3 b4 b5 b6 b7 b8 b9 b10 b11 v29 v30 v31 v32 v33 v34 v35 v36 v37 v38 v39 v2 w' :=
 {H with below := H.below.trans (hb.mono H.below.size), t5 := fun h => (H.t5 h).ext hb }
end

set_option maxHeartbeats 16000000 in
theorem lawBk_any (t : PT) (st : Int) (A : Option Addr) (n c : Nat) (B : Option Addr) (m d : Nat) (w : World) (h : TreeAt w (.agg #[.int .i64 st, .slice A n c, .slice B m d]) t) (ht : TabB w.heap.size w) (hG : GMat w) :
  Calls Tryd.prog 4 #[.agg #[.int .i64 st, .slice A n c, .slice B m d]] w fun e w' => e = .returned (.bool true) ∧ Below w.heap.size w w' := by
 obtain ⟨w0, hw0⟩ : ∃ w0, w0 = w.alloc (.cells #[.int .i64 st, .slice A n c, .slice B m d] 25) := ⟨_, rfl⟩
 obtain ⟨pT, hpT⟩ : ∃ p, p = w.heap.size := ⟨_, rfl⟩
 have hv := TrV.new h; rw [← hw0, ← hpT] at hv; have HT := Lib.hid hv; have HB : Hid (Below w.heap.size w w0) := Lib.hid (by rw [hw0]; exact below_new _ _); have HW0 := Lib.hid (And.intro hw0 hpT); have HTAB := Lib.hid ht; have HGM := Lib.hid hG; obtain ⟨te, hte⟩ : ∃ te, te = tableP t := ⟨_, rfl⟩
 have HTE := Lib.hid hte.symm; clear hw0 ht hG hte h hv hpT; obtain ⟨tt, ee⟩ := te; cases hf : fewB t.ps t.ns with
 | false =>
  have HF := Lib.hid hf; clear hf; go_enter Tryd.func4, Tryd.ntmps4; go_upto_region 1 with fail
  rw [← HW0.out.1, ← HW0.out.2]; clear HW0; obtain ⟨cT0, cT1, cT2⟩ := HT.out.cells; have hcall := few_tv HT.out.at_; rw [HF.out] at hcall; have HCALL := Lib.hid hcall; clear hcall; go_wp2_with (go_at_call 6; refine HCALL.out.mono ?_; intro e x1 hx; obtain ⟨rfl, hb⟩ := hx; refine Hid.out ?_); refine Lib.hid ?_; have HBx := Lib.hid (HB.out.trans (hb.mono HB.out.size)); clear HB; have HB := HBx; clear HBx; have Hx := Lib.hid (HT.out.ext hb); clear HT; have HT := Hx; clear Hx; clear hb HCALL; clear cT0 cT1 cT2; have hcall := awake_any x1 ((HTAB.out.on HB.out).up HB.out.size) (HGM.out.ext HB.out); have HCALL := Lib.hid hcall; clear hcall; go_wp2_with (go_at_call 7; refine HCALL.out.mono ?_; intro e x2 hx; obtain ⟨rfl, hb⟩ := hx; refine Hid.out ?_); refine Lib.hid ?_; have HBx := Lib.hid (HB.out.trans (hb.mono HB.out.size)); clear HB; have HB := HBx; clear HBx; have Hx := Lib.hid (HT.out.ext hb); clear HT; have HT := Hx; clear Hx; clear hb HCALL; go_wp2; go_ret; exact ⟨rfl, HB.out⟩
 | true =>
  have HF := Lib.hid hf; clear hf; go_enter Tryd.func4, Tryd.ntmps4; go_upto_region 1 with fail
  rw [← HW0.out.1, ← HW0.out.2]; clear HW0; obtain ⟨cT0, cT1, cT2⟩ := HT.out.cells; have hcall := few_tv HT.out.at_; rw [HF.out] at hcall; have HCALL := Lib.hid hcall; clear hcall; go_wp2_with (go_at_call 6; refine HCALL.out.mono ?_; intro e x1 hx; obtain ⟨rfl, hb⟩ := hx; refine Hid.out ?_); refine Lib.hid ?_; have HBx := Lib.hid (HB.out.trans (hb.mono HB.out.size)); clear HB; have HB := HBx; clear HBx; have Hx := Lib.hid (HT.out.ext hb); clear HT; have HT := Hx; clear Hx; clear hb HCALL; clear cT0 cT1 cT2; obtain ⟨cT0, cT1, cT2⟩ := HT.out.cells; have hcall := table_tv HT.out.at_ ((HTAB.out.on HB.out).up HB.out.size); rw [HTE.out] at hcall; have HCALL := Lib.hid hcall; clear hcall; go_wp2_with (go_at_call 8; refine HCALL.out.mono ?_; intro e x2 hx; obtain ⟨hA1, hc1, vA1, vc1, rA1, rc1, y1, rfl, hr, he, hb⟩ := hx; unfold tabV; refine Hid.out ?_); refine Lib.hid ?_; have HBx := Lib.hid (HB.out.trans (hb.mono HB.out.size)); clear HB; have HB := HBx; clear HBx; have Hx := Lib.hid (HT.out.ext hb); clear HT; have HT := Hx; clear Hx; clear hb HCALL; clear cT0 cT1 cT2; obtain ⟨zX, hw⟩ : ∃ W, W = x2.alloc (.cells #[.int .i64 y1.st, .int .i64 y1.sym, .slice hA1 y1.hood.length hc1, .slice vA1 y1.vs.length vc1, .slice rA1 y1.rs.length rc1] 31) := ⟨_, rfl⟩
  obtain ⟨pX, hp⟩ : ∃ p, p = x2.heap.size := ⟨_, rfl⟩
  have hv := TvB.new (hc := hc1) (vc := vc1) (rc := rc1) hr; rw [← hw, ← hp] at hv; have hb : Below x2.heap.size x2 zX := by rw [hw]; exact below_new _ _
  have HBx := Lib.hid (HB.out.trans (hb.mono HB.out.size)); clear HB; have HB := HBx; clear HBx; have Hx := Lib.hid (HT.out.ext hb); clear HT; have HT := Hx; clear Hx; have HX := Lib.hid hv; have HE1 := Lib.hid he; clear hv hb hr he; go_upto_region 4 with fail
  rw [← hw, ← hp]; clear hw hp; by_cases h0 : ee = 0
  ·subst h0; cases hy : tinyB tt with
   | false =>
    have HY := Lib.hid hy; clear hy; obtain ⟨a0, a1, a2, a3, a4⟩ := HX.out.cells; have hcall := tiny_any hA1 hc1 vA1 vc1 rA1 rc1 y1 zX HX.out.tb; rw [HE1.out, HY.out] at hcall; unfold tabV at hcall; have HCALL := Lib.hid hcall; clear hcall; go_wp2_with (go_at_call 11; refine HCALL.out.mono ?_; intro e x3 hx; obtain ⟨rfl, hb⟩ := hx; refine Hid.out ?_); refine Lib.hid ?_; have HBx := Lib.hid (HB.out.trans (hb.mono HB.out.size)); clear HB; have HB := HBx; clear HBx; have Hx := Lib.hid (HT.out.ext hb); clear HT; have HT := Hx; clear Hx; have Hx := Lib.hid (HX.out.ext hb); clear HX; have HX := Hx; clear Hx; clear hb HCALL; clear a0 a1 a2 a3 a4; have hcall := awake_any x3 ((HTAB.out.on HB.out).up HB.out.size) (HGM.out.ext HB.out); have HCALL := Lib.hid hcall; clear hcall; go_wp2_with (go_at_call 7; refine HCALL.out.mono ?_; intro e x4 hx; obtain ⟨rfl, hb⟩ := hx; refine Hid.out ?_); refine Lib.hid ?_; have HBx := Lib.hid (HB.out.trans (hb.mono HB.out.size)); clear HB; have HB := HBx; clear HBx; have Hx := Lib.hid (HT.out.ext hb); clear HT; have HT := Hx; clear Hx; have Hx := Lib.hid (HX.out.ext hb); clear HX; have HX := Hx; clear Hx; clear hb HCALL; go_wp2; go_ret; exact ⟨rfl, HB.out⟩
   | true =>
    have HY := Lib.hid hy; clear hy; obtain ⟨a0, a1, a2, a3, a4⟩ := HX.out.cells; have hcall := tiny_any hA1 hc1 vA1 vc1 rA1 rc1 y1 zX HX.out.tb; rw [HE1.out, HY.out] at hcall; unfold tabV at hcall; have HCALL := Lib.hid hcall; clear hcall; go_wp2_with (go_at_call 11; refine HCALL.out.mono ?_; intro e x3 hx; obtain ⟨rfl, hb⟩ := hx; refine Hid.out ?_); refine Lib.hid ?_; have HBx := Lib.hid (HB.out.trans (hb.mono HB.out.size)); clear HB; have HB := HBx; clear HBx; have Hx := Lib.hid (HT.out.ext hb); clear HT; have HT := Hx; clear Hx; have Hx := Lib.hid (HX.out.ext hb); clear HX; have HX := Hx; clear Hx; clear hb HCALL; clear a0 a1 a2 a3 a4; have HTT := Lib.hid (back_tt HTE.out HY.out); have HSY : Hid (y1.sym ≠ 3) := Lib.hid (by have h1 := congrArg TabL.sym HE1.out; rw [(tableP_ok HTE.out).2.2] at h1; rw [show y1.sym = 0 from h1]; decide); obtain ⟨u, hu⟩ : ∃ u, u = redT t := ⟨_, rfl⟩
    have HU1 := Lib.hid hu; have HSS : Hid (sameP u (redT t) = true) := Lib.hid (by rw [hu]; exact sameP_self _); clear hu; go_upto_region 6 with fail
    obtain ⟨a0, a1, a2, a3, a4⟩ := HX.out.cells; have hcall := tree15_any hA1 hc1 vA1 vc1 rA1 rc1 y1 x3 HX.out.tb (HGM.out.ext HB.out) ((HTAB.out.on HB.out).up HB.out.size) (.inl HSY.out); rw [HE1.out, HTT.out, ← HU1.out] at hcall; unfold tabV at hcall; have HCALL := Lib.hid hcall; clear hcall; go_wp2_with (go_at_call 12; refine HCALL.out.mono ?_; intro e x4 hx; obtain ⟨s4, A4, n4, c4, B4, m4, d4, rfl, hat, hb⟩ := hx; refine Hid.out ?_); refine Lib.hid ?_; have HBx := Lib.hid (HB.out.trans (hb.mono HB.out.size)); clear HB; have HB := HBx; clear HBx; have Hx := Lib.hid (HT.out.ext hb); clear HT; have HT := Hx; clear Hx; have Hx := Lib.hid (HX.out.ext hb); clear HX; have HX := Hx; clear Hx; clear hb HCALL; clear a0 a1 a2 a3 a4; obtain ⟨y4, hw⟩ : ∃ W, W = x4.alloc (.cells #[.int .i64 s4, .slice A4 n4 c4, .slice B4 m4 d4] 25) := ⟨_, rfl⟩
    obtain ⟨pU, hp⟩ : ∃ p, p = x4.heap.size := ⟨_, rfl⟩
    have hv := TrV.new hat; rw [← hw, ← hp] at hv; have hb : Below x4.heap.size x4 y4 := by rw [hw]; exact below_new _ _
    have HBx := Lib.hid (HB.out.trans (hb.mono HB.out.size)); clear HB; have HB := HBx; clear HBx; have Hx := Lib.hid (HT.out.ext hb); clear HT; have HT := Hx; clear Hx; have Hx := Lib.hid (HX.out.ext hb); clear HX; have HX := Hx; clear Hx; have HU := Lib.hid hv; clear hv hb hat; go_upto_region 7 with fail
    rw [← hw, ← hp]; clear hw hp; refine wp_region_J (by kernel_rfl) (fun listed act w' => ∃ b0 b1 b2 b3 b4 b5 b6 b7 b8 b9 b10 b11 v29 v30 v31 v32 v33 v34 v35 v36 v37 v38 v39 v2, listed = #[b0, b1, b2, b3, b4, b5, b6, b7, b8, b9, b10, b11] ∧ act = Act.mk #[.agg #[.int .i64 st, .slice A n c, .slice B m d], .pointer (some ⟨pT, 0, none⟩), v2, .pointer (some ⟨pX, 0, none⟩), .int .i64 0, .pointer (some ⟨pU, 0, none⟩), .int .i64 0, .agg #[.int .i64 st, .slice A n c, .slice B m d], .bool true, .bool false, undef, Value.tuple #[.agg #[.int .i64 y1.st, .int .i64 y1.sym, .slice hA1 y1.hood.length hc1, .slice vA1 y1.vs.length vc1, .slice rA1 y1.rs.length rc1], .int .i64 0], .agg #[.int .i64 st, .slice A n c, .slice B m d], Value.tuple #[.agg #[.int .i64 y1.st, .int .i64 y1.sym, .slice hA1 y1.hood.length hc1, .slice vA1 y1.vs.length vc1, .slice rA1 y1.rs.length rc1], .int .i64 0], .agg #[.int .i64 y1.st, .int .i64 y1.sym, .slice hA1 y1.hood.length hc1, .slice vA1 y1.vs.length vc1, .slice rA1 y1.rs.length rc1], .int .i64 0, .int .i64 0, .bool false, .bool false, .agg #[.int .i64 y1.st, .int .i64 y1.sym, .slice hA1 y1.hood.length hc1, .slice vA1 y1.vs.length vc1, .slice rA1 y1.rs.length rc1], .bool true, .bool false, .bool false, undef, Value.tuple #[.agg #[.int .i64 s4, .slice A4 n4 c4, .slice B4 m4 d4], .int .i64 0], .agg #[.int .i64 y1.st, .int .i64 y1.sym, .slice hA1 y1.hood.length hc1, .slice vA1 y1.vs.length vc1, .slice rA1 y1.rs.length rc1], Value.tuple #[.agg #[.int .i64 s4, .slice A4 n4 c4, .slice B4 m4 d4], .int .i64 0], .agg #[.int .i64 s4, .slice A4 n4 c4, .slice B4 m4 d4], .int .i64 0, v29, v30, v31, v32, v33, v34, v35, v36, v37, v38, v39] [] ∧ LbkJ y4 (.agg #[.int .i64 s4, .slice A4 n4 c4, .slice B4 m4 d4]) (.agg #[.int .i64 st, .slice A n c, .slice B m d]) t b0 b1 b2 b3 b4 b5 b6 b7 b8 b9 b10 b11 v29 v30 v31 v32 v33 v34 v35 v36 v37 v38 v39 v2 w') ?_ ?_ ?_
    ·exact (e_8 (e_8 (e_8 ⟨rfl, rfl, (by constructor; (case below => exact (Below.refl _ y4).drew); all_goals simp)⟩)))
    ·rintro i listed act w' hi ⟨b0, b1, b2, b3, b4, b5, b6, b7, b8, b9, b10, b11, v29, v30, v31, v32, v33, v34, v35, v36, v37, v38, v39, v2, rfl, rfl, H⟩; have hi16 : i < 12 := by
      obtain ⟨-, o, ho, -⟩ := mem_ready.1 hi; exact (Array.getElem?_eq_some_iff.1 ho).1
     obtain rfl | rfl | rfl | rfl | rfl | rfl | rfl | rfl | rfl | rfl | rfl | rfl : i = 0 ∨ i = 1 ∨ i = 2 ∨ i = 3 ∨ i = 4 ∨ i = 5 ∨ i = 6 ∨ i = 7 ∨ i = 8 ∨ i = 9 ∨ i = 10 ∨ i = 11 := by omega
     all_goals simp [mem_ready, Region.binds] at hi
     ·refine wpOp_hidden rfl fun K hK => ?_; go_wp2; refine OnlyN.mk (hK.out _ _ (e_8 (e_8 (e_8 ⟨rfl, rfl, { H with h0 := fun _ => rfl }⟩))))
     ·obtain rfl := H.h0 (by simp [hi]); refine wpOp_hidden rfl fun K hK => ?_; go_wp2; refine OnlyN.mk (hK.out _ _ (e_8 (e_8 (e_8 ⟨rfl, rfl, { H with h1 := fun _ => rfl }⟩))))
     ·obtain rfl := H.h1 (by simp [hi]); refine wpOp_hidden rfl fun K hK => ?_; go_wp2; refine OnlyN.mk (hK.out _ _ (e_8 (e_8 (e_8 ⟨rfl, rfl, { H with h2 := fun _ => rfl }⟩))))
     ·obtain rfl := H.h2 (by simp [hi]); obtain ⟨g0, g1, g2⟩ := (HU.out.ext H.below).cells; refine wpOp_hidden rfl fun K hK => ?_; go_wp2; refine OnlyN.mk (hK.out _ _ (e_8 (e_8 (e_8 ⟨rfl, rfl, { H with h3 := fun _ => rfl }⟩))))
     ·obtain rfl := H.h2 (by simp [hi]); obtain ⟨g0, g1, g2⟩ := (HT.out.ext H.below).cells; refine wpOp_hidden rfl fun K hK => ?_; go_wp2; refine OnlyN.mk (hK.out _ _ (e_8 (e_8 (e_8 ⟨rfl, rfl, { H with h4 := fun _ => rfl }⟩))))
     ·obtain rfl := H.h2 (by simp [hi]); obtain rfl := H.h4 (by simp [hi]); have HB0 := Lib.hid (H.below); have hcall := rred_tv (HT.out.ext HB0.out).at_; have HCALL := Lib.hid hcall; clear hcall; refine wpOp_hidden rfl fun K hK => ?_; go_wp2_with (go_at_call 14; refine HCALL.out.mono ?_; intro e w9 hx; obtain ⟨s9, A9, n9, c9, B9, m9, d9, rfl, hat, hb9⟩ := hx; refine Hid.out ?_); refine Lib.hid ?_; have HB9 := Lib.hid hb9; have HAT := Lib.hid hat; clear hat; clear hb9 HCALL; go_wp2; refine OnlyN.mk (hK.out _ _ (e_8 (e_8 (e_8 ⟨rfl, rfl, { H.world HB9.out with t5 := fun _ => HAT.out }⟩))))
     ·obtain rfl := H.h2 (by simp [hi]); obtain rfl := H.h3 (by simp [hi]); have ht5 := H.t5 (by simp [hi]); have HB0 := Lib.hid (H.below); have hcall := rsamet_at (HU.out.ext HB0.out).at_ ht5; rw [HSS.out] at hcall; have HCALL := Lib.hid hcall; clear hcall; refine wpOp_hidden rfl fun K hK => ?_; go_wp2_with (go_at_call 13; refine HCALL.out.mono ?_; intro e w9 hx; obtain ⟨rfl, hb9⟩ := hx; refine Hid.out ?_); refine Lib.hid ?_; have HB9 := Lib.hid hb9; clear hb9 HCALL; go_wp2; refine OnlyN.mk (hK.out _ _ (e_8 (e_8 (e_8 ⟨rfl, rfl, { H.world HB9.out with h6 := fun _ => rfl }⟩))))
     ·obtain rfl := H.h2 (by simp [hi]); obtain rfl := H.h6 (by simp [hi]); refine wpOp_hidden rfl fun K hK => ?_; go_wp2; refine OnlyN.mk (hK.out _ _ (e_8 (e_8 (e_8 ⟨rfl, rfl, { H with h7 := fun _ => rfl }⟩))))
     ·obtain rfl := H.h7 (by simp [hi]); refine wpOp_hidden rfl fun K hK => ?_; go_wp2; refine OnlyN.mk (hK.out _ _ (e_8 (e_8 (e_8 ⟨rfl, rfl, { H with h8 := fun _ => rfl }⟩))))
     ·obtain rfl := H.h8 (by simp [hi]); have HB0 := Lib.hid (H.below); have hcall := awake_any w' ((HTAB.out.on (HB.out.trans (HB0.out.mono HB.out.size))).up (HB.out.trans (HB0.out.mono HB.out.size)).size) (HGM.out.ext (HB.out.trans (HB0.out.mono HB.out.size))); have HCALL := Lib.hid hcall; clear hcall; refine wpOp_hidden rfl fun K hK => ?_; go_wp2_with (go_at_call 7; refine HCALL.out.mono ?_; intro e w9 hx; obtain ⟨rfl, hb9⟩ := hx; refine Hid.out ?_); refine Lib.hid ?_; have HB9 := Lib.hid hb9; clear hb9 HCALL; go_wp2; refine OnlyN.mk (hK.out _ _ (e_8 (e_8 (e_8 ⟨rfl, rfl, { H.world HB9.out with h9 := fun _ => rfl }⟩))))
     ·obtain rfl := H.h8 (by simp [hi]); obtain rfl := H.h9 (by simp [hi]); refine wpOp_hidden rfl fun K hK => ?_; go_wp2; refine OnlyN.mk (hK.out _ _ (e_8 (e_8 (e_8 ⟨rfl, rfl, { H with h10 := fun _ => rfl }⟩))))
     ·obtain rfl := H.h10 (by simp [hi]); refine wpOp_hidden rfl fun K hK => ?_; go_wp2; refine OnlyN.mk (hK.out _ _ (e_8 (e_8 (e_8 ⟨rfl, rfl, { H with h11 := fun _ => rfl }⟩))))
    ·rintro listed act w' hr ⟨b0, b1, b2, b3, b4, b5, b6, b7, b8, b9, b10, b11, v29, v30, v31, v32, v33, v34, v35, v36, v37, v38, v39, v2, rfl, rfl, H⟩; have hn := List.eq_nil_iff_forall_not_mem.1 hr; have r0 := hn 0; simp [mem_ready, Region.binds] at r0; subst r0; have r1 := hn 1; simp [mem_ready, Region.binds] at r1; subst r1; have r2 := hn 2; simp [mem_ready, Region.binds] at r2; subst r2; have r3 := hn 3; simp [mem_ready, Region.binds] at r3; subst r3; have r4 := hn 4; simp [mem_ready, Region.binds] at r4; subst r4; have r5 := hn 5; simp [mem_ready, Region.binds] at r5; subst r5; have r6 := hn 6; simp [mem_ready, Region.binds] at r6; subst r6; have r7 := hn 7; simp [mem_ready, Region.binds] at r7; subst r7; have r8 := hn 8; simp [mem_ready, Region.binds] at r8; subst r8; have r9 := hn 9; simp [mem_ready, Region.binds] at r9; subst r9; have r10 := hn 10; simp [mem_ready, Region.binds] at r10; subst r10; have r11 := hn 11; simp [mem_ready, Region.binds] at r11; subst r11; try dsimp only
     obtain rfl := H.h11 rfl; have HBF := Lib.hid (HB.out.trans (H.below.mono HB.out.size)); clear H hr hn; go_wp2; go_ret; exact ⟨rfl, HBF.out⟩
  ·have hne : (ee != 0) = true := by simpa using h0
   clear h0; have hcall := awake_any zX ((HTAB.out.on HB.out).up HB.out.size) (HGM.out.ext HB.out); have HCALL := Lib.hid hcall; clear hcall; go_wp2_with (go_at_call 7; refine HCALL.out.mono ?_; intro e x3 hx; obtain ⟨rfl, hb⟩ := hx; refine Hid.out ?_); refine Lib.hid ?_; have HBx := Lib.hid (HB.out.trans (hb.mono HB.out.size)); clear HB; have HB := HBx; clear HBx; have Hx := Lib.hid (HT.out.ext hb); clear HT; have HT := Hx; clear Hx; have Hx := Lib.hid (HX.out.ext hb); clear HX; have HX := Hx; clear Hx; clear hb HCALL; go_wp2; go_ret; exact ⟨rfl, HB.out⟩
end Go.Proofs.YtlegfdllipkggaaDoor
