/-
  texts RHood RRight RCls: parts of the proof; conditions stand with each theorem.
-/
import Derived.Test.YtlegfdllipkggaaDoorYG4
import Derived.Test.YtlegfdllipkggaaDoorYG5
namespace Go.Proofs.YtlegfdllipkggaaDoor
open Go.RowKit
set_option maxRecDepth 100000
set_option linter.unusedVariables false
set_option linter.unusedSimpArgs false

theorem bef_ord (x' y' x y : Int) : (decide (y' < y) || (y' == y && decide (x' < x))) = decide (ordP x' y' x y < 0) := by
 unfold ordP Lib.compareInt; by_cases h1 : y' < y
 ·simp [h1]
 ·by_cases h2 : y' = y
  ·subst h2; by_cases h3 : x' < x
   ·simp [h3]
   ·by_cases h4 : x' > x
    ·simp [h3, h4]
    ·simp [h3, h4]
  ·have h3 : y' > y := by omega
   have h4 : ¬ y' < y := h1; simp [h1, h2, h3]
set_option maxHeartbeats 1000000 in
theorem rbefore_any (x' y' x y : Int) (w : World) : Calls Tryd.prog 62 #[ptV x' y', ptV x y] w fun e w' => e = .returned (.bool (decide (ordP x' y' x y < 0))) ∧ Below w.heap.size w w' := by
 rw [← bef_ord]; unfold ptV; by_cases h1 : y' < y
 ·have d1 : decide (y' < y) = true := decide_eq_true h1; rw [d1, Bool.true_or]; clear h1; go_enter Tryd.func62, Tryd.ntmps62; go_wp2; go_ret; exact ⟨rfl, (below_new w _).alloc (below_new w _).size _⟩
 ·have d1 : decide (y' < y) = false := decide_eq_false h1; rw [d1, Bool.false_or]; by_cases h2 : y' = y
  ·have e2 : (y' == y) = true := by simp [h2]
   rw [e2, Bool.true_and]; clear h1 h2; go_enter Tryd.func62, Tryd.ntmps62; go_wp2; go_ret; exact ⟨rfl, (below_new w _).alloc (below_new w _).size _⟩
  ·have e2 : (y' == y) = false := by simpa using h2
   rw [e2, Bool.false_and]; clear h1 h2; go_enter Tryd.func62, Tryd.ntmps62; go_wp2; go_ret; exact ⟨rfl, (below_new w _).alloc (below_new w _).size _⟩
set_option maxHeartbeats 16000000 in
theorem rhood_any (A : Option Addr) (c : Nat) (ps : List (Int × Int)) (w : World) (ha : Pts w A ps) :
  Calls Tryd.prog 43 #[.slice A ps.length c] w fun e w' => e = .returned (.bool (hoodB ps)) ∧ Below w.heap.size w w' := by
 have hn := ha.le; by_cases h1 : ps.length < 1
 ·have d1 : decide ((ps.length : Int) < 1) = true := decide_eq_true (by omega); have HE : Hid (hoodB ps = false) := Lib.hid (by unfold hoodB; rw [decide_eq_false (by omega : ¬ 1 ≤ ps.length)]; rfl); clear h1; go_enter Tryd.func43, Tryd.ntmps43; go_wp2; go_ret; exact ⟨ret_bool (by rw [HE.out] <;> rfl), Below.refl _ _⟩
 have d1 : decide ((ps.length : Int) < 1) = false := decide_eq_false (by omega); by_cases h2 : 25 < ps.length
 ·have d2 : decide ((25 : Int) < (ps.length : Int)) = true := decide_eq_true (by omega); have HE : Hid (hoodB ps = false) := Lib.hid (by unfold hoodB; rw [decide_eq_false (by omega : ¬ ps.length ≤ 25), Bool.and_false]; rfl); clear h1 h2; go_enter Tryd.func43, Tryd.ntmps43; go_wp2; go_ret; exact ⟨ret_bool (by rw [HE.out] <;> rfl), Below.refl _ _⟩
 have d2 : decide ((25 : Int) < (ps.length : Int)) = false := decide_eq_false (by omega); have HL := Lib.hid (show 1 ≤ ps.length ∧ ps.length ≤ 25 by omega); have HE : Hid (hoodB ps = chainH none ps) := Lib.hid (by unfold hoodB; rw [decide_eq_true HL.out.1, decide_eq_true HL.out.2]; rfl); have HA := Lib.hid ha; clear h1 h2 ha; go_enter Tryd.func43, Tryd.ntmps43; go_wp2; go_loopw [3] (fun i wr => ∃ k : Nat, k ≤ ps.length ∧ i = .int .i64 k ∧ Hid (Below w.heap.size w wr) ∧ Hid (chainH none ps = chainH (prevH ps k) (ps.drop k))) (fun i _ => ps.length - (intOf i).toNat)
 case atStart => exact ⟨0, Nat.zero_le _, rfl, Lib.hid (Below.refl _ _), Lib.hid rfl⟩
 case round =>
  obtain ⟨k, hk, rfl, HB, HT⟩ := hrel; by_cases hlt : k < ps.length
  ·obtain ⟨b1, o1, e1, hb1, hc0, hc1⟩ := (HA.out.ext HB.out).at_ hlt; have hpre : 0 < k → wr.cell? ⟨b1, o1 + (k - 1) * 2, none⟩ = some (.int .i64 (ps[k - 1]'(by omega)).1) ∧ wr.cell? ⟨b1, o1 + (k - 1) * 2 + 1, none⟩ = some (.int .i64 (ps[k - 1]'(by omega)).2) := fun h => by
    obtain ⟨b1', o1', e1', -, h0, h1⟩ := (HA.out.ext HB.out).at_ (k := k - 1) (by omega); rw [e1] at e1'; injection e1' with e1'
    injection e1' with e2 e3
    subst e2 e3; exact ⟨h0, h1⟩
   obtain ⟨cx, hcx⟩ : ∃ cx, cx = ps[k] := ⟨_, rfl⟩
   rw [← hcx] at hc0 hc1; have HCX := Lib.hid hcx; have HPRE := Lib.hid hpre; have HLT := Lib.hid hlt; obtain ⟨x, y⟩ := cx; dsimp only at hc0 hc1; have hw1 : wrap64 ((k : Int) + 1) = (k : Int) + 1 := by have := HL.out; unfold wrap64; omega
   obtain ⟨wb, hwb⟩ : ∃ wb, wb = wr.alloc (.cells #[.int .i64 x, .int .i64 y] 67) := ⟨_, rfl⟩
   have hnb := below_new wr (.cells #[.int .i64 x, .int .i64 y] 67); have p0 := Blk.new wr 67 #[.int .i64 x, .int .i64 y]; rw [← hwb] at hnb p0; have P0 := cell_regrown (p0.cell_ 0 (.int .i64 x) rfl); have P1 := cell_regrown (p0.cell_ 1 (.int .i64 y) rfl); have HB2 := Lib.hid (HB.out.trans (hnb.mono HB.out.size)); have HW := Lib.hid hwb; have HNB := Lib.hid hnb; clear hcx hpre p0 hnb hwb hk; by_cases a1 : x < -2
   ·have e1d : decide (x < -2) = true := decide_eq_true a1; have HF : Hid (chainH none ps = false) := Lib.hid (by rw [HT.out]; exact chainH_no HLT.out (by rw [← HCX.out]; unfold okH rngB; dsimp only; rw [decide_eq_false (by omega : ¬ -2 ≤ x)] <;> rfl)); subst e1; go_upto_region 7 with fail
    rw [← HW.out]; refine wp_region_quiet_below (by kernel_rfl) (by kernel_rfl) ?_; repeat (go_big_quiet_step (fail))
    refine wpQuiet_nil ?_; intro _ hw'; obtain ⟨⟨dq, osq⟩, hw''⟩ := hw'; subst hw''; go_wp2; go_ret; exact ⟨ret_bool (by rw [HE.out, HF.out] <;> rfl), HB2.out.trans ((below_regrown wb dq osq).mono HB2.out.size)⟩
   have f1 : decide (x < -2) = false := decide_eq_false a1; by_cases a2 : 2 < x
   ·have e2d : decide (2 < x) = true := decide_eq_true a2; have HF : Hid (chainH none ps = false) := Lib.hid (by rw [HT.out]; exact chainH_no HLT.out (by rw [← HCX.out]; unfold okH rngB; dsimp only; rw [decide_eq_false (by omega : ¬ x ≤ 2)]; simp)); subst e1; go_upto_region 7 with fail
    rw [← HW.out]; refine wp_region_quiet_below (by kernel_rfl) (by kernel_rfl) ?_; repeat (go_big_quiet_step (fail))
    refine wpQuiet_nil ?_; intro _ hw'; obtain ⟨⟨dq, osq⟩, hw''⟩ := hw'; subst hw''; go_wp2; go_ret; exact ⟨ret_bool (by rw [HE.out, HF.out] <;> rfl), HB2.out.trans ((below_regrown wb dq osq).mono HB2.out.size)⟩
   have f2 : decide (2 < x) = false := decide_eq_false a2; by_cases a3 : y < -2
   ·have e3d : decide (y < -2) = true := decide_eq_true a3; have HF : Hid (chainH none ps = false) := Lib.hid (by rw [HT.out]; exact chainH_no HLT.out (by rw [← HCX.out]; unfold okH rngB; dsimp only; rw [decide_eq_false (by omega : ¬ -2 ≤ y)]; simp)); subst e1; go_upto_region 7 with fail
    rw [← HW.out]; refine wp_region_quiet_below (by kernel_rfl) (by kernel_rfl) ?_; repeat (go_big_quiet_step (fail))
    refine wpQuiet_nil ?_; intro _ hw'; obtain ⟨⟨dq, osq⟩, hw''⟩ := hw'; subst hw''; go_wp2; go_ret; exact ⟨ret_bool (by rw [HE.out, HF.out] <;> rfl), HB2.out.trans ((below_regrown wb dq osq).mono HB2.out.size)⟩
   have f3 : decide (y < -2) = false := decide_eq_false a3; by_cases a4 : 2 < y
   ·have e4d : decide (2 < y) = true := decide_eq_true a4; have HF : Hid (chainH none ps = false) := Lib.hid (by rw [HT.out]; exact chainH_no HLT.out (by rw [← HCX.out]; unfold okH rngB; dsimp only; rw [decide_eq_false (by omega : ¬ y ≤ 2)]; simp)); subst e1; go_upto_region 7 with fail
    rw [← HW.out]; refine wp_region_quiet_below (by kernel_rfl) (by kernel_rfl) ?_; repeat (go_big_quiet_step (fail))
    refine wpQuiet_nil ?_; intro _ hw'; obtain ⟨⟨dq, osq⟩, hw''⟩ := hw'; subst hw''; go_wp2; go_ret; exact ⟨ret_bool (by rw [HE.out, HF.out] <;> rfl), HB2.out.trans ((below_regrown wb dq osq).mono HB2.out.size)⟩
   have f4 : decide (2 < y) = false := decide_eq_false a4; have HR : Hid (rngB (x, y) = true) := Lib.hid (by unfold rngB; dsimp only; rw [decide_eq_true (by omega : -2 ≤ x), decide_eq_true (by omega : x ≤ 2), decide_eq_true (by omega : -2 ≤ y), decide_eq_true (by omega : y ≤ 2)]; rfl); by_cases hk0 : 0 < k
   ·obtain ⟨k1, rfl⟩ : ∃ k1, k = k1 + 1 := ⟨k - 1, by omega⟩
    obtain ⟨q0, q1⟩ := HPRE.out hk0; simp only [Nat.add_sub_cancel] at q0 q1; have hw1' : wrap64 ((k1 : Int) + 1 + 1) = (k1 : Int) + 1 + 1 := by have := HL.out; unfold wrap64; omega
    have hwk : wrap64 ((k1 : Int) + 1 - 1) = k1 := by have := HL.out; unfold wrap64; omega
    have hwk2 : wrap64 (k1 : Int) = k1 := by have := HL.out; unfold wrap64; omega
    have hprev : prevH ps (k1 + 1) = some (ps[k1]'(by omega)) := List.getElem?_eq_getElem (by omega); obtain ⟨qx, hqx⟩ : ∃ qx, qx = ps[k1]'(by omega) := ⟨_, rfl⟩
    rw [← hqx] at q0 q1 hprev; obtain ⟨x', y'⟩ := qx; dsimp only at q0 q1; have hk1l : k1 < ps.length := by omega
    have HPV := Lib.hid hprev; have Q0 := cell_regrown (w := wb) (v := .int .i64 x') (a := ⟨b1, o1 + k1 * 2, none⟩) ((HNB.out.cell hb1).trans q0); have Q1 := cell_regrown (w := wb) (v := .int .i64 y') (a := ⟨b1, o1 + k1 * 2 + 1, none⟩) ((HNB.out.cell hb1).trans q1); have cC := fun d os => Calls.regrown_of (w := wb) (d := d) (os := os) (rbefore_any x' y' x y _); unfold ptV at cC; have CC := Lib.hid cC; clear cC q0 q1 hprev hqx hk0 a1 a2 a3 a4; by_cases hcm : ordP x' y' x y < 0
    ·have g2 : decide ((0 : Int) ≤ ordP x' y' x y) = false := decide_eq_false (by omega); have HOK : Hid (chainH (prevH ps (k1 + 1)) (ps.drop (k1 + 1)) = chainH (prevH ps (k1 + 1 + 1)) (ps.drop (k1 + 1 + 1))) := Lib.hid (chainH_yes HLT.out (by rw [HPV.out, ← HCX.out]; unfold okH; rw [HR.out]; simpa using hcm)); simp only [decide_eq_true hcm] at CC; clear hcm g2; subst e1; go_upto_region 7 with fail
     rw [← HW.out]; refine wp_region_quiet_below (by kernel_rfl) (by kernel_rfl) ?_; repeat (go_big_quiet_step (with_reducible exact CC.out _ _))
     refine wpQuiet_nil ?_; intro _ hw'; obtain ⟨⟨dq, osq⟩, hw''⟩ := hw'; subst hw''; go_wp2; go_roundw
     case rel => exact ⟨k1 + 1 + 1, HLT.out, rfl, Lib.hid (HB2.out.trans ((below_regrown wb dq osq).mono HB2.out.size)), Lib.hid (HT.out.trans HOK.out)⟩
     case measure => have := HLT.out; simp [intOf]; omega
    ·have g2 : decide ((0 : Int) ≤ ordP x' y' x y) = true := decide_eq_true (by omega); have HF : Hid (chainH none ps = false) := Lib.hid (by rw [HT.out]; exact chainH_no HLT.out (by rw [HPV.out, ← HCX.out]; unfold okH; rw [HR.out]; simpa using hcm)); simp only [decide_eq_false hcm] at CC; clear hcm g2; subst e1; go_upto_region 7 with fail
     rw [← HW.out]; refine wp_region_quiet_below (by kernel_rfl) (by kernel_rfl) ?_; repeat (go_big_quiet_step (with_reducible exact CC.out _ _))
     refine wpQuiet_nil ?_; intro _ hw'; obtain ⟨⟨dq, osq⟩, hw''⟩ := hw'; subst hw''; go_wp2; go_ret; exact ⟨ret_bool (by rw [HE.out, HF.out] <;> rfl), HB2.out.trans ((below_regrown wb dq osq).mono HB2.out.size)⟩
   ·obtain rfl : k = 0 := by omega
    have HOK : Hid (chainH (prevH ps 0) (ps.drop 0) = chainH (prevH ps (0 + 1)) (ps.drop (0 + 1))) := Lib.hid (chainH_yes HLT.out (by rw [← HCX.out]; unfold okH; rw [HR.out]; rfl)); simp only [Nat.zero_mul, Nat.add_zero] at hc0 hc1; clear a1 a2 a3 a4 hk0; subst e1; go_upto_region 7 with fail
    rw [← HW.out]; refine wp_region_quiet_below (by kernel_rfl) (by kernel_rfl) ?_; repeat (go_big_quiet_step (fail))
    refine wpQuiet_nil ?_; intro _ hw'; obtain ⟨⟨dq, osq⟩, hw''⟩ := hw'; subst hw''; go_wp2; go_roundw
    case rel => exact ⟨0 + 1, HLT.out, rfl, Lib.hid (HB2.out.trans ((below_regrown wb dq osq).mono HB2.out.size)), Lib.hid (HT.out.trans HOK.out)⟩
    case measure => have := HLT.out; simp [intOf]; omega
  ·have HF : Hid (chainH none ps = true) := Lib.hid (by
    have h := HT.out; rw [List.drop_of_length_le (by omega)] at h; exact h)
   go_wp2; go_ret; exact ⟨ret_bool (by rw [HE.out, HF.out] <;> rfl), HB.out⟩

set_option maxHeartbeats 16000000 in
theorem rright_any (st : Int) (A : Option Addr) (c : Nat) (ps : List (Int × Int)) (B : Option Addr) (d : Nat) (hs : List Hd) (w : World) (hp : Pts w A ps) (hN : Nds w B hs) :
  Calls Tryd.prog 27 #[.agg #[.int .i64 st, .slice A ps.length c, .slice B hs.length d]] w fun e w' => e = .returned (.bool (rightN st ps (hs.map Hd.nd))) ∧ Below w.heap.size w w' := by
 have hn := hN.le; have hpl := hp.le; obtain ⟨w0, hw0⟩ : ∃ w0, w0 = w.alloc (.cells #[.int .i64 st, .slice A ps.length c, .slice B hs.length d] 25) := ⟨_, rfl⟩
 have hb0 := below_new w (.cells #[.int .i64 st, .slice A ps.length c, .slice B hs.length d] 25); have p0 := Blk.new w 25 #[.int .i64 st, .slice A ps.length c, .slice B hs.length d]; rw [← hw0] at hb0 p0; have P0 := p0.cell_ 0 (.int .i64 st) rfl; have P1 := p0.cell_ 1 (.slice A ps.length c) rfl; have C2 := p0.cell_ 2 (.slice B hs.length d) rfl; have HB0 := Lib.hid hb0; have HP0 := Lib.hid p0; have HW0 := Lib.hid hw0; have HN := Lib.hid (hN.ext hb0); have hH := rhood_any A c ps w0 (hp.ext hb0); clear hb0 p0 hw0 hp hN; by_cases a1 : st < 2
 ·have e1 : decide (st < 2) = true := decide_eq_true a1; have HF : Hid (rightN st ps (hs.map Hd.nd) = false) := Lib.hid (by unfold rightN headB; rw [decide_eq_false (by omega : ¬ 2 ≤ st)]; rfl); clear hH; go_enter Tryd.func27, Tryd.ntmps27; go_upto_region 2 with fail
  rw [← HW0.out]; go_wp2; go_ret; exact ⟨ret_bool (by rw [HF.out] <;> rfl), HB0.out⟩
 have f1 : decide (st < 2) = false := decide_eq_false a1; by_cases a2 : 8 < st
 ·have e2 : decide (8 < st) = true := decide_eq_true a2; have HF : Hid (rightN st ps (hs.map Hd.nd) = false) := Lib.hid (by unfold rightN headB; rw [decide_eq_false (by omega : ¬ st ≤ 8)]; simp); clear hH; go_enter Tryd.func27, Tryd.ntmps27; go_upto_region 2 with fail
  rw [← HW0.out]; go_wp2; go_ret; exact ⟨ret_bool (by rw [HF.out] <;> rfl), HB0.out⟩
 have f2 : decide (8 < st) = false := decide_eq_false a2; cases hh : hoodB ps with
 | false =>
  rw [hh] at hH; have HF : Hid (rightN st ps (hs.map Hd.nd) = false) := Lib.hid (by unfold rightN headB; rw [hh]; simp); have HH1 := Lib.hid hH; clear hh hH; go_enter Tryd.func27, Tryd.ntmps27; go_upto_region 2 with fail
  rw [← HW0.out]; go_wp2_with (go_at_call 43; refine HH1.out.mono ?_); first | rintro e w1 rfl hb | rintro e w1 ⟨rfl, hb⟩
  have HBr := Lib.hid hb; have HB1 := Lib.hid (HB0.out.trans (hb.mono HB0.out.size)); clear hb; go_wp2; go_ret; exact ⟨ret_bool (by rw [HF.out] <;> rfl), HB1.out⟩
 | true =>
  rw [hh] at hH; have HH := Lib.hid hh; have HH1 := Lib.hid hH; clear hh hH; by_cases a3 : hs.length < 1
  ·have e3 : decide ((hs.length : Int) < 1) = true := decide_eq_true (by omega); have HF : Hid (rightN st ps (hs.map Hd.nd) = false) := Lib.hid (by unfold rightN headB; rw [List.length_map, decide_eq_false (by omega : ¬ 1 ≤ hs.length)]; simp); go_enter Tryd.func27, Tryd.ntmps27; go_upto_region 2 with fail
   rw [← HW0.out]; go_wp2_with (go_at_call 43; refine HH1.out.mono ?_); first | rintro e w1 rfl hb | rintro e w1 ⟨rfl, hb⟩
   have HBr := Lib.hid hb; have HB1 := Lib.hid (HB0.out.trans (hb.mono HB0.out.size)); clear hb; go_wp2; go_ret; exact ⟨ret_bool (by rw [HF.out] <;> rfl), HB1.out⟩
  have f3 : decide ((hs.length : Int) < 1) = false := decide_eq_false (by omega); by_cases a4 : 4096 < hs.length
  ·have e4 : decide ((4096 : Int) < (hs.length : Int)) = true := decide_eq_true (by omega); have HF : Hid (rightN st ps (hs.map Hd.nd) = false) := Lib.hid (by unfold rightN headB; rw [List.length_map, decide_eq_false (by omega : ¬ hs.length ≤ 4096)]; simp); go_enter Tryd.func27, Tryd.ntmps27; go_upto_region 2 with fail
   rw [← HW0.out]; go_wp2_with (go_at_call 43; refine HH1.out.mono ?_); first | rintro e w1 rfl hb | rintro e w1 ⟨rfl, hb⟩
   have HBr := Lib.hid hb; have HB1 := Lib.hid (HB0.out.trans (hb.mono HB0.out.size)); clear hb; go_wp2; go_ret; exact ⟨ret_bool (by rw [HF.out] <;> rfl), HB1.out⟩
  have f4 : decide ((4096 : Int) < (hs.length : Int)) = false := decide_eq_false (by omega); obtain ⟨n1, hn1⟩ : ∃ n1, hs.length = n1 + 1 := ⟨hs.length - 1, by omega⟩
  have HLEN := Lib.hid (And.intro hn1 (show hs.length ≤ 4096 by omega)); have HST := Lib.hid (show 2 ≤ st ∧ st ≤ 8 by omega); have HP25 : Hid (ps.length ≤ 25) := Lib.hid (by
   have h := HH.out; unfold hoodB at h; simp only [Bool.and_eq_true, decide_eq_true_eq] at h; exact h.1.2)
  clear hn1 a1 a2 a3 a4; go_enter Tryd.func27, Tryd.ntmps27; go_upto_region 2 with fail
  rw [← HW0.out]; go_wp2_with (go_at_call 43; refine HH1.out.mono ?_); first | rintro e w1 rfl hb | rintro e w1 ⟨rfl, hb⟩
  have HBr := Lib.hid hb; have HB1 := Lib.hid (HB0.out.trans (hb.mono HB0.out.size)); clear hb; clear P0 P1 C2 f1 f2 hpl hn; go_wp2; clear f3 f4; go_loopw [4] (fun i wr => ∃ k : Nat, k ≤ hs.length ∧ i = .int .i64 k ∧ Hid (Below w0.heap.size w0 wr) ∧ Hid (allF (nodeB st ps.length (hs.map Hd.nd)) hs.length 0 = allF (nodeB st ps.length (hs.map Hd.nd)) (hs.length - k) k)) (fun i _ => hs.length - (intOf i).toNat)
  case atStart => exact ⟨0, Nat.zero_le _, rfl, HBr, Lib.hid rfl⟩
  case round =>
   clear HB1 HBr; obtain ⟨k, hk, rfl, HBW, HT⟩ := hrel; have hpw := HP0.out.below HBW.out HP0.out.lt; by_cases hlt : k < hs.length
   ·obtain ⟨nb, no, eB, hnb, hc0, hc1, hzI⟩ := (HN.out.ext HBW.out).at_ hlt; have HNB := Lib.hid (And.intro eB hnb); have hndk := ndl_at hs hlt; obtain ⟨x, hx⟩ : ∃ x, x = hs[k] := ⟨_, rfl⟩
    rw [← hx] at hc0 hc1 hzI hndk; obtain ⟨lv, zA, zc, zs⟩ := x; dsimp only at hc0 hc1 hzI; change ndAt (hs.map Hd.nd) k = (lv, zs) at hndk; have HND := Lib.hid hndk; have hw1 : wrap64 ((k : Int) + 1) = (k : Int) + 1 := by have := HLEN.out; unfold wrap64; omega
    have HLT := Lib.hid hlt; have HBN : Hid (nodeB st ps.length (hs.map Hd.nd) k = false → rightN st ps (hs.map Hd.nd) = false) := Lib.hid (fun h => by
     unfold rightN; rw [List.length_map, HT.out, allF_at HLT.out, h]
     simp)
    obtain ⟨wx, hwx⟩ : ∃ wx, wx = wr.alloc (.cells #[.int .i64 lv, .slice zA zs.length zc] 50) := ⟨_, rfl⟩
    have hbx := below_new wr (.cells #[.int .i64 lv, .slice zA zs.length zc] 50); have hG := Blk.new wr 50 #[.int .i64 lv, .slice zA zs.length zc]; rw [← hwx] at hbx hG; obtain ⟨gX, hgX⟩ : ∃ gX, gX = wr.heap.size := ⟨_, rfl⟩
    rw [← hgX] at hG; have cg0 := hG.cell_ 0 (.int .i64 lv) rfl; have cg1 := hG.cell_ 1 (.slice zA zs.length zc) rfl; have hpx := hpw.below hbx hpw.lt; have cw2 := hpw.cell_ 2 (.slice B hs.length d) rfl; have ct0 := hpx.cell_ 0 (.int .i64 st) rfl; have ct1 := hpx.cell_ 1 (.slice A ps.length c) rfl; have ct2 := hpx.cell_ 2 (.slice B hs.length d) rfl; have HZI := Lib.hid (hzI.ext hbx); have HBX := Lib.hid hbx; have HBX2 : Hid (Below w.heap.size w wx) := Lib.hid ((HB0.out.trans (HBW.out.mono HB0.out.size)).trans (hbx.mono (by have := HB0.out.size; have := HBW.out.size; omega))); clear hx hndk hzI hbx hG hpx hpw hnb; subst eB; go_upto_region 8 with fail
    rw [← hwx, ← hgX]; clear hwx hgX hc0 hc1 cw2; by_cases v1 : lv < 1
    ·have j1 : decide (lv < 1) = true := decide_eq_true v1; have HF : Hid (rightN st ps (hs.map Hd.nd) = false) := Lib.hid (HBN.out (by unfold nodeB; rw [HND.out]; dsimp only; rw [decide_eq_false (by omega : ¬ 1 ≤ lv)] <;> rfl)); go_wp2; go_ret; exact ⟨ret_bool (by rw [HF.out] <;> rfl), HBX2.out⟩
    have j1 : decide (lv < 1) = false := decide_eq_false v1; by_cases v2 : (ps.length : Int) < lv
    ·have j2 : decide ((ps.length : Int) < lv) = true := decide_eq_true v2; have HF : Hid (rightN st ps (hs.map Hd.nd) = false) := Lib.hid (HBN.out (by unfold nodeB; rw [HND.out]; dsimp only; rw [decide_eq_false (by omega : ¬ lv ≤ (ps.length : Int))]; simp)); go_wp2; go_ret; exact ⟨ret_bool (by rw [HF.out] <;> rfl), HBX2.out⟩
    have j2 : decide ((ps.length : Int) < lv) = false := decide_eq_false v2; by_cases v3 : (zs.length : Int) = st
    ·have j3 : ((zs.length : Int) != st) = false := by simp [v3]
     have HV1 := Lib.hid v1; have HV2 := Lib.hid v2; have HV3 := Lib.hid v3; have HBAD : Hid (zs.all (kidB st lv (hs.map Hd.nd) k) = false → rightN st ps (hs.map Hd.nd) = false) := Lib.hid (fun h => HBN.out (by unfold nodeB; rw [HND.out]; dsimp only; rw [h]; simp)); clear v1 v2 v3 hk hlt; go_wp2; clear j1 j2 j3; go_loopw [6] (fun i wi => ∃ m q : Nat, m ≤ zs.length ∧ i = .int .i64 m ∧ wi = wx.drewN q ∧ Hid (zs.all (kidB st lv (hs.map Hd.nd) k) = (zs.drop m).all (kidB st lv (hs.map Hd.nd) k))) (fun i _ => zs.length - (intOf i).toNat)
     case atStart => exact ⟨0, 0, Nat.zero_le _, rfl, rfl, Lib.hid (by simp)⟩
     case round =>
      obtain ⟨m, qd, hm, rfl, rfl, HTI⟩ := hrel; by_cases hml : m < zs.length
      ·obtain ⟨bz, oz, ez, -, hcm⟩ := HZI.out.at_ hml; obtain ⟨z, hz⟩ : ∃ z, z = zs[m] := ⟨_, rfl⟩
       rw [← hz] at hcm; have hwm : wrap64 ((m : Int) + 1) = (m : Int) + 1 := by have := HV3.out; have := HST.out; unfold wrap64; omega
       have hms : decide ((m : Int) < st) = true := decide_eq_true (by have := HV3.out; omega); have hlt := HLT.out; subst ez; by_cases z0 : z < 0
       ·have g0 : decide (z < 0) = true := decide_eq_true z0; have HF : Hid (rightN st ps (hs.map Hd.nd) = false) := Lib.hid (HBAD.out (by rw [HTI.out, all_drop hml, ← hz]; unfold kidB; rw [decide_eq_false (by omega : ¬ 0 ≤ z)] <;> rfl)); clear hz; go_wp2; go_ret; exact ⟨ret_bool (by rw [HF.out] <;> rfl), below_drewN HBX2.out _⟩
       ·have g0 : decide (z < 0) = false := decide_eq_false z0; by_cases l1 : lv = 1
        ·have j1 : (lv == 1) = true := by simp [l1]
         have j2 : decide (1 < lv) = false := decide_eq_false (by omega); have HL1 := Lib.hid l1; clear l1; by_cases z1 : st ≤ z
         ·have g1 : decide (st ≤ z) = true := decide_eq_true z1; have HF : Hid (rightN st ps (hs.map Hd.nd) = false) := Lib.hid (HBAD.out (by rw [HTI.out, all_drop hml, ← hz]; unfold kidB; rw [j1, decide_eq_false (by omega : ¬ z < st)]; simp)); clear hz; go_wp2; go_ret; exact ⟨ret_bool (by rw [HF.out] <;> rfl), below_drewN HBX2.out _⟩
         ·have g1 : decide (st ≤ z) = false := decide_eq_false z1; have HOK : Hid (zs.all (kidB st lv (hs.map Hd.nd) k) = (zs.drop (m + 1)).all (kidB st lv (hs.map Hd.nd) k)) := Lib.hid (by rw [HTI.out, all_drop hml, ← hz]; unfold kidB; rw [j1, j2, decide_eq_true (by omega : 0 ≤ z), decide_eq_true (by omega : z < st)]; simp); clear hz; go_wp2; go_quiet (fail)
          go_wp2; go_roundw
          case rel => exact ⟨m + 1, _, hml, (by rw [hwm]; rfl), rfl, HOK⟩
          case measure => rw [hwm]; simp [intOf]; omega
        ·have j1 : (lv == 1) = false := by simpa using l1
         have j2 : decide (1 < lv) = true := decide_eq_true (by have := HV1.out; omega); by_cases z1 : (k : Int) ≤ z
         ·have g1 : decide ((k : Int) ≤ z) = true := decide_eq_true z1; have HF : Hid (rightN st ps (hs.map Hd.nd) = false) := Lib.hid (HBAD.out (by rw [HTI.out, all_drop hml, ← hz]; unfold kidB; rw [j1, j2, decide_eq_false (by omega : ¬ z < (k : Int))]; simp)); clear hz; go_wp2; go_quiet (fail)
          go_wp2; go_ret; exact ⟨ret_bool (by rw [HF.out] <;> rfl), below_drewN (below_drewN HBX2.out _) _⟩
         ·have g1 : decide ((k : Int) ≤ z) = false := decide_eq_false z1; obtain ⟨nb', no', eB', -, hk0, -, -⟩ := (HN.out.ext HBW.out).at_ (k := z.toNat) (by omega); injection eB' with eB'
          injection eB' with eb1 eb2
          subst eb1 eb2; have hkx : wx.cell? ⟨nb, no + z.toNat * 2, none⟩ = some (.int .i64 (hs[z.toNat]'(by omega)).lv) := (HBX.out.cell (p := ⟨nb, no + z.toNat * 2, none⟩) HNB.out.2).trans hk0; have hlz : (ndAt (hs.map Hd.nd) z.toNat).1 = (hs[z.toNat]'(by omega)).lv := by rw [ndl_at hs (by omega)]; rfl
          obtain ⟨y, hy⟩ : ∃ y, y = (hs[z.toNat]'(by omega)).lv := ⟨_, rfl⟩
          rw [← hy] at hkx hlz; have HLZ := Lib.hid hlz; have hzl : z < (hs.length : Int) := by omega
          have hz0 : 0 ≤ z := by omega
          have hwl : wrap64 (lv - 1) = lv - 1 := by have h1 := HV1.out; have h2 := HV2.out; have h3 := HP25.out; unfold wrap64; omega
          clear hk0 hlz hy; by_cases y1 : y = lv - 1
          ·have g2 : (y != lv - 1) = false := by simp [y1]
           have HY := Lib.hid y1; clear y1; have HOK : Hid (zs.all (kidB st lv (hs.map Hd.nd) k) = (zs.drop (m + 1)).all (kidB st lv (hs.map Hd.nd) k)) := Lib.hid (by rw [HTI.out, all_drop hml, ← hz]; unfold kidB; rw [j1, j2, HLZ.out, HY.out, decide_eq_true (by omega : 0 ≤ z), decide_eq_true (by omega : z < (k : Int))]; simp); clear hz; go_wp2; go_quiet (fail)
           go_wp2; go_roundw
           case rel => exact ⟨m + 1, _, hml, (by rw [hwm]; rfl), rfl, HOK⟩
           case measure => rw [hwm]; simp [intOf]; omega
          ·have g2 : (y != lv - 1) = true := by simpa using y1
           have HY := Lib.hid y1; clear y1; have HF : Hid (rightN st ps (hs.map Hd.nd) = false) := Lib.hid (HBAD.out (by rw [HTI.out, all_drop hml, ← hz]; unfold kidB; rw [j1, j2, HLZ.out, show (y == lv - 1) = false from by simpa using HY.out]; simp)); clear hz; go_wp2; go_quiet (fail)
           go_wp2; go_ret; exact ⟨ret_bool (by rw [HF.out] <;> rfl), below_drewN (below_drewN HBX2.out _) _⟩
      ·have HALL : Hid (zs.all (kidB st lv (hs.map Hd.nd) k) = true) := Lib.hid (by
        have h := HTI.out; rw [List.drop_of_length_le (by omega)] at h; exact h)
       have hms : decide ((m : Int) < st) = false := decide_eq_false (by have := HV3.out; omega); have HNX : Hid (allF (nodeB st ps.length (hs.map Hd.nd)) hs.length 0 = allF (nodeB st ps.length (hs.map Hd.nd)) (hs.length - (k + 1)) (k + 1)) := Lib.hid (by
        rw [HT.out, allF_at HLT.out]; have h : nodeB st ps.length (hs.map Hd.nd) k = true := by
         unfold nodeB; rw [HND.out]; dsimp only; rw [HALL.out, decide_eq_true (by have := HV1.out; omega : 1 ≤ lv), decide_eq_true (by have := HV2.out; omega : lv ≤ (ps.length : Int)), decide_eq_true HV3.out]; rfl
        rw [h, Bool.true_and])
       have hlt := HLT.out; clear cg0 cg1 ct1 ct2; go_wp2; go_roundw
       case rel => exact ⟨k + 1, HLT.out, (by rw [hw1]; rfl), Lib.hid (below_drewN (HBW.out.trans (HBX.out.mono HBW.out.size)) _), HNX⟩
       case measure => rw [hw1]; simp [intOf]; omega
    ·have j3 : ((zs.length : Int) != st) = true := by simpa using v3
     have HF : Hid (rightN st ps (hs.map Hd.nd) = false) := Lib.hid (HBN.out (by unfold nodeB; rw [HND.out]; dsimp only; rw [decide_eq_false v3]; simp)); go_wp2; go_ret; exact ⟨ret_bool (by rw [HF.out] <;> rfl), HBX2.out⟩
   ·obtain rfl : k = hs.length := by omega
    obtain ⟨hn1, -⟩ := HLEN.out; obtain ⟨nb, no, eB, hnb, hl0, -, -⟩ := (HN.out.ext HBW.out).at_ (k := n1) (by omega); have hlast : (ndAt (hs.map Hd.nd) ((hs.map Hd.nd).length - 1)).1 = (hs[n1]'(by omega)).lv := by
     rw [List.length_map, show hs.length - 1 = n1 by omega, ndl_at hs (by omega)]; rfl
    obtain ⟨ll, hll⟩ : ∃ ll, ll = (hs[n1]'(by omega)).lv := ⟨_, rfl⟩
    rw [← hll] at hl0 hlast; have HF : Hid (rightN st ps (hs.map Hd.nd) = (ll == (ps.length : Int))) := Lib.hid (by
     have h := HT.out; rw [Nat.sub_self] at h; unfold rightN headB; rw [hlast, HH.out, List.length_map, h, decide_eq_true HST.out.1, decide_eq_true HST.out.2, decide_eq_true (by omega : 1 ≤ hs.length), decide_eq_true HLEN.out.2]; simp [allF, Bool.beq_eq_decide_eq])
    have hwn : wrap64 ((hs.length : Int) - 1) = (n1 : Int) := by have := HLEN.out; unfold wrap64; omega
    have hwn2 : wrap64 (n1 : Int) = (n1 : Int) := by have := HLEN.out; unfold wrap64; omega
    have hidx : ((hs.length : Int) - 1) = (n1 : Int) := by omega
    have hnl : n1 < hs.length := by omega
    have x1 := hpw.cell_ 1 (.slice A ps.length c) rfl; have x2 := hpw.cell_ 2 (.slice B hs.length d) rfl; subst eB; clear hlast hll hn1 hk hlt hpw hnb; go_wp2; go_quiet (fail)
    go_wp2; go_ret; exact ⟨ret_bool (by rw [HF.out] <;> rfl), below_drewN (HB0.out.trans (HBW.out.mono HB0.out.size)) _⟩
end Go.Proofs.YtlegfdllipkggaaDoor
namespace Go.Proofs.YtlegfdllipkggaaDoor
set_option linter.unusedSimpArgs false
set_option linter.unusedVariables false

def clsStep (st : List Nd × List Int) (x : Nd) : List Nd × List Int := (st.1 ++ [(x.1, nxOf st.2 x)], st.2 ++ [(((posOf st.1 (x.1, nxOf st.2 x)).getD st.1.length : Nat) : Int)])
def clsTo (l : List Nd) (k : Nat) : List Nd × List Int := (l.take k).foldl clsStep ([], [])
theorem clsTo_succ (l : List Nd) {k : Nat} (hk : k < l.length) : clsTo l (k + 1) = clsStep (clsTo l k) (ndAt l k) := by
 unfold clsTo; rw [List.take_succ_eq_append_getElem hk, List.foldl_append, ndAt_get l hk]; rfl
theorem clsTo_len (l : List Nd) : ∀ k, k ≤ l.length → (clsTo l k).1.length = k ∧ (clsTo l k).2.length = k
 | 0, _ => ⟨rfl, rfl⟩
 | k + 1, hk => by
  obtain ⟨a, b⟩ := clsTo_len l k (by omega); rw [clsTo_succ l (by omega)]; unfold clsStep; simp [a, b]
theorem posOf_app {ns : List Nd} {x : Nd} {c : Nat} (h : posOf ns x = some c) (y : Nd) : posOf (ns ++ [y]) x = some c := by
 rw [posOf_snoc, h]; rfl
theorem posOf_in : ∀ {ns : List Nd} {x : Nd}, x ∈ ns → ∃ c, posOf ns x = some c := by
 intro ns x hx; cases h : posOf ns x with
 | some c => exact ⟨c, rfl⟩
 | none => exact absurd hx (posOf_none h)
structure ClI (q : Nat) (l : List Nd) (k : Nat) (st : List Nd × List Int) : Prop where
 nl : st.1.length = k
 tl : st.2.length = k
 lev : Lev q st.1 (· < st.1.length)
 cl : ∀ i, i < k → ∃ c : Nat, st.2.getD i 0 = (c : Int) ∧ c ≤ i ∧ posOf st.1 (ndAt st.1 i) = some c
 kid : ∀ i, i < k → 1 < (ndAt st.1 i).1 → ∀ z ∈ (ndAt st.1 i).2, z < (i : Int) ∧ st.2.getD z.toNat 0 = z
 eqv : ∀ i, i < k → Eqv q st.1 i l i
section
variable {q : Nat} {l : List Nd}
theorem ClI.cc {k : Nat} {st : List Nd × List Int} (h : ClI q l k st) {i : Nat} (hi : i < k) : ∃ c : Nat, st.2.getD i 0 = (c : Int) ∧ c ≤ i ∧ st.2.getD c 0 = (c : Int) ∧ ndAt st.1 c = ndAt st.1 i := by
 obtain ⟨c, e1, e2, e3⟩ := h.cl i hi; obtain ⟨p1, p2⟩ := posOf_some e3; obtain ⟨d, f1, f2, f3⟩ := h.cl c (by omega); rw [p2, e3] at f3; injection f3 with f3
 subst f3; exact ⟨c, e1, e2, f1, p2⟩
theorem ClI.start (q : Nat) (l : List Nd) : ClI q l 0 (clsTo l 0) := by
 refine ⟨rfl, rfl, ⟨fun i h => h, ?_, ?_, ?_⟩, ?_, ?_, ?_⟩; all_goals intro i h
 all_goals first | exact absurd h (Nat.not_lt_zero _) | (intro h2; exact absurd h2 (Nat.not_lt_zero _))
theorem ClI.step (h : VNd q l) {k : Nat} (hi : ClI q l k (clsTo l k)) (hk : k < l.length) : ClI q l (k + 1) (clsTo l (k + 1)) := by
 rw [clsTo_succ l hk]; obtain ⟨st, hst⟩ : ∃ st, st = clsTo l k := ⟨_, rfl⟩
 rw [← hst] at hi ⊢; clear hst; have hlv1 := h.lev.one k hk; have hlq := h.lev.len k hk; obtain ⟨x', hx'⟩ : ∃ x', x' = ((ndAt l k).1, nxOf st.2 (ndAt l k)) := ⟨_, rfl⟩
 obtain ⟨cN, hcN⟩ : ∃ cN, cN = (posOf st.1 x').getD st.1.length := ⟨_, rfl⟩
 have hs : clsStep st (ndAt l k) = (st.1 ++ [x'], st.2 ++ [(cN : Int)]) := by rw [hcN, hx']; rfl
 rw [hs]; have hnl := hi.nl; have htl := hi.tl; have ex1 : x'.1 = (ndAt l k).1 := by rw [hx']
 have hxq : x'.2.length = q := by
  rw [hx']; dsimp only; unfold nxOf
  split
  ·rw [List.length_map]; exact hlq
  ·exact hlq
 have hto : ∀ (v : Int) (i : Nat), i < k → (st.2 ++ [v]).getD i 0 = st.2.getD i 0 := fun v i hik => by
  rw [List.getD_eq_getElem?_getD, List.getElem?_append_left (by omega), ← List.getD_eq_getElem?_getD]
 have htk : ∀ (v : Int), (st.2 ++ [v]).getD k 0 = v := fun v => by
  rw [List.getD_eq_getElem?_getD, List.getElem?_append_right (by omega), htl, Nat.sub_self]; rfl
 have hnd : ∀ i, i < k → ndAt (st.1 ++ [x']) i = ndAt st.1 i := fun i hik => ndAt_app_lt (by omega) _; have hnk : ndAt (st.1 ++ [x']) k = x' := by rw [← hnl]; exact ndAt_app_len _ _
 -- the elements
 have hkid : 1 < x'.1 → ∀ z ∈ x'.2, 0 ≤ z ∧ z < (k : Int) ∧ st.2.getD z.toNat 0 = z ∧ (ndAt st.1 z.toNat).1 = x'.1 - 1 := by
  intro hl z hz; rw [hx'] at hl hz ⊢; dsimp only at hl hz ⊢; unfold nxOf at hz; rw [if_pos hl] at hz; obtain ⟨y, hy, rfl⟩ := List.mem_map.1 hz; obtain ⟨p1, p2, p3⟩ := h.lev.kids k hk hl y hy; have p4 := h.ordk k hk hl y hy; obtain ⟨c, e1, e2, e3, e4⟩ := hi.cc (i := y.toNat) (by omega); rw [e1]; refine ⟨by omega, by omega, by rw [Int.toNat_natCast]; exact e3, ?_⟩; rw [Int.toNat_natCast, e4, (hi.eqv y.toNat (by omega)).1]; exact p3
 have hlen : (st.1 ++ [x']).length = k + 1 := by simp [hnl]
 have hcase : ∀ i, i < k + 1 → (i < k ∧ ndAt (st.1 ++ [x']) i = ndAt st.1 i) ∨ (i = k ∧ ndAt (st.1 ++ [x']) i = x') := by
  intro i hi'; rcases Nat.lt_or_ge i k with h1 | h1
  ·exact .inl ⟨h1, hnd i h1⟩
  ·obtain rfl : i = k := by omega
   exact .inr ⟨rfl, hnk⟩
 have hposk : posOf (st.1 ++ [x']) x' = some cN ∧ cN ≤ k := by
  rw [posOf_snoc, hcN]; cases hp : posOf st.1 x' with
  | some c => exact ⟨rfl, by have := (posOf_some hp).1; show c ≤ k; omega⟩
  | none => exact ⟨by simp, by simp [hnl]⟩
 refine ⟨hlen, by simp [htl], ⟨fun i hi => hi, fun i hi' => ?_, fun i hi' => ?_, fun i hi' hl z hz => ?_⟩, fun i hi' => ?_, fun i hi' hl z hz => ?_, fun i hi' => ?_⟩
 ·rcases hcase i (by rw [hlen] at hi'; exact hi') with ⟨h1, e⟩ | ⟨h1, e⟩ <;> dsimp only <;> rw [e]
  ·exact hi.lev.len i (by omega)
  ·exact hxq
 ·rcases hcase i (by rw [hlen] at hi'; exact hi') with ⟨h1, e⟩ | ⟨h1, e⟩ <;> dsimp only <;> rw [e]
  ·exact hi.lev.one i (by omega)
  ·rw [ex1]; exact hlv1
 ·rcases hcase i (by rw [hlen] at hi'; exact hi') with ⟨h1, e⟩ | ⟨h1, e⟩ <;> dsimp only at * <;> rw [e] at hl hz ⊢
  ·obtain ⟨p1, p2, p3⟩ := hi.lev.kids i (by omega) hl z hz; exact ⟨p1, by rw [hlen]; omega, by rw [hnd _ (by omega)]; exact p3⟩
  ·obtain ⟨p1, p2, -, p3⟩ := hkid hl z hz; exact ⟨p1, by rw [hlen]; omega, by rw [hnd _ (by omega)]; exact p3⟩
 ·dsimp only; rcases hcase i hi' with ⟨h1, e⟩ | ⟨h1, e⟩
  ·rw [e, hto _ _ h1]; obtain ⟨c, e1, e2, e3⟩ := hi.cl i h1; exact ⟨c, e1, e2, posOf_app e3 _⟩
  ·rw [e, h1, htk]; exact ⟨cN, rfl, hposk.2, hposk.1⟩
 ·dsimp only at *; rcases hcase i hi' with ⟨h1, e⟩ | ⟨h1, e⟩ <;> rw [e] at hl hz
  ·obtain ⟨p1, p2⟩ := hi.kid i h1 hl z hz; have p3 := (hi.lev.kids i (by omega) hl z hz).1; exact ⟨p1, by rw [hto _ _ (by omega)]; exact p2⟩
  ·obtain ⟨p1, p2, p3, -⟩ := hkid hl z hz; exact ⟨by omega, by rw [hto _ _ (by omega)]; exact p3⟩
 ·dsimp only; rcases Nat.lt_or_ge i k with h1 | h1
  ·exact (Eqv.app hi.lev [x'] (ndAt st.1 i).1.toNat i (by have := hi.lev.one i (by omega); omega) (by omega)).trans (hi.eqv i h1)
  ·obtain rfl : i = k := by omega
   refine ⟨by rw [hnk]; exact ex1, fun ins hl hq => ?_⟩; rw [hnk] at hl; cases ins with
   | nil => simp at hl; omega
   | cons s r =>
    have hsq : s < q := hq s (by simp); simp only [val, Int.toNat_natCast, hnk]; by_cases hlv : 1 < (ndAt l i).1
    ·have hx2 : x'.2 = (ndAt l i).2.map (fun z => st.2.getD z.toNat 0) := by
      rw [hx']; dsimp only; unfold nxOf; rw [if_pos hlv]
     have hg : x'.2.getD s 0 = st.2.getD ((ndAt l i).2.getD s 0).toNat 0 := by
      rw [hx2, List.getD_eq_getElem?_getD, List.getElem?_map, List.getElem?_eq_getElem (by omega : s < (ndAt l i).2.length)]; rw [List.getD_eq_getElem?_getD (l := (ndAt l i).2), List.getElem?_eq_getElem (by omega : s < (ndAt l i).2.length)]; rfl
     have hm := getD_mem (l := (ndAt l i).2) (s := s) (by omega); obtain ⟨z, hz⟩ : ∃ z, z = (ndAt l i).2.getD s 0 := ⟨_, rfl⟩
     rw [← hz] at hg hm ⊢; obtain ⟨p1, p2, p3⟩ := h.lev.kids i hk hlv z hm; have p4 := h.ordk i hk hlv z hm; obtain ⟨c, e1, e2, e3, e4⟩ := hi.cc (i := z.toNat) (by omega); rw [hg, e1]; have E : Eqv q (st.1 ++ [x']) c l z.toNat :=
      ((Eqv.app hi.lev [x'] (ndAt st.1 c).1.toNat c (by have := hi.lev.one c (by omega); omega) (by omega)).trans (Eqv.node e4 (hi.lev.one c (by omega)))).trans (hi.eqv z.toNat (by omega))
     have := E.2 r (by rw [E.1, p3, ← ex1]; simp at hl; omega) (fun u hu => hq u (by simp [hu])); rw [toNat_cast p1] at this; exact this
    ·have hr : r = [] := by
      cases r with
      | nil => rfl
      | cons _ _ => rw [ex1] at hl; simp at hl; omega
     subst hr; rw [hx']; simp only [val, nxOf]; rw [if_neg hlv]
theorem ClI.all (h : VNd q l) : ∀ k, k ≤ l.length → ClI q l k (clsTo l k)
 | 0, _ => ClI.start q l
 | k + 1, hk => (ClI.all h k (by omega)).step h (by omega)
def reps (l : List Nd) (i : Nat) : Prop := i < l.length ∧ (clsTo l l.length).2.getD i 0 = (i : Int)
theorem ClI.lev' (h : VNd q l) : Lev q (clsTo l l.length).1 (reps l) := by
 have hi := ClI.all h _ (Nat.le_refl _); have hnl := hi.nl; refine ⟨fun i hp => by rw [hnl]; exact hp.1, fun i hp => hi.lev.len i (by rw [hnl]; exact hp.1), fun i hp => hi.lev.one i (by rw [hnl]; exact hp.1), fun i hp hl z hz => ?_⟩; obtain ⟨p1, p2, p3⟩ := hi.lev.kids i (by rw [hnl]; exact hp.1) hl z hz; obtain ⟨k1, k2⟩ := hi.kid i hp.1 hl z hz; exact ⟨p1, ⟨by omega, by rw [toNat_cast p1]; exact k2⟩, p3⟩
theorem ClI.dis' (h : VNd q l) : Dis (clsTo l l.length).1 (reps l) := by
 have hi := ClI.all h _ (Nat.le_refl _); intro i j hpi hpj he; obtain ⟨c, e1, -, e3⟩ := hi.cl i hpi.1; obtain ⟨d, f1, -, f3⟩ := hi.cl j hpj.1; rw [he, f3] at e3; injection e3 with e3
 have := hpi.2; have := hpj.2; omega
def clsRoot (l : List Nd) : Nat := ((clsTo l l.length).2.getD (l.length - 1) 0).toNat
theorem clsRoot_ok (h : VNd q l) (hp : 0 < l.length) : reps l (clsRoot l) ∧ Eqv q (clsTo l l.length).1 (clsRoot l) l (l.length - 1) ∧ (clsTo l l.length).2.getD (l.length - 1) 0 = (clsRoot l : Int) := by
 have hi := ClI.all h _ (Nat.le_refl _); obtain ⟨c, e1, e2, e3, e4⟩ := hi.cc (i := l.length - 1) (by omega); have hr : clsRoot l = c := by unfold clsRoot; rw [e1]; rfl
 rw [hr]; exact ⟨⟨by omega, e3⟩, (Eqv.node e4 (hi.lev.one c (by rw [hi.nl]; omega))).trans (hi.eqv _ (by omega)), e1⟩
def ordR (l : List Nd) : List Nd := ord (clsTo l l.length).1 100 (clsRoot l)
theorem ordR_eq (h : VNd q l) (hp : 0 < l.length) (hl : (ndAt l (l.length - 1)).1 ≤ 100) : ordR l = redN chR l := by
 obtain ⟨r1, r2, -⟩ := clsRoot_ok h hp; have hR := RbI.all h (chR_chg q) _ (Nat.le_refl _); obtain ⟨g1, g2, g3⟩ := hR.eqv (l.length - 1) (by omega); have hch : chgL chR l = l := by unfold chgL chR; simp
 rw [hch] at g3; exact ord_eq (ClI.lev' h) hR.v.lev (ClI.dis' h) hR.dis (by rw [r2.1]; omega) (by rw [r2.1]; omega) r1 g2 (r2.trans g3.symm)
theorem redN_chg {ch : Int → List Int → List Int} (h : VNd q l) (hc : Chg q ch) (hp : 0 < l.length) (hl : (ndAt l (l.length - 1)).1 ≤ 100) : redN chR (chgL ch l) = redN ch l := by
 have hv := h.chg hc; have hlen := chg_len ch l; have hR := RbI.all hv (chR_chg q) _ (Nat.le_refl _); have hS := RbI.all h hc _ (Nat.le_refl _); obtain ⟨g1, g2, g3⟩ := hR.eqv (l.length - 1) (by omega); obtain ⟨k1, k2, k3⟩ := hS.eqv (l.length - 1) (by omega); have hch : chgL chR (chgL ch l) = chgL ch l := by unfold chgL chR; simp
 rw [hch] at g3; have hlv : (ndAt (chgL ch l) (l.length - 1)).1 = (ndAt l (l.length - 1)).1 := by rw [chg_at ch (by omega)]
 unfold redN; rw [hlen] at hR g1 g2 g3 ⊢; exact ord_eq hR.v.lev hS.v.lev hR.dis hS.dis (by rw [g3.1, hlv]; omega) (by rw [g3.1, hlv]; omega) g2 k2 (g3.trans k3.symm)
end
end Go.Proofs.YtlegfdllipkggaaDoor
