/-
  Patterns: cellularref05.Right, Top, Compare, Same; pattern.Top. No condition.
-/
import Derived.Test.YtblfeaapjloppaaDoorPat
namespace Go.Proofs.YtblfeaapjloppaaDoor
open Go.RowKit
set_option maxRecDepth 100000
set_option linter.unusedVariables false
set_option linter.unusedSimpArgs false

set_option maxHeartbeats 8000000 in
theorem rright_any (A : Option Addr) (c : Nat) (ps : List Cel) (w : World) (ha : Cls w A ps) :
    Calls Tryd.prog 15 #[.slice A ps.length c] w fun e w' => e = .returned (.bool (rightC ps)) ∧ Below w.heap.size w w' := by
  have hn := ha.le
  unfold rightC
  go_enter Tryd.func15, Tryd.ntmps15
  go_wp2
  go_loopw [3] (fun i wr => ∃ k : Nat, k ≤ ps.length ∧ i = .int .i64 k ∧ Hid (Below w.heap.size w wr) ∧ Hid (chainB none ps = chainB (prevC ps k) (ps.drop k))) (fun i _ => ps.length - (intOf i).toNat)
  case atStart => exact ⟨0, Nat.zero_le _, rfl, Lib.hid (Below.refl _ _), Lib.hid rfl⟩
  case round =>
    obtain ⟨k, hk, rfl, HB, HT⟩ := hrel
    by_cases hlt : k < ps.length
    · obtain ⟨b1, o1, e1, hb1, hc0, hc1, hc2⟩ := (ha.ext HB.out).at_ hlt
      have hi0 : (k : Int) < (ps.length : Int) := by omega
      have hlt' : decide ((k : Int) < (ps.length : Int)) = true := decide_eq_true hi0
      obtain ⟨cx, hcx⟩ : ∃ cx, cx = ps[k] := ⟨_, rfl⟩
      rw [← hcx] at hc0 hc1 hc2
      have HCX := Lib.hid hcx
      have HE1 := Lib.hid e1
      have cB := fun d os => Calls.regrown_of (w := wr) (d := d) (os := os) ((place_any cx.x cx.y _).mono fun e w' h => ⟨h.1, by rw [h.2]; exact Below.refl _ _⟩)
      clear hcx
      cases k1 : placeB cx.x cx.y
      · rw [k1] at cB
        have K1 := Lib.hid k1
        clear k1
        have CB := Lib.hid cB
        clear cB
        have P0 := cell_regrown hc0
        have P1 := cell_regrown hc1
        have P2 := cell_regrown hc2
        subst e1
        go_upto_region 4 with fail
        refine wp_region_quiet_below (by kernel_rfl) (by kernel_rfl) ?_
        repeat (go_big_quiet_step (first | with_reducible exact CB.out _ _))
        refine wpQuiet_nil ?_
        intro _ hw'
        obtain ⟨⟨dq, osq⟩, hw''⟩ := hw'
        subst hw''
        have HF : Hid (chainB none ps = false) := Lib.hid (by rw [HT.out]; exact chain_no hlt (by rw [← HCX.out]; unfold okB; rw [K1.out] <;> rfl))
        go_wp2
        go_ret
        exact ⟨ret_bool (by rw [HF.out]; simp), HB.out.trans ((below_regrown wr dq osq).mono HB.out.size)⟩
      rw [k1] at cB
      have K1 := Lib.hid k1
      clear k1
      by_cases k2 : cx.s < 1
      · have d2 : decide (cx.s < 1) = true := decide_eq_true k2
        have K2 := Lib.hid k2
        clear k2
        have CB := Lib.hid cB
        clear cB
        have P0 := cell_regrown hc0
        have P1 := cell_regrown hc1
        have P2 := cell_regrown hc2
        subst e1
        go_upto_region 4 with fail
        refine wp_region_quiet_below (by kernel_rfl) (by kernel_rfl) ?_
        repeat (go_big_quiet_step (first | with_reducible exact CB.out _ _))
        refine wpQuiet_nil ?_
        intro _ hw'
        obtain ⟨⟨dq, osq⟩, hw''⟩ := hw'
        subst hw''
        have HF : Hid (chainB none ps = false) := Lib.hid (by rw [HT.out]; exact chain_no hlt (by rw [← HCX.out]; unfold okB; rw [K1.out, decide_eq_false (by have := K2.out; omega)] <;> rfl))
        go_wp2
        go_ret
        exact ⟨ret_bool (by rw [HF.out]; simp), HB.out.trans ((below_regrown wr dq osq).mono HB.out.size)⟩
      have d2 : decide (cx.s < 1) = false := decide_eq_false k2
      have K2 := Lib.hid k2
      clear k2
      by_cases k3 : 8 ≤ cx.s
      · have d3 : decide (8 ≤ cx.s) = true := decide_eq_true k3
        have K3 := Lib.hid k3
        clear k3
        have CB := Lib.hid cB
        clear cB
        have P0 := cell_regrown hc0
        have P1 := cell_regrown hc1
        have P2 := cell_regrown hc2
        subst e1
        go_upto_region 4 with fail
        refine wp_region_quiet_below (by kernel_rfl) (by kernel_rfl) ?_
        repeat (go_big_quiet_step (first | with_reducible exact CB.out _ _))
        refine wpQuiet_nil ?_
        intro _ hw'
        obtain ⟨⟨dq, osq⟩, hw''⟩ := hw'
        subst hw''
        have HF : Hid (chainB none ps = false) := Lib.hid (by rw [HT.out]; exact chain_no hlt (by rw [← HCX.out]; unfold okB; rw [K1.out, decide_eq_false (p := cx.s < 8) (by have := K3.out; omega)] <;> simp))
        go_wp2
        go_ret
        exact ⟨ret_bool (by rw [HF.out]; simp), HB.out.trans ((below_regrown wr dq osq).mono HB.out.size)⟩
      have d3 : decide (8 ≤ cx.s) = false := decide_eq_false k3
      have K3 := Lib.hid k3
      clear k3
      cases k with
      | zero =>
        simp only [Nat.zero_mul, Nat.add_zero] at hc0 hc1 hc2
        have d4 : decide ((0 : Int) < ((0 : Nat) : Int)) = false := by simp
        have CB := Lib.hid cB
        clear cB
        have P0 := cell_regrown hc0
        have P1 := cell_regrown hc1
        have P2 := cell_regrown hc2
        subst e1
        go_upto_region 4 with fail
        refine wp_region_quiet_below (by kernel_rfl) (by kernel_rfl) ?_
        repeat (go_big_quiet_step (first | with_reducible exact CB.out _ _))
        refine wpQuiet_nil ?_
        intro _ hw'
        obtain ⟨⟨dq, osq⟩, hw''⟩ := hw'
        subst hw''
        have HF := Lib.hid (HT.out.trans (chain_yes hlt (by rw [← HCX.out]; unfold okB; rw [K1.out, decide_eq_true (by have := K2.out; omega), decide_eq_true (by have := K3.out; omega)] <;> rfl)))
        have HB3 := Lib.hid (HB.out.trans ((below_regrown wr dq osq).mono HB.out.size))
        go_wp2
        go_roundw
        case rel => exact ⟨0 + 1, by omega, rfl, HB3, HF⟩
        case measure => simp [intOf]; omega
      | succ k =>
        have d4 : decide ((0 : Int) < ((k + 1 : Nat) : Int)) = true := decide_eq_true (by omega)
        have hw1 : wrap64 (((k + 1 : Nat) : Int) - 1) = (k : Int) := by unfold wrap64; omega
        have hi1 : (k : Int) < (ps.length : Int) := by omega
        have hk1 : k < ps.length := by omega
        obtain ⟨b2, o2, e2, -, hd0, hd1, hd2⟩ := ((ha.ext HB.out)).at_ hk1
        rw [e1] at e2
        injection e2 with e2
        injection e2 with e3 e4
        subst e3 e4
        obtain ⟨px, hpx⟩ : ∃ px, px = ps[k] := ⟨_, rfl⟩
        rw [← hpx] at hd0 hd1 hd2
        have HPX := Lib.hid hpx
        have R0 := cell_regrown hd0
        have R1 := cell_regrown hd1
        have R2 := cell_regrown hd2
        have cD := fun d os => Calls.regrown_of (w := wr) (d := d) (os := os) (before_any px cx _)
        unfold celV at cD
        have HPR : Hid (prevC ps (k + 1) = some px) := Lib.hid (by show ps[k]? = _; rw [List.getElem?_eq_getElem hk1, hpx])
        have hob := True.intro
        cases k5 : befB px cx
        · rw [k5] at cD
          have K5 := Lib.hid k5
          generalize ordC px cx = z at *
          clear hob k5 hpx hd0 hd1 hd2
          have CB := Lib.hid cB
          have CD := Lib.hid cD
          clear cB cD
          have P0 := cell_regrown hc0
          have P1 := cell_regrown hc1
          have P2 := cell_regrown hc2
          subst e1
          go_upto_region 4 with fail
          refine wp_region_quiet_below (by kernel_rfl) (by kernel_rfl) ?_
          repeat (go_big_quiet_step (first | with_reducible exact CB.out _ _ | with_reducible exact CD.out _ _))
          refine wpQuiet_nil ?_
          intro _ hw'
          obtain ⟨⟨dq, osq⟩, hw''⟩ := hw'
          subst hw''
          have HF : Hid (chainB none ps = false) := Lib.hid (by rw [HT.out]; exact chain_no hlt (by rw [← HCX.out, HPR.out]; unfold okB; rw [K1.out]; show (true && decide (1 ≤ cx.s) && decide (cx.s < 8) && befB px cx) = _; rw [K5.out] <;> simp))
          go_wp2
          go_ret
          exact ⟨ret_bool (by rw [HF.out]; simp), HB.out.trans ((below_regrown wr dq osq).mono HB.out.size)⟩
        · rw [k5] at cD
          have K5 := Lib.hid k5
          generalize ordC px cx = z at *
          clear hob k5 hpx hd0 hd1 hd2
          have CB := Lib.hid cB
          have CD := Lib.hid cD
          clear cB cD
          have P0 := cell_regrown hc0
          have P1 := cell_regrown hc1
          have P2 := cell_regrown hc2
          subst e1
          go_upto_region 4 with fail
          refine wp_region_quiet_below (by kernel_rfl) (by kernel_rfl) ?_
          repeat (go_big_quiet_step (first | with_reducible exact CB.out _ _ | with_reducible exact CD.out _ _))
          refine wpQuiet_nil ?_
          intro _ hw'
          obtain ⟨⟨dq, osq⟩, hw''⟩ := hw'
          subst hw''
          have HF := Lib.hid (HT.out.trans (chain_yes hlt (by rw [← HCX.out, HPR.out]; unfold okB; rw [K1.out]; show (true && decide (1 ≤ cx.s) && decide (cx.s < 8) && befB px cx) = _; rw [K5.out, decide_eq_true (by have := K2.out; omega), decide_eq_true (by have := K3.out; omega)] <;> rfl)))
          have HB3 := Lib.hid (HB.out.trans ((below_regrown wr dq osq).mono HB.out.size))
          go_wp2
          go_roundw
          case rel => exact ⟨k + 1 + 1, by omega, by go_num, HB3, HF⟩
          case measure => simp [intOf]; omega
    · have HF : Hid (chainB none ps = true) := Lib.hid (by rw [HT.out, List.drop_of_length_le (by omega)]; cases prevC ps k <;> rfl)
      have hlt' : decide ((k : Int) < (ps.length : Int)) = false := decide_eq_false (by omega)
      have HD : Hid (decide ((ps.length : Int) ≤ 5000) = decide (ps.length ≤ 5000)) := Lib.hid (decide_eq_decide.2 (by omega))
      go_wp2
      go_ret
      exact ⟨ret_bool (by rw [HF.out, Bool.and_true, ← HD.out]), HB.out⟩
end Go.Proofs.YtblfeaapjloppaaDoor
