/-
  Patterns: pattern.order, Right, Top; cellularref05.Right, Top, Compare, Same. No condition.
-/
import Derived.Test.YtblfeaapjloppaaDoorOrd
namespace Go.Proofs.YtblfeaapjloppaaDoor
open Go.RowKit
set_option maxRecDepth 100000
set_option linter.unusedVariables false
set_option linter.unusedSimpArgs false

set_option maxHeartbeats 2000000 in
theorem order2_any (a b : Cel) (w : World) : Calls Tryd.prog 43 #[celV a, celV b] w fun e w' => e = .returned (.int .i64 (ordC a b)) ∧ Below w.heap.size w w' := by
  obtain ⟨w2, hw2⟩ : ∃ w2, w2 = (w.alloc (.cells #[.int .i64 a.x, .int .i64 a.y, .int .i64 a.s] 34)).alloc (.cells #[.int .i64 b.x, .int .i64 b.y, .int .i64 b.s] 34) := ⟨_, rfl⟩
  have hb1 := (below_new w (.cells #[.int .i64 a.x, .int .i64 a.y, .int .i64 a.s] 34))
  have hb2 := hb1.alloc hb1.size (.cells #[.int .i64 b.x, .int .i64 b.y, .int .i64 b.s] 34)
  have p0 := (Blk.new w 34 #[.int .i64 a.x, .int .i64 a.y, .int .i64 a.s]).alloc (.cells #[.int .i64 b.x, .int .i64 b.y, .int .i64 b.s] 34)
  have q0 := Blk.new (w.alloc (.cells #[.int .i64 a.x, .int .i64 a.y, .int .i64 a.s] 34)) 34 #[.int .i64 b.x, .int .i64 b.y, .int .i64 b.s]
  rw [show (w.alloc (.cells #[.int .i64 a.x, .int .i64 a.y, .int .i64 a.s] 34)).heap.size = w.heap.size + 1 from by simp] at q0
  rw [← hw2] at hb2 p0 q0
  have HB := Lib.hid hb2
  have P0 := cell_regrown (p0.cell_ 0 (.int .i64 a.x) rfl)
  have P1 := cell_regrown (p0.cell_ 1 (.int .i64 a.y) rfl)
  have P2 := cell_regrown (p0.cell_ 2 (.int .i64 a.s) rfl)
  have Q0 := cell_regrown (q0.cell_ 0 (.int .i64 b.x) rfl)
  have Q1 := cell_regrown (q0.cell_ 1 (.int .i64 b.y) rfl)
  have Q2 := cell_regrown (q0.cell_ 2 (.int .i64 b.s) rfl)
  have cA := fun d os => Calls.regrown_of (w := w2) (d := d) (os := os) (at_any a _)
  have cB := fun d os => Calls.regrown_of (w := w2) (d := d) (os := os) (at_any b _)
  have cC := fun d os => Calls.regrown_of (w := w2) (d := d) (os := os) (compare_any a.x a.y b.x b.y _)
  unfold celV ptV at *
  unfold ordC
  have CA := Lib.hid cA
  have CB := Lib.hid cB
  have CC := Lib.hid cC
  have HW := Lib.hid hw2
  clear cA cB cC hb1 hb2 p0 q0 hw2
  go_enter Tryd.func43, Tryd.ntmps43
  go_upto_region 1 with fail
  rw [← HW.out]
  refine wp_region_quiet_below (by kernel_rfl) (by kernel_rfl) ?_
  repeat (go_big_quiet_step (first | with_reducible exact CA.out _ _ | with_reducible exact CB.out _ _ | with_reducible exact CC.out _ _))
  refine wpQuiet_nil ?_
  intro _ hw'
  obtain ⟨⟨dq, osq⟩, hw''⟩ := hw'
  subst hw''
  go_wp2
  go_ret
  exact ⟨rfl, HB.out.trans ((below_regrown w2 dq osq).mono HB.out.size)⟩

def okB (p : Option Cel) (c : Cel) : Bool := placeB c.x c.y && decide (1 ≤ c.s) && decide (c.s < 8) && (match p with | none => true | some q => befB q c)
def chainB : Option Cel → List Cel → Bool
  | _, [] => true
  | p, c :: l => okB p c && chainB (some c) l
def rightC (ps : List Cel) : Bool := decide (ps.length ≤ 5000) && chainB none ps
def prevC (ps : List Cel) : Nat → Option Cel
  | 0 => none
  | k + 1 => ps[k]?
theorem chain_yes {ps : List Cel} {k : Nat} (h : k < ps.length) (hd : okB (prevC ps k) ps[k] = true) : chainB (prevC ps k) (ps.drop k) = chainB (prevC ps (k + 1)) (ps.drop (k + 1)) := by
  rw [List.drop_eq_getElem_cons h]
  show (okB (prevC ps k) ps[k] && chainB (some ps[k]) (ps.drop (k + 1))) = chainB ps[k]? (ps.drop (k + 1))
  rw [hd, List.getElem?_eq_getElem h]
  rfl
theorem chain_no {ps : List Cel} {k : Nat} (h : k < ps.length) (hd : okB (prevC ps k) ps[k] = false) : chainB (prevC ps k) (ps.drop k) = false := by
  rw [List.drop_eq_getElem_cons h]
  simp [chainB, hd]
set_option maxHeartbeats 8000000 in
theorem right_any (A : Option Addr) (c : Nat) (ps : List Cel) (w : World) (ha : Cls w A ps) :
    Calls Tryd.prog 25 #[.slice A ps.length c] w fun e w' => e = .returned (.bool (rightC ps)) ∧ Below w.heap.size w w' := by
  have hn := ha.le
  unfold rightC
  by_cases hl : ps.length ≤ 5000
  · have d0 : decide ((5000 : Int) < (ps.length : Int)) = false := decide_eq_false (by omega)
    rw [decide_eq_true hl]
    go_enter Tryd.func25, Tryd.ntmps25
    go_wp2
    go_loopw [10] (fun i wr => ∃ k : Nat, k ≤ ps.length ∧ i = .int .i64 k ∧ Hid (Below w.heap.size w wr) ∧ Hid (chainB none ps = chainB (prevC ps k) (ps.drop k))) (fun i _ => ps.length - (intOf i).toNat)
    case atStart => exact ⟨0, Nat.zero_le _, rfl, Lib.hid (Below.refl _ _), Lib.hid rfl⟩
    case round =>
      obtain ⟨k, hk, rfl, HB, HT⟩ := hrel
      by_cases hlt : k < ps.length
      · obtain ⟨b1, o1, e1, hb1, hc0, hc1, hc2⟩ := (ha.ext HB.out).at_ hlt
        have hc1' : wr.cell? ⟨b1, o1 + k * 3 + 1, none⟩ = some (.int .i64 ps[k].y) := hc1
        obtain ⟨cx, hcx⟩ : ∃ cx, cx = ps[k] := ⟨_, rfl⟩
        rw [← hcx] at hc0 hc1 hc2
        have HCX := Lib.hid hcx
        have HE1 := Lib.hid e1
        have hnb := below_new wr (.cells #[.int .i64 cx.x, .int .i64 cx.y, .int .i64 cx.s] 34)
        obtain ⟨wb, hwb⟩ : ∃ wb, wb = wr.alloc (.cells #[.int .i64 cx.x, .int .i64 cx.y, .int .i64 cx.s] 34) := ⟨_, rfl⟩
        have p0 := Blk.new wr 34 #[.int .i64 cx.x, .int .i64 cx.y, .int .i64 cx.s]
        rw [← hwb] at hnb p0
        have P0 := cell_regrown (p0.cell_ 0 (.int .i64 cx.x) rfl)
        have P1 := cell_regrown (p0.cell_ 1 (.int .i64 cx.y) rfl)
        have P2 := cell_regrown (p0.cell_ 2 (.int .i64 cx.s) rfl)
        have HB2 := Lib.hid (HB.out.trans (hnb.mono HB.out.size))
        have HX := Lib.hid (And.intro p0 hnb)
        have cA := fun d os => Calls.regrown_of (w := wb) (d := d) (os := os) (at_any cx _)
        have cB := fun d os => Calls.regrown_of (w := wb) (d := d) (os := os) (placed_any cx.x cx.y _)
        have HW := Lib.hid hwb
        unfold celV ptV at *
        clear hcx hc1' p0 hnb hwb
        cases k1 : placeB cx.x cx.y
        · rw [k1] at cB
          have K1 := Lib.hid k1
          clear k1
          have CA := Lib.hid cA
          have CB := Lib.hid cB
          clear cA cB
          subst e1
          go_upto_region 6 with fail
          rw [← HW.out]
          refine wp_region_quiet_below (by kernel_rfl) (by kernel_rfl) ?_
          repeat (go_big_quiet_step (first | with_reducible exact CA.out _ _ | with_reducible exact CB.out _ _))
          refine wpQuiet_nil ?_
          intro _ hw'
          obtain ⟨⟨dq, osq⟩, hw''⟩ := hw'
          subst hw''
          have HF : Hid (chainB none ps = false) := Lib.hid (by rw [HT.out]; exact chain_no hlt (by rw [← HCX.out]; unfold okB; rw [K1.out] <;> rfl))
          go_wp2
          go_ret
          exact ⟨ret_bool (by rw [HF.out] <;> rfl), HB2.out.trans ((below_regrown wb dq osq).mono HB2.out.size)⟩
        rw [k1] at cB
        have K1 := Lib.hid k1
        clear k1
        by_cases k2 : cx.s < 1
        · have d2 : decide (cx.s < 1) = true := decide_eq_true k2
          have K2 := Lib.hid k2
          clear k2
          have CA := Lib.hid cA
          have CB := Lib.hid cB
          clear cA cB
          subst e1
          go_upto_region 6 with fail
          rw [← HW.out]
          refine wp_region_quiet_below (by kernel_rfl) (by kernel_rfl) ?_
          repeat (go_big_quiet_step (first | with_reducible exact CA.out _ _ | with_reducible exact CB.out _ _))
          refine wpQuiet_nil ?_
          intro _ hw'
          obtain ⟨⟨dq, osq⟩, hw''⟩ := hw'
          subst hw''
          have HF : Hid (chainB none ps = false) := Lib.hid (by rw [HT.out]; exact chain_no hlt (by rw [← HCX.out]; unfold okB; rw [K1.out, decide_eq_false (by have := K2.out; omega)] <;> rfl))
          go_wp2
          go_ret
          exact ⟨ret_bool (by rw [HF.out] <;> rfl), HB2.out.trans ((below_regrown wb dq osq).mono HB2.out.size)⟩
        have d2 : decide (cx.s < 1) = false := decide_eq_false k2
        have K2 := Lib.hid k2
        clear k2
        by_cases k3 : 8 ≤ cx.s
        · have d3 : decide (8 ≤ cx.s) = true := decide_eq_true k3
          have K3 := Lib.hid k3
          clear k3
          have CA := Lib.hid cA
          have CB := Lib.hid cB
          clear cA cB
          subst e1
          go_upto_region 6 with fail
          rw [← HW.out]
          refine wp_region_quiet_below (by kernel_rfl) (by kernel_rfl) ?_
          repeat (go_big_quiet_step (first | with_reducible exact CA.out _ _ | with_reducible exact CB.out _ _))
          refine wpQuiet_nil ?_
          intro _ hw'
          obtain ⟨⟨dq, osq⟩, hw''⟩ := hw'
          subst hw''
          have HF : Hid (chainB none ps = false) := Lib.hid (by rw [HT.out]; exact chain_no hlt (by rw [← HCX.out]; unfold okB; rw [K1.out, decide_eq_false (p := cx.s < 8) (by have := K3.out; omega)] <;> simp))
          go_wp2
          go_ret
          exact ⟨ret_bool (by rw [HF.out] <;> rfl), HB2.out.trans ((below_regrown wb dq osq).mono HB2.out.size)⟩
        have d3 : decide (8 ≤ cx.s) = false := decide_eq_false k3
        have K3 := Lib.hid k3
        clear k3
        cases k with
        | zero =>
          simp only [Nat.zero_mul, Nat.add_zero] at hc0 hc1 hc2
          have d4 : decide ((0 : Int) < ((0 : Nat) : Int)) = false := by simp
          have CA := Lib.hid cA
          have CB := Lib.hid cB
          clear cA cB
          subst e1
          go_upto_region 6 with fail
          rw [← HW.out]
          refine wp_region_quiet_below (by kernel_rfl) (by kernel_rfl) ?_
          repeat (go_big_quiet_step (first | with_reducible exact CA.out _ _ | with_reducible exact CB.out _ _))
          refine wpQuiet_nil ?_
          intro _ hw'
          obtain ⟨⟨dq, osq⟩, hw''⟩ := hw'
          subst hw''
          have HF := Lib.hid (HT.out.trans (chain_yes hlt (by rw [← HCX.out]; unfold okB; rw [K1.out, decide_eq_true (by have := K2.out; omega), decide_eq_true (by have := K3.out; omega)] <;> rfl)))
          have HB3 := Lib.hid (HB2.out.trans ((below_regrown wb dq osq).mono HB2.out.size))
          go_wp2
          go_roundw
          case rel => exact ⟨0 + 1, by omega, rfl, HB3, HF⟩
          case measure => simp [intOf]; omega
        | succ k =>
          have d4 : decide ((0 : Int) < ((k + 1 : Nat) : Int)) = true := decide_eq_true (by omega)
          have hw1 : wrap64 (((k + 1 : Nat) : Int) - 1) = (k : Int) := by unfold wrap64; omega
          have hi1 : (k : Int) < (ps.length : Int) := by omega
          have hk1 : k < ps.length := by omega
          obtain ⟨b2, o2, e2, -, hd0, hd1, hd2⟩ := ((ha.ext HB.out).ext HX.out.2).at_ hk1
          rw [e1] at e2
          injection e2 with e2
          injection e2 with e3 e4
          subst e3 e4
          obtain ⟨px, hpx⟩ : ∃ px, px = ps[k] := ⟨_, rfl⟩
          rw [← hpx] at hd0 hd1 hd2
          have HPX := Lib.hid hpx
          have R0 := cell_regrown hd0
          have R1 := cell_regrown hd1
          have R2 := cell_regrown hd2
          have cD := fun d os => Calls.regrown_of (w := wb) (d := d) (os := os) (order2_any px cx _)
          unfold celV at cD
          have HPR : Hid (prevC ps (k + 1) = some px) := Lib.hid (by show ps[k]? = _; rw [List.getElem?_eq_getElem hk1, hpx])
          have hob := ord_bef px cx
          cases k5 : befB px cx
          · have d5 : decide (0 ≤ ordC px cx) = true := by rw [hob, k5]; rfl
            have K5 := Lib.hid k5
            generalize ordC px cx = z at *
            clear hob k5 hpx hd0 hd1 hd2
            have CA := Lib.hid cA
            have CB := Lib.hid cB
            have CD := Lib.hid cD
            clear cA cB cD
            subst e1
            go_upto_region 6 with fail
            rw [← HW.out]
            refine wp_region_quiet_below (by kernel_rfl) (by kernel_rfl) ?_
            repeat (go_big_quiet_step (first | with_reducible exact CA.out _ _ | with_reducible exact CB.out _ _ | with_reducible exact CD.out _ _))
            refine wpQuiet_nil ?_
            intro _ hw'
            obtain ⟨⟨dq, osq⟩, hw''⟩ := hw'
            subst hw''
            have HF : Hid (chainB none ps = false) := Lib.hid (by rw [HT.out]; exact chain_no hlt (by rw [← HCX.out, HPR.out]; unfold okB; rw [K1.out]; show (true && decide (1 ≤ cx.s) && decide (cx.s < 8) && befB px cx) = _; rw [K5.out] <;> simp))
            go_wp2
            go_ret
            exact ⟨ret_bool (by rw [HF.out] <;> rfl), HB2.out.trans ((below_regrown wb dq osq).mono HB2.out.size)⟩
          · have d5 : decide (0 ≤ ordC px cx) = false := by rw [hob, k5]; rfl
            have K5 := Lib.hid k5
            generalize ordC px cx = z at *
            clear hob k5 hpx hd0 hd1 hd2
            have CA := Lib.hid cA
            have CB := Lib.hid cB
            have CD := Lib.hid cD
            clear cA cB cD
            subst e1
            go_upto_region 6 with fail
            rw [← HW.out]
            refine wp_region_quiet_below (by kernel_rfl) (by kernel_rfl) ?_
            repeat (go_big_quiet_step (first | with_reducible exact CA.out _ _ | with_reducible exact CB.out _ _ | with_reducible exact CD.out _ _))
            refine wpQuiet_nil ?_
            intro _ hw'
            obtain ⟨⟨dq, osq⟩, hw''⟩ := hw'
            subst hw''
            have HF := Lib.hid (HT.out.trans (chain_yes hlt (by rw [← HCX.out, HPR.out]; unfold okB; rw [K1.out]; show (true && decide (1 ≤ cx.s) && decide (cx.s < 8) && befB px cx) = _; rw [K5.out, decide_eq_true (by have := K2.out; omega), decide_eq_true (by have := K3.out; omega)] <;> rfl)))
            have HB3 := Lib.hid (HB2.out.trans ((below_regrown wb dq osq).mono HB2.out.size))
            go_wp2
            go_roundw
            case rel => exact ⟨k + 1 + 1, by omega, by go_num, HB3, HF⟩
            case measure => simp [intOf]; omega
      · have HF : Hid (chainB none ps = true) := Lib.hid (by rw [HT.out, List.drop_of_length_le (by omega)]; cases prevC ps k <;> rfl)
        go_wp2
        go_ret
        exact ⟨ret_bool (by rw [HF.out] <;> rfl), HB.out⟩
  · have d0 : decide ((5000 : Int) < (ps.length : Int)) = true := decide_eq_true (by omega)
    rw [decide_eq_false hl]
    go_enter Tryd.func25, Tryd.ntmps25
    go_wp2
    go_ret
    exact ⟨rfl, Below.refl _ _⟩
end Go.Proofs.YtblfeaapjloppaaDoor
