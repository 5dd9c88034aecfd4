/-
  cellularref15.Table. No condition.
  The reference's equality of lists of points and of numbers. No condition but the reach.
  cellularref11.Same of two tables that are equal. No condition but the reach.
  symmetry.Apply. No condition but the table of the matrices, and numbers below 2 ^ 62.
-/
import Derived.Test.YtlegfdllipkggaaDoorZRWalk15
import Derived.Test.YtlegfdllipkggaaDoorZG5
import Derived.Test.YtlegfdllipkggaaDoorZG7
import Derived.Test.YtlegfdllipkggaaDoorZG4
import Derived.Test.YtlegfdllipkggaaDoorZG8
namespace Go.Proofs.YtlegfdllipkggaaDoor
open Go.RowKit Go.Maps
set_option maxRecDepth 100000
set_option linter.unusedVariables false
set_option linter.unusedSimpArgs false
set_option maxHeartbeats 16000000 in
theorem rtable_any (A : Option Addr) (c : Nat) (D : Option Addr) (d : Nat) (os : List Hd) (t : PT) (w : World) (hp : Pts w A t.ps) (hN : Nds w D os) (hns : os.map Hd.nd = t.ns) :
  Calls Tryd.prog 9 #[.agg #[.int .i64 t.st, .slice A t.ps.length c, .slice D os.length d]] w (RetTab (tableP t) w) := by
 obtain ⟨w0, hw0⟩ : ∃ w0, w0 = (w.alloc (.cells #[.int .i64 t.st, .slice A t.ps.length c, .slice D os.length d] 25)).alloc (.cells #[.int .i64 0, .int .i64 0, .slice none 0 0, .slice none 0 0, .slice none 0 0] 31) := ⟨_, rfl⟩
 have hb1 := below_new w (.cells #[.int .i64 t.st, .slice A t.ps.length c, .slice D os.length d] 25)
 have hb0 : Below w.heap.size w w0 := by rw [hw0]; exact hb1.alloc hb1.size _
 have p0 : Blk w0 w.heap.size 25 #[.int .i64 t.st, .slice A t.ps.length c, .slice D os.length d] := by rw [hw0]; exact (Blk.new w _ _).alloc _
 have q0 : Blk w0 (w.heap.size + 1) 31 #[.int .i64 0, .int .i64 0, .slice none 0 0, .slice none 0 0, .slice none 0 0] := by rw [hw0]; exact blk_two' _ _ _ _
 have HR : Hid (∀ W, Below w.heap.size w W → Calls Tryd.prog 27 #[.agg #[.int .i64 t.st, .slice A t.ps.length c, .slice D os.length d]] W fun e w' => e = .returned (.bool t.right) ∧ Below W.heap.size W w') := Lib.hid (fun W hb => by
  have := rright_any t.st A c t.ps D d os W (hp.ext hb) (hN.ext hb)
  rw [hns] at this
  exact this)
 have HREDT : Hid (∀ W, Below w.heap.size w W → Calls Tryd.prog 14 #[.agg #[.int .i64 t.st, .slice A t.ps.length c, .slice D os.length d]] W (RetAt (redT t) W)) := Lib.hid (fun W hb => by
  have := rreduce_any t.st A c t.ps D d os W (hp.ext hb) (hN.ext hb)
  rw [hns] at this
  exact this)
 have HB0 := Lib.hid hb0
 have HP0 := Lib.hid p0
 have HQ0 := Lib.hid q0
 have HW0 := Lib.hid hw0
 have hRX := HR.out w0 hb0
 have c0 := p0.cell_ 0 (.int .i64 t.st) rfl
 have c1 := p0.cell_ 1 (.slice A t.ps.length c) rfl
 have c2 := p0.cell_ 2 (.slice D os.length d) rfl
 have HPT := Lib.hid hp
 clear hb1 hb0 p0 q0 hw0 hp hN hns HR
 cases hr : t.right with
 | false =>
  have HE : Hid (tableP t = (TabL.zero, 11)) := Lib.hid (by unfold tableP; rw [if_pos hr])
  rw [hr] at hRX
  have HRX := Lib.hid hRX
  clear hr hRX
  go_enter Tryd.func9, Tryd.ntmps9
  go_upto_region 1 with fail
  rw [← HW0.out]
  go_wp2_with (go_at_call 27; refine HRX.out.mono ?_; rintro e w1 ⟨rfl, hb⟩; refine Hid.out ?_)
  refine Lib.hid ?_
  have HQ1 := Lib.hid (HQ0.out.below hb HQ0.out.lt)
  have HB1 := Lib.hid (HB0.out.trans (hb.mono HB0.out.size))
  have q1 := HQ1.out
  clear hb c0 c1 c2
  have d0 := q1.cell_ 0 (.int .i64 0) rfl
  have d1 := q1.cell_ 1 (.int .i64 0) rfl
  have d2 := q1.cell_ 2 (.slice none 0 0) rfl
  have d3 := q1.cell_ 3 (.slice none 0 0) rfl
  have d4 := q1.cell_ 4 (.slice none 0 0) rfl
  have f0 := q1.frozen 0
  have f1 := q1.frozen 1
  have f2 := q1.frozen 2
  have f3 := q1.frozen 3
  have f4 := q1.frozen 4
  clear q1
  go_wp2
  have hq : Blk (((((w1.setCell ⟨w.heap.size + 1, 0, none⟩ (.int .i64 0)).setCell ⟨w.heap.size + 1, 1, none⟩ (.int .i64 0)).setCell ⟨w.heap.size + 1, 2, none⟩ (.slice none 0 0)).setCell ⟨w.heap.size + 1, 3, none⟩ (.slice none 0 0)).setCell ⟨w.heap.size + 1, 4, none⟩ (.slice none 0 0)) (w.heap.size + 1) 31 #[.int .i64 0, .int .i64 0, .slice none 0 0, .slice none 0 0, .slice none 0 0] := (((((HQ1.out.set_ 0 (.int .i64 0)).set_ 1 (.int .i64 0)).set_ 2 (.slice none 0 0)).set_ 3 (.slice none 0 0)).set_ 4 (.slice none 0 0))
  rw [HE.out]
  exact bodyPost_ret (results_ct Tryd.results9 _ _ (w.heap.size + 1) 31 #[.int .i64 0, .int .i64 0, .slice none 0 0, .slice none 0 0, .slice none 0 0] (0, 0) _ rfl hq Tryd.underlying31 rfl Tryd.sizeTable) rfl
   ⟨none, 0, none, 0, none, 0, ⟨0, 0, [], [], []⟩, rfl, tab_zero _, rfl, (((((HB1.out.setCell (p := ⟨w.heap.size + 1, 0, none⟩) (by simp) _).setCell (p := ⟨w.heap.size + 1, 1, none⟩) (by simp) _).setCell (p := ⟨w.heap.size + 1, 2, none⟩) (by simp) _).setCell (p := ⟨w.heap.size + 1, 3, none⟩) (by simp) _).setCell (p := ⟨w.heap.size + 1, 4, none⟩) (by simp) _)⟩
 | true =>
  obtain ⟨a1, a2, a3, a4, a5, a6, a7, a8, a9⟩ := rightN_parts hr
  obtain ⟨r1, r2, r3, r4, r5, r6, r7⟩ := redT_ok hr
  have hcan := red_canT hr
  rw [hr] at hRX
  have HRX := Lib.hid hRX
  have HPR := Lib.hid (And.intro a1 (And.intro a2 (And.intro a3 a7)))
  have HRD := Lib.hid (And.intro r1 (And.intro r3 (And.intro r6 r7)))
  have HCN := Lib.hid hcan
  have HRR := Lib.hid hr
  have hps1 : 1 ≤ t.ps.length := by
   unfold hoodB at a3
   simp only [Bool.and_eq_true, decide_eq_true_eq] at a3
   exact a3.1.1
  have HP1 := Lib.hid hps1
  have HRED : Hid (∀ W, Below w.heap.size w W → Calls Tryd.prog 14 #[.agg #[.int .i64 t.st, .slice A t.ps.length c, .slice D os.length d]] W fun e w' => ∃ A1 c1 B1 d1 os1, e = .returned (.agg #[.int .i64 t.st, .slice A1 t.ps.length c1, .slice B1 (List.length os1) d1]) ∧ Pts w' A1 t.ps ∧ Nds w' B1 os1 ∧ os1.map Hd.nd = (redT t).ns ∧ Below W.heap.size W w') := Lib.hid (fun W hb => (HREDT.out W hb).mono fun e w' h => by
   obtain ⟨v, rfl, ⟨A1, c1, B1, d1, os1, rfl, k1, k2, k3⟩, hbb⟩ := h
   rw [r7] at k1
   exact ⟨A1, c1, B1, d1, os1, by rw [r6, r7], k1, k2, k3, hbb⟩)
  clear hr hRX a1 a2 a3 a4 a5 a6 a7 a8 a9 r1 r2 r3 r4 r5 r6 r7 hcan hps1 HREDT
  go_enter Tryd.func9, Tryd.ntmps9
  go_upto_region 1 with fail
  rw [← HW0.out]
  go_wp2_with (go_at_call 27; refine HRX.out.mono ?_; rintro e w1 ⟨rfl, hb⟩; refine Hid.out ?_)
  refine Lib.hid ?_
  have HB1 := Lib.hid (HB0.out.trans (hb.mono HB0.out.size))
  have HP1' := Lib.hid (HP0.out.below hb HP0.out.lt)
  have HQ1 := Lib.hid (HQ0.out.below hb HQ0.out.lt)
  have hcall := HRED.out w1 HB1.out
  have HCALL := Lib.hid hcall
  clear hb c0 c1 c2 HP0 HQ0 HRX hcall
  have c0 := HP1'.out.cell_ 0 (.int .i64 t.st) rfl
  have c1 := HP1'.out.cell_ 1 (.slice A t.ps.length c) rfl
  have c2 := HP1'.out.cell_ 2 (.slice D os.length d) rfl
  go_wp2_with (go_at_call 14; refine HCALL.out.mono ?_; rintro e w2 ⟨A1, c1', B1, d1', os1, rfl, k1, k2, k3, hb⟩; refine Hid.out ?_)
  refine Lib.hid ?_
  have HK := Lib.hid (And.intro k1 (And.intro k2 k3))
  have HB12 := Lib.hid hb
  clear k1 k2 k3 hb c0 c1 c2 HCALL
  go_upto_region 4 with fail
  obtain ⟨w3, hw3⟩ : ∃ w3, w3 = w2.alloc (.cells #[.int .i64 t.st, .slice A1 t.ps.length c1', .slice B1 os1.length d1'] 25) := ⟨_, rfl⟩
  obtain ⟨gX, hgX⟩ : ∃ g, g = w2.heap.size := ⟨_, rfl⟩
  rw [← hw3, ← hgX]
  have hb23 : Below w2.heap.size w2 w3 := by rw [hw3]; exact below_new _ _
  have HX : Hid (Blk w3 gX 25 #[.int .i64 t.st, .slice A1 t.ps.length c1', .slice B1 os1.length d1']) := Lib.hid (by rw [hgX, hw3]; exact Blk.new _ _ _)
  have HK3 : Hid (Pts w3 A1 t.ps ∧ Nds w3 B1 os1) := Lib.hid ⟨HK.out.1.ext hb23, HK.out.2.1.ext hb23⟩
  have HB13 := Lib.hid (HB12.out.trans (hb23.mono HB12.out.size))
  obtain ⟨N1, hN1⟩ : ∃ N1, N1 = (redT t).ns.length - 1 := ⟨_, rfl⟩
  have hlo : os1.length = (redT t).ns.length := by rw [← HK.out.2.2, List.length_map]
  have hN9 := HK3.out.2.le
  have hN0 := HRD.out.2.1
  have hcall : Calls Tryd.prog 28 #[.agg #[.int .i64 t.st, .slice A1 t.ps.length c1', .slice B1 os1.length d1'], .slice none 0 0, .slice none 0 0, .int .i64 (N1 : Int)] w3 (Rw15Post w3.heap.size (([] : List Rh).map Rh.rw_ ++ rowsT (os1.map Hd.nd) (ctrP t.ps) t.ps.length [] (N1 : Int)) (.slice none 0 0) w3) :=
   rwalk15_any w3.heap.size t.ps.length t.st.toNat t.st A1 c1' B1 d1' t.ps os1 w3 rfl HK3.out.1 rfl HK3.out.2 (by rw [HK.out.2.2]; exact HRD.out.1) (by have := HPR.out.1; omega) HP1.out HPR.out.2.2.2
    t.ps.length [] (N1 : Int) none 0 (.slice none 0 0) [] w3 (OwnI.nil _ _ _) (OwnR.nil _ _ _ _) (Below.refl _ _) (by simp) (by simp)
    ⟨Int.natCast_nonneg _, fun _ => by rw [HK.out.2.2, Int.toNat_natCast]; exact ⟨by omega, by rw [hN1]; exact HCN.out.root⟩⟩
  rw [HK.out.2.2, show (([] : List Rh).map Rh.rw_ ++ rowsT (redT t).ns (ctrP t.ps) t.ps.length [] (N1 : Int)) = rowsOf t from by unfold rowsOf; rw [hN1]; rfl] at hcall
  rw [show (N1 : Int) = (os1.length : Int) - 1 from by omega] at hcall
  have HCALL := Lib.hid hcall
  have n0 := HX.out.cell_ 0 (.int .i64 t.st) rfl
  have n1 := HX.out.cell_ 1 (.slice A1 t.ps.length c1') rfl
  have n2 := HX.out.cell_ 2 (.slice B1 os1.length d1') rfl
  have hN7 : 0 < os1.length := by omega
  clear hcall hlo hN0 hN1 hw3 hgX hb23
  go_wp2_with (go_at_call 28; refine HCALL.out.mono ?_; rintro e w4 ⟨rv4, rs4, rfl, hr4, ho4, hk4, hn4⟩; refine Hid.out ?_)
  refine Lib.hid ?_
  obtain ⟨rA, rc, erv, -, -⟩ := hr4.rws
  subst erv
  have hb34 : Below w3.heap.size w3 w4 := hk4.to_below (Nat.le_refl _) (fun g hg e => by simp [Value.ownBlock] at e)
  have HB14 := Lib.hid (HB13.out.trans (hb34.mono HB13.out.size))
  have HRO := Lib.hid hr4
  have HQ4 := Lib.hid (HQ1.out.below HB14.out HQ1.out.lt)
  have HP4 := Lib.hid (HP1'.out.below HB14.out HP1'.out.lt)
  have HB4 := Lib.hid (HB1.out.trans (HB14.out.mono HB1.out.size))
  have HWB : Hid (w1.heap.size ≤ w3.heap.size ∧ w3.heap.size ≤ w4.heap.size) := Lib.hid ⟨HB13.out.size, hb34.size⟩
  obtain ⟨ok1, ok2, ok3⟩ := ho4
  have hr49 : rs4.length ≤ 9223372036854775807 := by omega
  clear n0 n1 n2 HCALL hN9 hN7 hb34 hk4 hn4 hr4
  by_cases h4 : 400 < (rowsOf t).length
  ·have HE : Hid (tableP t = (TabL.zero, 6)) := Lib.hid (by unfold tableP; rw [if_neg (by rw [HRR.out]; decide), if_pos h4])
   have h5 := ok2 h4
   have dd : decide (400 < rs4.length) = true := decide_eq_true h5
   have dd' : decide ((400 : Int) < (rs4.length : Int)) = true := decide_eq_true (by omega)
   have q1 := HQ4.out
   clear ok1 ok2 ok3 h4 h5
   have d0 := q1.cell_ 0 (.int .i64 0) rfl
   have d1 := q1.cell_ 1 (.int .i64 0) rfl
   have d2 := q1.cell_ 2 (.slice none 0 0) rfl
   have d3 := q1.cell_ 3 (.slice none 0 0) rfl
   have d4 := q1.cell_ 4 (.slice none 0 0) rfl
   have f0 := q1.frozen 0
   have f1 := q1.frozen 1
   have f2 := q1.frozen 2
   have f3 := q1.frozen 3
   have f4 := q1.frozen 4
   clear q1
   go_wp2
   have hq : Blk (((((w4.setCell ⟨w.heap.size + 1, 0, none⟩ (.int .i64 0)).setCell ⟨w.heap.size + 1, 1, none⟩ (.int .i64 0)).setCell ⟨w.heap.size + 1, 2, none⟩ (.slice none 0 0)).setCell ⟨w.heap.size + 1, 3, none⟩ (.slice none 0 0)).setCell ⟨w.heap.size + 1, 4, none⟩ (.slice none 0 0)) (w.heap.size + 1) 31 #[.int .i64 0, .int .i64 0, .slice none 0 0, .slice none 0 0, .slice none 0 0] := (((((HQ4.out.set_ 0 (.int .i64 0)).set_ 1 (.int .i64 0)).set_ 2 (.slice none 0 0)).set_ 3 (.slice none 0 0)).set_ 4 (.slice none 0 0))
   rw [HE.out]
   exact bodyPost_ret (results_ct Tryd.results9 _ _ (w.heap.size + 1) 31 #[.int .i64 0, .int .i64 0, .slice none 0 0, .slice none 0 0, .slice none 0 0] (0, 0) _ rfl hq Tryd.underlying31 rfl Tryd.sizeTable) rfl
    ⟨none, 0, none, 0, none, 0, ⟨0, 0, [], [], []⟩, rfl, tab_zero _, rfl, (((((HB4.out.setCell (p := ⟨w.heap.size + 1, 0, none⟩) (by simp) _).setCell (p := ⟨w.heap.size + 1, 1, none⟩) (by simp) _).setCell (p := ⟨w.heap.size + 1, 2, none⟩) (by simp) _).setCell (p := ⟨w.heap.size + 1, 3, none⟩) (by simp) _).setCell (p := ⟨w.heap.size + 1, 4, none⟩) (by simp) _)⟩
  ·have h5 := ok1 (Nat.le_of_not_lt h4)
   have h6 : rs4.length ≤ 400 := by rw [← List.length_map (f := Rh.rw_), h5]; omega
   have HT4 : Hid (rs4.map Rh.rw_ = rowsOf t ∧ (rowsOf t).length ≤ 400) := Lib.hid ⟨h5, Nat.le_of_not_lt h4⟩
   have dd : decide (400 < rs4.length) = false := decide_eq_false (by omega)
   have dd' : decide ((400 : Int) < (rs4.length : Int)) = false := decide_eq_false (by omega)
   clear ok1 ok2 ok3 h4 h5 h6
   go_upto_region 7 with fail
   have c0 := HP4.out.cell_ 0 (.int .i64 t.st) rfl
   have c1 := HP4.out.cell_ 1 (.slice A t.ps.length c) rfl
   have hn25 : t.ps.length ≤ 25 := HPR.out.2.2.2
   go_upto_region 9 with fail
   clear c0 c1
   obtain ⟨v6, hv6⟩ : ∃ v6, v6 = w4.alloc (.cells #[.int .i64 t.st, .int .i64 0, .slice A t.ps.length c, .slice none 0 0, .slice rA rs4.length rc] 31) := ⟨_, rfl⟩
   obtain ⟨pT, hpT⟩ : ∃ pT, pT = w4.heap.size := ⟨_, rfl⟩
   rw [← hv6, ← hpT]
   have hb46 : Below w4.heap.size w4 v6 := by rw [hv6]; exact below_new _ _
   have HTB0 : Hid (TbW w3.heap.size pT t.st A t.ps.length c (.slice none 0 0) [] rA rc rs4 v6) := Lib.hid ⟨by rw [hpT, hv6]; exact Blk.new _ _ _, OwnV.nil _ _ _ _, HRO.out.ext hb46, by rw [hpT]; exact HWB.out.2⟩
   have HWL2 : Hid (w.heap.size + 1 < w3.heap.size) := Lib.hid (Nat.lt_of_lt_of_le HQ1.out.lt HWB.out.1)
   have HPC : Hid (∀ W, Below w3.heap.size v6 W → Blk W w.heap.size 25 #[.int .i64 t.st, .slice A t.ps.length c, .slice D os.length d]) := Lib.hid (fun W hW => (HP4.out.below hb46 HP4.out.lt).below hW (Nat.lt_of_lt_of_le HP1'.out.lt HWB.out.1))
   have HQD : Hid (∀ W, Below w3.heap.size v6 W → Blk W (w.heap.size + 1) 31 #[.int .i64 0, .int .i64 0, .slice none 0 0, .slice none 0 0, .slice none 0 0]) := Lib.hid (fun W hW => (HQ4.out.below hb46 HQ4.out.lt).below hW (Nat.lt_of_lt_of_le HQ1.out.lt HWB.out.1))
   have HBD : Hid (Below w.heap.size w v6) := Lib.hid (HB4.out.trans (hb46.mono HB4.out.size))
   obtain ⟨sn, hsn⟩ : ∃ sn : Nat, t.st = (sn : Int) := ⟨t.st.toNat, by have := HPR.out.1; omega⟩
   have HSN : Hid (t.st = (sn : Int) ∧ sn ≤ 8) := Lib.hid ⟨hsn, by have := HPR.out.2.1; omega⟩
   clear hv6 hpT hb46 hsn dd dd'
   go_loopw [7] (fun iv wr => ∃ (k : Nat) (vv : Value) (vs : List Vh), k ≤ t.ps.length ∧ iv = .int .i64 k ∧ Hid (TbW w3.heap.size pT t.st A t.ps.length c vv vs rA rc rs4 wr) ∧ Hid (Below w3.heap.size v6 wr) ∧ Hid (vs.map Vh.zs = List.replicate k (allS sn) ∧ vs.length = k)) (fun iv _ => t.ps.length - (intOf iv).toNat)
   case atStart => exact ⟨0, .slice none 0 0, [], Nat.zero_le _, rfl, HTB0, Lib.hid (Below.refl _ _), Lib.hid ⟨rfl, rfl⟩⟩
   case round =>
    obtain ⟨k, vv, vs, hk, rfl, HTB, HBR, HVS⟩ := hrel
    obtain ⟨wo, rfl⟩ : ∃ wo : World, wo = wr := ⟨_, rfl⟩
    have HPCr := Lib.hid (HPC.out wo HBR.out)
    have x1 := HPCr.out.cell_ 1 (.slice A t.ps.length c) rfl
    by_cases hkl : k < t.ps.length
    ·have HK2 := Lib.hid hkl
     have hwk : wrap64 ((k : Int) + 1) = (k : Int) + 1 := by unfold wrap64; omega
     have HWK1 := Lib.hid hwk
     clear hk hwk
     go_wp2
     clear x1
     go_loopw [8, 9] (fun lv iv wi => ∃ s : Nat, s ≤ sn ∧ iv = .int .i64 s ∧ Hid (OwnIA wi wo.heap.size lv (allS s)) ∧ Hid (Below wo.heap.size wo wi)) (fun _ iv _ => sn - (intOf iv).toNat)
     case atStart => exact ⟨0, Nat.zero_le _, rfl, Lib.hid (OwnI.nil _ _ _), Lib.hid (Below.refl _ _)⟩
     case round =>
      obtain ⟨s, hs, rfl, HO, HBI⟩ := hrel
      have x0 : wr.cell? ⟨w.heap.size, 0, none⟩ = some (.int .i64 (sn : Int)) := by rw [← HSN.out.1]; exact (HPCr.out.below HBI.out HPCr.out.lt).cell_ 0 (.int .i64 t.st) rfl
      by_cases hsl : s < sn
      ·have HS := Lib.hid hsl
       have hws : wrap64 ((s : Int) + 1) = (s : Int) + 1 := by have := HSN.out.2; unfold wrap64; omega
       have hown := HO.out
       have hln : (allS s).length < 1000000000000 := by rw [allS_len]; have := HSN.out.2; omega
       have hbs := HBI.out.size
       clear hs
       go_wp2_with (at_builtin; refine wpList_pushI rfl _ _ _ rfl wo.heap.size 3 Tryd.underlying41 Tryd.infoInt _ _ rfl hown _ rfl hln hbs ?_)
       intro v' w7 ho' hb'
       have HO7 : Hid (OwnIA w7 wo.heap.size v' (allS (s + 1))) := Lib.hid (by rw [allS_succ]; exact ho')
       have HB7 := Lib.hid (HBI.out.trans hb')
       clear ho' hb' hown hln hbs x0
       go_wp2
       go_roundw
       case rel => exact ⟨s + 1, HS.out, (by first | rfl | (rw [hws]; rfl)), HO7, HB7⟩
       case measure => (try rw [hws]); exact meas_step HS.out
      ·obtain rfl : sn = s := Nat.le_antisymm (Nat.le_of_not_lt hsl) hs
       obtain ⟨A2, c2, ev, hi2, hn2⟩ := HO.out.ints
       subst ev
       clear hs hsl hi2 hn2
       have HT2 := Lib.hid (HTB.out.ext HBI.out)
       obtain ⟨A3, c3, ev, hi3, hn3⟩ := HT2.out.vr.vrs
       subst ev
       clear hi3 hn3
       have x3 := HT2.out.blk.cell_ 3 (.slice A3 vs.length c3) rfl
       have hownv := HT2.out.vr
       have hI : OwnIA wr w3.heap.size (.slice A2 (allS sn).length c2) (allS sn) := OwnI.down HO.out (Nat.le_trans HTB.out.lo (Nat.le_of_lt HTB.out.blk.lt))
       have hlv : vs.length < 1000000000000 := by have := HVS.out.2; have := HK2.out; have := HPR.out.2.2.2; omega
       have hbv : w3.heap.size ≤ wr.heap.size := Nat.le_trans HT2.out.lo (Nat.le_of_lt HT2.out.blk.lt)
       go_wp2_with (at_builtin; refine wpList_pushV rfl _ _ _ rfl w3.heap.size 41 3 (by decide) Tryd.underlying28 Tryd.infoInts15 _ _ rfl hownv A2 c2 (allS sn) hI rfl hlv hbv ?_)
       intro v' w7 ho' hk' hn'
       obtain ⟨A7, c7, ev7, hi7, hn7⟩ := ho'.vrs
       subst ev7
       clear hi7 hn7
       obtain ⟨ht7, hb7⟩ := HT2.out.push ho' hk'
       have b7 := hk'.blk HT2.out.blk (own_blk_ne' HT2.out.vr.1 HT2.out.blk (by decide))
       have x7 := b7.cell_ 3 (.slice A3 vs.length c3) rfl
       have f7 := b7.frozen 3
       rw [show (vs ++ [(⟨A2, c2, allS sn⟩ : Vh)]).length = vs.length + 1 from by rw [List.length_append]; rfl] at ht7 hb7
       have HT7 := Lib.hid ht7
       have HB7 := Lib.hid (HBR.out.trans ((HBI.out.mono (Nat.le_trans HTB.out.lo (Nat.le_of_lt HTB.out.blk.lt))).trans hb7))
       clear ht7 hb7 b7 ho' hk' hn' hownv hI hlv hbv x3 x0
       go_wp2
       go_roundw
       case rel => exact ⟨k + 1, _, vs ++ [⟨A2, c2, allS sn⟩], HK2.out, (by first | rfl | (rw [HWK1.out]; rfl)), HT7, HB7, Lib.hid ⟨by rw [List.map_append, HVS.out.1, List.replicate_succ']; rfl, by rw [List.length_append, HVS.out.2]; rfl⟩⟩
       case measure => (try rw [HWK1.out]); exact meas_step HK2.out
    ·obtain rfl : k = t.ps.length := Nat.le_antisymm hk (Nat.le_of_not_lt hkl)
     clear hk hkl
     obtain ⟨A3, c3, ev, hi3, hn3⟩ := HTB.out.vr.vrs
     subst ev
     clear hi3 hn3
     have HE : Hid (tableP t = (⟨t.st, 0, t.ps, List.replicate t.ps.length (allS sn), rowsOf t⟩, 0)) := Lib.hid (by
      unfold tableP
      rw [if_neg (by rw [HRR.out]; decide), if_neg (by have := HT4.out.2; omega)]
      unfold allS
      rw [show t.st.toNat = sn from by have := HSN.out.1; omega])
     have hbb := HTB.out.blk
     have e0 := hbb.cell_ 0 (.int .i64 t.st) rfl
     have e1 := hbb.cell_ 1 (.int .i64 0) rfl
     have e2 := hbb.cell_ 2 (.slice A t.ps.length c) rfl
     have e3 := hbb.cell_ 3 (.slice A3 vs.length c3) rfl
     have e4 := hbb.cell_ 4 (.slice rA rs4.length rc) rfl
     have HQ7 := Lib.hid (HQD.out wo HBR.out)
     have q1 := HQ7.out
     have d0 := q1.cell_ 0 (.int .i64 0) rfl
     have d1 := q1.cell_ 1 (.int .i64 0) rfl
     have d2 := q1.cell_ 2 (.slice none 0 0) rfl
     have d3 := q1.cell_ 3 (.slice none 0 0) rfl
     have d4 := q1.cell_ 4 (.slice none 0 0) rfl
     have f0 := q1.frozen 0
     have f1 := q1.frozen 1
     have f2 := q1.frozen 2
     have f3 := q1.frozen 3
     have f4 := q1.frozen 4
     clear q1 hbb
     go_wp2
     have hq : Blk (((((wo.setCell ⟨w.heap.size + 1, 0, none⟩ (.int .i64 t.st)).setCell ⟨w.heap.size + 1, 1, none⟩ (.int .i64 0)).setCell ⟨w.heap.size + 1, 2, none⟩ (.slice A t.ps.length c)).setCell ⟨w.heap.size + 1, 3, none⟩ (.slice A3 vs.length c3)).setCell ⟨w.heap.size + 1, 4, none⟩ (.slice rA rs4.length rc)) (w.heap.size + 1) 31 #[.int .i64 t.st, .int .i64 0, .slice A t.ps.length c, .slice A3 vs.length c3, .slice rA rs4.length rc] := (((((HQ7.out.set_ 0 (.int .i64 t.st)).set_ 1 (.int .i64 0)).set_ 2 (.slice A t.ps.length c)).set_ 3 (.slice A3 vs.length c3)).set_ 4 (.slice rA rs4.length rc))
     have hk : Kept (fun g => g = w.heap.size + 1) wo (((((wo.setCell ⟨w.heap.size + 1, 0, none⟩ (.int .i64 t.st)).setCell ⟨w.heap.size + 1, 1, none⟩ (.int .i64 0)).setCell ⟨w.heap.size + 1, 2, none⟩ (.slice A t.ps.length c)).setCell ⟨w.heap.size + 1, 3, none⟩ (.slice A3 vs.length c3)).setCell ⟨w.heap.size + 1, 4, none⟩ (.slice rA rs4.length rc)) := ((((((Kept.refl (fun g => g = w.heap.size + 1) wo).setCell (p := ⟨w.heap.size + 1, 0, none⟩) (Or.inl rfl) _).setCell (p := ⟨w.heap.size + 1, 1, none⟩) (Or.inl rfl) _).setCell (p := ⟨w.heap.size + 1, 2, none⟩) (Or.inl rfl) _).setCell (p := ⟨w.heap.size + 1, 3, none⟩) (Or.inl rfl) _).setCell (p := ⟨w.heap.size + 1, 4, none⟩) (Or.inl rfl) _)
     have hov := OwnV.kept HTB.out.vr hk (fun g g1 g2 => by subst g2; have := (own_lt' HTB.out.vr.1 g1).2; have := HWL2.out; omega) (fun x hx g g1 g2 => by subst g2; have := (own_lt' (HTB.out.vr.2 x hx) g1).2; have := HWL2.out; omega)
     have hor := OwnR.kept HTB.out.rr hk (fun g g1 g2 => by subst g2; have := (own_lt' HTB.out.rr.1 g1).2; have := HWL2.out; omega) (fun x hx g g1 g2 => by subst g2; have := (own_lt' (HTB.out.rr.2 x hx) g1).2; have := HWL2.out; omega)
     have hbe : Below w.heap.size w (((((wo.setCell ⟨w.heap.size + 1, 0, none⟩ (.int .i64 t.st)).setCell ⟨w.heap.size + 1, 1, none⟩ (.int .i64 0)).setCell ⟨w.heap.size + 1, 2, none⟩ (.slice A t.ps.length c)).setCell ⟨w.heap.size + 1, 3, none⟩ (.slice A3 vs.length c3)).setCell ⟨w.heap.size + 1, 4, none⟩ (.slice rA rs4.length rc)) := ((((((HBD.out.trans (HBR.out.mono (Nat.le_of_lt (Nat.lt_of_succ_lt HWL2.out)))).setCell (p := ⟨w.heap.size + 1, 0, none⟩) (by simp) _).setCell (p := ⟨w.heap.size + 1, 1, none⟩) (by simp) _).setCell (p := ⟨w.heap.size + 1, 2, none⟩) (by simp) _).setCell (p := ⟨w.heap.size + 1, 3, none⟩) (by simp) _).setCell (p := ⟨w.heap.size + 1, 4, none⟩) (by simp) _)
     obtain ⟨A5, c5, e5, hv5, -⟩ := hov.vrs
     obtain ⟨A6, c6, e6, hr6, -⟩ := hor.rws
     injection e5 with e5 _ e5'
     injection e6 with e6 _ e6'
     subst e5 e6 e5' e6'
     rw [HE.out]
     exact bodyPost_ret (results_ct Tryd.results9 _ _ (w.heap.size + 1) 31 #[.int .i64 t.st, .int .i64 0, .slice A t.ps.length c, .slice A3 vs.length c3, .slice rA rs4.length rc] (0, 0) _ rfl hq Tryd.underlying31 rfl Tryd.sizeTable) rfl
      ⟨A, c, A3, c3, rA, rc, ⟨t.st, 0, t.ps, vs, rs4⟩, rfl, ⟨HPT.out.ext hbe, hv5, hr6⟩, by show TabL.mk t.st 0 t.ps (vs.map Vh.zs) (rs4.map Rh.rw_) = _; rw [HVS.out.1, HT4.out.1], hbe⟩
end Go.Proofs.YtlegfdllipkggaaDoor
namespace Go.Proofs.YtlegfdllipkggaaDoor
set_option linter.unusedSimpArgs false
set_option linter.unusedVariables false
open Go.RowKit
set_option maxRecDepth 100000

set_option maxHeartbeats 400000 in
theorem sameIntsR (A B : Option Addr) (xs ys : List Int) (c d : Nat) (w : World) (ha : Ints w A xs) (hb : Ints w B ys) :
  Calls Tryd.prog 30 #[.slice A xs.length c, .slice B ys.length d] w fun e w' => e = .returned (.bool (decide (xs = ys))) ∧ Qt w w' := by
 have hn := ha.le
 have hm := hb.le
 by_cases hl : xs.length = ys.length
 ·have hd : ((xs.length : Int) != ys.length) = false := by simp [hl]
  have HL := Lib.hid hl
  clear hl
  go_enter Tryd.func30, Tryd.ntmps30
  go_wp2
  go_loopw [5] (fun i wr => ∃ k q : Nat, k ≤ xs.length ∧ i = .int .i64 k ∧ wr = w.drewN q ∧ Hid (xs.take k = ys.take k)) (fun i _ => xs.length - (intOf i).toNat)
  case atStart => exact ⟨0, 0, Nat.zero_le _, rfl, rfl, Lib.hid rfl⟩
  case round =>
   obtain ⟨k, q, hk, rfl, rfl, HT⟩ := hrel
   by_cases hlt : k < xs.length
   ·have hlt2 : k < ys.length := by have := HL.out; omega
    obtain ⟨b1, o1, rfl, -, hc⟩ := ha.at_ hlt
    obtain ⟨b2, o2, rfl, -, hc2⟩ := hb.at_ hlt2
    go_wp2
    go_quiet (fail)
    go_wp2
    ·have hne : ¬ xs[k] = ys[k] := by simpa using ‹(xs[k] != ys[k]) = true›
     go_ret
     refine ⟨ret_bool (decide_eq_false ?_).symm, (Qt.drewN _ _).step _⟩
     rintro rfl
     exact hne rfl
    ·have he : xs[k] = ys[k] := by simpa using ‹(xs[k] != ys[k]) = false›
     go_roundw
     case rel => exact ⟨k + 1, _, by omega, by go_num, rfl, Lib.hid (take_eq_snoc HT.out hlt hlt2 he)⟩
     case measure => simp [intOf]; omega
   ·have hk' : k = xs.length := by omega
    have hfin : xs = ys := by
     have := HT.out
     rwa [hk', List.take_of_length_le (Nat.le_refl _), List.take_of_length_le (by rw [HL.out]; exact Nat.le_refl _)] at this
    clear hk'
    have HF := Lib.hid hfin
    clear hfin
    go_wp2
    go_ret
    exact ⟨ret_bool (decide_eq_true HF.out).symm, Qt.drewN _ _⟩
 ·have hd : ((xs.length : Int) != ys.length) = true := by simp; omega
  have hf : ¬ xs = ys := by
   rintro rfl
   exact hl rfl
  have HF := Lib.hid hf
  clear hl hf
  go_enter Tryd.func30, Tryd.ntmps30
  go_wp2
  go_ret
  exact ⟨ret_bool (decide_eq_false HF.out).symm, Qt.refl _⟩
set_option maxHeartbeats 400000 in
theorem samePtsR (A B : Option Addr) (xs ys : List (Int × Int)) (c d : Nat) (w : World) (ha : Pts w A xs) (hb : Pts w B ys) :
  Calls Tryd.prog 29 #[.slice A xs.length c, .slice B ys.length d] w fun e w' => e = .returned (.bool (decide (xs = ys))) ∧ Qt w w' := by
 have hn := ha.le
 have hm := hb.le
 by_cases hl : xs.length = ys.length
 ·have hd : ((xs.length : Int) != ys.length) = false := by simp [hl]
  have HL := Lib.hid hl
  clear hl
  go_enter Tryd.func29, Tryd.ntmps29
  go_wp2
  go_loopw [5] (fun i wr => ∃ k q : Nat, k ≤ xs.length ∧ i = .int .i64 k ∧ wr = w.drewN q ∧ Hid (xs.take k = ys.take k)) (fun i _ => xs.length - (intOf i).toNat)
  case atStart => exact ⟨0, 0, Nat.zero_le _, rfl, rfl, Lib.hid rfl⟩
  case round =>
   obtain ⟨k, q, hk, rfl, rfl, HT⟩ := hrel
   by_cases hlt : k < xs.length
   ·have hlt2 : k < ys.length := by have := HL.out; omega
    obtain ⟨b1, o1, rfl, -, hc, hc'⟩ := ha.at_ hlt
    obtain ⟨b2, o2, rfl, -, hc2, hc2'⟩ := hb.at_ hlt2
    go_wp2
    have hst := Tryd.stood_pt
    have heg := Tryd.guard_pt
    have hnq := neq_pt
    go_quiet (fail)
    go_wp2
    ·have hne : ¬ xs[k] = ys[k] := ptNe_true ‹_›
     go_ret
     refine ⟨ret_bool (decide_eq_false ?_).symm, (Qt.drewN _ _).step _⟩
     rintro rfl
     exact hne rfl
    ·have he : xs[k] = ys[k] := ptNe_false ‹_›
     go_roundw
     case rel => exact ⟨k + 1, _, by omega, by go_num, rfl, Lib.hid (take_eq_snoc HT.out hlt hlt2 he)⟩
     case measure => simp [intOf]; omega
   ·have hk' : k = xs.length := by omega
    have hfin : xs = ys := by
     have := HT.out
     rwa [hk', List.take_of_length_le (Nat.le_refl _), List.take_of_length_le (by rw [HL.out]; exact Nat.le_refl _)] at this
    clear hk'
    have HF := Lib.hid hfin
    clear hfin
    go_wp2
    go_ret
    exact ⟨ret_bool (decide_eq_true HF.out).symm, Qt.drewN _ _⟩
 ·have hd : ((xs.length : Int) != ys.length) = true := by simp; omega
  have hf : ¬ xs = ys := by
   rintro rfl
   exact hl rfl
  have HF := Lib.hid hf
  clear hl hf
  go_enter Tryd.func29, Tryd.ntmps29
  go_wp2
  go_ret
  exact ⟨ret_bool (decide_eq_false HF.out).symm, Qt.refl _⟩
end Go.Proofs.YtlegfdllipkggaaDoor
namespace Go.Proofs.YtlegfdllipkggaaDoor
open Go.RowKit
set_option maxRecDepth 100000
set_option linter.unusedVariables false
set_option linter.unusedSimpArgs false
theorem vs_at {vs vs' : List Vh} (h : vs.map Vh.zs = vs'.map Vh.zs) {i : Nat} (h1 : i < vs.length) (h2 : i < vs'.length) : vs[i].zs = vs'[i].zs := by
 have := congrArg (fun l => l[i]?) h
 simp only [List.getElem?_map, List.getElem?_eq_getElem h1, List.getElem?_eq_getElem h2, Option.map_some, Option.some.injEq] at this
 exact this
theorem rs_at {rs rs' : List Rh} (h : rs.map Rh.rw_ = rs'.map Rh.rw_) {i : Nat} (h1 : i < rs.length) (h2 : i < rs'.length) : rs[i].zs = rs'[i].zs ∧ rs[i].out = rs'[i].out := by
 have := congrArg (fun l => l[i]?) h
 simp only [List.getElem?_map, List.getElem?_eq_getElem h1, List.getElem?_eq_getElem h2, Option.map_some, Option.some.injEq, Rh.rw_, Prod.mk.injEq] at this
 exact this

set_option maxHeartbeats 16000000 in
theorem same11_eq (x y : TabH) (hA vA rA : Option Addr) (hc vc rc : Nat) (hA' vA' rA' : Option Addr) (hc' vc' rc' : Nat) (w : World) (hx : TabR w hA vA rA x) (hy : TabR w hA' vA' rA' y) (he : x.tab = y.tab) :
  Calls Tryd.prog 10 #[tabV hA hc vA vc rA rc x, tabV hA' hc' vA' vc' rA' rc' y] w fun e w' => e = .returned (.bool true) ∧ Below w.heap.size w w' := by
 obtain ⟨st, sym, hood, vs, rs⟩ := x
 obtain ⟨st', sym', hood', vs', rs'⟩ := y
 unfold TabH.tab at he
 simp only [TabL.mk.injEq] at he
 obtain ⟨rfl, rfl, rfl, he1, he2⟩ := he
 have hl1 : vs'.length = vs.length := by have := congrArg List.length he1; rw [List.length_map, List.length_map] at this; exact this.symm
 have hl2 : rs'.length = rs.length := by have := congrArg List.length he2; rw [List.length_map, List.length_map] at this; exact this.symm
 unfold tabV
 dsimp only
 rw [hl1, hl2]
 obtain ⟨w0, hw0⟩ : ∃ w0, w0 = (w.alloc (.cells #[.int .i64 st, .int .i64 sym, .slice hA hood.length hc, .slice vA vs.length vc, .slice rA rs.length rc] 31)).alloc (.cells #[.int .i64 st, .int .i64 sym, .slice hA' hood.length hc', .slice vA' vs.length vc', .slice rA' rs.length rc'] 31) := ⟨_, rfl⟩
 have hb0 : Below w.heap.size w w0 := by rw [hw0]; exact (below_new _ _).alloc (by simp) _
 have p0 : Blk w0 w.heap.size 31 #[.int .i64 st, .int .i64 sym, .slice hA hood.length hc, .slice vA vs.length vc, .slice rA rs.length rc] := by rw [hw0]; exact (Blk.new w _ _).alloc _
 have q0 : Blk w0 (w.heap.size + 1) 31 #[.int .i64 st, .int .i64 sym, .slice hA' hood.length hc', .slice vA' vs.length vc', .slice rA' rs.length rc'] := by rw [hw0]; have := Blk.new (w.alloc (.cells #[.int .i64 st, .int .i64 sym, .slice hA hood.length hc, .slice vA vs.length vc, .slice rA rs.length rc] 31)) 31 #[.int .i64 st, .int .i64 sym, .slice hA' hood.length hc', .slice vA' vs.length vc', .slice rA' rs.length rc']; simpa using this
 have HX := Lib.hid (And.intro (hx.ext hb0) (hy.ext hb0))
 have HL := Lib.hid (And.intro hl1 (And.intro hl2 (And.intro he1 he2)))
 have hv9 : vs.length ≤ 9223372036854775807 := hx.vars.le
 have hr9 : rs.length ≤ 9223372036854775807 := hx.rows.le
 have HB := Lib.hid hb0
 have HW := Lib.hid hw0
 have HP := Lib.hid p0
 have HQ := Lib.hid q0
 have hcall := samePtsR hA hA' hood hood hc hc' w0 (hx.ext hb0).hood (hy.ext hb0).hood
 rw [decide_eq_true (rfl : hood = hood)] at hcall
 have HCALL := Lib.hid hcall
 have x0 := p0.cell_ 0 (.int .i64 st) rfl
 have y0 := q0.cell_ 0 (.int .i64 st) rfl
 have x1 := p0.cell_ 1 (.int .i64 sym) rfl
 have y1 := q0.cell_ 1 (.int .i64 sym) rfl
 have x2 := p0.cell_ 2 (.slice hA hood.length hc) rfl
 have y2 := q0.cell_ 2 (.slice hA' hood.length hc') rfl
 have x3 := p0.cell_ 3 (.slice vA vs.length vc) rfl
 have y3 := q0.cell_ 3 (.slice vA' vs.length vc') rfl
 have x4 := p0.cell_ 4 (.slice rA rs.length rc) rfl
 have y4 := q0.cell_ 4 (.slice rA' rs.length rc') rfl
 clear hb0 hw0 p0 q0 hx hy he1 he2 hl1 hl2 hcall
 go_enter Tryd.func10, Tryd.ntmps10
 go_upto_region 1 with fail
 rw [← HW.out]
 go_wp2_with (go_at_call 29; refine HCALL.out.mono ?_; rintro e w1 ⟨rfl, hq⟩; refine Hid.out ?_)
 refine Lib.hid ?_
 have HB1 : Hid (Below w0.heap.size w0 w1) := Lib.hid (hq.below _)
 clear hq HCALL x0 y0 x1 y1 x2 y2 x3 y3 x4 y4
 have HP1 := Lib.hid (HP.out.below HB1.out HP.out.lt)
 have HQ1 := Lib.hid (HQ.out.below HB1.out HQ.out.lt)
 have x0 := HP1.out.cell_ 0 (.int .i64 st) rfl
 have y0 := HQ1.out.cell_ 0 (.int .i64 st) rfl
 have x1 := HP1.out.cell_ 1 (.int .i64 sym) rfl
 have y1 := HQ1.out.cell_ 1 (.int .i64 sym) rfl
 have x2 := HP1.out.cell_ 2 (.slice hA hood.length hc) rfl
 have y2 := HQ1.out.cell_ 2 (.slice hA' hood.length hc') rfl
 have x3 := HP1.out.cell_ 3 (.slice vA vs.length vc) rfl
 have y3 := HQ1.out.cell_ 3 (.slice vA' vs.length vc') rfl
 have x4 := HP1.out.cell_ 4 (.slice rA rs.length rc) rfl
 have y4 := HQ1.out.cell_ 4 (.slice rA' rs.length rc') rfl
 go_wp2
 clear x0 y0 x1 y1 x2 y2 x3 y3 x4 y4
 go_loopw [5] (fun iv wr => ∃ i : Nat, i ≤ vs.length ∧ iv = .int .i64 i ∧ Hid (Below w0.heap.size w0 wr)) (fun iv _ => vs.length - (intOf iv).toNat)
 case atStart => exact ⟨0, Nat.zero_le _, rfl, HB1⟩
 case round =>
  obtain ⟨i, hi, rfl, HBI⟩ := hrel
  have HPI := Lib.hid (HP.out.below HBI.out HP.out.lt)
  have x3 := HPI.out.cell_ 3 (.slice vA vs.length vc) rfl
  by_cases hil : i < vs.length
  ·have hil' : i < vs'.length := by rw [HL.out.1]; exact hil
   have hwi : wrap64 ((i : Int) + 1) = (i : Int) + 1 := by unfold wrap64; omega
   have HQI := Lib.hid (HQ.out.below HBI.out HQ.out.lt)
   have hvx := HX.out.1.vars.ext HBI.out
   have hvy := HX.out.2.vars.ext HBI.out
   obtain ⟨vb, vo, ea, hlta, hca, hia⟩ := hvx.at_ hil
   obtain ⟨vb', vo', eb, hltb, hcb, hib⟩ := hvy.at_ hil'
   have hz := vs_at HL.out.2.2.1 hil hil'
   obtain ⟨xh, hxh⟩ : ∃ z, z = vs[i] := ⟨_, rfl⟩
   obtain ⟨yh, hyh⟩ : ∃ z, z = vs'[i] := ⟨_, rfl⟩
   rw [← hxh] at hca hia hz
   rw [← hyh] at hcb hib hz
   obtain ⟨xA, xc, zs⟩ := xh
   obtain ⟨yA, yc, zs'⟩ := yh
   obtain rfl : zs = zs' := hz
   dsimp only at hca hia hcb hib hvx hvy
   have HI := Lib.hid hil
   have HWI := Lib.hid hwi
   have HSM : Hid (∀ m, Calls Tryd.prog 30 #[.slice xA zs.length xc, .slice yA zs.length yc] (wr.drewN m) fun e w' => e = .returned (.bool true) ∧ ∃ k, w' = (wr.drewN m).drewN k) := Lib.hid (fun m => (sameIntsR xA yA zs zs xc yc (wr.drewN m) (hia.drewN m) (hib.drewN m)).mono fun e w' h => ⟨by rw [h.1, decide_eq_true (rfl : zs = zs)], h.2⟩)
   have HE := Lib.hid (And.intro ea eb)
   subst ea eb
   clear hxh hyh hvx hvy hia hib hlta hltb HE hi hwi
   go_upto_region 6 with fail
   have x3 := HPI.out.cell_ 3 (.slice (some ⟨vb, vo, none⟩) vs.length vc) rfl
   have y3 := HQI.out.cell_ 3 (.slice (some ⟨vb', vo', none⟩) vs.length vc') rfl
   go_quiet ((go_at_call 30; exact Calls.quiet_of (HSM.out _)))
   obtain ⟨w6, hw6⟩ : ∃ w6 : World, w6 = wr.drewN nq := ⟨_, rfl⟩
   rw [← hw6]
   have HB6 : Hid (Below w0.heap.size w0 w6) := Lib.hid (by rw [hw6]; exact below_drewN HBI.out nq)
   clear hw6 x3 y3
   go_wp2
   go_roundw
   case rel => exact ⟨i + 1, HI.out, (by first | rfl | (rw [HWI.out]; rfl)), HB6⟩
   case measure => (try rw [HWI.out]); exact meas_step HI.out
  ·obtain rfl : i = vs.length := Nat.le_antisymm hi (Nat.le_of_not_lt hil)
   clear hi hil
   go_wp2
   clear x3
   go_loopw [6] (fun iv wr => ∃ i : Nat, i ≤ rs.length ∧ iv = .int .i64 i ∧ Hid (Below w0.heap.size w0 wr)) (fun iv _ => rs.length - (intOf iv).toNat)
   case atStart => exact ⟨0, Nat.zero_le _, rfl, HBI⟩
   case round =>
    clear HBI HPI
    obtain ⟨i, hi, rfl, HBI⟩ := hrel
    have HPI := Lib.hid (HP.out.below HBI.out HP.out.lt)
    have x4 := HPI.out.cell_ 4 (.slice rA rs.length rc) rfl
    by_cases hil : i < rs.length
    ·have hil' : i < rs'.length := by rw [HL.out.2.1]; exact hil
     have hwi : wrap64 ((i : Int) + 1) = (i : Int) + 1 := by unfold wrap64; omega
     have HQI := Lib.hid (HQ.out.below HBI.out HQ.out.lt)
     have hvx := HX.out.1.rows.ext HBI.out
     have hvy := HX.out.2.rows.ext HBI.out
     obtain ⟨rb, ro, ea, hlta, hca, hda, hia⟩ := hvx.at_ hil
     obtain ⟨rb', ro', eb, hltb, hcb, hdb, hib⟩ := hvy.at_ hil'
     have hz := rs_at HL.out.2.2.2 hil hil'
     obtain ⟨xh, hxh⟩ : ∃ z, z = rs[i] := ⟨_, rfl⟩
     obtain ⟨yh, hyh⟩ : ∃ z, z = rs'[i] := ⟨_, rfl⟩
     rw [← hxh] at hca hda hia hz
     rw [← hyh] at hcb hdb hib hz
     obtain ⟨xA, xc, zs, out⟩ := xh
     obtain ⟨yA, yc, zs', out'⟩ := yh
     obtain ⟨hz1, hz2⟩ := hz
     obtain rfl : zs = zs' := hz1
     obtain rfl : out = out' := hz2
     dsimp only at hca hia hcb hib hda hdb hvx hvy
     have HI := Lib.hid hil
     have HWI := Lib.hid hwi
     have HSM : Hid (∀ m, Calls Tryd.prog 30 #[.slice xA zs.length xc, .slice yA zs.length yc] (wr.drewN m) fun e w' => e = .returned (.bool true) ∧ ∃ k, w' = (wr.drewN m).drewN k) := Lib.hid (fun m => (sameIntsR xA yA zs zs xc yc (wr.drewN m) (hia.drewN m) (hib.drewN m)).mono fun e w' h => ⟨by rw [h.1, decide_eq_true (rfl : zs = zs)], h.2⟩)
     have HE := Lib.hid (And.intro ea eb)
     subst ea eb
     clear hxh hyh hvx hvy hia hib hlta hltb HE hi hwi
     go_upto_region 11 with fail
     have x4 := HPI.out.cell_ 4 (.slice (some ⟨rb, ro, none⟩) rs.length rc) rfl
     have y4 := HQI.out.cell_ 4 (.slice (some ⟨rb', ro', none⟩) rs.length rc') rfl
     go_quiet ((go_at_call 30; exact Calls.quiet_of (HSM.out _)))
     obtain ⟨w6, hw6⟩ : ∃ w6 : World, w6 = wr.drewN nq := ⟨_, rfl⟩
     rw [← hw6]
     have HB6 : Hid (Below w0.heap.size w0 w6) := Lib.hid (by rw [hw6]; exact below_drewN HBI.out nq)
     clear hw6 x4 y4
     go_wp2
     go_roundw
     case rel => exact ⟨i + 1, HI.out, (by first | rfl | (rw [HWI.out]; rfl)), HB6⟩
     case measure => (try rw [HWI.out]); exact meas_step HI.out
    ·obtain rfl : i = rs.length := Nat.le_antisymm hi (Nat.le_of_not_lt hil)
     clear hi hil
     go_wp2
     go_ret
     exact ⟨rfl, HB.out.trans (HBI.out.mono HB.out.size)⟩
end Go.Proofs.YtlegfdllipkggaaDoor
namespace Go.Proofs.YtlegfdllipkggaaDoor
open Go.RowKit
set_option maxRecDepth 100000
set_option linter.unusedVariables false
set_option linter.unusedSimpArgs false

theorem Tryd.sizePoint : (Tryd.prog.info? 67).map (·.size) = some 2 := by kernel_rfl
def matL : List Int := [1, 0, 0, 1, 0, -1, 1, 0, -1, 0, 0, -1, 0, 1, -1, 0, -1, 0, 0, 1, 0, -1, -1, 0, 1, 0, 0, -1, 0, 1, 1, 0]
/-- the matrices lie in the first block -/
def GMat (w : World) : Prop := 0 < w.heap.size ∧ ∀ i, i < 32 → w.cell? ⟨0, i, none⟩ = some (.int .i64 (matL.getD i 0))
theorem GMat.ext {w w' : World} (h : GMat w) (hb : Below w.heap.size w w') : GMat w' := ⟨Nat.lt_of_lt_of_le h.1 hb.size, fun i hi => (hb.cell (p := ⟨0, i, none⟩) h.1).trans (h.2 i hi)⟩
theorem GMat.below {w w' : World} {B : Nat} (h : GMat w) (hB : 0 < B) (hb : Below B w w') : GMat w' := ⟨Nat.lt_of_lt_of_le h.1 hb.size, fun i hi => (hb.cell (p := ⟨0, i, none⟩) hB).trans (h.2 i hi)⟩
/-- the symmetry's number -/
def symJ (k : Int) : Nat := (k % 8).toNat
theorem symJ_lt (k : Int) : symJ k < 8 := by unfold symJ; omega
def symP (k : Int) (p : Int × Int) : Int × Int := (matL.getD (symJ k * 4) 0 * p.1 + matL.getD (symJ k * 4 + 1) 0 * p.2, matL.getD (symJ k * 4 + 2) 0 * p.1 + matL.getD (symJ k * 4 + 3) 0 * p.2)
theorem and_seven (k : Int) : bits .and .i64 k 7 = ((symJ k : Nat) : Int) := by
 show IntKind.i64.wrap ((BitVec.ofInt 64 k &&& BitVec.ofInt 64 7).toNat : Int) = _
 have h7 : (BitVec.ofInt 64 (7 : Int)).toNat = 2 ^ 3 - 1 := by decide
 rw [BitVec.toNat_and, h7, Nat.and_two_pow_sub_one_eq_mod, BitVec.toNat_ofInt]
 have hj := symJ_lt k
 have e : (k % (((2 : Nat) ^ 64 : Nat) : Int)).toNat % 2 ^ 3 = symJ k := by
  unfold symJ
  omega
 rw [e]
 exact IntWalk.i64_in _ (by omega)
theorem mat_cases {j : Nat} (h : j < 32) : matL.getD j 0 = 0 ∨ matL.getD j 0 = 1 ∨ matL.getD j 0 = -1 := by
 have : ∀ j : Fin 32, matL.getD j.1 0 = 0 ∨ matL.getD j.1 0 = 1 ∨ matL.getD j.1 0 = -1 := by decide
 exact this ⟨j, h⟩
theorem mul_in {a x : Int} (h : a = 0 ∨ a = 1 ∨ a = -1) (hx : -4611686018427387904 < x ∧ x < 4611686018427387904) : -4611686018427387904 < a * x ∧ a * x < 4611686018427387904 := by
 rcases h with h | h | h <;> subst h <;> omega
set_option maxHeartbeats 4000000 in
theorem apply_any (k x y : Int) (w : World) (hg : GMat w) (hx : -4611686018427387904 < x ∧ x < 4611686018427387904) (hy : -4611686018427387904 < y ∧ y < 4611686018427387904) :
  Calls Tryd.prog 84 #[.int .i64 k, .agg #[.int .i64 x, .int .i64 y]] w fun e w' => e = .returned (.agg #[.int .i64 (symP k (x, y)).1, .int .i64 (symP k (x, y)).2]) ∧ Below w.heap.size w w' := by
 have hj := symJ_lt k
 obtain ⟨j, hje⟩ : ∃ j, j = symJ k := ⟨_, rfl⟩
 have hand := and_seven k
 have hsp : symP k (x, y) = (matL.getD (j * 4) 0 * x + matL.getD (j * 4 + 1) 0 * y, matL.getD (j * 4 + 2) 0 * x + matL.getD (j * 4 + 3) 0 * y) := by rw [hje]; rfl
 rw [← hje] at hj hand
 rw [hsp]
 have g0 := hg.2 (j * 4) (by omega)
 have g1 := hg.2 (j * 4 + 1) (by omega)
 have g2 := hg.2 (j * 4 + 2) (by omega)
 have g3 := hg.2 (j * 4 + 3) (by omega)
 have m0 := mat_cases (j := j * 4) (by omega)
 have m1 := mat_cases (j := j * 4 + 1) (by omega)
 have m2 := mat_cases (j := j * 4 + 2) (by omega)
 have m3 := mat_cases (j := j * 4 + 3) (by omega)
 generalize matL.getD (j * 4) 0 = a at *
 generalize matL.getD (j * 4 + 1) 0 = b at *
 generalize matL.getD (j * 4 + 2) 0 = c at *
 generalize matL.getD (j * 4 + 3) 0 = d at *
 have i0 := mul_in m0 hx
 have i1 := mul_in m1 hy
 have i2 := mul_in m2 hx
 have i3 := mul_in m3 hy
 have w0' : wrap64 (a * x) = a * x := by generalize a * x = t at *; unfold wrap64; omega
 have w1' : wrap64 (b * y) = b * y := by generalize b * y = t at *; unfold wrap64; omega
 have w2' : wrap64 (c * x) = c * x := by generalize c * x = t at *; unfold wrap64; omega
 have w3' : wrap64 (d * y) = d * y := by generalize d * y = t at *; unfold wrap64; omega
 have w4' : wrap64 (a * x + b * y) = a * x + b * y := by generalize a * x = t at *; generalize b * y = u at *; unfold wrap64; omega
 have w5' : wrap64 (c * x + d * y) = c * x + d * y := by generalize c * x = t at *; generalize d * y = u at *; unfold wrap64; omega
 obtain ⟨v1, hv1⟩ : ∃ v1, v1 = w.alloc (.cells #[.int .i64 x, .int .i64 y] 67) := ⟨_, rfl⟩
 obtain ⟨v2, hv2⟩ : ∃ v2, v2 = v1.alloc (.cells #[.int .i64 0, .int .i64 0] 67) := ⟨_, rfl⟩
 have b1 : Below w.heap.size w v1 := by rw [hv1]; exact below_new _ _
 have b2 : Below v1.heap.size v1 v2 := by rw [hv2]; exact below_new _ _
 have b12 : Below w.heap.size w v2 := b1.trans (b2.mono b1.size)
 have z1 : v1.heap.size = w.heap.size + 1 := by rw [hv1]; simp
 have p1 : Blk v2 w.heap.size 67 #[.int .i64 x, .int .i64 y] := by
  have : Blk v1 w.heap.size 67 #[.int .i64 x, .int .i64 y] := by rw [hv1]; exact Blk.new _ _ _
  exact this.below b2 this.lt
 have p2 : Blk v2 (w.heap.size + 1) 67 #[.int .i64 0, .int .i64 0] := by rw [← z1, hv2]; exact Blk.new _ _ _
 rw [hv1] at hv2
 have h0 := (b12.cell (p := ⟨0, j * 4, none⟩) hg.1).trans g0
 have h1 := (b12.cell (p := ⟨0, j * 4 + 1, none⟩) hg.1).trans g1
 have h2 := (b12.cell (p := ⟨0, j * 4 + 2, none⟩) hg.1).trans g2
 have h3 := (b12.cell (p := ⟨0, j * 4 + 3, none⟩) hg.1).trans g3
 have HV := Lib.hid hv2
 have HB := Lib.hid b12
 have HP1 := Lib.hid p1
 have HP2 := Lib.hid p2
 clear hv1 hv2 b1 b2 b12 z1 p1 p2 g0 g1 g2 g3 m0 m1 m2 m3 i0 i1 i2 i3 hx hy hje hsp hg
 go_enter Tryd.func84, Tryd.ntmps84
 go_upto_region 1 with fail
 rw [← HV.out]
 go_upto_region 2 with fail
 obtain ⟨v3, hv3⟩ : ∃ v3, v3 = v2.alloc (.cells #[.int .i64 a, .int .i64 b, .int .i64 c, .int .i64 d] 122) := ⟨_, rfl⟩
 have b3 : Below v2.heap.size v2 v3 := by rw [hv3]; exact below_new _ _
 have p3 : Blk v3 v2.heap.size 122 #[.int .i64 a, .int .i64 b, .int .i64 c, .int .i64 d] := by rw [hv3]; exact Blk.new _ _ _
 have q1 := HP1.out.below b3 HP1.out.lt
 have q2 := HP2.out.below b3 HP2.out.lt
 have x0 := p3.cell_ 0 (.int .i64 a) rfl
 have x1 := p3.cell_ 1 (.int .i64 b) rfl
 have x2 := p3.cell_ 2 (.int .i64 c) rfl
 have x3 := p3.cell_ 3 (.int .i64 d) rfl
 have y0 := q1.cell_ 0 (.int .i64 x) rfl
 have y1 := q1.cell_ 1 (.int .i64 y) rfl
 have r0 := q2.cell_ 0 (.int .i64 0) rfl
 have r1 := q2.cell_ 1 (.int .i64 0) rfl
 have f0 := q2.frozen 0
 have f1 := q2.frozen 1
 have HQ2 := Lib.hid q2
 have HB3 : Hid (Below w.heap.size w v3) := Lib.hid (HB.out.trans (b3.mono HB.out.size))
 obtain ⟨g3, hg3⟩ : ∃ g3, g3 = v2.heap.size := ⟨_, rfl⟩
 rw [← hv3, ← hg3]
 rw [← hg3] at x0 x1 x2 x3
 clear hv3 b3 p3 q1 q2 h0 h1 h2 h3 hg3
 go_wp2
 have hq : Blk ((v3.setCell ⟨w.heap.size + 1, 0, none⟩ (.int .i64 (a * x + b * y))).setCell ⟨w.heap.size + 1, 1, none⟩ (.int .i64 (c * x + d * y))) (w.heap.size + 1) 67 #[.int .i64 (a * x + b * y), .int .i64 (c * x + d * y)] := (HQ2.out.set_ 0 (.int .i64 (a * x + b * y))).set_ 1 (.int .i64 (c * x + d * y))
 exact bodyPost_ret (results_cell_row Tryd.results84 _ _ (w.heap.size + 1) 67 #[.int .i64 (a * x + b * y), .int .i64 (c * x + d * y)] (0, 0) _ rfl hq Tryd.underlying67 rfl Tryd.sizePoint) rfl
  ⟨rfl, (HB3.out.setCell (p := ⟨w.heap.size + 1, 0, none⟩) (Nat.le_succ _) _).setCell (p := ⟨w.heap.size + 1, 1, none⟩) (Nat.le_succ _) _⟩
end Go.Proofs.YtlegfdllipkggaaDoor
