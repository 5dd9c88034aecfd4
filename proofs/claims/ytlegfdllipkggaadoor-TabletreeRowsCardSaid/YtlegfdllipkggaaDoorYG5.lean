/-
  texts Right Eq EqP Cl Red SameT Equal Rsame: parts of the proof; conditions stand with each theorem.
-/
import Derived.Test.YtlegfdllipkggaaDoorYG4
import Derived.Test.YtlegfdllipkggaaDoorYG3
import Derived.Test.YtlegfdllipkggaaDoorRows
import Derived.Test.YtlegfdllipkggaaDoorYG0
import Derived.Test.YtlegfdllipkggaaDoorYRbt
namespace Go.Proofs.YtlegfdllipkggaaDoor
open Go.RowKit
set_option maxRecDepth 100000
set_option linter.unusedVariables false
set_option linter.unusedSimpArgs false

theorem ndl_at (hs : List Hd) {k : Nat} (hk : k < hs.length) : ndAt (hs.map Hd.nd) k = hs[k].nd := by
 unfold ndAt; rw [List.getD_eq_getElem?_getD, List.getElem?_map, List.getElem?_eq_getElem hk]; rfl
def kidB (st lv : Int) (ns : List Nd) (i : Nat) (z : Int) : Bool := decide (0 ≤ z) && (!(lv == 1) || decide (z < st)) && (!decide (1 < lv) || (decide (z < (i : Int)) && ((ndAt ns z.toNat).1 == lv - 1)))
def nodeB (st : Int) (L : Nat) (ns : List Nd) (i : Nat) : Bool := decide (1 ≤ (ndAt ns i).1) && decide ((ndAt ns i).1 ≤ (L : Int)) && decide (((ndAt ns i).2.length : Int) = st) && (ndAt ns i).2.all (kidB st (ndAt ns i).1 ns i)
def allF (f : Nat → Bool) : Nat → Nat → Bool
 | 0, _ => true
 | m + 1, k => f k && allF f m (k + 1)
theorem allF_at {f : Nat → Bool} {n k : Nat} (h : k < n) : allF f (n - k) k = (f k && allF f (n - (k + 1)) (k + 1)) := by
 obtain ⟨m, hm⟩ : ∃ m, n - k = m + 1 := ⟨n - k - 1, by omega⟩
 rw [hm, show n - (k + 1) = m by omega]; rfl
theorem allF_all {f : Nat → Bool} : ∀ (m k : Nat), allF f m k = true → ∀ i, k ≤ i → i < k + m → f i = true
 | 0, k, _, i, h1, h2 => by omega
 | m + 1, k, h, i, h1, h2 => by
  simp only [allF, Bool.and_eq_true] at h; rcases Nat.eq_or_lt_of_le h1 with rfl | h3
  ·exact h.1
  ·exact allF_all m (k + 1) h.2 i (by omega) (by omega)
def headB (st : Int) (ps : List (Int × Int)) (ns : List Nd) : Bool := decide (2 ≤ st) && decide (st ≤ 8) && hoodB ps && decide (1 ≤ ns.length) && decide (ns.length ≤ 4096) && decide ((ndAt ns (ns.length - 1)).1 = (ps.length : Int))
def rightN (st : Int) (ps : List (Int × Int)) (ns : List Nd) : Bool := headB st ps ns && allF (nodeB st ps.length ns) ns.length 0
theorem all_drop {p : Int → Bool} {zs : List Int} {m : Nat} (h : m < zs.length) : (zs.drop m).all p = (p zs[m] && (zs.drop (m + 1)).all p) := by
 rw [List.drop_eq_getElem_cons h, List.all_cons]
theorem rightN_parts {st : Int} {ps : List (Int × Int)} {ns : List Nd} (h : rightN st ps ns = true) : 2 ≤ st ∧ st ≤ 8 ∧ hoodB ps = true ∧ 1 ≤ ns.length ∧ ns.length ≤ 4096 ∧ (ndAt ns (ns.length - 1)).1 = (ps.length : Int) ∧ ps.length ≤ 25 ∧ VNd st.toNat ns ∧ ∀ i, i < ns.length → (ndAt ns i).1 ≤ (ps.length : Int) := by
 unfold rightN headB at h; simp only [Bool.and_eq_true, decide_eq_true_eq] at h; obtain ⟨⟨⟨⟨⟨⟨a1, a2⟩, a3⟩, a4⟩, a5⟩, a6⟩, a7⟩ := h; have hp : ps.length ≤ 25 := by
  unfold hoodB at a3; simp only [Bool.and_eq_true, decide_eq_true_eq] at a3; exact a3.1.2
 have hn := allF_all _ _ a7; have hnode : ∀ i, i < ns.length → 1 ≤ (ndAt ns i).1 ∧ (ndAt ns i).1 ≤ (ps.length : Int) ∧ ((ndAt ns i).2.length : Int) = st ∧ ∀ z ∈ (ndAt ns i).2, kidB st (ndAt ns i).1 ns i z = true := by
  intro i hi; have := hn i (Nat.zero_le _) (by omega); unfold nodeB at this; simp only [Bool.and_eq_true, decide_eq_true_eq, List.all_eq_true] at this; exact ⟨this.1.1.1, this.1.1.2, this.1.2, this.2⟩
 refine ⟨a1, a2, a3, a4, a5, a6, hp, ⟨⟨fun i hi => hi, fun i hi => ?_, fun i hi => (hnode i hi).1, fun i hi hl z hz => ?_⟩, fun i hi hl z hz => ?_, fun i hi hl z hz => ?_⟩, fun i hi => (hnode i hi).2.1⟩
 ·have := (hnode i hi).2.2.1; omega
 ·have h4 := (hnode i hi).2.2.2 z hz; unfold kidB at h4; simp [hl] at h4; refine ⟨h4.1.1, by omega, by omega⟩
 ·have h4 := (hnode i hi).2.2.2 z hz; unfold kidB at h4; simp [hl] at h4; omega
 ·have h4 := (hnode i hi).2.2.2 z hz; unfold kidB at h4; simp [hl] at h4; omega
set_option maxHeartbeats 16000000 in
theorem right_any (st : Int) (A : Option Addr) (c : Nat) (ps : List (Int × Int)) (B : Option Addr) (d : Nat) (hs : List Hd) (w : World) (hp : Pts w A ps) (hN : Nds w B hs) :
  Calls Tryd.prog 23 #[.agg #[.int .i64 st, .slice A ps.length c, .slice B hs.length d]] w fun e w' => e = .returned (.bool (rightN st ps (hs.map Hd.nd))) ∧ Below w.heap.size w w' := by
 have hn := hN.le; have hpl := hp.le; obtain ⟨w0, hw0⟩ : ∃ w0, w0 = w.alloc (.cells #[.int .i64 st, .slice A ps.length c, .slice B hs.length d] 25) := ⟨_, rfl⟩
 have hb0 := below_new w (.cells #[.int .i64 st, .slice A ps.length c, .slice B hs.length d] 25); have p0 := Blk.new w 25 #[.int .i64 st, .slice A ps.length c, .slice B hs.length d]; rw [← hw0] at hb0 p0; have P0 := cell_regrown (p0.cell_ 0 (.int .i64 st) rfl); have P1 := cell_regrown (p0.cell_ 1 (.slice A ps.length c) rfl); have P2 := cell_regrown (p0.cell_ 2 (.slice B hs.length d) rfl); have C2 := p0.cell_ 2 (.slice B hs.length d) rfl; have HB0 := Lib.hid hb0; have HP0 := Lib.hid p0; have HW0 := Lib.hid hw0; have HP := Lib.hid (hp.ext hb0); have HN := Lib.hid (hN.ext hb0); have cH := fun dd os => Calls.regrown_of (w := w0) (d := dd) (os := os) (hood_any A c ps _ ((hp.ext hb0).ext (below_regrown w0 dd os))); clear hb0 p0 hw0 hp hN; by_cases a1 : st < 2
 ·have e1 : decide (st < 2) = true := decide_eq_true a1; have HF : Hid (rightN st ps (hs.map Hd.nd) = false) := Lib.hid (by unfold rightN headB; rw [decide_eq_false (by omega : ¬ 2 ≤ st)]; rfl); clear cH C2; go_enter Tryd.func23, Tryd.ntmps23; go_upto_region 2 with fail
  rw [← HW0.out]; refine wp_region_quiet_below (by kernel_rfl) (by kernel_rfl) ?_; repeat (go_big_quiet_step (fail))
  refine wpQuiet_nil ?_; intro _ hw'; obtain ⟨⟨dq, osq⟩, hw''⟩ := hw'; subst hw''; go_wp2; go_ret; exact ⟨ret_bool (by rw [HF.out] <;> rfl), HB0.out.trans ((below_regrown w0 dq osq).mono HB0.out.size)⟩
 have f1 : decide (st < 2) = false := decide_eq_false a1; by_cases a2 : 8 < st
 ·have e2 : decide (8 < st) = true := decide_eq_true a2; have HF : Hid (rightN st ps (hs.map Hd.nd) = false) := Lib.hid (by unfold rightN headB; rw [decide_eq_false (by omega : ¬ st ≤ 8)]; simp); clear cH C2; go_enter Tryd.func23, Tryd.ntmps23; go_upto_region 2 with fail
  rw [← HW0.out]; refine wp_region_quiet_below (by kernel_rfl) (by kernel_rfl) ?_; repeat (go_big_quiet_step (fail))
  refine wpQuiet_nil ?_; intro _ hw'; obtain ⟨⟨dq, osq⟩, hw''⟩ := hw'; subst hw''; go_wp2; go_ret; exact ⟨ret_bool (by rw [HF.out] <;> rfl), HB0.out.trans ((below_regrown w0 dq osq).mono HB0.out.size)⟩
 have f2 : decide (8 < st) = false := decide_eq_false a2; cases hh : hoodB ps with
 | false =>
  rw [hh] at cH; have HF : Hid (rightN st ps (hs.map Hd.nd) = false) := Lib.hid (by unfold rightN headB; rw [hh]; simp); clear hh; have CH := Lib.hid cH; clear cH; clear C2; go_enter Tryd.func23, Tryd.ntmps23; go_upto_region 2 with fail
  rw [← HW0.out]; refine wp_region_quiet_below (by kernel_rfl) (by kernel_rfl) ?_; repeat (go_big_quiet_step (with_reducible exact CH.out _ _))
  refine wpQuiet_nil ?_; intro _ hw'; obtain ⟨⟨dq, osq⟩, hw''⟩ := hw'; subst hw''; go_wp2; go_ret; exact ⟨ret_bool (by rw [HF.out] <;> rfl), HB0.out.trans ((below_regrown w0 dq osq).mono HB0.out.size)⟩
 | true =>
  rw [hh] at cH; have HH := Lib.hid hh; clear hh; have CH := Lib.hid cH; clear cH; by_cases a3 : hs.length < 1
  ·have e3 : decide ((hs.length : Int) < 1) = true := decide_eq_true (by omega); have HF : Hid (rightN st ps (hs.map Hd.nd) = false) := Lib.hid (by unfold rightN headB; rw [List.length_map, decide_eq_false (by omega : ¬ 1 ≤ hs.length)]; simp); clear C2; go_enter Tryd.func23, Tryd.ntmps23; go_upto_region 2 with fail
   rw [← HW0.out]; refine wp_region_quiet_below (by kernel_rfl) (by kernel_rfl) ?_; repeat (go_big_quiet_step (with_reducible exact CH.out _ _))
   refine wpQuiet_nil ?_; intro _ hw'; obtain ⟨⟨dq, osq⟩, hw''⟩ := hw'; subst hw''; go_wp2; go_ret; exact ⟨ret_bool (by rw [HF.out] <;> rfl), HB0.out.trans ((below_regrown w0 dq osq).mono HB0.out.size)⟩
  have f3 : decide ((hs.length : Int) < 1) = false := decide_eq_false (by omega); by_cases a4 : 4096 < hs.length
  ·have e4 : decide ((4096 : Int) < (hs.length : Int)) = true := decide_eq_true (by omega); have HF : Hid (rightN st ps (hs.map Hd.nd) = false) := Lib.hid (by unfold rightN headB; rw [List.length_map, decide_eq_false (by omega : ¬ hs.length ≤ 4096)]; simp); clear C2; go_enter Tryd.func23, Tryd.ntmps23; go_upto_region 2 with fail
   rw [← HW0.out]; refine wp_region_quiet_below (by kernel_rfl) (by kernel_rfl) ?_; repeat (go_big_quiet_step (with_reducible exact CH.out _ _))
   refine wpQuiet_nil ?_; intro _ hw'; obtain ⟨⟨dq, osq⟩, hw''⟩ := hw'; subst hw''; go_wp2; go_ret; exact ⟨ret_bool (by rw [HF.out] <;> rfl), HB0.out.trans ((below_regrown w0 dq osq).mono HB0.out.size)⟩
  have f4 : decide ((4096 : Int) < (hs.length : Int)) = false := decide_eq_false (by omega); obtain ⟨n1, hn1⟩ : ∃ n1, hs.length = n1 + 1 := ⟨hs.length - 1, by omega⟩
  obtain ⟨nb, no, eB, hnb, hl0, -, -⟩ := HN.out.at_ (k := n1) (by omega); have hlast : (ndAt (hs.map Hd.nd) ((hs.map Hd.nd).length - 1)).1 = (hs[n1]'(by omega)).lv := by
   rw [List.length_map, show hs.length - 1 = n1 by omega, ndl_at hs (by omega)]; rfl
  obtain ⟨ll, hll⟩ : ∃ ll, ll = (hs[n1]'(by omega)).lv := ⟨_, rfl⟩
  rw [← hll] at hl0 hlast; have HLAST := Lib.hid hlast; have HLEN := Lib.hid (And.intro hn1 (show hs.length ≤ 4096 by omega)); have L0 := cell_regrown hl0; have hwn : wrap64 ((hs.length : Int) - 1) = (n1 : Int) := by unfold wrap64; omega
  have hidx : ((hs.length : Int) - 1) = (n1 : Int) := by omega
  have hnl : n1 < hs.length := by omega
  clear hlast hll hn1 hl0; subst eB; by_cases a5 : ll = (ps.length : Int)
  ·have f5 : (ll != (ps.length : Int)) = false := by simp [a5]
   have HHEAD : Hid (headB st ps (hs.map Hd.nd) = true) := Lib.hid (by unfold headB; rw [HH.out, HLAST.out, a5, List.length_map, decide_eq_true (by omega : 2 ≤ st), decide_eq_true (by omega : st ≤ 8), decide_eq_true (by omega : 1 ≤ hs.length), decide_eq_true (by omega : hs.length ≤ 4096)]; simp); have HA5 := Lib.hid a5; clear a5; go_enter Tryd.func23, Tryd.ntmps23; go_upto_region 2 with fail
   rw [← HW0.out]; refine wp_region_quiet_below (by kernel_rfl) (by kernel_rfl) ?_; repeat (go_big_quiet_step (with_reducible exact CH.out _ _))
   refine wpQuiet_nil ?_; intro _ hw'; obtain ⟨⟨dq, osq⟩, hw''⟩ := hw'; subst hw''; have HP25 : Hid (ps.length ≤ 25) := Lib.hid (by
    have h := HH.out; unfold hoodB at h; simp only [Bool.and_eq_true, decide_eq_true_eq] at h; exact h.1.2)
   generalize hwq : Sort.grow (redrawn w0 dq) osq = wq at *; have hbq : Below w0.heap.size w0 wq := by rw [← hwq]; exact below_regrown w0 dq osq
   have hpq := HP0.out.below hbq HP0.out.lt; have cq2 := hpq.cell_ 2 (.slice (some ⟨nb, no, none⟩) hs.length d) rfl; have HBQ := Lib.hid hbq; have HST := Lib.hid (show 2 ≤ st ∧ st ≤ 8 by omega); clear hwq hbq hpq P0 P1 P2 C2 CH L0 a1 a2 a3 a4 f1 f2 f3 f4 f5 hwn hidx hnl hpl hn; go_wp2; clear cq2; go_loopw [49] (fun i wr => ∃ k : Nat, k ≤ hs.length ∧ i = .int .i64 k ∧ Hid (Below w0.heap.size w0 wr) ∧ Hid (allF (nodeB st ps.length (hs.map Hd.nd)) hs.length 0 = allF (nodeB st ps.length (hs.map Hd.nd)) (hs.length - k) k)) (fun i _ => hs.length - (intOf i).toNat)
   case atStart => exact ⟨0, Nat.zero_le _, rfl, HBQ, Lib.hid rfl⟩
   case round =>
    obtain ⟨k, hk, rfl, HBW, HT⟩ := hrel; have hpw := HP0.out.below HBW.out HP0.out.lt; by_cases hlt : k < hs.length
    ·obtain ⟨nb', no', eB', -, hc0, hc1, hzI⟩ := (HN.out.ext HBW.out).at_ hlt; injection eB' with eB'
     injection eB' with eb1 eb2
     subst eb1 eb2; have hndk := ndl_at hs hlt; obtain ⟨x, hx⟩ : ∃ x, x = hs[k] := ⟨_, rfl⟩
     rw [← hx] at hc0 hc1 hzI hndk; obtain ⟨lv, zA, zc, zs⟩ := x; dsimp only at hc0 hc1 hzI; change ndAt (hs.map Hd.nd) k = (lv, zs) at hndk; have HND := Lib.hid hndk; have hw1 : wrap64 ((k : Int) + 1) = (k : Int) + 1 := by have := HLEN.out; unfold wrap64; omega
     have HLT := Lib.hid hlt; have HBN : Hid (nodeB st ps.length (hs.map Hd.nd) k = false → rightN st ps (hs.map Hd.nd) = false) := Lib.hid (fun h => by
      unfold rightN; rw [List.length_map, HT.out, allF_at HLT.out, h]
      simp)
     obtain ⟨wx, hwx⟩ : ∃ wx, wx = wr.alloc (.cells #[.int .i64 lv, .slice zA zs.length zc] 50) := ⟨_, rfl⟩
     have hbx := below_new wr (.cells #[.int .i64 lv, .slice zA zs.length zc] 50); have hG := Blk.new wr 50 #[.int .i64 lv, .slice zA zs.length zc]; rw [← hwx] at hbx hG; obtain ⟨gX, hgX⟩ : ∃ gX, gX = wr.heap.size := ⟨_, rfl⟩
     rw [← hgX] at hG; have cg0 := hG.cell_ 0 (.int .i64 lv) rfl; have cg1 := hG.cell_ 1 (.slice zA zs.length zc) rfl; have hpx := hpw.below hbx hpw.lt; have ct0 := hpx.cell_ 0 (.int .i64 st) rfl; have ct1 := hpx.cell_ 1 (.slice A ps.length c) rfl; have ct2 := hpx.cell_ 2 (.slice (some ⟨nb, no, none⟩) hs.length d) rfl; have HZI := Lib.hid (hzI.ext hbx); have HBX := Lib.hid hbx; have HBX2 : Hid (Below w.heap.size w wx) := Lib.hid ((HB0.out.trans (HBW.out.mono HB0.out.size)).trans (hbx.mono (by have := HB0.out.size; have := HBW.out.size; omega))); have HZL := Lib.hid hzI.le; clear hx hndk hzI hbx hG hpx hpw; go_upto_region 7 with fail
     rw [← hwx, ← hgX]; clear hwx hgX hc0 hc1; by_cases v1 : lv < 1
     ·have j1 : decide (lv < 1) = true := decide_eq_true v1; have HF : Hid (rightN st ps (hs.map Hd.nd) = false) := Lib.hid (HBN.out (by unfold nodeB; rw [HND.out]; dsimp only; rw [decide_eq_false (by omega : ¬ 1 ≤ lv)] <;> rfl)); go_wp2; go_ret; exact ⟨ret_bool (by rw [HF.out] <;> rfl), HBX2.out⟩
     have j1 : decide (lv < 1) = false := decide_eq_false v1; by_cases v2 : (ps.length : Int) < lv
     ·have j2 : decide ((ps.length : Int) < lv) = true := decide_eq_true v2; have HF : Hid (rightN st ps (hs.map Hd.nd) = false) := Lib.hid (HBN.out (by unfold nodeB; rw [HND.out]; dsimp only; rw [decide_eq_false (by omega : ¬ lv ≤ (ps.length : Int))]; simp)); go_wp2; go_ret; exact ⟨ret_bool (by rw [HF.out] <;> rfl), HBX2.out⟩
     have j2 : decide ((ps.length : Int) < lv) = false := decide_eq_false v2; by_cases v3 : (zs.length : Int) = st
     ·have j3 : ((zs.length : Int) != st) = false := by simp [v3]
      have HV1 := Lib.hid v1; have HV2 := Lib.hid v2; have HV3 := Lib.hid v3; have HBAD : Hid (zs.all (kidB st lv (hs.map Hd.nd) k) = false → rightN st ps (hs.map Hd.nd) = false) := Lib.hid (fun h => HBN.out (by unfold nodeB; rw [HND.out]; dsimp only; rw [h]; simp)); clear v1 v2 v3 hk hlt; go_wp2; clear j1 j2 j3; go_loopw [76] (fun i wi => ∃ m q : Nat, m ≤ zs.length ∧ i = .int .i64 m ∧ wi = wx.drewN q ∧ Hid (zs.all (kidB st lv (hs.map Hd.nd) k) = (zs.drop m).all (kidB st lv (hs.map Hd.nd) k))) (fun i _ => zs.length - (intOf i).toNat)
      case atStart => exact ⟨0, 0, Nat.zero_le _, rfl, rfl, Lib.hid (by simp)⟩
      case round =>
       obtain ⟨m, qd, hm, rfl, rfl, HTI⟩ := hrel; by_cases hml : m < zs.length
       ·obtain ⟨bz, oz, ez, -, hcm⟩ := HZI.out.at_ hml; obtain ⟨z, hz⟩ : ∃ z, z = zs[m] := ⟨_, rfl⟩
        rw [← hz] at hcm; have hwm : wrap64 ((m : Int) + 1) = (m : Int) + 1 := by have := HV3.out; have := HST.out; unfold wrap64; omega
        have hlt := HLT.out; subst ez; by_cases z0 : z < 0
        ·have g0 : decide (z < 0) = true := decide_eq_true z0; have HF : Hid (rightN st ps (hs.map Hd.nd) = false) := Lib.hid (HBAD.out (by rw [HTI.out, all_drop hml, ← hz]; unfold kidB; rw [decide_eq_false (by omega : ¬ 0 ≤ z)] <;> rfl)); clear hz; go_wp2; go_quiet (fail)
         go_wp2; go_ret; exact ⟨ret_bool (by rw [HF.out] <;> rfl), below_drewN (below_drewN HBX2.out _) _⟩
        ·have g0 : decide (z < 0) = false := decide_eq_false z0; by_cases l1 : lv = 1
         ·have j1 : (lv == 1) = true := by simp [l1]
          have j2 : decide (1 < lv) = false := decide_eq_false (by omega); have HL1 := Lib.hid l1; clear l1; by_cases z1 : st ≤ z
          ·have g1 : decide (st ≤ z) = true := decide_eq_true z1; have HF : Hid (rightN st ps (hs.map Hd.nd) = false) := Lib.hid (HBAD.out (by rw [HTI.out, all_drop hml, ← hz]; unfold kidB; rw [j1, decide_eq_false (by omega : ¬ z < st)]; simp)); clear hz; go_wp2; go_quiet (fail)
           go_wp2; go_ret; exact ⟨ret_bool (by rw [HF.out] <;> rfl), below_drewN (below_drewN HBX2.out _) _⟩
          ·have g1 : decide (st ≤ z) = false := decide_eq_false z1; have HOK : Hid (zs.all (kidB st lv (hs.map Hd.nd) k) = (zs.drop (m + 1)).all (kidB st lv (hs.map Hd.nd) k)) := Lib.hid (by rw [HTI.out, all_drop hml, ← hz]; unfold kidB; rw [j1, j2, decide_eq_true (by omega : 0 ≤ z), decide_eq_true (by omega : z < st)]; simp); clear hz; go_wp2; go_quiet (fail)
           go_wp2; go_roundw
           case rel => exact ⟨m + 1, _, hml, (by rw [hwm]; rfl), rfl, HOK⟩
           case measure => rw [hwm]; simp [intOf]; omega
         ·have j1 : (lv == 1) = false := by simpa using l1
          have j2 : decide (1 < lv) = true := decide_eq_true (by have := HV1.out; omega); by_cases z1 : (k : Int) ≤ z
          ·have g1 : decide ((k : Int) ≤ z) = true := decide_eq_true z1; have HF : Hid (rightN st ps (hs.map Hd.nd) = false) := Lib.hid (HBAD.out (by rw [HTI.out, all_drop hml, ← hz]; unfold kidB; rw [j1, j2, decide_eq_false (by omega : ¬ z < (k : Int))]; simp)); clear hz; go_wp2; go_quiet (fail)
           go_wp2; go_ret; exact ⟨ret_bool (by rw [HF.out] <;> rfl), below_drewN (below_drewN HBX2.out _) _⟩
          ·have g1 : decide ((k : Int) ≤ z) = false := decide_eq_false z1; obtain ⟨nb', no', eB', -, hk0, -, -⟩ := (HN.out.ext HBW.out).at_ (k := z.toNat) (by omega); injection eB' with eB'
           injection eB' with eb1 eb2
           subst eb1 eb2; have hkx : wx.cell? ⟨nb, no + z.toNat * 2, none⟩ = some (.int .i64 (hs[z.toNat]'(by omega)).lv) := (HBX.out.cell (p := ⟨nb, no + z.toNat * 2, none⟩) (Nat.lt_of_lt_of_le hnb HBW.out.size)).trans hk0; have hlz : (ndAt (hs.map Hd.nd) z.toNat).1 = (hs[z.toNat]'(by omega)).lv := by rw [ndl_at hs (by omega)]; rfl
           obtain ⟨y, hy⟩ : ∃ y, y = (hs[z.toNat]'(by omega)).lv := ⟨_, rfl⟩
           rw [← hy] at hkx hlz; have HLZ := Lib.hid hlz; have hzl : z < (hs.length : Int) := by omega
           have hz0 : 0 ≤ z := by omega
           have hwl : wrap64 (lv - 1) = lv - 1 := by have h1 := HV1.out; have h2 := HV2.out; have h3 := HP25.out; unfold wrap64; omega
           clear hk0 hlz hy; by_cases y1 : y = lv - 1
           ·have g2 : (y != lv - 1) = false := by simp [y1]
            have HY := Lib.hid y1; clear y1; have HOK : Hid (zs.all (kidB st lv (hs.map Hd.nd) k) = (zs.drop (m + 1)).all (kidB st lv (hs.map Hd.nd) k)) := Lib.hid (by rw [HTI.out, all_drop hml, ← hz]; unfold kidB; rw [j1, j2, HLZ.out, HY.out, decide_eq_true (by omega : 0 ≤ z), decide_eq_true (by omega : z < (k : Int))]; simp); clear hz; go_wp2; go_quiet (fail)
            go_wp2; go_roundw
            case rel => exact ⟨m + 1, _, hml, (by rw [hwm]; rfl), rfl, HOK⟩
            case measure => rw [hwm]; simp [intOf]; omega
           ·have g2 : (y != lv - 1) = true := by simpa using y1
            have HY := Lib.hid y1; clear y1; have HF : Hid (rightN st ps (hs.map Hd.nd) = false) := Lib.hid (HBAD.out (by rw [HTI.out, all_drop hml, ← hz]; unfold kidB; rw [j1, j2, HLZ.out, show (y == lv - 1) = false from by simpa using HY.out]; simp)); clear hz; go_wp2; go_quiet (fail)
            go_wp2; go_ret; exact ⟨ret_bool (by rw [HF.out] <;> rfl), below_drewN (below_drewN HBX2.out _) _⟩
       ·have HALL : Hid (zs.all (kidB st lv (hs.map Hd.nd) k) = true) := Lib.hid (by
         have h := HTI.out; rw [List.drop_of_length_le (by omega)] at h; exact h)
        have HNX : Hid (allF (nodeB st ps.length (hs.map Hd.nd)) hs.length 0 = allF (nodeB st ps.length (hs.map Hd.nd)) (hs.length - (k + 1)) (k + 1)) := Lib.hid (by
         rw [HT.out, allF_at HLT.out]; have h : nodeB st ps.length (hs.map Hd.nd) k = true := by
          unfold nodeB; rw [HND.out]; dsimp only; rw [HALL.out, decide_eq_true (by have := HV1.out; omega : 1 ≤ lv), decide_eq_true (by have := HV2.out; omega : lv ≤ (ps.length : Int)), decide_eq_true HV3.out]; rfl
         rw [h, Bool.true_and])
        have hlt := HLT.out; clear cg0 cg1 ct0 ct1 ct2; go_wp2; go_roundw
        case rel => exact ⟨k + 1, HLT.out, (by rw [hw1]; rfl), Lib.hid (below_drewN (HBW.out.trans (HBX.out.mono HBW.out.size)) _), HNX⟩
        case measure => rw [hw1]; simp [intOf]; omega
     ·have j3 : ((zs.length : Int) != st) = true := by simpa using v3
      have HF : Hid (rightN st ps (hs.map Hd.nd) = false) := Lib.hid (HBN.out (by unfold nodeB; rw [HND.out]; dsimp only; rw [decide_eq_false v3]; simp)); go_wp2; go_ret; exact ⟨ret_bool (by rw [HF.out] <;> rfl), HBX2.out⟩
    ·have HF : Hid (rightN st ps (hs.map Hd.nd) = true) := Lib.hid (by
      have h := HT.out; rw [show hs.length - k = 0 by omega] at h; unfold rightN; rw [HHEAD.out, List.length_map, h]; rfl)
     go_wp2; go_ret; exact ⟨ret_bool (by rw [HF.out] <;> rfl), HB0.out.trans (HBW.out.mono HB0.out.size)⟩
  ·have e5 : (ll != (ps.length : Int)) = true := by simpa using a5
   have HF : Hid (rightN st ps (hs.map Hd.nd) = false) := Lib.hid (by unfold rightN headB; rw [HLAST.out, decide_eq_false a5]; simp); clear a5 C2; go_enter Tryd.func23, Tryd.ntmps23; go_upto_region 2 with fail
   rw [← HW0.out]; refine wp_region_quiet_below (by kernel_rfl) (by kernel_rfl) ?_; repeat (go_big_quiet_step (with_reducible exact CH.out _ _))
   refine wpQuiet_nil ?_; intro _ hw'; obtain ⟨⟨dq, osq⟩, hw''⟩ := hw'; subst hw''; go_wp2; go_ret; exact ⟨ret_bool (by rw [HF.out] <;> rfl), HB0.out.trans ((below_regrown w0 dq osq).mono HB0.out.size)⟩
theorem take_eq_snoc {α : Type} {xs ys : List α} {k : Nat} (h : xs.take k = ys.take k) (h1 : k < xs.length) (h2 : k < ys.length) (h3 : xs[k] = ys[k]) : xs.take (k + 1) = ys.take (k + 1) := by
 rw [List.take_succ_eq_append_getElem h1, List.take_succ_eq_append_getElem h2, h, h3]
theorem Tryd.stood_pt : Tryd.prog.stoodInHeld 67 = false := by kernel_rfl
theorem Tryd.guard_pt : Tryd.prog.eqGuardType Tryd.prog.depth 67 = false := by kernel_rfl
theorem neq_pt (a b c d : Int) (w : World) : (binOp .neq 67 (.agg #[.int .i64 a, .int .i64 b]) (.agg #[.int .i64 c, .int .i64 d])).run Tryd.prog w = .ok (.bool (ptNe a b c d)) w := by
 have h1 := Tryd.stood_pt; simp [go_sem, h1]; unfold ptNe; by_cases h2 : a = c <;> by_cases h3 : b = d <;> simp [h2, h3]
theorem eql_pt (a b c d : Int) (w : World) : (binOp .eql 67 (.agg #[.int .i64 a, .int .i64 b]) (.agg #[.int .i64 c, .int .i64 d])).run Tryd.prog w = .ok (.bool (ptEq a b c d)) w := by
 have h1 := Tryd.stood_pt; simp [go_sem, h1]; unfold ptEq; by_cases h2 : a = c <;> by_cases h3 : b = d <;> simp [h2, h3]

def chR : Int → List Int → List Int := fun _ zs => zs
theorem chR_chg (q : Nat) : Chg q chR := ⟨fun _ _ h => h, fun _ _ _ _ _ h => h, fun _ _ _ _ _ => rfl, fun _ _ h => h⟩
set_option maxHeartbeats 1000000 in
theorem clR_any (W : World) (base g cx : Nat) (zs : List Int) (lv : Int) (ho : OwnIA W base (.slice (some ⟨g, 0, none⟩) zs.length cx) zs) :
  Calls Tryd.prog 47 #[.int .i64 lv, .slice (some ⟨g, 0, none⟩) zs.length cx] W fun e W' => e = .returned (.slice (some ⟨g, 0, none⟩) zs.length cx) ∧ OwnIA W' base (.slice (some ⟨g, 0, none⟩) zs.length cx) (chR lv zs) ∧ Kept (fun x => x = g) W W' := by
 have HO := Lib.hid ho; clear ho; go_enter Tryd.func47, Tryd.ntmps47; go_wp2; go_ret; exact ⟨rfl, HO.out, Kept.refl _ _⟩

structure PT where
 st : Int
 ps : List (Int × Int)
 ns : List Nd
def PT.zero : PT := ⟨0, [], []⟩
def PT.right (t : PT) : Bool := rightN t.st t.ps t.ns
def RetT (t : PT) (w : World) (e : Ending) (w' : World) : Prop := RetTree t.st t.ps t.ns w e w'
def redT (t : PT) : PT := if t.right then ⟨t.st, t.ps, redN chR t.ns⟩ else PT.zero
theorem RetTree.mono {st : Int} {ps : List (Int × Int)} {ns : List Nd} {w w0 w' : World} {e : Ending} (h : RetTree st ps ns w e w') (hb : Below w0.heap.size w0 w) : RetTree st ps ns w0 e w' := by
 obtain ⟨hv, nv, os, h1, h2, h3, h4, h5⟩ := h; exact ⟨hv, nv, os, h1, own_down h2 hb.size, ⟨own_down h3.1 hb.size, fun x hx => (h3.2 x hx).down hb.size⟩, h4, hb.trans (h5.mono hb.size)⟩
theorem RetTree.form {st : Int} {ps : List (Int × Int)} {ns : List Nd} {w w' : World} {e : Ending} (h : RetTree st ps ns w e w') :
  ∃ A c B d os, e = .returned (.agg #[.int .i64 st, .slice A ps.length c, .slice B os.length d]) ∧ OwnP 67 w' w.heap.size (.slice A ps.length c) ps ∧ OwnNA w' w.heap.size (.slice B os.length d) os ∧ Pts w' A ps ∧ Nds w' B os ∧ os.map Hd.nd = ns ∧ Below w.heap.size w w' := by
 obtain ⟨hv, nv, os, h1, h2, h3, h4, h5⟩ := h; obtain ⟨A, c, e1, p1, -⟩ := h2.pts; obtain ⟨B, d, e2, p2, -⟩ := h3.nds; subst e1 e2; exact ⟨A, c, B, d, os, h1, h2, h3, p1, p2, h4, h5⟩
theorem redn_any (st : Int) (A : Option Addr) (c : Nat) (ps : List (Int × Int)) (B : Option Addr) (d : Nat) (hs : List Hd) (w : World) (hp : Pts w A ps) (hN : Nds w B hs) (ht : TabB w.heap.size w) (hr : rightN st ps (hs.map Hd.nd) = true) :
  Calls Tryd.prog 46 #[.agg #[.int .i64 st, .slice A ps.length c, .slice B hs.length d], .func (.func 47) #[] #[]] w (RetTree st ps (redN chR (hs.map Hd.nd)) w) := by
 obtain ⟨a1, a2, a3, a4, a5, a6, a7, a8, a9⟩ := rightN_parts hr; rw [List.length_map] at a4 a5; exact rebuilt_red chR st A c ps B d hs w hp hN st.toNat (by omega) (by omega) a8 (fun i hi => by have := a9 i (by rw [List.length_map]; exact hi); omega) (chR_chg _) (by omega) (by omega) (by omega) ht
  (fun W base g cx zs lv _ _ _ _ _ _ ho => clR_any W base g cx zs lv ho)
set_option maxHeartbeats 4000000 in
theorem reduce_any (st : Int) (A : Option Addr) (c : Nat) (ps : List (Int × Int)) (B : Option Addr) (d : Nat) (hs : List Hd) (w : World) (hp : Pts w A ps) (hN : Nds w B hs) (ht : TabB w.heap.size w) :
  Calls Tryd.prog 24 #[.agg #[.int .i64 st, .slice A ps.length c, .slice B hs.length d]] w (RetT (redT ⟨st, ps, hs.map Hd.nd⟩) w) := by
 obtain ⟨w0, hw0⟩ : ∃ w0, w0 = (w.alloc (.cells #[.int .i64 st, .slice A ps.length c, .slice B hs.length d] 25)).alloc (.cells #[.int .i64 0, .slice none 0 0, .slice none 0 0] 25) := ⟨_, rfl⟩
 have hb1 := below_new w (.cells #[.int .i64 st, .slice A ps.length c, .slice B hs.length d] 25); have hb0 : Below w.heap.size w w0 := by rw [hw0]; exact hb1.alloc hb1.size _
 have p0 : Blk w0 w.heap.size 25 #[.int .i64 st, .slice A ps.length c, .slice B hs.length d] := by rw [hw0]; exact (Blk.new w _ _).alloc _
 have q0 : Blk w0 (w.heap.size + 1) 25 #[.int .i64 0, .slice none 0 0, .slice none 0 0] := by
  rw [hw0]; have := Blk.new (w.alloc (.cells #[.int .i64 st, .slice A ps.length c, .slice B hs.length d] 25)) 25 #[.int .i64 0, .slice none 0 0, .slice none 0 0]; simpa using this
 have HR := Lib.hid (right_any st A c ps B d hs w0 (hp.ext hb0) (hN.ext hb0)); have HP := Lib.hid (hp.ext hb0); have HN := Lib.hid (hN.ext hb0); have HT := Lib.hid (ht.on hb0); have HB0 := Lib.hid hb0; have HP0 := Lib.hid p0; have HQ0 := Lib.hid q0; have HW0 := Lib.hid hw0; have c0 := p0.cell_ 0 (.int .i64 st) rfl; have c1 := p0.cell_ 1 (.slice A ps.length c) rfl; have c2 := p0.cell_ 2 (.slice B hs.length d) rfl; have hred : redT ⟨st, ps, hs.map Hd.nd⟩ = if rightN st ps (hs.map Hd.nd) then ⟨st, ps, redN chR (hs.map Hd.nd)⟩ else PT.zero := rfl
 rw [hred]; clear hb1 hb0 p0 q0 hw0 hp hN ht hred; cases hr : rightN st ps (hs.map Hd.nd) with
 | false =>
  rw [hr] at HR; clear hr; go_enter Tryd.func24, Tryd.ntmps24; go_upto_region 1 with fail
  rw [← HW0.out]; go_wp2_with (go_at_call 23; refine HR.out.mono ?_); rintro e w1 ⟨rfl, hb⟩; have q1 := HQ0.out.below hb HQ0.out.lt; have HQ1 := Lib.hid q1; have d0 := q1.cell_ 0 (.int .i64 0) rfl; have d1 := q1.cell_ 1 (.slice none 0 0) rfl; have d2 := q1.cell_ 2 (.slice none 0 0) rfl; have f0 := q1.frozen 0; have f1 := q1.frozen 1; have f2 := q1.frozen 2; have HB := Lib.hid (HB0.out.trans (hb.mono HB0.out.size)); clear q1 hb c0 c1 c2; go_wp2; have hq : Blk (((w1.setCell ⟨w.heap.size + 1, 0, none⟩ (.int .i64 0)).setCell ⟨w.heap.size + 1, 1, none⟩ (.slice none 0 0)).setCell ⟨w.heap.size + 1, 2, none⟩ (.slice none 0 0)) (w.heap.size + 1) 25 #[.int .i64 0, .slice none 0 0, .slice none 0 0] := ((HQ1.out.set_ 0 (.int .i64 0)).set_ 1 (.slice none 0 0)).set_ 2 (.slice none 0 0); exact bodyPost_ret (results_cell_row Tryd.results24 _ _ (w.heap.size + 1) 25 #[.int .i64 0, .slice none 0 0, .slice none 0 0] (0, 0) _ rfl hq Tryd.underlying25 rfl Tryd.sizeTree) rfl
   ⟨_, _, [], rfl, OwnP.nil _ _ _, OwnN.nil _ _ _ _, rfl, ((HB.out.setCell (p := ⟨w.heap.size + 1, 0, none⟩) (by simp) _).setCell (p := ⟨w.heap.size + 1, 1, none⟩) (by simp) _).setCell (p := ⟨w.heap.size + 1, 2, none⟩) (by simp) _⟩
 | true =>
  rw [hr] at HR; have HRR := Lib.hid hr; clear hr; go_enter Tryd.func24, Tryd.ntmps24; go_upto_region 1 with fail
  rw [← HW0.out]; go_wp2_with (go_at_call 23; refine HR.out.mono ?_); rintro e w1 ⟨rfl, hb⟩; have q1 := HQ0.out.below hb HQ0.out.lt; have p1 := HP0.out.below hb HP0.out.lt; have HQ1 := Lib.hid q1; have c0' := p1.cell_ 0 (.int .i64 st) rfl; have c1' := p1.cell_ 1 (.slice A ps.length c) rfl; have c2' := p1.cell_ 2 (.slice B hs.length d) rfl; have HBw := Lib.hid (HB0.out.trans (hb.mono HB0.out.size)); have HCALL := Lib.hid (redn_any st A c ps B d hs w1 (HP.out.ext hb) (HN.out.ext hb) ((HT.out.on (hb.mono HB0.out.size)).up (Nat.le_trans HB0.out.size hb.size)) HRR.out); clear q1 p1 hb c0 c1 c2; go_wp2_with (go_at_call 46; refine HCALL.out.mono ?_; intro e w2 hrt; obtain ⟨A2, c2, B2, d2, os, rfl, h1, h2, -, -, h3, h4⟩ := hrt.form; refine Hid.out ?_); refine Lib.hid ?_; have q2 := HQ1.out.below h4 HQ1.out.lt; have HQ2 := Lib.hid q2; have d0 := q2.cell_ 0 (.int .i64 0) rfl; have d1 := q2.cell_ 1 (.slice none 0 0) rfl; have d2' := q2.cell_ 2 (.slice none 0 0) rfl; have f0 := q2.frozen 0; have f1 := q2.frozen 1; have f2 := q2.frozen 2; have HO1 := Lib.hid h1; have HO2 := Lib.hid h2; have HO3 := Lib.hid h3; have HB2 := Lib.hid h4; clear hrt h1 h2 h3 h4 q2 HCALL c0' c1' c2'; go_wp2; have hq : Blk (((w2.setCell ⟨w.heap.size + 1, 0, none⟩ (.int .i64 st)).setCell ⟨w.heap.size + 1, 1, none⟩ (.slice A2 ps.length c2)).setCell ⟨w.heap.size + 1, 2, none⟩ (.slice B2 os.length d2)) (w.heap.size + 1) 25 #[.int .i64 st, .slice A2 ps.length c2, .slice B2 os.length d2] := ((HQ2.out.set_ 0 (.int .i64 st)).set_ 1 (.slice A2 ps.length c2)).set_ 2 (.slice B2 os.length d2); have hk : Kept (fun g => g = w.heap.size + 1) w2 (((w2.setCell ⟨w.heap.size + 1, 0, none⟩ (.int .i64 st)).setCell ⟨w.heap.size + 1, 1, none⟩ (.slice A2 ps.length c2)).setCell ⟨w.heap.size + 1, 2, none⟩ (.slice B2 os.length d2)) := (((Kept.refl (fun g => g = w.heap.size + 1) w2).setCell (p := ⟨w.heap.size + 1, 0, none⟩) (Or.inl rfl) _).setCell (p := ⟨w.heap.size + 1, 1, none⟩) (Or.inl rfl) _).setCell (p := ⟨w.heap.size + 1, 2, none⟩) (Or.inl rfl) _; refine bodyPost_ret (results_cell_row Tryd.results24 _ _ (w.heap.size + 1) 25 #[.int .i64 st, .slice A2 ps.length c2, .slice B2 os.length d2] (0, 0) _ rfl hq Tryd.underlying25 rfl Tryd.sizeTree) rfl
   ⟨_, _, os, rfl, ?_, ?_, HO3.out, ?_⟩
  ·exact hk.own (own_down HO1.out HBw.out.size) (fun g e e2 => by subst e2; exact own_blk_ne' HO1.out HQ2.out (by decide) e)
  ·exact OwnN.kept ⟨own_down HO2.out.1 HBw.out.size, fun x hx => (HO2.out.2 x hx).down HBw.out.size⟩ hk (fun g e e2 => by subst e2; exact own_blk_ne' HO2.out.1 HQ2.out (by decide) e) (fun x hx g e e2 => by subst e2; exact own_blk_ne' (HO2.out.2 x hx) HQ2.out (by decide) e)
  ·exact (HBw.out.trans (HB2.out.mono HBw.out.size)).trans (hk.to_below (by have := HBw.out.size; have := HB2.out.size; omega) (fun g hg e => by omega))

theorem nd_take {hs ks : List Hd} {k : Nat} (h1 : k < hs.length) (h2 : k < ks.length) (h : (hs.take k).map Hd.nd = (ks.take k).map Hd.nd) (h3 : hs[k].nd = ks[k].nd) : (hs.take (k + 1)).map Hd.nd = (ks.take (k + 1)).map Hd.nd := by
 rw [List.take_succ_eq_append_getElem h1, List.take_succ_eq_append_getElem h2, List.map_append, List.map_append, h]; simp [h3]
def sameP (a b : PT) : Bool := decide (a.st = b.st) && decide (a.ps = b.ps) && decide (a.ns = b.ns)

def TreeAt (w : World) (v : Value) (t : PT) : Prop := ∃ A c B d os, v = .agg #[.int .i64 t.st, .slice A t.ps.length c, .slice B os.length d] ∧ Pts w A t.ps ∧ Nds w B os ∧ os.map Hd.nd = t.ns
theorem TreeAt.ext {w w' : World} {v : Value} {t : PT} (h : TreeAt w v t) (hb : Below w.heap.size w w') : TreeAt w' v t := by
 obtain ⟨A, c, B, d, os, h1, h2, h3, h4⟩ := h; exact ⟨A, c, B, d, os, h1, h2.ext hb, h3.ext hb, h4⟩
theorem RetT.treeAt {t : PT} {w w' : World} {e : Ending} (h : RetT t w e w') : ∃ v, e = .returned v ∧ TreeAt w' v t ∧ Below w.heap.size w w' := by
 obtain ⟨A, c, B, d, os, h1, -, -, h2, h3, h4, h5⟩ := RetTree.form h; exact ⟨_, h1, ⟨A, c, B, d, os, rfl, h2, h3, h4⟩, h5⟩
def equalP (a b : PT) : Bool := a.right && b.right && decide (a.st = b.st) && decide (a.ps = b.ps) && sameP (redT a) (redT b)
set_option maxHeartbeats 1000000 in
theorem rsame_any (A B : Option Addr) (xs ys : List Int) (c d : Nat) (w : World) (ha : Ints w A xs) (hb : Ints w B ys) :
  Calls Tryd.prog 77 #[.slice A xs.length c, .slice B ys.length d] w fun e w' => e = .returned (.bool (decide (xs = ys))) ∧ Qt w w' := by
 have hn := ha.le; have hm := hb.le; by_cases hl : xs.length = ys.length
 ·have hd : ((xs.length : Int) != ys.length) = false := by simp [hl]
  have HL := Lib.hid hl; clear hl; go_enter Tryd.func77, Tryd.ntmps77; go_wp2; go_loopw [5] (fun i wr => ∃ k q : Nat, k ≤ xs.length ∧ i = .int .i64 k ∧ wr = w.drewN q ∧ Hid (xs.take k = ys.take k)) (fun i _ => xs.length - (intOf i).toNat)
  case atStart => exact ⟨0, 0, Nat.zero_le _, rfl, rfl, Lib.hid rfl⟩
  case round =>
   obtain ⟨k, q, hk, rfl, rfl, HT⟩ := hrel; by_cases hlt : k < xs.length
   ·have hlt2 : k < ys.length := by have := HL.out; omega
    obtain ⟨b1, o1, rfl, -, hc⟩ := ha.at_ hlt; obtain ⟨b2, o2, rfl, -, hc2⟩ := hb.at_ hlt2; go_wp2; go_quiet (fail)
    go_wp2
    ·have hne : ¬ xs[k] = ys[k] := by simpa using ‹(xs[k] != ys[k]) = true›
     go_ret; refine ⟨ret_bool (decide_eq_false ?_).symm, (Qt.drewN _ _).step _⟩; rintro rfl; exact hne rfl
    ·have he : xs[k] = ys[k] := by simpa using ‹(xs[k] != ys[k]) = false›
     go_roundw
     case rel => exact ⟨k + 1, _, by omega, by go_num, rfl, Lib.hid (take_eq_snoc HT.out hlt hlt2 he)⟩
     case measure => simp [intOf]; omega
   ·have hk' : k = xs.length := by omega
    have hfin : xs = ys := by
     have := HT.out; rwa [hk', List.take_of_length_le (Nat.le_refl _), List.take_of_length_le (by rw [HL.out]; exact Nat.le_refl _)] at this
    clear hk'; have HF := Lib.hid hfin; clear hfin; go_wp2; go_ret; exact ⟨ret_bool (decide_eq_true HF.out).symm, Qt.drewN _ _⟩
 ·have hd : ((xs.length : Int) != ys.length) = true := by simp; omega
  have hf : ¬ xs = ys := by
   rintro rfl; exact hl rfl
  have HF := Lib.hid hf; clear hl hf; go_enter Tryd.func77, Tryd.ntmps77; go_wp2; go_ret; exact ⟨ret_bool (decide_eq_false HF.out).symm, Qt.refl _⟩
end Go.Proofs.YtlegfdllipkggaaDoor
