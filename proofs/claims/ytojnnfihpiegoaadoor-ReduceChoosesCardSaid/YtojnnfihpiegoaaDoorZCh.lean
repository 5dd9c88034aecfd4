/-
  cellularref12.Right. No condition.
  The reference's classes: a node's class is the first node that reads alike when the elements are replaced by their classes; the walk over the classes is the walk of the rebuilt nodes. No condition.
  What the reference's classes hold in memory, node by node: the classes, the elements' lists. No condition.
  cellularref13.classes. No condition but that the nodes are those of a valid tree.
-/
import Derived.Test.YtojnnfihpiegoaaDoorZCf
import Derived.Test.YtojnnfihpiegoaaDoorZCd
import Derived.Test.YtojnnfihpiegoaaDoorZCe
namespace Go.Proofs.YtojnnfihpiegoaaDoor
open Go.RowKit
set_option maxRecDepth 100000
set_option linter.unusedVariables false
set_option linter.unusedSimpArgs false

set_option maxHeartbeats 16000000 in
theorem rright_any (st : Int) (A : Option Addr) (c : Nat) (ps : List (Int × Int)) (B : Option Addr) (d : Nat) (hs : List Hd) (w : World) (hp : Pts w A ps) (hN : Nds w B hs) :
    Calls Tryd.prog 26 #[.agg #[.int .i64 st, .slice A ps.length c, .slice B hs.length d]] w fun e w' => e = .returned (.bool (rightN st ps (hs.map Hd.nd))) ∧ Below w.heap.size w w' := by
  have hn := hN.le
  have hpl := hp.le
  obtain ⟨w0, hw0⟩ : ∃ w0, w0 = w.alloc (.cells #[.int .i64 st, .slice A ps.length c, .slice B hs.length d] 25) := ⟨_, rfl⟩
  have hb0 := below_new w (.cells #[.int .i64 st, .slice A ps.length c, .slice B hs.length d] 25)
  have p0 := Blk.new w 25 #[.int .i64 st, .slice A ps.length c, .slice B hs.length d]
  rw [← hw0] at hb0 p0
  have P0 := p0.cell_ 0 (.int .i64 st) rfl
  have P1 := p0.cell_ 1 (.slice A ps.length c) rfl
  have C2 := p0.cell_ 2 (.slice B hs.length d) rfl
  have HB0 := Lib.hid hb0
  have HP0 := Lib.hid p0
  have HW0 := Lib.hid hw0
  have HN := Lib.hid (hN.ext hb0)
  have hH := rhood_any A c ps w0 (hp.ext hb0)
  clear hb0 p0 hw0 hp hN
  by_cases a1 : st < 2
  · have e1 : decide (st < 2) = true := decide_eq_true a1
    have HF : Hid (rightN st ps (hs.map Hd.nd) = false) := Lib.hid (by unfold rightN headB; rw [decide_eq_false (by omega : ¬ 2 ≤ st)]; rfl)
    clear hH
    go_enter Tryd.func26, Tryd.ntmps26
    go_upto_region 2 with fail
    rw [← HW0.out]
    go_wp2
    go_ret
    exact ⟨ret_bool (by rw [HF.out] <;> rfl), HB0.out⟩
  have f1 : decide (st < 2) = false := decide_eq_false a1
  by_cases a2 : 8 < st
  · have e2 : decide (8 < st) = true := decide_eq_true a2
    have HF : Hid (rightN st ps (hs.map Hd.nd) = false) := Lib.hid (by unfold rightN headB; rw [decide_eq_false (by omega : ¬ st ≤ 8)]; simp)
    clear hH
    go_enter Tryd.func26, Tryd.ntmps26
    go_upto_region 2 with fail
    rw [← HW0.out]
    go_wp2
    go_ret
    exact ⟨ret_bool (by rw [HF.out] <;> rfl), HB0.out⟩
  have f2 : decide (8 < st) = false := decide_eq_false a2
  cases hh : hoodB ps with
  | false =>
    rw [hh] at hH
    have HF : Hid (rightN st ps (hs.map Hd.nd) = false) := Lib.hid (by unfold rightN headB; rw [hh]; simp)
    have HH1 := Lib.hid hH
    clear hh hH
    go_enter Tryd.func26, Tryd.ntmps26
    go_upto_region 2 with fail
    rw [← HW0.out]
    go_wp2_with (go_at_call 55; refine HH1.out.mono ?_)
    first | rintro e w1 rfl hb | rintro e w1 ⟨rfl, hb⟩
    have HBr := Lib.hid hb
    have HB1 := Lib.hid (HB0.out.trans (hb.mono HB0.out.size))
    clear hb
    go_wp2
    go_ret
    exact ⟨ret_bool (by rw [HF.out] <;> rfl), HB1.out⟩
  | true =>
    rw [hh] at hH
    have HH := Lib.hid hh
    have HH1 := Lib.hid hH
    clear hh hH
    by_cases a3 : hs.length < 1
    · have e3 : decide ((hs.length : Int) < 1) = true := decide_eq_true (by omega)
      have HF : Hid (rightN st ps (hs.map Hd.nd) = false) := Lib.hid (by unfold rightN headB; rw [List.length_map, decide_eq_false (by omega : ¬ 1 ≤ hs.length)]; simp)
      go_enter Tryd.func26, Tryd.ntmps26
      go_upto_region 2 with fail
      rw [← HW0.out]
      go_wp2_with (go_at_call 55; refine HH1.out.mono ?_)
      first | rintro e w1 rfl hb | rintro e w1 ⟨rfl, hb⟩
      have HBr := Lib.hid hb
      have HB1 := Lib.hid (HB0.out.trans (hb.mono HB0.out.size))
      clear hb
      go_wp2
      go_ret
      exact ⟨ret_bool (by rw [HF.out] <;> rfl), HB1.out⟩
    have f3 : decide ((hs.length : Int) < 1) = false := decide_eq_false (by omega)
    by_cases a4 : 4096 < hs.length
    · have e4 : decide ((4096 : Int) < (hs.length : Int)) = true := decide_eq_true (by omega)
      have HF : Hid (rightN st ps (hs.map Hd.nd) = false) := Lib.hid (by unfold rightN headB; rw [List.length_map, decide_eq_false (by omega : ¬ hs.length ≤ 4096)]; simp)
      go_enter Tryd.func26, Tryd.ntmps26
      go_upto_region 2 with fail
      rw [← HW0.out]
      go_wp2_with (go_at_call 55; refine HH1.out.mono ?_)
      first | rintro e w1 rfl hb | rintro e w1 ⟨rfl, hb⟩
      have HBr := Lib.hid hb
      have HB1 := Lib.hid (HB0.out.trans (hb.mono HB0.out.size))
      clear hb
      go_wp2
      go_ret
      exact ⟨ret_bool (by rw [HF.out] <;> rfl), HB1.out⟩
    have f4 : decide ((4096 : Int) < (hs.length : Int)) = false := decide_eq_false (by omega)
    obtain ⟨n1, hn1⟩ : ∃ n1, hs.length = n1 + 1 := ⟨hs.length - 1, by omega⟩
    have HLEN := Lib.hid (And.intro hn1 (show hs.length ≤ 4096 by omega))
    have HST := Lib.hid (show 2 ≤ st ∧ st ≤ 8 by omega)
    have HP25 : Hid (ps.length ≤ 25) := Lib.hid (by
      have h := HH.out
      unfold hoodB at h
      simp only [Bool.and_eq_true, decide_eq_true_eq] at h
      exact h.1.2)
    clear hn1 a1 a2 a3 a4
    go_enter Tryd.func26, Tryd.ntmps26
    go_upto_region 2 with fail
    rw [← HW0.out]
    go_wp2_with (go_at_call 55; refine HH1.out.mono ?_)
    first | rintro e w1 rfl hb | rintro e w1 ⟨rfl, hb⟩
    have HBr := Lib.hid hb
    have HB1 := Lib.hid (HB0.out.trans (hb.mono HB0.out.size))
    clear hb
    clear P0 P1 C2 f1 f2 hpl hn
    go_wp2
    clear f3 f4
    go_loopw [4] (fun i wr => ∃ k : Nat, k ≤ hs.length ∧ i = .int .i64 k ∧ Hid (Below w0.heap.size w0 wr) ∧ Hid (allF (nodeB st ps.length (hs.map Hd.nd)) hs.length 0 = allF (nodeB st ps.length (hs.map Hd.nd)) (hs.length - k) k)) (fun i _ => hs.length - (intOf i).toNat)
    case atStart => exact ⟨0, Nat.zero_le _, rfl, HBr, Lib.hid rfl⟩
    case round =>
      clear HB1 HBr
      obtain ⟨k, hk, rfl, HBW, HT⟩ := hrel
      have hpw := HP0.out.below HBW.out HP0.out.lt
      by_cases hlt : k < hs.length
      · obtain ⟨nb, no, eB, hnb, hc0, hc1, hzI⟩ := (HN.out.ext HBW.out).at_ hlt
        have HNB := Lib.hid (And.intro eB hnb)
        have hndk := ndl_at hs hlt
        obtain ⟨x, hx⟩ : ∃ x, x = hs[k] := ⟨_, rfl⟩
        rw [← hx] at hc0 hc1 hzI hndk
        obtain ⟨lv, zA, zc, zs⟩ := x
        dsimp only at hc0 hc1 hzI
        change ndAt (hs.map Hd.nd) k = (lv, zs) at hndk
        have HND := Lib.hid hndk
        have hw1 : wrap64 ((k : Int) + 1) = (k : Int) + 1 := by have := HLEN.out; unfold wrap64; omega
        have HLT := Lib.hid hlt
        have HBN : Hid (nodeB st ps.length (hs.map Hd.nd) k = false → rightN st ps (hs.map Hd.nd) = false) := Lib.hid (fun h => by
          unfold rightN
          rw [List.length_map, HT.out, allF_at HLT.out, h]
          simp)
        obtain ⟨wx, hwx⟩ : ∃ wx, wx = wr.alloc (.cells #[.int .i64 lv, .slice zA zs.length zc] 53) := ⟨_, rfl⟩
        have hbx := below_new wr (.cells #[.int .i64 lv, .slice zA zs.length zc] 53)
        have hG := Blk.new wr 53 #[.int .i64 lv, .slice zA zs.length zc]
        rw [← hwx] at hbx hG
        obtain ⟨gX, hgX⟩ : ∃ gX, gX = wr.heap.size := ⟨_, rfl⟩
        rw [← hgX] at hG
        have cg0 := hG.cell_ 0 (.int .i64 lv) rfl
        have cg1 := hG.cell_ 1 (.slice zA zs.length zc) rfl
        have hpx := hpw.below hbx hpw.lt
        have cw2 := hpw.cell_ 2 (.slice B hs.length d) rfl
        have ct0 := hpx.cell_ 0 (.int .i64 st) rfl
        have ct1 := hpx.cell_ 1 (.slice A ps.length c) rfl
        have ct2 := hpx.cell_ 2 (.slice B hs.length d) rfl
        have HZI := Lib.hid (hzI.ext hbx)
        have HBX := Lib.hid hbx
        have HBX2 : Hid (Below w.heap.size w wx) := Lib.hid ((HB0.out.trans (HBW.out.mono HB0.out.size)).trans (hbx.mono (by have := HB0.out.size; have := HBW.out.size; omega)))
        clear hx hndk hzI hbx hG hpx hpw hnb
        subst eB
        go_upto_region 8 with fail
        rw [← hwx, ← hgX]
        clear hwx hgX hc0 hc1 cw2
        by_cases v1 : lv < 1
        · have j1 : decide (lv < 1) = true := decide_eq_true v1
          have HF : Hid (rightN st ps (hs.map Hd.nd) = false) := Lib.hid (HBN.out (by unfold nodeB; rw [HND.out]; dsimp only; rw [decide_eq_false (by omega : ¬ 1 ≤ lv)] <;> rfl))
          go_wp2
          go_ret
          exact ⟨ret_bool (by rw [HF.out] <;> rfl), HBX2.out⟩
        have j1 : decide (lv < 1) = false := decide_eq_false v1
        by_cases v2 : (ps.length : Int) < lv
        · have j2 : decide ((ps.length : Int) < lv) = true := decide_eq_true v2
          have HF : Hid (rightN st ps (hs.map Hd.nd) = false) := Lib.hid (HBN.out (by unfold nodeB; rw [HND.out]; dsimp only; rw [decide_eq_false (by omega : ¬ lv ≤ (ps.length : Int))]; simp))
          go_wp2
          go_ret
          exact ⟨ret_bool (by rw [HF.out] <;> rfl), HBX2.out⟩
        have j2 : decide ((ps.length : Int) < lv) = false := decide_eq_false v2
        by_cases v3 : (zs.length : Int) = st
        · have j3 : ((zs.length : Int) != st) = false := by simp [v3]
          have HV1 := Lib.hid v1
          have HV2 := Lib.hid v2
          have HV3 := Lib.hid v3
          have HBAD : Hid (zs.all (kidB st lv (hs.map Hd.nd) k) = false → rightN st ps (hs.map Hd.nd) = false) := Lib.hid (fun h => HBN.out (by unfold nodeB; rw [HND.out]; dsimp only; rw [h]; simp))
          clear v1 v2 v3 hk hlt
          go_wp2
          clear j1 j2 j3
          go_loopw [6] (fun i wi => ∃ m q : Nat, m ≤ zs.length ∧ i = .int .i64 m ∧ wi = wx.drewN q ∧ Hid (zs.all (kidB st lv (hs.map Hd.nd) k) = (zs.drop m).all (kidB st lv (hs.map Hd.nd) k))) (fun i _ => zs.length - (intOf i).toNat)
          case atStart => exact ⟨0, 0, Nat.zero_le _, rfl, rfl, Lib.hid (by simp)⟩
          case round =>
            obtain ⟨m, qd, hm, rfl, rfl, HTI⟩ := hrel
            by_cases hml : m < zs.length
            · obtain ⟨bz, oz, ez, -, hcm⟩ := HZI.out.at_ hml
              obtain ⟨z, hz⟩ : ∃ z, z = zs[m] := ⟨_, rfl⟩
              rw [← hz] at hcm
              have hwm : wrap64 ((m : Int) + 1) = (m : Int) + 1 := by have := HV3.out; have := HST.out; unfold wrap64; omega
              have hms : decide ((m : Int) < st) = true := decide_eq_true (by have := HV3.out; omega)
              have hlt := HLT.out
              subst ez
              by_cases z0 : z < 0
              · have g0 : decide (z < 0) = true := decide_eq_true z0
                have HF : Hid (rightN st ps (hs.map Hd.nd) = false) := Lib.hid (HBAD.out (by rw [HTI.out, all_drop hml, ← hz]; unfold kidB; rw [decide_eq_false (by omega : ¬ 0 ≤ z)] <;> rfl))
                clear hz
                go_wp2
                go_ret
                exact ⟨ret_bool (by rw [HF.out] <;> rfl), below_drewN HBX2.out _⟩
              · have g0 : decide (z < 0) = false := decide_eq_false z0
                by_cases l1 : lv = 1
                · have j1 : (lv == 1) = true := by simp [l1]
                  have j2 : decide (1 < lv) = false := decide_eq_false (by omega)
                  have HL1 := Lib.hid l1
                  clear l1
                  by_cases z1 : st ≤ z
                  · have g1 : decide (st ≤ z) = true := decide_eq_true z1
                    have HF : Hid (rightN st ps (hs.map Hd.nd) = false) := Lib.hid (HBAD.out (by rw [HTI.out, all_drop hml, ← hz]; unfold kidB; rw [j1, decide_eq_false (by omega : ¬ z < st)]; simp))
                    clear hz
                    go_wp2
                    go_ret
                    exact ⟨ret_bool (by rw [HF.out] <;> rfl), below_drewN HBX2.out _⟩
                  · have g1 : decide (st ≤ z) = false := decide_eq_false z1
                    have HOK : Hid (zs.all (kidB st lv (hs.map Hd.nd) k) = (zs.drop (m + 1)).all (kidB st lv (hs.map Hd.nd) k)) := Lib.hid (by rw [HTI.out, all_drop hml, ← hz]; unfold kidB; rw [j1, j2, decide_eq_true (by omega : 0 ≤ z), decide_eq_true (by omega : z < st)]; simp)
                    clear hz
                    go_wp2
                    go_quiet (fail)
                    go_wp2
                    go_roundw
                    case rel => exact ⟨m + 1, _, hml, (by rw [hwm]; rfl), rfl, HOK⟩
                    case measure => rw [hwm]; simp [intOf]; omega
                · have j1 : (lv == 1) = false := by simpa using l1
                  have j2 : decide (1 < lv) = true := decide_eq_true (by have := HV1.out; omega)
                  by_cases z1 : (k : Int) ≤ z
                  · have g1 : decide ((k : Int) ≤ z) = true := decide_eq_true z1
                    have HF : Hid (rightN st ps (hs.map Hd.nd) = false) := Lib.hid (HBAD.out (by rw [HTI.out, all_drop hml, ← hz]; unfold kidB; rw [j1, j2, decide_eq_false (by omega : ¬ z < (k : Int))]; simp))
                    clear hz
                    go_wp2
                    go_quiet (fail)
                    go_wp2
                    go_ret
                    exact ⟨ret_bool (by rw [HF.out] <;> rfl), below_drewN (below_drewN HBX2.out _) _⟩
                  · have g1 : decide ((k : Int) ≤ z) = false := decide_eq_false z1
                    obtain ⟨nb', no', eB', -, hk0, -, -⟩ := (HN.out.ext HBW.out).at_ (k := z.toNat) (by omega)
                    injection eB' with eB'
                    injection eB' with eb1 eb2
                    subst eb1 eb2
                    have hkx : wx.cell? ⟨nb, no + z.toNat * 2, none⟩ = some (.int .i64 (hs[z.toNat]'(by omega)).lv) := (HBX.out.cell (p := ⟨nb, no + z.toNat * 2, none⟩) HNB.out.2).trans hk0
                    have hlz : (ndAt (hs.map Hd.nd) z.toNat).1 = (hs[z.toNat]'(by omega)).lv := by rw [ndl_at hs (by omega)]; rfl
                    obtain ⟨y, hy⟩ : ∃ y, y = (hs[z.toNat]'(by omega)).lv := ⟨_, rfl⟩
                    rw [← hy] at hkx hlz
                    have HLZ := Lib.hid hlz
                    have hzl : z < (hs.length : Int) := by omega
                    have hz0 : 0 ≤ z := by omega
                    have hwl : wrap64 (lv - 1) = lv - 1 := by have h1 := HV1.out; have h2 := HV2.out; have h3 := HP25.out; unfold wrap64; omega
                    clear hk0 hlz hy
                    by_cases y1 : y = lv - 1
                    · have g2 : (y != lv - 1) = false := by simp [y1]
                      have HY := Lib.hid y1
                      clear y1
                      have HOK : Hid (zs.all (kidB st lv (hs.map Hd.nd) k) = (zs.drop (m + 1)).all (kidB st lv (hs.map Hd.nd) k)) := Lib.hid (by rw [HTI.out, all_drop hml, ← hz]; unfold kidB; rw [j1, j2, HLZ.out, HY.out, decide_eq_true (by omega : 0 ≤ z), decide_eq_true (by omega : z < (k : Int))]; simp)
                      clear hz
                      go_wp2
                      go_quiet (fail)
                      go_wp2
                      go_roundw
                      case rel => exact ⟨m + 1, _, hml, (by rw [hwm]; rfl), rfl, HOK⟩
                      case measure => rw [hwm]; simp [intOf]; omega
                    · have g2 : (y != lv - 1) = true := by simpa using y1
                      have HY := Lib.hid y1
                      clear y1
                      have HF : Hid (rightN st ps (hs.map Hd.nd) = false) := Lib.hid (HBAD.out (by rw [HTI.out, all_drop hml, ← hz]; unfold kidB; rw [j1, j2, HLZ.out, show (y == lv - 1) = false from by simpa using HY.out]; simp))
                      clear hz
                      go_wp2
                      go_quiet (fail)
                      go_wp2
                      go_ret
                      exact ⟨ret_bool (by rw [HF.out] <;> rfl), below_drewN (below_drewN HBX2.out _) _⟩
            · have HALL : Hid (zs.all (kidB st lv (hs.map Hd.nd) k) = true) := Lib.hid (by
                have h := HTI.out
                rw [List.drop_of_length_le (by omega)] at h
                exact h)
              have hms : decide ((m : Int) < st) = false := decide_eq_false (by have := HV3.out; omega)
              have HNX : Hid (allF (nodeB st ps.length (hs.map Hd.nd)) hs.length 0 = allF (nodeB st ps.length (hs.map Hd.nd)) (hs.length - (k + 1)) (k + 1)) := Lib.hid (by
                rw [HT.out, allF_at HLT.out]
                have h : nodeB st ps.length (hs.map Hd.nd) k = true := by
                  unfold nodeB
                  rw [HND.out]
                  dsimp only
                  rw [HALL.out, decide_eq_true (by have := HV1.out; omega : 1 ≤ lv), decide_eq_true (by have := HV2.out; omega : lv ≤ (ps.length : Int)), decide_eq_true HV3.out]
                  rfl
                rw [h, Bool.true_and])
              have hlt := HLT.out
              clear cg0 cg1 ct1 ct2
              go_wp2
              go_roundw
              case rel => exact ⟨k + 1, HLT.out, (by rw [hw1]; rfl), Lib.hid (below_drewN (HBW.out.trans (HBX.out.mono HBW.out.size)) _), HNX⟩
              case measure => rw [hw1]; simp [intOf]; omega
        · have j3 : ((zs.length : Int) != st) = true := by simpa using v3
          have HF : Hid (rightN st ps (hs.map Hd.nd) = false) := Lib.hid (HBN.out (by unfold nodeB; rw [HND.out]; dsimp only; rw [decide_eq_false v3]; simp))
          go_wp2
          go_ret
          exact ⟨ret_bool (by rw [HF.out] <;> rfl), HBX2.out⟩
      · obtain rfl : k = hs.length := by omega
        obtain ⟨hn1, -⟩ := HLEN.out
        obtain ⟨nb, no, eB, hnb, hl0, -, -⟩ := (HN.out.ext HBW.out).at_ (k := n1) (by omega)
        have hlast : (ndAt (hs.map Hd.nd) ((hs.map Hd.nd).length - 1)).1 = (hs[n1]'(by omega)).lv := by
          rw [List.length_map, show hs.length - 1 = n1 by omega, ndl_at hs (by omega)]
          rfl
        obtain ⟨ll, hll⟩ : ∃ ll, ll = (hs[n1]'(by omega)).lv := ⟨_, rfl⟩
        rw [← hll] at hl0 hlast
        have HF : Hid (rightN st ps (hs.map Hd.nd) = (ll == (ps.length : Int))) := Lib.hid (by
          have h := HT.out
          rw [Nat.sub_self] at h
          unfold rightN headB
          rw [hlast, HH.out, List.length_map, h, decide_eq_true HST.out.1, decide_eq_true HST.out.2, decide_eq_true (by omega : 1 ≤ hs.length), decide_eq_true HLEN.out.2]
          simp [allF, Bool.beq_eq_decide_eq])
        have hwn : wrap64 ((hs.length : Int) - 1) = (n1 : Int) := by have := HLEN.out; unfold wrap64; omega
        have hwn2 : wrap64 (n1 : Int) = (n1 : Int) := by have := HLEN.out; unfold wrap64; omega
        have hidx : ((hs.length : Int) - 1) = (n1 : Int) := by omega
        have hnl : n1 < hs.length := by omega
        have x1 := hpw.cell_ 1 (.slice A ps.length c) rfl
        have x2 := hpw.cell_ 2 (.slice B hs.length d) rfl
        subst eB
        clear hlast hll hn1 hk hlt hpw hnb
        go_wp2
        go_quiet (fail)
        go_wp2
        go_ret
        exact ⟨ret_bool (by rw [HF.out] <;> rfl), below_drewN (HB0.out.trans (HBW.out.mono HB0.out.size)) _⟩
end Go.Proofs.YtojnnfihpiegoaaDoor
namespace Go.Proofs.YtojnnfihpiegoaaDoor
set_option linter.unusedSimpArgs false
set_option linter.unusedVariables false

def clsStep (st : List Nd × List Int) (x : Nd) : List Nd × List Int := (st.1 ++ [(x.1, nxOf st.2 x)], st.2 ++ [(((posOf st.1 (x.1, nxOf st.2 x)).getD st.1.length : Nat) : Int)])
def clsTo (l : List Nd) (k : Nat) : List Nd × List Int := (l.take k).foldl clsStep ([], [])
theorem clsTo_succ (l : List Nd) {k : Nat} (hk : k < l.length) : clsTo l (k + 1) = clsStep (clsTo l k) (ndAt l k) := by
  unfold clsTo
  rw [List.take_succ_eq_append_getElem hk, List.foldl_append, ndAt_get l hk]
  rfl
theorem clsTo_len (l : List Nd) : ∀ k, k ≤ l.length → (clsTo l k).1.length = k ∧ (clsTo l k).2.length = k
  | 0, _ => ⟨rfl, rfl⟩
  | k + 1, hk => by
    obtain ⟨a, b⟩ := clsTo_len l k (by omega)
    rw [clsTo_succ l (by omega)]
    unfold clsStep
    simp [a, b]
theorem posOf_app {ns : List Nd} {x : Nd} {c : Nat} (h : posOf ns x = some c) (y : Nd) : posOf (ns ++ [y]) x = some c := by
  rw [posOf_snoc, h]; rfl
theorem posOf_in : ∀ {ns : List Nd} {x : Nd}, x ∈ ns → ∃ c, posOf ns x = some c := by
  intro ns x hx
  cases h : posOf ns x with
  | some c => exact ⟨c, rfl⟩
  | none => exact absurd hx (posOf_none h)
/-- what holds behind k nodes -/
structure ClI (q : Nat) (l : List Nd) (k : Nat) (st : List Nd × List Int) : Prop where
  nl : st.1.length = k
  tl : st.2.length = k
  lev : Lev q st.1 (· < st.1.length)
  cl : ∀ i, i < k → ∃ c : Nat, st.2.getD i 0 = (c : Int) ∧ c ≤ i ∧ posOf st.1 (ndAt st.1 i) = some c
  kid : ∀ i, i < k → 1 < (ndAt st.1 i).1 → ∀ z ∈ (ndAt st.1 i).2, z < (i : Int) ∧ st.2.getD z.toNat 0 = z
  eqv : ∀ i, i < k → Eqv q st.1 i l i
section
variable {q : Nat} {l : List Nd}
theorem ClI.cc {k : Nat} {st : List Nd × List Int} (h : ClI q l k st) {i : Nat} (hi : i < k) : ∃ c : Nat, st.2.getD i 0 = (c : Int) ∧ c ≤ i ∧ st.2.getD c 0 = (c : Int) ∧ ndAt st.1 c = ndAt st.1 i := by
  obtain ⟨c, e1, e2, e3⟩ := h.cl i hi
  obtain ⟨p1, p2⟩ := posOf_some e3
  obtain ⟨d, f1, f2, f3⟩ := h.cl c (by omega)
  rw [p2, e3] at f3
  injection f3 with f3
  subst f3
  exact ⟨c, e1, e2, f1, p2⟩
theorem ClI.start (q : Nat) (l : List Nd) : ClI q l 0 (clsTo l 0) := by
  refine ⟨rfl, rfl, ⟨fun i h => h, ?_, ?_, ?_⟩, ?_, ?_, ?_⟩
  all_goals intro i h
  all_goals first | exact absurd h (Nat.not_lt_zero _) | (intro h2; exact absurd h2 (Nat.not_lt_zero _))
theorem ClI.step (h : VNd q l) {k : Nat} (hi : ClI q l k (clsTo l k)) (hk : k < l.length) : ClI q l (k + 1) (clsTo l (k + 1)) := by
  rw [clsTo_succ l hk]
  obtain ⟨st, hst⟩ : ∃ st, st = clsTo l k := ⟨_, rfl⟩
  rw [← hst] at hi ⊢
  clear hst
  have hlv1 := h.lev.one k hk
  have hlq := h.lev.len k hk
  obtain ⟨x', hx'⟩ : ∃ x', x' = ((ndAt l k).1, nxOf st.2 (ndAt l k)) := ⟨_, rfl⟩
  obtain ⟨cN, hcN⟩ : ∃ cN, cN = (posOf st.1 x').getD st.1.length := ⟨_, rfl⟩
  have hs : clsStep st (ndAt l k) = (st.1 ++ [x'], st.2 ++ [(cN : Int)]) := by rw [hcN, hx']; rfl
  rw [hs]
  have hnl := hi.nl
  have htl := hi.tl
  have ex1 : x'.1 = (ndAt l k).1 := by rw [hx']
  have hxq : x'.2.length = q := by
    rw [hx']
    dsimp only
    unfold nxOf
    split
    · rw [List.length_map]; exact hlq
    · exact hlq
  have hto : ∀ (v : Int) (i : Nat), i < k → (st.2 ++ [v]).getD i 0 = st.2.getD i 0 := fun v i hik => by
    rw [List.getD_eq_getElem?_getD, List.getElem?_append_left (by omega), ← List.getD_eq_getElem?_getD]
  have htk : ∀ (v : Int), (st.2 ++ [v]).getD k 0 = v := fun v => by
    rw [List.getD_eq_getElem?_getD, List.getElem?_append_right (by omega), htl, Nat.sub_self]
    rfl
  have hnd : ∀ i, i < k → ndAt (st.1 ++ [x']) i = ndAt st.1 i := fun i hik => ndAt_app_lt (by omega) _
  have hnk : ndAt (st.1 ++ [x']) k = x' := by rw [← hnl]; exact ndAt_app_len _ _
  -- the elements
  have hkid : 1 < x'.1 → ∀ z ∈ x'.2, 0 ≤ z ∧ z < (k : Int) ∧ st.2.getD z.toNat 0 = z ∧ (ndAt st.1 z.toNat).1 = x'.1 - 1 := by
    intro hl z hz
    rw [hx'] at hl hz ⊢
    dsimp only at hl hz ⊢
    unfold nxOf at hz
    rw [if_pos hl] at hz
    obtain ⟨y, hy, rfl⟩ := List.mem_map.1 hz
    obtain ⟨p1, p2, p3⟩ := h.lev.kids k hk hl y hy
    have p4 := h.ordk k hk hl y hy
    obtain ⟨c, e1, e2, e3, e4⟩ := hi.cc (i := y.toNat) (by omega)
    rw [e1]
    refine ⟨by omega, by omega, by rw [Int.toNat_natCast]; exact e3, ?_⟩
    rw [Int.toNat_natCast, e4, (hi.eqv y.toNat (by omega)).1]
    exact p3
  have hlen : (st.1 ++ [x']).length = k + 1 := by simp [hnl]
  have hcase : ∀ i, i < k + 1 → (i < k ∧ ndAt (st.1 ++ [x']) i = ndAt st.1 i) ∨ (i = k ∧ ndAt (st.1 ++ [x']) i = x') := by
    intro i hi'
    rcases Nat.lt_or_ge i k with h1 | h1
    · exact .inl ⟨h1, hnd i h1⟩
    · obtain rfl : i = k := by omega
      exact .inr ⟨rfl, hnk⟩
  have hposk : posOf (st.1 ++ [x']) x' = some cN ∧ cN ≤ k := by
    rw [posOf_snoc, hcN]
    cases hp : posOf st.1 x' with
    | some c => exact ⟨rfl, by have := (posOf_some hp).1; show c ≤ k; omega⟩
    | none => exact ⟨by simp, by simp [hnl]⟩
  refine ⟨hlen, by simp [htl], ⟨fun i hi => hi, fun i hi' => ?_, fun i hi' => ?_, fun i hi' hl z hz => ?_⟩, fun i hi' => ?_, fun i hi' hl z hz => ?_, fun i hi' => ?_⟩
  · rcases hcase i (by rw [hlen] at hi'; exact hi') with ⟨h1, e⟩ | ⟨h1, e⟩ <;> dsimp only <;> rw [e]
    · exact hi.lev.len i (by omega)
    · exact hxq
  · rcases hcase i (by rw [hlen] at hi'; exact hi') with ⟨h1, e⟩ | ⟨h1, e⟩ <;> dsimp only <;> rw [e]
    · exact hi.lev.one i (by omega)
    · rw [ex1]; exact hlv1
  · rcases hcase i (by rw [hlen] at hi'; exact hi') with ⟨h1, e⟩ | ⟨h1, e⟩ <;> dsimp only at * <;> rw [e] at hl hz ⊢
    · obtain ⟨p1, p2, p3⟩ := hi.lev.kids i (by omega) hl z hz
      exact ⟨p1, by rw [hlen]; omega, by rw [hnd _ (by omega)]; exact p3⟩
    · obtain ⟨p1, p2, -, p3⟩ := hkid hl z hz
      exact ⟨p1, by rw [hlen]; omega, by rw [hnd _ (by omega)]; exact p3⟩
  · dsimp only
    rcases hcase i hi' with ⟨h1, e⟩ | ⟨h1, e⟩
    · rw [e, hto _ _ h1]
      obtain ⟨c, e1, e2, e3⟩ := hi.cl i h1
      exact ⟨c, e1, e2, posOf_app e3 _⟩
    · rw [e, h1, htk]
      exact ⟨cN, rfl, hposk.2, hposk.1⟩
  · dsimp only at *
    rcases hcase i hi' with ⟨h1, e⟩ | ⟨h1, e⟩ <;> rw [e] at hl hz
    · obtain ⟨p1, p2⟩ := hi.kid i h1 hl z hz
      have p3 := (hi.lev.kids i (by omega) hl z hz).1
      exact ⟨p1, by rw [hto _ _ (by omega)]; exact p2⟩
    · obtain ⟨p1, p2, p3, -⟩ := hkid hl z hz
      exact ⟨by omega, by rw [hto _ _ (by omega)]; exact p3⟩
  · dsimp only
    rcases Nat.lt_or_ge i k with h1 | h1
    · exact (Eqv.app hi.lev [x'] (ndAt st.1 i).1.toNat i (by have := hi.lev.one i (by omega); omega) (by omega)).trans (hi.eqv i h1)
    · obtain rfl : i = k := by omega
      refine ⟨by rw [hnk]; exact ex1, fun ins hl hq => ?_⟩
      rw [hnk] at hl
      cases ins with
      | nil => simp at hl; omega
      | cons s r =>
        have hsq : s < q := hq s (by simp)
        simp only [val, Int.toNat_natCast, hnk]
        by_cases hlv : 1 < (ndAt l i).1
        · have hx2 : x'.2 = (ndAt l i).2.map (fun z => st.2.getD z.toNat 0) := by
            rw [hx']
            dsimp only
            unfold nxOf
            rw [if_pos hlv]
          have hg : x'.2.getD s 0 = st.2.getD ((ndAt l i).2.getD s 0).toNat 0 := by
            rw [hx2, List.getD_eq_getElem?_getD, List.getElem?_map, List.getElem?_eq_getElem (by omega : s < (ndAt l i).2.length)]
            rw [List.getD_eq_getElem?_getD (l := (ndAt l i).2), List.getElem?_eq_getElem (by omega : s < (ndAt l i).2.length)]
            rfl
          have hm := getD_mem (l := (ndAt l i).2) (s := s) (by omega)
          obtain ⟨z, hz⟩ : ∃ z, z = (ndAt l i).2.getD s 0 := ⟨_, rfl⟩
          rw [← hz] at hg hm ⊢
          obtain ⟨p1, p2, p3⟩ := h.lev.kids i hk hlv z hm
          have p4 := h.ordk i hk hlv z hm
          obtain ⟨c, e1, e2, e3, e4⟩ := hi.cc (i := z.toNat) (by omega)
          rw [hg, e1]
          have E : Eqv q (st.1 ++ [x']) c l z.toNat :=
            ((Eqv.app hi.lev [x'] (ndAt st.1 c).1.toNat c (by have := hi.lev.one c (by omega); omega) (by omega)).trans (Eqv.node e4 (hi.lev.one c (by omega)))).trans (hi.eqv z.toNat (by omega))
          have := E.2 r (by rw [E.1, p3, ← ex1]; simp at hl; omega) (fun u hu => hq u (by simp [hu]))
          rw [toNat_cast p1] at this
          exact this
        · have hr : r = [] := by
            cases r with
            | nil => rfl
            | cons _ _ => rw [ex1] at hl; simp at hl; omega
          subst hr
          rw [hx']
          simp only [val, nxOf]
          rw [if_neg hlv]
theorem ClI.all (h : VNd q l) : ∀ k, k ≤ l.length → ClI q l k (clsTo l k)
  | 0, _ => ClI.start q l
  | k + 1, hk => (ClI.all h k (by omega)).step h (by omega)
/-- the nodes that stand for their class -/
def reps (l : List Nd) (i : Nat) : Prop := i < l.length ∧ (clsTo l l.length).2.getD i 0 = (i : Int)
theorem ClI.lev' (h : VNd q l) : Lev q (clsTo l l.length).1 (reps l) := by
  have hi := ClI.all h _ (Nat.le_refl _)
  have hnl := hi.nl
  refine ⟨fun i hp => by rw [hnl]; exact hp.1, fun i hp => hi.lev.len i (by rw [hnl]; exact hp.1), fun i hp => hi.lev.one i (by rw [hnl]; exact hp.1), fun i hp hl z hz => ?_⟩
  obtain ⟨p1, p2, p3⟩ := hi.lev.kids i (by rw [hnl]; exact hp.1) hl z hz
  obtain ⟨k1, k2⟩ := hi.kid i hp.1 hl z hz
  exact ⟨p1, ⟨by omega, by rw [toNat_cast p1]; exact k2⟩, p3⟩
theorem ClI.dis' (h : VNd q l) : Dis (clsTo l l.length).1 (reps l) := by
  have hi := ClI.all h _ (Nat.le_refl _)
  intro i j hpi hpj he
  obtain ⟨c, e1, -, e3⟩ := hi.cl i hpi.1
  obtain ⟨d, f1, -, f3⟩ := hi.cl j hpj.1
  rw [he, f3] at e3
  injection e3 with e3
  have := hpi.2
  have := hpj.2
  omega
/-- the root's class -/
def clsRoot (l : List Nd) : Nat := ((clsTo l l.length).2.getD (l.length - 1) 0).toNat
theorem clsRoot_ok (h : VNd q l) (hp : 0 < l.length) : reps l (clsRoot l) ∧ Eqv q (clsTo l l.length).1 (clsRoot l) l (l.length - 1) ∧ (clsTo l l.length).2.getD (l.length - 1) 0 = (clsRoot l : Int) := by
  have hi := ClI.all h _ (Nat.le_refl _)
  obtain ⟨c, e1, e2, e3, e4⟩ := hi.cc (i := l.length - 1) (by omega)
  have hr : clsRoot l = c := by unfold clsRoot; rw [e1]; rfl
  rw [hr]
  exact ⟨⟨by omega, e3⟩, (Eqv.node e4 (hi.lev.one c (by rw [hi.nl]; omega))).trans (hi.eqv _ (by omega)), e1⟩
/-- the nodes of the reference -/
def ordR (l : List Nd) : List Nd := ord (clsTo l l.length).1 100 (clsRoot l)
theorem ordR_eq (h : VNd q l) (hp : 0 < l.length) (hl : (ndAt l (l.length - 1)).1 ≤ 100) : ordR l = redN chR l := by
  obtain ⟨r1, r2, -⟩ := clsRoot_ok h hp
  have hR := RbI.all h (chR_chg q) _ (Nat.le_refl _)
  obtain ⟨g1, g2, g3⟩ := hR.eqv (l.length - 1) (by omega)
  have hch : chgL chR l = l := by unfold chgL chR; simp
  rw [hch] at g3
  exact ord_eq (ClI.lev' h) hR.v.lev (ClI.dis' h) hR.dis (by rw [r2.1]; omega) (by rw [r2.1]; omega) r1 g2 (r2.trans g3.symm)
/-- to rebuild the changed nodes is to rebuild with the change -/
theorem redN_chg {ch : Int → List Int → List Int} (h : VNd q l) (hc : Chg q ch) (hp : 0 < l.length) (hl : (ndAt l (l.length - 1)).1 ≤ 100) : redN chR (chgL ch l) = redN ch l := by
  have hv := h.chg hc
  have hlen := chg_len ch l
  have hR := RbI.all hv (chR_chg q) _ (Nat.le_refl _)
  have hS := RbI.all h hc _ (Nat.le_refl _)
  obtain ⟨g1, g2, g3⟩ := hR.eqv (l.length - 1) (by omega)
  obtain ⟨k1, k2, k3⟩ := hS.eqv (l.length - 1) (by omega)
  have hch : chgL chR (chgL ch l) = chgL ch l := by unfold chgL chR; simp
  rw [hch] at g3
  have hlv : (ndAt (chgL ch l) (l.length - 1)).1 = (ndAt l (l.length - 1)).1 := by rw [chg_at ch (by omega)]
  unfold redN
  rw [hlen] at hR g1 g2 g3 ⊢
  exact ord_eq hR.v.lev hS.v.lev hR.dis hS.dis (by rw [g3.1, hlv]; omega) (by rw [g3.1, hlv]; omega) g2 k2 (g3.trans k3.symm)
end
end Go.Proofs.YtojnnfihpiegoaaDoor
namespace Go.Proofs.YtojnnfihpiegoaaDoor
set_option linter.unusedSimpArgs false
open Go.RowKit
set_option maxRecDepth 100000
set_option linter.unusedVariables false

theorem Tryd.infoInts : (Tryd.prog.info? 31).map (fun i => (i.zero, i.size, i.bytes)) = some (some (.slice none 0 0), 1, 24) := by kernel_rfl
/-- a row of slices grows by one -/
theorem wpList_pushS {P : Program} {wr : World} {ops : Array Oper} {rest : List Oper} {o : Oper} {a : Act} {Q : Exit → Act → World → Prop} (hgd : o.guard = none) (s x : Operand) (t : TypeId)
    (ho : o.op = .call { callee := .builtin .append, args := #[s, x], argTypes := #[t, t] })
    (base : Nat) (e : TypeId) (ht : P.underlying t = some (.slice e)) (hi : (P.info? e).map (fun i => (i.zero, i.size, i.bytes)) = some (some (.slice none 0 0), 1, 24))
    (v : Value) (xs : List Value) (hs : a.eval s = v) (hown : wr.ownsRow base e 1 v xs.length xs)
    (A : Option Addr) (n c : Nat) (hx : a.eval x = .slice (some ⟨wr.heap.size, 0, none⟩) 1 1)
    (hn : xs.length < 1000000000000) (hbase : base ≤ wr.heap.size)
    (h : ∀ v' w', w'.ownsRow base e 1 v' (xs.length + 1) (xs ++ [.slice A n c]) → Kept (fun g => v.ownBlock = some g) wr w' → (v'.ownBlock = v.ownBlock ∨ ∃ g, v'.ownBlock = some g ∧ wr.heap.size ≤ g) → wpList P ops Q rest (a.put o.dst v') w') :
    wpList P ops Q (o :: rest) a (wr.alloc (.cells #[.slice A n c] e)) := by
  obtain ⟨i0, hi0, hz0, hz1, hz2⟩ := info_parts hi
  refine wpList_append_own_at _ hgd s x t ho base e i0 (.slice none 0 0) 1 24 ht hi0 hz0 hz1 hz2 rfl (by decide) v xs.length _ hs (hown.alloc _) ⟨wr.heap.size, 0, none⟩ 1 1 [.slice A n c] hx (by simp) ?_ (by simp [Value.oneCell']) (by unfold maxLen; omega) (by omega) (by simp; omega) ?_
  · intro j u hu
    rw [addr_add]
    have : (wr.alloc (.cells #[.slice A n c] e)).cell? ⟨wr.heap.size, 0 + j, none⟩ = #[Value.slice A n c][0 + j]? := cell_of_row _ _ _ _ _ _ (heap_alloc_new wr _)
    rw [this]
    cases j with
    | zero => simpa using hu
    | succ j => simp at hu
  · intro v' w' hown' hg _ hat
    refine h v' w' hown' (((Kept.refl _ wr).alloc _).grown hg fun g hg => Or.inl hg) ?_
    rcases hat with hat | hat
    · exact .inl hat
    · exact .inr ⟨_, hat, by simp⟩
/-- the row of the elements' lists and the classes -/
structure ClW (B : Nat) (l : List Nd) (k : Nat) (cv nv : Value) (vs : List Hd) (w : World) : Prop where
  cr : OwnIA w B cv (clsTo l k).2
  nr : w.ownsRow B 31 1 nv vs.length (vs.map Hd.val)
  ne : ∀ x ∈ vs, OwnIA w B x.val x.zs
  eq : vs.map Hd.nd = (clsTo l k).1
  ap : ∀ x ∈ vs, ∀ g, x.val.ownBlock = some g → cv.ownBlock ≠ some g
section
variable {B : Nat} {l : List Nd} {k : Nat} {cv nv : Value} {vs : List Hd} {w w' w1 w2 : World}
theorem ClW.ext (h : ClW B l k cv nv vs w) (hb : Below w.heap.size w w') : ClW B l k cv nv vs w' :=
  ⟨h.cr.ext hb, own_below h.nr hb, fun x hx => (h.ne x hx).ext hb, h.eq, h.ap⟩
theorem ClW.start (B : Nat) (l : List Nd) (w : World) : ClW B l 0 (.slice none 0 0) (.slice none 0 0) [] w :=
  ⟨OwnI.nil _ _ _, World.ownsRow_nil _ _ _ _, fun _ h => absurd h (by simp), rfl, fun _ h => absurd h (by simp)⟩
/-- a list among the lists -/
theorem ClW.at_ (h : ClW B l k cv nv vs w) {j : Nat} (hj : j < vs.length) : ∃ A b o c, nv = .slice (some ⟨b, o, none⟩) vs.length c ∧ w.cell? ⟨b, o + j, none⟩ = some (.slice A vs[j].zs.length vs[j].c) ∧ A = vs[j].A ∧ Ints w A vs[j].zs := by
  obtain ⟨A, c, rfl, hr, -⟩ := own_form h.nr
  obtain ⟨ad, e, hb, hc⟩ := hr.1.2 (by omega)
  have h0 := hc 0 _ (by rw [List.getElem?_map, List.getElem?_eq_getElem (by omega : 0 < vs.length)]; rfl)
  have h1 := hc j _ (by rw [List.getElem?_map, List.getElem?_eq_getElem hj]; rfl)
  obtain ⟨b, o, sp⟩ := ad
  obtain rfl := spot_none h0
  rw [addr_add] at h1
  subst e
  refine ⟨_, b, o, c, rfl, h1, rfl, (h.ne _ (List.getElem_mem hj)).reads⟩
theorem ClW.push (h : ClW B l k cv nv vs w) (hk : k < l.length) {A : Option Addr} {c : Nat} {zs : List Int} {W0 : Nat} (hzs : zs = nxOf (clsTo l k).2 (ndAt l k)) (hx : OwnIA w W0 (.slice A zs.length c) zs) (hB : B ≤ W0) (hcW : ∀ g, cv.ownBlock = some g → g < W0)
    {cv' nv' : Value} (ho : OwnIA w1 B cv' ((clsTo l k).2 ++ [(((posOf (clsTo l k).1 ((ndAt l k).1, zs)).getD k : Nat) : Int)])) (hk1 : Kept (fun g => cv.ownBlock = some g) w w1) (hm1 : Moved cv cv' w)
    (hs : w2.ownsRow B 31 1 nv' (vs.length + 1) (vs.map Hd.val ++ [.slice A zs.length c])) (hk2 : Kept (fun g => nv.ownBlock = some g) w1 w2) :
    ClW B l (k + 1) cv' nv' (vs ++ [⟨(ndAt l k).1, A, c, zs⟩]) w2 := by
  have hlen : (clsTo l k).1.length = k := (clsTo_len l k (by omega)).1
  have e2 : (clsTo l (k + 1)) = ((clsTo l k).1 ++ [((ndAt l k).1, zs)], (clsTo l k).2 ++ [(((posOf (clsTo l k).1 ((ndAt l k).1, zs)).getD k : Nat) : Int)]) := by
    rw [clsTo_succ l hk]
    unfold clsStep
    rw [← hzs, hlen]
  have nr1 : w1.ownsRow B 31 1 nv vs.length (vs.map Hd.val) := hk1.own h.nr (fun g e1 e2 => own_ne h.cr h.nr (by decide) e2 e1)
  have hxb : OwnIA w B (.slice A zs.length c) zs := hx.down hB
  have hnx : ∀ g, (Value.slice A zs.length c).ownBlock = some g → cv.ownBlock ≠ some g := fun g e1 e2 => by
    have := (own_lt' hx e1).2
    have := hcW g e2
    omega
  refine ⟨?_, ?_, fun x hxm => ?_, ?_, fun x hxm g e1 e2 => ?_⟩
  · rw [e2]
    exact hk2.own ho (fun g e1 e2 => own_ne ho nr1 (by decide) e1 e2)
  · rw [List.length_append, List.map_append]
    exact hs
  · rcases List.mem_append.1 hxm with hxm | hxm
    · have h1 := hk1.own (h.ne x hxm) (fun g e1 e2 => h.ap x hxm g e1 e2)
      exact hk2.own h1 (fun g e1 e2 => own_ne h1 nr1 (by decide) e1 e2)
    · rw [List.mem_singleton] at hxm
      subst hxm
      have h1 := hk1.own hxb hnx
      exact hk2.own h1 (fun g e1 e2 => own_ne h1 nr1 (by decide) e1 e2)
  · rw [e2, List.map_append, h.eq]
    rfl
  · have hold : g < w.heap.size ∧ cv.ownBlock ≠ some g := by
      rcases List.mem_append.1 hxm with hxm | hxm
      · exact ⟨(own_lt' (h.ne x hxm) e1).1, h.ap x hxm g e1⟩
      · rw [List.mem_singleton] at hxm
        subst hxm
        exact ⟨(own_lt' hxb e1).1, hnx g e1⟩
    rcases hm1 with hm1 | ⟨g', hm1, hg⟩
    · rw [hm1] at e2; exact hold.2 e2
    · rw [hm1] at e2
      injection e2 with e2
      omega
end
end Go.Proofs.YtojnnfihpiegoaaDoor
namespace Go.Proofs.YtojnnfihpiegoaaDoor
open Go.RowKit
set_option maxRecDepth 100000
set_option linter.unusedVariables false
set_option linter.unusedSimpArgs false

theorem first_at {N : List Nd} {x : Nd} {j : Nat} (hj : j < N.length) (k : Nat) : ((posOf (N.drop j) x).map (· + j)).getD k = if ndAt N j = x then j else ((posOf (N.drop (j + 1)) x).map (· + (j + 1))).getD k := by
  rw [List.drop_eq_getElem_cons hj, ndAt_get N hj]
  rw [show posOf (N[j] :: N.drop (j + 1)) x = if N[j] = x then some 0 else (posOf (N.drop (j + 1)) x).map (· + 1) from rfl]
  by_cases h : N[j] = x
  · rw [if_pos h, if_pos h]
    simp
  · rw [if_neg h, if_neg h]
    cases hp : posOf (N.drop (j + 1)) x with
    | none => rfl
    | some i => simp only [Option.map_some, Option.getD_some]; omega
theorem first_zero (N : List Nd) (x : Nd) (k : Nat) : ((posOf (N.drop 0) x).map (· + 0)).getD k = (posOf N x).getD k := by
  simp
theorem first_end (N : List Nd) (x : Nd) : ((posOf (N.drop N.length) x).map (· + N.length)).getD N.length = N.length := by
  rw [List.drop_length]
  rfl
theorem nx_take {tv : List Int} {x : Nd} {m : Nat} (hm : m < x.2.length) : (nxOf tv x).take (m + 1) = (nxOf tv x).take m ++ [if 1 < x.1 then tv.getD (x.2[m]).toNat 0 else x.2[m]] := by
  unfold nxOf
  by_cases h : 1 < x.1
  · rw [if_pos h, if_pos h, List.take_succ_eq_append_getElem (by rw [List.length_map]; exact hm), List.getElem_map]
  · rw [if_neg h, if_neg h, List.take_succ_eq_append_getElem hm]
theorem nx_len (tv : List Int) (x : Nd) : (nxOf tv x).length = x.2.length := by
  unfold nxOf
  split
  · exact List.length_map _
  · rfl
set_option maxHeartbeats 16000000 in
theorem classes_any (B0 : Option Addr) (d : Nat) (hs : List Hd) (w : World) (hN : Nds w B0 hs) {q : Nat} (hv : VNd q (hs.map Hd.nd)) (hL : hs.length ≤ 900000000000) (hq : q ≤ 1000000) :
    Calls Tryd.prog 62 #[.slice B0 hs.length d] w fun e w' => ∃ A c, e = .returned (.slice A hs.length c) ∧ Ints w' A (clsTo (hs.map Hd.nd) hs.length).2 ∧ Below w.heap.size w w' := by
  have HN := Lib.hid hN
  have HV := Lib.hid hv
  have HL := Lib.hid hL
  have HQ := Lib.hid hq
  clear hN hv hL hq
  go_enter Tryd.func62, Tryd.ntmps62
  go_wp2
  go_loopw [3, 4, 5] (fun cv nv i wr => ∃ (k : Nat) (vs : List Hd), k ≤ hs.length ∧ i = .int .i64 k ∧ Hid (vs.length = k) ∧ Hid (ClW w.heap.size (hs.map Hd.nd) k cv nv vs wr) ∧ Hid (Below w.heap.size w wr)) (fun _ _ i _ => hs.length - (intOf i).toNat)
  case atStart => exact ⟨0, [], Nat.zero_le _, rfl, Lib.hid rfl, Lib.hid (ClW.start _ _ _), Lib.hid (Below.refl _ _)⟩
  case round =>
    obtain ⟨k, vs, hk, rfl, HVL, HC, HB⟩ := hrel
    obtain ⟨Wo, rfl⟩ : ∃ Wo, Wo = wr := ⟨_, rfl⟩
    by_cases hlt : k < hs.length
    · have hw1 : wrap64 ((k : Int) + 1) = (k : Int) + 1 := by have := HL.out; unfold wrap64; omega
      have hndk := ndl_at hs hlt
      obtain ⟨b1, o1, eb1, hb1, -, -, -⟩ := (HN.out.ext HB.out).at_ hlt
      obtain ⟨x, hx⟩ : ∃ x, x = hs[k] := ⟨_, rfl⟩
      have hat : ∀ W, Below w.heap.size w W → W.cell? ⟨b1, o1 + k * 2, none⟩ = some (.int .i64 x.lv) ∧ W.cell? ⟨b1, o1 + k * 2 + 1, none⟩ = some (.slice x.A x.zs.length x.c) ∧ Ints W x.A x.zs := fun W hW => by
        obtain ⟨b, o, e, -, h1, h2, h3⟩ := (HN.out.ext hW).at_ hlt
        rw [eb1] at e
        injection e with e
        injection e with e1 e2
        subst e1 e2
        rw [← hx] at h1 h2 h3
        exact ⟨h1, h2, h3⟩
      rw [← hx] at hndk
      have hlq := HV.out.lev.len k (by rw [List.length_map]; exact hlt)
      have hkids := HV.out.lev.kids k (by rw [List.length_map]; exact hlt)
      have hord := HV.out.ordk k (by rw [List.length_map]; exact hlt)
      obtain ⟨lv, zA, zc, zs⟩ := x
      dsimp only at hat
      change ndAt (hs.map Hd.nd) k = (lv, zs) at hndk
      rw [hndk] at hlq hkids hord
      dsimp only at hlq hkids hord
      have HND := Lib.hid hndk
      have HAT := Lib.hid hat
      have HLT := Lib.hid hlt
      have HZQ : Hid (zs.length ≤ 1000000) := Lib.hid (by have := HQ.out; omega)
      have HKID : Hid (1 < lv → ∀ z ∈ zs, 0 ≤ z ∧ z < (k : Int)) := Lib.hid (fun h z hz => ⟨(hkids h z hz).1, hord h z hz⟩)
      obtain ⟨cl, hcl⟩ : ∃ cl, cl = (clsTo (hs.map Hd.nd) k).2 := ⟨_, rfl⟩
      have hcll : cl.length = k := by rw [hcl]; exact (clsTo_len _ k (by rw [List.length_map]; exact hk)).2
      obtain ⟨cA, cc, rfl, hci, hcn⟩ := HC.out.cr.ints
      rw [← hcl] at hci
      rw [show (clsTo (hs.map Hd.nd) k).2.length = cl.length from by rw [hcl]] at *
      have HCI := Lib.hid hci
      have HCL := Lib.hid hcl
      have HCLL := Lib.hid hcll
      subst eb1
      obtain ⟨h0, h1, hzi⟩ := hat Wo HB.out
      have HZI := Lib.hid hzi
      clear hb1 hx hndk hat hlq hkids hord hcl hcll hci hcn hk hlt hzi
      have hlt := HLT.out
      go_wp2
      clear h0 h1
      go_loopw [6, 7] (fun nx s wi => ∃ (m : Nat), m ≤ zs.length ∧ s = .int .i64 m ∧ Hid (OwnIA wi Wo.heap.size nx ((nxOf cl (lv, zs)).take m)) ∧ Hid (Below Wo.heap.size Wo wi)) (fun _ s _ => zs.length - (intOf s).toNat)
      case atStart => exact ⟨0, Nat.zero_le _, rfl, Lib.hid (OwnI.nil _ _ _), Lib.hid (Below.refl _ _)⟩
      case round =>
        obtain ⟨m, hm, rfl, HO, HBI⟩ := hrel
        obtain ⟨g0, g1, -⟩ := HAT.out wr (HB.out.trans (HBI.out.mono HB.out.size))
        have hwm : wrap64 ((m : Int) + 1) = (m : Int) + 1 := by have := HZQ.out; unfold wrap64; omega
        by_cases hml : m < zs.length
        · obtain ⟨bz, oz, ez, -, hcm⟩ := (HZI.out.ext HBI.out).at_ hml
          have HST := Lib.hid (nx_take (tv := cl) (x := (lv, zs)) hml)
          have HKM : Hid (1 < lv → 0 ≤ zs[m] ∧ zs[m] < (k : Int)) := Lib.hid (fun h => HKID.out h _ (List.getElem_mem hml))
          obtain ⟨z, hz⟩ : ∃ z, z = zs[m] := ⟨_, rfl⟩
          dsimp only at HST
          rw [← hz] at hcm HST HKM
          subst ez
          have hown := HO.out
          have hnl : ((nxOf cl (lv, zs)).take m).length < 1000000000000 := by rw [List.length_take]; have := HZQ.out; omega
          clear hz
          by_cases hl1 : 1 < lv
          · have d1 : decide (1 < lv) = true := decide_eq_true hl1
            obtain ⟨z0, zk⟩ := HKM.out hl1
            have hst := HST.out
            rw [if_pos hl1] at hst
            obtain ⟨zn, rfl⟩ : ∃ zn : Nat, z = zn := ⟨z.toNat, by omega⟩
            have hznk : zn < cl.length := by have := HCLL.out; omega
            obtain ⟨bc, oc, ec, -, hcc⟩ := (HCI.out.ext HBI.out).at_ hznk
            have hget : cl.getD zn 0 = cl[zn] := by rw [List.getD_eq_getElem?_getD, List.getElem?_eq_getElem hznk]; rfl
            rw [Int.toNat_natCast, hget] at hst
            obtain ⟨y, hy⟩ : ∃ y, y = cl[zn] := ⟨_, rfl⟩
            rw [← hy] at hcc hst
            have HSN := Lib.hid hst
            subst ec
            clear hl1 z0 zk hst hget hy
            go_wp2_with (at_builtin; refine wpList_pushI rfl _ _ _ rfl _ 3 Tryd.underlying31 Tryd.infoInt _ _ rfl hown _ rfl hnl HBI.out.size ?_)
            intro v' w' ho' hb'
            have HO2 : Hid (OwnIA w' Wo.heap.size v' ((nxOf cl (lv, zs)).take (m + 1))) := Lib.hid (by rw [HSN.out]; exact ho')
            have HB2 := Lib.hid (HBI.out.trans hb')
            clear ho' hb' hown
            go_wp2
            go_roundw
            case rel => exact ⟨m + 1, hml, (by rw [hwm]; rfl), HO2, HB2⟩
            case measure => rw [hwm]; simp [intOf]; omega
          · have d1 : decide (1 < lv) = false := decide_eq_false hl1
            have hst := HST.out
            rw [if_neg hl1] at hst
            have HSN := Lib.hid hst
            clear hl1 hst
            go_wp2_with (at_builtin; refine wpList_pushI rfl _ _ _ rfl _ 3 Tryd.underlying31 Tryd.infoInt _ _ rfl hown _ rfl hnl HBI.out.size ?_)
            intro v' w' ho' hb'
            have HO2 : Hid (OwnIA w' Wo.heap.size v' ((nxOf cl (lv, zs)).take (m + 1))) := Lib.hid (by rw [HSN.out]; exact ho')
            have HB2 := Lib.hid (HBI.out.trans hb')
            clear ho' hb' hown
            go_wp2
            go_roundw
            case rel => exact ⟨m + 1, hml, (by rw [hwm]; rfl), HO2, HB2⟩
            case measure => rw [hwm]; simp [intOf]; omega
        · obtain rfl : m = zs.length := by omega
          have ho9 := HO.out
          rw [List.take_of_length_le (by rw [nx_len]; exact Nat.le_refl _)] at ho9
          obtain ⟨nxs, hnxs⟩ : ∃ nxs, nxs = nxOf cl (lv, zs) := ⟨_, rfl⟩
          rw [← hnxs] at ho9
          have hnxl : nxs.length = zs.length := by rw [hnxs]; exact nx_len _ _
          obtain ⟨xA, xc, rfl, hxi, hxn⟩ := ho9.ints
          obtain ⟨N, hN⟩ : ∃ N, N = (clsTo (hs.map Hd.nd) k).1 := ⟨_, rfl⟩
          have hNl : N.length = k := by rw [hN]; exact (clsTo_len _ k (by rw [List.length_map]; exact Nat.le_of_lt HLT.out)).1
          have hNe : vs.map Hd.nd = N := by rw [hN]; exact HC.out.eq
          have HO9 := Lib.hid ho9
          have HNX := Lib.hid hnxs
          have HNXL := Lib.hid hnxl
          have HXI := Lib.hid hxi
          have HNN := Lib.hid hN
          have HNL := Lib.hid hNl
          have HNE := Lib.hid hNe
          have HC2 := Lib.hid (HC.out.ext HBI.out)
          have hwk : wrap64 ((k : Int) - 1) = (k : Int) - 1 := by have := HL.out; have := HLT.out; unfold wrap64; omega
          obtain ⟨W2, rfl⟩ : ∃ W2, W2 = wr := ⟨_, rfl⟩
          clear ho9 hnxs hnxl hxi hxn hN hNl hNe HO
          go_wp2
          clear g0 g1 hml
          go_loopw [9, 10] (fun f j wi => ∃ (t : Nat), t ≤ k ∧ j = .int .i64 ((t : Int) - 1) ∧ f = .int .i64 ((((posOf (N.drop t) (lv, nxs)).map (· + t)).getD k : Nat) : Int) ∧ Hid (Qt W2 wi)) (fun _ j _ => (intOf j + 1).toNat)
          case atStart => exact ⟨k, Nat.le_refl _, (by rw [hwk]), (by rw [← HNL.out, first_end]), Lib.hid (Qt.refl _)⟩
          case round =>
            clear hwk
            obtain ⟨t, ht, rfl, rfl, HQT⟩ := hrel
            have HBQ := Lib.hid (HQT.out.below W2.heap.size)
            clear hm
            cases t with
            | succ j =>
              have hje : (((j + 1 : Nat) : Int) - 1) = (j : Int) := by omega
              rw [hje]
              have hjk : j < k := ht
              have hjl : j < hs.length := by have := HLT.out; omega
              have hjv : j < vs.length := by have := HVL.out; omega
              have hjn : j < N.length := by have := HNL.out; omega
              have hwj : wrap64 ((j : Int) - 1) = (j : Int) - 1 := by have := HL.out; unfold wrap64; omega
              have hge : decide ((0 : Int) ≤ (j : Int)) = true := decide_eq_true (by omega)
              obtain ⟨b', o', e', -, n0, -, -⟩ := (HN.out.ext ((HB.out.trans (HBI.out.mono HB.out.size)).trans (HBQ.out.mono (Nat.le_trans HB.out.size HBI.out.size)))).at_ hjl
              injection e' with e'
              injection e' with e1 e2
              subst e1 e2
              have hi := ClI.all HV.out k (by rw [List.length_map]; exact Nat.le_of_lt HLT.out)
              have hlev : (ndAt N j).1 = (hs[j]).lv := by
                have h1 := (hi.eqv j hjk).1
                rw [← HNN.out, ndl_at hs hjl] at h1
                exact h1
              have hnj : ndAt N j = vs[j].nd := by rw [← HNE.out]; exact nd_at vs hjv
              obtain ⟨vA, bN, oN, cN, rfl, hcN, hvA, hvi⟩ := (HC2.out.ext HBQ.out).at_ hjv
              obtain ⟨ly, hly⟩ : ∃ ly, ly = (hs[j]).lv := ⟨_, rfl⟩
              rw [← hly] at n0 hlev
              obtain ⟨y, hy⟩ : ∃ y, y = vs[j] := ⟨_, rfl⟩
              rw [← hy] at hcN hvA hvi hnj
              obtain ⟨yl, yA, yc, ys⟩ := y
              dsimp only at hcN hvA hvi
              subst hvA
              change ndAt N j = (yl, ys) at hnj
              rw [hnj] at hlev
              dsimp only at hlev
              have hlev := hlev.symm
              subst hlev
              obtain ⟨m0, m1, -⟩ := HAT.out wr ((HB.out.trans (HBI.out.mono HB.out.size)).trans (HBQ.out.mono (Nat.le_trans HB.out.size HBI.out.size)))
              have HFA := Lib.hid (first_at (x := (lv, nxs)) hjn k)
              rw [hnj] at HFA
              obtain ⟨fo, hfo⟩ : ∃ fo : Nat, fo = ((posOf (N.drop (j + 1)) (lv, nxs)).map (· + (j + 1))).getD k := ⟨_, rfl⟩
              rw [← hfo] at HFA ⊢
              have HVI := Lib.hid hvi
              have HJK := Lib.hid hjk
              have HJN := Lib.hid hjv
              have hnl : nxs.length ≤ 9223372036854775807 := HXI.out.le
              clear ht hje hjk hjn hi hnj hly hy hvi hfo
              by_cases hl2 : ly = lv
              · have d1 : (ly == lv) = true := by simp [hl2]
                by_cases hzz : ys = nxs
                · have HF2 : Hid (((posOf (N.drop j) (lv, nxs)).map (· + j)).getD k = j) := Lib.hid (by rw [HFA.out, if_pos (by rw [hl2, hzz])])
                  have HCALL := Lib.hid (fun n => rsame_any vA xA ys nxs yc xc (wr.drewN n) (HVI.out.drewN n) ((HXI.out.ext HBQ.out).drewN n))
                  rw [show decide (ys = nxs) = true from decide_eq_true hzz] at HCALL
                  clear hl2 hzz
                  go_wp2
                  go_quiet ((go_at_call 72; exact Calls.quiet_of (HCALL.out _)))
                  go_wp2
                  go_roundw
                  case rel => exact ⟨j, Nat.le_of_lt HJK.out, (by rw [hwj]), (by rw [HF2.out]), Lib.hid (HQT.out.step _)⟩
                  case measure => rw [hwj]; all_goals (first | done | (simp [intOf]; done) | (simp [intOf]; omega))
                · have HF2 : Hid (((posOf (N.drop j) (lv, nxs)).map (· + j)).getD k = fo) := Lib.hid (by rw [HFA.out, if_neg (by rintro h; injection h with h1 h2; exact hzz h2)])
                  have HCALL := Lib.hid (fun n => rsame_any vA xA ys nxs yc xc (wr.drewN n) (HVI.out.drewN n) ((HXI.out.ext HBQ.out).drewN n))
                  rw [show decide (ys = nxs) = false from decide_eq_false hzz] at HCALL
                  clear hl2 hzz
                  go_wp2
                  go_quiet ((go_at_call 72; exact Calls.quiet_of (HCALL.out _)))
                  go_wp2
                  go_roundw
                  case rel => exact ⟨j, Nat.le_of_lt HJK.out, (by rw [hwj]), (by rw [HF2.out]), Lib.hid (HQT.out.step _)⟩
                  case measure => rw [hwj]; all_goals (first | done | (simp [intOf]; done) | (simp [intOf]; omega))
              · have d1 : (ly == lv) = false := by simpa using hl2
                have HF2 : Hid (((posOf (N.drop j) (lv, nxs)).map (· + j)).getD k = fo) := Lib.hid (by rw [HFA.out, if_neg (by rintro h; injection h with h1 h2; exact hl2 h1)])
                clear hl2
                go_wp2
                go_quiet (fail)
                go_wp2
                go_roundw
                case rel => exact ⟨j, Nat.le_of_lt HJK.out, (by rw [hwj]), (by rw [HF2.out]), Lib.hid (HQT.out.step _)⟩
                case measure => rw [hwj]; all_goals (first | done | (simp [intOf]; done) | (simp [intOf]; omega))
            | zero =>
              have hge : decide ((0 : Int) ≤ ((0 : Nat) : Int) - 1) = false := by decide
              obtain ⟨first, hfirst⟩ : ∃ first : Nat, first = ((posOf (N.drop 0) (lv, nxs)).map (· + 0)).getD k := ⟨_, rfl⟩
              rw [← hfirst]
              rw [first_zero] at hfirst
              have HF := Lib.hid hfirst
              clear hfirst ht
              have hj0 : (((0 : Nat) : Int) - 1) = -1 := rfl
              rw [hj0] at hge ⊢
              have HC3 := Lib.hid (HC2.out.ext HBQ.out)
              have HX3 := Lib.hid (HO9.out.ext HBQ.out)
              have HB3 := Lib.hid (HBI.out.trans (HBQ.out.mono HBI.out.size))
              have hcr : OwnIA wr w.heap.size (.slice cA cl.length cc) cl := by
                have := HC3.out.cr
                rw [← HCL.out] at this
                exact this
              have hcll : cl.length < 1000000000000 := by have := HCLL.out; have := HLT.out; have := HL.out; omega
              have hws : w.heap.size ≤ wr.heap.size := Nat.le_trans HB.out.size HB3.out.size
              clear hj0
              go_wp2_with (at_builtin; refine wpList_pushIk rfl _ _ _ rfl w.heap.size 3 Tryd.underlying31 Tryd.infoInt _ _ rfl hcr _ rfl hcll hws ?_)
              intro cv' w4 ho4 hk4 hm4
              have HO4 := Lib.hid ho4
              have HK4 := Lib.hid hk4
              have HM4 := Lib.hid hm4
              have hnr : w4.ownsRow w.heap.size 31 1 u4 (vs.map Hd.val).length (vs.map Hd.val) := by
                rw [List.length_map]
                exact HK4.out.own HC3.out.nr (fun g e1 e2 => own_ne HC3.out.cr HC3.out.nr (by decide) e2 e1)
              have hvl : (vs.map Hd.val).length < 1000000000000 := by rw [List.length_map]; have := HVL.out; have := HLT.out; have := HL.out; omega
              have hws4 : w.heap.size ≤ w4.heap.size := Nat.le_trans hws hk4.below.size
              clear ho4 hk4 hm4 hcr hcll
              go_wp2_with (at_builtin; refine wpList_pushS rfl _ _ _ rfl w.heap.size 31 Tryd.underlying72 Tryd.infoInts _ _ rfl hnr xA nxs.length xc rfl hvl hws4 ?_)
              intro nv' w5 ho5 hk5 hm5
              have HCN : Hid (ClW w.heap.size (hs.map Hd.nd) (k + 1) cv' nv' (vs ++ [⟨lv, xA, xc, nxs⟩]) w5) := Lib.hid (by
                have hp := HC3.out.push (w1 := w4) (w2 := w5) (W0 := Wo.heap.size) (A := xA) (c := xc) (zs := nxs) (cv' := cv') (nv' := nv') (by rw [List.length_map]; exact HLT.out) (by rw [HNX.out, HCL.out, HND.out]) HX3.out HB.out.size (fun g e => (own_lt' HC.out.cr e).1)
                  (by
                    have h := HO4.out
                    rw [HND.out]
                    dsimp only
                    rw [← HCL.out, ← HNN.out, ← HF.out]
                    exact h) HK4.out HM4.out ho5 hk5
                rw [HND.out] at hp
                exact hp)
              have HBN : Hid (Below w.heap.size w w5) := Lib.hid (((HB.out.trans (HB3.out.mono HB.out.size)).trans (HK4.out.to_below hws (fun g hg e => by have := (own_lt' HC3.out.cr e).2; omega))).trans (hk5.to_below hws4 (fun g hg e => by have := (own_lt' hnr e).2; omega)))
              clear ho5 hk5 hm5 hnr hvl hws hws4
              go_wp2
              go_roundw
              case rel => exact ⟨k + 1, vs ++ [⟨lv, xA, xc, nxs⟩], HLT.out, (by rw [hw1]; rfl), Lib.hid (by rw [List.length_append, HVL.out]; rfl), HCN, HBN⟩
              case measure => rw [hw1]; have := HLT.out; simp [intOf]; omega
    · obtain rfl : k = hs.length := by omega
      obtain ⟨cA, cc, rfl, hci, -⟩ := HC.out.cr.ints
      have hcl : (clsTo (hs.map Hd.nd) hs.length).2.length = hs.length := (clsTo_len _ _ (by rw [List.length_map]; exact Nat.le_refl _)).2
      have HCI := Lib.hid hci
      have HCL := Lib.hid hcl
      clear hci hcl
      go_wp2
      go_ret
      exact ⟨cA, cc, by rw [HCL.out] <;> rfl, HCI.out, HB.out⟩
end Go.Proofs.YtojnnfihpiegoaaDoor
