/-
  cellularlaw14.TotaltreeRows: the walk. No condition but that the library's table is there.
-/
import Derived.Test.YtmlhkbgifnifdaaDoorZAlive
import Derived.Test.YtmlhkbgifnifdaaDoorZG23
namespace Go.Proofs.YtmlhkbgifnifdaaDoor
open Go.RowKit Go.Maps
set_option maxRecDepth 100000
set_option linter.unusedVariables false
set_option linter.unusedSimpArgs false
theorem sameP_self (t : PT) : sameP t t = true := by
  unfold sameP
  simp
theorem bit_of {k : Int} (h : 0 ≤ k) : ∃ a : Nat, a < 2 ∧ wrap64 (k.tmod 2) = (a : Int) := by
  refine ⟨(k % 2).toNat, by omega, ?_⟩
  rw [Int.tmod_eq_emod_of_nonneg h]
  unfold wrap64
  omega
theorem tmod_two (n : Int) : n % 2 = 0 ↔ n.tmod 2 = 0 := by rw [← Int.dvd_iff_emod_eq_zero, ← Int.dvd_iff_tmod_eq_zero]

set_option maxHeartbeats 16000000 in
theorem lawRow_any (n k0 k1 k2 : Int) (w : World) (hn : -9223372036854775808 ≤ n ∧ n ≤ 9223372036854775807) (h0 : 0 ≤ k0 ∧ k0 ≤ 255) (h1 : 0 ≤ k1 ∧ k1 ≤ 255) (h2 : 0 ≤ k2 ∧ k2 ≤ 255) (ht : TabB w.heap.size w) :
    Calls Tryd.prog 5 #[.int .i64 n, .agg #[.int .u8 k0, .int .u8 k1, .int .u8 k2]] w fun e w' => e = .returned (.bool true) ∧ Below w.heap.size w w' := by
  obtain ⟨w0, hw0⟩ : ∃ w0, w0 = w.alloc (.cells #[.int .u8 k0, .int .u8 k1, .int .u8 k2] 42) := ⟨_, rfl⟩
  have HP : Hid (Blk w0 w.heap.size 42 #[.int .u8 k0, .int .u8 k1, .int .u8 k2]) := Lib.hid (by rw [hw0]; exact Blk.new _ _ _)
  have HB : Hid (Below w.heap.size w w0) := Lib.hid (by rw [hw0]; exact below_new _ _)
  have HW0 := Lib.hid hw0
  have HTAB := Lib.hid ht
  have HX := Lib.hid (And.intro hn (And.intro h0 (And.intro h1 h2)))
  obtain ⟨te, hte⟩ : ∃ te, te = elemT n := ⟨_, rfl⟩
  have HTE := Lib.hid hte.symm
  clear hw0 ht hn h0 h1 h2 hte
  obtain ⟨t, ee⟩ := te
  go_enter Tryd.func5, Tryd.ntmps5
  go_upto_region 1 with fail
  rw [← HW0.out]
  clear HW0
  have hcall := telem_any n w0 ((HTAB.out.on HB.out).up HB.out.size)
  rw [HTE.out] at hcall
  have HCALL := Lib.hid hcall
  clear hcall
  go_wp2_with (go_at_call 17; refine HCALL.out.mono ?_; intro e x1 hx; obtain ⟨s1, A1, n1, c1, B1, m1, d1, rfl, hat, hb⟩ := hx; refine Hid.out ?_)
  refine Lib.hid ?_
  have HBx := Lib.hid (HB.out.trans (hb.mono HB.out.size))
  clear HB
  have HB := HBx
  clear HBx
  have Hx := Lib.hid (HP.out.below hb HP.out.lt)
  clear HP
  have HP := Hx
  clear Hx
  clear hb HCALL
  obtain ⟨y1, hw⟩ : ∃ W, W = x1.alloc (.cells #[.int .i64 s1, .slice A1 n1 c1, .slice B1 m1 d1] 31) := ⟨_, rfl⟩
  obtain ⟨pT, hp⟩ : ∃ p, p = x1.heap.size := ⟨_, rfl⟩
  have hv := TrV.new hat
  rw [← hw, ← hp] at hv
  have hb : Below x1.heap.size x1 y1 := by rw [hw]; exact below_new _ _
  have HBx := Lib.hid (HB.out.trans (hb.mono HB.out.size))
  clear HB
  have HB := HBx
  clear HBx
  have Hx := Lib.hid (HP.out.below hb HP.out.lt)
  clear HP
  have HP := Hx
  clear Hx
  have HT := Lib.hid hv
  clear hv hb hat
  go_upto_region 2 with fail
  rw [← hw, ← hp]
  clear hw hp
  have hcall := rrelem_any n y1
  rw [HTE.out] at hcall
  have HCALL := Lib.hid hcall
  clear hcall
  go_wp2_with (go_at_call 18; refine HCALL.out.mono ?_; intro e x2 hx; obtain ⟨s2, A2, n2, c2, B2, m2, d2, rfl, hat, hb⟩ := hx; refine Hid.out ?_)
  refine Lib.hid ?_
  have HBx := Lib.hid (HB.out.trans (hb.mono HB.out.size))
  clear HB
  have HB := HBx
  clear HBx
  have Hx := Lib.hid (HT.out.ext hb)
  clear HT
  have HT := Hx
  clear Hx
  have Hx := Lib.hid (HP.out.below hb HP.out.lt)
  clear HP
  have HP := Hx
  clear Hx
  clear hb HCALL
  obtain ⟨y2, hw⟩ : ∃ W, W = x2.alloc (.cells #[.int .i64 s2, .slice A2 n2 c2, .slice B2 m2 d2] 31) := ⟨_, rfl⟩
  obtain ⟨pU, hp⟩ : ∃ p, p = x2.heap.size := ⟨_, rfl⟩
  have hv := TrV.new hat
  rw [← hw, ← hp] at hv
  have hb : Below x2.heap.size x2 y2 := by rw [hw]; exact below_new _ _
  have HBx := Lib.hid (HB.out.trans (hb.mono HB.out.size))
  clear HB
  have HB := HBx
  clear HBx
  have Hx := Lib.hid (HT.out.ext hb)
  clear HT
  have HT := Hx
  clear Hx
  have Hx := Lib.hid (HP.out.below hb HP.out.lt)
  clear HP
  have HP := Hx
  clear Hx
  have HU := Lib.hid hv
  clear hv hb hat
  go_upto_region 3 with fail
  rw [← hw, ← hp]
  clear hw hp
  obtain ⟨cT0, cT1, cT2⟩ := HT.out.cells
  obtain ⟨cU0, cU1, cU2⟩ := HU.out.cells
  have hcall := rsamet_at HT.out.at_ HU.out.at_
  rw [sameP_self] at hcall
  have HCALL := Lib.hid hcall
  clear hcall
  go_wp2_with (go_at_call 15; refine HCALL.out.mono ?_; intro e x3 hx; obtain ⟨rfl, hb⟩ := hx; refine Hid.out ?_)
  refine Lib.hid ?_
  have HBx := Lib.hid (HB.out.trans (hb.mono HB.out.size))
  clear HB
  have HB := HBx
  clear HBx
  have Hx := Lib.hid (HT.out.ext hb)
  clear HT
  have HT := Hx
  clear Hx
  have Hx := Lib.hid (HU.out.ext hb)
  clear HU
  have HU := Hx
  clear Hx
  have Hx := Lib.hid (HP.out.below hb HP.out.lt)
  clear HP
  have HP := Hx
  clear Hx
  clear hb HCALL
  clear cT0 cT1 cT2 cU0 cU1 cU2
  cases hok : okE n with
  | false =>
    have HEE : Hid (ee = 5) := Lib.hid (by
      have h := HTE.out
      unfold elemT at h
      rw [if_neg (by rw [hok]; simp)] at h
      exact (congrArg Prod.snd h).symm)
    clear hok
    obtain rfl := HEE.out
    clear HEE
    have hcall := alive_any _ ((HTAB.out.on HB.out).up HB.out.size)
    have HCALL := Lib.hid hcall
    clear hcall
    go_wp2_with (go_at_call 8; refine HCALL.out.mono ?_; intro e x4 hx; obtain ⟨rfl, hb⟩ := hx; refine Hid.out ?_)
    refine Lib.hid ?_
    have HBx := Lib.hid (HB.out.trans (hb.mono HB.out.size))
    clear HB
    have HB := HBx
    clear HBx
    have Hx := Lib.hid (HT.out.ext hb)
    clear HT
    have HT := Hx
    clear Hx
    have Hx := Lib.hid (HU.out.ext hb)
    clear HU
    have HU := Hx
    clear Hx
    have Hx := Lib.hid (HP.out.below hb HP.out.lt)
    clear HP
    have HP := Hx
    clear Hx
    clear hb HCALL
    go_wp2
    go_ret
    exact ⟨rfl, HB.out⟩
  | true =>
    have HEE : Hid (ee = 0) := Lib.hid (by
      have h := HTE.out
      rw [elemT_eq hok] at h
      exact (congrArg Prod.snd h).symm)
    have HOK := Lib.hid hok
    clear hok
    obtain rfl := HEE.out
    clear HEE
    obtain ⟨le, hle⟩ : ∃ le, le = elemL n := ⟨_, rfl⟩
    obtain ⟨l0, l1, l2, l3, l4, l5, l6, l7, hl8⟩ : ∃ l0 l1 l2 l3 l4 l5 l6 l7, elemL n = [l0, l1, l2, l3, l4, l5, l6, l7] := by
      have h := elemL_len n
      match elemL n, h with
      | [l0, l1, l2, l3, l4, l5, l6, l7], _ => exact ⟨_, _, _, _, _, _, _, _, rfl⟩
    have hcall := relem_any n x3
    unfold RetEl at hcall
    rw [hl8, show elemE n = 0 by unfold elemE; rw [if_pos HOK.out], show arrV [l0, l1, l2, l3, l4, l5, l6, l7] = #[.int .i64 l0, .int .i64 l1, .int .i64 l2, .int .i64 l3, .int .i64 l4, .int .i64 l5, .int .i64 l6, .int .i64 l7] from rfl] at hcall
    have HCALL := Lib.hid hcall
    have HL8 := Lib.hid hl8
    clear hcall hle hl8
    go_upto_region 7 with fail
    go_wp2_with (go_at_call 19; refine HCALL.out.mono ?_; rintro e x4 ⟨rfl, hb⟩; refine Hid.out ?_)
    refine Lib.hid ?_
    have HBx := Lib.hid (HB.out.trans (hb.mono HB.out.size))
    clear HB
    have HB := HBx
    clear HBx
    have Hx := Lib.hid (HT.out.ext hb)
    clear HT
    have HT := Hx
    clear Hx
    have Hx := Lib.hid (HU.out.ext hb)
    clear HU
    have HU := Hx
    clear Hx
    have Hx := Lib.hid (HP.out.below hb HP.out.lt)
    clear HP
    have HP := Hx
    clear Hx
    clear hb HCALL
    obtain ⟨y4, hw⟩ : ∃ W, W = x4.alloc (.cells #[.int .i64 l0, .int .i64 l1, .int .i64 l2, .int .i64 l3, .int .i64 l4, .int .i64 l5, .int .i64 l6, .int .i64 l7] 49) := ⟨_, rfl⟩
    obtain ⟨pE, hp⟩ : ∃ p, p = x4.heap.size := ⟨_, rfl⟩
    have hv : Blk y4 pE 49 #[.int .i64 l0, .int .i64 l1, .int .i64 l2, .int .i64 l3, .int .i64 l4, .int .i64 l5, .int .i64 l6, .int .i64 l7] := by rw [hw, hp]; exact Blk.new _ _ _
    have hb : Below x4.heap.size x4 y4 := by rw [hw]; exact below_new _ _
    have HBx := Lib.hid (HB.out.trans (hb.mono HB.out.size))
    clear HB
    have HB := HBx
    clear HBx
    have Hx := Lib.hid (HT.out.ext hb)
    clear HT
    have HT := Hx
    clear Hx
    have Hx := Lib.hid (HU.out.ext hb)
    clear HU
    have HU := Hx
    clear Hx
    have Hx := Lib.hid (HP.out.below hb HP.out.lt)
    clear HP
    have HP := Hx
    clear Hx
    have HE := Lib.hid hv
    clear hb hv
    go_upto_region 8 with fail
    rw [← hw, ← hp]
    clear hw hp
    have u0 := HP.out.cell_ 0 (.int .u8 k0) rfl
    have u1 := HP.out.cell_ 1 (.int .u8 k1) rfl
    have u2 := HP.out.cell_ 2 (.int .u8 k2) rfl
    go_quiet (fail)
    obtain ⟨y5, hw⟩ : ∃ W, W = y4.drewN nq := ⟨_, rfl⟩
    have hb : Below y4.heap.size y4 y5 := by rw [hw]; exact below_drewN (Below.refl _ y4) nq
    have HWD := Lib.hid hw
    clear hw u0 u1 u2
    have HBx := Lib.hid (HB.out.trans (hb.mono HB.out.size))
    clear HB
    have HB := HBx
    clear HBx
    have Hx := Lib.hid (HT.out.ext hb)
    clear HT
    have HT := Hx
    clear Hx
    have Hx := Lib.hid (HU.out.ext hb)
    clear HU
    have HU := Hx
    clear Hx
    have Hx := Lib.hid (HP.out.below hb HP.out.lt)
    clear HP
    have HP := Hx
    clear Hx
    have Hx := Lib.hid (HE.out.below hb HE.out.lt)
    clear HE
    have HE := Hx
    clear Hx
    clear hb
    obtain ⟨a, ha, ea⟩ := bit_of HX.out.2.1.1
    obtain ⟨b, hb, eb⟩ := bit_of HX.out.2.2.1.1
    obtain ⟨c, hc, ec⟩ := bit_of HX.out.2.2.2.1
    have HBIT := Lib.hid (And.intro ha (And.intro hb hc))
    rw [← HWD.out, ea, eb, ec]
    clear HWD ha hb hc ea eb ec
    have hev : evalP t [(a : Int), (b : Int), (c : Int)] = (fE n a b c, 0) := by
      have h := elem_eval HOK.out HBIT.out.1 HBIT.out.2.1 HBIT.out.2.2
      rw [HTE.out] at h
      exact h
    obtain ⟨v, hv⟩ : ∃ v, v = fE n a b c := ⟨_, rfl⟩
    rw [← hv] at hev
    have HV := Lib.hid hv
    have HEV := Lib.hid hev
    have hq : quietP t = decide (n.tmod 2 = 0) := by
      have h := elem_quiet HOK.out
      rw [HTE.out, fE_low HOK.out] at h
      have hn := HX.out.1
      have e : (n % 2 = 0) ↔ (n.tmod 2 = 0) := tmod_two n
      rw [h]
      exact decide_eq_decide.2 e
    obtain ⟨qb, hqb⟩ : ∃ q, q = quietP t := ⟨_, rfl⟩
    rw [← hqb] at hq
    have HQ := Lib.hid hqb.symm
    have HQT := Lib.hid hq.symm
    clear hv hev hq hqb
    obtain ⟨yi, hwi⟩ : ∃ W, W = y5.alloc (.cells #[.int .i64 (a : Int), .int .i64 (b : Int), .int .i64 (c : Int)] 3) := ⟨_, rfl⟩
    have hri : Ints yi (some ⟨y5.heap.size, 0, none⟩) [(a : Int), (b : Int), (c : Int)] := by rw [hwi]; exact OwnI.reads (ints3 y5 0 (Nat.zero_le _) a b c)
    have hbi : Below y5.heap.size y5 yi := by rw [hwi]; exact below_new _ _
    have HWI := Lib.hid hwi
    clear hwi
    obtain ⟨cT0, cT1, cT2⟩ := HT.out.cells
    have HBx := Lib.hid (HB.out.trans (hbi.mono HB.out.size))
    clear HB
    have HB := HBx
    clear HBx
    have Hx := Lib.hid (HT.out.ext hbi)
    clear HT
    have HT := Hx
    clear Hx
    have Hx := Lib.hid (HU.out.ext hbi)
    clear HU
    have HU := Hx
    clear Hx
    have Hx := Lib.hid (HP.out.below hbi HP.out.lt)
    clear HP
    have HP := Hx
    clear Hx
    have Hx := Lib.hid (HE.out.below hbi HE.out.lt)
    clear HE
    have HE := Hx
    clear Hx
    have hcall := eval_tv (cv := 3) HT.out.at_ hri
    rw [HEV.out] at hcall
    have HCALL := Lib.hid hcall
    clear hcall
    go_wp2_with (go_at_call 10; rw [← HWI.out]; refine HCALL.out.mono ?_; intro e x4 hx; obtain ⟨rfl, hb⟩ := hx; refine Hid.out ?_)
    refine Lib.hid ?_
    have HBx := Lib.hid (HB.out.trans (hb.mono HB.out.size))
    clear HB
    have HB := HBx
    clear HBx
    have Hx := Lib.hid (HT.out.ext hb)
    clear HT
    have HT := Hx
    clear Hx
    have Hx := Lib.hid (HU.out.ext hb)
    clear HU
    have HU := Hx
    clear Hx
    have Hx := Lib.hid (HP.out.below hb HP.out.lt)
    clear HP
    have HP := Hx
    clear Hx
    have Hx := Lib.hid (HE.out.below hb HE.out.lt)
    clear HE
    have HE := Hx
    clear Hx
    clear hb HCALL
    clear cT0 cT1 cT2
    clear HWI hri hbi HEV
    obtain ⟨hb1, hb2, hb3⟩ := HBIT.out
    have HF : Hid (v = [l0, l1, l2, l3, l4, l5, l6, l7].getD (4 * a + 2 * b + c) 0) := Lib.hid (by rw [HV.out]; unfold fE; rw [HL8.out])
    clear HBIT HV
    obtain rfl | rfl : a = 0 ∨ a = 1 := by omega
    all_goals obtain rfl | rfl : b = 0 ∨ b = 1 := by omega
    all_goals obtain rfl | rfl : c = 0 ∨ c = 1 := by omega
    all_goals clear hb1 hb2 hb3
    all_goals go_upto_region 10 with fail
    · obtain rfl : v = l0 := HF.out
      clear HF
      have u0 := HE.out.cell_ 0 (.int .i64 v) rfl
      obtain ⟨cT0, cT1, cT2⟩ := HT.out.cells
      have HQTx : (n.tmod 2 == 0) = qb := HQT.out
      have hcall := quiet_tv HT.out.at_
      rw [HQ.out] at hcall
      have HCALL := Lib.hid hcall
      clear hcall
      go_wp2_with (go_at_call 20; refine HCALL.out.mono ?_; intro e x5 hx; obtain ⟨rfl, hb⟩ := hx; refine Hid.out ?_)
      refine Lib.hid ?_
      have HBx := Lib.hid (HB.out.trans (hb.mono HB.out.size))
      clear HB
      have HB := HBx
      clear HBx
      have Hx := Lib.hid (HT.out.ext hb)
      clear HT
      have HT := Hx
      clear Hx
      have Hx := Lib.hid (HU.out.ext hb)
      clear HU
      have HU := Hx
      clear Hx
      have Hx := Lib.hid (HP.out.below hb HP.out.lt)
      clear HP
      have HP := Hx
      clear Hx
      have Hx := Lib.hid (HE.out.below hb HE.out.lt)
      clear HE
      have HE := Hx
      clear Hx
      clear hb HCALL
      clear cT0 cT1 cT2
      have hcall := alive_any _ ((HTAB.out.on HB.out).up HB.out.size)
      have HCALL := Lib.hid hcall
      clear hcall
      go_wp2_with (go_at_call 8; refine HCALL.out.mono ?_; intro e x6 hx; obtain ⟨rfl, hb⟩ := hx; refine Hid.out ?_)
      refine Lib.hid ?_
      have HBx := Lib.hid (HB.out.trans (hb.mono HB.out.size))
      clear HB
      have HB := HBx
      clear HBx
      have Hx := Lib.hid (HT.out.ext hb)
      clear HT
      have HT := Hx
      clear Hx
      have Hx := Lib.hid (HU.out.ext hb)
      clear HU
      have HU := Hx
      clear Hx
      have Hx := Lib.hid (HP.out.below hb HP.out.lt)
      clear HP
      have HP := Hx
      clear Hx
      have Hx := Lib.hid (HE.out.below hb HE.out.lt)
      clear HE
      have HE := Hx
      clear Hx
      clear hb HCALL
      go_wp2
      go_ret
      exact ⟨rfl, HB.out⟩
    · obtain rfl : v = l1 := HF.out
      clear HF
      have u0 := HE.out.cell_ 1 (.int .i64 v) rfl
      obtain ⟨cT0, cT1, cT2⟩ := HT.out.cells
      have HQTx : (n.tmod 2 == 0) = qb := HQT.out
      have hcall := quiet_tv HT.out.at_
      rw [HQ.out] at hcall
      have HCALL := Lib.hid hcall
      clear hcall
      go_wp2_with (go_at_call 20; refine HCALL.out.mono ?_; intro e x5 hx; obtain ⟨rfl, hb⟩ := hx; refine Hid.out ?_)
      refine Lib.hid ?_
      have HBx := Lib.hid (HB.out.trans (hb.mono HB.out.size))
      clear HB
      have HB := HBx
      clear HBx
      have Hx := Lib.hid (HT.out.ext hb)
      clear HT
      have HT := Hx
      clear Hx
      have Hx := Lib.hid (HU.out.ext hb)
      clear HU
      have HU := Hx
      clear Hx
      have Hx := Lib.hid (HP.out.below hb HP.out.lt)
      clear HP
      have HP := Hx
      clear Hx
      have Hx := Lib.hid (HE.out.below hb HE.out.lt)
      clear HE
      have HE := Hx
      clear Hx
      clear hb HCALL
      clear cT0 cT1 cT2
      have hcall := alive_any _ ((HTAB.out.on HB.out).up HB.out.size)
      have HCALL := Lib.hid hcall
      clear hcall
      go_wp2_with (go_at_call 8; refine HCALL.out.mono ?_; intro e x6 hx; obtain ⟨rfl, hb⟩ := hx; refine Hid.out ?_)
      refine Lib.hid ?_
      have HBx := Lib.hid (HB.out.trans (hb.mono HB.out.size))
      clear HB
      have HB := HBx
      clear HBx
      have Hx := Lib.hid (HT.out.ext hb)
      clear HT
      have HT := Hx
      clear Hx
      have Hx := Lib.hid (HU.out.ext hb)
      clear HU
      have HU := Hx
      clear Hx
      have Hx := Lib.hid (HP.out.below hb HP.out.lt)
      clear HP
      have HP := Hx
      clear Hx
      have Hx := Lib.hid (HE.out.below hb HE.out.lt)
      clear HE
      have HE := Hx
      clear Hx
      clear hb HCALL
      go_wp2
      go_ret
      exact ⟨rfl, HB.out⟩
    · obtain rfl : v = l2 := HF.out
      clear HF
      have u0 := HE.out.cell_ 2 (.int .i64 v) rfl
      obtain ⟨cT0, cT1, cT2⟩ := HT.out.cells
      have HQTx : (n.tmod 2 == 0) = qb := HQT.out
      have hcall := quiet_tv HT.out.at_
      rw [HQ.out] at hcall
      have HCALL := Lib.hid hcall
      clear hcall
      go_wp2_with (go_at_call 20; refine HCALL.out.mono ?_; intro e x5 hx; obtain ⟨rfl, hb⟩ := hx; refine Hid.out ?_)
      refine Lib.hid ?_
      have HBx := Lib.hid (HB.out.trans (hb.mono HB.out.size))
      clear HB
      have HB := HBx
      clear HBx
      have Hx := Lib.hid (HT.out.ext hb)
      clear HT
      have HT := Hx
      clear Hx
      have Hx := Lib.hid (HU.out.ext hb)
      clear HU
      have HU := Hx
      clear Hx
      have Hx := Lib.hid (HP.out.below hb HP.out.lt)
      clear HP
      have HP := Hx
      clear Hx
      have Hx := Lib.hid (HE.out.below hb HE.out.lt)
      clear HE
      have HE := Hx
      clear Hx
      clear hb HCALL
      clear cT0 cT1 cT2
      have hcall := alive_any _ ((HTAB.out.on HB.out).up HB.out.size)
      have HCALL := Lib.hid hcall
      clear hcall
      go_wp2_with (go_at_call 8; refine HCALL.out.mono ?_; intro e x6 hx; obtain ⟨rfl, hb⟩ := hx; refine Hid.out ?_)
      refine Lib.hid ?_
      have HBx := Lib.hid (HB.out.trans (hb.mono HB.out.size))
      clear HB
      have HB := HBx
      clear HBx
      have Hx := Lib.hid (HT.out.ext hb)
      clear HT
      have HT := Hx
      clear Hx
      have Hx := Lib.hid (HU.out.ext hb)
      clear HU
      have HU := Hx
      clear Hx
      have Hx := Lib.hid (HP.out.below hb HP.out.lt)
      clear HP
      have HP := Hx
      clear Hx
      have Hx := Lib.hid (HE.out.below hb HE.out.lt)
      clear HE
      have HE := Hx
      clear Hx
      clear hb HCALL
      go_wp2
      go_ret
      exact ⟨rfl, HB.out⟩
    · obtain rfl : v = l3 := HF.out
      clear HF
      have u0 := HE.out.cell_ 3 (.int .i64 v) rfl
      obtain ⟨cT0, cT1, cT2⟩ := HT.out.cells
      have HQTx : (n.tmod 2 == 0) = qb := HQT.out
      have hcall := quiet_tv HT.out.at_
      rw [HQ.out] at hcall
      have HCALL := Lib.hid hcall
      clear hcall
      go_wp2_with (go_at_call 20; refine HCALL.out.mono ?_; intro e x5 hx; obtain ⟨rfl, hb⟩ := hx; refine Hid.out ?_)
      refine Lib.hid ?_
      have HBx := Lib.hid (HB.out.trans (hb.mono HB.out.size))
      clear HB
      have HB := HBx
      clear HBx
      have Hx := Lib.hid (HT.out.ext hb)
      clear HT
      have HT := Hx
      clear Hx
      have Hx := Lib.hid (HU.out.ext hb)
      clear HU
      have HU := Hx
      clear Hx
      have Hx := Lib.hid (HP.out.below hb HP.out.lt)
      clear HP
      have HP := Hx
      clear Hx
      have Hx := Lib.hid (HE.out.below hb HE.out.lt)
      clear HE
      have HE := Hx
      clear Hx
      clear hb HCALL
      clear cT0 cT1 cT2
      have hcall := alive_any _ ((HTAB.out.on HB.out).up HB.out.size)
      have HCALL := Lib.hid hcall
      clear hcall
      go_wp2_with (go_at_call 8; refine HCALL.out.mono ?_; intro e x6 hx; obtain ⟨rfl, hb⟩ := hx; refine Hid.out ?_)
      refine Lib.hid ?_
      have HBx := Lib.hid (HB.out.trans (hb.mono HB.out.size))
      clear HB
      have HB := HBx
      clear HBx
      have Hx := Lib.hid (HT.out.ext hb)
      clear HT
      have HT := Hx
      clear Hx
      have Hx := Lib.hid (HU.out.ext hb)
      clear HU
      have HU := Hx
      clear Hx
      have Hx := Lib.hid (HP.out.below hb HP.out.lt)
      clear HP
      have HP := Hx
      clear Hx
      have Hx := Lib.hid (HE.out.below hb HE.out.lt)
      clear HE
      have HE := Hx
      clear Hx
      clear hb HCALL
      go_wp2
      go_ret
      exact ⟨rfl, HB.out⟩
    · obtain rfl : v = l4 := HF.out
      clear HF
      have u0 := HE.out.cell_ 4 (.int .i64 v) rfl
      obtain ⟨cT0, cT1, cT2⟩ := HT.out.cells
      have HQTx : (n.tmod 2 == 0) = qb := HQT.out
      have hcall := quiet_tv HT.out.at_
      rw [HQ.out] at hcall
      have HCALL := Lib.hid hcall
      clear hcall
      go_wp2_with (go_at_call 20; refine HCALL.out.mono ?_; intro e x5 hx; obtain ⟨rfl, hb⟩ := hx; refine Hid.out ?_)
      refine Lib.hid ?_
      have HBx := Lib.hid (HB.out.trans (hb.mono HB.out.size))
      clear HB
      have HB := HBx
      clear HBx
      have Hx := Lib.hid (HT.out.ext hb)
      clear HT
      have HT := Hx
      clear Hx
      have Hx := Lib.hid (HU.out.ext hb)
      clear HU
      have HU := Hx
      clear Hx
      have Hx := Lib.hid (HP.out.below hb HP.out.lt)
      clear HP
      have HP := Hx
      clear Hx
      have Hx := Lib.hid (HE.out.below hb HE.out.lt)
      clear HE
      have HE := Hx
      clear Hx
      clear hb HCALL
      clear cT0 cT1 cT2
      have hcall := alive_any _ ((HTAB.out.on HB.out).up HB.out.size)
      have HCALL := Lib.hid hcall
      clear hcall
      go_wp2_with (go_at_call 8; refine HCALL.out.mono ?_; intro e x6 hx; obtain ⟨rfl, hb⟩ := hx; refine Hid.out ?_)
      refine Lib.hid ?_
      have HBx := Lib.hid (HB.out.trans (hb.mono HB.out.size))
      clear HB
      have HB := HBx
      clear HBx
      have Hx := Lib.hid (HT.out.ext hb)
      clear HT
      have HT := Hx
      clear Hx
      have Hx := Lib.hid (HU.out.ext hb)
      clear HU
      have HU := Hx
      clear Hx
      have Hx := Lib.hid (HP.out.below hb HP.out.lt)
      clear HP
      have HP := Hx
      clear Hx
      have Hx := Lib.hid (HE.out.below hb HE.out.lt)
      clear HE
      have HE := Hx
      clear Hx
      clear hb HCALL
      go_wp2
      go_ret
      exact ⟨rfl, HB.out⟩
    · obtain rfl : v = l5 := HF.out
      clear HF
      have u0 := HE.out.cell_ 5 (.int .i64 v) rfl
      obtain ⟨cT0, cT1, cT2⟩ := HT.out.cells
      have HQTx : (n.tmod 2 == 0) = qb := HQT.out
      have hcall := quiet_tv HT.out.at_
      rw [HQ.out] at hcall
      have HCALL := Lib.hid hcall
      clear hcall
      go_wp2_with (go_at_call 20; refine HCALL.out.mono ?_; intro e x5 hx; obtain ⟨rfl, hb⟩ := hx; refine Hid.out ?_)
      refine Lib.hid ?_
      have HBx := Lib.hid (HB.out.trans (hb.mono HB.out.size))
      clear HB
      have HB := HBx
      clear HBx
      have Hx := Lib.hid (HT.out.ext hb)
      clear HT
      have HT := Hx
      clear Hx
      have Hx := Lib.hid (HU.out.ext hb)
      clear HU
      have HU := Hx
      clear Hx
      have Hx := Lib.hid (HP.out.below hb HP.out.lt)
      clear HP
      have HP := Hx
      clear Hx
      have Hx := Lib.hid (HE.out.below hb HE.out.lt)
      clear HE
      have HE := Hx
      clear Hx
      clear hb HCALL
      clear cT0 cT1 cT2
      have hcall := alive_any _ ((HTAB.out.on HB.out).up HB.out.size)
      have HCALL := Lib.hid hcall
      clear hcall
      go_wp2_with (go_at_call 8; refine HCALL.out.mono ?_; intro e x6 hx; obtain ⟨rfl, hb⟩ := hx; refine Hid.out ?_)
      refine Lib.hid ?_
      have HBx := Lib.hid (HB.out.trans (hb.mono HB.out.size))
      clear HB
      have HB := HBx
      clear HBx
      have Hx := Lib.hid (HT.out.ext hb)
      clear HT
      have HT := Hx
      clear Hx
      have Hx := Lib.hid (HU.out.ext hb)
      clear HU
      have HU := Hx
      clear Hx
      have Hx := Lib.hid (HP.out.below hb HP.out.lt)
      clear HP
      have HP := Hx
      clear Hx
      have Hx := Lib.hid (HE.out.below hb HE.out.lt)
      clear HE
      have HE := Hx
      clear Hx
      clear hb HCALL
      go_wp2
      go_ret
      exact ⟨rfl, HB.out⟩
    · obtain rfl : v = l6 := HF.out
      clear HF
      have u0 := HE.out.cell_ 6 (.int .i64 v) rfl
      obtain ⟨cT0, cT1, cT2⟩ := HT.out.cells
      have HQTx : (n.tmod 2 == 0) = qb := HQT.out
      have hcall := quiet_tv HT.out.at_
      rw [HQ.out] at hcall
      have HCALL := Lib.hid hcall
      clear hcall
      go_wp2_with (go_at_call 20; refine HCALL.out.mono ?_; intro e x5 hx; obtain ⟨rfl, hb⟩ := hx; refine Hid.out ?_)
      refine Lib.hid ?_
      have HBx := Lib.hid (HB.out.trans (hb.mono HB.out.size))
      clear HB
      have HB := HBx
      clear HBx
      have Hx := Lib.hid (HT.out.ext hb)
      clear HT
      have HT := Hx
      clear Hx
      have Hx := Lib.hid (HU.out.ext hb)
      clear HU
      have HU := Hx
      clear Hx
      have Hx := Lib.hid (HP.out.below hb HP.out.lt)
      clear HP
      have HP := Hx
      clear Hx
      have Hx := Lib.hid (HE.out.below hb HE.out.lt)
      clear HE
      have HE := Hx
      clear Hx
      clear hb HCALL
      clear cT0 cT1 cT2
      have hcall := alive_any _ ((HTAB.out.on HB.out).up HB.out.size)
      have HCALL := Lib.hid hcall
      clear hcall
      go_wp2_with (go_at_call 8; refine HCALL.out.mono ?_; intro e x6 hx; obtain ⟨rfl, hb⟩ := hx; refine Hid.out ?_)
      refine Lib.hid ?_
      have HBx := Lib.hid (HB.out.trans (hb.mono HB.out.size))
      clear HB
      have HB := HBx
      clear HBx
      have Hx := Lib.hid (HT.out.ext hb)
      clear HT
      have HT := Hx
      clear Hx
      have Hx := Lib.hid (HU.out.ext hb)
      clear HU
      have HU := Hx
      clear Hx
      have Hx := Lib.hid (HP.out.below hb HP.out.lt)
      clear HP
      have HP := Hx
      clear Hx
      have Hx := Lib.hid (HE.out.below hb HE.out.lt)
      clear HE
      have HE := Hx
      clear Hx
      clear hb HCALL
      go_wp2
      go_ret
      exact ⟨rfl, HB.out⟩
    · obtain rfl : v = l7 := HF.out
      clear HF
      have u0 := HE.out.cell_ 7 (.int .i64 v) rfl
      obtain ⟨cT0, cT1, cT2⟩ := HT.out.cells
      have HQTx : (n.tmod 2 == 0) = qb := HQT.out
      have hcall := quiet_tv HT.out.at_
      rw [HQ.out] at hcall
      have HCALL := Lib.hid hcall
      clear hcall
      go_wp2_with (go_at_call 20; refine HCALL.out.mono ?_; intro e x5 hx; obtain ⟨rfl, hb⟩ := hx; refine Hid.out ?_)
      refine Lib.hid ?_
      have HBx := Lib.hid (HB.out.trans (hb.mono HB.out.size))
      clear HB
      have HB := HBx
      clear HBx
      have Hx := Lib.hid (HT.out.ext hb)
      clear HT
      have HT := Hx
      clear Hx
      have Hx := Lib.hid (HU.out.ext hb)
      clear HU
      have HU := Hx
      clear Hx
      have Hx := Lib.hid (HP.out.below hb HP.out.lt)
      clear HP
      have HP := Hx
      clear Hx
      have Hx := Lib.hid (HE.out.below hb HE.out.lt)
      clear HE
      have HE := Hx
      clear Hx
      clear hb HCALL
      clear cT0 cT1 cT2
      have hcall := alive_any _ ((HTAB.out.on HB.out).up HB.out.size)
      have HCALL := Lib.hid hcall
      clear hcall
      go_wp2_with (go_at_call 8; refine HCALL.out.mono ?_; intro e x6 hx; obtain ⟨rfl, hb⟩ := hx; refine Hid.out ?_)
      refine Lib.hid ?_
      have HBx := Lib.hid (HB.out.trans (hb.mono HB.out.size))
      clear HB
      have HB := HBx
      clear HBx
      have Hx := Lib.hid (HT.out.ext hb)
      clear HT
      have HT := Hx
      clear Hx
      have Hx := Lib.hid (HU.out.ext hb)
      clear HU
      have HU := Hx
      clear Hx
      have Hx := Lib.hid (HP.out.below hb HP.out.lt)
      clear HP
      have HP := Hx
      clear Hx
      have Hx := Lib.hid (HE.out.below hb HE.out.lt)
      clear HE
      have HE := Hx
      clear Hx
      clear hb HCALL
      go_wp2
      go_ret
      exact ⟨rfl, HB.out⟩
end Go.Proofs.YtmlhkbgifnifdaaDoor
