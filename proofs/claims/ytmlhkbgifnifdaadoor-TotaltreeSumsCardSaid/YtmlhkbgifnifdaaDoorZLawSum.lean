/-
  cellularlaw14.TotaltreeSums: the walk. No condition but that the library's table is there.
-/
import Derived.Test.YtmlhkbgifnifdaaDoorZLawRow
namespace Go.Proofs.YtmlhkbgifnifdaaDoor
open Go.RowKit Go.Maps
set_option maxRecDepth 100000
set_option linter.unusedVariables false
set_option linter.unusedSimpArgs false
theorem digs_err {q n : Int} (h : (digsT q n).2 ≠ 0) : (digsT q n).2 = 2 ∨ (digsT q n).2 = 5 := by
  unfold digsT at *
  by_cases h1 : q < 2 ∨ 8 < q
  · rw [if_pos h1]; exact .inl rfl
  · rw [if_neg h1] at h ⊢
    by_cases h2 : n < 0
    · rw [if_pos h2]; exact .inr rfl
    · rw [if_neg h2] at h ⊢
      by_cases h3 : 0 < digR q (3 * q - 2).toNat n
      · rw [if_pos h3]; exact .inr rfl
      · rw [if_neg h3] at h; exact absurd rfl h
theorem dig_of {k q : Int} (h : 0 ≤ k ∧ k ≤ 255) (hq : 2 ≤ q ∧ q ≤ 8) : ∃ a : Nat, a < q.toNat ∧ a < 8 ∧ (wrap64 k).tmod q = (a : Int) := by
  have h1 := Int.emod_lt_of_pos k (show 0 < q by omega)
  have h2 := Int.emod_nonneg k (show q ≠ 0 by omega)
  refine ⟨(k % q).toNat, by omega, by omega, ?_⟩
  rw [show wrap64 k = k by unfold wrap64; omega, Int.tmod_eq_emod_of_nonneg h.1]
  omega
set_option maxHeartbeats 16000000 in
theorem lawSum_any (q n k0 k1 k2 : Int) (w : World) (hn : n ≤ 9223372036854775807) (h0 : 0 ≤ k0 ∧ k0 ≤ 255) (h1 : 0 ≤ k1 ∧ k1 ≤ 255) (h2 : 0 ≤ k2 ∧ k2 ≤ 255) (ht : TabB w.heap.size w) :
    Calls Tryd.prog 4 #[.int .i64 q, .int .i64 n, .agg #[.int .u8 k0, .int .u8 k1, .int .u8 k2]] w fun e w' => e = .returned (.bool true) ∧ Below w.heap.size w w' := by
  obtain ⟨w0, hw0⟩ : ∃ w0, w0 = w.alloc (.cells #[.int .u8 k0, .int .u8 k1, .int .u8 k2] 42) := ⟨_, rfl⟩
  have HP : Hid (Blk w0 w.heap.size 42 #[.int .u8 k0, .int .u8 k1, .int .u8 k2]) := Lib.hid (by rw [hw0]; exact Blk.new _ _ _)
  have HB : Hid (Below w.heap.size w w0) := Lib.hid (by rw [hw0]; exact below_new _ _)
  have HW0 := Lib.hid hw0
  have HTAB := Lib.hid ht
  have HX := Lib.hid (And.intro hn (And.intro h0 (And.intro h1 h2)))
  obtain ⟨te, hte⟩ : ∃ te, te = sumT q n := ⟨_, rfl⟩
  have HTE := Lib.hid hte.symm
  clear hw0 ht hn h0 h1 h2 hte
  obtain ⟨t, ee⟩ := te
  go_enter Tryd.func4, Tryd.ntmps4
  go_upto_region 1 with fail
  rw [← HW0.out]
  clear HW0
  have hcall := tsums_any q n w0 ((HTAB.out.on HB.out).up HB.out.size) HX.out.1
  rw [HTE.out] at hcall
  have HCALL := Lib.hid hcall
  clear hcall
  go_wp2_with (go_at_call 13; refine HCALL.out.mono ?_; intro e x1 hx; obtain ⟨s1, A1, n1, c1, B1, m1, d1, rfl, hat, hb⟩ := hx; refine Hid.out ?_)
  refine Lib.hid ?_
  have HBx := Lib.hid (HB.out.trans (hb.mono HB.out.size))
  clear HB
  have HB := HBx
  clear HBx
  have Hx := Lib.hid (HP.out.below hb HP.out.lt)
  clear HP
  have HP := Hx
  clear Hx
  clear hb HCALL
  obtain ⟨y1, hw⟩ : ∃ W, W = x1.alloc (.cells #[.int .i64 s1, .slice A1 n1 c1, .slice B1 m1 d1] 31) := ⟨_, rfl⟩
  obtain ⟨pT, hp⟩ : ∃ p, p = x1.heap.size := ⟨_, rfl⟩
  have hv := TrV.new hat
  rw [← hw, ← hp] at hv
  have hb : Below x1.heap.size x1 y1 := by rw [hw]; exact below_new _ _
  have HBx := Lib.hid (HB.out.trans (hb.mono HB.out.size))
  clear HB
  have HB := HBx
  clear HBx
  have Hx := Lib.hid (HP.out.below hb HP.out.lt)
  clear HP
  have HP := Hx
  clear Hx
  have HT := Lib.hid hv
  clear hv hb hat
  go_upto_region 2 with fail
  rw [← hw, ← hp]
  clear hw hp
  have hcall := rsums_any q n y1 HX.out.1
  rw [HTE.out] at hcall
  have HCALL := Lib.hid hcall
  clear hcall
  go_wp2_with (go_at_call 14; refine HCALL.out.mono ?_; intro e x2 hx; obtain ⟨s2, A2, n2, c2, B2, m2, d2, rfl, hat, hb⟩ := hx; refine Hid.out ?_)
  refine Lib.hid ?_
  have HBx := Lib.hid (HB.out.trans (hb.mono HB.out.size))
  clear HB
  have HB := HBx
  clear HBx
  have Hx := Lib.hid (HT.out.ext hb)
  clear HT
  have HT := Hx
  clear Hx
  have Hx := Lib.hid (HP.out.below hb HP.out.lt)
  clear HP
  have HP := Hx
  clear Hx
  clear hb HCALL
  obtain ⟨y2, hw⟩ : ∃ W, W = x2.alloc (.cells #[.int .i64 s2, .slice A2 n2 c2, .slice B2 m2 d2] 31) := ⟨_, rfl⟩
  obtain ⟨pU, hp⟩ : ∃ p, p = x2.heap.size := ⟨_, rfl⟩
  have hv := TrV.new hat
  rw [← hw, ← hp] at hv
  have hb : Below x2.heap.size x2 y2 := by rw [hw]; exact below_new _ _
  have HBx := Lib.hid (HB.out.trans (hb.mono HB.out.size))
  clear HB
  have HB := HBx
  clear HBx
  have Hx := Lib.hid (HT.out.ext hb)
  clear HT
  have HT := Hx
  clear Hx
  have Hx := Lib.hid (HP.out.below hb HP.out.lt)
  clear HP
  have HP := Hx
  clear Hx
  have HU := Lib.hid hv
  clear hv hb hat
  go_upto_region 3 with fail
  rw [← hw, ← hp]
  clear hw hp
  obtain ⟨cT0, cT1, cT2⟩ := HT.out.cells
  obtain ⟨cU0, cU1, cU2⟩ := HU.out.cells
  have hcall := rsamet_at HT.out.at_ HU.out.at_
  rw [sameP_self] at hcall
  have HCALL := Lib.hid hcall
  clear hcall
  go_wp2_with (go_at_call 15; refine HCALL.out.mono ?_; intro e x3 hx; obtain ⟨rfl, hb⟩ := hx; refine Hid.out ?_)
  refine Lib.hid ?_
  have HBx := Lib.hid (HB.out.trans (hb.mono HB.out.size))
  clear HB
  have HB := HBx
  clear HBx
  have Hx := Lib.hid (HT.out.ext hb)
  clear HT
  have HT := Hx
  clear Hx
  have Hx := Lib.hid (HU.out.ext hb)
  clear HU
  have HU := Hx
  clear Hx
  have Hx := Lib.hid (HP.out.below hb HP.out.lt)
  clear HP
  have HP := Hx
  clear Hx
  clear hb HCALL
  clear cT0 cT1 cT2 cU0 cU1 cU2
  by_cases hok : (digsT q n).2 = 0
  · have HEE : Hid (ee = 0) := Lib.hid (by
      have h := HTE.out
      unfold sumT at h
      rw [if_pos hok] at h
      exact (congrArg Prod.snd h).symm)
    have HOK := Lib.hid hok
    have HOS := Lib.hid (sums_ok hok)
    clear hok
    obtain rfl := HEE.out
    clear HEE
    obtain ⟨l, hl⟩ : ∃ l, l = (digsT q n).1 := ⟨_, rfl⟩
    have hde : digsT q n = (l, 0) := Prod.ext hl.symm HOK.out
    have hcall := rdigits_any q n x3 HX.out.1
    rw [hde] at hcall
    have HCALL := Lib.hid hcall
    have HL := Lib.hid hl
    have HLL : Hid (l.length = (3 * q - 2).toNat) := Lib.hid (by rw [hl]; exact HOS.out.2.2.1)
    clear hcall hl hde
    go_upto_region 7 with fail
    go_wp2_with (go_at_call 16; refine HCALL.out.mono ?_; rintro e x4 ⟨Al, cl, rfl, hil, hb⟩; refine Hid.out ?_)
    refine Lib.hid ?_
    skip
    have HI := Lib.hid hil
    have HBx := Lib.hid (HB.out.trans (hb.mono HB.out.size))
    clear HB
    have HB := HBx
    clear HBx
    have Hx := Lib.hid (HT.out.ext hb)
    clear HT
    have HT := Hx
    clear Hx
    have Hx := Lib.hid (HU.out.ext hb)
    clear HU
    have HU := Hx
    clear Hx
    have Hx := Lib.hid (HP.out.below hb HP.out.lt)
    clear HP
    have HP := Hx
    clear Hx
    clear hb HCALL hil
    have u0 := HP.out.cell_ 0 (.int .u8 k0) rfl
    have u1 := HP.out.cell_ 1 (.int .u8 k1) rfl
    have u2 := HP.out.cell_ 2 (.int .u8 k2) rfl
    have hq0 : ¬ q = 0 := by have := HOS.out.1; omega
    have hq1 : ¬ q = -1 := by have := HOS.out.1; omega
    go_upto_region 8 with fail
    go_quiet (fail)
    obtain ⟨y5, hw⟩ : ∃ W, W = x4.drewN nq := ⟨_, rfl⟩
    have hb : Below x4.heap.size x4 y5 := by rw [hw]; exact below_drewN (Below.refl _ x4) nq
    have HWD := Lib.hid hw
    clear hw u0 u1 u2 hq0 hq1
    have HBx := Lib.hid (HB.out.trans (hb.mono HB.out.size))
    clear HB
    have HB := HBx
    clear HBx
    have Hx := Lib.hid (HT.out.ext hb)
    clear HT
    have HT := Hx
    clear Hx
    have Hx := Lib.hid (HU.out.ext hb)
    clear HU
    have HU := Hx
    clear Hx
    have Hx := Lib.hid (HP.out.below hb HP.out.lt)
    clear HP
    have HP := Hx
    clear Hx
    have Hx := Lib.hid (HI.out.ext hb)
    clear HI
    have HI := Hx
    clear Hx
    clear hb
    obtain ⟨a, ha, ha8, ea⟩ := dig_of HX.out.2.1 (And.intro HOS.out.1 HOS.out.2.1)
    obtain ⟨b, hb, hb8, eb⟩ := dig_of HX.out.2.2.1 (And.intro HOS.out.1 HOS.out.2.1)
    obtain ⟨c, hc, hc8, ec⟩ := dig_of HX.out.2.2.2 (And.intro HOS.out.1 HOS.out.2.1)
    have HBIT := Lib.hid (And.intro ha (And.intro hb hc))
    have HB8 := Lib.hid (And.intro ha8 (And.intro hb8 hc8))
    rw [← HWD.out, ea, eb, ec]
    clear HWD ha hb hc ea eb ec ha8 hb8 hc8
    have hev : evalP t [(a : Int), (b : Int), (c : Int)] = (fS q n a b c, 0) := by
      have h := sum_eval HOK.out HBIT.out.1 HBIT.out.2.1 HBIT.out.2.2
      rw [HTE.out] at h
      exact h
    obtain ⟨v, hv⟩ : ∃ v, v = fS q n a b c := ⟨_, rfl⟩
    rw [← hv] at hev
    have HV : Hid (v = l.getD (a + b + c) 0) := Lib.hid (by rw [hv]; unfold fS; rw [HL.out])
    have HEV := Lib.hid hev
    clear hv hev
    obtain ⟨yi, hwi⟩ : ∃ W, W = y5.alloc (.cells #[.int .i64 (a : Int), .int .i64 (b : Int), .int .i64 (c : Int)] 3) := ⟨_, rfl⟩
    have hri : Ints yi (some ⟨y5.heap.size, 0, none⟩) [(a : Int), (b : Int), (c : Int)] := by rw [hwi]; exact OwnI.reads (ints3 y5 0 (Nat.zero_le _) a b c)
    have hbi : Below y5.heap.size y5 yi := by rw [hwi]; exact below_new _ _
    have HWI := Lib.hid hwi
    clear hwi
    obtain ⟨cT0, cT1, cT2⟩ := HT.out.cells
    have HBx := Lib.hid (HB.out.trans (hbi.mono HB.out.size))
    clear HB
    have HB := HBx
    clear HBx
    have Hx := Lib.hid (HT.out.ext hbi)
    clear HT
    have HT := Hx
    clear Hx
    have Hx := Lib.hid (HU.out.ext hbi)
    clear HU
    have HU := Hx
    clear Hx
    have Hx := Lib.hid (HP.out.below hbi HP.out.lt)
    clear HP
    have HP := Hx
    clear Hx
    have Hx := Lib.hid (HI.out.ext hbi)
    clear HI
    have HI := Hx
    clear Hx
    have hcall := eval_tv (cv := 3) HT.out.at_ hri
    rw [HEV.out] at hcall
    have HCALL := Lib.hid hcall
    clear hcall
    go_wp2_with (go_at_call 10; rw [← HWI.out]; refine HCALL.out.mono ?_; intro e x4 hx; obtain ⟨rfl, hb⟩ := hx; refine Hid.out ?_)
    refine Lib.hid ?_
    have HBx := Lib.hid (HB.out.trans (hb.mono HB.out.size))
    clear HB
    have HB := HBx
    clear HBx
    have Hx := Lib.hid (HT.out.ext hb)
    clear HT
    have HT := Hx
    clear Hx
    have Hx := Lib.hid (HU.out.ext hb)
    clear HU
    have HU := Hx
    clear Hx
    have Hx := Lib.hid (HP.out.below hb HP.out.lt)
    clear HP
    have HP := Hx
    clear Hx
    have Hx := Lib.hid (HI.out.ext hb)
    clear HI
    have HI := Hx
    clear Hx
    clear hb HCALL
    clear cT0 cT1 cT2
    clear HWI hri hbi HEV
    go_upto_region 10 with fail
    have hlt : a + b + c < l.length := by
      rw [HLL.out]
      have h1 := HBIT.out
      have h2 := HOS.out.1
      omega
    obtain ⟨bl, ol, eA, hbl, hcl⟩ := HI.out.at_ hlt
    have hgv : l[a + b + c] = v := by
      rw [HV.out, List.getD_eq_getElem?_getD, List.getElem?_eq_getElem hlt]
      rfl
    rw [hgv] at hcl
    have HIX := HI
    subst eA
    have hi0 : ((a : Int) + (b : Int) + (c : Int)).toNat = a + b + c := by omega
    obtain ⟨j8a, j8b, j8c⟩ := HB8.out
    have hil : (a : Int) + (b : Int) + (c : Int) < (l.length : Int) := by omega
    clear HIX hbl hgv
    have hcall := alive_any _ ((HTAB.out.on HB.out).up HB.out.size)
    have HCALL := Lib.hid hcall
    clear hcall
    go_wp2_with (go_at_call 8; refine HCALL.out.mono ?_; intro e x5 hx; obtain ⟨rfl, hb⟩ := hx; refine Hid.out ?_)
    refine Lib.hid ?_
    have HBx := Lib.hid (HB.out.trans (hb.mono HB.out.size))
    clear HB
    have HB := HBx
    clear HBx
    have Hx := Lib.hid (HT.out.ext hb)
    clear HT
    have HT := Hx
    clear Hx
    have Hx := Lib.hid (HU.out.ext hb)
    clear HU
    have HU := Hx
    clear Hx
    have Hx := Lib.hid (HP.out.below hb HP.out.lt)
    clear HP
    have HP := Hx
    clear Hx
    have Hx := Lib.hid (HI.out.ext hb)
    clear HI
    have HI := Hx
    clear Hx
    clear hb HCALL
    go_wp2
    go_ret
    exact ⟨rfl, HB.out⟩
  · have HEE : Hid (ee = 2 ∨ ee = 5) := Lib.hid (by
      have h := HTE.out
      unfold sumT at h
      rw [if_neg hok] at h
      have h2 : (digsT q n).2 = ee := congrArg Prod.snd h
      rw [← h2]
      exact digs_err hok)
    clear hok HTE
    rcases HEE.out with rfl | rfl
    · have hcall := alive_any _ ((HTAB.out.on HB.out).up HB.out.size)
      have HCALL := Lib.hid hcall
      clear hcall
      go_wp2_with (go_at_call 8; refine HCALL.out.mono ?_; intro e x4 hx; obtain ⟨rfl, hb⟩ := hx; refine Hid.out ?_)
      refine Lib.hid ?_
      have HBx := Lib.hid (HB.out.trans (hb.mono HB.out.size))
      clear HB
      have HB := HBx
      clear HBx
      have Hx := Lib.hid (HT.out.ext hb)
      clear HT
      have HT := Hx
      clear Hx
      have Hx := Lib.hid (HU.out.ext hb)
      clear HU
      have HU := Hx
      clear Hx
      have Hx := Lib.hid (HP.out.below hb HP.out.lt)
      clear HP
      have HP := Hx
      clear Hx
      clear hb HCALL
      go_wp2
      go_ret
      exact ⟨rfl, HB.out⟩
    · have hcall := alive_any _ ((HTAB.out.on HB.out).up HB.out.size)
      have HCALL := Lib.hid hcall
      clear hcall
      go_wp2_with (go_at_call 8; refine HCALL.out.mono ?_; intro e x4 hx; obtain ⟨rfl, hb⟩ := hx; refine Hid.out ?_)
      refine Lib.hid ?_
      have HBx := Lib.hid (HB.out.trans (hb.mono HB.out.size))
      clear HB
      have HB := HBx
      clear HBx
      have Hx := Lib.hid (HT.out.ext hb)
      clear HT
      have HT := Hx
      clear Hx
      have Hx := Lib.hid (HU.out.ext hb)
      clear HU
      have HU := Hx
      clear Hx
      have Hx := Lib.hid (HP.out.below hb HP.out.lt)
      clear HP
      have HP := Hx
      clear Hx
      clear hb HCALL
      go_wp2
      go_ret
      exact ⟨rfl, HB.out⟩
end Go.Proofs.YtmlhkbgifnifdaaDoor
